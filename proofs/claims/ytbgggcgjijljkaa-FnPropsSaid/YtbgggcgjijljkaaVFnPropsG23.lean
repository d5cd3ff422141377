-- PRINTED by print.py (a twelfth state) out of the translation. Not trusted: Lean checks it.
import Derived.Test.YtbgggcgjijljkaaVFnPropsG22
namespace Go.Proofs.Ytbgggcgjijljkaa.Q
open Go.RowKit Go.Proofs.YtbgggcgjijljkaaW.PrintWords Go.Proofs.YtbgggcgjijljkaaW.PrintLast Go.Proofs.YtbgggcgjijljkaaW.PrintMore
attribute [local go_sem] max2_int min2_int max_two min_two max_three min_three max_four min_four   -- for this text's walks alone
set_option linter.unusedVariables false
set_option linter.unusedSimpArgs false
def impl_PropsOk.l0 : Nat → List (S72) → List (S72) → Int → Int → Option (Bool)
 | 0, _, _, _, _ => none
 | k + 1, x0, x5, x6, x7 => if x7 < x6 then (if 0 ≤ x7 then (if x7 < (x5.length : Int) then ((impl_propOk.f k ((rd_T72 x5 x7).f0) ((rd_T72 x5 x7).f1) ((rd_T72 x5 x7).f2)).bind fun t297 => (if t297 = true then (if x7 > 0 then (if 0 ≤ (wrap64 (x7 - 1)) then (if (wrap64 (x7 - 1)) < (x0.length : Int) then ((impl_lessProp.f ((rd_T72 x0 (wrap64 (x7 - 1))).f0) ((rd_T72 x0 (wrap64 (x7 - 1))).f1) ((rd_T72 x0 (wrap64 (x7 - 1))).f2) ((rd_T72 x5 x7).f0) ((rd_T72 x5 x7).f1) ((rd_T72 x5 x7).f2)).bind fun t299 => (if t299 = true then (impl_PropsOk.l0 k x0 x5 x6 (wrap64 (x7 + 1))) else (some false))) else (none)) else (none)) else (impl_PropsOk.l0 k x0 x5 x6 (wrap64 (x7 + 1)))) else (some false))) else (none)) else (none)) else (some (decide ((x0.length : Int) ≤ 4)))
def impl_PropsOk.f (k : Nat) (l0 : List (S72)) : Option (Bool) := impl_PropsOk.l0 k l0 l0 (l0.length : Int) 0
def impl_PropsOk.T4 : Bool × List (List Nat × List Nat) := (true, [([], []), ([0], [0]), ([1], [1]), ([2, 1], [2]), ([3], [3]), ([4, 3], [3, 4]), ([5, 3, 3], [3, 5]), ([6], [6]), ([6], [6]), ([8, 6], [6, 8]), ([7, 9, 6], [6, 7, 9]), ([10, 6], [6, 10]), ([6], [6]), ([11, 12, 6, 6], [6, 11, 12]), ([13, 6], [6, 13]), ([6, 14, 3], [3, 6, 14]), ([3, 15], [3, 15])])
def impl_PropsOk.B4 : List Nat := [0, 1, 3, 7, 15, 31, 63, 127, 127, 383, 1023, 2047, 127, 8191, 16383, 32767, 65535]
theorem impl_PropsOk.tab4 : rtab .any (opsOf Try.f58 4) = impl_PropsOk.T4 := by kernel_rfl
theorem impl_PropsOk.bits4 : waitsOk impl_PropsOk.T4.2 impl_PropsOk.B4 = true := by kernel_rfl
set_option maxHeartbeats 8000000 in
set_option maxRecDepth 100000 in
theorem impl_PropsOk.calls (k : Nat) (A0 : Option Addr) (c0 : Nat) (l0 : List (S72)) (r : Bool) (w : World) (hr0 : Kd.C k72 w A0 l0.length l0) (hc0 : l0.length ≤ c0) (h : impl_PropsOk.f k l0 = some r) :
 Calls Try.prog 58 #[.slice A0 l0.length c0] w fun e w' => e = .returned (.bool r) ∧ Below w.heap.size w w' := by
 have hu72 := Try.underlying72
 have HR0 := Aside0.mk hr0
 have HC0 := Aside0.mk hc0
 clear hr0 hc0
 have HB := A_ (Below.refl w.heap.size w)
 have H : (impl_PropsOk.l0 k l0 l0 (l0.length : Int) 0) = some r := h
 clear h
 have H' := Aside0.mk H
 clear H
 go_enter Try.func58, Try.ntmps58
 go_wp2
 go_loopg [7] k (fun kq v7 w' => ∃ (x7_1 : Int), v7 = .int .i64 x7_1 ∧ Aside0 (impl_PropsOk.l0 kq l0 l0 (l0.length : Int) x7_1 = some r) ∧ Aside0 (kq ≤ k) ∧ Aside0 (Below w.heap.size w w'))
 case atStart => exact ⟨(0), rs_, H', ⟨Nat.le_refl _⟩, ⟨bB_⟩⟩
 case round =>
  clear H'
  obtain ⟨x7_1, rfl, HA, HK1, HB⟩ := hrel
  cases gk with
  | zero => exact absurd HA.out (by simp [impl_PropsOk.l0])
  | succ k1 =>
   have H := HA.out
   clear HA
   simp only [impl_PropsOk.l0] at H
   by_cases c2 : x7_1 < (l0.length : Int)
   rotate_left
   · rw [if_neg c2] at H
     have c2b0 : decide (x7_1 < (l0.length : Int)) = false := decide_eq_false c2
     clear c2
     obtain rfl := Option.some.inj H
     go_wp2
     go_ret
     exact ⟨rr_, bB_⟩
   rw [if_pos c2] at H
   have c2b0 : decide (x7_1 < (l0.length : Int)) = true := decide_eq_true c2
   clear c2
   by_cases c3 : 0 ≤ x7_1
   rotate_left
   · exact absurd H (by rw [if_neg c3]; simp)
   rw [if_pos c3] at H
   have c3b0 : decide (0 ≤ x7_1) = true := decide_eq_true c3
   clear c3
   by_cases c4 : x7_1 < (l0.length : Int)
   rotate_left
   · exact absurd H (by rw [if_neg c4]; simp)
   rw [if_pos c4] at H
   have c4b0 : decide (x7_1 < (l0.length : Int)) = true := decide_eq_true c4
   clear c4
   obtain ⟨t297, A5, H⟩ := bo_ H
   (try dsimp only at H)
   by_cases c6 : t297 = true
   · subst c6
     rw [if_pos rfl] at H
     by_cases c7 : x7_1 > 0
     rotate_left
     · rw [if_neg c7] at H
       have c7b0 : decide (0 < x7_1) = false := decide_eq_false c7
       clear c7
       have H' := Aside0.mk H
       clear H
       have p295 : 0 ≤ (x7_1 : Int) := of_decide_eq_true as_
       have q295 : x7_1 < (l0.length : Int) := of_decide_eq_true as_
       obtain ⟨ad295, e295, hx295_0, hx295_1, hx295_2⟩ := at_T72 HR0.out x7_1 p295 q295
       cases e295
       replace hx295_0 := bc_ HB.out hx295_0
       replace hx295_1 := bc_ HB.out hx295_1
       replace hx295_2 := bc_ HB.out hx295_2
       replace p295 := eq_true p295
       replace q295 := eq_true q295
       try go_wp2_with (first | ((with_reducible refine gate_dst (N := 4) rfl ?_); refine bx_ (N := 4) (cs := #[.string (⟨#[]⟩ : ByteArray), .string (⟨#[]⟩ : ByteArray), .string (⟨#[]⟩ : ByteArray)]) (t := 72) ?_; intro gb296 hg w25 hbox hb; have BK296 := A_ (hbox); have GW296 := A_ (ge_ hg bB_ : w.heap.size ≤ gb296); have GE296 := A_ (ge_ hg bB_ : w.heap.size ≤ gb296); replace HB := A_ (below_step bB_ hb); clear hb hbox hg; obtain ⟨hcz26_0, hcz26_1, hcz26_2, hfz26_0, hfz26_1, hfz26_2⟩ := cz3_ BK296.out))
       have n0_ : Aside0 ((((w25.setCell ⟨gb296, 0, none⟩ (.string ((rd_T72 l0 x7_1).f0))).setCell ⟨gb296, 1, none⟩ (.string ((rd_T72 l0 x7_1).f1))).setCell ⟨gb296, 2, none⟩ (.string ((rd_T72 l0 x7_1).f2))).heap[gb296]? = some (.cells #[.string ((rd_T72 l0 x7_1).f0), .string ((rd_T72 l0 x7_1).f1), .string ((rd_T72 l0 x7_1).f2)] 72 (0, 0))) := ⟨by (with_reducible repeat (first | refine blk_drewN ?_ _ | refine blk_drew ?_ | refine blk_alloc ?_ _)); refine blk_put (cs := #[.string ((rd_T72 l0 x7_1).f0), .string ((rd_T72 l0 x7_1).f1), .string (⟨#[]⟩ : ByteArray)]) ?_ 2 _ rfl; (with_reducible repeat (first | refine blk_drewN ?_ _ | refine blk_drew ?_ | refine blk_alloc ?_ _)); refine blk_put (cs := #[.string ((rd_T72 l0 x7_1).f0), .string (⟨#[]⟩ : ByteArray), .string (⟨#[]⟩ : ByteArray)]) ?_ 1 _ rfl; (with_reducible repeat (first | refine blk_drewN ?_ _ | refine blk_drew ?_ | refine blk_alloc ?_ _)); refine blk_put (cs := #[.string (⟨#[]⟩ : ByteArray), .string (⟨#[]⟩ : ByteArray), .string (⟨#[]⟩ : ByteArray)]) ?_ 0 _ rfl; (with_reducible repeat (first | refine blk_drewN ?_ _ | refine blk_drew ?_ | refine blk_alloc ?_ _)); exact BK296.out⟩
       have n1_ : Aside0 (Below w.heap.size w (((w25.setCell ⟨gb296, 0, none⟩ (.string ((rd_T72 l0 x7_1).f0))).setCell ⟨gb296, 1, none⟩ (.string ((rd_T72 l0 x7_1).f1))).setCell ⟨gb296, 2, none⟩ (.string ((rd_T72 l0 x7_1).f2)))) := ⟨bG_ GE296.out⟩
       (try clear BK296)
       (try clear HB)
       generalize (((w25.setCell ⟨gb296, 0, none⟩ (.string ((rd_T72 l0 x7_1).f0))).setCell ⟨gb296, 1, none⟩ (.string ((rd_T72 l0 x7_1).f1))).setCell ⟨gb296, 2, none⟩ (.string ((rd_T72 l0 x7_1).f2))) = w27 at n0_ n1_ ⊢
       have BK296 := n0_
       have HB := n1_
       clear n0_ n1_
       replace BK296 := A_ (blk_drew BK296.out)
       replace HB := A_ (below_drew1 HB.out)
       refine start_ (n := 17) (S := fun w' => w'.cell? ⟨gb296, 0, none⟩ = some (.string ((rd_T72 l0 x7_1).f0)) ∧ w'.cell? ⟨gb296, 1, none⟩ = some (.string ((rd_T72 l0 x7_1).f1)) ∧ w'.cell? ⟨gb296, 2, none⟩ = some (.string ((rd_T72 l0 x7_1).f2))) (ds := []) #[false, false, false, false, false, false, false, false, false, false, false, false, false, false, false, false, false] (by kernel_rfl) rfl rfl (hl_ BK296.out) (fun hHeld => ?_); refine with_tabW impl_PropsOk.tab4 impl_PropsOk.bits4 (fun HT_ HW_ => ?_)
       generalize w27.drew = w28 at BK296 HB hHeld ⊢
       refine tk_ (i := 0) (N := some 12) hHeld ?_
       refine on_ (i := 1) (N := some 13) (fun K hK => ?_)
       refine goes_ Try.func93 (by kernel_rfl) rfl #[.agg #[.string ((rd_T72 l0 x7_1).f0), .string ((rd_T72 l0 x7_1).f1), .string ((rd_T72 l0 x7_1).f2)]] (by rfl) rfl rfl ml_ ?_
       with_reducible refine (impl_propOk.calls k1 ((rd_T72 l0 x7_1).f0) ((rd_T72 l0 x7_1).f1) ((rd_T72 l0 x7_1).f2) true _ A5.out).mono ?_
       rintro e w29 ⟨rfl, hb⟩
       refine ⟨_, rfl, ?_⟩
       replace BK296 := A_ (bw_ BK296.out hb)
       replace HB := A_ (below_step (bG_ GE296.out) hb)
       (try clear hb)
       (try clear hb2)
       (try clear hk)
       (try clear hi)
       refine hK.out _ _ (hl_ BK296.out) (fun hHeld => ?_)
       clear hK K
       refine no_ (some 13) ?_
       refine pu_ (i := 2) (N := some 14) ?_
       refine pu_ (i := 3) (N := some 15) ?_
       refine pu_ (i := 4) (N := some 16) ?_
       refine pu_ (i := 5) (N := some 17) ?_
       refine pu_ (i := 6) (N := some 18) ?_
       refine pn_ (i := 7) (N := some 19) ?_
       refine pn_ (i := 8) (N := some 20) ?_
       refine pn_ (i := 9) (N := some 21) ?_
       refine pn_ (i := 10) (N := some 22) ?_
       refine pn_ (i := 11) (N := some 23) ?_
       refine pn_ (i := 12) (N := some 24) ?_
       refine pn_ (i := 13) (N := some 25) ?_
       refine pn_ (i := 14) (N := some 26) ?_
       refine pu_ (i := 15) (N := some 27) ?_
       refine pu_ (i := 16) (N := some 28) ?_
       refine done_ (done_of HT_.out (by kernel_rfl)) ?_
       (try clear hHeld)
       try go_wp2
       go_roundg k1
       case measure => have := HK1.out; omega
       case rel => exact ⟨(wrap64 (x7_1 + 1)), rs_, H', ⟨by have := HK1.out; omega⟩, ⟨bG_ GE296.out⟩⟩
     rw [if_pos c7] at H
     have c7b0 : decide (0 < x7_1) = true := decide_eq_true c7
     clear c7
     obtain ⟨ji8, hji8⟩ : ∃ j_ : Int, (wrap64 (x7_1 - 1)) = j_ := ⟨_, rfl⟩
     replace H : (if 0 ≤ (ji8) then (if (ji8) < (l0.length : Int) then ((impl_lessProp.f ((rd_T72 l0 (ji8)).f0) ((rd_T72 l0 (ji8)).f1) ((rd_T72 l0 (ji8)).f2) ((rd_T72 l0 x7_1).f0) ((rd_T72 l0 x7_1).f1) ((rd_T72 l0 x7_1).f2)).bind fun t299 => (if t299 = true then (impl_PropsOk.l0 k1 l0 l0 (l0.length : Int) (wrap64 (x7_1 + 1))) else (some false))) else (none)) else (none)) = some r := by first | (rw [hji8] at H; exact H) | (simp only [hji8] at H ⊢; exact H)
     (try rw [hji8] at A5)
     have hji8w : (IntKind.i64.wrap (x7_1 - 1)) = ji8 := (i64_w _).trans hji8
     by_cases c9 : 0 ≤ (ji8)
     rotate_left
     · exact absurd H (by rw [if_neg c9]; simp)
     rw [if_pos c9] at H
     have c9b0 : decide (0 ≤ (ji8)) = true := decide_eq_true c9
     clear c9
     by_cases c10 : (ji8) < (l0.length : Int)
     rotate_left
     · exact absurd H (by rw [if_neg c10]; simp)
     rw [if_pos c10] at H
     have c10b0 : decide ((ji8) < (l0.length : Int)) = true := decide_eq_true c10
     clear c10
     obtain ⟨t299, A11, H⟩ := bo_ H
     (try dsimp only at H)
     by_cases c12 : t299 = true
     · subst c12
       rw [if_pos rfl] at H
       have H' := Aside0.mk H
       clear H
       have p295 : 0 ≤ (x7_1 : Int) := of_decide_eq_true as_
       have q295 : x7_1 < (l0.length : Int) := of_decide_eq_true as_
       obtain ⟨ad295, e295, hx295_0, hx295_1, hx295_2⟩ := at_T72 HR0.out x7_1 p295 q295
       cases e295
       replace hx295_0 := bc_ HB.out hx295_0
       replace hx295_1 := bc_ HB.out hx295_1
       replace hx295_2 := bc_ HB.out hx295_2
       replace p295 := eq_true p295
       replace q295 := eq_true q295
       try go_wp2_with (first | ((with_reducible refine gate_dst (N := 4) rfl ?_); refine bx_ (N := 4) (cs := #[.string (⟨#[]⟩ : ByteArray), .string (⟨#[]⟩ : ByteArray), .string (⟨#[]⟩ : ByteArray)]) (t := 72) ?_; intro gb296 hg w13 hbox hb; have BK296 := A_ (hbox); have GW296 := A_ (ge_ hg bB_ : w.heap.size ≤ gb296); have GE296 := A_ (ge_ hg bB_ : w.heap.size ≤ gb296); replace HB := A_ (below_step bB_ hb); clear hb hbox hg; obtain ⟨hcz14_0, hcz14_1, hcz14_2, hfz14_0, hfz14_1, hfz14_2⟩ := cz3_ BK296.out))
       have n0_ : Aside0 ((((w13.setCell ⟨gb296, 0, none⟩ (.string ((rd_T72 l0 x7_1).f0))).setCell ⟨gb296, 1, none⟩ (.string ((rd_T72 l0 x7_1).f1))).setCell ⟨gb296, 2, none⟩ (.string ((rd_T72 l0 x7_1).f2))).heap[gb296]? = some (.cells #[.string ((rd_T72 l0 x7_1).f0), .string ((rd_T72 l0 x7_1).f1), .string ((rd_T72 l0 x7_1).f2)] 72 (0, 0))) := ⟨by (with_reducible repeat (first | refine blk_drewN ?_ _ | refine blk_drew ?_ | refine blk_alloc ?_ _)); refine blk_put (cs := #[.string ((rd_T72 l0 x7_1).f0), .string ((rd_T72 l0 x7_1).f1), .string (⟨#[]⟩ : ByteArray)]) ?_ 2 _ rfl; (with_reducible repeat (first | refine blk_drewN ?_ _ | refine blk_drew ?_ | refine blk_alloc ?_ _)); refine blk_put (cs := #[.string ((rd_T72 l0 x7_1).f0), .string (⟨#[]⟩ : ByteArray), .string (⟨#[]⟩ : ByteArray)]) ?_ 1 _ rfl; (with_reducible repeat (first | refine blk_drewN ?_ _ | refine blk_drew ?_ | refine blk_alloc ?_ _)); refine blk_put (cs := #[.string (⟨#[]⟩ : ByteArray), .string (⟨#[]⟩ : ByteArray), .string (⟨#[]⟩ : ByteArray)]) ?_ 0 _ rfl; (with_reducible repeat (first | refine blk_drewN ?_ _ | refine blk_drew ?_ | refine blk_alloc ?_ _)); exact BK296.out⟩
       have n1_ : Aside0 (Below w.heap.size w (((w13.setCell ⟨gb296, 0, none⟩ (.string ((rd_T72 l0 x7_1).f0))).setCell ⟨gb296, 1, none⟩ (.string ((rd_T72 l0 x7_1).f1))).setCell ⟨gb296, 2, none⟩ (.string ((rd_T72 l0 x7_1).f2)))) := ⟨bG_ GE296.out⟩
       (try clear BK296)
       (try clear HB)
       generalize (((w13.setCell ⟨gb296, 0, none⟩ (.string ((rd_T72 l0 x7_1).f0))).setCell ⟨gb296, 1, none⟩ (.string ((rd_T72 l0 x7_1).f1))).setCell ⟨gb296, 2, none⟩ (.string ((rd_T72 l0 x7_1).f2))) = w15 at n0_ n1_ ⊢
       have BK296 := n0_
       have HB := n1_
       clear n0_ n1_
       replace BK296 := A_ (blk_drew BK296.out)
       replace HB := A_ (below_drew1 HB.out)
       have p298 : 0 ≤ ((ji8) : Int) := of_decide_eq_true as_
       have q298 : (ji8) < (l0.length : Int) := of_decide_eq_true as_
       obtain ⟨ad298, e298, hx298_0, hx298_1, hx298_2⟩ := at_T72 HR0.out (ji8) p298 q298
       have hw298_2 := hx298_2
       have hw298_1 := hx298_1
       have hw298_0 := hx298_0
       obtain rfl : ad295 = ad298 := (by injection e298)
       replace hx298_0 := bc_ HB.out hx298_0
       replace hx298_1 := bc_ HB.out hx298_1
       replace hx298_2 := bc_ HB.out hx298_2
       replace p298 := eq_true p298
       replace q298 := eq_true q298
       refine start_ (n := 17) (S := fun w' => w'.cell? ⟨gb296, 0, none⟩ = some (.string ((rd_T72 l0 x7_1).f0)) ∧ w'.cell? ⟨gb296, 1, none⟩ = some (.string ((rd_T72 l0 x7_1).f1)) ∧ w'.cell? ⟨gb296, 2, none⟩ = some (.string ((rd_T72 l0 x7_1).f2)) ∧ w'.cell? (ad295.add (((ji8)).toNat * 3)) = some (.string ((rd_T72 l0 (ji8)).f0)) ∧ w'.cell? ⟨(ad295.add (((ji8)).toNat * 3)).block, (ad295.add (((ji8)).toNat * 3)).off + 1, none⟩ = some (.string ((rd_T72 l0 (ji8)).f1)) ∧ w'.cell? ⟨(ad295.add (((ji8)).toNat * 3)).block, (ad295.add (((ji8)).toNat * 3)).off + 2, none⟩ = some (.string ((rd_T72 l0 (ji8)).f2))) (ds := []) #[false, false, false, false, false, false, false, false, false, false, false, false, false, false, false, false, false] (by kernel_rfl) rfl rfl ⟨(blk_cell BK296.out 0).trans rfl, (blk_cell BK296.out 1).trans rfl, (blk_cell BK296.out 2).trans rfl, ((HB.out.cell (World.block_lt_of_cell? w _ hw298_0)).trans hw298_0), ((HB.out.cell (World.block_lt_of_cell? w _ hw298_1)).trans hw298_1), ((HB.out.cell (World.block_lt_of_cell? w _ hw298_2)).trans hw298_2)⟩ (fun hHeld => ?_); refine with_tabW impl_PropsOk.tab4 impl_PropsOk.bits4 (fun HT_ HW_ => ?_)
       generalize w15.drew = w16 at BK296 HB hx298_0 hx298_1 hx298_2 hHeld ⊢
       refine tk_ (i := 0) (N := some 12) hHeld ?_
       refine on_ (i := 1) (N := some 13) (fun K hK => ?_)
       refine goes_ Try.func93 (by kernel_rfl) rfl #[.agg #[.string ((rd_T72 l0 x7_1).f0), .string ((rd_T72 l0 x7_1).f1), .string ((rd_T72 l0 x7_1).f2)]] (by rfl) rfl rfl ml_ ?_
       with_reducible refine (impl_propOk.calls k1 ((rd_T72 l0 x7_1).f0) ((rd_T72 l0 x7_1).f1) ((rd_T72 l0 x7_1).f2) true _ A5.out).mono ?_
       rintro e w17 ⟨rfl, hb⟩
       refine ⟨_, rfl, ?_⟩
       replace BK296 := A_ (bw_ BK296.out hb)
       replace HB := A_ (below_step (bG_ GE296.out) hb)
       (try clear hb)
       (try clear hb2)
       (try clear hk)
       (try clear hi)
       refine hK.out _ _ ⟨(blk_cell BK296.out 0).trans rfl, (blk_cell BK296.out 1).trans rfl, (blk_cell BK296.out 2).trans rfl, ((HB.out.cell (World.block_lt_of_cell? w _ hw298_0)).trans hw298_0), ((HB.out.cell (World.block_lt_of_cell? w _ hw298_1)).trans hw298_1), ((HB.out.cell (World.block_lt_of_cell? w _ hw298_2)).trans hw298_2)⟩ (fun hHeld => ?_)
       clear hK K
       refine no_ (some 13) ?_
       refine pu_ (i := 2) (N := some 14) ?_
       refine pu_ (i := 3) (N := some 15) ?_
       refine pu_ (i := 4) (N := some 16) ?_
       refine pu_ (i := 5) (N := some 17) ?_
       refine pu_ (i := 6) (N := some 18) ?_
       refine pu_ (i := 7) (N := some 19) ?_
       refine pu_ (i := 8) (N := some 20) ?_
       refine pu_ (i := 9) (N := some 21) ?_
       refine pu_ (i := 10) (N := some 22) ?_
       refine tk_ (i := 11) (N := some 23) hHeld ?_
       refine tk_ (i := 12) (N := some 24) hHeld ?_
       refine on_ (i := 13) (N := some 25) (fun K hK => ?_)
       refine goes_ Try.func100 (by kernel_rfl) rfl #[.agg #[.string ((rd_T72 l0 (ji8)).f0), .string ((rd_T72 l0 (ji8)).f1), .string ((rd_T72 l0 (ji8)).f2)], .agg #[.string ((rd_T72 l0 x7_1).f0), .string ((rd_T72 l0 x7_1).f1), .string ((rd_T72 l0 x7_1).f2)]] (by rfl) rfl rfl (by (try simp only [List.map_toArray, List.map_cons, List.map_nil]); first | done | (simp only [hji8]; rfl) | rfl | (simp only [List.length_drop, List.length_take]; rfl)) ?_
       with_reducible refine (impl_lessProp.calls ((rd_T72 l0 (ji8)).f0) ((rd_T72 l0 (ji8)).f1) ((rd_T72 l0 (ji8)).f2) ((rd_T72 l0 x7_1).f0) ((rd_T72 l0 x7_1).f1) ((rd_T72 l0 x7_1).f2) true _ A11.out).mono ?_
       rintro e w18 ⟨rfl, hb⟩
       refine ⟨_, rfl, ?_⟩
       replace BK296 := A_ (bw_ BK296.out hb)
       replace HB := A_ (below_step (bG_ GE296.out) hb)
       (try clear hb)
       (try clear hb2)
       (try clear hk)
       (try clear hi)
       refine hK.out _ _ ⟨(blk_cell BK296.out 0).trans rfl, (blk_cell BK296.out 1).trans rfl, (blk_cell BK296.out 2).trans rfl, ((HB.out.cell (World.block_lt_of_cell? w _ hw298_0)).trans hw298_0), ((HB.out.cell (World.block_lt_of_cell? w _ hw298_1)).trans hw298_1), ((HB.out.cell (World.block_lt_of_cell? w _ hw298_2)).trans hw298_2)⟩ (fun hHeld => ?_)
       clear hK K
       refine no_ (some 25) ?_
       refine pu_ (i := 14) (N := some 26) ?_
       refine pu_ (i := 15) (N := some 27) ?_
       refine pu_ (i := 16) (N := some 28) ?_
       refine done_ (done_of HT_.out (by kernel_rfl)) ?_
       (try clear hHeld)
       try go_wp2
       go_roundg k1
       case measure => have := HK1.out; omega
       case rel => exact ⟨(wrap64 (x7_1 + 1)), rs_, H', ⟨by have := HK1.out; omega⟩, ⟨bG_ GE296.out⟩⟩
     · replace c12 := Bool.eq_false_iff.mpr c12
       subst c12
       rw [if_neg nf_] at H
       obtain rfl := Option.some.inj H
       have p295 : 0 ≤ (x7_1 : Int) := of_decide_eq_true as_
       have q295 : x7_1 < (l0.length : Int) := of_decide_eq_true as_
       obtain ⟨ad295, e295, hx295_0, hx295_1, hx295_2⟩ := at_T72 HR0.out x7_1 p295 q295
       cases e295
       replace hx295_0 := bc_ HB.out hx295_0
       replace hx295_1 := bc_ HB.out hx295_1
       replace hx295_2 := bc_ HB.out hx295_2
       replace p295 := eq_true p295
       replace q295 := eq_true q295
       try go_wp2_with (first | ((with_reducible refine gate_dst (N := 4) rfl ?_); refine bx_ (N := 4) (cs := #[.string (⟨#[]⟩ : ByteArray), .string (⟨#[]⟩ : ByteArray), .string (⟨#[]⟩ : ByteArray)]) (t := 72) ?_; intro gb296 hg w19 hbox hb; have BK296 := A_ (hbox); have GW296 := A_ (ge_ hg bB_ : w.heap.size ≤ gb296); have GE296 := A_ (ge_ hg bB_ : w.heap.size ≤ gb296); replace HB := A_ (below_step bB_ hb); clear hb hbox hg; obtain ⟨hcz20_0, hcz20_1, hcz20_2, hfz20_0, hfz20_1, hfz20_2⟩ := cz3_ BK296.out))
       have n0_ : Aside0 ((((w19.setCell ⟨gb296, 0, none⟩ (.string ((rd_T72 l0 x7_1).f0))).setCell ⟨gb296, 1, none⟩ (.string ((rd_T72 l0 x7_1).f1))).setCell ⟨gb296, 2, none⟩ (.string ((rd_T72 l0 x7_1).f2))).heap[gb296]? = some (.cells #[.string ((rd_T72 l0 x7_1).f0), .string ((rd_T72 l0 x7_1).f1), .string ((rd_T72 l0 x7_1).f2)] 72 (0, 0))) := ⟨by (with_reducible repeat (first | refine blk_drewN ?_ _ | refine blk_drew ?_ | refine blk_alloc ?_ _)); refine blk_put (cs := #[.string ((rd_T72 l0 x7_1).f0), .string ((rd_T72 l0 x7_1).f1), .string (⟨#[]⟩ : ByteArray)]) ?_ 2 _ rfl; (with_reducible repeat (first | refine blk_drewN ?_ _ | refine blk_drew ?_ | refine blk_alloc ?_ _)); refine blk_put (cs := #[.string ((rd_T72 l0 x7_1).f0), .string (⟨#[]⟩ : ByteArray), .string (⟨#[]⟩ : ByteArray)]) ?_ 1 _ rfl; (with_reducible repeat (first | refine blk_drewN ?_ _ | refine blk_drew ?_ | refine blk_alloc ?_ _)); refine blk_put (cs := #[.string (⟨#[]⟩ : ByteArray), .string (⟨#[]⟩ : ByteArray), .string (⟨#[]⟩ : ByteArray)]) ?_ 0 _ rfl; (with_reducible repeat (first | refine blk_drewN ?_ _ | refine blk_drew ?_ | refine blk_alloc ?_ _)); exact BK296.out⟩
       have n1_ : Aside0 (Below w.heap.size w (((w19.setCell ⟨gb296, 0, none⟩ (.string ((rd_T72 l0 x7_1).f0))).setCell ⟨gb296, 1, none⟩ (.string ((rd_T72 l0 x7_1).f1))).setCell ⟨gb296, 2, none⟩ (.string ((rd_T72 l0 x7_1).f2)))) := ⟨bG_ GE296.out⟩
       (try clear BK296)
       (try clear HB)
       generalize (((w19.setCell ⟨gb296, 0, none⟩ (.string ((rd_T72 l0 x7_1).f0))).setCell ⟨gb296, 1, none⟩ (.string ((rd_T72 l0 x7_1).f1))).setCell ⟨gb296, 2, none⟩ (.string ((rd_T72 l0 x7_1).f2))) = w21 at n0_ n1_ ⊢
       have BK296 := n0_
       have HB := n1_
       clear n0_ n1_
       replace BK296 := A_ (blk_drew BK296.out)
       replace HB := A_ (below_drew1 HB.out)
       have p298 : 0 ≤ ((ji8) : Int) := of_decide_eq_true as_
       have q298 : (ji8) < (l0.length : Int) := of_decide_eq_true as_
       obtain ⟨ad298, e298, hx298_0, hx298_1, hx298_2⟩ := at_T72 HR0.out (ji8) p298 q298
       have hw298_2 := hx298_2
       have hw298_1 := hx298_1
       have hw298_0 := hx298_0
       obtain rfl : ad295 = ad298 := (by injection e298)
       replace hx298_0 := bc_ HB.out hx298_0
       replace hx298_1 := bc_ HB.out hx298_1
       replace hx298_2 := bc_ HB.out hx298_2
       replace p298 := eq_true p298
       replace q298 := eq_true q298
       refine start_ (n := 17) (S := fun w' => w'.cell? ⟨gb296, 0, none⟩ = some (.string ((rd_T72 l0 x7_1).f0)) ∧ w'.cell? ⟨gb296, 1, none⟩ = some (.string ((rd_T72 l0 x7_1).f1)) ∧ w'.cell? ⟨gb296, 2, none⟩ = some (.string ((rd_T72 l0 x7_1).f2)) ∧ w'.cell? (ad295.add (((ji8)).toNat * 3)) = some (.string ((rd_T72 l0 (ji8)).f0)) ∧ w'.cell? ⟨(ad295.add (((ji8)).toNat * 3)).block, (ad295.add (((ji8)).toNat * 3)).off + 1, none⟩ = some (.string ((rd_T72 l0 (ji8)).f1)) ∧ w'.cell? ⟨(ad295.add (((ji8)).toNat * 3)).block, (ad295.add (((ji8)).toNat * 3)).off + 2, none⟩ = some (.string ((rd_T72 l0 (ji8)).f2))) (ds := []) #[false, false, false, false, false, false, false, false, false, false, false, false, false, false, false, false, false] (by kernel_rfl) rfl rfl ⟨(blk_cell BK296.out 0).trans rfl, (blk_cell BK296.out 1).trans rfl, (blk_cell BK296.out 2).trans rfl, ((HB.out.cell (World.block_lt_of_cell? w _ hw298_0)).trans hw298_0), ((HB.out.cell (World.block_lt_of_cell? w _ hw298_1)).trans hw298_1), ((HB.out.cell (World.block_lt_of_cell? w _ hw298_2)).trans hw298_2)⟩ (fun hHeld => ?_); refine with_tabW impl_PropsOk.tab4 impl_PropsOk.bits4 (fun HT_ HW_ => ?_)
       generalize w21.drew = w22 at BK296 HB hx298_0 hx298_1 hx298_2 hHeld ⊢
       refine tk_ (i := 0) (N := some 12) hHeld ?_
       refine on_ (i := 1) (N := some 13) (fun K hK => ?_)
       refine goes_ Try.func93 (by kernel_rfl) rfl #[.agg #[.string ((rd_T72 l0 x7_1).f0), .string ((rd_T72 l0 x7_1).f1), .string ((rd_T72 l0 x7_1).f2)]] (by rfl) rfl rfl ml_ ?_
       with_reducible refine (impl_propOk.calls k1 ((rd_T72 l0 x7_1).f0) ((rd_T72 l0 x7_1).f1) ((rd_T72 l0 x7_1).f2) true _ A5.out).mono ?_
       rintro e w23 ⟨rfl, hb⟩
       refine ⟨_, rfl, ?_⟩
       replace BK296 := A_ (bw_ BK296.out hb)
       replace HB := A_ (below_step (bG_ GE296.out) hb)
       (try clear hb)
       (try clear hb2)
       (try clear hk)
       (try clear hi)
       refine hK.out _ _ ⟨(blk_cell BK296.out 0).trans rfl, (blk_cell BK296.out 1).trans rfl, (blk_cell BK296.out 2).trans rfl, ((HB.out.cell (World.block_lt_of_cell? w _ hw298_0)).trans hw298_0), ((HB.out.cell (World.block_lt_of_cell? w _ hw298_1)).trans hw298_1), ((HB.out.cell (World.block_lt_of_cell? w _ hw298_2)).trans hw298_2)⟩ (fun hHeld => ?_)
       clear hK K
       refine no_ (some 13) ?_
       refine pu_ (i := 2) (N := some 14) ?_
       refine pu_ (i := 3) (N := some 15) ?_
       refine pu_ (i := 4) (N := some 16) ?_
       refine pu_ (i := 5) (N := some 17) ?_
       refine pu_ (i := 6) (N := some 18) ?_
       refine pu_ (i := 7) (N := some 19) ?_
       refine pu_ (i := 8) (N := some 20) ?_
       refine pu_ (i := 9) (N := some 21) ?_
       refine pu_ (i := 10) (N := some 22) ?_
       refine tk_ (i := 11) (N := some 23) hHeld ?_
       refine tk_ (i := 12) (N := some 24) hHeld ?_
       refine on_ (i := 13) (N := some 25) (fun K hK => ?_)
       refine goes_ Try.func100 (by kernel_rfl) rfl #[.agg #[.string ((rd_T72 l0 (ji8)).f0), .string ((rd_T72 l0 (ji8)).f1), .string ((rd_T72 l0 (ji8)).f2)], .agg #[.string ((rd_T72 l0 x7_1).f0), .string ((rd_T72 l0 x7_1).f1), .string ((rd_T72 l0 x7_1).f2)]] (by rfl) rfl rfl (by (try simp only [List.map_toArray, List.map_cons, List.map_nil]); first | done | (simp only [hji8]; rfl) | rfl | (simp only [List.length_drop, List.length_take]; rfl)) ?_
       with_reducible refine (impl_lessProp.calls ((rd_T72 l0 (ji8)).f0) ((rd_T72 l0 (ji8)).f1) ((rd_T72 l0 (ji8)).f2) ((rd_T72 l0 x7_1).f0) ((rd_T72 l0 x7_1).f1) ((rd_T72 l0 x7_1).f2) false _ A11.out).mono ?_
       rintro e w24 ⟨rfl, hb⟩
       refine ⟨_, rfl, ?_⟩
       replace BK296 := A_ (bw_ BK296.out hb)
       replace HB := A_ (below_step (bG_ GE296.out) hb)
       (try clear hb)
       (try clear hb2)
       (try clear hk)
       (try clear hi)
       refine hK.out _ _ ⟨(blk_cell BK296.out 0).trans rfl, (blk_cell BK296.out 1).trans rfl, (blk_cell BK296.out 2).trans rfl, ((HB.out.cell (World.block_lt_of_cell? w _ hw298_0)).trans hw298_0), ((HB.out.cell (World.block_lt_of_cell? w _ hw298_1)).trans hw298_1), ((HB.out.cell (World.block_lt_of_cell? w _ hw298_2)).trans hw298_2)⟩ (fun hHeld => ?_)
       clear hK K
       refine no_ (some 25) ?_
       refine pu_ (i := 14) (N := some 26) ?_
       refine pu_ (i := 15) (N := some 27) ?_
       refine pu_ (i := 16) (N := some 28) ?_
       refine done_ (done_of HT_.out (by kernel_rfl)) ?_
       (try clear hHeld)
       try go_wp2
       go_ret
       exact ⟨by first | rfl | (simp [errW_none, errW_some] <;> rfl) | (simp only [← hji8]; first | rfl | (simp [errW_none, errW_some] <;> rfl)) | (simp [*, errW_none, errW_some] <;> rfl), bG_ GE296.out⟩
   · replace c6 := Bool.eq_false_iff.mpr c6
     subst c6
     rw [if_neg nf_] at H
     obtain rfl := Option.some.inj H
     have p295 : 0 ≤ (x7_1 : Int) := of_decide_eq_true as_
     have q295 : x7_1 < (l0.length : Int) := of_decide_eq_true as_
     obtain ⟨ad295, e295, hx295_0, hx295_1, hx295_2⟩ := at_T72 HR0.out x7_1 p295 q295
     cases e295
     replace hx295_0 := bc_ HB.out hx295_0
     replace hx295_1 := bc_ HB.out hx295_1
     replace hx295_2 := bc_ HB.out hx295_2
     replace p295 := eq_true p295
     replace q295 := eq_true q295
     try go_wp2_with (first | ((with_reducible refine gate_dst (N := 4) rfl ?_); refine bx_ (N := 4) (cs := #[.string (⟨#[]⟩ : ByteArray), .string (⟨#[]⟩ : ByteArray), .string (⟨#[]⟩ : ByteArray)]) (t := 72) ?_; intro gb296 hg w30 hbox hb; have BK296 := A_ (hbox); have GW296 := A_ (ge_ hg bB_ : w.heap.size ≤ gb296); have GE296 := A_ (ge_ hg bB_ : w.heap.size ≤ gb296); replace HB := A_ (below_step bB_ hb); clear hb hbox hg; obtain ⟨hcz31_0, hcz31_1, hcz31_2, hfz31_0, hfz31_1, hfz31_2⟩ := cz3_ BK296.out))
     have n0_ : Aside0 ((((w30.setCell ⟨gb296, 0, none⟩ (.string ((rd_T72 l0 x7_1).f0))).setCell ⟨gb296, 1, none⟩ (.string ((rd_T72 l0 x7_1).f1))).setCell ⟨gb296, 2, none⟩ (.string ((rd_T72 l0 x7_1).f2))).heap[gb296]? = some (.cells #[.string ((rd_T72 l0 x7_1).f0), .string ((rd_T72 l0 x7_1).f1), .string ((rd_T72 l0 x7_1).f2)] 72 (0, 0))) := ⟨by (with_reducible repeat (first | refine blk_drewN ?_ _ | refine blk_drew ?_ | refine blk_alloc ?_ _)); refine blk_put (cs := #[.string ((rd_T72 l0 x7_1).f0), .string ((rd_T72 l0 x7_1).f1), .string (⟨#[]⟩ : ByteArray)]) ?_ 2 _ rfl; (with_reducible repeat (first | refine blk_drewN ?_ _ | refine blk_drew ?_ | refine blk_alloc ?_ _)); refine blk_put (cs := #[.string ((rd_T72 l0 x7_1).f0), .string (⟨#[]⟩ : ByteArray), .string (⟨#[]⟩ : ByteArray)]) ?_ 1 _ rfl; (with_reducible repeat (first | refine blk_drewN ?_ _ | refine blk_drew ?_ | refine blk_alloc ?_ _)); refine blk_put (cs := #[.string (⟨#[]⟩ : ByteArray), .string (⟨#[]⟩ : ByteArray), .string (⟨#[]⟩ : ByteArray)]) ?_ 0 _ rfl; (with_reducible repeat (first | refine blk_drewN ?_ _ | refine blk_drew ?_ | refine blk_alloc ?_ _)); exact BK296.out⟩
     have n1_ : Aside0 (Below w.heap.size w (((w30.setCell ⟨gb296, 0, none⟩ (.string ((rd_T72 l0 x7_1).f0))).setCell ⟨gb296, 1, none⟩ (.string ((rd_T72 l0 x7_1).f1))).setCell ⟨gb296, 2, none⟩ (.string ((rd_T72 l0 x7_1).f2)))) := ⟨bG_ GE296.out⟩
     (try clear BK296)
     (try clear HB)
     generalize (((w30.setCell ⟨gb296, 0, none⟩ (.string ((rd_T72 l0 x7_1).f0))).setCell ⟨gb296, 1, none⟩ (.string ((rd_T72 l0 x7_1).f1))).setCell ⟨gb296, 2, none⟩ (.string ((rd_T72 l0 x7_1).f2))) = w32 at n0_ n1_ ⊢
     have BK296 := n0_
     have HB := n1_
     clear n0_ n1_
     replace BK296 := A_ (blk_drew BK296.out)
     replace HB := A_ (below_drew1 HB.out)
     refine start_ (n := 17) (S := fun w' => w'.cell? ⟨gb296, 0, none⟩ = some (.string ((rd_T72 l0 x7_1).f0)) ∧ w'.cell? ⟨gb296, 1, none⟩ = some (.string ((rd_T72 l0 x7_1).f1)) ∧ w'.cell? ⟨gb296, 2, none⟩ = some (.string ((rd_T72 l0 x7_1).f2))) (ds := []) #[false, false, false, false, false, false, false, false, false, false, false, false, false, false, false, false, false] (by kernel_rfl) rfl rfl (hl_ BK296.out) (fun hHeld => ?_); refine with_tabW impl_PropsOk.tab4 impl_PropsOk.bits4 (fun HT_ HW_ => ?_)
     generalize w32.drew = w33 at BK296 HB hHeld ⊢
     refine tk_ (i := 0) (N := some 12) hHeld ?_
     refine on_ (i := 1) (N := some 13) (fun K hK => ?_)
     refine goes_ Try.func93 (by kernel_rfl) rfl #[.agg #[.string ((rd_T72 l0 x7_1).f0), .string ((rd_T72 l0 x7_1).f1), .string ((rd_T72 l0 x7_1).f2)]] (by rfl) rfl rfl ml_ ?_
     with_reducible refine (impl_propOk.calls k1 ((rd_T72 l0 x7_1).f0) ((rd_T72 l0 x7_1).f1) ((rd_T72 l0 x7_1).f2) false _ A5.out).mono ?_
     rintro e w34 ⟨rfl, hb⟩
     refine ⟨_, rfl, ?_⟩
     replace BK296 := A_ (bw_ BK296.out hb)
     replace HB := A_ (below_step (bG_ GE296.out) hb)
     (try clear hb)
     (try clear hb2)
     (try clear hk)
     (try clear hi)
     refine hK.out _ _ (hl_ BK296.out) (fun hHeld => ?_)
     clear hK K
     refine no_ (some 13) ?_
     refine pu_ (i := 2) (N := some 14) ?_
     refine pu_ (i := 3) (N := some 15) ?_
     refine pn_ (i := 4) (N := some 16) ?_
     refine pn_ (i := 5) (N := some 17) ?_
     refine pn_ (i := 6) (N := some 18) ?_
     refine pn_ (i := 7) (N := some 19) ?_
     refine pn_ (i := 8) (N := some 20) ?_
     refine pn_ (i := 9) (N := some 21) ?_
     refine pn_ (i := 10) (N := some 22) ?_
     refine pn_ (i := 11) (N := some 23) ?_
     refine pn_ (i := 12) (N := some 24) ?_
     refine pn_ (i := 13) (N := some 25) ?_
     refine pn_ (i := 14) (N := some 26) ?_
     refine pn_ (i := 15) (N := some 27) ?_
     refine pu_ (i := 16) (N := some 28) ?_
     refine done_ (done_of HT_.out (by kernel_rfl)) ?_
     (try clear hHeld)
     try go_wp2
     go_ret
     exact ⟨rr_, bG_ GE296.out⟩
mutual
def spec_l12One.l0 : Nat → List (S72) → List (S72) → Bool → Int → Bool → ByteArray → ByteArray → ByteArray → Option ((List (S72)))
 | 0, _, _, _, _, _, _, _, _ => none
 | k + 1, x0, x5, x6, x7, x691000, x691001, x691002, x691003 => if x7 < (x0.length : Int) then (if x6 = true then (spec_l12One.j1 k x0 x5 x6 x7 false x691000 x691001 x691002 x691003) else (if 0 ≤ x7 then ((spec_l10LessProp.f ((rd_T72 x0 x7).f0) ((rd_T72 x0 x7).f1) ((rd_T72 x0 x7).f2) x691001 x691002 x691003).bind fun t698 => (spec_l12One.j1 k x0 x5 x6 x7 (!t698) x691000 x691001 x691002 x691003)) else (none))) else (if x6 = true then (some x5) else (if x5.length < 2932031007402 then (some (x5 ++ [(⟨x691001, x691002, x691003⟩ : S72)])) else (none)))
def spec_l12One.j1 : Nat → List (S72) → List (S72) → Bool → Int → Bool → Bool → ByteArray → ByteArray → ByteArray → Option ((List (S72)))
 | 0, _, _, _, _, _, _, _, _, _ => none
 | k + 1, x0, x5, x6, x7, x28, x691000, x691001, x691002, x691003 => if x28 = true then (if x5.length < 2932031007402 then ((some (x5 ++ [(⟨x691001, x691002, x691003⟩ : S72)] : List (S72))).bind fun y699 => (if 0 ≤ x7 then (if x7 < (x0.length : Int) then (if ((rd_T72 x0 x7).f0).toList = x691001.toList then (if ((rd_T72 x0 x7).f1).toList = x691002.toList then (spec_l12One.l0 k x0 y699 true (wrap64 (x7 + 1)) x691000 x691001 x691002 x691003) else (if y699.length < 2932031007402 then (spec_l12One.l0 k x0 (y699 ++ [(⟨(rd_T72 x0 x7).f0, (rd_T72 x0 x7).f1, (rd_T72 x0 x7).f2⟩ : S72)]) true (wrap64 (x7 + 1)) x691000 x691001 x691002 x691003) else (none))) else (if y699.length < 2932031007402 then (spec_l12One.l0 k x0 (y699 ++ [(⟨(rd_T72 x0 x7).f0, (rd_T72 x0 x7).f1, (rd_T72 x0 x7).f2⟩ : S72)]) true (wrap64 (x7 + 1)) x691000 x691001 x691002 x691003) else (none))) else (none)) else (none))) else (none)) else (if 0 ≤ x7 then (if x7 < (x0.length : Int) then (if ((rd_T72 x0 x7).f0).toList = x691001.toList then (if ((rd_T72 x0 x7).f1).toList = x691002.toList then (spec_l12One.l0 k x0 x5 x6 (wrap64 (x7 + 1)) x691000 x691001 x691002 x691003) else (if x5.length < 2932031007402 then (spec_l12One.l0 k x0 (x5 ++ [(⟨(rd_T72 x0 x7).f0, (rd_T72 x0 x7).f1, (rd_T72 x0 x7).f2⟩ : S72)]) x6 (wrap64 (x7 + 1)) x691000 x691001 x691002 x691003) else (none))) else (if x5.length < 2932031007402 then (spec_l12One.l0 k x0 (x5 ++ [(⟨(rd_T72 x0 x7).f0, (rd_T72 x0 x7).f1, (rd_T72 x0 x7).f2⟩ : S72)]) x6 (wrap64 (x7 + 1)) x691000 x691001 x691002 x691003) else (none))) else (none)) else (none))
end
def spec_l12One.f (k : Nat) (l0 : List (S72)) (a1_0 : Bool) (a1_1 : ByteArray) (a1_2 : ByteArray) (a1_3 : ByteArray) : Option ((List (S72))) := spec_l12One.l0 k l0 (([] : List (S72))) a1_0 0 a1_0 a1_1 a1_2 a1_3
def spec_l12One.T6 : Bool × List (List Nat × List Nat) := (true, [([], []), ([0], [0]), ([1], [1]), ([2], [2]), ([2], [2]), ([3, 4, 2], [2, 3, 4]), ([5, 2], [2, 5]), ([2], [2]), ([7, 2], [2, 7]), ([6, 8, 2, 2], [2, 6, 8]), ([9, 2], [2, 9]), ([2, 10], [2, 10])])
def spec_l12One.B6 : List Nat := [0, 1, 3, 7, 7, 31, 63, 7, 135, 511, 1023, 2047]
theorem spec_l12One.tab6 : rtab .any (opsOf Try.f96 6) = spec_l12One.T6 := by kernel_rfl
theorem spec_l12One.bits6 : waitsOk spec_l12One.T6.2 spec_l12One.B6 = true := by kernel_rfl
def spec_l12One.T9 : Bool × List (List Nat × List Nat) := (true, [([], []), ([], []), ([0, 1], [0, 1]), ([2], [2]), ([3], [3]), ([], []), ([5], [5]), ([6], [6]), ([4, 7], [4, 7]), ([8], [8]), ([9], [9]), ([9], [9]), ([10, 11, 9], [9, 10, 11]), ([12, 9], [9, 12]), ([13, 9], [9, 13]), ([9], [9]), ([15, 9], [9, 15]), ([16, 9], [9, 16]), ([14, 17, 9], [9, 14, 17]), ([9, 18], [9, 18])])
def spec_l12One.B9 : List Nat := [0, 0, 3, 7, 15, 0, 32, 96, 255, 511, 1023, 1023, 4095, 8191, 16383, 1023, 33791, 99327, 262143, 524287]
theorem spec_l12One.tab9 : rtab .any (opsOf Try.f96 9) = spec_l12One.T9 := by kernel_rfl
theorem spec_l12One.bits9 : waitsOk spec_l12One.T9.2 spec_l12One.B9 = true := by kernel_rfl
set_option maxHeartbeats 8000000 in
set_option maxRecDepth 100000 in
theorem spec_l12One.calls (k : Nat) (A0 : Option Addr) (c0 : Nat) (l0 : List (S72)) (a1_0 : Bool) (a1_1 : ByteArray) (a1_2 : ByteArray) (a1_3 : ByteArray) (r : List (S72)) (w : World) (hr0 : Kd.C k72 w A0 l0.length l0) (hc0 : l0.length ≤ c0) (h : spec_l12One.f k l0 a1_0 a1_1 a1_2 a1_3 = some r) :
 Calls Try.prog 96 #[.slice A0 l0.length c0, .agg #[.bool a1_0, .string a1_1, .string a1_2, .string a1_3]] w fun e w' => ∃ v0_ : Value, e = .returned (v0_) ∧ Kd.R k72 72 w' w.heap.size (fun _ => True) v0_ r ∧ Below w.heap.size w w' := by
 have hu74 := Try.underlying74
 have hu72 := Try.underlying72
 have HR0 := Aside0.mk hr0
 have HC0 := Aside0.mk hc0
 clear hr0 hc0
 have HB := A_ (Below.refl w.heap.size w)
 have H : (spec_l12One.l0 k l0 (([] : List (S72))) a1_0 0 a1_0 a1_1 a1_2 a1_3) = some r := h
 clear h
 obtain ⟨y691, hy691⟩ : ∃ y_ : List (S72), y_ = (([] : List (S72))) := ⟨_, rfl⟩
 replace H : (spec_l12One.l0 k l0 y691 a1_0 0 a1_0 a1_1 a1_2 a1_3) = some r := hy_ hy691 H
 have Ny691 := Aside0.mk hy691
 clear hy691
 have H' := Aside0.mk H
 clear H
 go_enter Try.func96, Try.ntmps96
 go_wp2_with (first | ((with_reducible refine gate_dst (N := 3) rfl ?_); refine bx_ (N := 3) (cs := #[.bool a1_0, .string a1_1, .string a1_2, .string a1_3]) (t := 74) ?_; intro gb690 hg w3 hbox hb; have BK690 := A_ (hbox); have GW690 := A_ (ge_ hg bB_ : w.heap.size ≤ gb690); have GE690 := A_ (ge_ hg bB_ : w.heap.size ≤ gb690); replace HB := A_ (below_step bB_ hb); clear hb hbox hg) | ((with_reducible refine gate_dst (N := 8) rfl ?_); refine Kd.R_lit k72 _ 72 ?hg (N := 8) ?hd (xs := ([] : List (S72))) (inner := []) (ok := fun _ => True) (okp := fun _ => True) ?hr ?hp (fun _ hk => hk) trivial (Below.refl _ _) (Nat.le_refl _) (by simp) ?_; (case hd => rfl); (case hg => rfl); (case hr => first | (go_simp; done) | (go_simp; rfl)); (case hp => exact (Reps.none _ _)); intro v692 w4 ho5 hb hg_ hnew_; clear hg_ hnew_; (first | rw [← Ny691.out] at ho5 | (simp only [Int.reduceToNat] at ho5; rw [← Ny691.out] at ho5)); have HO693 := A_ (Kd.R_lower ho5 (below_size (bG_ GE690.out))); replace BK690 := A_ (bw_ BK690.out hb); replace HB := A_ (below_step (bG_ GE690.out) hb); clear hb ho5; obtain ⟨hcz6_0, hcz6_1, hcz6_2, hcz6_3, hfz6_0, hfz6_1, hfz6_2, hfz6_3⟩ := cz4_ BK690.out))
 go_loopg [5, 6, 7] k (fun kq v5 v6 v7 w' => ∃ (x5_1 : List (S72)) (x6_1 : Bool) (x7_1 : Int), v6 = .bool x6_1 ∧ v7 = .int .i64 x7_1 ∧ Aside0 (spec_l12One.l0 kq l0 x5_1 x6_1 x7_1 a1_0 a1_1 a1_2 a1_3 = some r) ∧ Aside0 (kq ≤ k) ∧ Aside0 (Kd.R k72 72 w' w.heap.size (fun _ => True) v5 x5_1) ∧ Aside0 (w'.heap[gb690]? = some (.cells #[.bool a1_0, .string a1_1, .string a1_2, .string a1_3] 74 (0, 0))) ∧ Aside0 (Below w.heap.size w w'))
 case atStart => exact ⟨(y691), (a1_0), (0), rs_, rs_, H', ⟨Nat.le_refl _⟩, ⟨vR_ HO693.out⟩, ⟨vb_ BK690.out⟩, ⟨bG_ GE690.out⟩⟩
 case round =>
  clear H'
  try clear p2
  try clear hcz6_0
  try clear hcz6_1
  try clear hcz6_2
  try clear hcz6_3
  try clear hfz6_0
  try clear hfz6_1
  try clear hfz6_2
  try clear hfz6_3
  obtain ⟨x5_1, x6_1, x7_1, rfl, rfl, HA, HK1, HO_5, BK690, HB⟩ := hrel
  cases gk with
  | zero => exact absurd HA.out (by simp [spec_l12One.l0])
  | succ k1 =>
   have H := HA.out
   clear HA
   simp only [spec_l12One.l0] at H
   by_cases c7 : x7_1 < (l0.length : Int)
   rotate_left
   · rw [if_neg c7] at H
     have c7b0 : decide (x7_1 < (l0.length : Int)) = false := decide_eq_false c7
     clear c7
     by_cases c45 : x6_1 = true
     · subst c45
       rw [if_pos rfl] at H
       obtain rfl := Option.some.inj H
       go_wp2
       go_ret
       exact ⟨_, rr_, by (with_reducible repeat (first | apply Kd.R_alloc | apply Kd.R_drewN | apply Kd.R_drew)); exact HO_5.out, bG_ GE690.out⟩
     · replace c45 := Bool.eq_false_iff.mpr c45
       subst c45
       rw [if_neg nf_] at H
       by_cases c46 : x5_1.length < 2932031007402
       rotate_left
       · exact absurd H (by rw [if_neg c46]; simp)
       rw [if_pos c46] at H
       have LMc46 := Aside0.mk c46
       clear c46
       obtain ⟨y694, hy694⟩ : ∃ y_ : List (S72), y_ = (x5_1 ++ [(⟨a1_1, a1_2, a1_3⟩ : S72)]) := ⟨_, rfl⟩
       replace H : (some y694) = some r := hy_ hy694 H
       have Ny694 := Aside0.mk hy694
       clear hy694
       obtain rfl := Option.some.inj H
       have hcz47_0 : wr.cell? ⟨gb690, 0, none⟩ = some (.bool a1_0) := (blk_cell BK690.out 0).trans rfl
       have hcz47_1 : wr.cell? ⟨gb690, 1, none⟩ = some (.string a1_1) := (blk_cell BK690.out 1).trans rfl
       have hcz47_2 : wr.cell? ⟨gb690, 2, none⟩ = some (.string a1_2) := (blk_cell BK690.out 2).trans rfl
       have hcz47_3 : wr.cell? ⟨gb690, 3, none⟩ = some (.string a1_3) := (blk_cell BK690.out 3).trans rfl
       have hfz47_0 := blk_frozen BK690.out 0
       have hfz47_1 := blk_frozen BK690.out 1
       have hfz47_2 := blk_frozen BK690.out 2
       have hfz47_3 := blk_frozen BK690.out 3
       go_wp2_with (first | ((with_reducible refine gate_builtin (b := .append) (xs := #[.tmp 63, .tmp 66]) rfl ?_); at_builtin; refine Kd.R_append k72 (w0 := w) w.heap.size rfl (.tmp 63) (.tmp 66) 55 72 (.agg #[(.string ⟨#[]⟩), (.string ⟨#[]⟩), (.string ⟨#[]⟩)]) 48 rfl Try.underlying55 info72 rfl (by decide) (by omega) u5 x5_1 (⟨a1_1, a1_2, a1_3⟩ : S72) [.string a1_1, .string a1_2, .string a1_3] (fun _ => True) (fun _ => False) rfl rfl ?aP (fun _ hk => hk.elim) ?aF ?aO ?aB ?aS ?aL ?_; (case aP => exact k72_mkM _ _ _ (⟨a1_1, a1_2, a1_3⟩ : S72)); (case aB => exact (bG_ GE690.out)); (case aF => exact (fun _ _ => trivial)); (case aO => exact (vR_ HO_5.out)); (case aS => exact (below_size (bG_ GE690.out))); (case aL => have := LMc46.out; omega); intro v695 w48 ho hb hg hat; rw [← Ny694.out] at ho; replace BK690 := A_ (blk_grown (g := gb690) (o := .cells #[.bool a1_0, .string a1_1, .string a1_2, .string a1_3] 74 (0, 0)) (vb_ BK690.out) hg (Kd.R_ne HO_5.out BK690.out (by decide))); replace HB := A_ (hb); have HO696 := A_ (ho); clear HO_5; clear ho hb hg hat))
       go_ret
       exact ⟨_, rr_, by (with_reducible repeat (first | apply Kd.R_alloc | apply Kd.R_drewN | apply Kd.R_drew)); exact HO696.out, bG_ GE690.out⟩
   rw [if_pos c7] at H
   have c7b0 : decide (x7_1 < (l0.length : Int)) = true := decide_eq_true c7
   clear c7
   have HC8 := Aside0.mk H
   clear H
   go_upto_region 6 with (fail)
   go_cut [28] (fun v28 wc => ∃ (kq : Nat) (x28_7 : Bool), v28 = .bool x28_7 ∧ Aside0 (spec_l12One.j1 kq l0 x5_1 x6_1 x7_1 x28_7 a1_0 a1_1 a1_2 a1_3 = some r) ∧ Aside0 (kq ≤ k1) ∧ Aside0 (Kd.R k72 72 wc w.heap.size (fun _ => True) u5 x5_1) ∧ Aside0 (wc.heap[gb690]? = some (.cells #[.bool a1_0, .string a1_1, .string a1_2, .string a1_3] 74 (0, 0))) ∧ Aside0 (Below w.heap.size w wc))
   case first =>
    have H := HC8.out
    clear HC8
    by_cases c9 : x6_1 = true
    · subst c9
      rw [if_pos rfl] at H
      have H' := Aside0.mk H
      clear H
      try go_wp2
      replace HO_5 := A_ (Kd.R_drew HO_5.out)
      replace BK690 := A_ (blk_drew BK690.out)
      replace HB := A_ (below_drew1 HB.out)
      refine start_ (n := 12) (S := fun w' => True) (ds := []) #[false, false, false, false, false, false, false, false, false, false, false, false] (by kernel_rfl) rfl rfl trivial (fun hHeld => ?_); refine with_tabW spec_l12One.tab6 spec_l12One.bits6 (fun HT_ HW_ => ?_)
      generalize wr.drew = w10 at HO_5 BK690 HB hHeld ⊢
      refine pu_ (i := 0) (N := some 17) ?_
      refine pu_ (i := 1) (N := some 18) ?_
      refine pu_ (i := 2) (N := some 19) ?_
      refine pn_ (i := 3) (N := some 20) ?_
      refine pn_ (i := 4) (N := some 21) ?_
      refine pn_ (i := 5) (N := some 22) ?_
      refine pn_ (i := 6) (N := some 23) ?_
      refine pn_ (i := 7) (N := some 24) ?_
      refine pn_ (i := 8) (N := some 25) ?_
      refine pn_ (i := 9) (N := some 26) ?_
      refine pn_ (i := 10) (N := some 27) ?_
      refine pu_ (i := 11) (N := some 28) ?_
      refine done_ (done_of HT_.out (by kernel_rfl)) ?_
      (try clear hHeld)
      try go_wp2
      go_meet
      case rel => exact ⟨_, (false), rs_, H', ⟨by have := HK1.out; first | omega | exact Nat.le_refl _⟩, ⟨vR_ HO_5.out⟩, ⟨vb_ BK690.out⟩, ⟨bG_ GE690.out⟩⟩
    · replace c9 := Bool.eq_false_iff.mpr c9
      subst c9
      rw [if_neg nf_] at H
      by_cases c11 : 0 ≤ x7_1
      rotate_left
      · exact absurd H (by rw [if_neg c11]; simp)
      rw [if_pos c11] at H
      have c11b0 : decide (0 ≤ x7_1) = true := decide_eq_true c11
      clear c11
      (first | rw [c11b0] | (simp only [i64_w, i32_w]; rw [c11b0]) | skip)
      obtain ⟨t698, A12, H⟩ := bo_ H
      (try dsimp only at H)
      have H' := Aside0.mk H
      clear H
      try go_wp2
      replace HO_5 := A_ (Kd.R_drew HO_5.out)
      replace BK690 := A_ (blk_drew BK690.out)
      replace HB := A_ (below_drew1 HB.out)
      have p697 : 0 ≤ (x7_1 : Int) := of_decide_eq_true as_
      have q697 : x7_1 < (l0.length : Int) := of_decide_eq_true as_
      obtain ⟨ad697, e697, hx697_0, hx697_1, hx697_2⟩ := at_T72 HR0.out x7_1 p697 q697
      have hw697_2 := hx697_2
      have hw697_1 := hx697_1
      have hw697_0 := hx697_0
      cases e697
      replace hx697_0 := bc_ HB.out hx697_0
      replace hx697_1 := bc_ HB.out hx697_1
      replace hx697_2 := bc_ HB.out hx697_2
      replace p697 := eq_true p697
      replace q697 := eq_true q697
      refine start_ (n := 12) (S := fun w' => w'.cell? ⟨gb690, 0, none⟩ = some (.bool a1_0) ∧ w'.cell? ⟨gb690, 1, none⟩ = some (.string a1_1) ∧ w'.cell? ⟨gb690, 2, none⟩ = some (.string a1_2) ∧ w'.cell? ⟨gb690, 3, none⟩ = some (.string a1_3) ∧ w'.cell? (ad697.add ((x7_1).toNat * 3)) = some (.string ((rd_T72 l0 x7_1).f0)) ∧ w'.cell? ⟨(ad697.add ((x7_1).toNat * 3)).block, (ad697.add ((x7_1).toNat * 3)).off + 1, none⟩ = some (.string ((rd_T72 l0 x7_1).f1)) ∧ w'.cell? ⟨(ad697.add ((x7_1).toNat * 3)).block, (ad697.add ((x7_1).toNat * 3)).off + 2, none⟩ = some (.string ((rd_T72 l0 x7_1).f2))) (ds := []) #[false, false, false, false, false, false, false, false, false, false, false, false] (by kernel_rfl) rfl rfl ⟨(blk_cell BK690.out 0).trans rfl, (blk_cell BK690.out 1).trans rfl, (blk_cell BK690.out 2).trans rfl, (blk_cell BK690.out 3).trans rfl, ((HB.out.cell (World.block_lt_of_cell? w _ hw697_0)).trans hw697_0), ((HB.out.cell (World.block_lt_of_cell? w _ hw697_1)).trans hw697_1), ((HB.out.cell (World.block_lt_of_cell? w _ hw697_2)).trans hw697_2)⟩ (fun hHeld => ?_); refine with_tabW spec_l12One.tab6 spec_l12One.bits6 (fun HT_ HW_ => ?_)
      generalize wr.drew = w13 at HO_5 BK690 HB hx697_0 hx697_1 hx697_2 hHeld ⊢
      refine pu_ (i := 0) (N := some 17) ?_
      refine pu_ (i := 1) (N := some 18) ?_
      refine pu_ (i := 2) (N := some 19) ?_
      refine pu_ (i := 3) (N := some 20) ?_
      refine pu_ (i := 4) (N := some 21) ?_
      refine pu_ (i := 5) (N := some 22) ?_
      refine pu_ (i := 7) (N := some 24) ?_
      refine tk_ (i := 6) (N := some 23) hHeld ?_
      refine tk_ (i := 8) (N := some 25) hHeld ?_
      refine on_ (i := 9) (N := some 26) (fun K hK => ?_)
      refine goes_ Try.func127 (by kernel_rfl) rfl #[.agg #[.string ((rd_T72 l0 x7_1).f0), .string ((rd_T72 l0 x7_1).f1), .string ((rd_T72 l0 x7_1).f2)], .agg #[.string a1_1, .string a1_2, .string a1_3]] (by rfl) rfl rfl ml_ ?_
      with_reducible refine (spec_l10LessProp.calls ((rd_T72 l0 x7_1).f0) ((rd_T72 l0 x7_1).f1) ((rd_T72 l0 x7_1).f2) a1_1 a1_2 a1_3 t698 _ A12.out).mono ?_
      rintro e w14 ⟨rfl, hb⟩
      refine ⟨_, rfl, ?_⟩
      replace HO_5 := A_ (Kd.R_below (vR_ HO_5.out) hb)
      replace BK690 := A_ (bw_ BK690.out hb)
      replace HB := A_ (below_step (bG_ GE690.out) hb)
      (try clear hb)
      (try clear hb2)
      (try clear hk)
      (try clear hi)
      refine hK.out _ _ ⟨(blk_cell BK690.out 0).trans rfl, (blk_cell BK690.out 1).trans rfl, (blk_cell BK690.out 2).trans rfl, (blk_cell BK690.out 3).trans rfl, ((HB.out.cell (World.block_lt_of_cell? w _ hw697_0)).trans hw697_0), ((HB.out.cell (World.block_lt_of_cell? w _ hw697_1)).trans hw697_1), ((HB.out.cell (World.block_lt_of_cell? w _ hw697_2)).trans hw697_2)⟩ (fun hHeld => ?_)
      clear hK K
      refine no_ (some 26) ?_
      refine pu_ (i := 10) (N := some 27) ?_
      refine pu_ (i := 11) (N := some 28) ?_
      refine done_ (done_of HT_.out (by kernel_rfl)) ?_
      (try clear hHeld)
      try go_wp2
      go_meet
      case rel => exact ⟨_, (!t698), rs_, H', ⟨by have := HK1.out; first | omega | exact Nat.le_refl _⟩, ⟨vR_ HO_5.out⟩, ⟨vb_ BK690.out⟩, ⟨bG_ GE690.out⟩⟩
   case rest =>
    clear HC8
    try clear c1
    try clear p2
    try clear p6
    try clear q6
    try clear hx6
    try clear c7
    try clear c7b0
    try clear c9
    try clear c11
    try clear c11b0
    try clear c12
    try clear hcz6_0
    try clear hcz6_1
    try clear hcz6_2
    try clear hcz6_3
    try clear hfz6_0
    try clear hfz6_1
    try clear hfz6_2
    try clear hfz6_3
    try clear hx697_0
    try clear hx697_1
    try clear hx697_2
    try clear p2
    try clear p697
    try clear q697
    obtain ⟨kq, x28_7, rfl, HA, HJ7, HO_5, BK690, HB⟩ := hcut
    cases kq with
    | zero => exact absurd HA.out (by simp [spec_l12One.j1])
    | succ kj7 =>
     have H := HA.out
     clear HA
     simp only [spec_l12One.j1] at H
     by_cases c15 : x28_7 = true
     · subst c15
       rw [if_pos rfl] at H
       by_cases c16 : x5_1.length < 2932031007402
       rotate_left
       · exact absurd H (by rw [if_neg c16]; simp)
       rw [if_pos c16] at H
       have LMc16 := Aside0.mk c16
       clear c16
       obtain ⟨y699, hy699⟩ : ∃ y_ : List (S72), y_ = (x5_1 ++ [(⟨a1_1, a1_2, a1_3⟩ : S72)]) := ⟨_, rfl⟩
       replace H : (if 0 ≤ x7_1 then (if x7_1 < (l0.length : Int) then (if ((rd_T72 l0 x7_1).f0).toList = a1_1.toList then (if ((rd_T72 l0 x7_1).f1).toList = a1_2.toList then (spec_l12One.l0 kj7 l0 y699 true (wrap64 (x7_1 + 1)) a1_0 a1_1 a1_2 a1_3) else (if y699.length < 2932031007402 then (spec_l12One.l0 kj7 l0 (y699 ++ [(⟨(rd_T72 l0 x7_1).f0, (rd_T72 l0 x7_1).f1, (rd_T72 l0 x7_1).f2⟩ : S72)]) true (wrap64 (x7_1 + 1)) a1_0 a1_1 a1_2 a1_3) else (none))) else (if y699.length < 2932031007402 then (spec_l12One.l0 kj7 l0 (y699 ++ [(⟨(rd_T72 l0 x7_1).f0, (rd_T72 l0 x7_1).f1, (rd_T72 l0 x7_1).f2⟩ : S72)]) true (wrap64 (x7_1 + 1)) a1_0 a1_1 a1_2 a1_3) else (none))) else (none)) else (none)) = some r := hy_ hy699 H
       have Ny699 := Aside0.mk hy699
       clear hy699
       by_cases c17 : 0 ≤ x7_1
       rotate_left
       · exact absurd H (by rw [if_neg c17]; simp)
       rw [if_pos c17] at H
       have c17b0 : decide (0 ≤ x7_1) = true := decide_eq_true c17
       clear c17
       by_cases c18 : x7_1 < (l0.length : Int)
       rotate_left
       · exact absurd H (by rw [if_neg c18]; simp)
       rw [if_pos c18] at H
       have c18b0 : decide (x7_1 < (l0.length : Int)) = true := decide_eq_true c18
       clear c18
       by_cases c19 : ((rd_T72 l0 x7_1).f0).toList = a1_1.toList
       rotate_left
       · rw [if_neg c19] at H
         have c19b0 : (((rd_T72 l0 x7_1).f0).toList == a1_1.toList) = false := beq_eq_false_iff_ne.mpr c19
         have c19b1 : (((rd_T72 l0 x7_1).f0).toList != a1_1.toList) = true := bne_iff_ne.mpr c19
         by_cases c29 : y699.length < 2932031007402
         rotate_left
         · exact absurd H (by rw [if_neg c29]; simp)
         rw [if_pos c29] at H
         have LMc29 := Aside0.mk c29
         clear c29
         obtain ⟨y709, hy709⟩ : ∃ y_ : List (S72), y_ = (y699 ++ [(⟨(rd_T72 l0 x7_1).f0, (rd_T72 l0 x7_1).f1, (rd_T72 l0 x7_1).f2⟩ : S72)]) := ⟨_, rfl⟩
         replace H : (spec_l12One.l0 kj7 l0 y709 true (wrap64 (x7_1 + 1)) a1_0 a1_1 a1_2 a1_3) = some r := hy_ hy709 H
         have Ny709 := Aside0.mk hy709
         clear hy709
         have H' := Aside0.mk H
         clear H
         have hcz30_0 : wc.cell? ⟨gb690, 0, none⟩ = some (.bool a1_0) := (blk_cell BK690.out 0).trans rfl
         have hcz30_1 : wc.cell? ⟨gb690, 1, none⟩ = some (.string a1_1) := (blk_cell BK690.out 1).trans rfl
         have hcz30_2 : wc.cell? ⟨gb690, 2, none⟩ = some (.string a1_2) := (blk_cell BK690.out 2).trans rfl
         have hcz30_3 : wc.cell? ⟨gb690, 3, none⟩ = some (.string a1_3) := (blk_cell BK690.out 3).trans rfl
         have hfz30_0 := blk_frozen BK690.out 0
         have hfz30_1 := blk_frozen BK690.out 1
         have hfz30_2 := blk_frozen BK690.out 2
         have hfz30_3 := blk_frozen BK690.out 3
         try go_wp2_with (first | ((with_reducible refine gate_builtin (b := .append) (xs := #[.tmp 29, .tmp 32]) rfl ?_); at_builtin; refine Kd.R_append k72 (w0 := w) w.heap.size rfl (.tmp 29) (.tmp 32) 55 72 (.agg #[(.string ⟨#[]⟩), (.string ⟨#[]⟩), (.string ⟨#[]⟩)]) 48 rfl Try.underlying55 info72 rfl (by decide) (by omega) u5 x5_1 (⟨a1_1, a1_2, a1_3⟩ : S72) [.string a1_1, .string a1_2, .string a1_3] (fun _ => True) (fun _ => False) rfl rfl ?aP (fun _ hk => hk.elim) ?aF ?aO ?aB ?aS ?aL ?_; (case aP => exact k72_mkM _ _ _ (⟨a1_1, a1_2, a1_3⟩ : S72)); (case aB => exact (bG_ GE690.out)); (case aF => exact (fun _ _ => trivial)); (case aO => exact (vR_ HO_5.out)); (case aS => exact (below_size (bG_ GE690.out))); (case aL => have := LMc16.out; omega); intro v700 w31 ho hb hg hat; rw [← Ny699.out] at ho; replace BK690 := A_ (blk_grown (g := gb690) (o := .cells #[.bool a1_0, .string a1_1, .string a1_2, .string a1_3] 74 (0, 0)) (vb_ BK690.out) hg (Kd.R_ne HO_5.out BK690.out (by decide))); replace HB := A_ (hb); have HO701 := A_ (ho); clear HO_5; clear ho hb hg hat))
         replace HO701 := A_ (Kd.R_drew HO701.out)
         replace BK690 := A_ (blk_drew BK690.out)
         replace HB := A_ (below_drew1 HB.out)
         have p702 : 0 ≤ (x7_1 : Int) := of_decide_eq_true as_
         have q702 : x7_1 < (l0.length : Int) := of_decide_eq_true as_
         obtain ⟨ad702, e702, hx702_0, hx702_1, hx702_2⟩ := at_T72 HR0.out x7_1 p702 q702
         have hw702_2 := hx702_2
         have hw702_1 := hx702_1
         have hw702_0 := hx702_0
         cases e702
         replace hx702_0 := bc_ HB.out hx702_0
         replace hx702_1 := bc_ HB.out hx702_1
         replace hx702_2 := bc_ HB.out hx702_2
         replace p702 := eq_true p702
         replace q702 := eq_true q702
         refine start_ (n := 20) (S := fun w' => w'.cell? ⟨gb690, 0, none⟩ = some (.bool a1_0) ∧ w'.cell? ⟨gb690, 1, none⟩ = some (.string a1_1) ∧ w'.cell? ⟨gb690, 2, none⟩ = some (.string a1_2) ∧ w'.cell? ⟨gb690, 3, none⟩ = some (.string a1_3) ∧ w'.cell? (ad702.add ((x7_1).toNat * 3)) = some (.string ((rd_T72 l0 x7_1).f0)) ∧ w'.cell? ⟨(ad702.add ((x7_1).toNat * 3)).block, (ad702.add ((x7_1).toNat * 3)).off + 1, none⟩ = some (.string ((rd_T72 l0 x7_1).f1)) ∧ w'.cell? ⟨(ad702.add ((x7_1).toNat * 3)).block, (ad702.add ((x7_1).toNat * 3)).off + 2, none⟩ = some (.string ((rd_T72 l0 x7_1).f2))) (ds := []) #[false, false, false, false, false, false, false, false, false, false, false, false, false, false, false, false, false, false, false, false] (by kernel_rfl) rfl rfl ⟨(blk_cell BK690.out 0).trans rfl, (blk_cell BK690.out 1).trans rfl, (blk_cell BK690.out 2).trans rfl, (blk_cell BK690.out 3).trans rfl, ((HB.out.cell (World.block_lt_of_cell? w _ hw702_0)).trans hw702_0), ((HB.out.cell (World.block_lt_of_cell? w _ hw702_1)).trans hw702_1), ((HB.out.cell (World.block_lt_of_cell? w _ hw702_2)).trans hw702_2)⟩ (fun hHeld => ?_); refine with_tabW spec_l12One.tab9 spec_l12One.bits9 (fun HT_ HW_ => ?_)
         generalize w31.drew = w32 at HO701 BK690 HB hx702_0 hx702_1 hx702_2 hHeld ⊢
         refine pu_ (i := 0) (N := some 34) ?_
         refine pu_ (i := 1) (N := some 35) ?_
         refine pu_ (i := 2) (N := some 36) ?_
         refine pu_ (i := 3) (N := some 37) ?_
         refine pu_ (i := 5) (N := some 39) ?_
         refine pu_ (i := 6) (N := some 40) ?_
         refine tk_ (i := 4) (N := some 38) hHeld ?_
         refine tk_ (i := 7) (N := some 41) hHeld ?_
         refine pu_ (i := 8) (N := some 42) ?_
         refine pu_ (i := 9) (N := some 43) ?_
         refine pn_ (i := 10) (N := some 44) ?_
         refine pn_ (i := 11) (N := some 45) ?_
         refine pn_ (i := 12) (N := some 46) ?_
         refine pn_ (i := 13) (N := some 47) ?_
         refine pn_ (i := 14) (N := some 48) ?_
         refine pn_ (i := 15) (N := some 49) ?_
         refine pn_ (i := 16) (N := some 50) ?_
         refine pn_ (i := 17) (N := some 51) ?_
         refine pn_ (i := 18) (N := some 52) ?_
         refine pu_ (i := 19) (N := some 53) ?_
         refine done_ (done_of HT_.out (by kernel_rfl)) ?_
         (try clear hHeld)
         have p708 : 0 ≤ (x7_1 : Int) := of_decide_eq_true as_
         have q708 : x7_1 < (l0.length : Int) := of_decide_eq_true as_
         obtain ⟨ad708, e708, hx708_0, hx708_1, hx708_2⟩ := at_T72 HR0.out x7_1 p708 q708
         obtain rfl : ad702 = ad708 := (by injection e708)
         replace hx708_0 := bc_ HB.out hx708_0
         replace hx708_1 := bc_ HB.out hx708_1
         replace hx708_2 := bc_ HB.out hx708_2
         replace p708 := eq_true p708
         replace q708 := eq_true q708
         try go_wp2_with (first | ((with_reducible refine gate_builtin (b := .append) (xs := #[.tmp 54, .tmp 59]) rfl ?_); at_builtin; refine Kd.R_append k72 (w0 := w) w.heap.size rfl (.tmp 54) (.tmp 59) 55 72 (.agg #[(.string ⟨#[]⟩), (.string ⟨#[]⟩), (.string ⟨#[]⟩)]) 48 rfl Try.underlying55 info72 rfl (by decide) (by omega) v700 y699 (⟨(rd_T72 l0 x7_1).f0, (rd_T72 l0 x7_1).f1, (rd_T72 l0 x7_1).f2⟩ : S72) [.string ((rd_T72 l0 x7_1).f0), .string ((rd_T72 l0 x7_1).f1), .string ((rd_T72 l0 x7_1).f2)] (fun _ => True) (fun _ => False) rfl rfl ?aP (fun _ hk => hk.elim) ?aF ?aO ?aB ?aS ?aL ?_; (case aP => exact k72_mkM _ _ _ (⟨(rd_T72 l0 x7_1).f0, (rd_T72 l0 x7_1).f1, (rd_T72 l0 x7_1).f2⟩ : S72)); (case aB => exact (bG_ GE690.out)); (case aF => exact (fun _ _ => trivial)); (case aO => exact (vR_ HO701.out)); (case aS => exact (below_size (bG_ GE690.out))); (case aL => have := LMc29.out; omega); intro v710 w33 ho hb hg hat; rw [← Ny709.out] at ho; replace BK690 := A_ (blk_grown (g := gb690) (o := .cells #[.bool a1_0, .string a1_1, .string a1_2, .string a1_3] 74 (0, 0)) (vb_ BK690.out) hg (Kd.R_ne HO701.out BK690.out (by decide))); replace HB := A_ (hb); have HO711 := A_ (ho); clear HO701; clear ho hb hg hat))
         go_roundg kj7
         case measure => have := HK1.out; have := HJ7.out; omega
         case rel => exact ⟨(y709), (true), (wrap64 (x7_1 + 1)), rs_, rs_, H', ⟨by have := HK1.out; have := HJ7.out; omega⟩, ⟨vR_ HO711.out⟩, ⟨vb_ BK690.out⟩, ⟨bG_ GE690.out⟩⟩
       rw [if_pos c19] at H
       have c19b0 : (((rd_T72 l0 x7_1).f0).toList == a1_1.toList) = true := beq_iff_eq.mpr c19
       have c19b1 : (((rd_T72 l0 x7_1).f0).toList != a1_1.toList) = false := bne_eq_false_iff_eq.mpr c19
       clear c19
       by_cases c20 : ((rd_T72 l0 x7_1).f1).toList = a1_2.toList
       · rw [if_pos c20] at H
         have c20b0 : (((rd_T72 l0 x7_1).f1).toList == a1_2.toList) = true := beq_iff_eq.mpr c20
         have c20b1 : (((rd_T72 l0 x7_1).f1).toList != a1_2.toList) = false := bne_eq_false_iff_eq.mpr c20
         clear c20
         have H' := Aside0.mk H
         clear H
         have hcz21_0 : wc.cell? ⟨gb690, 0, none⟩ = some (.bool a1_0) := (blk_cell BK690.out 0).trans rfl
         have hcz21_1 : wc.cell? ⟨gb690, 1, none⟩ = some (.string a1_1) := (blk_cell BK690.out 1).trans rfl
         have hcz21_2 : wc.cell? ⟨gb690, 2, none⟩ = some (.string a1_2) := (blk_cell BK690.out 2).trans rfl
         have hcz21_3 : wc.cell? ⟨gb690, 3, none⟩ = some (.string a1_3) := (blk_cell BK690.out 3).trans rfl
         have hfz21_0 := blk_frozen BK690.out 0
         have hfz21_1 := blk_frozen BK690.out 1
         have hfz21_2 := blk_frozen BK690.out 2
         have hfz21_3 := blk_frozen BK690.out 3
         try go_wp2_with (first | ((with_reducible refine gate_builtin (b := .append) (xs := #[.tmp 29, .tmp 32]) rfl ?_); at_builtin; refine Kd.R_append k72 (w0 := w) w.heap.size rfl (.tmp 29) (.tmp 32) 55 72 (.agg #[(.string ⟨#[]⟩), (.string ⟨#[]⟩), (.string ⟨#[]⟩)]) 48 rfl Try.underlying55 info72 rfl (by decide) (by omega) u5 x5_1 (⟨a1_1, a1_2, a1_3⟩ : S72) [.string a1_1, .string a1_2, .string a1_3] (fun _ => True) (fun _ => False) rfl rfl ?aP (fun _ hk => hk.elim) ?aF ?aO ?aB ?aS ?aL ?_; (case aP => exact k72_mkM _ _ _ (⟨a1_1, a1_2, a1_3⟩ : S72)); (case aB => exact (bG_ GE690.out)); (case aF => exact (fun _ _ => trivial)); (case aO => exact (vR_ HO_5.out)); (case aS => exact (below_size (bG_ GE690.out))); (case aL => have := LMc16.out; omega); intro v700 w22 ho hb hg hat; rw [← Ny699.out] at ho; replace BK690 := A_ (blk_grown (g := gb690) (o := .cells #[.bool a1_0, .string a1_1, .string a1_2, .string a1_3] 74 (0, 0)) (vb_ BK690.out) hg (Kd.R_ne HO_5.out BK690.out (by decide))); replace HB := A_ (hb); have HO701 := A_ (ho); clear HO_5; clear ho hb hg hat))
         replace HO701 := A_ (Kd.R_drew HO701.out)
         replace BK690 := A_ (blk_drew BK690.out)
         replace HB := A_ (below_drew1 HB.out)
         have p702 : 0 ≤ (x7_1 : Int) := of_decide_eq_true as_
         have q702 : x7_1 < (l0.length : Int) := of_decide_eq_true as_
         obtain ⟨ad702, e702, hx702_0, hx702_1, hx702_2⟩ := at_T72 HR0.out x7_1 p702 q702
         have hw702_2 := hx702_2
         have hw702_1 := hx702_1
         have hw702_0 := hx702_0
         cases e702
         replace hx702_0 := bc_ HB.out hx702_0
         replace hx702_1 := bc_ HB.out hx702_1
         replace hx702_2 := bc_ HB.out hx702_2
         replace p702 := eq_true p702
         replace q702 := eq_true q702
         have p703 : 0 ≤ (x7_1 : Int) := of_decide_eq_true as_
         have q703 : x7_1 < (l0.length : Int) := of_decide_eq_true as_
         obtain ⟨ad703, e703, hx703_0, hx703_1, hx703_2⟩ := at_T72 HR0.out x7_1 p703 q703
         have hw703_2 := hx703_2
         have hw703_1 := hx703_1
         have hw703_0 := hx703_0
         obtain rfl : ad702 = ad703 := (by injection e703)
         replace hx703_0 := bc_ HB.out hx703_0
         replace hx703_1 := bc_ HB.out hx703_1
         replace hx703_2 := bc_ HB.out hx703_2
         replace p703 := eq_true p703
         replace q703 := eq_true q703
         refine start_ (n := 20) (S := fun w' => w'.cell? ⟨gb690, 0, none⟩ = some (.bool a1_0) ∧ w'.cell? ⟨gb690, 1, none⟩ = some (.string a1_1) ∧ w'.cell? ⟨gb690, 2, none⟩ = some (.string a1_2) ∧ w'.cell? ⟨gb690, 3, none⟩ = some (.string a1_3) ∧ w'.cell? (ad702.add ((x7_1).toNat * 3)) = some (.string ((rd_T72 l0 x7_1).f0)) ∧ w'.cell? ⟨(ad702.add ((x7_1).toNat * 3)).block, (ad702.add ((x7_1).toNat * 3)).off + 1, none⟩ = some (.string ((rd_T72 l0 x7_1).f1)) ∧ w'.cell? ⟨(ad702.add ((x7_1).toNat * 3)).block, (ad702.add ((x7_1).toNat * 3)).off + 2, none⟩ = some (.string ((rd_T72 l0 x7_1).f2)) ∧ w'.cell? (ad702.add ((x7_1).toNat * 3)) = some (.string ((rd_T72 l0 x7_1).f0)) ∧ w'.cell? ⟨(ad702.add ((x7_1).toNat * 3)).block, (ad702.add ((x7_1).toNat * 3)).off + 1, none⟩ = some (.string ((rd_T72 l0 x7_1).f1)) ∧ w'.cell? ⟨(ad702.add ((x7_1).toNat * 3)).block, (ad702.add ((x7_1).toNat * 3)).off + 2, none⟩ = some (.string ((rd_T72 l0 x7_1).f2))) (ds := []) #[false, false, false, false, false, false, false, false, false, false, false, false, false, false, false, false, false, false, false, false] (by kernel_rfl) rfl rfl ⟨(blk_cell BK690.out 0).trans rfl, (blk_cell BK690.out 1).trans rfl, (blk_cell BK690.out 2).trans rfl, (blk_cell BK690.out 3).trans rfl, ((HB.out.cell (World.block_lt_of_cell? w _ hw702_0)).trans hw702_0), ((HB.out.cell (World.block_lt_of_cell? w _ hw702_1)).trans hw702_1), ((HB.out.cell (World.block_lt_of_cell? w _ hw702_2)).trans hw702_2), ((HB.out.cell (World.block_lt_of_cell? w _ hw703_0)).trans hw703_0), ((HB.out.cell (World.block_lt_of_cell? w _ hw703_1)).trans hw703_1), ((HB.out.cell (World.block_lt_of_cell? w _ hw703_2)).trans hw703_2)⟩ (fun hHeld => ?_); refine with_tabW spec_l12One.tab9 spec_l12One.bits9 (fun HT_ HW_ => ?_)
         generalize w22.drew = w23 at HO701 BK690 HB hx702_0 hx702_1 hx702_2 hx703_0 hx703_1 hx703_2 hHeld ⊢
         refine pu_ (i := 0) (N := some 34) ?_
         refine pu_ (i := 1) (N := some 35) ?_
         refine pu_ (i := 2) (N := some 36) ?_
         refine pu_ (i := 3) (N := some 37) ?_
         refine pu_ (i := 5) (N := some 39) ?_
         refine pu_ (i := 6) (N := some 40) ?_
         refine tk_ (i := 4) (N := some 38) hHeld ?_
         refine tk_ (i := 7) (N := some 41) hHeld ?_
         refine pu_ (i := 8) (N := some 42) ?_
         refine pu_ (i := 9) (N := some 43) ?_
         refine pu_ (i := 10) (N := some 44) ?_
         refine pu_ (i := 11) (N := some 45) ?_
         refine pu_ (i := 12) (N := some 46) ?_
         refine pu_ (i := 13) (N := some 47) ?_
         refine pu_ (i := 15) (N := some 49) ?_
         refine pu_ (i := 16) (N := some 50) ?_
         refine tk_ (i := 14) (N := some 48) hHeld ?_
         refine tk_ (i := 17) (N := some 51) hHeld ?_
         refine pu_ (i := 18) (N := some 52) ?_
         refine pu_ (i := 19) (N := some 53) ?_
         refine done_ (done_of HT_.out (by kernel_rfl)) ?_
         (try clear hHeld)
         try go_wp2
         go_roundg kj7
         case measure => have := HK1.out; have := HJ7.out; omega
         case rel => exact ⟨(y699), (true), (wrap64 (x7_1 + 1)), rs_, rs_, H', ⟨by have := HK1.out; have := HJ7.out; omega⟩, ⟨vR_ HO701.out⟩, ⟨vb_ BK690.out⟩, ⟨bG_ GE690.out⟩⟩
       rw [if_neg c20] at H
       have c20b0 : (((rd_T72 l0 x7_1).f1).toList == a1_2.toList) = false := beq_eq_false_iff_ne.mpr c20
       have c20b1 : (((rd_T72 l0 x7_1).f1).toList != a1_2.toList) = true := bne_iff_ne.mpr c20
       by_cases c24 : y699.length < 2932031007402
       rotate_left
       · exact absurd H (by rw [if_neg c24]; simp)
       rw [if_pos c24] at H
       have LMc24 := Aside0.mk c24
       clear c24
       obtain ⟨y705, hy705⟩ : ∃ y_ : List (S72), y_ = (y699 ++ [(⟨(rd_T72 l0 x7_1).f0, (rd_T72 l0 x7_1).f1, (rd_T72 l0 x7_1).f2⟩ : S72)]) := ⟨_, rfl⟩
       replace H : (spec_l12One.l0 kj7 l0 y705 true (wrap64 (x7_1 + 1)) a1_0 a1_1 a1_2 a1_3) = some r := hy_ hy705 H
       have Ny705 := Aside0.mk hy705
       clear hy705
       have H' := Aside0.mk H
       clear H
       have hcz25_0 : wc.cell? ⟨gb690, 0, none⟩ = some (.bool a1_0) := (blk_cell BK690.out 0).trans rfl
       have hcz25_1 : wc.cell? ⟨gb690, 1, none⟩ = some (.string a1_1) := (blk_cell BK690.out 1).trans rfl
       have hcz25_2 : wc.cell? ⟨gb690, 2, none⟩ = some (.string a1_2) := (blk_cell BK690.out 2).trans rfl
       have hcz25_3 : wc.cell? ⟨gb690, 3, none⟩ = some (.string a1_3) := (blk_cell BK690.out 3).trans rfl
       have hfz25_0 := blk_frozen BK690.out 0
       have hfz25_1 := blk_frozen BK690.out 1
       have hfz25_2 := blk_frozen BK690.out 2
       have hfz25_3 := blk_frozen BK690.out 3
       try go_wp2_with (first | ((with_reducible refine gate_builtin (b := .append) (xs := #[.tmp 29, .tmp 32]) rfl ?_); at_builtin; refine Kd.R_append k72 (w0 := w) w.heap.size rfl (.tmp 29) (.tmp 32) 55 72 (.agg #[(.string ⟨#[]⟩), (.string ⟨#[]⟩), (.string ⟨#[]⟩)]) 48 rfl Try.underlying55 info72 rfl (by decide) (by omega) u5 x5_1 (⟨a1_1, a1_2, a1_3⟩ : S72) [.string a1_1, .string a1_2, .string a1_3] (fun _ => True) (fun _ => False) rfl rfl ?aP (fun _ hk => hk.elim) ?aF ?aO ?aB ?aS ?aL ?_; (case aP => exact k72_mkM _ _ _ (⟨a1_1, a1_2, a1_3⟩ : S72)); (case aB => exact (bG_ GE690.out)); (case aF => exact (fun _ _ => trivial)); (case aO => exact (vR_ HO_5.out)); (case aS => exact (below_size (bG_ GE690.out))); (case aL => have := LMc16.out; omega); intro v700 w26 ho hb hg hat; rw [← Ny699.out] at ho; replace BK690 := A_ (blk_grown (g := gb690) (o := .cells #[.bool a1_0, .string a1_1, .string a1_2, .string a1_3] 74 (0, 0)) (vb_ BK690.out) hg (Kd.R_ne HO_5.out BK690.out (by decide))); replace HB := A_ (hb); have HO701 := A_ (ho); clear HO_5; clear ho hb hg hat))
       replace HO701 := A_ (Kd.R_drew HO701.out)
       replace BK690 := A_ (blk_drew BK690.out)
       replace HB := A_ (below_drew1 HB.out)
       have p702 : 0 ≤ (x7_1 : Int) := of_decide_eq_true as_
       have q702 : x7_1 < (l0.length : Int) := of_decide_eq_true as_
       obtain ⟨ad702, e702, hx702_0, hx702_1, hx702_2⟩ := at_T72 HR0.out x7_1 p702 q702
       have hw702_2 := hx702_2
       have hw702_1 := hx702_1
       have hw702_0 := hx702_0
       cases e702
       replace hx702_0 := bc_ HB.out hx702_0
       replace hx702_1 := bc_ HB.out hx702_1
       replace hx702_2 := bc_ HB.out hx702_2
       replace p702 := eq_true p702
       replace q702 := eq_true q702
       have p703 : 0 ≤ (x7_1 : Int) := of_decide_eq_true as_
       have q703 : x7_1 < (l0.length : Int) := of_decide_eq_true as_
       obtain ⟨ad703, e703, hx703_0, hx703_1, hx703_2⟩ := at_T72 HR0.out x7_1 p703 q703
       have hw703_2 := hx703_2
       have hw703_1 := hx703_1
       have hw703_0 := hx703_0
       obtain rfl : ad702 = ad703 := (by injection e703)
       replace hx703_0 := bc_ HB.out hx703_0
       replace hx703_1 := bc_ HB.out hx703_1
       replace hx703_2 := bc_ HB.out hx703_2
       replace p703 := eq_true p703
       replace q703 := eq_true q703
       refine start_ (n := 20) (S := fun w' => w'.cell? ⟨gb690, 0, none⟩ = some (.bool a1_0) ∧ w'.cell? ⟨gb690, 1, none⟩ = some (.string a1_1) ∧ w'.cell? ⟨gb690, 2, none⟩ = some (.string a1_2) ∧ w'.cell? ⟨gb690, 3, none⟩ = some (.string a1_3) ∧ w'.cell? (ad702.add ((x7_1).toNat * 3)) = some (.string ((rd_T72 l0 x7_1).f0)) ∧ w'.cell? ⟨(ad702.add ((x7_1).toNat * 3)).block, (ad702.add ((x7_1).toNat * 3)).off + 1, none⟩ = some (.string ((rd_T72 l0 x7_1).f1)) ∧ w'.cell? ⟨(ad702.add ((x7_1).toNat * 3)).block, (ad702.add ((x7_1).toNat * 3)).off + 2, none⟩ = some (.string ((rd_T72 l0 x7_1).f2)) ∧ w'.cell? (ad702.add ((x7_1).toNat * 3)) = some (.string ((rd_T72 l0 x7_1).f0)) ∧ w'.cell? ⟨(ad702.add ((x7_1).toNat * 3)).block, (ad702.add ((x7_1).toNat * 3)).off + 1, none⟩ = some (.string ((rd_T72 l0 x7_1).f1)) ∧ w'.cell? ⟨(ad702.add ((x7_1).toNat * 3)).block, (ad702.add ((x7_1).toNat * 3)).off + 2, none⟩ = some (.string ((rd_T72 l0 x7_1).f2))) (ds := []) #[false, false, false, false, false, false, false, false, false, false, false, false, false, false, false, false, false, false, false, false] (by kernel_rfl) rfl rfl ⟨(blk_cell BK690.out 0).trans rfl, (blk_cell BK690.out 1).trans rfl, (blk_cell BK690.out 2).trans rfl, (blk_cell BK690.out 3).trans rfl, ((HB.out.cell (World.block_lt_of_cell? w _ hw702_0)).trans hw702_0), ((HB.out.cell (World.block_lt_of_cell? w _ hw702_1)).trans hw702_1), ((HB.out.cell (World.block_lt_of_cell? w _ hw702_2)).trans hw702_2), ((HB.out.cell (World.block_lt_of_cell? w _ hw703_0)).trans hw703_0), ((HB.out.cell (World.block_lt_of_cell? w _ hw703_1)).trans hw703_1), ((HB.out.cell (World.block_lt_of_cell? w _ hw703_2)).trans hw703_2)⟩ (fun hHeld => ?_); refine with_tabW spec_l12One.tab9 spec_l12One.bits9 (fun HT_ HW_ => ?_)
       generalize w26.drew = w27 at HO701 BK690 HB hx702_0 hx702_1 hx702_2 hx703_0 hx703_1 hx703_2 hHeld ⊢
       refine pu_ (i := 0) (N := some 34) ?_
       refine pu_ (i := 1) (N := some 35) ?_
       refine pu_ (i := 2) (N := some 36) ?_
       refine pu_ (i := 3) (N := some 37) ?_
       refine pu_ (i := 5) (N := some 39) ?_
       refine pu_ (i := 6) (N := some 40) ?_
       refine tk_ (i := 4) (N := some 38) hHeld ?_
       refine tk_ (i := 7) (N := some 41) hHeld ?_
       refine pu_ (i := 8) (N := some 42) ?_
       refine pu_ (i := 9) (N := some 43) ?_
       refine pu_ (i := 10) (N := some 44) ?_
       refine pu_ (i := 11) (N := some 45) ?_
       refine pu_ (i := 12) (N := some 46) ?_
       refine pu_ (i := 13) (N := some 47) ?_
       refine pu_ (i := 15) (N := some 49) ?_
       refine pu_ (i := 16) (N := some 50) ?_
       refine tk_ (i := 14) (N := some 48) hHeld ?_
       refine tk_ (i := 17) (N := some 51) hHeld ?_
       refine pu_ (i := 18) (N := some 52) ?_
       refine pu_ (i := 19) (N := some 53) ?_
       refine done_ (done_of HT_.out (by kernel_rfl)) ?_
       (try clear hHeld)
       have p704 : 0 ≤ (x7_1 : Int) := of_decide_eq_true as_
       have q704 : x7_1 < (l0.length : Int) := of_decide_eq_true as_
       obtain ⟨ad704, e704, hx704_0, hx704_1, hx704_2⟩ := at_T72 HR0.out x7_1 p704 q704
       obtain rfl : ad702 = ad704 := (by injection e704)
       replace hx704_0 := bc_ HB.out hx704_0
       replace hx704_1 := bc_ HB.out hx704_1
       replace hx704_2 := bc_ HB.out hx704_2
       replace p704 := eq_true p704
       replace q704 := eq_true q704
       try go_wp2_with (first | ((with_reducible refine gate_builtin (b := .append) (xs := #[.tmp 54, .tmp 59]) rfl ?_); at_builtin; refine Kd.R_append k72 (w0 := w) w.heap.size rfl (.tmp 54) (.tmp 59) 55 72 (.agg #[(.string ⟨#[]⟩), (.string ⟨#[]⟩), (.string ⟨#[]⟩)]) 48 rfl Try.underlying55 info72 rfl (by decide) (by omega) v700 y699 (⟨(rd_T72 l0 x7_1).f0, (rd_T72 l0 x7_1).f1, (rd_T72 l0 x7_1).f2⟩ : S72) [.string ((rd_T72 l0 x7_1).f0), .string ((rd_T72 l0 x7_1).f1), .string ((rd_T72 l0 x7_1).f2)] (fun _ => True) (fun _ => False) rfl rfl ?aP (fun _ hk => hk.elim) ?aF ?aO ?aB ?aS ?aL ?_; (case aP => exact k72_mkM _ _ _ (⟨(rd_T72 l0 x7_1).f0, (rd_T72 l0 x7_1).f1, (rd_T72 l0 x7_1).f2⟩ : S72)); (case aB => exact (bG_ GE690.out)); (case aF => exact (fun _ _ => trivial)); (case aO => exact (vR_ HO701.out)); (case aS => exact (below_size (bG_ GE690.out))); (case aL => have := LMc24.out; omega); intro v706 w28 ho hb hg hat; rw [← Ny705.out] at ho; replace BK690 := A_ (blk_grown (g := gb690) (o := .cells #[.bool a1_0, .string a1_1, .string a1_2, .string a1_3] 74 (0, 0)) (vb_ BK690.out) hg (Kd.R_ne HO701.out BK690.out (by decide))); replace HB := A_ (hb); have HO707 := A_ (ho); clear HO701; clear ho hb hg hat))
       go_roundg kj7
       case measure => have := HK1.out; have := HJ7.out; omega
       case rel => exact ⟨(y705), (true), (wrap64 (x7_1 + 1)), rs_, rs_, H', ⟨by have := HK1.out; have := HJ7.out; omega⟩, ⟨vR_ HO707.out⟩, ⟨vb_ BK690.out⟩, ⟨bG_ GE690.out⟩⟩
     · replace c15 := Bool.eq_false_iff.mpr c15
       subst c15
       rw [if_neg nf_] at H
       by_cases c34 : 0 ≤ x7_1
       rotate_left
       · exact absurd H (by rw [if_neg c34]; simp)
       rw [if_pos c34] at H
       have c34b0 : decide (0 ≤ x7_1) = true := decide_eq_true c34
       clear c34
       by_cases c35 : x7_1 < (l0.length : Int)
       rotate_left
       · exact absurd H (by rw [if_neg c35]; simp)
       rw [if_pos c35] at H
       have c35b0 : decide (x7_1 < (l0.length : Int)) = true := decide_eq_true c35
       clear c35
       by_cases c36 : ((rd_T72 l0 x7_1).f0).toList = a1_1.toList
       rotate_left
       · rw [if_neg c36] at H
         have c36b0 : (((rd_T72 l0 x7_1).f0).toList == a1_1.toList) = false := beq_eq_false_iff_ne.mpr c36
         have c36b1 : (((rd_T72 l0 x7_1).f0).toList != a1_1.toList) = true := bne_iff_ne.mpr c36
         by_cases c42 : x5_1.length < 2932031007402
         rotate_left
         · exact absurd H (by rw [if_neg c42]; simp)
         rw [if_pos c42] at H
         have LMc42 := Aside0.mk c42
         clear c42
         obtain ⟨y719, hy719⟩ : ∃ y_ : List (S72), y_ = (x5_1 ++ [(⟨(rd_T72 l0 x7_1).f0, (rd_T72 l0 x7_1).f1, (rd_T72 l0 x7_1).f2⟩ : S72)]) := ⟨_, rfl⟩
         replace H : (spec_l12One.l0 kj7 l0 y719 x6_1 (wrap64 (x7_1 + 1)) a1_0 a1_1 a1_2 a1_3) = some r := hy_ hy719 H
         have Ny719 := Aside0.mk hy719
         clear hy719
         have H' := Aside0.mk H
         clear H
         try go_wp2
         replace HO_5 := A_ (Kd.R_drew HO_5.out)
         replace BK690 := A_ (blk_drew BK690.out)
         replace HB := A_ (below_drew1 HB.out)
         have p712 : 0 ≤ (x7_1 : Int) := of_decide_eq_true as_
         have q712 : x7_1 < (l0.length : Int) := of_decide_eq_true as_
         obtain ⟨ad712, e712, hx712_0, hx712_1, hx712_2⟩ := at_T72 HR0.out x7_1 p712 q712
         have hw712_2 := hx712_2
         have hw712_1 := hx712_1
         have hw712_0 := hx712_0
         cases e712
         replace hx712_0 := bc_ HB.out hx712_0
         replace hx712_1 := bc_ HB.out hx712_1
         replace hx712_2 := bc_ HB.out hx712_2
         replace p712 := eq_true p712
         replace q712 := eq_true q712
         refine start_ (n := 20) (S := fun w' => w'.cell? ⟨gb690, 0, none⟩ = some (.bool a1_0) ∧ w'.cell? ⟨gb690, 1, none⟩ = some (.string a1_1) ∧ w'.cell? ⟨gb690, 2, none⟩ = some (.string a1_2) ∧ w'.cell? ⟨gb690, 3, none⟩ = some (.string a1_3) ∧ w'.cell? (ad712.add ((x7_1).toNat * 3)) = some (.string ((rd_T72 l0 x7_1).f0)) ∧ w'.cell? ⟨(ad712.add ((x7_1).toNat * 3)).block, (ad712.add ((x7_1).toNat * 3)).off + 1, none⟩ = some (.string ((rd_T72 l0 x7_1).f1)) ∧ w'.cell? ⟨(ad712.add ((x7_1).toNat * 3)).block, (ad712.add ((x7_1).toNat * 3)).off + 2, none⟩ = some (.string ((rd_T72 l0 x7_1).f2))) (ds := []) #[false, false, false, false, false, false, false, false, false, false, false, false, false, false, false, false, false, false, false, false] (by kernel_rfl) rfl rfl ⟨(blk_cell BK690.out 0).trans rfl, (blk_cell BK690.out 1).trans rfl, (blk_cell BK690.out 2).trans rfl, (blk_cell BK690.out 3).trans rfl, ((HB.out.cell (World.block_lt_of_cell? w _ hw712_0)).trans hw712_0), ((HB.out.cell (World.block_lt_of_cell? w _ hw712_1)).trans hw712_1), ((HB.out.cell (World.block_lt_of_cell? w _ hw712_2)).trans hw712_2)⟩ (fun hHeld => ?_); refine with_tabW spec_l12One.tab9 spec_l12One.bits9 (fun HT_ HW_ => ?_)
         generalize wc.drew = w43 at HO_5 BK690 HB hx712_0 hx712_1 hx712_2 hHeld ⊢
         refine pu_ (i := 0) (N := some 34) ?_
         refine pu_ (i := 1) (N := some 35) ?_
         refine pu_ (i := 2) (N := some 36) ?_
         refine pu_ (i := 3) (N := some 37) ?_
         refine pu_ (i := 5) (N := some 39) ?_
         refine pu_ (i := 6) (N := some 40) ?_
         refine tk_ (i := 4) (N := some 38) hHeld ?_
         refine tk_ (i := 7) (N := some 41) hHeld ?_
         refine pu_ (i := 8) (N := some 42) ?_
         refine pu_ (i := 9) (N := some 43) ?_
         refine pn_ (i := 10) (N := some 44) ?_
         refine pn_ (i := 11) (N := some 45) ?_
         refine pn_ (i := 12) (N := some 46) ?_
         refine pn_ (i := 13) (N := some 47) ?_
         refine pn_ (i := 14) (N := some 48) ?_
         refine pn_ (i := 15) (N := some 49) ?_
         refine pn_ (i := 16) (N := some 50) ?_
         refine pn_ (i := 17) (N := some 51) ?_
         refine pn_ (i := 18) (N := some 52) ?_
         refine pu_ (i := 19) (N := some 53) ?_
         refine done_ (done_of HT_.out (by kernel_rfl)) ?_
         (try clear hHeld)
         have p718 : 0 ≤ (x7_1 : Int) := of_decide_eq_true as_
         have q718 : x7_1 < (l0.length : Int) := of_decide_eq_true as_
         obtain ⟨ad718, e718, hx718_0, hx718_1, hx718_2⟩ := at_T72 HR0.out x7_1 p718 q718
         obtain rfl : ad712 = ad718 := (by injection e718)
         replace hx718_0 := bc_ HB.out hx718_0
         replace hx718_1 := bc_ HB.out hx718_1
         replace hx718_2 := bc_ HB.out hx718_2
         replace p718 := eq_true p718
         replace q718 := eq_true q718
         try go_wp2_with (first | ((with_reducible refine gate_builtin (b := .append) (xs := #[.tmp 54, .tmp 59]) rfl ?_); at_builtin; refine Kd.R_append k72 (w0 := w) w.heap.size rfl (.tmp 54) (.tmp 59) 55 72 (.agg #[(.string ⟨#[]⟩), (.string ⟨#[]⟩), (.string ⟨#[]⟩)]) 48 rfl Try.underlying55 info72 rfl (by decide) (by omega) u5 x5_1 (⟨(rd_T72 l0 x7_1).f0, (rd_T72 l0 x7_1).f1, (rd_T72 l0 x7_1).f2⟩ : S72) [.string ((rd_T72 l0 x7_1).f0), .string ((rd_T72 l0 x7_1).f1), .string ((rd_T72 l0 x7_1).f2)] (fun _ => True) (fun _ => False) rfl rfl ?aP (fun _ hk => hk.elim) ?aF ?aO ?aB ?aS ?aL ?_; (case aP => exact k72_mkM _ _ _ (⟨(rd_T72 l0 x7_1).f0, (rd_T72 l0 x7_1).f1, (rd_T72 l0 x7_1).f2⟩ : S72)); (case aB => exact (bG_ GE690.out)); (case aF => exact (fun _ _ => trivial)); (case aO => exact (vR_ HO_5.out)); (case aS => exact (below_size (bG_ GE690.out))); (case aL => have := LMc42.out; omega); intro v720 w44 ho hb hg hat; rw [← Ny719.out] at ho; replace BK690 := A_ (blk_grown (g := gb690) (o := .cells #[.bool a1_0, .string a1_1, .string a1_2, .string a1_3] 74 (0, 0)) (vb_ BK690.out) hg (Kd.R_ne HO_5.out BK690.out (by decide))); replace HB := A_ (hb); have HO721 := A_ (ho); clear HO_5; clear ho hb hg hat))
         go_roundg kj7
         case measure => have := HK1.out; have := HJ7.out; omega
         case rel => exact ⟨(y719), (x6_1), (wrap64 (x7_1 + 1)), rs_, rs_, H', ⟨by have := HK1.out; have := HJ7.out; omega⟩, ⟨vR_ HO721.out⟩, ⟨vb_ BK690.out⟩, ⟨bG_ GE690.out⟩⟩
       rw [if_pos c36] at H
       have c36b0 : (((rd_T72 l0 x7_1).f0).toList == a1_1.toList) = true := beq_iff_eq.mpr c36
       have c36b1 : (((rd_T72 l0 x7_1).f0).toList != a1_1.toList) = false := bne_eq_false_iff_eq.mpr c36
       clear c36
       by_cases c37 : ((rd_T72 l0 x7_1).f1).toList = a1_2.toList
       · rw [if_pos c37] at H
         have c37b0 : (((rd_T72 l0 x7_1).f1).toList == a1_2.toList) = true := beq_iff_eq.mpr c37
         have c37b1 : (((rd_T72 l0 x7_1).f1).toList != a1_2.toList) = false := bne_eq_false_iff_eq.mpr c37
         clear c37
         have H' := Aside0.mk H
         clear H
         try go_wp2
         replace HO_5 := A_ (Kd.R_drew HO_5.out)
         replace BK690 := A_ (blk_drew BK690.out)
         replace HB := A_ (below_drew1 HB.out)
         have p712 : 0 ≤ (x7_1 : Int) := of_decide_eq_true as_
         have q712 : x7_1 < (l0.length : Int) := of_decide_eq_true as_
         obtain ⟨ad712, e712, hx712_0, hx712_1, hx712_2⟩ := at_T72 HR0.out x7_1 p712 q712
         have hw712_2 := hx712_2
         have hw712_1 := hx712_1
         have hw712_0 := hx712_0
         cases e712
         replace hx712_0 := bc_ HB.out hx712_0
         replace hx712_1 := bc_ HB.out hx712_1
         replace hx712_2 := bc_ HB.out hx712_2
         replace p712 := eq_true p712
         replace q712 := eq_true q712
         have p713 : 0 ≤ (x7_1 : Int) := of_decide_eq_true as_
         have q713 : x7_1 < (l0.length : Int) := of_decide_eq_true as_
         obtain ⟨ad713, e713, hx713_0, hx713_1, hx713_2⟩ := at_T72 HR0.out x7_1 p713 q713
         have hw713_2 := hx713_2
         have hw713_1 := hx713_1
         have hw713_0 := hx713_0
         obtain rfl : ad712 = ad713 := (by injection e713)
         replace hx713_0 := bc_ HB.out hx713_0
         replace hx713_1 := bc_ HB.out hx713_1
         replace hx713_2 := bc_ HB.out hx713_2
         replace p713 := eq_true p713
         replace q713 := eq_true q713
         refine start_ (n := 20) (S := fun w' => w'.cell? ⟨gb690, 0, none⟩ = some (.bool a1_0) ∧ w'.cell? ⟨gb690, 1, none⟩ = some (.string a1_1) ∧ w'.cell? ⟨gb690, 2, none⟩ = some (.string a1_2) ∧ w'.cell? ⟨gb690, 3, none⟩ = some (.string a1_3) ∧ w'.cell? (ad712.add ((x7_1).toNat * 3)) = some (.string ((rd_T72 l0 x7_1).f0)) ∧ w'.cell? ⟨(ad712.add ((x7_1).toNat * 3)).block, (ad712.add ((x7_1).toNat * 3)).off + 1, none⟩ = some (.string ((rd_T72 l0 x7_1).f1)) ∧ w'.cell? ⟨(ad712.add ((x7_1).toNat * 3)).block, (ad712.add ((x7_1).toNat * 3)).off + 2, none⟩ = some (.string ((rd_T72 l0 x7_1).f2)) ∧ w'.cell? (ad712.add ((x7_1).toNat * 3)) = some (.string ((rd_T72 l0 x7_1).f0)) ∧ w'.cell? ⟨(ad712.add ((x7_1).toNat * 3)).block, (ad712.add ((x7_1).toNat * 3)).off + 1, none⟩ = some (.string ((rd_T72 l0 x7_1).f1)) ∧ w'.cell? ⟨(ad712.add ((x7_1).toNat * 3)).block, (ad712.add ((x7_1).toNat * 3)).off + 2, none⟩ = some (.string ((rd_T72 l0 x7_1).f2))) (ds := []) #[false, false, false, false, false, false, false, false, false, false, false, false, false, false, false, false, false, false, false, false] (by kernel_rfl) rfl rfl ⟨(blk_cell BK690.out 0).trans rfl, (blk_cell BK690.out 1).trans rfl, (blk_cell BK690.out 2).trans rfl, (blk_cell BK690.out 3).trans rfl, ((HB.out.cell (World.block_lt_of_cell? w _ hw712_0)).trans hw712_0), ((HB.out.cell (World.block_lt_of_cell? w _ hw712_1)).trans hw712_1), ((HB.out.cell (World.block_lt_of_cell? w _ hw712_2)).trans hw712_2), ((HB.out.cell (World.block_lt_of_cell? w _ hw713_0)).trans hw713_0), ((HB.out.cell (World.block_lt_of_cell? w _ hw713_1)).trans hw713_1), ((HB.out.cell (World.block_lt_of_cell? w _ hw713_2)).trans hw713_2)⟩ (fun hHeld => ?_); refine with_tabW spec_l12One.tab9 spec_l12One.bits9 (fun HT_ HW_ => ?_)
         generalize wc.drew = w38 at HO_5 BK690 HB hx712_0 hx712_1 hx712_2 hx713_0 hx713_1 hx713_2 hHeld ⊢
         refine pu_ (i := 0) (N := some 34) ?_
         refine pu_ (i := 1) (N := some 35) ?_
         refine pu_ (i := 2) (N := some 36) ?_
         refine pu_ (i := 3) (N := some 37) ?_
         refine pu_ (i := 5) (N := some 39) ?_
         refine pu_ (i := 6) (N := some 40) ?_
         refine tk_ (i := 4) (N := some 38) hHeld ?_
         refine tk_ (i := 7) (N := some 41) hHeld ?_
         refine pu_ (i := 8) (N := some 42) ?_
         refine pu_ (i := 9) (N := some 43) ?_
         refine pu_ (i := 10) (N := some 44) ?_
         refine pu_ (i := 11) (N := some 45) ?_
         refine pu_ (i := 12) (N := some 46) ?_
         refine pu_ (i := 13) (N := some 47) ?_
         refine pu_ (i := 15) (N := some 49) ?_
         refine pu_ (i := 16) (N := some 50) ?_
         refine tk_ (i := 14) (N := some 48) hHeld ?_
         refine tk_ (i := 17) (N := some 51) hHeld ?_
         refine pu_ (i := 18) (N := some 52) ?_
         refine pu_ (i := 19) (N := some 53) ?_
         refine done_ (done_of HT_.out (by kernel_rfl)) ?_
         (try clear hHeld)
         try go_wp2
         go_roundg kj7
         case measure => have := HK1.out; have := HJ7.out; omega
         case rel => exact ⟨(x5_1), (x6_1), (wrap64 (x7_1 + 1)), rs_, rs_, H', ⟨by have := HK1.out; have := HJ7.out; omega⟩, ⟨vR_ HO_5.out⟩, ⟨vb_ BK690.out⟩, ⟨bG_ GE690.out⟩⟩
       rw [if_neg c37] at H
       have c37b0 : (((rd_T72 l0 x7_1).f1).toList == a1_2.toList) = false := beq_eq_false_iff_ne.mpr c37
       have c37b1 : (((rd_T72 l0 x7_1).f1).toList != a1_2.toList) = true := bne_iff_ne.mpr c37
       by_cases c39 : x5_1.length < 2932031007402
       rotate_left
       · exact absurd H (by rw [if_neg c39]; simp)
       rw [if_pos c39] at H
       have LMc39 := Aside0.mk c39
       clear c39
       obtain ⟨y715, hy715⟩ : ∃ y_ : List (S72), y_ = (x5_1 ++ [(⟨(rd_T72 l0 x7_1).f0, (rd_T72 l0 x7_1).f1, (rd_T72 l0 x7_1).f2⟩ : S72)]) := ⟨_, rfl⟩
       replace H : (spec_l12One.l0 kj7 l0 y715 x6_1 (wrap64 (x7_1 + 1)) a1_0 a1_1 a1_2 a1_3) = some r := hy_ hy715 H
       have Ny715 := Aside0.mk hy715
       clear hy715
       have H' := Aside0.mk H
       clear H
       try go_wp2
       replace HO_5 := A_ (Kd.R_drew HO_5.out)
       replace BK690 := A_ (blk_drew BK690.out)
       replace HB := A_ (below_drew1 HB.out)
       have p712 : 0 ≤ (x7_1 : Int) := of_decide_eq_true as_
       have q712 : x7_1 < (l0.length : Int) := of_decide_eq_true as_
       obtain ⟨ad712, e712, hx712_0, hx712_1, hx712_2⟩ := at_T72 HR0.out x7_1 p712 q712
       have hw712_2 := hx712_2
       have hw712_1 := hx712_1
       have hw712_0 := hx712_0
       cases e712
       replace hx712_0 := bc_ HB.out hx712_0
       replace hx712_1 := bc_ HB.out hx712_1
       replace hx712_2 := bc_ HB.out hx712_2
       replace p712 := eq_true p712
       replace q712 := eq_true q712
       have p713 : 0 ≤ (x7_1 : Int) := of_decide_eq_true as_
       have q713 : x7_1 < (l0.length : Int) := of_decide_eq_true as_
       obtain ⟨ad713, e713, hx713_0, hx713_1, hx713_2⟩ := at_T72 HR0.out x7_1 p713 q713
       have hw713_2 := hx713_2
       have hw713_1 := hx713_1
       have hw713_0 := hx713_0
       obtain rfl : ad712 = ad713 := (by injection e713)
       replace hx713_0 := bc_ HB.out hx713_0
       replace hx713_1 := bc_ HB.out hx713_1
       replace hx713_2 := bc_ HB.out hx713_2
       replace p713 := eq_true p713
       replace q713 := eq_true q713
       refine start_ (n := 20) (S := fun w' => w'.cell? ⟨gb690, 0, none⟩ = some (.bool a1_0) ∧ w'.cell? ⟨gb690, 1, none⟩ = some (.string a1_1) ∧ w'.cell? ⟨gb690, 2, none⟩ = some (.string a1_2) ∧ w'.cell? ⟨gb690, 3, none⟩ = some (.string a1_3) ∧ w'.cell? (ad712.add ((x7_1).toNat * 3)) = some (.string ((rd_T72 l0 x7_1).f0)) ∧ w'.cell? ⟨(ad712.add ((x7_1).toNat * 3)).block, (ad712.add ((x7_1).toNat * 3)).off + 1, none⟩ = some (.string ((rd_T72 l0 x7_1).f1)) ∧ w'.cell? ⟨(ad712.add ((x7_1).toNat * 3)).block, (ad712.add ((x7_1).toNat * 3)).off + 2, none⟩ = some (.string ((rd_T72 l0 x7_1).f2)) ∧ w'.cell? (ad712.add ((x7_1).toNat * 3)) = some (.string ((rd_T72 l0 x7_1).f0)) ∧ w'.cell? ⟨(ad712.add ((x7_1).toNat * 3)).block, (ad712.add ((x7_1).toNat * 3)).off + 1, none⟩ = some (.string ((rd_T72 l0 x7_1).f1)) ∧ w'.cell? ⟨(ad712.add ((x7_1).toNat * 3)).block, (ad712.add ((x7_1).toNat * 3)).off + 2, none⟩ = some (.string ((rd_T72 l0 x7_1).f2))) (ds := []) #[false, false, false, false, false, false, false, false, false, false, false, false, false, false, false, false, false, false, false, false] (by kernel_rfl) rfl rfl ⟨(blk_cell BK690.out 0).trans rfl, (blk_cell BK690.out 1).trans rfl, (blk_cell BK690.out 2).trans rfl, (blk_cell BK690.out 3).trans rfl, ((HB.out.cell (World.block_lt_of_cell? w _ hw712_0)).trans hw712_0), ((HB.out.cell (World.block_lt_of_cell? w _ hw712_1)).trans hw712_1), ((HB.out.cell (World.block_lt_of_cell? w _ hw712_2)).trans hw712_2), ((HB.out.cell (World.block_lt_of_cell? w _ hw713_0)).trans hw713_0), ((HB.out.cell (World.block_lt_of_cell? w _ hw713_1)).trans hw713_1), ((HB.out.cell (World.block_lt_of_cell? w _ hw713_2)).trans hw713_2)⟩ (fun hHeld => ?_); refine with_tabW spec_l12One.tab9 spec_l12One.bits9 (fun HT_ HW_ => ?_)
       generalize wc.drew = w40 at HO_5 BK690 HB hx712_0 hx712_1 hx712_2 hx713_0 hx713_1 hx713_2 hHeld ⊢
       refine pu_ (i := 0) (N := some 34) ?_
       refine pu_ (i := 1) (N := some 35) ?_
       refine pu_ (i := 2) (N := some 36) ?_
       refine pu_ (i := 3) (N := some 37) ?_
       refine pu_ (i := 5) (N := some 39) ?_
       refine pu_ (i := 6) (N := some 40) ?_
       refine tk_ (i := 4) (N := some 38) hHeld ?_
       refine tk_ (i := 7) (N := some 41) hHeld ?_
       refine pu_ (i := 8) (N := some 42) ?_
       refine pu_ (i := 9) (N := some 43) ?_
       refine pu_ (i := 10) (N := some 44) ?_
       refine pu_ (i := 11) (N := some 45) ?_
       refine pu_ (i := 12) (N := some 46) ?_
       refine pu_ (i := 13) (N := some 47) ?_
       refine pu_ (i := 15) (N := some 49) ?_
       refine pu_ (i := 16) (N := some 50) ?_
       refine tk_ (i := 14) (N := some 48) hHeld ?_
       refine tk_ (i := 17) (N := some 51) hHeld ?_
       refine pu_ (i := 18) (N := some 52) ?_
       refine pu_ (i := 19) (N := some 53) ?_
       refine done_ (done_of HT_.out (by kernel_rfl)) ?_
       (try clear hHeld)
       have p714 : 0 ≤ (x7_1 : Int) := of_decide_eq_true as_
       have q714 : x7_1 < (l0.length : Int) := of_decide_eq_true as_
       obtain ⟨ad714, e714, hx714_0, hx714_1, hx714_2⟩ := at_T72 HR0.out x7_1 p714 q714
       obtain rfl : ad712 = ad714 := (by injection e714)
       replace hx714_0 := bc_ HB.out hx714_0
       replace hx714_1 := bc_ HB.out hx714_1
       replace hx714_2 := bc_ HB.out hx714_2
       replace p714 := eq_true p714
       replace q714 := eq_true q714
       try go_wp2_with (first | ((with_reducible refine gate_builtin (b := .append) (xs := #[.tmp 54, .tmp 59]) rfl ?_); at_builtin; refine Kd.R_append k72 (w0 := w) w.heap.size rfl (.tmp 54) (.tmp 59) 55 72 (.agg #[(.string ⟨#[]⟩), (.string ⟨#[]⟩), (.string ⟨#[]⟩)]) 48 rfl Try.underlying55 info72 rfl (by decide) (by omega) u5 x5_1 (⟨(rd_T72 l0 x7_1).f0, (rd_T72 l0 x7_1).f1, (rd_T72 l0 x7_1).f2⟩ : S72) [.string ((rd_T72 l0 x7_1).f0), .string ((rd_T72 l0 x7_1).f1), .string ((rd_T72 l0 x7_1).f2)] (fun _ => True) (fun _ => False) rfl rfl ?aP (fun _ hk => hk.elim) ?aF ?aO ?aB ?aS ?aL ?_; (case aP => exact k72_mkM _ _ _ (⟨(rd_T72 l0 x7_1).f0, (rd_T72 l0 x7_1).f1, (rd_T72 l0 x7_1).f2⟩ : S72)); (case aB => exact (bG_ GE690.out)); (case aF => exact (fun _ _ => trivial)); (case aO => exact (vR_ HO_5.out)); (case aS => exact (below_size (bG_ GE690.out))); (case aL => have := LMc39.out; omega); intro v716 w41 ho hb hg hat; rw [← Ny715.out] at ho; replace BK690 := A_ (blk_grown (g := gb690) (o := .cells #[.bool a1_0, .string a1_1, .string a1_2, .string a1_3] 74 (0, 0)) (vb_ BK690.out) hg (Kd.R_ne HO_5.out BK690.out (by decide))); replace HB := A_ (hb); have HO717 := A_ (ho); clear HO_5; clear ho hb hg hat))
       go_roundg kj7
       case measure => have := HK1.out; have := HJ7.out; omega
       case rel => exact ⟨(y715), (x6_1), (wrap64 (x7_1 + 1)), rs_, rs_, H', ⟨by have := HK1.out; have := HJ7.out; omega⟩, ⟨vR_ HO717.out⟩, ⟨vb_ BK690.out⟩, ⟨bG_ GE690.out⟩⟩
end Go.Proofs.Ytbgggcgjijljkaa.Q
