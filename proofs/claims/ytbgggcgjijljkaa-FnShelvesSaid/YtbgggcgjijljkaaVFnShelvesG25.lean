-- PRINTED by print.py (a twelfth state) out of the translation. Not trusted: Lean checks it.
import Derived.Test.YtbgggcgjijljkaaVFnShelvesG22
import Derived.Test.YtbgggcgjijljkaaVFnShelvesG24
namespace Go.Proofs.Ytbgggcgjijljkaa.Q
open Go.RowKit Go.Proofs.YtbgggcgjijljkaaW.PrintWords Go.Proofs.YtbgggcgjijljkaaW.PrintLast Go.Proofs.YtbgggcgjijljkaaW.PrintMore
attribute [local go_sem] max2_int min2_int max_two min_two max_three min_three max_four min_four   -- for this text's walks alone
set_option linter.unusedVariables false
set_option linter.unusedSimpArgs false
def impl_PropsOk.l0 : Nat → List (S72) → List (S72) → Int → Int → Option (Bool)
 | 0, _, _, _, _ => none
 | k + 1, x0, x5, x6, x7 => if x7 < x6 then (if 0 ≤ x7 then (if x7 < (x5.length : Int) then ((impl_propOk.f k ((rd_T72 x5 x7).f0) ((rd_T72 x5 x7).f1) ((rd_T72 x5 x7).f2)).bind fun t297 => (if t297 = true then (if x7 > 0 then (if 0 ≤ (wrap64 (x7 - 1)) then (if (wrap64 (x7 - 1)) < (x0.length : Int) then ((impl_lessProp.f ((rd_T72 x0 (wrap64 (x7 - 1))).f0) ((rd_T72 x0 (wrap64 (x7 - 1))).f1) ((rd_T72 x0 (wrap64 (x7 - 1))).f2) ((rd_T72 x5 x7).f0) ((rd_T72 x5 x7).f1) ((rd_T72 x5 x7).f2)).bind fun t299 => (if t299 = true then (impl_PropsOk.l0 k x0 x5 x6 (wrap64 (x7 + 1))) else (some false))) else (none)) else (none)) else (impl_PropsOk.l0 k x0 x5 x6 (wrap64 (x7 + 1)))) else (some false))) else (none)) else (none)) else (some (decide ((x0.length : Int) ≤ 4)))
def impl_PropsOk.f (k : Nat) (l0 : List (S72)) : Option (Bool) := impl_PropsOk.l0 k l0 l0 (l0.length : Int) 0
def impl_PropsOk.T4 : Bool × List (List Nat × List Nat) := (true, [([], []), ([0], [0]), ([1], [1]), ([2, 1], [2]), ([3], [3]), ([4, 3], [3, 4]), ([5, 3, 3], [3, 5]), ([6], [6]), ([6], [6]), ([8, 6], [6, 8]), ([7, 9, 6], [6, 7, 9]), ([10, 6], [6, 10]), ([6], [6]), ([11, 12, 6, 6], [6, 11, 12]), ([13, 6], [6, 13]), ([6, 14, 3], [3, 6, 14]), ([3, 15], [3, 15])])
def impl_PropsOk.B4 : List Nat := [0, 1, 3, 7, 15, 31, 63, 127, 127, 383, 1023, 2047, 127, 8191, 16383, 32767, 65535]
theorem impl_PropsOk.tab4 : rtab .any (opsOf Try.f58 4) = impl_PropsOk.T4 := by kernel_rfl
theorem impl_PropsOk.bits4 : waitsOk impl_PropsOk.T4.2 impl_PropsOk.B4 = true := by kernel_rfl
set_option maxHeartbeats 8000000 in
set_option maxRecDepth 100000 in
theorem impl_PropsOk.calls (k : Nat) (A0 : Option Addr) (c0 : Nat) (l0 : List (S72)) (r : Bool) (w : World) (hr0 : Kd.C k72 w A0 l0.length l0) (hc0 : l0.length ≤ c0) (h : impl_PropsOk.f k l0 = some r) :
 Calls Try.prog 58 #[.slice A0 l0.length c0] w fun e w' => e = .returned (.bool r) ∧ Below w.heap.size w w' := by
 have hu72 := Try.underlying72
 have HR0 := Aside0.mk hr0
 have HC0 := Aside0.mk hc0
 clear hr0 hc0
 have HB := A_ (Below.refl w.heap.size w)
 have H : (impl_PropsOk.l0 k l0 l0 (l0.length : Int) 0) = some r := h
 clear h
 have H' := Aside0.mk H
 clear H
 go_enter Try.func58, Try.ntmps58
 go_wp2
 go_loopg [7] k (fun kq v7 w' => ∃ (x7_1 : Int), v7 = .int .i64 x7_1 ∧ Aside0 (impl_PropsOk.l0 kq l0 l0 (l0.length : Int) x7_1 = some r) ∧ Aside0 (kq ≤ k) ∧ Aside0 (Below w.heap.size w w'))
 case atStart => exact ⟨(0), rs_, H', ⟨Nat.le_refl _⟩, ⟨bB_⟩⟩
 case round =>
  clear H'
  obtain ⟨x7_1, rfl, HA, HK1, HB⟩ := hrel
  cases gk with
  | zero => exact absurd HA.out (by simp [impl_PropsOk.l0])
  | succ k1 =>
   have H := HA.out
   clear HA
   simp only [impl_PropsOk.l0] at H
   by_cases c2 : x7_1 < (l0.length : Int)
   rotate_left
   · rw [if_neg c2] at H
     have c2b0 : decide (x7_1 < (l0.length : Int)) = false := decide_eq_false c2
     clear c2
     obtain rfl := Option.some.inj H
     go_wp2
     go_ret
     exact ⟨rr_, bB_⟩
   rw [if_pos c2] at H
   have c2b0 : decide (x7_1 < (l0.length : Int)) = true := decide_eq_true c2
   clear c2
   by_cases c3 : 0 ≤ x7_1
   rotate_left
   · exact absurd H (by rw [if_neg c3]; simp)
   rw [if_pos c3] at H
   have c3b0 : decide (0 ≤ x7_1) = true := decide_eq_true c3
   clear c3
   by_cases c4 : x7_1 < (l0.length : Int)
   rotate_left
   · exact absurd H (by rw [if_neg c4]; simp)
   rw [if_pos c4] at H
   have c4b0 : decide (x7_1 < (l0.length : Int)) = true := decide_eq_true c4
   clear c4
   obtain ⟨t297, A5, H⟩ := bo_ H
   (try dsimp only at H)
   by_cases c6 : t297 = true
   · subst c6
     rw [if_pos rfl] at H
     by_cases c7 : x7_1 > 0
     rotate_left
     · rw [if_neg c7] at H
       have c7b0 : decide (0 < x7_1) = false := decide_eq_false c7
       clear c7
       have H' := Aside0.mk H
       clear H
       have p295 : 0 ≤ (x7_1 : Int) := of_decide_eq_true as_
       have q295 : x7_1 < (l0.length : Int) := of_decide_eq_true as_
       obtain ⟨ad295, e295, hx295_0, hx295_1, hx295_2⟩ := at_T72 HR0.out x7_1 p295 q295
       cases e295
       replace hx295_0 := bc_ HB.out hx295_0
       replace hx295_1 := bc_ HB.out hx295_1
       replace hx295_2 := bc_ HB.out hx295_2
       replace p295 := eq_true p295
       replace q295 := eq_true q295
       try go_wp2_with (first | ((with_reducible refine gate_dst (N := 4) rfl ?_); refine bx_ (N := 4) (cs := #[.string (⟨#[]⟩ : ByteArray), .string (⟨#[]⟩ : ByteArray), .string (⟨#[]⟩ : ByteArray)]) (t := 72) ?_; intro gb296 hg w25 hbox hb; have BK296 := A_ (hbox); have GW296 := A_ (ge_ hg bB_ : w.heap.size ≤ gb296); have GE296 := A_ (ge_ hg bB_ : w.heap.size ≤ gb296); replace HB := A_ (below_step bB_ hb); clear hb hbox hg; obtain ⟨hcz26_0, hcz26_1, hcz26_2, hfz26_0, hfz26_1, hfz26_2⟩ := cz3_ BK296.out))
       have n0_ : Aside0 ((((w25.setCell ⟨gb296, 0, none⟩ (.string ((rd_T72 l0 x7_1).f0))).setCell ⟨gb296, 1, none⟩ (.string ((rd_T72 l0 x7_1).f1))).setCell ⟨gb296, 2, none⟩ (.string ((rd_T72 l0 x7_1).f2))).heap[gb296]? = some (.cells #[.string ((rd_T72 l0 x7_1).f0), .string ((rd_T72 l0 x7_1).f1), .string ((rd_T72 l0 x7_1).f2)] 72 (0, 0))) := ⟨by (with_reducible repeat (first | refine blk_drewN ?_ _ | refine blk_drew ?_ | refine blk_alloc ?_ _)); refine blk_put (cs := #[.string ((rd_T72 l0 x7_1).f0), .string ((rd_T72 l0 x7_1).f1), .string (⟨#[]⟩ : ByteArray)]) ?_ 2 _ rfl; (with_reducible repeat (first | refine blk_drewN ?_ _ | refine blk_drew ?_ | refine blk_alloc ?_ _)); refine blk_put (cs := #[.string ((rd_T72 l0 x7_1).f0), .string (⟨#[]⟩ : ByteArray), .string (⟨#[]⟩ : ByteArray)]) ?_ 1 _ rfl; (with_reducible repeat (first | refine blk_drewN ?_ _ | refine blk_drew ?_ | refine blk_alloc ?_ _)); refine blk_put (cs := #[.string (⟨#[]⟩ : ByteArray), .string (⟨#[]⟩ : ByteArray), .string (⟨#[]⟩ : ByteArray)]) ?_ 0 _ rfl; (with_reducible repeat (first | refine blk_drewN ?_ _ | refine blk_drew ?_ | refine blk_alloc ?_ _)); exact BK296.out⟩
       have n1_ : Aside0 (Below w.heap.size w (((w25.setCell ⟨gb296, 0, none⟩ (.string ((rd_T72 l0 x7_1).f0))).setCell ⟨gb296, 1, none⟩ (.string ((rd_T72 l0 x7_1).f1))).setCell ⟨gb296, 2, none⟩ (.string ((rd_T72 l0 x7_1).f2)))) := ⟨bG_ GE296.out⟩
       (try clear BK296)
       (try clear HB)
       generalize (((w25.setCell ⟨gb296, 0, none⟩ (.string ((rd_T72 l0 x7_1).f0))).setCell ⟨gb296, 1, none⟩ (.string ((rd_T72 l0 x7_1).f1))).setCell ⟨gb296, 2, none⟩ (.string ((rd_T72 l0 x7_1).f2))) = w27 at n0_ n1_ ⊢
       have BK296 := n0_
       have HB := n1_
       clear n0_ n1_
       replace BK296 := A_ (blk_drew BK296.out)
       replace HB := A_ (below_drew1 HB.out)
       refine start_ (n := 17) (S := fun w' => w'.cell? ⟨gb296, 0, none⟩ = some (.string ((rd_T72 l0 x7_1).f0)) ∧ w'.cell? ⟨gb296, 1, none⟩ = some (.string ((rd_T72 l0 x7_1).f1)) ∧ w'.cell? ⟨gb296, 2, none⟩ = some (.string ((rd_T72 l0 x7_1).f2))) (ds := []) #[false, false, false, false, false, false, false, false, false, false, false, false, false, false, false, false, false] (by kernel_rfl) rfl rfl (hl_ BK296.out) (fun hHeld => ?_); refine with_tabW impl_PropsOk.tab4 impl_PropsOk.bits4 (fun HT_ HW_ => ?_)
       generalize w27.drew = w28 at BK296 HB hHeld ⊢
       refine tk_ (i := 0) (N := some 12) hHeld ?_
       refine on_ (i := 1) (N := some 13) (fun K hK => ?_)
       refine goes_ Try.func93 (by kernel_rfl) rfl #[.agg #[.string ((rd_T72 l0 x7_1).f0), .string ((rd_T72 l0 x7_1).f1), .string ((rd_T72 l0 x7_1).f2)]] (by rfl) rfl rfl ml_ ?_
       with_reducible refine (impl_propOk.calls k1 ((rd_T72 l0 x7_1).f0) ((rd_T72 l0 x7_1).f1) ((rd_T72 l0 x7_1).f2) true _ A5.out).mono ?_
       rintro e w29 ⟨rfl, hb⟩
       refine ⟨_, rfl, ?_⟩
       replace BK296 := A_ (bw_ BK296.out hb)
       replace HB := A_ (below_step (bG_ GE296.out) hb)
       (try clear hb)
       (try clear hb2)
       (try clear hk)
       (try clear hi)
       refine hK.out _ _ (hl_ BK296.out) (fun hHeld => ?_)
       clear hK K
       refine no_ (some 13) ?_
       refine pu_ (i := 2) (N := some 14) ?_
       refine pu_ (i := 3) (N := some 15) ?_
       refine pu_ (i := 4) (N := some 16) ?_
       refine pu_ (i := 5) (N := some 17) ?_
       refine pu_ (i := 6) (N := some 18) ?_
       refine pn_ (i := 7) (N := some 19) ?_
       refine pn_ (i := 8) (N := some 20) ?_
       refine pn_ (i := 9) (N := some 21) ?_
       refine pn_ (i := 10) (N := some 22) ?_
       refine pn_ (i := 11) (N := some 23) ?_
       refine pn_ (i := 12) (N := some 24) ?_
       refine pn_ (i := 13) (N := some 25) ?_
       refine pn_ (i := 14) (N := some 26) ?_
       refine pu_ (i := 15) (N := some 27) ?_
       refine pu_ (i := 16) (N := some 28) ?_
       refine done_ (done_of HT_.out (by kernel_rfl)) ?_
       (try clear hHeld)
       try go_wp2
       go_roundg k1
       case measure => have := HK1.out; omega
       case rel => exact ⟨(wrap64 (x7_1 + 1)), rs_, H', ⟨by have := HK1.out; omega⟩, ⟨bG_ GE296.out⟩⟩
     rw [if_pos c7] at H
     have c7b0 : decide (0 < x7_1) = true := decide_eq_true c7
     clear c7
     obtain ⟨ji8, hji8⟩ : ∃ j_ : Int, (wrap64 (x7_1 - 1)) = j_ := ⟨_, rfl⟩
     replace H : (if 0 ≤ (ji8) then (if (ji8) < (l0.length : Int) then ((impl_lessProp.f ((rd_T72 l0 (ji8)).f0) ((rd_T72 l0 (ji8)).f1) ((rd_T72 l0 (ji8)).f2) ((rd_T72 l0 x7_1).f0) ((rd_T72 l0 x7_1).f1) ((rd_T72 l0 x7_1).f2)).bind fun t299 => (if t299 = true then (impl_PropsOk.l0 k1 l0 l0 (l0.length : Int) (wrap64 (x7_1 + 1))) else (some false))) else (none)) else (none)) = some r := by first | (rw [hji8] at H; exact H) | (simp only [hji8] at H ⊢; exact H)
     (try rw [hji8] at A5)
     have hji8w : (IntKind.i64.wrap (x7_1 - 1)) = ji8 := (i64_w _).trans hji8
     by_cases c9 : 0 ≤ (ji8)
     rotate_left
     · exact absurd H (by rw [if_neg c9]; simp)
     rw [if_pos c9] at H
     have c9b0 : decide (0 ≤ (ji8)) = true := decide_eq_true c9
     clear c9
     by_cases c10 : (ji8) < (l0.length : Int)
     rotate_left
     · exact absurd H (by rw [if_neg c10]; simp)
     rw [if_pos c10] at H
     have c10b0 : decide ((ji8) < (l0.length : Int)) = true := decide_eq_true c10
     clear c10
     obtain ⟨t299, A11, H⟩ := bo_ H
     (try dsimp only at H)
     by_cases c12 : t299 = true
     · subst c12
       rw [if_pos rfl] at H
       have H' := Aside0.mk H
       clear H
       have p295 : 0 ≤ (x7_1 : Int) := of_decide_eq_true as_
       have q295 : x7_1 < (l0.length : Int) := of_decide_eq_true as_
       obtain ⟨ad295, e295, hx295_0, hx295_1, hx295_2⟩ := at_T72 HR0.out x7_1 p295 q295
       cases e295
       replace hx295_0 := bc_ HB.out hx295_0
       replace hx295_1 := bc_ HB.out hx295_1
       replace hx295_2 := bc_ HB.out hx295_2
       replace p295 := eq_true p295
       replace q295 := eq_true q295
       try go_wp2_with (first | ((with_reducible refine gate_dst (N := 4) rfl ?_); refine bx_ (N := 4) (cs := #[.string (⟨#[]⟩ : ByteArray), .string (⟨#[]⟩ : ByteArray), .string (⟨#[]⟩ : ByteArray)]) (t := 72) ?_; intro gb296 hg w13 hbox hb; have BK296 := A_ (hbox); have GW296 := A_ (ge_ hg bB_ : w.heap.size ≤ gb296); have GE296 := A_ (ge_ hg bB_ : w.heap.size ≤ gb296); replace HB := A_ (below_step bB_ hb); clear hb hbox hg; obtain ⟨hcz14_0, hcz14_1, hcz14_2, hfz14_0, hfz14_1, hfz14_2⟩ := cz3_ BK296.out))
       have n0_ : Aside0 ((((w13.setCell ⟨gb296, 0, none⟩ (.string ((rd_T72 l0 x7_1).f0))).setCell ⟨gb296, 1, none⟩ (.string ((rd_T72 l0 x7_1).f1))).setCell ⟨gb296, 2, none⟩ (.string ((rd_T72 l0 x7_1).f2))).heap[gb296]? = some (.cells #[.string ((rd_T72 l0 x7_1).f0), .string ((rd_T72 l0 x7_1).f1), .string ((rd_T72 l0 x7_1).f2)] 72 (0, 0))) := ⟨by (with_reducible repeat (first | refine blk_drewN ?_ _ | refine blk_drew ?_ | refine blk_alloc ?_ _)); refine blk_put (cs := #[.string ((rd_T72 l0 x7_1).f0), .string ((rd_T72 l0 x7_1).f1), .string (⟨#[]⟩ : ByteArray)]) ?_ 2 _ rfl; (with_reducible repeat (first | refine blk_drewN ?_ _ | refine blk_drew ?_ | refine blk_alloc ?_ _)); refine blk_put (cs := #[.string ((rd_T72 l0 x7_1).f0), .string (⟨#[]⟩ : ByteArray), .string (⟨#[]⟩ : ByteArray)]) ?_ 1 _ rfl; (with_reducible repeat (first | refine blk_drewN ?_ _ | refine blk_drew ?_ | refine blk_alloc ?_ _)); refine blk_put (cs := #[.string (⟨#[]⟩ : ByteArray), .string (⟨#[]⟩ : ByteArray), .string (⟨#[]⟩ : ByteArray)]) ?_ 0 _ rfl; (with_reducible repeat (first | refine blk_drewN ?_ _ | refine blk_drew ?_ | refine blk_alloc ?_ _)); exact BK296.out⟩
       have n1_ : Aside0 (Below w.heap.size w (((w13.setCell ⟨gb296, 0, none⟩ (.string ((rd_T72 l0 x7_1).f0))).setCell ⟨gb296, 1, none⟩ (.string ((rd_T72 l0 x7_1).f1))).setCell ⟨gb296, 2, none⟩ (.string ((rd_T72 l0 x7_1).f2)))) := ⟨bG_ GE296.out⟩
       (try clear BK296)
       (try clear HB)
       generalize (((w13.setCell ⟨gb296, 0, none⟩ (.string ((rd_T72 l0 x7_1).f0))).setCell ⟨gb296, 1, none⟩ (.string ((rd_T72 l0 x7_1).f1))).setCell ⟨gb296, 2, none⟩ (.string ((rd_T72 l0 x7_1).f2))) = w15 at n0_ n1_ ⊢
       have BK296 := n0_
       have HB := n1_
       clear n0_ n1_
       replace BK296 := A_ (blk_drew BK296.out)
       replace HB := A_ (below_drew1 HB.out)
       have p298 : 0 ≤ ((ji8) : Int) := of_decide_eq_true as_
       have q298 : (ji8) < (l0.length : Int) := of_decide_eq_true as_
       obtain ⟨ad298, e298, hx298_0, hx298_1, hx298_2⟩ := at_T72 HR0.out (ji8) p298 q298
       have hw298_2 := hx298_2
       have hw298_1 := hx298_1
       have hw298_0 := hx298_0
       obtain rfl : ad295 = ad298 := (by injection e298)
       replace hx298_0 := bc_ HB.out hx298_0
       replace hx298_1 := bc_ HB.out hx298_1
       replace hx298_2 := bc_ HB.out hx298_2
       replace p298 := eq_true p298
       replace q298 := eq_true q298
       refine start_ (n := 17) (S := fun w' => w'.cell? ⟨gb296, 0, none⟩ = some (.string ((rd_T72 l0 x7_1).f0)) ∧ w'.cell? ⟨gb296, 1, none⟩ = some (.string ((rd_T72 l0 x7_1).f1)) ∧ w'.cell? ⟨gb296, 2, none⟩ = some (.string ((rd_T72 l0 x7_1).f2)) ∧ w'.cell? (ad295.add (((ji8)).toNat * 3)) = some (.string ((rd_T72 l0 (ji8)).f0)) ∧ w'.cell? ⟨(ad295.add (((ji8)).toNat * 3)).block, (ad295.add (((ji8)).toNat * 3)).off + 1, none⟩ = some (.string ((rd_T72 l0 (ji8)).f1)) ∧ w'.cell? ⟨(ad295.add (((ji8)).toNat * 3)).block, (ad295.add (((ji8)).toNat * 3)).off + 2, none⟩ = some (.string ((rd_T72 l0 (ji8)).f2))) (ds := []) #[false, false, false, false, false, false, false, false, false, false, false, false, false, false, false, false, false] (by kernel_rfl) rfl rfl ⟨(blk_cell BK296.out 0).trans rfl, (blk_cell BK296.out 1).trans rfl, (blk_cell BK296.out 2).trans rfl, ((HB.out.cell (World.block_lt_of_cell? w _ hw298_0)).trans hw298_0), ((HB.out.cell (World.block_lt_of_cell? w _ hw298_1)).trans hw298_1), ((HB.out.cell (World.block_lt_of_cell? w _ hw298_2)).trans hw298_2)⟩ (fun hHeld => ?_); refine with_tabW impl_PropsOk.tab4 impl_PropsOk.bits4 (fun HT_ HW_ => ?_)
       generalize w15.drew = w16 at BK296 HB hx298_0 hx298_1 hx298_2 hHeld ⊢
       refine tk_ (i := 0) (N := some 12) hHeld ?_
       refine on_ (i := 1) (N := some 13) (fun K hK => ?_)
       refine goes_ Try.func93 (by kernel_rfl) rfl #[.agg #[.string ((rd_T72 l0 x7_1).f0), .string ((rd_T72 l0 x7_1).f1), .string ((rd_T72 l0 x7_1).f2)]] (by rfl) rfl rfl ml_ ?_
       with_reducible refine (impl_propOk.calls k1 ((rd_T72 l0 x7_1).f0) ((rd_T72 l0 x7_1).f1) ((rd_T72 l0 x7_1).f2) true _ A5.out).mono ?_
       rintro e w17 ⟨rfl, hb⟩
       refine ⟨_, rfl, ?_⟩
       replace BK296 := A_ (bw_ BK296.out hb)
       replace HB := A_ (below_step (bG_ GE296.out) hb)
       (try clear hb)
       (try clear hb2)
       (try clear hk)
       (try clear hi)
       refine hK.out _ _ ⟨(blk_cell BK296.out 0).trans rfl, (blk_cell BK296.out 1).trans rfl, (blk_cell BK296.out 2).trans rfl, ((HB.out.cell (World.block_lt_of_cell? w _ hw298_0)).trans hw298_0), ((HB.out.cell (World.block_lt_of_cell? w _ hw298_1)).trans hw298_1), ((HB.out.cell (World.block_lt_of_cell? w _ hw298_2)).trans hw298_2)⟩ (fun hHeld => ?_)
       clear hK K
       refine no_ (some 13) ?_
       refine pu_ (i := 2) (N := some 14) ?_
       refine pu_ (i := 3) (N := some 15) ?_
       refine pu_ (i := 4) (N := some 16) ?_
       refine pu_ (i := 5) (N := some 17) ?_
       refine pu_ (i := 6) (N := some 18) ?_
       refine pu_ (i := 7) (N := some 19) ?_
       refine pu_ (i := 8) (N := some 20) ?_
       refine pu_ (i := 9) (N := some 21) ?_
       refine pu_ (i := 10) (N := some 22) ?_
       refine tk_ (i := 11) (N := some 23) hHeld ?_
       refine tk_ (i := 12) (N := some 24) hHeld ?_
       refine on_ (i := 13) (N := some 25) (fun K hK => ?_)
       refine goes_ Try.func100 (by kernel_rfl) rfl #[.agg #[.string ((rd_T72 l0 (ji8)).f0), .string ((rd_T72 l0 (ji8)).f1), .string ((rd_T72 l0 (ji8)).f2)], .agg #[.string ((rd_T72 l0 x7_1).f0), .string ((rd_T72 l0 x7_1).f1), .string ((rd_T72 l0 x7_1).f2)]] (by rfl) rfl rfl (by (try simp only [List.map_toArray, List.map_cons, List.map_nil]); first | done | (simp only [hji8]; rfl) | rfl | (simp only [List.length_drop, List.length_take]; rfl)) ?_
       with_reducible refine (impl_lessProp.calls ((rd_T72 l0 (ji8)).f0) ((rd_T72 l0 (ji8)).f1) ((rd_T72 l0 (ji8)).f2) ((rd_T72 l0 x7_1).f0) ((rd_T72 l0 x7_1).f1) ((rd_T72 l0 x7_1).f2) true _ A11.out).mono ?_
       rintro e w18 ⟨rfl, hb⟩
       refine ⟨_, rfl, ?_⟩
       replace BK296 := A_ (bw_ BK296.out hb)
       replace HB := A_ (below_step (bG_ GE296.out) hb)
       (try clear hb)
       (try clear hb2)
       (try clear hk)
       (try clear hi)
       refine hK.out _ _ ⟨(blk_cell BK296.out 0).trans rfl, (blk_cell BK296.out 1).trans rfl, (blk_cell BK296.out 2).trans rfl, ((HB.out.cell (World.block_lt_of_cell? w _ hw298_0)).trans hw298_0), ((HB.out.cell (World.block_lt_of_cell? w _ hw298_1)).trans hw298_1), ((HB.out.cell (World.block_lt_of_cell? w _ hw298_2)).trans hw298_2)⟩ (fun hHeld => ?_)
       clear hK K
       refine no_ (some 25) ?_
       refine pu_ (i := 14) (N := some 26) ?_
       refine pu_ (i := 15) (N := some 27) ?_
       refine pu_ (i := 16) (N := some 28) ?_
       refine done_ (done_of HT_.out (by kernel_rfl)) ?_
       (try clear hHeld)
       try go_wp2
       go_roundg k1
       case measure => have := HK1.out; omega
       case rel => exact ⟨(wrap64 (x7_1 + 1)), rs_, H', ⟨by have := HK1.out; omega⟩, ⟨bG_ GE296.out⟩⟩
     · replace c12 := Bool.eq_false_iff.mpr c12
       subst c12
       rw [if_neg nf_] at H
       obtain rfl := Option.some.inj H
       have p295 : 0 ≤ (x7_1 : Int) := of_decide_eq_true as_
       have q295 : x7_1 < (l0.length : Int) := of_decide_eq_true as_
       obtain ⟨ad295, e295, hx295_0, hx295_1, hx295_2⟩ := at_T72 HR0.out x7_1 p295 q295
       cases e295
       replace hx295_0 := bc_ HB.out hx295_0
       replace hx295_1 := bc_ HB.out hx295_1
       replace hx295_2 := bc_ HB.out hx295_2
       replace p295 := eq_true p295
       replace q295 := eq_true q295
       try go_wp2_with (first | ((with_reducible refine gate_dst (N := 4) rfl ?_); refine bx_ (N := 4) (cs := #[.string (⟨#[]⟩ : ByteArray), .string (⟨#[]⟩ : ByteArray), .string (⟨#[]⟩ : ByteArray)]) (t := 72) ?_; intro gb296 hg w19 hbox hb; have BK296 := A_ (hbox); have GW296 := A_ (ge_ hg bB_ : w.heap.size ≤ gb296); have GE296 := A_ (ge_ hg bB_ : w.heap.size ≤ gb296); replace HB := A_ (below_step bB_ hb); clear hb hbox hg; obtain ⟨hcz20_0, hcz20_1, hcz20_2, hfz20_0, hfz20_1, hfz20_2⟩ := cz3_ BK296.out))
       have n0_ : Aside0 ((((w19.setCell ⟨gb296, 0, none⟩ (.string ((rd_T72 l0 x7_1).f0))).setCell ⟨gb296, 1, none⟩ (.string ((rd_T72 l0 x7_1).f1))).setCell ⟨gb296, 2, none⟩ (.string ((rd_T72 l0 x7_1).f2))).heap[gb296]? = some (.cells #[.string ((rd_T72 l0 x7_1).f0), .string ((rd_T72 l0 x7_1).f1), .string ((rd_T72 l0 x7_1).f2)] 72 (0, 0))) := ⟨by (with_reducible repeat (first | refine blk_drewN ?_ _ | refine blk_drew ?_ | refine blk_alloc ?_ _)); refine blk_put (cs := #[.string ((rd_T72 l0 x7_1).f0), .string ((rd_T72 l0 x7_1).f1), .string (⟨#[]⟩ : ByteArray)]) ?_ 2 _ rfl; (with_reducible repeat (first | refine blk_drewN ?_ _ | refine blk_drew ?_ | refine blk_alloc ?_ _)); refine blk_put (cs := #[.string ((rd_T72 l0 x7_1).f0), .string (⟨#[]⟩ : ByteArray), .string (⟨#[]⟩ : ByteArray)]) ?_ 1 _ rfl; (with_reducible repeat (first | refine blk_drewN ?_ _ | refine blk_drew ?_ | refine blk_alloc ?_ _)); refine blk_put (cs := #[.string (⟨#[]⟩ : ByteArray), .string (⟨#[]⟩ : ByteArray), .string (⟨#[]⟩ : ByteArray)]) ?_ 0 _ rfl; (with_reducible repeat (first | refine blk_drewN ?_ _ | refine blk_drew ?_ | refine blk_alloc ?_ _)); exact BK296.out⟩
       have n1_ : Aside0 (Below w.heap.size w (((w19.setCell ⟨gb296, 0, none⟩ (.string ((rd_T72 l0 x7_1).f0))).setCell ⟨gb296, 1, none⟩ (.string ((rd_T72 l0 x7_1).f1))).setCell ⟨gb296, 2, none⟩ (.string ((rd_T72 l0 x7_1).f2)))) := ⟨bG_ GE296.out⟩
       (try clear BK296)
       (try clear HB)
       generalize (((w19.setCell ⟨gb296, 0, none⟩ (.string ((rd_T72 l0 x7_1).f0))).setCell ⟨gb296, 1, none⟩ (.string ((rd_T72 l0 x7_1).f1))).setCell ⟨gb296, 2, none⟩ (.string ((rd_T72 l0 x7_1).f2))) = w21 at n0_ n1_ ⊢
       have BK296 := n0_
       have HB := n1_
       clear n0_ n1_
       replace BK296 := A_ (blk_drew BK296.out)
       replace HB := A_ (below_drew1 HB.out)
       have p298 : 0 ≤ ((ji8) : Int) := of_decide_eq_true as_
       have q298 : (ji8) < (l0.length : Int) := of_decide_eq_true as_
       obtain ⟨ad298, e298, hx298_0, hx298_1, hx298_2⟩ := at_T72 HR0.out (ji8) p298 q298
       have hw298_2 := hx298_2
       have hw298_1 := hx298_1
       have hw298_0 := hx298_0
       obtain rfl : ad295 = ad298 := (by injection e298)
       replace hx298_0 := bc_ HB.out hx298_0
       replace hx298_1 := bc_ HB.out hx298_1
       replace hx298_2 := bc_ HB.out hx298_2
       replace p298 := eq_true p298
       replace q298 := eq_true q298
       refine start_ (n := 17) (S := fun w' => w'.cell? ⟨gb296, 0, none⟩ = some (.string ((rd_T72 l0 x7_1).f0)) ∧ w'.cell? ⟨gb296, 1, none⟩ = some (.string ((rd_T72 l0 x7_1).f1)) ∧ w'.cell? ⟨gb296, 2, none⟩ = some (.string ((rd_T72 l0 x7_1).f2)) ∧ w'.cell? (ad295.add (((ji8)).toNat * 3)) = some (.string ((rd_T72 l0 (ji8)).f0)) ∧ w'.cell? ⟨(ad295.add (((ji8)).toNat * 3)).block, (ad295.add (((ji8)).toNat * 3)).off + 1, none⟩ = some (.string ((rd_T72 l0 (ji8)).f1)) ∧ w'.cell? ⟨(ad295.add (((ji8)).toNat * 3)).block, (ad295.add (((ji8)).toNat * 3)).off + 2, none⟩ = some (.string ((rd_T72 l0 (ji8)).f2))) (ds := []) #[false, false, false, false, false, false, false, false, false, false, false, false, false, false, false, false, false] (by kernel_rfl) rfl rfl ⟨(blk_cell BK296.out 0).trans rfl, (blk_cell BK296.out 1).trans rfl, (blk_cell BK296.out 2).trans rfl, ((HB.out.cell (World.block_lt_of_cell? w _ hw298_0)).trans hw298_0), ((HB.out.cell (World.block_lt_of_cell? w _ hw298_1)).trans hw298_1), ((HB.out.cell (World.block_lt_of_cell? w _ hw298_2)).trans hw298_2)⟩ (fun hHeld => ?_); refine with_tabW impl_PropsOk.tab4 impl_PropsOk.bits4 (fun HT_ HW_ => ?_)
       generalize w21.drew = w22 at BK296 HB hx298_0 hx298_1 hx298_2 hHeld ⊢
       refine tk_ (i := 0) (N := some 12) hHeld ?_
       refine on_ (i := 1) (N := some 13) (fun K hK => ?_)
       refine goes_ Try.func93 (by kernel_rfl) rfl #[.agg #[.string ((rd_T72 l0 x7_1).f0), .string ((rd_T72 l0 x7_1).f1), .string ((rd_T72 l0 x7_1).f2)]] (by rfl) rfl rfl ml_ ?_
       with_reducible refine (impl_propOk.calls k1 ((rd_T72 l0 x7_1).f0) ((rd_T72 l0 x7_1).f1) ((rd_T72 l0 x7_1).f2) true _ A5.out).mono ?_
       rintro e w23 ⟨rfl, hb⟩
       refine ⟨_, rfl, ?_⟩
       replace BK296 := A_ (bw_ BK296.out hb)
       replace HB := A_ (below_step (bG_ GE296.out) hb)
       (try clear hb)
       (try clear hb2)
       (try clear hk)
       (try clear hi)
       refine hK.out _ _ ⟨(blk_cell BK296.out 0).trans rfl, (blk_cell BK296.out 1).trans rfl, (blk_cell BK296.out 2).trans rfl, ((HB.out.cell (World.block_lt_of_cell? w _ hw298_0)).trans hw298_0), ((HB.out.cell (World.block_lt_of_cell? w _ hw298_1)).trans hw298_1), ((HB.out.cell (World.block_lt_of_cell? w _ hw298_2)).trans hw298_2)⟩ (fun hHeld => ?_)
       clear hK K
       refine no_ (some 13) ?_
       refine pu_ (i := 2) (N := some 14) ?_
       refine pu_ (i := 3) (N := some 15) ?_
       refine pu_ (i := 4) (N := some 16) ?_
       refine pu_ (i := 5) (N := some 17) ?_
       refine pu_ (i := 6) (N := some 18) ?_
       refine pu_ (i := 7) (N := some 19) ?_
       refine pu_ (i := 8) (N := some 20) ?_
       refine pu_ (i := 9) (N := some 21) ?_
       refine pu_ (i := 10) (N := some 22) ?_
       refine tk_ (i := 11) (N := some 23) hHeld ?_
       refine tk_ (i := 12) (N := some 24) hHeld ?_
       refine on_ (i := 13) (N := some 25) (fun K hK => ?_)
       refine goes_ Try.func100 (by kernel_rfl) rfl #[.agg #[.string ((rd_T72 l0 (ji8)).f0), .string ((rd_T72 l0 (ji8)).f1), .string ((rd_T72 l0 (ji8)).f2)], .agg #[.string ((rd_T72 l0 x7_1).f0), .string ((rd_T72 l0 x7_1).f1), .string ((rd_T72 l0 x7_1).f2)]] (by rfl) rfl rfl (by (try simp only [List.map_toArray, List.map_cons, List.map_nil]); first | done | (simp only [hji8]; rfl) | rfl | (simp only [List.length_drop, List.length_take]; rfl)) ?_
       with_reducible refine (impl_lessProp.calls ((rd_T72 l0 (ji8)).f0) ((rd_T72 l0 (ji8)).f1) ((rd_T72 l0 (ji8)).f2) ((rd_T72 l0 x7_1).f0) ((rd_T72 l0 x7_1).f1) ((rd_T72 l0 x7_1).f2) false _ A11.out).mono ?_
       rintro e w24 ⟨rfl, hb⟩
       refine ⟨_, rfl, ?_⟩
       replace BK296 := A_ (bw_ BK296.out hb)
       replace HB := A_ (below_step (bG_ GE296.out) hb)
       (try clear hb)
       (try clear hb2)
       (try clear hk)
       (try clear hi)
       refine hK.out _ _ ⟨(blk_cell BK296.out 0).trans rfl, (blk_cell BK296.out 1).trans rfl, (blk_cell BK296.out 2).trans rfl, ((HB.out.cell (World.block_lt_of_cell? w _ hw298_0)).trans hw298_0), ((HB.out.cell (World.block_lt_of_cell? w _ hw298_1)).trans hw298_1), ((HB.out.cell (World.block_lt_of_cell? w _ hw298_2)).trans hw298_2)⟩ (fun hHeld => ?_)
       clear hK K
       refine no_ (some 25) ?_
       refine pu_ (i := 14) (N := some 26) ?_
       refine pu_ (i := 15) (N := some 27) ?_
       refine pu_ (i := 16) (N := some 28) ?_
       refine done_ (done_of HT_.out (by kernel_rfl)) ?_
       (try clear hHeld)
       try go_wp2
       go_ret
       exact ⟨by first | rfl | (simp [errW_none, errW_some] <;> rfl) | (simp only [← hji8]; first | rfl | (simp [errW_none, errW_some] <;> rfl)) | (simp [*, errW_none, errW_some] <;> rfl), bG_ GE296.out⟩
   · replace c6 := Bool.eq_false_iff.mpr c6
     subst c6
     rw [if_neg nf_] at H
     obtain rfl := Option.some.inj H
     have p295 : 0 ≤ (x7_1 : Int) := of_decide_eq_true as_
     have q295 : x7_1 < (l0.length : Int) := of_decide_eq_true as_
     obtain ⟨ad295, e295, hx295_0, hx295_1, hx295_2⟩ := at_T72 HR0.out x7_1 p295 q295
     cases e295
     replace hx295_0 := bc_ HB.out hx295_0
     replace hx295_1 := bc_ HB.out hx295_1
     replace hx295_2 := bc_ HB.out hx295_2
     replace p295 := eq_true p295
     replace q295 := eq_true q295
     try go_wp2_with (first | ((with_reducible refine gate_dst (N := 4) rfl ?_); refine bx_ (N := 4) (cs := #[.string (⟨#[]⟩ : ByteArray), .string (⟨#[]⟩ : ByteArray), .string (⟨#[]⟩ : ByteArray)]) (t := 72) ?_; intro gb296 hg w30 hbox hb; have BK296 := A_ (hbox); have GW296 := A_ (ge_ hg bB_ : w.heap.size ≤ gb296); have GE296 := A_ (ge_ hg bB_ : w.heap.size ≤ gb296); replace HB := A_ (below_step bB_ hb); clear hb hbox hg; obtain ⟨hcz31_0, hcz31_1, hcz31_2, hfz31_0, hfz31_1, hfz31_2⟩ := cz3_ BK296.out))
     have n0_ : Aside0 ((((w30.setCell ⟨gb296, 0, none⟩ (.string ((rd_T72 l0 x7_1).f0))).setCell ⟨gb296, 1, none⟩ (.string ((rd_T72 l0 x7_1).f1))).setCell ⟨gb296, 2, none⟩ (.string ((rd_T72 l0 x7_1).f2))).heap[gb296]? = some (.cells #[.string ((rd_T72 l0 x7_1).f0), .string ((rd_T72 l0 x7_1).f1), .string ((rd_T72 l0 x7_1).f2)] 72 (0, 0))) := ⟨by (with_reducible repeat (first | refine blk_drewN ?_ _ | refine blk_drew ?_ | refine blk_alloc ?_ _)); refine blk_put (cs := #[.string ((rd_T72 l0 x7_1).f0), .string ((rd_T72 l0 x7_1).f1), .string (⟨#[]⟩ : ByteArray)]) ?_ 2 _ rfl; (with_reducible repeat (first | refine blk_drewN ?_ _ | refine blk_drew ?_ | refine blk_alloc ?_ _)); refine blk_put (cs := #[.string ((rd_T72 l0 x7_1).f0), .string (⟨#[]⟩ : ByteArray), .string (⟨#[]⟩ : ByteArray)]) ?_ 1 _ rfl; (with_reducible repeat (first | refine blk_drewN ?_ _ | refine blk_drew ?_ | refine blk_alloc ?_ _)); refine blk_put (cs := #[.string (⟨#[]⟩ : ByteArray), .string (⟨#[]⟩ : ByteArray), .string (⟨#[]⟩ : ByteArray)]) ?_ 0 _ rfl; (with_reducible repeat (first | refine blk_drewN ?_ _ | refine blk_drew ?_ | refine blk_alloc ?_ _)); exact BK296.out⟩
     have n1_ : Aside0 (Below w.heap.size w (((w30.setCell ⟨gb296, 0, none⟩ (.string ((rd_T72 l0 x7_1).f0))).setCell ⟨gb296, 1, none⟩ (.string ((rd_T72 l0 x7_1).f1))).setCell ⟨gb296, 2, none⟩ (.string ((rd_T72 l0 x7_1).f2)))) := ⟨bG_ GE296.out⟩
     (try clear BK296)
     (try clear HB)
     generalize (((w30.setCell ⟨gb296, 0, none⟩ (.string ((rd_T72 l0 x7_1).f0))).setCell ⟨gb296, 1, none⟩ (.string ((rd_T72 l0 x7_1).f1))).setCell ⟨gb296, 2, none⟩ (.string ((rd_T72 l0 x7_1).f2))) = w32 at n0_ n1_ ⊢
     have BK296 := n0_
     have HB := n1_
     clear n0_ n1_
     replace BK296 := A_ (blk_drew BK296.out)
     replace HB := A_ (below_drew1 HB.out)
     refine start_ (n := 17) (S := fun w' => w'.cell? ⟨gb296, 0, none⟩ = some (.string ((rd_T72 l0 x7_1).f0)) ∧ w'.cell? ⟨gb296, 1, none⟩ = some (.string ((rd_T72 l0 x7_1).f1)) ∧ w'.cell? ⟨gb296, 2, none⟩ = some (.string ((rd_T72 l0 x7_1).f2))) (ds := []) #[false, false, false, false, false, false, false, false, false, false, false, false, false, false, false, false, false] (by kernel_rfl) rfl rfl (hl_ BK296.out) (fun hHeld => ?_); refine with_tabW impl_PropsOk.tab4 impl_PropsOk.bits4 (fun HT_ HW_ => ?_)
     generalize w32.drew = w33 at BK296 HB hHeld ⊢
     refine tk_ (i := 0) (N := some 12) hHeld ?_
     refine on_ (i := 1) (N := some 13) (fun K hK => ?_)
     refine goes_ Try.func93 (by kernel_rfl) rfl #[.agg #[.string ((rd_T72 l0 x7_1).f0), .string ((rd_T72 l0 x7_1).f1), .string ((rd_T72 l0 x7_1).f2)]] (by rfl) rfl rfl ml_ ?_
     with_reducible refine (impl_propOk.calls k1 ((rd_T72 l0 x7_1).f0) ((rd_T72 l0 x7_1).f1) ((rd_T72 l0 x7_1).f2) false _ A5.out).mono ?_
     rintro e w34 ⟨rfl, hb⟩
     refine ⟨_, rfl, ?_⟩
     replace BK296 := A_ (bw_ BK296.out hb)
     replace HB := A_ (below_step (bG_ GE296.out) hb)
     (try clear hb)
     (try clear hb2)
     (try clear hk)
     (try clear hi)
     refine hK.out _ _ (hl_ BK296.out) (fun hHeld => ?_)
     clear hK K
     refine no_ (some 13) ?_
     refine pu_ (i := 2) (N := some 14) ?_
     refine pu_ (i := 3) (N := some 15) ?_
     refine pn_ (i := 4) (N := some 16) ?_
     refine pn_ (i := 5) (N := some 17) ?_
     refine pn_ (i := 6) (N := some 18) ?_
     refine pn_ (i := 7) (N := some 19) ?_
     refine pn_ (i := 8) (N := some 20) ?_
     refine pn_ (i := 9) (N := some 21) ?_
     refine pn_ (i := 10) (N := some 22) ?_
     refine pn_ (i := 11) (N := some 23) ?_
     refine pn_ (i := 12) (N := some 24) ?_
     refine pn_ (i := 13) (N := some 25) ?_
     refine pn_ (i := 14) (N := some 26) ?_
     refine pn_ (i := 15) (N := some 27) ?_
     refine pu_ (i := 16) (N := some 28) ?_
     refine done_ (done_of HT_.out (by kernel_rfl)) ?_
     (try clear hHeld)
     try go_wp2
     go_ret
     exact ⟨rr_, bG_ GE296.out⟩
def impl_NameOk.f (k : Nat) (a0 : ByteArray) : Option (Bool) := (impl_in.f (a0.size : Int) 1 8).bind fun t300 => (if t300 = true then ((impl_Plain.f k a0).bind fun t301 => (if t301 = true then ((strings_Contains.f a0 (⟨#[47]⟩ : ByteArray)).bind fun t302 => (if t302 = true then (some false) else (if a0.toList = ([46] : List UInt8) then (some false) else (some (a0.toList != ([46, 46] : List UInt8)))))) else (some false))) else (some false))
set_option maxHeartbeats 8000000 in
set_option maxRecDepth 100000 in
theorem impl_NameOk.calls (k : Nat) (a0 : ByteArray) (r : Bool) (w : World) (h : impl_NameOk.f k a0 = some r) :
 Calls Try.prog 130 #[.string a0] w fun e w' => e = .returned (.bool r) ∧ Drawn0 w w' := by
 have H : ((impl_in.f (a0.size : Int) 1 8).bind fun t300 => (if t300 = true then ((impl_Plain.f k a0).bind fun t301 => (if t301 = true then ((strings_Contains.f a0 (⟨#[47]⟩ : ByteArray)).bind fun t302 => (if t302 = true then (some false) else (if a0.toList = ([46] : List UInt8) then (some false) else (some (a0.toList != ([46, 46] : List UInt8)))))) else (some false))) else (some false))) = some r := h
 clear h
 obtain ⟨t300, A2, H⟩ := bo_ H
 (try dsimp only at H)
 by_cases c3 : t300 = true
 · subst c3
   rw [if_pos rfl] at H
   obtain ⟨t301, A4, H⟩ := bo_ H
   (try dsimp only at H)
   by_cases c5 : t301 = true
   · subst c5
     rw [if_pos rfl] at H
     obtain ⟨t302, A6, H⟩ := bo_ H
     (try dsimp only at H)
     by_cases c7 : t302 = true
     · subst c7
       rw [if_pos rfl] at H
       obtain rfl := Option.some.inj H
       go_enter Try.func130, Try.ntmps130
       go_wp2_with (first | ((with_reducible refine gate_callee (f := 109) rfl ?_); refine gL_ (some 5) Try.func109 #[.int .i64 (a0.size : Int), .int .i64 1, .int .i64 8] ?_; (with_reducible refine (impl_in.calls (a0.size : Int) 1 8 true _ A2.out).mono ?_); rintro e w' ⟨rfl, ⟨nd, rfl⟩⟩; refine ⟨_, rfl, ?_⟩) | (go_at_call 123; (with_reducible refine (impl_Plain.calls k a0 true _ A4.out).mono ?_); rintro e w' ⟨rfl, ⟨nd, rfl⟩⟩) | (go_at_call 137; (with_reducible refine (strings_Contains.calls a0 (⟨#[47]⟩ : ByteArray) true _ A6.out).mono ?_); rintro e w' ⟨rfl, ⟨nd, rfl⟩⟩))
       go_ret
       exact ⟨rs_, dr_⟩
     · replace c7 := Bool.eq_false_iff.mpr c7
       subst c7
       rw [if_neg nf_] at H
       by_cases c8 : a0.toList = ([46] : List UInt8)
       rotate_left
       · rw [if_neg c8] at H
         have c8b0 : (a0.toList == ([46] : List UInt8)) = false := beq_eq_false_iff_ne.mpr c8
         have c8b1 : (a0.toList != ([46] : List UInt8)) = true := bne_iff_ne.mpr c8
         obtain rfl := Option.some.inj H
         go_enter Try.func130, Try.ntmps130
         go_wp2_with (first | ((with_reducible refine gate_callee (f := 109) rfl ?_); refine gL_ (some 5) Try.func109 #[.int .i64 (a0.size : Int), .int .i64 1, .int .i64 8] ?_; (with_reducible refine (impl_in.calls (a0.size : Int) 1 8 true _ A2.out).mono ?_); rintro e w' ⟨rfl, ⟨nd, rfl⟩⟩; refine ⟨_, rfl, ?_⟩) | (go_at_call 123; (with_reducible refine (impl_Plain.calls k a0 true _ A4.out).mono ?_); rintro e w' ⟨rfl, ⟨nd, rfl⟩⟩) | (go_at_call 137; (with_reducible refine (strings_Contains.calls a0 (⟨#[47]⟩ : ByteArray) false _ A6.out).mono ?_); rintro e w' ⟨rfl, ⟨nd, rfl⟩⟩))
         go_ret
         exact ⟨rs_, dr_⟩
       rw [if_pos c8] at H
       have c8b0 : (a0.toList == ([46] : List UInt8)) = true := beq_iff_eq.mpr c8
       have c8b1 : (a0.toList != ([46] : List UInt8)) = false := bne_eq_false_iff_eq.mpr c8
       clear c8
       obtain rfl := Option.some.inj H
       go_enter Try.func130, Try.ntmps130
       go_wp2_with (first | ((with_reducible refine gate_callee (f := 109) rfl ?_); refine gL_ (some 5) Try.func109 #[.int .i64 (a0.size : Int), .int .i64 1, .int .i64 8] ?_; (with_reducible refine (impl_in.calls (a0.size : Int) 1 8 true _ A2.out).mono ?_); rintro e w' ⟨rfl, ⟨nd, rfl⟩⟩; refine ⟨_, rfl, ?_⟩) | (go_at_call 123; (with_reducible refine (impl_Plain.calls k a0 true _ A4.out).mono ?_); rintro e w' ⟨rfl, ⟨nd, rfl⟩⟩) | (go_at_call 137; (with_reducible refine (strings_Contains.calls a0 (⟨#[47]⟩ : ByteArray) false _ A6.out).mono ?_); rintro e w' ⟨rfl, ⟨nd, rfl⟩⟩))
       go_ret
       exact ⟨rs_, dr_⟩
   · replace c5 := Bool.eq_false_iff.mpr c5
     subst c5
     rw [if_neg nf_] at H
     obtain rfl := Option.some.inj H
     go_enter Try.func130, Try.ntmps130
     go_wp2_with (first | ((with_reducible refine gate_callee (f := 109) rfl ?_); refine gL_ (some 5) Try.func109 #[.int .i64 (a0.size : Int), .int .i64 1, .int .i64 8] ?_; (with_reducible refine (impl_in.calls (a0.size : Int) 1 8 true _ A2.out).mono ?_); rintro e w' ⟨rfl, ⟨nd, rfl⟩⟩; refine ⟨_, rfl, ?_⟩) | (go_at_call 123; (with_reducible refine (impl_Plain.calls k a0 false _ A4.out).mono ?_); rintro e w' ⟨rfl, ⟨nd, rfl⟩⟩))
     go_ret
     exact ⟨rs_, dr_⟩
 · replace c3 := Bool.eq_false_iff.mpr c3
   subst c3
   rw [if_neg nf_] at H
   obtain rfl := Option.some.inj H
   go_enter Try.func130, Try.ntmps130
   go_wp2_with (first | ((with_reducible refine gate_callee (f := 109) rfl ?_); refine gL_ (some 5) Try.func109 #[.int .i64 (a0.size : Int), .int .i64 1, .int .i64 8] ?_; (with_reducible refine (impl_in.calls (a0.size : Int) 1 8 false _ A2.out).mono ?_); rintro e w' ⟨rfl, ⟨nd, rfl⟩⟩; refine ⟨_, rfl, ?_⟩))
   go_ret
   exact ⟨rs_, dr_⟩
def impl_PathOk.l0 : Nat → List ByteArray → List ByteArray → Int → Int → Option (Bool)
 | 0, _, _, _, _ => none
 | k + 1, x0, x5, x6, x7 => if x7 < x6 then (if 0 ≤ x7 then (if x7 < (x5.length : Int) then ((impl_NameOk.f k (rdOf ByteArray.empty x5 x7)).bind fun t304 => (if t304 = true then (impl_PathOk.l0 k x0 x5 x6 (wrap64 (x7 + 1))) else (some false))) else (none)) else (none)) else (some (decide ((x0.length : Int) ≤ 4)))
def impl_PathOk.f (k : Nat) (l0 : List ByteArray) : Option (Bool) := impl_PathOk.l0 k l0 l0 (l0.length : Int) 0
set_option maxHeartbeats 8000000 in
set_option maxRecDepth 100000 in
theorem impl_PathOk.calls (k : Nat) (A0 : Option Addr) (c0 : Nat) (l0 : List ByteArray) (r : Bool) (w : World) (hr0 : Kd.C Kd.string w A0 l0.length l0) (hc0 : l0.length ≤ c0) (h : impl_PathOk.f k l0 = some r) :
 Calls Try.prog 108 #[.slice A0 l0.length c0] w fun e w' => e = .returned (.bool r) ∧ Drawn0 w w' := by
 have HR0 := Aside0.mk hr0
 have HC0 := Aside0.mk hc0
 clear hr0 hc0
 have H : (impl_PathOk.l0 k l0 l0 (l0.length : Int) 0) = some r := h
 clear h
 have H' := Aside0.mk H
 clear H
 go_enter Try.func108, Try.ntmps108
 go_wp2
 go_loopg [7] k (fun kq v7 w' => ∃ (x7_1 : Int), v7 = .int .i64 x7_1 ∧ Aside0 (impl_PathOk.l0 kq l0 l0 (l0.length : Int) x7_1 = some r) ∧ Aside0 (kq ≤ k) ∧ Drawn0 w w')
 case atStart => exact ⟨(0), rs_, H', ⟨Nat.le_refl _⟩, dr_⟩
 case round =>
  clear H'
  try clear c1
  obtain ⟨x7_1, rfl, HA, HK1, ⟨m1, rfl⟩⟩ := hrel
  cases gk with
  | zero => exact absurd HA.out (by simp [impl_PathOk.l0])
  | succ k1 =>
   have H := HA.out
   clear HA
   simp only [impl_PathOk.l0] at H
   by_cases c2 : x7_1 < (l0.length : Int)
   rotate_left
   · rw [if_neg c2] at H
     have c2b0 : decide (x7_1 < (l0.length : Int)) = false := decide_eq_false c2
     clear c2
     obtain rfl := Option.some.inj H
     go_wp2
     go_ret
     exact ⟨rs_, dr_⟩
   rw [if_pos c2] at H
   have c2b0 : decide (x7_1 < (l0.length : Int)) = true := decide_eq_true c2
   clear c2
   by_cases c3 : 0 ≤ x7_1
   rotate_left
   · exact absurd H (by rw [if_neg c3]; simp)
   rw [if_pos c3] at H
   have c3b0 : decide (0 ≤ x7_1) = true := decide_eq_true c3
   clear c3
   by_cases c4 : x7_1 < (l0.length : Int)
   rotate_left
   · exact absurd H (by rw [if_neg c4]; simp)
   rw [if_pos c4] at H
   have c4b0 : decide (x7_1 < (l0.length : Int)) = true := decide_eq_true c4
   clear c4
   obtain ⟨t304, A5, H⟩ := bo_ H
   (try dsimp only at H)
   by_cases c6 : t304 = true
   · subst c6
     rw [if_pos rfl] at H
     have H' := Aside0.mk H
     clear H
     have p303 : 0 ≤ (x7_1 : Int) := of_decide_eq_true as_
     have q303 : x7_1 < (l0.length : Int) := of_decide_eq_true as_
     obtain ⟨ad303, e303, hx303_0⟩ := Kd.at_string HR0.out x7_1 p303 q303
     cases e303
     replace p303 := eq_true p303
     replace q303 := eq_true q303
     go_wp2_with (first | ((with_reducible refine gate_callee (f := 130) rfl ?_); refine gL_ (some 12) Try.func130 #[.string (rdOf ByteArray.empty l0 x7_1)] ?_; (with_reducible refine (impl_NameOk.calls k1 (rdOf ByteArray.empty l0 x7_1) true _ A5.out).mono ?_); rintro e w' ⟨rfl, ⟨nd, rfl⟩⟩; refine ⟨_, rfl, ?_⟩))
     go_roundg k1
     case measure => have := HK1.out; omega
     case rel => exact ⟨(wrap64 (x7_1 + 1)), rs_, H', ⟨by have := HK1.out; omega⟩, dr_⟩
   · replace c6 := Bool.eq_false_iff.mpr c6
     subst c6
     rw [if_neg nf_] at H
     obtain rfl := Option.some.inj H
     have p303 : 0 ≤ (x7_1 : Int) := of_decide_eq_true as_
     have q303 : x7_1 < (l0.length : Int) := of_decide_eq_true as_
     obtain ⟨ad303, e303, hx303_0⟩ := Kd.at_string HR0.out x7_1 p303 q303
     cases e303
     replace p303 := eq_true p303
     replace q303 := eq_true q303
     go_wp2_with (first | ((with_reducible refine gate_callee (f := 130) rfl ?_); refine gL_ (some 12) Try.func130 #[.string (rdOf ByteArray.empty l0 x7_1)] ?_; (with_reducible refine (impl_NameOk.calls k1 (rdOf ByteArray.empty l0 x7_1) false _ A5.out).mono ?_); rintro e w' ⟨rfl, ⟨nd, rfl⟩⟩; refine ⟨_, rfl, ?_⟩))
     go_ret
     exact ⟨rs_, dr_⟩
def impl_resOk.f (k : Nat) (l0_0 : List ByteArray) (a0_1 : Bool) (a0_2 : ByteArray) (a0_3 : Int) (l0_4 : List (S72)) : Option (Bool) := if (l0_0.length : Int) > 0 then ((impl_PathOk.f k l0_0).bind fun t306 => (if t306 = true then (if a0_1 = true then (if a0_2.toList = ([] : List UInt8) then (if (a0_2.size : Int) ≤ 200 then ((impl_in.f a0_3 0 99999).bind fun t307 => (if t307 = true then ((impl_PropsOk.f k l0_4).bind fun t308 => (some t308)) else (some false))) else (some false)) else (some false)) else (if (a0_2.size : Int) ≤ 200 then ((impl_in.f a0_3 0 99999).bind fun t309 => (if t309 = true then ((impl_PropsOk.f k l0_4).bind fun t310 => (some t310)) else (some false))) else (some false))) else (some false))) else (some false)
set_option maxHeartbeats 8000000 in
set_option maxRecDepth 100000 in
theorem impl_resOk.calls (k : Nat) (A0_0 : Option Addr) (c0_0 : Nat) (l0_0 : List ByteArray) (a0_1 : Bool) (a0_2 : ByteArray) (a0_3 : Int) (A0_4 : Option Addr) (c0_4 : Nat) (l0_4 : List (S72)) (r : Bool) (w : World) (hr0_0 : Kd.C Kd.string w A0_0 l0_0.length l0_0) (hc0_0 : l0_0.length ≤ c0_0) (hr0_4 : Kd.C k72 w A0_4 l0_4.length l0_4) (hc0_4 : l0_4.length ≤ c0_4) (h : impl_resOk.f k l0_0 a0_1 a0_2 a0_3 l0_4 = some r) :
 Calls Try.prog 87 #[.agg #[.slice A0_0 l0_0.length c0_0, .bool a0_1, .string a0_2, .int .i64 a0_3, .slice A0_4 l0_4.length c0_4]] w fun e w' => e = .returned (.bool r) ∧ Below w.heap.size w w' := by
 have hu57 := Try.underlying57
 have HR0_0 := Aside0.mk hr0_0
 have HC0_0 := Aside0.mk hc0_0
 clear hr0_0 hc0_0
 have HR0_4 := Aside0.mk hr0_4
 have HC0_4 := Aside0.mk hc0_4
 clear hr0_4 hc0_4
 have HB := A_ (Below.refl w.heap.size w)
 have H : (if (l0_0.length : Int) > 0 then ((impl_PathOk.f k l0_0).bind fun t306 => (if t306 = true then (if a0_1 = true then (if a0_2.toList = ([] : List UInt8) then (if (a0_2.size : Int) ≤ 200 then ((impl_in.f a0_3 0 99999).bind fun t307 => (if t307 = true then ((impl_PropsOk.f k l0_4).bind fun t308 => (some t308)) else (some false))) else (some false)) else (some false)) else (if (a0_2.size : Int) ≤ 200 then ((impl_in.f a0_3 0 99999).bind fun t309 => (if t309 = true then ((impl_PropsOk.f k l0_4).bind fun t310 => (some t310)) else (some false))) else (some false))) else (some false))) else (some false)) = some r := h
 clear h
 by_cases c2 : (l0_0.length : Int) > 0
 rotate_left
 · rw [if_neg c2] at H
   have c2b0 : decide (0 < (l0_0.length : Int)) = false := decide_eq_false c2
   have c2b1 : decide (0 < l0_0.length) = false := decide_eq_false (by omega)
   clear c2
   obtain rfl := Option.some.inj H
   go_enter Try.func87, Try.ntmps87
   go_wp2_with (first | ((with_reducible refine gate_dst (N := 1) rfl ?_); (try (refine gate_guard (by rfl) ?_; dsimp only)); refine bx_ (N := 1) (cs := #[.slice A0_0 l0_0.length c0_0, .bool a0_1, .string a0_2, .int .i64 a0_3, .slice A0_4 l0_4.length c0_4]) (t := 57) ?_; intro gb305 hg w33 hbox hb; have BK305 := A_ (hbox); have GW305 := A_ (ge_ hg bB_ : w.heap.size ≤ gb305); have GE305 := A_ (ge_ hg bB_ : w.heap.size ≤ gb305); replace HB := A_ (below_step bB_ hb); clear hb hbox hg; obtain ⟨hcz34_0, hcz34_1, hcz34_2, hcz34_3, hcz34_4, hfz34_0, hfz34_1, hfz34_2, hfz34_3, hfz34_4⟩ := cz5_ BK305.out))
   go_ret
   exact ⟨rr_, bG_ GE305.out⟩
 rw [if_pos c2] at H
 have c2b0 : decide (0 < (l0_0.length : Int)) = true := decide_eq_true c2
 have c2b1 : decide (0 < l0_0.length) = true := decide_eq_true (by omega)
 clear c2
 obtain ⟨t306, A3, H⟩ := bo_ H
 (try dsimp only at H)
 by_cases c4 : t306 = true
 · subst c4
   rw [if_pos rfl] at H
   by_cases c5 : a0_1 = true
   · subst c5
     rw [if_pos rfl] at H
     by_cases c6 : a0_2.toList = ([] : List UInt8)
     rotate_left
     · rw [if_neg c6] at H
       have c6b0 : (a0_2.toList == ([] : List UInt8)) = false := beq_eq_false_iff_ne.mpr c6
       have c6b1 : (a0_2.toList != ([] : List UInt8)) = true := bne_iff_ne.mpr c6
       obtain rfl := Option.some.inj H
       go_enter Try.func87, Try.ntmps87
       go_wp2_with (first | ((with_reducible refine gate_dst (N := 1) rfl ?_); (try (refine gate_guard (by rfl) ?_; dsimp only)); refine bx_ (N := 1) (cs := #[.slice A0_0 l0_0.length c0_0, .bool true, .string a0_2, .int .i64 a0_3, .slice A0_4 l0_4.length c0_4]) (t := 57) ?_; intro gb305 hg w18 hbox hb; have BK305 := A_ (hbox); have GW305 := A_ (ge_ hg bB_ : w.heap.size ≤ gb305); have GE305 := A_ (ge_ hg bB_ : w.heap.size ≤ gb305); replace HB := A_ (below_step bB_ hb); clear hb hbox hg; obtain ⟨hcz19_0, hcz19_1, hcz19_2, hcz19_3, hcz19_4, hfz19_0, hfz19_1, hfz19_2, hfz19_3, hfz19_4⟩ := cz5_ BK305.out) | (go_at_call 108; (with_reducible refine (impl_PathOk.calls k _ _ l0_0 true _ ?s1 ?s2 A3.out).mono ?_); (case s1 => exact cC_ (Kd.C_below HR0_0.out HB.out)); (case s2 => exact HC0_0.out); rintro e w' ⟨rfl, ⟨nd, rfl⟩⟩))
       go_ret
       exact ⟨rr_, bG_ GE305.out⟩
     rw [if_pos c6] at H
     have c6b0 : (a0_2.toList == ([] : List UInt8)) = true := beq_iff_eq.mpr c6
     have c6b1 : (a0_2.toList != ([] : List UInt8)) = false := bne_eq_false_iff_eq.mpr c6
     clear c6
     by_cases c7 : (a0_2.size : Int) ≤ 200
     rotate_left
     · rw [if_neg c7] at H
       have c7b0 : decide ((a0_2.size : Int) ≤ 200) = false := decide_eq_false c7
       have c7b1 : decide (a0_2.size ≤ 200) = false := decide_eq_false (by omega)
       clear c7
       obtain rfl := Option.some.inj H
       go_enter Try.func87, Try.ntmps87
       go_wp2_with (first | ((with_reducible refine gate_dst (N := 1) rfl ?_); (try (refine gate_guard (by rfl) ?_; dsimp only)); refine bx_ (N := 1) (cs := #[.slice A0_0 l0_0.length c0_0, .bool true, .string a0_2, .int .i64 a0_3, .slice A0_4 l0_4.length c0_4]) (t := 57) ?_; intro gb305 hg w16 hbox hb; have BK305 := A_ (hbox); have GW305 := A_ (ge_ hg bB_ : w.heap.size ≤ gb305); have GE305 := A_ (ge_ hg bB_ : w.heap.size ≤ gb305); replace HB := A_ (below_step bB_ hb); clear hb hbox hg; obtain ⟨hcz17_0, hcz17_1, hcz17_2, hcz17_3, hcz17_4, hfz17_0, hfz17_1, hfz17_2, hfz17_3, hfz17_4⟩ := cz5_ BK305.out) | (go_at_call 108; (with_reducible refine (impl_PathOk.calls k _ _ l0_0 true _ ?s1 ?s2 A3.out).mono ?_); (case s1 => exact cC_ (Kd.C_below HR0_0.out HB.out)); (case s2 => exact HC0_0.out); rintro e w' ⟨rfl, ⟨nd, rfl⟩⟩))
       go_ret
       exact ⟨rr_, bG_ GE305.out⟩
     rw [if_pos c7] at H
     have c7b0 : decide ((a0_2.size : Int) ≤ 200) = true := decide_eq_true c7
     have c7b1 : decide (a0_2.size ≤ 200) = true := decide_eq_true (by omega)
     clear c7
     obtain ⟨t307, A8, H⟩ := bo_ H
     (try dsimp only at H)
     by_cases c9 : t307 = true
     · subst c9
       rw [if_pos rfl] at H
       obtain ⟨t308, A10, H⟩ := bo_ H
       (try dsimp only at H)
       obtain rfl := Option.some.inj H
       go_enter Try.func87, Try.ntmps87
       go_wp2_with (first | ((with_reducible refine gate_dst (N := 1) rfl ?_); (try (refine gate_guard (by rfl) ?_; dsimp only)); refine bx_ (N := 1) (cs := #[.slice A0_0 l0_0.length c0_0, .bool true, .string a0_2, .int .i64 a0_3, .slice A0_4 l0_4.length c0_4]) (t := 57) ?_; intro gb305 hg w11 hbox hb; have BK305 := A_ (hbox); have GW305 := A_ (ge_ hg bB_ : w.heap.size ≤ gb305); have GE305 := A_ (ge_ hg bB_ : w.heap.size ≤ gb305); replace HB := A_ (below_step bB_ hb); clear hb hbox hg; obtain ⟨hcz12_0, hcz12_1, hcz12_2, hcz12_3, hcz12_4, hfz12_0, hfz12_1, hfz12_2, hfz12_3, hfz12_4⟩ := cz5_ BK305.out) | (go_at_call 108; (with_reducible refine (impl_PathOk.calls k _ _ l0_0 true _ ?s1 ?s2 A3.out).mono ?_); (case s1 => exact cC_ (Kd.C_below HR0_0.out HB.out)); (case s2 => exact HC0_0.out); rintro e w' ⟨rfl, ⟨nd, rfl⟩⟩) | (go_at_call 109; (with_reducible refine (impl_in.calls a0_3 0 99999 true _ A8.out).mono ?_); rintro e w' ⟨rfl, ⟨nd, rfl⟩⟩) | (go_at_call 58; (with_reducible refine (impl_PropsOk.calls k _ _ l0_4 t308 _ ?s1 ?s2 A10.out).mono ?_); (case s1 => exact cC_ (Kd.C_below HR0_4.out (bG_ GE305.out))); (case s2 => exact HC0_4.out); rintro e w13 ⟨rfl, hb⟩; replace BK305 := A_ (bw_ BK305.out hb); replace HB := A_ (below_step (bG_ GE305.out) hb); (try clear hb)))
       go_ret
       exact ⟨rr_, bG_ GE305.out⟩
     · replace c9 := Bool.eq_false_iff.mpr c9
       subst c9
       rw [if_neg nf_] at H
       obtain rfl := Option.some.inj H
       go_enter Try.func87, Try.ntmps87
       go_wp2_with (first | ((with_reducible refine gate_dst (N := 1) rfl ?_); (try (refine gate_guard (by rfl) ?_; dsimp only)); refine bx_ (N := 1) (cs := #[.slice A0_0 l0_0.length c0_0, .bool true, .string a0_2, .int .i64 a0_3, .slice A0_4 l0_4.length c0_4]) (t := 57) ?_; intro gb305 hg w14 hbox hb; have BK305 := A_ (hbox); have GW305 := A_ (ge_ hg bB_ : w.heap.size ≤ gb305); have GE305 := A_ (ge_ hg bB_ : w.heap.size ≤ gb305); replace HB := A_ (below_step bB_ hb); clear hb hbox hg; obtain ⟨hcz15_0, hcz15_1, hcz15_2, hcz15_3, hcz15_4, hfz15_0, hfz15_1, hfz15_2, hfz15_3, hfz15_4⟩ := cz5_ BK305.out) | (go_at_call 108; (with_reducible refine (impl_PathOk.calls k _ _ l0_0 true _ ?s1 ?s2 A3.out).mono ?_); (case s1 => exact cC_ (Kd.C_below HR0_0.out HB.out)); (case s2 => exact HC0_0.out); rintro e w' ⟨rfl, ⟨nd, rfl⟩⟩) | (go_at_call 109; (with_reducible refine (impl_in.calls a0_3 0 99999 false _ A8.out).mono ?_); rintro e w' ⟨rfl, ⟨nd, rfl⟩⟩))
       go_ret
       exact ⟨rr_, bG_ GE305.out⟩
   · replace c5 := Bool.eq_false_iff.mpr c5
     subst c5
     rw [if_neg nf_] at H
     by_cases c20 : (a0_2.size : Int) ≤ 200
     rotate_left
     · rw [if_neg c20] at H
       have c20b0 : decide ((a0_2.size : Int) ≤ 200) = false := decide_eq_false c20
       have c20b1 : decide (a0_2.size ≤ 200) = false := decide_eq_false (by omega)
       clear c20
       obtain rfl := Option.some.inj H
       go_enter Try.func87, Try.ntmps87
       go_wp2_with (first | ((with_reducible refine gate_dst (N := 1) rfl ?_); (try (refine gate_guard (by rfl) ?_; dsimp only)); refine bx_ (N := 1) (cs := #[.slice A0_0 l0_0.length c0_0, .bool false, .string a0_2, .int .i64 a0_3, .slice A0_4 l0_4.length c0_4]) (t := 57) ?_; intro gb305 hg w29 hbox hb; have BK305 := A_ (hbox); have GW305 := A_ (ge_ hg bB_ : w.heap.size ≤ gb305); have GE305 := A_ (ge_ hg bB_ : w.heap.size ≤ gb305); replace HB := A_ (below_step bB_ hb); clear hb hbox hg; obtain ⟨hcz30_0, hcz30_1, hcz30_2, hcz30_3, hcz30_4, hfz30_0, hfz30_1, hfz30_2, hfz30_3, hfz30_4⟩ := cz5_ BK305.out) | (go_at_call 108; (with_reducible refine (impl_PathOk.calls k _ _ l0_0 true _ ?s1 ?s2 A3.out).mono ?_); (case s1 => exact cC_ (Kd.C_below HR0_0.out HB.out)); (case s2 => exact HC0_0.out); rintro e w' ⟨rfl, ⟨nd, rfl⟩⟩))
       go_ret
       exact ⟨rr_, bG_ GE305.out⟩
     rw [if_pos c20] at H
     have c20b0 : decide ((a0_2.size : Int) ≤ 200) = true := decide_eq_true c20
     have c20b1 : decide (a0_2.size ≤ 200) = true := decide_eq_true (by omega)
     clear c20
     obtain ⟨t309, A21, H⟩ := bo_ H
     (try dsimp only at H)
     by_cases c22 : t309 = true
     · subst c22
       rw [if_pos rfl] at H
       obtain ⟨t310, A23, H⟩ := bo_ H
       (try dsimp only at H)
       obtain rfl := Option.some.inj H
       go_enter Try.func87, Try.ntmps87
       go_wp2_with (first | ((with_reducible refine gate_dst (N := 1) rfl ?_); (try (refine gate_guard (by rfl) ?_; dsimp only)); refine bx_ (N := 1) (cs := #[.slice A0_0 l0_0.length c0_0, .bool false, .string a0_2, .int .i64 a0_3, .slice A0_4 l0_4.length c0_4]) (t := 57) ?_; intro gb305 hg w24 hbox hb; have BK305 := A_ (hbox); have GW305 := A_ (ge_ hg bB_ : w.heap.size ≤ gb305); have GE305 := A_ (ge_ hg bB_ : w.heap.size ≤ gb305); replace HB := A_ (below_step bB_ hb); clear hb hbox hg; obtain ⟨hcz25_0, hcz25_1, hcz25_2, hcz25_3, hcz25_4, hfz25_0, hfz25_1, hfz25_2, hfz25_3, hfz25_4⟩ := cz5_ BK305.out) | (go_at_call 108; (with_reducible refine (impl_PathOk.calls k _ _ l0_0 true _ ?s1 ?s2 A3.out).mono ?_); (case s1 => exact cC_ (Kd.C_below HR0_0.out HB.out)); (case s2 => exact HC0_0.out); rintro e w' ⟨rfl, ⟨nd, rfl⟩⟩) | (go_at_call 109; (with_reducible refine (impl_in.calls a0_3 0 99999 true _ A21.out).mono ?_); rintro e w' ⟨rfl, ⟨nd, rfl⟩⟩) | (go_at_call 58; (with_reducible refine (impl_PropsOk.calls k _ _ l0_4 t310 _ ?s1 ?s2 A23.out).mono ?_); (case s1 => exact cC_ (Kd.C_below HR0_4.out (bG_ GE305.out))); (case s2 => exact HC0_4.out); rintro e w26 ⟨rfl, hb⟩; replace BK305 := A_ (bw_ BK305.out hb); replace HB := A_ (below_step (bG_ GE305.out) hb); (try clear hb)))
       go_ret
       exact ⟨rr_, bG_ GE305.out⟩
     · replace c22 := Bool.eq_false_iff.mpr c22
       subst c22
       rw [if_neg nf_] at H
       obtain rfl := Option.some.inj H
       go_enter Try.func87, Try.ntmps87
       go_wp2_with (first | ((with_reducible refine gate_dst (N := 1) rfl ?_); (try (refine gate_guard (by rfl) ?_; dsimp only)); refine bx_ (N := 1) (cs := #[.slice A0_0 l0_0.length c0_0, .bool false, .string a0_2, .int .i64 a0_3, .slice A0_4 l0_4.length c0_4]) (t := 57) ?_; intro gb305 hg w27 hbox hb; have BK305 := A_ (hbox); have GW305 := A_ (ge_ hg bB_ : w.heap.size ≤ gb305); have GE305 := A_ (ge_ hg bB_ : w.heap.size ≤ gb305); replace HB := A_ (below_step bB_ hb); clear hb hbox hg; obtain ⟨hcz28_0, hcz28_1, hcz28_2, hcz28_3, hcz28_4, hfz28_0, hfz28_1, hfz28_2, hfz28_3, hfz28_4⟩ := cz5_ BK305.out) | (go_at_call 108; (with_reducible refine (impl_PathOk.calls k _ _ l0_0 true _ ?s1 ?s2 A3.out).mono ?_); (case s1 => exact cC_ (Kd.C_below HR0_0.out HB.out)); (case s2 => exact HC0_0.out); rintro e w' ⟨rfl, ⟨nd, rfl⟩⟩) | (go_at_call 109; (with_reducible refine (impl_in.calls a0_3 0 99999 false _ A21.out).mono ?_); rintro e w' ⟨rfl, ⟨nd, rfl⟩⟩))
       go_ret
       exact ⟨rr_, bG_ GE305.out⟩
 · replace c4 := Bool.eq_false_iff.mpr c4
   subst c4
   rw [if_neg nf_] at H
   obtain rfl := Option.some.inj H
   go_enter Try.func87, Try.ntmps87
   go_wp2_with (first | ((with_reducible refine gate_dst (N := 1) rfl ?_); (try (refine gate_guard (by rfl) ?_; dsimp only)); refine bx_ (N := 1) (cs := #[.slice A0_0 l0_0.length c0_0, .bool a0_1, .string a0_2, .int .i64 a0_3, .slice A0_4 l0_4.length c0_4]) (t := 57) ?_; intro gb305 hg w31 hbox hb; have BK305 := A_ (hbox); have GW305 := A_ (ge_ hg bB_ : w.heap.size ≤ gb305); have GE305 := A_ (ge_ hg bB_ : w.heap.size ≤ gb305); replace HB := A_ (below_step bB_ hb); clear hb hbox hg; obtain ⟨hcz32_0, hcz32_1, hcz32_2, hcz32_3, hcz32_4, hfz32_0, hfz32_1, hfz32_2, hfz32_3, hfz32_4⟩ := cz5_ BK305.out) | (go_at_call 108; (with_reducible refine (impl_PathOk.calls k _ _ l0_0 false _ ?s1 ?s2 A3.out).mono ?_); (case s1 => exact cC_ (Kd.C_below HR0_0.out HB.out)); (case s2 => exact HC0_0.out); rintro e w' ⟨rfl, ⟨nd, rfl⟩⟩))
   go_ret
   exact ⟨rr_, bG_ GE305.out⟩
mutual
def impl_LessPath.l0 : Nat → List ByteArray → List ByteArray → Int → Option (Bool)
 | 0, _, _, _ => none
 | k + 1, x0, x1, x5 => if x5 < (x0.length : Int) then (impl_LessPath.j1 k x0 x1 x5 (decide (x5 < (x1.length : Int)))) else (impl_LessPath.j1 k x0 x1 x5 false)
def impl_LessPath.j1 : Nat → List ByteArray → List ByteArray → Int → Bool → Option (Bool)
 | 0, _, _, _, _ => none
 | k + 1, x0, x1, x5, x15 => if x15 = true then (if 0 ≤ x5 then (if x5 < (x0.length : Int) then (if x5 < (x1.length : Int) then (if (rdOf ByteArray.empty x0 x5).toList = (rdOf ByteArray.empty x1 x5).toList then (impl_LessPath.l0 k x0 x1 (wrap64 (x5 + 1))) else (some (Op.bytesLess ((rdOf ByteArray.empty x0 x5).toList) ((rdOf ByteArray.empty x1 x5).toList)))) else (none)) else (none)) else (none)) else (some (decide ((x0.length : Int) < (x1.length : Int))))
end
def impl_LessPath.f (k : Nat) (l0 : List ByteArray) (l1 : List ByteArray) : Option (Bool) := impl_LessPath.l0 k l0 l1 0
set_option maxHeartbeats 8000000 in
set_option maxRecDepth 100000 in
theorem impl_LessPath.calls (k : Nat) (A0 : Option Addr) (c0 : Nat) (l0 : List ByteArray) (A1 : Option Addr) (c1 : Nat) (l1 : List ByteArray) (r : Bool) (w : World) (hr0 : Kd.C Kd.string w A0 l0.length l0) (hc0 : l0.length ≤ c0) (hr1 : Kd.C Kd.string w A1 l1.length l1) (hc1 : l1.length ≤ c1) (h : impl_LessPath.f k l0 l1 = some r) :
 Calls Try.prog 88 #[.slice A0 l0.length c0, .slice A1 l1.length c1] w fun e w' => e = .returned (.bool r) ∧ Drawn0 w w' := by
 have HR0 := Aside0.mk hr0
 have HC0 := Aside0.mk hc0
 clear hr0 hc0
 have HR1 := Aside0.mk hr1
 have HC1 := Aside0.mk hc1
 clear hr1 hc1
 have H : (impl_LessPath.l0 k l0 l1 0) = some r := h
 clear h
 have H' := Aside0.mk H
 clear H
 go_enter Try.func88, Try.ntmps88
 go_wp2
 repeat (go_quiet (fail); try go_wp2)
 go_loopg [5] k (fun kq v5 w' => ∃ (x5_1 : Int), v5 = .int .i64 x5_1 ∧ Aside0 (impl_LessPath.l0 kq l0 l1 x5_1 = some r) ∧ Aside0 (kq ≤ k) ∧ Drawn0 w w')
 case atStart => exact ⟨(0), rs_, H', ⟨Nat.le_refl _⟩, dr_⟩
 case round =>
  clear H'
  try clear c1
  try clear p2
  obtain ⟨x5_1, rfl, HA, HK1, ⟨m1, rfl⟩⟩ := hrel
  cases gk with
  | zero => exact absurd HA.out (by simp [impl_LessPath.l0])
  | succ k1 =>
   have H := HA.out
   clear HA
   simp only [impl_LessPath.l0] at H
   have HC3 := Aside0.mk H
   clear H
   go_upto_region 2 with (fail)
   repeat (go_quiet (fail); go_upto_region 2 with (fail))
   go_cut [15] (fun v15 wc => ∃ (kq : Nat) (x15_2 : Bool), v15 = .bool x15_2 ∧ Aside0 (impl_LessPath.j1 kq l0 l1 x5_1 x15_2 = some r) ∧ Aside0 (kq ≤ k1) ∧ Drawn0 w wc)
   case first =>
    have H := HC3.out
    clear HC3
    by_cases c4 : x5_1 < (l0.length : Int)
    rotate_left
    · rw [if_neg c4] at H
      have c4b0 : decide (x5_1 < (l0.length : Int)) = false := decide_eq_false c4
      clear c4
      (first | rw [c4b0] | (simp only [i64_w, i32_w]; rw [c4b0]) | skip)
      have H' := Aside0.mk H
      clear H
      go_wp2
      repeat (go_quiet (fail); try go_wp2)
      go_meet
      case rel => exact ⟨_, (false), rs_, H', ⟨by have := HK1.out; first | omega | exact Nat.le_refl _⟩, dr_⟩
    rw [if_pos c4] at H
    have c4b0 : decide (x5_1 < (l0.length : Int)) = true := decide_eq_true c4
    clear c4
    (first | rw [c4b0] | (simp only [i64_w, i32_w]; rw [c4b0]) | skip)
    have H' := Aside0.mk H
    clear H
    go_wp2
    repeat (go_quiet (fail); try go_wp2)
    go_meet
    case rel => exact ⟨_, (decide (x5_1 < (l1.length : Int))), rs_, H', ⟨by have := HK1.out; first | omega | exact Nat.le_refl _⟩, dr_⟩
   case rest =>
    clear HC3
    try clear c1
    try clear p2
    try clear c4
    try clear c4b0
    try clear p2
    obtain ⟨kq, x15_2, rfl, HA, HJ2, ⟨mc2, rfl⟩⟩ := hcut
    cases kq with
    | zero => exact absurd HA.out (by simp [impl_LessPath.j1])
    | succ kj2 =>
     have H := HA.out
     clear HA
     simp only [impl_LessPath.j1] at H
     by_cases c5 : x15_2 = true
     · subst c5
       rw [if_pos rfl] at H
       by_cases c6 : 0 ≤ x5_1
       rotate_left
       · exact absurd H (by rw [if_neg c6]; simp)
       rw [if_pos c6] at H
       have c6b0 : decide (0 ≤ x5_1) = true := decide_eq_true c6
       clear c6
       by_cases c7 : x5_1 < (l0.length : Int)
       rotate_left
       · exact absurd H (by rw [if_neg c7]; simp)
       rw [if_pos c7] at H
       have c7b0 : decide (x5_1 < (l0.length : Int)) = true := decide_eq_true c7
       clear c7
       by_cases c8 : x5_1 < (l1.length : Int)
       rotate_left
       · exact absurd H (by rw [if_neg c8]; simp)
       rw [if_pos c8] at H
       have c8b0 : decide (x5_1 < (l1.length : Int)) = true := decide_eq_true c8
       clear c8
       by_cases c9 : (rdOf ByteArray.empty l0 x5_1).toList = (rdOf ByteArray.empty l1 x5_1).toList
       · rw [if_pos c9] at H
         have c9b0 : ((rdOf ByteArray.empty l0 x5_1).toList == (rdOf ByteArray.empty l1 x5_1).toList) = true := beq_iff_eq.mpr c9
         have c9b1 : ((rdOf ByteArray.empty l0 x5_1).toList != (rdOf ByteArray.empty l1 x5_1).toList) = false := bne_eq_false_iff_eq.mpr c9
         clear c9
         have H' := Aside0.mk H
         clear H
         have p311 : 0 ≤ (x5_1 : Int) := of_decide_eq_true as_
         have q311 : x5_1 < (l0.length : Int) := of_decide_eq_true as_
         obtain ⟨ad311, e311, hx311_0⟩ := Kd.at_string HR0.out x5_1 p311 q311
         cases e311
         replace p311 := eq_true p311
         replace q311 := eq_true q311
         have p312 : 0 ≤ (x5_1 : Int) := of_decide_eq_true as_
         have q312 : x5_1 < (l1.length : Int) := of_decide_eq_true as_
         obtain ⟨ad312, e312, hx312_0⟩ := Kd.at_string HR1.out x5_1 p312 q312
         cases e312
         replace p312 := eq_true p312
         replace q312 := eq_true q312
         go_wp2
         repeat (go_quiet (fail); try go_wp2)
         go_roundg kj2
         case measure => have := HK1.out; have := HJ2.out; omega
         case rel => exact ⟨(wrap64 (x5_1 + 1)), rs_, H', ⟨by have := HK1.out; have := HJ2.out; omega⟩, dr_⟩
       rw [if_neg c9] at H
       have c9b0 : ((rdOf ByteArray.empty l0 x5_1).toList == (rdOf ByteArray.empty l1 x5_1).toList) = false := beq_eq_false_iff_ne.mpr c9
       have c9b1 : ((rdOf ByteArray.empty l0 x5_1).toList != (rdOf ByteArray.empty l1 x5_1).toList) = true := bne_iff_ne.mpr c9
       obtain rfl := Option.some.inj H
       have p311 : 0 ≤ (x5_1 : Int) := of_decide_eq_true as_
       have q311 : x5_1 < (l0.length : Int) := of_decide_eq_true as_
       obtain ⟨ad311, e311, hx311_0⟩ := Kd.at_string HR0.out x5_1 p311 q311
       cases e311
       replace p311 := eq_true p311
       replace q311 := eq_true q311
       have p312 : 0 ≤ (x5_1 : Int) := of_decide_eq_true as_
       have q312 : x5_1 < (l1.length : Int) := of_decide_eq_true as_
       obtain ⟨ad312, e312, hx312_0⟩ := Kd.at_string HR1.out x5_1 p312 q312
       cases e312
       replace p312 := eq_true p312
       replace q312 := eq_true q312
       have p313 : 0 ≤ (x5_1 : Int) := of_decide_eq_true as_
       have q313 : x5_1 < (l0.length : Int) := of_decide_eq_true as_
       obtain ⟨ad313, e313, hx313_0⟩ := Kd.at_string HR0.out x5_1 p313 q313
       obtain rfl : ad311 = ad313 := (by injection e313)
       replace p313 := eq_true p313
       replace q313 := eq_true q313
       have p314 : 0 ≤ (x5_1 : Int) := of_decide_eq_true as_
       have q314 : x5_1 < (l1.length : Int) := of_decide_eq_true as_
       obtain ⟨ad314, e314, hx314_0⟩ := Kd.at_string HR1.out x5_1 p314 q314
       obtain rfl : ad312 = ad314 := (by injection e314)
       replace p314 := eq_true p314
       replace q314 := eq_true q314
       go_wp2
       repeat (go_quiet (fail); try go_wp2)
       go_ret
       exact ⟨rs_, dr_⟩
     · replace c5 := Bool.eq_false_iff.mpr c5
       subst c5
       rw [if_neg nf_] at H
       obtain rfl := Option.some.inj H
       go_wp2
       repeat (go_quiet (fail); try go_wp2)
       go_ret
       exact ⟨rs_, dr_⟩
end Go.Proofs.Ytbgggcgjijljkaa.Q
