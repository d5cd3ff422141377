-- PRINTED by print.py (a twelfth state) out of the translation. Not trusted: Lean checks it.
import Derived.Test.YtbgggcgjijljkaaVPutFileG12
import Derived.Test.YtbgggcgjijljkaaVPutFileG22
import Derived.Test.YtbgggcgjijljkaaVPutFileG29
namespace Go.Proofs.Ytbgggcgjijljkaa.Q
open Go.RowKit Go.Proofs.YtbgggcgjijljkaaW.PrintWords Go.Proofs.YtbgggcgjijljkaaW.PrintLast Go.Proofs.YtbgggcgjijljkaaW.PrintMore
attribute [local go_sem] max2_int min2_int max_two min_two max_three min_three max_four min_four   -- for this text's walks alone
set_option linter.unusedVariables false
set_option linter.unusedSimpArgs false
def laws_eqResS.l0 : Nat → List (S57) → List (S57) → Int → Option (Bool)
 | 0, _, _, _ => none
 | k + 1, x0, x1, x5 => if x5 < (x0.length : Int) then (if 0 ≤ x5 then (if x5 < (x1.length : Int) then ((laws_eqRes.f k ((rd_T57 x0 x5).f0) ((rd_T57 x0 x5).f1) ((rd_T57 x0 x5).f2) ((rd_T57 x0 x5).f3) ((rd_T57 x0 x5).f4) ((rd_T57 x1 x5).f0) ((rd_T57 x1 x5).f1) ((rd_T57 x1 x5).f2) ((rd_T57 x1 x5).f3) ((rd_T57 x1 x5).f4)).bind fun t403 => (if t403 = true then (laws_eqResS.l0 k x0 x1 (wrap64 (x5 + 1))) else (some false))) else (none)) else (none)) else (some true)
def laws_eqResS.f (k : Nat) (l0 : List (S57)) (l1 : List (S57)) : Option (Bool) := if (l0.length : Int) = (l1.length : Int) then (laws_eqResS.l0 k l0 l1 0) else (some false)
def laws_eqResS.T6 : Bool × List (List Nat × List Nat) := (true, [([], []), ([], []), ([0, 1], [0, 1]), ([2], [2]), ([], []), ([], []), ([4, 5], [4, 5]), ([6], [6]), ([3, 7], [3, 7]), ([8], [8])])
def laws_eqResS.B6 : List Nat := [0, 0, 3, 7, 0, 0, 48, 112, 255, 511]
theorem laws_eqResS.tab6 : rtab .any (opsOf Try.f19 6) = laws_eqResS.T6 := by kernel_rfl
theorem laws_eqResS.bits6 : waitsOk laws_eqResS.T6.2 laws_eqResS.B6 = true := by kernel_rfl
set_option maxHeartbeats 8000000 in
set_option maxRecDepth 100000 in
theorem laws_eqResS.calls (k : Nat) (A0 : Option Addr) (c0 : Nat) (l0 : List (S57)) (A1 : Option Addr) (c1 : Nat) (l1 : List (S57)) (r : Bool) (w : World) (hr0 : Kd.C k57 w A0 l0.length l0) (hc0 : l0.length ≤ c0) (hr1 : Kd.C k57 w A1 l1.length l1) (hc1 : l1.length ≤ c1) (h : laws_eqResS.f k l0 l1 = some r) :
 Calls Try.prog 19 #[.slice A0 l0.length c0, .slice A1 l1.length c1] w fun e w' => e = .returned (.bool r) ∧ Below w.heap.size w w' := by
 have hu57 := Try.underlying57
 have HR0 := Aside0.mk hr0
 have HC0 := Aside0.mk hc0
 clear hr0 hc0
 have HR1 := Aside0.mk hr1
 have HC1 := Aside0.mk hc1
 clear hr1 hc1
 have HB := Aside0.mk (Below.refl w.heap.size w)
 have H : (if (l0.length : Int) = (l1.length : Int) then (laws_eqResS.l0 k l0 l1 0) else (some false)) = some r := h
 clear h
 by_cases c3 : (l0.length : Int) = (l1.length : Int)
 rotate_left
 · rw [if_neg c3] at H
   have c3b0 : ((l0.length : Int) == (l1.length : Int)) = false := beq_eq_false_iff_ne.mpr c3
   have c3b1 : ((l0.length : Int) != (l1.length : Int)) = true := bne_iff_ne.mpr c3
   have c3b2 : (l0.length == l1.length) = false := by first | simpa using c3 | (simp at c3 ⊢; omega)
   obtain rfl := Option.some.inj H
   go_enter Try.func19, Try.ntmps19
   go_wp2
   go_ret
   exact ⟨rr_, bB_⟩
 rw [if_pos c3] at H
 have c3b0 : ((l0.length : Int) == (l1.length : Int)) = true := beq_iff_eq.mpr c3
 have c3b1 : ((l0.length : Int) != (l1.length : Int)) = false := bne_eq_false_iff_eq.mpr c3
 have c3b2 : (l0.length == l1.length) = true := by first | simpa using c3 | (simp at c3 ⊢; omega)
 clear c3
 have H' := Aside0.mk H
 clear H
 go_enter Try.func19, Try.ntmps19
 go_wp2
 go_loopg [5] k (fun kq v5 w' => ∃ (x5_1 : Int), v5 = .int .i64 x5_1 ∧ Aside0 (laws_eqResS.l0 kq l0 l1 x5_1 = some r) ∧ Aside0 (kq ≤ k) ∧ Aside0 (Below w.heap.size w w'))
 case atStart => exact ⟨(0), rs_, H', ⟨Nat.le_refl _⟩, ⟨bB_⟩⟩
 case round =>
  clear H'
  try clear c1
  try clear p2
  try clear c3
  try clear c3b0
  try clear c3b1
  try clear c3b2
  obtain ⟨x5_1, rfl, HA, HK1, HB⟩ := hrel
  cases gk with
  | zero => exact absurd HA.out (by simp [laws_eqResS.l0])
  | succ k1 =>
   have H := HA.out
   clear HA
   simp only [laws_eqResS.l0] at H
   by_cases c4 : x5_1 < (l0.length : Int)
   rotate_left
   · rw [if_neg c4] at H
     have c4b0 : decide (x5_1 < (l0.length : Int)) = false := decide_eq_false c4
     clear c4
     obtain rfl := Option.some.inj H
     go_wp2
     go_ret
     exact ⟨rr_, bB_⟩
   rw [if_pos c4] at H
   have c4b0 : decide (x5_1 < (l0.length : Int)) = true := decide_eq_true c4
   clear c4
   by_cases c5 : 0 ≤ x5_1
   rotate_left
   · exact absurd H (by rw [if_neg c5]; simp)
   rw [if_pos c5] at H
   have c5b0 : decide (0 ≤ x5_1) = true := decide_eq_true c5
   clear c5
   by_cases c6 : x5_1 < (l1.length : Int)
   rotate_left
   · exact absurd H (by rw [if_neg c6]; simp)
   rw [if_pos c6] at H
   have c6b0 : decide (x5_1 < (l1.length : Int)) = true := decide_eq_true c6
   clear c6
   obtain ⟨t403, A7, H⟩ := bo_ H
   (try dsimp only at H)
   by_cases c8 : t403 = true
   · subst c8
     rw [if_pos rfl] at H
     have H' := Aside0.mk H
     clear H
     try go_wp2
     have n0_ := Aside0.mk (below_drew1 HB.out)
     clear HB
     have HB := n0_
     clear n0_
     have p401 : 0 ≤ (x5_1 : Int) := of_decide_eq_true as_
     have q401 : x5_1 < (l0.length : Int) := of_decide_eq_true as_
     obtain ⟨ad401, A401_0, c401_0, A401_4, c401_4, e401, hx401_0, hx401_1, hx401_2, hx401_3, hx401_4, hl401_0, hi401_0, hl401_4, hi401_4⟩ := at_T57 HR0.out x5_1 p401 q401
     have hw401_4 := hx401_4
     have hw401_3 := hx401_3
     have hw401_2 := hx401_2
     have hw401_1 := hx401_1
     have hw401_0 := hx401_0
     cases e401
     replace hx401_0 := bc_ HB.out hx401_0
     replace hx401_1 := bc_ HB.out hx401_1
     replace hx401_2 := bc_ HB.out hx401_2
     replace hx401_3 := bc_ HB.out hx401_3
     replace hx401_4 := bc_ HB.out hx401_4
     have HR401_0 := Aside0.mk hi401_0
     have HC401_0 := Aside0.mk hl401_0
     clear hi401_0 hl401_0
     have HR401_4 := Aside0.mk hi401_4
     have HC401_4 := Aside0.mk hl401_4
     clear hi401_4 hl401_4
     replace p401 := eq_true p401
     replace q401 := eq_true q401
     have p402 : 0 ≤ (x5_1 : Int) := of_decide_eq_true as_
     have q402 : x5_1 < (l1.length : Int) := of_decide_eq_true as_
     obtain ⟨ad402, A402_0, c402_0, A402_4, c402_4, e402, hx402_0, hx402_1, hx402_2, hx402_3, hx402_4, hl402_0, hi402_0, hl402_4, hi402_4⟩ := at_T57 HR1.out x5_1 p402 q402
     have hw402_4 := hx402_4
     have hw402_3 := hx402_3
     have hw402_2 := hx402_2
     have hw402_1 := hx402_1
     have hw402_0 := hx402_0
     cases e402
     replace hx402_0 := bc_ HB.out hx402_0
     replace hx402_1 := bc_ HB.out hx402_1
     replace hx402_2 := bc_ HB.out hx402_2
     replace hx402_3 := bc_ HB.out hx402_3
     replace hx402_4 := bc_ HB.out hx402_4
     have HR402_0 := Aside0.mk hi402_0
     have HC402_0 := Aside0.mk hl402_0
     clear hi402_0 hl402_0
     have HR402_4 := Aside0.mk hi402_4
     have HC402_4 := Aside0.mk hl402_4
     clear hi402_4 hl402_4
     replace p402 := eq_true p402
     replace q402 := eq_true q402
     refine start_ (n := 10) (S := fun w' => w'.cell? (ad401.add ((x5_1).toNat * 5)) = some (.slice A401_0 ((rd_T57 l0 x5_1).f0).length c401_0) ∧ w'.cell? ⟨(ad401.add ((x5_1).toNat * 5)).block, (ad401.add ((x5_1).toNat * 5)).off + 1, none⟩ = some (.bool ((rd_T57 l0 x5_1).f1)) ∧ w'.cell? ⟨(ad401.add ((x5_1).toNat * 5)).block, (ad401.add ((x5_1).toNat * 5)).off + 2, none⟩ = some (.string ((rd_T57 l0 x5_1).f2)) ∧ w'.cell? ⟨(ad401.add ((x5_1).toNat * 5)).block, (ad401.add ((x5_1).toNat * 5)).off + 3, none⟩ = some (.int .i64 ((rd_T57 l0 x5_1).f3)) ∧ w'.cell? ⟨(ad401.add ((x5_1).toNat * 5)).block, (ad401.add ((x5_1).toNat * 5)).off + 4, none⟩ = some (.slice A401_4 ((rd_T57 l0 x5_1).f4).length c401_4) ∧ w'.cell? (ad402.add ((x5_1).toNat * 5)) = some (.slice A402_0 ((rd_T57 l1 x5_1).f0).length c402_0) ∧ w'.cell? ⟨(ad402.add ((x5_1).toNat * 5)).block, (ad402.add ((x5_1).toNat * 5)).off + 1, none⟩ = some (.bool ((rd_T57 l1 x5_1).f1)) ∧ w'.cell? ⟨(ad402.add ((x5_1).toNat * 5)).block, (ad402.add ((x5_1).toNat * 5)).off + 2, none⟩ = some (.string ((rd_T57 l1 x5_1).f2)) ∧ w'.cell? ⟨(ad402.add ((x5_1).toNat * 5)).block, (ad402.add ((x5_1).toNat * 5)).off + 3, none⟩ = some (.int .i64 ((rd_T57 l1 x5_1).f3)) ∧ w'.cell? ⟨(ad402.add ((x5_1).toNat * 5)).block, (ad402.add ((x5_1).toNat * 5)).off + 4, none⟩ = some (.slice A402_4 ((rd_T57 l1 x5_1).f4).length c402_4)) (ds := []) #[false, false, false, false, false, false, false, false, false, false] (by kernel_rfl) rfl rfl ⟨((HB.out.cell (World.block_lt_of_cell? w _ hw401_0)).trans hw401_0), ((HB.out.cell (World.block_lt_of_cell? w _ hw401_1)).trans hw401_1), ((HB.out.cell (World.block_lt_of_cell? w _ hw401_2)).trans hw401_2), ((HB.out.cell (World.block_lt_of_cell? w _ hw401_3)).trans hw401_3), ((HB.out.cell (World.block_lt_of_cell? w _ hw401_4)).trans hw401_4), ((HB.out.cell (World.block_lt_of_cell? w _ hw402_0)).trans hw402_0), ((HB.out.cell (World.block_lt_of_cell? w _ hw402_1)).trans hw402_1), ((HB.out.cell (World.block_lt_of_cell? w _ hw402_2)).trans hw402_2), ((HB.out.cell (World.block_lt_of_cell? w _ hw402_3)).trans hw402_3), ((HB.out.cell (World.block_lt_of_cell? w _ hw402_4)).trans hw402_4)⟩ (fun hHeld => ?_); refine with_tabW laws_eqResS.tab6 laws_eqResS.bits6 (fun HT_ HW_ => ?_)
     generalize wr.drew = w9 at HB HR401_0 HR401_4 HR402_0 HR402_4 hx401_0 hx401_1 hx401_2 hx401_3 hx401_4 hx402_0 hx402_1 hx402_2 hx402_3 hx402_4 hHeld ⊢
     refine pu_ (i := 0) (N := some 17) ?_
     refine pu_ (i := 1) (N := some 18) ?_
     refine pu_ (i := 2) (N := some 19) ?_
     refine pu_ (i := 4) (N := some 21) ?_
     refine pu_ (i := 5) (N := some 22) ?_
     refine pu_ (i := 6) (N := some 23) ?_
     refine tk_ (i := 3) (N := some 20) hHeld ?_
     refine tk_ (i := 7) (N := some 24) hHeld ?_
     refine on_ (i := 8) (N := some 25) (fun K hK => ?_)
     refine goes_ Try.func68 (by kernel_rfl) rfl #[.agg #[.slice A401_0 ((rd_T57 l0 x5_1).f0).length c401_0, .bool ((rd_T57 l0 x5_1).f1), .string ((rd_T57 l0 x5_1).f2), .int .i64 ((rd_T57 l0 x5_1).f3), .slice A401_4 ((rd_T57 l0 x5_1).f4).length c401_4], .agg #[.slice A402_0 ((rd_T57 l1 x5_1).f0).length c402_0, .bool ((rd_T57 l1 x5_1).f1), .string ((rd_T57 l1 x5_1).f2), .int .i64 ((rd_T57 l1 x5_1).f3), .slice A402_4 ((rd_T57 l1 x5_1).f4).length c402_4]] (by rfl) rfl rfl ml_ ?_
     with_reducible refine (laws_eqRes.calls k1 _ _ ((rd_T57 l0 x5_1).f0) ((rd_T57 l0 x5_1).f1) ((rd_T57 l0 x5_1).f2) ((rd_T57 l0 x5_1).f3) _ _ ((rd_T57 l0 x5_1).f4) _ _ ((rd_T57 l1 x5_1).f0) ((rd_T57 l1 x5_1).f1) ((rd_T57 l1 x5_1).f2) ((rd_T57 l1 x5_1).f3) _ _ ((rd_T57 l1 x5_1).f4) true _ ?side1 ?side2 ?side3 ?side4 ?side5 ?side6 ?side7 ?side8 A7.out).mono ?_
     (case side1 => exact cC_ (Kd.C_below HR401_0.out HB.out))
     (case side2 => exact HC401_0.out)
     (case side3 => exact cC_ (Kd.C_below HR401_4.out HB.out))
     (case side4 => exact HC401_4.out)
     (case side5 => exact cC_ (Kd.C_below HR402_0.out HB.out))
     (case side6 => exact HC402_0.out)
     (case side7 => exact cC_ (Kd.C_below HR402_4.out HB.out))
     (case side8 => exact HC402_4.out)
     rintro e w10 ⟨rfl, hb⟩
     refine ⟨_, rfl, ?_⟩
     have n0_ := Aside0.mk (below_step bB_ hb)
     clear HB
     have HB := n0_
     clear n0_
     (try clear hb)
     (try clear hb2)
     (try clear hk)
     (try clear hi)
     refine hK.out _ _ ⟨((HB.out.cell (World.block_lt_of_cell? w _ hw401_0)).trans hw401_0), ((HB.out.cell (World.block_lt_of_cell? w _ hw401_1)).trans hw401_1), ((HB.out.cell (World.block_lt_of_cell? w _ hw401_2)).trans hw401_2), ((HB.out.cell (World.block_lt_of_cell? w _ hw401_3)).trans hw401_3), ((HB.out.cell (World.block_lt_of_cell? w _ hw401_4)).trans hw401_4), ((HB.out.cell (World.block_lt_of_cell? w _ hw402_0)).trans hw402_0), ((HB.out.cell (World.block_lt_of_cell? w _ hw402_1)).trans hw402_1), ((HB.out.cell (World.block_lt_of_cell? w _ hw402_2)).trans hw402_2), ((HB.out.cell (World.block_lt_of_cell? w _ hw402_3)).trans hw402_3), ((HB.out.cell (World.block_lt_of_cell? w _ hw402_4)).trans hw402_4)⟩ (fun hHeld => ?_)
     clear hK K
     refine no_ (some 25) ?_
     refine pu_ (i := 9) (N := some 26) ?_
     refine done_ (done_of HT_.out (by kernel_rfl)) ?_
     (try clear hHeld)
     try go_wp2
     go_roundg k1
     case measure => have := HK1.out; omega
     case rel => exact ⟨(wrap64 (x5_1 + 1)), rs_, H', ⟨by have := HK1.out; omega⟩, ⟨bB_⟩⟩
   · replace c8 := Bool.eq_false_iff.mpr c8
     subst c8
     rw [if_neg (show ¬ (false = true) by decide)] at H
     obtain rfl := Option.some.inj H
     try go_wp2
     have n0_ := Aside0.mk (below_drew1 HB.out)
     clear HB
     have HB := n0_
     clear n0_
     have p401 : 0 ≤ (x5_1 : Int) := of_decide_eq_true as_
     have q401 : x5_1 < (l0.length : Int) := of_decide_eq_true as_
     obtain ⟨ad401, A401_0, c401_0, A401_4, c401_4, e401, hx401_0, hx401_1, hx401_2, hx401_3, hx401_4, hl401_0, hi401_0, hl401_4, hi401_4⟩ := at_T57 HR0.out x5_1 p401 q401
     have hw401_4 := hx401_4
     have hw401_3 := hx401_3
     have hw401_2 := hx401_2
     have hw401_1 := hx401_1
     have hw401_0 := hx401_0
     cases e401
     replace hx401_0 := bc_ HB.out hx401_0
     replace hx401_1 := bc_ HB.out hx401_1
     replace hx401_2 := bc_ HB.out hx401_2
     replace hx401_3 := bc_ HB.out hx401_3
     replace hx401_4 := bc_ HB.out hx401_4
     have HR401_0 := Aside0.mk hi401_0
     have HC401_0 := Aside0.mk hl401_0
     clear hi401_0 hl401_0
     have HR401_4 := Aside0.mk hi401_4
     have HC401_4 := Aside0.mk hl401_4
     clear hi401_4 hl401_4
     replace p401 := eq_true p401
     replace q401 := eq_true q401
     have p402 : 0 ≤ (x5_1 : Int) := of_decide_eq_true as_
     have q402 : x5_1 < (l1.length : Int) := of_decide_eq_true as_
     obtain ⟨ad402, A402_0, c402_0, A402_4, c402_4, e402, hx402_0, hx402_1, hx402_2, hx402_3, hx402_4, hl402_0, hi402_0, hl402_4, hi402_4⟩ := at_T57 HR1.out x5_1 p402 q402
     have hw402_4 := hx402_4
     have hw402_3 := hx402_3
     have hw402_2 := hx402_2
     have hw402_1 := hx402_1
     have hw402_0 := hx402_0
     cases e402
     replace hx402_0 := bc_ HB.out hx402_0
     replace hx402_1 := bc_ HB.out hx402_1
     replace hx402_2 := bc_ HB.out hx402_2
     replace hx402_3 := bc_ HB.out hx402_3
     replace hx402_4 := bc_ HB.out hx402_4
     have HR402_0 := Aside0.mk hi402_0
     have HC402_0 := Aside0.mk hl402_0
     clear hi402_0 hl402_0
     have HR402_4 := Aside0.mk hi402_4
     have HC402_4 := Aside0.mk hl402_4
     clear hi402_4 hl402_4
     replace p402 := eq_true p402
     replace q402 := eq_true q402
     refine start_ (n := 10) (S := fun w' => w'.cell? (ad401.add ((x5_1).toNat * 5)) = some (.slice A401_0 ((rd_T57 l0 x5_1).f0).length c401_0) ∧ w'.cell? ⟨(ad401.add ((x5_1).toNat * 5)).block, (ad401.add ((x5_1).toNat * 5)).off + 1, none⟩ = some (.bool ((rd_T57 l0 x5_1).f1)) ∧ w'.cell? ⟨(ad401.add ((x5_1).toNat * 5)).block, (ad401.add ((x5_1).toNat * 5)).off + 2, none⟩ = some (.string ((rd_T57 l0 x5_1).f2)) ∧ w'.cell? ⟨(ad401.add ((x5_1).toNat * 5)).block, (ad401.add ((x5_1).toNat * 5)).off + 3, none⟩ = some (.int .i64 ((rd_T57 l0 x5_1).f3)) ∧ w'.cell? ⟨(ad401.add ((x5_1).toNat * 5)).block, (ad401.add ((x5_1).toNat * 5)).off + 4, none⟩ = some (.slice A401_4 ((rd_T57 l0 x5_1).f4).length c401_4) ∧ w'.cell? (ad402.add ((x5_1).toNat * 5)) = some (.slice A402_0 ((rd_T57 l1 x5_1).f0).length c402_0) ∧ w'.cell? ⟨(ad402.add ((x5_1).toNat * 5)).block, (ad402.add ((x5_1).toNat * 5)).off + 1, none⟩ = some (.bool ((rd_T57 l1 x5_1).f1)) ∧ w'.cell? ⟨(ad402.add ((x5_1).toNat * 5)).block, (ad402.add ((x5_1).toNat * 5)).off + 2, none⟩ = some (.string ((rd_T57 l1 x5_1).f2)) ∧ w'.cell? ⟨(ad402.add ((x5_1).toNat * 5)).block, (ad402.add ((x5_1).toNat * 5)).off + 3, none⟩ = some (.int .i64 ((rd_T57 l1 x5_1).f3)) ∧ w'.cell? ⟨(ad402.add ((x5_1).toNat * 5)).block, (ad402.add ((x5_1).toNat * 5)).off + 4, none⟩ = some (.slice A402_4 ((rd_T57 l1 x5_1).f4).length c402_4)) (ds := []) #[false, false, false, false, false, false, false, false, false, false] (by kernel_rfl) rfl rfl ⟨((HB.out.cell (World.block_lt_of_cell? w _ hw401_0)).trans hw401_0), ((HB.out.cell (World.block_lt_of_cell? w _ hw401_1)).trans hw401_1), ((HB.out.cell (World.block_lt_of_cell? w _ hw401_2)).trans hw401_2), ((HB.out.cell (World.block_lt_of_cell? w _ hw401_3)).trans hw401_3), ((HB.out.cell (World.block_lt_of_cell? w _ hw401_4)).trans hw401_4), ((HB.out.cell (World.block_lt_of_cell? w _ hw402_0)).trans hw402_0), ((HB.out.cell (World.block_lt_of_cell? w _ hw402_1)).trans hw402_1), ((HB.out.cell (World.block_lt_of_cell? w _ hw402_2)).trans hw402_2), ((HB.out.cell (World.block_lt_of_cell? w _ hw402_3)).trans hw402_3), ((HB.out.cell (World.block_lt_of_cell? w _ hw402_4)).trans hw402_4)⟩ (fun hHeld => ?_); refine with_tabW laws_eqResS.tab6 laws_eqResS.bits6 (fun HT_ HW_ => ?_)
     generalize wr.drew = w11 at HB HR401_0 HR401_4 HR402_0 HR402_4 hx401_0 hx401_1 hx401_2 hx401_3 hx401_4 hx402_0 hx402_1 hx402_2 hx402_3 hx402_4 hHeld ⊢
     refine pu_ (i := 0) (N := some 17) ?_
     refine pu_ (i := 1) (N := some 18) ?_
     refine pu_ (i := 2) (N := some 19) ?_
     refine pu_ (i := 4) (N := some 21) ?_
     refine pu_ (i := 5) (N := some 22) ?_
     refine pu_ (i := 6) (N := some 23) ?_
     refine tk_ (i := 3) (N := some 20) hHeld ?_
     refine tk_ (i := 7) (N := some 24) hHeld ?_
     refine on_ (i := 8) (N := some 25) (fun K hK => ?_)
     refine goes_ Try.func68 (by kernel_rfl) rfl #[.agg #[.slice A401_0 ((rd_T57 l0 x5_1).f0).length c401_0, .bool ((rd_T57 l0 x5_1).f1), .string ((rd_T57 l0 x5_1).f2), .int .i64 ((rd_T57 l0 x5_1).f3), .slice A401_4 ((rd_T57 l0 x5_1).f4).length c401_4], .agg #[.slice A402_0 ((rd_T57 l1 x5_1).f0).length c402_0, .bool ((rd_T57 l1 x5_1).f1), .string ((rd_T57 l1 x5_1).f2), .int .i64 ((rd_T57 l1 x5_1).f3), .slice A402_4 ((rd_T57 l1 x5_1).f4).length c402_4]] (by rfl) rfl rfl ml_ ?_
     with_reducible refine (laws_eqRes.calls k1 _ _ ((rd_T57 l0 x5_1).f0) ((rd_T57 l0 x5_1).f1) ((rd_T57 l0 x5_1).f2) ((rd_T57 l0 x5_1).f3) _ _ ((rd_T57 l0 x5_1).f4) _ _ ((rd_T57 l1 x5_1).f0) ((rd_T57 l1 x5_1).f1) ((rd_T57 l1 x5_1).f2) ((rd_T57 l1 x5_1).f3) _ _ ((rd_T57 l1 x5_1).f4) false _ ?side1 ?side2 ?side3 ?side4 ?side5 ?side6 ?side7 ?side8 A7.out).mono ?_
     (case side1 => exact cC_ (Kd.C_below HR401_0.out HB.out))
     (case side2 => exact HC401_0.out)
     (case side3 => exact cC_ (Kd.C_below HR401_4.out HB.out))
     (case side4 => exact HC401_4.out)
     (case side5 => exact cC_ (Kd.C_below HR402_0.out HB.out))
     (case side6 => exact HC402_0.out)
     (case side7 => exact cC_ (Kd.C_below HR402_4.out HB.out))
     (case side8 => exact HC402_4.out)
     rintro e w12 ⟨rfl, hb⟩
     refine ⟨_, rfl, ?_⟩
     have n0_ := Aside0.mk (below_step bB_ hb)
     clear HB
     have HB := n0_
     clear n0_
     (try clear hb)
     (try clear hb2)
     (try clear hk)
     (try clear hi)
     refine hK.out _ _ ⟨((HB.out.cell (World.block_lt_of_cell? w _ hw401_0)).trans hw401_0), ((HB.out.cell (World.block_lt_of_cell? w _ hw401_1)).trans hw401_1), ((HB.out.cell (World.block_lt_of_cell? w _ hw401_2)).trans hw401_2), ((HB.out.cell (World.block_lt_of_cell? w _ hw401_3)).trans hw401_3), ((HB.out.cell (World.block_lt_of_cell? w _ hw401_4)).trans hw401_4), ((HB.out.cell (World.block_lt_of_cell? w _ hw402_0)).trans hw402_0), ((HB.out.cell (World.block_lt_of_cell? w _ hw402_1)).trans hw402_1), ((HB.out.cell (World.block_lt_of_cell? w _ hw402_2)).trans hw402_2), ((HB.out.cell (World.block_lt_of_cell? w _ hw402_3)).trans hw402_3), ((HB.out.cell (World.block_lt_of_cell? w _ hw402_4)).trans hw402_4)⟩ (fun hHeld => ?_)
     clear hK K
     refine no_ (some 25) ?_
     refine pu_ (i := 9) (N := some 26) ?_
     refine done_ (done_of HT_.out (by kernel_rfl)) ?_
     (try clear hHeld)
     try go_wp2
     go_ret
     exact ⟨rr_, bB_⟩
def laws_markText.l0 : Nat → Int → ByteArray → Option (ByteArray)
 | 0, _, _ => none
 | k + 1, x0, x3 => if x0 > 0 then ((some (([(wrap64 (48 + (Int.tmod x0 10))) % 256] : List Int) : List Int)).bind fun y404 => (if (strOfNums y404).size + x3.size ≤ 9223372036854775807 then (laws_markText.l0 k (wrap64 (Int.tdiv x0 10)) ((strOfNums y404) ++ x3)) else (none))) else (if 1 + x3.size ≤ 9223372036854775807 then (some ((⟨#[109]⟩ : ByteArray) ++ x3)) else (none))
def laws_markText.f (k : Nat) (a0 : Int) : Option (ByteArray) := if a0 ≤ 0 then (some (⟨#[109, 48]⟩ : ByteArray)) else (laws_markText.l0 k a0 (⟨#[]⟩ : ByteArray))
theorem laws_markText.mono_l : ∀ k, (∀ y0 y1, LeO (laws_markText.l0 k y0 y1) (laws_markText.l0 (k + 1) y0 y1))
 | 0 => fun _ _ r h => by simp [laws_markText.l0] at h
 | k + 1 => by
  have ih0 := laws_markText.mono_l k
  · intro y0 y1
    unfold laws_markText.l0
    repeat' first
    | (with_reducible exact ih0 _ _)
    | (with_reducible exact LeO.refl _)
    | (with_reducible exact LeO.none _)
    | (with_reducible refine LeO.ite ?_ ?_)
    | (with_reducible refine LeO.bind ?_ (fun _ => ?_))
    | exact ih0 _ _
    | exact LeO.none _
    | refine LeO.ite ?_ ?_
    | refine LeO.bind ?_ (fun _ => ?_)
theorem laws_markText.mono : ∀ a0 k, LeO (laws_markText.f k a0) (laws_markText.f (k + 1) a0) := by
 intro a0 k
 have ih0 := laws_markText.mono_l k
 unfold laws_markText.f
 repeat' first
  | (with_reducible exact ih0 _ _)
  | (with_reducible exact LeO.refl _)
  | (with_reducible exact LeO.none _)
  | (with_reducible refine LeO.ite ?_ ?_)
  | (with_reducible refine LeO.bind ?_ (fun _ => ?_))
  | exact ih0 _ _
  | exact LeO.none _
  | refine LeO.ite ?_ ?_
  | refine LeO.bind ?_ (fun _ => ?_)
set_option maxHeartbeats 8000000 in
set_option maxRecDepth 100000 in
theorem laws_markText.calls (k : Nat) (a0 : Int) (r : ByteArray) (w : World) (h : laws_markText.f k a0 = some r) :
 Calls Try.prog 69 #[.int .i64 a0] w fun e w' => e = .returned (.string r) ∧ Below w.heap.size w w' := by
 have HB := Aside0.mk (Below.refl w.heap.size w)
 have H : (if a0 ≤ 0 then (some (⟨#[109, 48]⟩ : ByteArray)) else (laws_markText.l0 k a0 (⟨#[]⟩ : ByteArray))) = some r := h
 clear h
 by_cases c2 : a0 ≤ 0
 · rw [if_pos c2] at H
   have c2b0 : decide (a0 ≤ 0) = true := decide_eq_true c2
   clear c2
   obtain rfl := Option.some.inj H
   go_enter Try.func69, Try.ntmps69
   go_wp2
   go_ret
   exact ⟨rr_, bB_⟩
 rw [if_neg c2] at H
 have c2b0 : decide (a0 ≤ 0) = false := decide_eq_false c2
 clear c2
 have H' := Aside0.mk H
 clear H
 go_enter Try.func69, Try.ntmps69
 go_wp2
 go_loopg [0, 3] k (fun kq v0 v3 w' => ∃ (x0_1 : Int) (x3_1 : ByteArray), v0 = .int .i64 x0_1 ∧ v3 = .string x3_1 ∧ Aside0 (laws_markText.l0 kq x0_1 x3_1 = some r) ∧ Aside0 (kq ≤ k) ∧ Aside0 (Below w.heap.size w w'))
 case atStart => exact ⟨(a0), ((⟨#[]⟩ : ByteArray)), rs_, rs_, H', ⟨Nat.le_refl _⟩, ⟨bB_⟩⟩
 case round =>
  clear H'
  try clear c2
  try clear c2b0
  try clear p2
  obtain ⟨x0_1, x3_1, rfl, rfl, HA, HK1, HB⟩ := hrel
  cases gk with
  | zero => exact absurd HA.out (by simp [laws_markText.l0])
  | succ k1 =>
   have H := HA.out
   clear HA
   simp only [laws_markText.l0] at H
   by_cases c3 : x0_1 > 0
   rotate_left
   · rw [if_neg c3] at H
     have c3b0 : decide (0 < x0_1) = false := decide_eq_false c3
     clear c3
     by_cases c8 : 1 + x3_1.size ≤ 9223372036854775807
     rotate_left
     · exact absurd H (by rw [if_neg c8]; simp)
     rw [if_pos c8] at H
     have c8b0 := eq_true c8
     have c8b1 : decide (1 + x3_1.size ≤ 9223372036854775807) = true := decide_eq_true c8
     try have c8b2 : (9223372036854775807 < 1 + x3_1.size) = False := eq_false (Nat.not_lt.2 c8)
     obtain rfl := Option.some.inj H
     go_wp2
     go_ret
     exact ⟨rr_, bB_⟩
   rw [if_pos c3] at H
   have c3b0 : decide (0 < x0_1) = true := decide_eq_true c3
   clear c3
   obtain ⟨y404, hy404⟩ : ∃ y_ : List Int, y_ = (([(wrap64 (48 + (Int.tmod x0_1 10))) % 256] : List Int)) := ⟨_, rfl⟩
   replace H : (if (strOfNums y404).size + x3_1.size ≤ 9223372036854775807 then (laws_markText.l0 k1 (wrap64 (Int.tdiv x0_1 10)) ((strOfNums y404) ++ x3_1)) else (none)) = some r := by first | (rw [hy404]; with_reducible exact H) | (have H2_ := (Option.bind_some _ _).symm.trans H; rw [hy404]; with_reducible exact H2_) | (have H2_ := (Option.bind_some _ _).symm.trans H; with_reducible exact H2_) | with_reducible exact H | (rw [hy404]; exact H) | exact H
   have Ny404 := Aside0.mk hy404
   clear hy404
   by_cases c4 : (strOfNums y404).size + x3_1.size ≤ 9223372036854775807
   rotate_left
   · exact absurd H (by rw [if_neg c4]; simp)
   rw [if_pos c4] at H
   have c4b0 := eq_true c4
   have c4b1 : decide ((strOfNums y404).size + x3_1.size ≤ 9223372036854775807) = true := decide_eq_true c4
   try have c4b2 : (9223372036854775807 < (strOfNums y404).size + x3_1.size) = False := eq_false (Nat.not_lt.2 c4)
   have H' := Aside0.mk H
   clear H
   go_wp2_with (first | ((with_reducible refine gate_dst (N := 12) rfl ?_); refine Kd.R_lit (Kd.int .u8) _ 5 ?hg (N := 12) ?hd (xs := ([(wrap64 (48 + (Int.tmod x0_1 10))) % 256] : List Int)) (inner := [.int .u8 ((wrap64 (48 + (Int.tmod x0_1 10))) % 256)]) (ok := fun _ => True) (okp := fun _ => True) ?hr ?hp (fun _ hk => hk) trivial (Below.refl _ _) (Nat.le_refl _) (by simp) ?_; (case hd => rfl); (case hg => rfl); (case hr => first | (go_simp; done) | (go_simp; rfl)); (case hp => exact (Reps.one (show Kd.M (Kd.int .u8) _ _ _ ((wrap64 (48 + (Int.tmod x0_1 10))) % 256) [.int .u8 ((wrap64 (48 + (Int.tmod x0_1 10))) % 256)] from rfl) (Reps.none _ _))); intro v405 w5 ho6 hb hg_ hnew_; clear hg_ hnew_; (first | rw [← Ny404.out] at ho6 | (simp only [Int.reduceToNat] at ho6; rw [← Ny404.out] at ho6)); have n0_ := Aside0.mk (Kd.R_lower ho6 (below_size bB_)); have n1_ := Aside0.mk (below_step bB_ hb); clear HB; have HO406 := n0_; have HB := n1_; clear n0_ n1_; clear hb ho6; have hcv7 := own_string (P := Try.prog) Try.underlying49 Try.underlying5 Try.underlying9 (Kd.own_of_R HO406.out)))
   go_roundg k1
   case measure => have := HK1.out; omega
   case rel => exact ⟨(wrap64 (Int.tdiv x0_1 10)), ((strOfNums y404) ++ x3_1), rs_, rs_, H', ⟨by have := HK1.out; omega⟩, ⟨bB_⟩⟩
def laws_markStringS.l0 : Nat → List ByteArray → Int → Int → Option (Int × List ByteArray)
 | 0, _, _, _ => none
 | k + 1, x0, x1, x5 => if x5 < (x0.length : Int) then ((laws_markText.f k x1).bind fun t407 => (if 0 ≤ x5 then (laws_markStringS.l0 k (x0.set (x5 : Int).toNat t407) (wrap64 (x1 + 1)) (wrap64 (x5 + 1))) else (none))) else (some (x1, x0))
def laws_markStringS.f (k : Nat) (l0 : List ByteArray) (a1 : Int) : Option (Int × List ByteArray) := laws_markStringS.l0 k l0 a1 0
set_option maxHeartbeats 8000000 in
set_option maxRecDepth 100000 in
theorem laws_markStringS.calls (k : Nat) (P0_ : Nat → Prop) (u9000_ : Value) (l0 : List ByteArray) (a1 : Int) (r1 : Int) (r2 : List ByteArray) (w0 w : World) (hB : Below w0.heap.size w0 w) (ho0 : Kd.R Kd.string 9 w w0.heap.size P0_ u9000_ l0) (h : laws_markStringS.f k l0 a1 = some (r1, r2)) :
 Calls Try.prog 22 #[u9000_, .int .i64 a1] w fun e w' => e = .returned (.int .i64 r1) ∧ Kd.R Kd.string 9 w' w0.heap.size (fun k_ => (P0_ k_ ∨ w.heap.size ≤ k_)) u9000_ r2 ∧ Below w0.heap.size w0 w' ∧ Kept w w' (fun k_ => P0_ k_) := by
 have HO0 := Aside0.mk (show Kd.R Kd.string 9 w w0.heap.size (fun k_ => (P0_ k_ ∨ w.heap.size ≤ k_)) u9000_ l0 from Kd.R_mono ho0 (fun k_ hk => (.inl hk)))
 have HK := Aside0.mk (Kept.refl w (fun k_ => P0_ k_))
 have HW0 := Aside0.mk hB.size
 have HB := Aside0.mk hB
 clear hB
 have H : (laws_markStringS.l0 k l0 a1 0) = some (r1, r2) := h
 clear h
 have H' := Aside0.mk H
 clear H
 go_enter Try.func22, Try.ntmps22
 go_wp2
 go_loopg [1, 5] k (fun kq v1 v5 w' => ∃ (x0_1 : List ByteArray) (x1_1 : Int) (x5_1 : Int), v1 = .int .i64 x1_1 ∧ v5 = .int .i64 x5_1 ∧ Aside0 (laws_markStringS.l0 kq x0_1 x1_1 x5_1 = some (r1, r2)) ∧ Aside0 (kq ≤ k) ∧ Aside0 (Kd.R Kd.string 9 w' w0.heap.size (fun k_ => (P0_ k_ ∨ w.heap.size ≤ k_)) u9000_ x0_1) ∧ Aside0 (Kept w w' (fun k_ => P0_ k_)) ∧ Aside0 (Below w0.heap.size w0 w'))
 case atStart => exact ⟨(l0), (a1), (0), rs_, rs_, H', ⟨Nat.le_refl _⟩, ⟨by (with_reducible repeat (first | apply Kd.R_alloc | apply Kd.R_drewN | apply Kd.R_drew)); exact HO0.out⟩, ⟨by repeat (first | (with_reducible first | exact HK.out | apply Kept.alloc | apply Kept.drewN | apply Kept.drew) | exact HK.out)⟩, ⟨bB_⟩⟩
 case round =>
  clear H'
  try clear c2
  try clear p2
  obtain ⟨x0_1, x1_1, x5_1, rfl, rfl, HA, HK1, HO_0, HK, HB⟩ := hrel
  cases gk with
  | zero => exact absurd HA.out (by simp [laws_markStringS.l0])
  | succ k1 =>
   have H := HA.out
   clear HA
   simp only [laws_markStringS.l0] at H
   by_cases c3 : x5_1 < (x0_1.length : Int)
   rotate_left
   · rw [if_neg c3] at H
     have c3b0 : decide (x5_1 < (x0_1.length : Int)) = false := decide_eq_false c3
     clear c3
     simp only [Option.some.injEq, Prod.mk.injEq] at H
     obtain ⟨rfl, rfl⟩ := H
     obtain ⟨Ao11, co11, eo11⟩ := Kd.R_slice HO_0.out
     subst eo11
     go_wp2
     go_ret
     exact ⟨rr_, by (with_reducible repeat (first | apply Kd.R_alloc | apply Kd.R_drewN | apply Kd.R_drew)); exact HO_0.out, bB_, by repeat (first | (with_reducible first | exact HK.out | apply Kept.alloc | apply Kept.drewN | apply Kept.drew) | exact HK.out)⟩
   rw [if_pos c3] at H
   have c3b0 : decide (x5_1 < (x0_1.length : Int)) = true := decide_eq_true c3
   clear c3
   obtain ⟨t407, A4, H⟩ := bo_ H
   (try dsimp only at H)
   by_cases c5 : 0 ≤ x5_1
   rotate_left
   · exact absurd H (by rw [if_neg c5]; simp)
   rw [if_pos c5] at H
   have c5b0 : decide (0 ≤ x5_1) = true := decide_eq_true c5
   clear c5
   obtain ⟨y408, hy408⟩ : ∃ y_ : List ByteArray, y_ = (x0_1.set (x5_1 : Int).toNat t407) := ⟨_, rfl⟩
   replace H : (laws_markStringS.l0 k1 y408 (wrap64 (x1_1 + 1)) (wrap64 (x5_1 + 1))) = some (r1, r2) := by first | (rw [hy408]; with_reducible exact H) | (have H2_ := (Option.bind_some _ _).symm.trans H; rw [hy408]; with_reducible exact H2_) | (have H2_ := (Option.bind_some _ _).symm.trans H; with_reducible exact H2_) | with_reducible exact H | (rw [hy408]; exact H) | exact H
   have Ny408 := Aside0.mk hy408
   clear hy408
   have H' := Aside0.mk H
   clear H
   obtain ⟨Ao7, co7, eo7⟩ := Kd.R_slice HO_0.out
   subst eo7
   go_wp2_with (first | ((with_reducible refine gate_callee (f := 69) rfl ?_); refine gL_ (some 15) Try.func69 #[.int .i64 x1_1] ?_; (with_reducible refine (laws_markText.calls k1 x1_1 t407 _ A4.out).mono ?_); rintro e w8 ⟨rfl, hb⟩; refine ⟨_, rfl, ?_⟩; have n0_ := Aside0.mk (Kd.R_below (vR_ HO_0.out) hb); have n1_ := Aside0.mk (Kept.below (S := (fun k_ => P0_ k_)) (by repeat (first | (with_reducible first | exact HK.out | apply Kept.alloc | apply Kept.drewN | apply Kept.drew) | exact HK.out)) hb); have n2_ := Aside0.mk (below_step bB_ hb); clear HO_0; clear HK; clear HB; have HO_0 := n0_; have HK := n1_; have HB := n2_; clear n0_ n1_ n2_; (try clear hb); have p6 : 0 ≤ (x5_1 : Int) := of_decide_eq_true as_; have q6 : (x5_1 : Int) < ((x0_1.length : Int) : Int) := of_decide_eq_true as_; obtain ⟨go6, co6, eo6, gb6, gl6, cl6, HG6⟩ := Kd.R_form HO_0.out (by omega); (first | cases eo6 | (injection eo6 with ea_ en_ ec_; (first | subst ea_ | (injection ea_ with ea_; subst ea_)); subst ec_; clear en_)); have GB6 := Aside0.mk gb6; have GG6 := Aside0.mk HG6; clear gb6 gl6 HG6; have HMgo6 := Aside0.mk (show (P0_ go6 ∨ w.heap.size ≤ go6) from (HO_0.out.1 _ rfl)); obtain ⟨hx6_0, hf6_0⟩ := Kd.R_celln (⟨#[]⟩ : ByteArray) HO_0.out (x5_1 : Int) p6 q6; replace p6 := eq_true p6; replace q6 := eq_true q6; obtain ⟨hy9_, hz9_⟩ := Kd.R_celln (⟨#[]⟩ : ByteArray) HO_0.out (x5_1 : Int) (of_decide_eq_true as_) (of_decide_eq_true as_); have HP9 := Kd.R_putg HO_0.out (x5_1 : Int) t407) | ((with_reducible refine gate_store (t := 9) (p := 16) rfl ?_); refine store_event (t := 9) (p := 16) (v := ?vo_w10) (w1 := (w8.setCell ⟨go6, (x5_1 : Int).toNat, none⟩ (.string t407))) ?hg ?ho ?hn ?hr ?_; (case ho => rfl); (case hg => rfl); (case hn => rfl); (case hr => first | (go_simp; done) | (go_simp; rfl)); intro w10 hw; have hg : w8.grownBy w10 (some go6) := (by rw [hw]; exact HP9.2); have hp_ : Kd.R Kd.string 9 w10 w0.heap.size (fun k_ => (P0_ k_ ∨ w.heap.size ≤ k_)) (.slice (some ⟨go6, 0, none⟩) x0_1.length co7) y408 := (by rw [hw, Ny408.out]; exact HP9.1); clear HP9; have n0_ := Aside0.mk (hp_); have n1_ := Aside0.mk ((by rw [hw]; exact below_set (HB.out) GB6.out : Below w0.heap.size w0 w10)); have n2_ := Aside0.mk (Kept.of_grown (S := (fun k_ => P0_ k_)) hg (by repeat (first | (with_reducible first | exact HK.out | apply Kept.alloc | apply Kept.drewN | apply Kept.drew) | exact HK.out)) (fun k_ e_ => (HO_0.out.1 k_ e_))); clear HO_0; clear HB; clear HK; have HO_0 := n0_; have HB := n1_; have HK := n2_; clear n0_ n1_ n2_; clear hg hw hp_))
   go_roundg k1
   case measure => have := HK1.out; omega
   case rel => exact ⟨(y408), (wrap64 (x1_1 + 1)), (wrap64 (x5_1 + 1)), rs_, rs_, H', ⟨by have := HK1.out; omega⟩, ⟨by (with_reducible repeat (first | apply Kd.R_alloc | apply Kd.R_drewN | apply Kd.R_drew)); exact HO_0.out⟩, ⟨by repeat (first | (with_reducible first | exact HK.out | apply Kept.alloc | apply Kept.drewN | apply Kept.drew) | exact HK.out)⟩, ⟨bB_⟩⟩
def laws_markPropS.l0 : Nat → List (S72) → Int → Int → Option (Int × (List (S72)))
 | 0, _, _, _ => none
 | k + 1, x0, x1, x5 => if x5 < (x0.length : Int) then ((laws_markText.f k x1).bind fun t409 => (if 0 ≤ x5 then ((some (x0.set (x5 : Int).toNat (⟨t409, (rd_T72 x0 x5).f1, (rd_T72 x0 x5).f2⟩ : S72) : List (S72))).bind fun y410 => ((laws_markText.f k (wrap64 (x1 + 1))).bind fun t411 => ((some (y410.set (x5 : Int).toNat (⟨(rd_T72 y410 x5).f0, t411, (rd_T72 y410 x5).f2⟩ : S72) : List (S72))).bind fun y412 => ((laws_markText.f k (wrap64 ((wrap64 (x1 + 1)) + 1))).bind fun t413 => (laws_markPropS.l0 k (y412.set (x5 : Int).toNat (⟨(rd_T72 y412 x5).f0, (rd_T72 y412 x5).f1, t413⟩ : S72)) (wrap64 ((wrap64 ((wrap64 (x1 + 1)) + 1)) + 1)) (wrap64 (x5 + 1))))))) else (none))) else (some (x1, x0))
def laws_markPropS.f (k : Nat) (l0 : List (S72)) (a1 : Int) : Option (Int × (List (S72))) := laws_markPropS.l0 k l0 a1 0
set_option maxHeartbeats 8000000 in
set_option maxRecDepth 100000 in
theorem laws_markPropS.calls (k : Nat) (P0_ : Nat → Prop) (u9000_ : Value) (l0 : List (S72)) (a1 : Int) (r1 : Int) (r2 : List (S72)) (w0 w : World) (hB : Below w0.heap.size w0 w) (ho0 : Kd.R k72 72 w w0.heap.size P0_ u9000_ l0) (h : laws_markPropS.f k l0 a1 = some (r1, r2)) :
 Calls Try.prog 70 #[u9000_, .int .i64 a1] w fun e w' => e = .returned (.int .i64 r1) ∧ Kd.R k72 72 w' w0.heap.size (fun k_ => (P0_ k_ ∨ w.heap.size ≤ k_)) u9000_ r2 ∧ Below w0.heap.size w0 w' ∧ Kept w w' (fun k_ => P0_ k_) := by
 have HO0 := Aside0.mk (show Kd.R k72 72 w w0.heap.size (fun k_ => (P0_ k_ ∨ w.heap.size ≤ k_)) u9000_ l0 from Kd.R_mono ho0 (fun k_ hk => (.inl hk)))
 have HK := Aside0.mk (Kept.refl w (fun k_ => P0_ k_))
 have HW0 := Aside0.mk hB.size
 have HB := Aside0.mk hB
 clear hB
 have H : (laws_markPropS.l0 k l0 a1 0) = some (r1, r2) := h
 clear h
 have H' := Aside0.mk H
 clear H
 go_enter Try.func70, Try.ntmps70
 go_wp2
 go_loopg [1, 5] k (fun kq v1 v5 w' => ∃ (x0_1 : List (S72)) (x1_1 : Int) (x5_1 : Int), v1 = .int .i64 x1_1 ∧ v5 = .int .i64 x5_1 ∧ Aside0 (laws_markPropS.l0 kq x0_1 x1_1 x5_1 = some (r1, r2)) ∧ Aside0 (kq ≤ k) ∧ Aside0 (Kd.R k72 72 w' w0.heap.size (fun k_ => (P0_ k_ ∨ w.heap.size ≤ k_)) u9000_ x0_1) ∧ Aside0 (Kept w w' (fun k_ => P0_ k_)) ∧ Aside0 (Below w0.heap.size w0 w'))
 case atStart => exact ⟨(l0), (a1), (0), rs_, rs_, H', ⟨Nat.le_refl _⟩, ⟨by (with_reducible repeat (first | apply Kd.R_alloc | apply Kd.R_drewN | apply Kd.R_drew)); exact HO0.out⟩, ⟨by repeat (first | (with_reducible first | exact HK.out | apply Kept.alloc | apply Kept.drewN | apply Kept.drew) | exact HK.out)⟩, ⟨bB_⟩⟩
 case round =>
  clear H'
  try clear p2
  obtain ⟨x0_1, x1_1, x5_1, rfl, rfl, HA, HK1, HO_0, HK, HB⟩ := hrel
  cases gk with
  | zero => exact absurd HA.out (by simp [laws_markPropS.l0])
  | succ k1 =>
   have H := HA.out
   clear HA
   simp only [laws_markPropS.l0] at H
   by_cases c3 : x5_1 < (x0_1.length : Int)
   rotate_left
   · rw [if_neg c3] at H
     have c3b0 : decide (x5_1 < (x0_1.length : Int)) = false := decide_eq_false c3
     clear c3
     simp only [Option.some.injEq, Prod.mk.injEq] at H
     obtain ⟨rfl, rfl⟩ := H
     obtain ⟨Ao21, co21, eo21⟩ := Kd.R_slice HO_0.out
     subst eo21
     go_wp2
     go_ret
     exact ⟨rr_, by (with_reducible repeat (first | apply Kd.R_alloc | apply Kd.R_drewN | apply Kd.R_drew)); exact HO_0.out, bB_, by repeat (first | (with_reducible first | exact HK.out | apply Kept.alloc | apply Kept.drewN | apply Kept.drew) | exact HK.out)⟩
   rw [if_pos c3] at H
   have c3b0 : decide (x5_1 < (x0_1.length : Int)) = true := decide_eq_true c3
   clear c3
   obtain ⟨t409, A4, H⟩ := bo_ H
   (try dsimp only at H)
   by_cases c5 : 0 ≤ x5_1
   rotate_left
   · exact absurd H (by rw [if_neg c5]; simp)
   rw [if_pos c5] at H
   have c5b0 : decide (0 ≤ x5_1) = true := decide_eq_true c5
   clear c5
   obtain ⟨y410, hy410⟩ : ∃ y_ : List (S72), y_ = (x0_1.set (x5_1 : Int).toNat (⟨t409, (rd_T72 x0_1 x5_1).f1, (rd_T72 x0_1 x5_1).f2⟩ : S72)) := ⟨_, rfl⟩
   replace H : ((laws_markText.f k1 (wrap64 (x1_1 + 1))).bind fun t411 => ((some (y410.set (x5_1 : Int).toNat (⟨(rd_T72 y410 x5_1).f0, t411, (rd_T72 y410 x5_1).f2⟩ : S72) : List (S72))).bind fun y412 => ((laws_markText.f k1 (wrap64 ((wrap64 (x1_1 + 1)) + 1))).bind fun t413 => (laws_markPropS.l0 k1 (y412.set (x5_1 : Int).toNat (⟨(rd_T72 y412 x5_1).f0, (rd_T72 y412 x5_1).f1, t413⟩ : S72)) (wrap64 ((wrap64 ((wrap64 (x1_1 + 1)) + 1)) + 1)) (wrap64 (x5_1 + 1)))))) = some (r1, r2) := by first | (rw [hy410]; with_reducible exact H) | (have H2_ := (Option.bind_some _ _).symm.trans H; rw [hy410]; with_reducible exact H2_) | (have H2_ := (Option.bind_some _ _).symm.trans H; with_reducible exact H2_) | with_reducible exact H | (rw [hy410]; exact H) | exact H
   have Ny410 := Aside0.mk hy410
   clear hy410
   obtain ⟨t411, A7, H⟩ := bo_ H
   (try dsimp only at H)
   obtain ⟨y412, hy412⟩ : ∃ y_ : List (S72), y_ = (y410.set (x5_1 : Int).toNat (⟨(rd_T72 y410 x5_1).f0, t411, (rd_T72 y410 x5_1).f2⟩ : S72)) := ⟨_, rfl⟩
   replace H : ((laws_markText.f k1 (wrap64 ((wrap64 (x1_1 + 1)) + 1))).bind fun t413 => (laws_markPropS.l0 k1 (y412.set (x5_1 : Int).toNat (⟨(rd_T72 y412 x5_1).f0, (rd_T72 y412 x5_1).f1, t413⟩ : S72)) (wrap64 ((wrap64 ((wrap64 (x1_1 + 1)) + 1)) + 1)) (wrap64 (x5_1 + 1)))) = some (r1, r2) := by first | (rw [hy412]; with_reducible exact H) | (have H2_ := (Option.bind_some _ _).symm.trans H; rw [hy412]; with_reducible exact H2_) | (have H2_ := (Option.bind_some _ _).symm.trans H; with_reducible exact H2_) | with_reducible exact H | (rw [hy412]; exact H) | exact H
   have Ny412 := Aside0.mk hy412
   clear hy412
   obtain ⟨t413, A9, H⟩ := bo_ H
   (try dsimp only at H)
   obtain ⟨y414, hy414⟩ : ∃ y_ : List (S72), y_ = (y412.set (x5_1 : Int).toNat (⟨(rd_T72 y412 x5_1).f0, (rd_T72 y412 x5_1).f1, t413⟩ : S72)) := ⟨_, rfl⟩
   replace H : (laws_markPropS.l0 k1 y414 (wrap64 ((wrap64 ((wrap64 (x1_1 + 1)) + 1)) + 1)) (wrap64 (x5_1 + 1))) = some (r1, r2) := by first | (rw [hy414]; with_reducible exact H) | (have H2_ := (Option.bind_some _ _).symm.trans H; rw [hy414]; with_reducible exact H2_) | (have H2_ := (Option.bind_some _ _).symm.trans H; with_reducible exact H2_) | with_reducible exact H | (rw [hy414]; exact H) | exact H
   have Ny414 := Aside0.mk hy414
   clear hy414
   have H' := Aside0.mk H
   clear H
   obtain ⟨Ao11, co11, eo11⟩ := Kd.R_slice HO_0.out
   subst eo11
   go_wp2_with (first | ((with_reducible refine gate_callee (f := 69) rfl ?_); refine gL_ (some 15) Try.func69 #[.int .i64 x1_1] ?_; (with_reducible refine (laws_markText.calls k1 x1_1 t409 _ A4.out).mono ?_); rintro e w12 ⟨rfl, hb⟩; refine ⟨_, rfl, ?_⟩; have n0_ := Aside0.mk (Kd.R_below (vR_ HO_0.out) hb); have n1_ := Aside0.mk (Kept.below (S := (fun k_ => P0_ k_)) (by repeat (first | (with_reducible first | exact HK.out | apply Kept.alloc | apply Kept.drewN | apply Kept.drew) | exact HK.out)) hb); have n2_ := Aside0.mk (below_step bB_ hb); clear HO_0; clear HK; clear HB; have HO_0 := n0_; have HK := n1_; have HB := n2_; clear n0_ n1_ n2_; (try clear hb); have p6 : 0 ≤ (x5_1 : Int) := of_decide_eq_true as_; have q6 : (x5_1 : Int) < ((x0_1.length : Int) : Int) := of_decide_eq_true as_; obtain ⟨go6, co6, eo6, gb6, gl6, cl6, HG6⟩ := Kd.R_form HO_0.out (by omega); (first | cases eo6 | (injection eo6 with ea_ en_ ec_; (first | subst ea_ | (injection ea_ with ea_; subst ea_)); subst ec_; clear en_)); have GB6 := Aside0.mk gb6; have GG6 := Aside0.mk HG6; clear gb6 gl6 HG6; have HMgo6 := Aside0.mk (show (P0_ go6 ∨ w.heap.size ≤ go6) from (HO_0.out.1 _ rfl)); obtain ⟨ce6, hcl6, hM6, hcc6, hfr6⟩ := Kd.R_elem HO_0.out z72 (x5_1 : Int) p6 q6; obtain rfl := k72_openM hM6; have hx6_0 : w12.cell? ⟨go6, (x5_1 : Int).toNat * 3, none⟩ = some (.string ((rd_T72 x0_1 x5_1).f0)) := hcc6 0 _ rfl; have hx6_1 : w12.cell? ⟨go6, (x5_1 : Int).toNat * 3 + 1, none⟩ = some (.string ((rd_T72 x0_1 x5_1).f1)) := hcc6 1 _ rfl; have hx6_2 : w12.cell? ⟨go6, (x5_1 : Int).toNat * 3 + 2, none⟩ = some (.string ((rd_T72 x0_1 x5_1).f2)) := hcc6 2 _ rfl; have hf6_0 : w12.frozen? ⟨go6, (x5_1 : Int).toNat * 3, none⟩ = false := hfr6 0; have hf6_1 : w12.frozen? ⟨go6, (x5_1 : Int).toNat * 3 + 1, none⟩ = false := hfr6 1; have hf6_2 : w12.frozen? ⟨go6, (x5_1 : Int).toNat * 3 + 2, none⟩ = false := hfr6 2; (try clear hcl6); (try clear hcc6); (try clear hfr6); (try clear hM6); replace p6 := eq_true p6; replace q6 := eq_true q6; have HX13 := Aside0.mk (show Kd.R k72 72 w12 w0.heap.size (fun k_ => (P0_ k_ ∨ w.heap.size ≤ k_)) (.slice (some ⟨go6, 0, none⟩) x0_1.length co11) x0_1 from (vR_ HO_0.out)); obtain ⟨ce13, hcl13, hM13, hcc13, hfr13⟩ := Kd.R_elem HX13.out z72 (x5_1 : Int) (of_decide_eq_true as_) (by have h_ : (x5_1 : Int) < ((x0_1.length : Int) : Int) := of_decide_eq_true as_; first | exact h_ | (have e_ := (Kd.R_reads' HO_0.out).1; omega) | simpa using h_); obtain rfl := k72_openM hM13; have HP13 := Kd.R_seg HX13.out (x5_1 : Int) (of_decide_eq_true as_) (by have h_ : (x5_1 : Int) < ((x0_1.length : Int) : Int) := of_decide_eq_true as_; first | exact h_ | (have e_ := (Kd.R_reads' HO_0.out).1; omega) | simpa using h_) (seg := [.string t409]) (j := 0) hcl13 hcc13 (show 1 ≤ 3 from by decide) (x' := (⟨t409, (rd_T72 x0_1 x5_1).f1, (rd_T72 x0_1 x5_1).f2⟩ : S72)) (k72_mkM _ _ _ (⟨t409, (rd_T72 x0_1 x5_1).f1, (rd_T72 x0_1 x5_1).f2⟩ : S72) ) (fun _ hk => hk); have hx13_0 := hcc13 0 _ rfl; (try simp only [show (k72).sz = 3 from rfl, Nat.mul_one, Nat.add_zero] at hx13_0); have hf13_0 := hfr13 0; (try simp only [show (k72).sz = 3 from rfl, Nat.mul_one, Nat.add_zero] at hf13_0); (try clear hcl13); (try clear hcc13); (try clear hfr13); (try clear hM13)) | ((with_reducible refine gate_store (t := 9) (p := 17) rfl ?_); refine store_event (t := 9) (p := 17) (v := ?vo_w14) (w1 := (w12.setCell ⟨go6, (x5_1 : Int).toNat * 3, none⟩ (.string t409))) ?hg ?ho ?hn ?hr ?_; (case ho => rfl); (case hg => rfl); (case hn => rfl); (case hr => first | (go_simp; done) | (go_simp; rfl)); intro w14 hw; have hg : w12.grownBy w14 (some go6) := (by rw [hw]; exact HP13.2); have hp_ : Kd.R k72 72 w14 w0.heap.size (fun k_ => (P0_ k_ ∨ w.heap.size ≤ k_)) (.slice (some ⟨go6, 0, none⟩) x0_1.length co11) y410 := (by rw [hw, Ny410.out]; exact HP13.1); clear HP13; have n0_ := Aside0.mk (hp_); have n1_ := Aside0.mk ((by rw [hw]; exact below_set (HB.out) GB6.out : Below w0.heap.size w0 w14)); have n2_ := Aside0.mk (Kept.of_grown (S := (fun k_ => P0_ k_)) hg (by repeat (first | (with_reducible first | exact HK.out | apply Kept.alloc | apply Kept.drewN | apply Kept.drew) | exact HK.out)) (fun k_ e_ => (HO_0.out.1 k_ e_))); clear HO_0; clear HB; clear HK; have HO_0 := n0_; have HB := n1_; have HK := n2_; clear n0_ n1_ n2_; clear hg hw hp_) | ((with_reducible refine gate_callee (f := 69) rfl ?_); refine gL_ (some 23) Try.func69 #[.int .i64 (wrap64 (x1_1 + 1))] ?_; (with_reducible refine (laws_markText.calls k1 (wrap64 (x1_1 + 1)) t411 _ A7.out).mono ?_); rintro e w15 ⟨rfl, hb⟩; refine ⟨_, rfl, ?_⟩; have n0_ := Aside0.mk (Kd.R_below (vR_ HO_0.out) hb); have n1_ := Aside0.mk (Kept.below (S := (fun k_ => P0_ k_)) (by repeat (first | (with_reducible first | exact HK.out | apply Kept.alloc | apply Kept.drewN | apply Kept.drew) | exact HK.out)) hb); have n2_ := Aside0.mk (below_step bB_ hb); clear HO_0; clear HK; clear HB; have HO_0 := n0_; have HK := n1_; have HB := n2_; clear n0_ n1_ n2_; (try clear hb); have p8 : 0 ≤ (x5_1 : Int) := of_decide_eq_true as_; have q8 : (x5_1 : Int) < ((x0_1.length : Int) : Int) := of_decide_eq_true as_; obtain ⟨ce8, hcl8, hM8, hcc8, hfr8⟩ := Kd.R_elem HO_0.out z72 (x5_1 : Int) p8 q8; obtain rfl := k72_openM hM8; have hx8_0 : w15.cell? ⟨go6, (x5_1 : Int).toNat * 3, none⟩ = some (.string ((rd_T72 y410 x5_1).f0)) := hcc8 0 _ rfl; have hx8_1 : w15.cell? ⟨go6, (x5_1 : Int).toNat * 3 + 1, none⟩ = some (.string ((rd_T72 y410 x5_1).f1)) := hcc8 1 _ rfl; have hx8_2 : w15.cell? ⟨go6, (x5_1 : Int).toNat * 3 + 2, none⟩ = some (.string ((rd_T72 y410 x5_1).f2)) := hcc8 2 _ rfl; have hf8_0 : w15.frozen? ⟨go6, (x5_1 : Int).toNat * 3, none⟩ = false := hfr8 0; have hf8_1 : w15.frozen? ⟨go6, (x5_1 : Int).toNat * 3 + 1, none⟩ = false := hfr8 1; have hf8_2 : w15.frozen? ⟨go6, (x5_1 : Int).toNat * 3 + 2, none⟩ = false := hfr8 2; (try clear hcl8); (try clear hcc8); (try clear hfr8); (try clear hM8); replace p8 := eq_true p8; replace q8 := eq_true q8; have HX16 := Aside0.mk (show Kd.R k72 72 w15 w0.heap.size (fun k_ => (P0_ k_ ∨ w.heap.size ≤ k_)) (.slice (some ⟨go6, 0, none⟩) x0_1.length co11) y410 from (vR_ HO_0.out)); obtain ⟨ce16, hcl16, hM16, hcc16, hfr16⟩ := Kd.R_elem HX16.out z72 (x5_1 : Int) (of_decide_eq_true as_) (by have h_ : (x5_1 : Int) < ((x0_1.length : Int) : Int) := of_decide_eq_true as_; first | exact h_ | (have e_ := (Kd.R_reads' HO_0.out).1; omega) | simpa using h_); obtain rfl := k72_openM hM16; have HP16 := Kd.R_seg HX16.out (x5_1 : Int) (of_decide_eq_true as_) (by have h_ : (x5_1 : Int) < ((x0_1.length : Int) : Int) := of_decide_eq_true as_; first | exact h_ | (have e_ := (Kd.R_reads' HO_0.out).1; omega) | simpa using h_) (seg := [.string t411]) (j := 1) hcl16 hcc16 (show 2 ≤ 3 from by decide) (x' := (⟨(rd_T72 y410 x5_1).f0, t411, (rd_T72 y410 x5_1).f2⟩ : S72)) (k72_mkM _ _ _ (⟨(rd_T72 y410 x5_1).f0, t411, (rd_T72 y410 x5_1).f2⟩ : S72) ) (fun _ hk => hk); have hx16_1 := hcc16 1 _ rfl; (try simp only [show (k72).sz = 3 from rfl, Nat.mul_one, Nat.add_zero] at hx16_1); have hf16_1 := hfr16 1; (try simp only [show (k72).sz = 3 from rfl, Nat.mul_one, Nat.add_zero] at hf16_1); (try clear hcl16); (try clear hcc16); (try clear hfr16); (try clear hM16)) | ((with_reducible refine gate_store (t := 9) (p := 25) rfl ?_); refine store_event (t := 9) (p := 25) (v := ?vo_w17) (w1 := (w15.setCell ⟨go6, (x5_1 : Int).toNat * 3 + 1, none⟩ (.string t411))) ?hg ?ho ?hn ?hr ?_; (case ho => rfl); (case hg => rfl); (case hn => rfl); (case hr => first | (go_simp; done) | (go_simp; rfl)); intro w17 hw; have hg : w15.grownBy w17 (some go6) := (by rw [hw]; exact HP16.2); have hp_ : Kd.R k72 72 w17 w0.heap.size (fun k_ => (P0_ k_ ∨ w.heap.size ≤ k_)) (.slice (some ⟨go6, 0, none⟩) x0_1.length co11) y412 := (by rw [hw, Ny412.out]; exact HP16.1); clear HP16; have n0_ := Aside0.mk (hp_); have n1_ := Aside0.mk ((by rw [hw]; exact below_set (HB.out) GB6.out : Below w0.heap.size w0 w17)); have n2_ := Aside0.mk (Kept.of_grown (S := (fun k_ => P0_ k_)) hg (by repeat (first | (with_reducible first | exact HK.out | apply Kept.alloc | apply Kept.drewN | apply Kept.drew) | exact HK.out)) (fun k_ e_ => (HO_0.out.1 k_ e_))); clear HO_0; clear HB; clear HK; have HO_0 := n0_; have HB := n1_; have HK := n2_; clear n0_ n1_ n2_; clear hg hw hp_) | ((with_reducible refine gate_callee (f := 69) rfl ?_); refine gL_ (some 31) Try.func69 #[.int .i64 (wrap64 ((wrap64 (x1_1 + 1)) + 1))] ?_; (with_reducible refine (laws_markText.calls k1 (wrap64 ((wrap64 (x1_1 + 1)) + 1)) t413 _ A9.out).mono ?_); rintro e w18 ⟨rfl, hb⟩; refine ⟨_, rfl, ?_⟩; have n0_ := Aside0.mk (Kd.R_below (vR_ HO_0.out) hb); have n1_ := Aside0.mk (Kept.below (S := (fun k_ => P0_ k_)) (by repeat (first | (with_reducible first | exact HK.out | apply Kept.alloc | apply Kept.drewN | apply Kept.drew) | exact HK.out)) hb); have n2_ := Aside0.mk (below_step bB_ hb); clear HO_0; clear HK; clear HB; have HO_0 := n0_; have HK := n1_; have HB := n2_; clear n0_ n1_ n2_; (try clear hb); have p10 : 0 ≤ (x5_1 : Int) := of_decide_eq_true as_; have q10 : (x5_1 : Int) < ((x0_1.length : Int) : Int) := of_decide_eq_true as_; obtain ⟨ce10, hcl10, hM10, hcc10, hfr10⟩ := Kd.R_elem HO_0.out z72 (x5_1 : Int) p10 q10; obtain rfl := k72_openM hM10; have hx10_0 : w18.cell? ⟨go6, (x5_1 : Int).toNat * 3, none⟩ = some (.string ((rd_T72 y412 x5_1).f0)) := hcc10 0 _ rfl; have hx10_1 : w18.cell? ⟨go6, (x5_1 : Int).toNat * 3 + 1, none⟩ = some (.string ((rd_T72 y412 x5_1).f1)) := hcc10 1 _ rfl; have hx10_2 : w18.cell? ⟨go6, (x5_1 : Int).toNat * 3 + 2, none⟩ = some (.string ((rd_T72 y412 x5_1).f2)) := hcc10 2 _ rfl; have hf10_0 : w18.frozen? ⟨go6, (x5_1 : Int).toNat * 3, none⟩ = false := hfr10 0; have hf10_1 : w18.frozen? ⟨go6, (x5_1 : Int).toNat * 3 + 1, none⟩ = false := hfr10 1; have hf10_2 : w18.frozen? ⟨go6, (x5_1 : Int).toNat * 3 + 2, none⟩ = false := hfr10 2; (try clear hcl10); (try clear hcc10); (try clear hfr10); (try clear hM10); replace p10 := eq_true p10; replace q10 := eq_true q10; have HX19 := Aside0.mk (show Kd.R k72 72 w18 w0.heap.size (fun k_ => (P0_ k_ ∨ w.heap.size ≤ k_)) (.slice (some ⟨go6, 0, none⟩) x0_1.length co11) y412 from (vR_ HO_0.out)); obtain ⟨ce19, hcl19, hM19, hcc19, hfr19⟩ := Kd.R_elem HX19.out z72 (x5_1 : Int) (of_decide_eq_true as_) (by have h_ : (x5_1 : Int) < ((x0_1.length : Int) : Int) := of_decide_eq_true as_; first | exact h_ | (have e_ := (Kd.R_reads' HO_0.out).1; omega) | simpa using h_); obtain rfl := k72_openM hM19; have HP19 := Kd.R_seg HX19.out (x5_1 : Int) (of_decide_eq_true as_) (by have h_ : (x5_1 : Int) < ((x0_1.length : Int) : Int) := of_decide_eq_true as_; first | exact h_ | (have e_ := (Kd.R_reads' HO_0.out).1; omega) | simpa using h_) (seg := [.string t413]) (j := 2) hcl19 hcc19 (show 3 ≤ 3 from by decide) (x' := (⟨(rd_T72 y412 x5_1).f0, (rd_T72 y412 x5_1).f1, t413⟩ : S72)) (k72_mkM _ _ _ (⟨(rd_T72 y412 x5_1).f0, (rd_T72 y412 x5_1).f1, t413⟩ : S72) ) (fun _ hk => hk); have hx19_2 := hcc19 2 _ rfl; (try simp only [show (k72).sz = 3 from rfl, Nat.mul_one, Nat.add_zero] at hx19_2); have hf19_2 := hfr19 2; (try simp only [show (k72).sz = 3 from rfl, Nat.mul_one, Nat.add_zero] at hf19_2); (try clear hcl19); (try clear hcc19); (try clear hfr19); (try clear hM19)) | ((with_reducible refine gate_store (t := 9) (p := 33) rfl ?_); refine store_event (t := 9) (p := 33) (v := ?vo_w20) (w1 := (w18.setCell ⟨go6, (x5_1 : Int).toNat * 3 + 2, none⟩ (.string t413))) ?hg ?ho ?hn ?hr ?_; (case ho => rfl); (case hg => rfl); (case hn => rfl); (case hr => first | (go_simp; done) | (go_simp; rfl)); intro w20 hw; have hg : w18.grownBy w20 (some go6) := (by rw [hw]; exact HP19.2); have hp_ : Kd.R k72 72 w20 w0.heap.size (fun k_ => (P0_ k_ ∨ w.heap.size ≤ k_)) (.slice (some ⟨go6, 0, none⟩) x0_1.length co11) y414 := (by rw [hw, Ny414.out]; exact HP19.1); clear HP19; have n0_ := Aside0.mk (hp_); have n1_ := Aside0.mk ((by rw [hw]; exact below_set (HB.out) GB6.out : Below w0.heap.size w0 w20)); have n2_ := Aside0.mk (Kept.of_grown (S := (fun k_ => P0_ k_)) hg (by repeat (first | (with_reducible first | exact HK.out | apply Kept.alloc | apply Kept.drewN | apply Kept.drew) | exact HK.out)) (fun k_ e_ => (HO_0.out.1 k_ e_))); clear HO_0; clear HB; clear HK; have HO_0 := n0_; have HB := n1_; have HK := n2_; clear n0_ n1_ n2_; clear hg hw hp_))
   go_roundg k1
   case measure => have := HK1.out; omega
   case rel => exact ⟨(y414), (wrap64 ((wrap64 ((wrap64 (x1_1 + 1)) + 1)) + 1)), (wrap64 (x5_1 + 1)), rs_, rs_, H', ⟨by have := HK1.out; omega⟩, ⟨by (with_reducible repeat (first | apply Kd.R_alloc | apply Kd.R_drewN | apply Kd.R_drew)); exact HO_0.out⟩, ⟨by repeat (first | (with_reducible first | exact HK.out | apply Kept.alloc | apply Kept.drewN | apply Kept.drew) | exact HK.out)⟩, ⟨bB_⟩⟩
end Go.Proofs.Ytbgggcgjijljkaa.Q

/- The contract of laws.markResS: what it writes of a row whose elements' rows lie apart. No condition. -/
set_option linter.unusedVariables false
set_option linter.unusedSimpArgs false
namespace Go.Proofs.Ytbgggcgjijljkaa.Q
open Go.RowKit Go.Proofs.YtbgggcgjijljkaaW.PrintWords Go.Proofs.YtbgggcgjijljkaaW.PrintLast
def laws_markResS.l0 : Nat → List (S57) → Int → Int → Option (Int × List (S57))
 | 0, _, _, _ => none
 | k + 1, x0, x1, x5 => if x5 < (x0.length : Int) then (if 0 ≤ x5 then ((laws_markStringS.f k ((rd_T57 x0 x5).f0) x1).bind fun bt1a => ((laws_markText.f k (wrap64 (bt1a.1 + 1))).bind fun t2 => ((laws_markPropS.f k ((rd_T57 x0 x5).f4) (wrap64 ((wrap64 ((wrap64 (bt1a.1 + 1)) + 1)) + 1))).bind fun bt3a => (laws_markResS.l0 k (x0.set (x5 : Int).toNat (⟨bt1a.2, (bt1a.1.tmod 3 == 0), t2, (wrap64 ((wrap64 (bt1a.1 + 1)) + 1)), bt3a.2⟩ : S57)) bt3a.1 (wrap64 (x5 + 1)))))) else none) else (some (x1, x0))
def laws_markResS.f (k : Nat) (l0 : List (S57)) (a1 : Int) : Option (Int × List (S57)) := laws_markResS.l0 k l0 a1 0
theorem markResS_cells {α : Type} {d : Kd α} {e g n cap : Nat} {w : World} {base : Nat} {ok oki : Nat → Prop} {xs : List α} {i : Int} {c : List Value} (h : Kd.H d e w base ok (.slice (some ⟨g, 0, none⟩) n cap) xs i oki c) (h0 : 0 ≤ i) (h1 : i < n) : (∀ j u, c[j]? = some u → w.cell? ⟨g, i.toNat * d.sz + j, none⟩ = some u) ∧ (∀ j, w.frozen? ⟨g, i.toNat * d.sz + j, none⟩ = false) := by
 obtain ⟨rows, _, hraw, _, _, hcc, _⟩ := Kd.H_raw h h0 h1
 obtain ⟨_, _, _, _, hfr⟩ := Kd.R_elem hraw [] i h0 h1
 exact ⟨hcc, hfr⟩
set_option maxHeartbeats 16000000 in
set_option maxRecDepth 100000 in
theorem laws_markResS.calls (k : Nat) (P0_ : Nat → Prop) (u9000_ : Value) (l0 : List (S57)) (a1 : Int) (r1 : Int) (r2 : List (S57)) (w0 w : World) (hB : Below w0.heap.size w0 w) (ho0 : Kd.S k57 57 w w0.heap.size P0_ u9000_ l0) (h : laws_markResS.f k l0 a1 = some (r1, r2)) :
 Calls Try.prog 21 #[u9000_, .int .i64 a1] w fun e w' => e = .returned (.int .i64 r1) ∧ Kd.S k57 57 w' w0.heap.size P0_ u9000_ r2 ∧ Below w0.heap.size w0 w' ∧ Kept w w' P0_ := by
 obtain ⟨A0, c0, rfl⟩ := Kd.S_slice ho0
 have HO := Aside0.mk ho0
 have HB := Aside0.mk hB
 have HK := Aside0.mk (Kept.refl w P0_)
 clear hB ho0
 have H' : Aside0 (laws_markResS.l0 k l0 a1 0 = some (r1, r2)) := ⟨h⟩
 clear h
 go_enter Try.func21, Try.ntmps21
 go_wp2
 go_loopg [1, 5] k (fun kq v1 v5 w' => ∃ (x0_1 : List (S57)) (x1_1 : Int) (x5_1 : Int), v1 = .int .i64 x1_1 ∧ v5 = .int .i64 x5_1 ∧ Aside0 (laws_markResS.l0 kq x0_1 x1_1 x5_1 = some (r1, r2)) ∧ Aside0 (kq ≤ k) ∧ Aside0 (Kd.S k57 57 w' w0.heap.size P0_ (.slice A0 l0.length c0) x0_1) ∧ Aside0 (x0_1.length = l0.length) ∧ Aside0 (Below w0.heap.size w0 w') ∧ Aside0 (Kept w w' P0_))
 case atStart => exact ⟨l0, a1, 0, rfl, rfl, H', ⟨Nat.le_refl _⟩, HO, ⟨rfl⟩, HB, HK⟩
 case round =>
  clear H' HO HB HK
  obtain ⟨x0, x1, x5, rfl, rfl, HA, HK1, HO, HL, HB, HK⟩ := hrel
  cases gk with
  | zero => exact absurd HA.out (by simp [laws_markResS.l0])
  | succ k1 =>
   have H := HA.out
   clear HA
   simp only [laws_markResS.l0] at H
   by_cases c3 : x5 < (x0.length : Int)
   rotate_left
   · rw [if_neg c3] at H
     have c3b0 : decide (x5 < (l0.length : Int)) = false := decide_eq_false (by rw [← HL.out]; exact c3)
     obtain ⟨rfl, rfl⟩ := Prod.mk.inj (Option.some.inj H)
     go_wp2
     go_ret
     exact ⟨rfl, HO.out, HB.out, HK.out⟩
   rw [if_pos c3] at H
   have c3' : x5 < (l0.length : Int) := by rw [← HL.out]; exact c3
   have c3b0 : decide (x5 < (l0.length : Int)) = true := decide_eq_true c3'
   by_cases c4 : 0 ≤ x5
   rotate_left
   · rw [if_neg c4] at H
     exact absurd H (by simp)
   rw [if_pos c4] at H
   have c4b0 : decide (0 ≤ x5) = true := decide_eq_true c4
   replace H := Option.bind_eq_some_iff.mp H
   obtain ⟨⟨t1a, t1b⟩, A0_, H⟩ := H
   dsimp only at H
   have At1a := Aside0.mk A0_
   clear A0_
   replace H := Option.bind_eq_some_iff.mp H
   obtain ⟨t2, A0_, H⟩ := H
   have At2 := Aside0.mk A0_
   clear A0_
   replace H := Option.bind_eq_some_iff.mp H
   obtain ⟨⟨t3a, t3b⟩, A0_, H⟩ := H
   dsimp only at H
   have At3a := Aside0.mk A0_
   clear A0_
   have H' : Aside0 ((laws_markResS.l0 k1 (x0.set (x5 : Int).toNat (⟨t1b, (t1a.tmod 3 == 0), t2, (wrap64 ((wrap64 (t1a + 1)) + 1)), t3b⟩ : S57)) t3a (wrap64 (x5 + 1))) = some (r1, r2)) := ⟨H⟩
   clear H
   obtain ⟨g, cap, ev, hgb, hgl, _⟩ := Kd.S_form HO.out (by omega)
   injection ev with eA en ec
   subst eA
   subst ec
   clear en
   obtain ⟨oki, c, hcl, hM, hcc, hfr, hoki, hH⟩ := Kd.S_elem HO.out z57 x5 c4 c3'
   obtain ⟨v0, v4, rfl, g0, g4⟩ := k57_openM hM
   obtain ⟨Av0, cv0, rfl⟩ := Kd.R_slice g0
   obtain ⟨Av4, cv4, rfl⟩ := Kd.R_slice g4
   have HI0 : Aside0 (∀ k_, some k_ = (.slice Av0 (rd_T57 x0 x5).f0.length cv0 : Value).ownBlock → oki k_) := ⟨fun k_ h_ => g0.1 k_ h_.symm⟩
   have HP0 : Aside0 (Kd.string.R 9 wr w0.heap.size (fun k_ => some k_ = (.slice Av0 (rd_T57 x0 x5).f0.length cv0 : Value).ownBlock) (.slice Av0 (rd_T57 x0 x5).f0.length cv0 : Value) ((rd_T57 x0 x5).f0)) := ⟨Kd.R_tight rfl g0⟩
   have HI4 : Aside0 (∀ k_, some k_ = (.slice Av4 (rd_T57 x0 x5).f4.length cv4 : Value).ownBlock → oki k_) := ⟨fun k_ h_ => g4.1 k_ h_.symm⟩
   have HP4 : Aside0 (k72.R 72 wr w0.heap.size (fun k_ => some k_ = (.slice Av4 (rd_T57 x0 x5).f4.length cv4 : Value).ownBlock) (.slice Av4 (rd_T57 x0 x5).f4.length cv4 : Value) ((rd_T57 x0 x5).f4)) := ⟨Kd.R_tight rfl g4⟩
   have HA0_4 : Aside0 (∀ k_, some k_ = (.slice Av0 (rd_T57 x0 x5).f0.length cv0 : Value).ownBlock → some k_ = (.slice Av4 (rd_T57 x0 x5).f4.length cv4 : Value).ownBlock → False) := ⟨fun k_ h_ h2_ => by obtain ⟨_, e1_⟩ := Kd.R_typed g0 k_ h_.symm; obtain ⟨_, e2_⟩ := Kd.R_typed g4 k_ h2_.symm; have e3_ := Option.some.inj (e1_.symm.trans e2_); injection e3_ with _ h9_ _; exact absurd h9_ (by decide)⟩
   have HH : Aside0 (Kd.H k57 57 wr w0.heap.size P0_ (.slice (some ⟨g, 0, none⟩) l0.length c0) x0 x5 oki [(.slice Av0 (rd_T57 x0 x5).f0.length cv0 : Value), .bool (rd_T57 x0 x5).f1, .string (rd_T57 x0 x5).f2, .int .i64 (rd_T57 x0 x5).f3, (.slice Av4 (rd_T57 x0 x5).f4.length cv4 : Value)]) := ⟨hH⟩
   have HN := Aside0.mk (fun k_ (h_ : oki k_) => (hoki k_ h_).2)
   have HQ := Aside0.mk (fun k_ (h_ : oki k_) => (hoki k_ h_).1)
   have HG : Aside0 (P0_ g) := ⟨(Kd.S_R HO.out).1 g rfl⟩
   have GB := Aside0.mk hgb
   clear hcl hM hcc hfr hoki hH hgb hgl HO g0 g4
   have hc_ := markResS_cells HH.out c4 c3'
   have hx0 : wr.cell? ⟨g, (x5 : Int).toNat * 5, none⟩ = some ((.slice Av0 (rd_T57 x0 x5).f0.length cv0 : Value)) := hc_.1 0 _ rfl
   have hx1 : wr.cell? ⟨g, (x5 : Int).toNat * 5 + 1, none⟩ = some (.bool (rd_T57 x0 x5).f1) := hc_.1 1 _ rfl
   have hx2 : wr.cell? ⟨g, (x5 : Int).toNat * 5 + 2, none⟩ = some (.string (rd_T57 x0 x5).f2) := hc_.1 2 _ rfl
   have hx3 : wr.cell? ⟨g, (x5 : Int).toNat * 5 + 3, none⟩ = some (.int .i64 (rd_T57 x0 x5).f3) := hc_.1 3 _ rfl
   have hx4 : wr.cell? ⟨g, (x5 : Int).toNat * 5 + 4, none⟩ = some ((.slice Av4 (rd_T57 x0 x5).f4.length cv4 : Value)) := hc_.1 4 _ rfl
   have hf0 : wr.frozen? ⟨g, (x5 : Int).toNat * 5, none⟩ = false := hc_.2 0
   have hf1 : wr.frozen? ⟨g, (x5 : Int).toNat * 5 + 1, none⟩ = false := hc_.2 1
   have hf2 : wr.frozen? ⟨g, (x5 : Int).toNat * 5 + 2, none⟩ = false := hc_.2 2
   have hf3 : wr.frozen? ⟨g, (x5 : Int).toNat * 5 + 3, none⟩ = false := hc_.2 3
   have hf4 : wr.frozen? ⟨g, (x5 : Int).toNat * 5 + 4, none⟩ = false := hc_.2 4
   clear hc_
   have c3k := Aside0.mk c3'
   have c4k := Aside0.mk c4
   replace c3 := eq_true c3'
   replace c4 := eq_true c4
   clear c3'
   go_wp2_with (first | ((with_reducible refine gate_callee (f := 22) rfl ?_); refine gL_ (some 18) Try.func22 #[(.slice Av0 (rd_T57 x0 x5).f0.length cv0 : Value), .int .i64 x1] ?_; (with_reducible refine (laws_markStringS.calls k1 (fun k_ => some k_ = (.slice Av0 (rd_T57 x0 x5).f0.length cv0 : Value).ownBlock) (.slice Av0 (rd_T57 x0 x5).f0.length cv0 : Value) ((rd_T57 x0 x5).f0) x1 t1a t1b w0 _ HB.out HP0.out At1a.out).mono ?_); rintro e w_1 ⟨rfl, hr_, hb_, hk_⟩; refine ⟨_, rfl, ?_⟩; have m0_ : Aside0 (Kd.H k57 57 w_1 w0.heap.size P0_ (.slice (some ⟨g, 0, none⟩) l0.length c0) x0 x5 oki [(.slice Av0 (rd_T57 x0 x5).f0.length cv0 : Value), .bool (rd_T57 x0 x5).f1, .string (rd_T57 x0 x5).f2, .int .i64 (rd_T57 x0 x5).f3, (.slice Av4 (rd_T57 x0 x5).f4.length cv4 : Value)]) := ⟨Kd.H_step HH.out (fun k_ _ hn_ hl_ => hk_.2 k_ hl_ (fun h3_ => hn_ (HI0.out k_ h3_)))⟩; have m1_ : Aside0 (Kd.string.R 9 w_1 w0.heap.size (fun k_ => some k_ = (.slice Av0 (rd_T57 x0 x5).f0.length cv0 : Value).ownBlock) (.slice Av0 (rd_T57 x0 x5).f0.length cv0 : Value) t1b) := ⟨Kd.R_tight rfl hr_⟩; have m2_ : Aside0 (k72.R 72 w_1 w0.heap.size (fun k_ => some k_ = (.slice Av4 (rd_T57 x0 x5).f4.length cv4 : Value).ownBlock) (.slice Av4 (rd_T57 x0 x5).f4.length cv4 : Value) ((rd_T57 x0 x5).f4)) := ⟨Kd.R_step HP4.out (fun k_ h1_ hl_ => hk_.2 k_ hl_ (fun h3_ => HA0_4.out k_ h3_ h1_))⟩; have m3_ : Aside0 (Below w0.heap.size w0 w_1) := ⟨hb_⟩; have m4_ : Aside0 (Kept w w_1 P0_) := ⟨Kept.then_ HK.out hk_ (fun k_ h_ => .inl (HQ.out k_ (HI0.out k_ h_)))⟩; clear HH HP0 HP4 HB HK; clear hx0 hf0 hx1 hf1 hx2 hf2 hx3 hf3 hx4 hf4; have HH := m0_; have HP0 := m1_; have HP4 := m2_; have HB := m3_; have HK := m4_; clear m0_ m1_ m2_ m3_ m4_; have hc_ := markResS_cells HH.out c4k.out c3k.out; have hx0 : w_1.cell? ⟨g, (x5 : Int).toNat * 5, none⟩ = some ((.slice Av0 (rd_T57 x0 x5).f0.length cv0 : Value)) := hc_.1 0 _ rfl; have hx1 : w_1.cell? ⟨g, (x5 : Int).toNat * 5 + 1, none⟩ = some (.bool (rd_T57 x0 x5).f1) := hc_.1 1 _ rfl; have hx2 : w_1.cell? ⟨g, (x5 : Int).toNat * 5 + 2, none⟩ = some (.string (rd_T57 x0 x5).f2) := hc_.1 2 _ rfl; have hx3 : w_1.cell? ⟨g, (x5 : Int).toNat * 5 + 3, none⟩ = some (.int .i64 (rd_T57 x0 x5).f3) := hc_.1 3 _ rfl; have hx4 : w_1.cell? ⟨g, (x5 : Int).toNat * 5 + 4, none⟩ = some ((.slice Av4 (rd_T57 x0 x5).f4.length cv4 : Value)) := hc_.1 4 _ rfl; have hf0 : w_1.frozen? ⟨g, (x5 : Int).toNat * 5, none⟩ = false := hc_.2 0; have hf1 : w_1.frozen? ⟨g, (x5 : Int).toNat * 5 + 1, none⟩ = false := hc_.2 1; have hf2 : w_1.frozen? ⟨g, (x5 : Int).toNat * 5 + 2, none⟩ = false := hc_.2 2; have hf3 : w_1.frozen? ⟨g, (x5 : Int).toNat * 5 + 3, none⟩ = false := hc_.2 3; have hf4 : w_1.frozen? ⟨g, (x5 : Int).toNat * 5 + 4, none⟩ = false := hc_.2 4; clear hc_; clear hr_ hb_ hk_) | ((with_reducible refine gate_store (t := 4) (p := 25) rfl ?_); refine store_event (t := 4) (p := 25) (v := ?vo_1) (w1 := (w_1.setCell ⟨g, (x5 : Int).toNat * 5 + 1, none⟩ (.bool (t1a.tmod 3 == 0)))) ?hg ?ho ?hn ?hr ?_; (case ho => rfl); (case hg => rfl); (case hn => rfl); (case hr => first | (go_simp; done) | (go_simp; rfl)); intro w_2 hw_; have hs_ := Kd.H_seg HH.out c4k.out c3k.out (seg := [.bool (t1a.tmod 3 == 0)]) (j := 1) (show 2 ≤ 5 by decide) (by intro q_ hq_; rcases List.mem_singleton.1 hq_ with rfl; rfl); have hg_ : w_1.grownBy w_2 (some g) := (by rw [hw_]; exact hs_.2); have m0_ : Aside0 (Kd.H k57 57 w_2 w0.heap.size P0_ (.slice (some ⟨g, 0, none⟩) l0.length c0) x0 x5 oki [(.slice Av0 (rd_T57 x0 x5).f0.length cv0 : Value), .bool (t1a.tmod 3 == 0), .string (rd_T57 x0 x5).f2, .int .i64 (rd_T57 x0 x5).f3, (.slice Av4 (rd_T57 x0 x5).f4.length cv4 : Value)]) := ⟨(by rw [hw_]; exact hs_.1)⟩; have m1_ : Aside0 (Kd.string.R 9 w_2 w0.heap.size (fun k_ => some k_ = (.slice Av0 (rd_T57 x0 x5).f0.length cv0 : Value).ownBlock) (.slice Av0 (rd_T57 x0 x5).f0.length cv0 : Value) t1b) := ⟨Kd.R_grown HP0.out hg_ (fun k_ h_ e_ => HN.out k_ (HI0.out k_ h_) (by injection e_))⟩; have m2_ : Aside0 (k72.R 72 w_2 w0.heap.size (fun k_ => some k_ = (.slice Av4 (rd_T57 x0 x5).f4.length cv4 : Value).ownBlock) (.slice Av4 (rd_T57 x0 x5).f4.length cv4 : Value) ((rd_T57 x0 x5).f4)) := ⟨Kd.R_grown HP4.out hg_ (fun k_ h_ e_ => HN.out k_ (HI4.out k_ h_) (by injection e_))⟩; have m3_ : Aside0 (Below w0.heap.size w0 w_2) := ⟨(by rw [hw_]; exact below_set HB.out GB.out)⟩; have m4_ : Aside0 (Kept w w_2 P0_) := ⟨Kept.of_grown hg_ HK.out (fun k_ e_ => .inl (by injection e_ with e_; rw [← e_]; exact HG.out))⟩; clear HH HP0 HP4 HB HK; clear hx0 hf0 hx1 hf1 hx2 hf2 hx3 hf3 hx4 hf4; have HH := m0_; have HP0 := m1_; have HP4 := m2_; have HB := m3_; have HK := m4_; clear m0_ m1_ m2_ m3_ m4_; have hc_ := markResS_cells HH.out c4k.out c3k.out; have hx0 : w_2.cell? ⟨g, (x5 : Int).toNat * 5, none⟩ = some ((.slice Av0 (rd_T57 x0 x5).f0.length cv0 : Value)) := hc_.1 0 _ rfl; have hx1 : w_2.cell? ⟨g, (x5 : Int).toNat * 5 + 1, none⟩ = some (.bool (t1a.tmod 3 == 0)) := hc_.1 1 _ rfl; have hx2 : w_2.cell? ⟨g, (x5 : Int).toNat * 5 + 2, none⟩ = some (.string (rd_T57 x0 x5).f2) := hc_.1 2 _ rfl; have hx3 : w_2.cell? ⟨g, (x5 : Int).toNat * 5 + 3, none⟩ = some (.int .i64 (rd_T57 x0 x5).f3) := hc_.1 3 _ rfl; have hx4 : w_2.cell? ⟨g, (x5 : Int).toNat * 5 + 4, none⟩ = some ((.slice Av4 (rd_T57 x0 x5).f4.length cv4 : Value)) := hc_.1 4 _ rfl; have hf0 : w_2.frozen? ⟨g, (x5 : Int).toNat * 5, none⟩ = false := hc_.2 0; have hf1 : w_2.frozen? ⟨g, (x5 : Int).toNat * 5 + 1, none⟩ = false := hc_.2 1; have hf2 : w_2.frozen? ⟨g, (x5 : Int).toNat * 5 + 2, none⟩ = false := hc_.2 2; have hf3 : w_2.frozen? ⟨g, (x5 : Int).toNat * 5 + 3, none⟩ = false := hc_.2 3; have hf4 : w_2.frozen? ⟨g, (x5 : Int).toNat * 5 + 4, none⟩ = false := hc_.2 4; clear hc_; clear hw_ hs_ hg_) | ((with_reducible refine gate_callee (f := 69) rfl ?_); refine gL_ (some 31) Try.func69 #[.int .i64 (wrap64 (t1a + 1))] ?_; (with_reducible refine (laws_markText.calls k1 (wrap64 (t1a + 1)) t2 _ At2.out).mono ?_); rintro e w_3 ⟨rfl, hb_⟩; refine ⟨_, rfl, ?_⟩; have m0_ : Aside0 (Kd.H k57 57 w_3 w0.heap.size P0_ (.slice (some ⟨g, 0, none⟩) l0.length c0) x0 x5 oki [(.slice Av0 (rd_T57 x0 x5).f0.length cv0 : Value), .bool (t1a.tmod 3 == 0), .string (rd_T57 x0 x5).f2, .int .i64 (rd_T57 x0 x5).f3, (.slice Av4 (rd_T57 x0 x5).f4.length cv4 : Value)]) := ⟨Kd.H_below HH.out hb_⟩; have m1_ : Aside0 (Kd.string.R 9 w_3 w0.heap.size (fun k_ => some k_ = (.slice Av0 (rd_T57 x0 x5).f0.length cv0 : Value).ownBlock) (.slice Av0 (rd_T57 x0 x5).f0.length cv0 : Value) t1b) := ⟨Kd.R_below HP0.out hb_⟩; have m2_ : Aside0 (k72.R 72 w_3 w0.heap.size (fun k_ => some k_ = (.slice Av4 (rd_T57 x0 x5).f4.length cv4 : Value).ownBlock) (.slice Av4 (rd_T57 x0 x5).f4.length cv4 : Value) ((rd_T57 x0 x5).f4)) := ⟨Kd.R_below HP4.out hb_⟩; have m3_ : Aside0 (Below w0.heap.size w0 w_3) := ⟨below_step HB.out hb_⟩; have m4_ : Aside0 (Kept w w_3 P0_) := ⟨Kept.below HK.out hb_⟩; clear HH HP0 HP4 HB HK; clear hx0 hf0 hx1 hf1 hx2 hf2 hx3 hf3 hx4 hf4; have HH := m0_; have HP0 := m1_; have HP4 := m2_; have HB := m3_; have HK := m4_; clear m0_ m1_ m2_ m3_ m4_; have hc_ := markResS_cells HH.out c4k.out c3k.out; have hx0 : w_3.cell? ⟨g, (x5 : Int).toNat * 5, none⟩ = some ((.slice Av0 (rd_T57 x0 x5).f0.length cv0 : Value)) := hc_.1 0 _ rfl; have hx1 : w_3.cell? ⟨g, (x5 : Int).toNat * 5 + 1, none⟩ = some (.bool (t1a.tmod 3 == 0)) := hc_.1 1 _ rfl; have hx2 : w_3.cell? ⟨g, (x5 : Int).toNat * 5 + 2, none⟩ = some (.string (rd_T57 x0 x5).f2) := hc_.1 2 _ rfl; have hx3 : w_3.cell? ⟨g, (x5 : Int).toNat * 5 + 3, none⟩ = some (.int .i64 (rd_T57 x0 x5).f3) := hc_.1 3 _ rfl; have hx4 : w_3.cell? ⟨g, (x5 : Int).toNat * 5 + 4, none⟩ = some ((.slice Av4 (rd_T57 x0 x5).f4.length cv4 : Value)) := hc_.1 4 _ rfl; have hf0 : w_3.frozen? ⟨g, (x5 : Int).toNat * 5, none⟩ = false := hc_.2 0; have hf1 : w_3.frozen? ⟨g, (x5 : Int).toNat * 5 + 1, none⟩ = false := hc_.2 1; have hf2 : w_3.frozen? ⟨g, (x5 : Int).toNat * 5 + 2, none⟩ = false := hc_.2 2; have hf3 : w_3.frozen? ⟨g, (x5 : Int).toNat * 5 + 3, none⟩ = false := hc_.2 3; have hf4 : w_3.frozen? ⟨g, (x5 : Int).toNat * 5 + 4, none⟩ = false := hc_.2 4; clear hc_; clear hb_) | ((with_reducible refine gate_store (t := 9) (p := 33) rfl ?_); refine store_event (t := 9) (p := 33) (v := ?vo_3) (w1 := (w_3.setCell ⟨g, (x5 : Int).toNat * 5 + 2, none⟩ (.string t2))) ?hg ?ho ?hn ?hr ?_; (case ho => rfl); (case hg => rfl); (case hn => rfl); (case hr => first | (go_simp; done) | (go_simp; rfl)); intro w_4 hw_; have hs_ := Kd.H_seg HH.out c4k.out c3k.out (seg := [.string t2]) (j := 2) (show 3 ≤ 5 by decide) (by intro q_ hq_; rcases List.mem_singleton.1 hq_ with rfl; rfl); have hg_ : w_3.grownBy w_4 (some g) := (by rw [hw_]; exact hs_.2); have m0_ : Aside0 (Kd.H k57 57 w_4 w0.heap.size P0_ (.slice (some ⟨g, 0, none⟩) l0.length c0) x0 x5 oki [(.slice Av0 (rd_T57 x0 x5).f0.length cv0 : Value), .bool (t1a.tmod 3 == 0), .string t2, .int .i64 (rd_T57 x0 x5).f3, (.slice Av4 (rd_T57 x0 x5).f4.length cv4 : Value)]) := ⟨(by rw [hw_]; exact hs_.1)⟩; have m1_ : Aside0 (Kd.string.R 9 w_4 w0.heap.size (fun k_ => some k_ = (.slice Av0 (rd_T57 x0 x5).f0.length cv0 : Value).ownBlock) (.slice Av0 (rd_T57 x0 x5).f0.length cv0 : Value) t1b) := ⟨Kd.R_grown HP0.out hg_ (fun k_ h_ e_ => HN.out k_ (HI0.out k_ h_) (by injection e_))⟩; have m2_ : Aside0 (k72.R 72 w_4 w0.heap.size (fun k_ => some k_ = (.slice Av4 (rd_T57 x0 x5).f4.length cv4 : Value).ownBlock) (.slice Av4 (rd_T57 x0 x5).f4.length cv4 : Value) ((rd_T57 x0 x5).f4)) := ⟨Kd.R_grown HP4.out hg_ (fun k_ h_ e_ => HN.out k_ (HI4.out k_ h_) (by injection e_))⟩; have m3_ : Aside0 (Below w0.heap.size w0 w_4) := ⟨(by rw [hw_]; exact below_set HB.out GB.out)⟩; have m4_ : Aside0 (Kept w w_4 P0_) := ⟨Kept.of_grown hg_ HK.out (fun k_ e_ => .inl (by injection e_ with e_; rw [← e_]; exact HG.out))⟩; clear HH HP0 HP4 HB HK; clear hx0 hf0 hx1 hf1 hx2 hf2 hx3 hf3 hx4 hf4; have HH := m0_; have HP0 := m1_; have HP4 := m2_; have HB := m3_; have HK := m4_; clear m0_ m1_ m2_ m3_ m4_; have hc_ := markResS_cells HH.out c4k.out c3k.out; have hx0 : w_4.cell? ⟨g, (x5 : Int).toNat * 5, none⟩ = some ((.slice Av0 (rd_T57 x0 x5).f0.length cv0 : Value)) := hc_.1 0 _ rfl; have hx1 : w_4.cell? ⟨g, (x5 : Int).toNat * 5 + 1, none⟩ = some (.bool (t1a.tmod 3 == 0)) := hc_.1 1 _ rfl; have hx2 : w_4.cell? ⟨g, (x5 : Int).toNat * 5 + 2, none⟩ = some (.string t2) := hc_.1 2 _ rfl; have hx3 : w_4.cell? ⟨g, (x5 : Int).toNat * 5 + 3, none⟩ = some (.int .i64 (rd_T57 x0 x5).f3) := hc_.1 3 _ rfl; have hx4 : w_4.cell? ⟨g, (x5 : Int).toNat * 5 + 4, none⟩ = some ((.slice Av4 (rd_T57 x0 x5).f4.length cv4 : Value)) := hc_.1 4 _ rfl; have hf0 : w_4.frozen? ⟨g, (x5 : Int).toNat * 5, none⟩ = false := hc_.2 0; have hf1 : w_4.frozen? ⟨g, (x5 : Int).toNat * 5 + 1, none⟩ = false := hc_.2 1; have hf2 : w_4.frozen? ⟨g, (x5 : Int).toNat * 5 + 2, none⟩ = false := hc_.2 2; have hf3 : w_4.frozen? ⟨g, (x5 : Int).toNat * 5 + 3, none⟩ = false := hc_.2 3; have hf4 : w_4.frozen? ⟨g, (x5 : Int).toNat * 5 + 4, none⟩ = false := hc_.2 4; clear hc_; clear hw_ hs_ hg_) | ((with_reducible refine gate_store (t := 3) (p := 40) rfl ?_); refine store_event (t := 3) (p := 40) (v := ?vo_4) (w1 := (w_4.setCell ⟨g, (x5 : Int).toNat * 5 + 3, none⟩ (.int .i64 (wrap64 ((wrap64 (t1a + 1)) + 1))))) ?hg ?ho ?hn ?hr ?_; (case ho => rfl); (case hg => rfl); (case hn => rfl); (case hr => first | (go_simp; done) | (go_simp; rfl)); intro w_5 hw_; have hs_ := Kd.H_seg HH.out c4k.out c3k.out (seg := [.int .i64 (wrap64 ((wrap64 (t1a + 1)) + 1))]) (j := 3) (show 4 ≤ 5 by decide) (by intro q_ hq_; rcases List.mem_singleton.1 hq_ with rfl; rfl); have hg_ : w_4.grownBy w_5 (some g) := (by rw [hw_]; exact hs_.2); have m0_ : Aside0 (Kd.H k57 57 w_5 w0.heap.size P0_ (.slice (some ⟨g, 0, none⟩) l0.length c0) x0 x5 oki [(.slice Av0 (rd_T57 x0 x5).f0.length cv0 : Value), .bool (t1a.tmod 3 == 0), .string t2, .int .i64 (wrap64 ((wrap64 (t1a + 1)) + 1)), (.slice Av4 (rd_T57 x0 x5).f4.length cv4 : Value)]) := ⟨(by rw [hw_]; exact hs_.1)⟩; have m1_ : Aside0 (Kd.string.R 9 w_5 w0.heap.size (fun k_ => some k_ = (.slice Av0 (rd_T57 x0 x5).f0.length cv0 : Value).ownBlock) (.slice Av0 (rd_T57 x0 x5).f0.length cv0 : Value) t1b) := ⟨Kd.R_grown HP0.out hg_ (fun k_ h_ e_ => HN.out k_ (HI0.out k_ h_) (by injection e_))⟩; have m2_ : Aside0 (k72.R 72 w_5 w0.heap.size (fun k_ => some k_ = (.slice Av4 (rd_T57 x0 x5).f4.length cv4 : Value).ownBlock) (.slice Av4 (rd_T57 x0 x5).f4.length cv4 : Value) ((rd_T57 x0 x5).f4)) := ⟨Kd.R_grown HP4.out hg_ (fun k_ h_ e_ => HN.out k_ (HI4.out k_ h_) (by injection e_))⟩; have m3_ : Aside0 (Below w0.heap.size w0 w_5) := ⟨(by rw [hw_]; exact below_set HB.out GB.out)⟩; have m4_ : Aside0 (Kept w w_5 P0_) := ⟨Kept.of_grown hg_ HK.out (fun k_ e_ => .inl (by injection e_ with e_; rw [← e_]; exact HG.out))⟩; clear HH HP0 HP4 HB HK; clear hx0 hf0 hx1 hf1 hx2 hf2 hx3 hf3 hx4 hf4; have HH := m0_; have HP0 := m1_; have HP4 := m2_; have HB := m3_; have HK := m4_; clear m0_ m1_ m2_ m3_ m4_; have hc_ := markResS_cells HH.out c4k.out c3k.out; have hx0 : w_5.cell? ⟨g, (x5 : Int).toNat * 5, none⟩ = some ((.slice Av0 (rd_T57 x0 x5).f0.length cv0 : Value)) := hc_.1 0 _ rfl; have hx1 : w_5.cell? ⟨g, (x5 : Int).toNat * 5 + 1, none⟩ = some (.bool (t1a.tmod 3 == 0)) := hc_.1 1 _ rfl; have hx2 : w_5.cell? ⟨g, (x5 : Int).toNat * 5 + 2, none⟩ = some (.string t2) := hc_.1 2 _ rfl; have hx3 : w_5.cell? ⟨g, (x5 : Int).toNat * 5 + 3, none⟩ = some (.int .i64 (wrap64 ((wrap64 (t1a + 1)) + 1))) := hc_.1 3 _ rfl; have hx4 : w_5.cell? ⟨g, (x5 : Int).toNat * 5 + 4, none⟩ = some ((.slice Av4 (rd_T57 x0 x5).f4.length cv4 : Value)) := hc_.1 4 _ rfl; have hf0 : w_5.frozen? ⟨g, (x5 : Int).toNat * 5, none⟩ = false := hc_.2 0; have hf1 : w_5.frozen? ⟨g, (x5 : Int).toNat * 5 + 1, none⟩ = false := hc_.2 1; have hf2 : w_5.frozen? ⟨g, (x5 : Int).toNat * 5 + 2, none⟩ = false := hc_.2 2; have hf3 : w_5.frozen? ⟨g, (x5 : Int).toNat * 5 + 3, none⟩ = false := hc_.2 3; have hf4 : w_5.frozen? ⟨g, (x5 : Int).toNat * 5 + 4, none⟩ = false := hc_.2 4; clear hc_; clear hw_ hs_ hg_) | ((with_reducible refine gate_callee (f := 70) rfl ?_); refine gL_ (some 49) Try.func70 #[(.slice Av4 (rd_T57 x0 x5).f4.length cv4 : Value), .int .i64 (wrap64 ((wrap64 ((wrap64 (t1a + 1)) + 1)) + 1))] ?_; (with_reducible refine (laws_markPropS.calls k1 (fun k_ => some k_ = (.slice Av4 (rd_T57 x0 x5).f4.length cv4 : Value).ownBlock) (.slice Av4 (rd_T57 x0 x5).f4.length cv4 : Value) ((rd_T57 x0 x5).f4) (wrap64 ((wrap64 ((wrap64 (t1a + 1)) + 1)) + 1)) t3a t3b w0 _ HB.out HP4.out At3a.out).mono ?_); rintro e w_6 ⟨rfl, hr_, hb_, hk_⟩; refine ⟨_, rfl, ?_⟩; have m0_ : Aside0 (Kd.H k57 57 w_6 w0.heap.size P0_ (.slice (some ⟨g, 0, none⟩) l0.length c0) x0 x5 oki [(.slice Av0 (rd_T57 x0 x5).f0.length cv0 : Value), .bool (t1a.tmod 3 == 0), .string t2, .int .i64 (wrap64 ((wrap64 (t1a + 1)) + 1)), (.slice Av4 (rd_T57 x0 x5).f4.length cv4 : Value)]) := ⟨Kd.H_step HH.out (fun k_ _ hn_ hl_ => hk_.2 k_ hl_ (fun h3_ => hn_ (HI4.out k_ h3_)))⟩; have m1_ : Aside0 (k72.R 72 w_6 w0.heap.size (fun k_ => some k_ = (.slice Av4 (rd_T57 x0 x5).f4.length cv4 : Value).ownBlock) (.slice Av4 (rd_T57 x0 x5).f4.length cv4 : Value) t3b) := ⟨Kd.R_tight rfl hr_⟩; have m2_ : Aside0 (Kd.string.R 9 w_6 w0.heap.size (fun k_ => some k_ = (.slice Av0 (rd_T57 x0 x5).f0.length cv0 : Value).ownBlock) (.slice Av0 (rd_T57 x0 x5).f0.length cv0 : Value) t1b) := ⟨Kd.R_step HP0.out (fun k_ h1_ hl_ => hk_.2 k_ hl_ (fun h3_ => HA0_4.out k_ h1_ h3_))⟩; have m3_ : Aside0 (Below w0.heap.size w0 w_6) := ⟨hb_⟩; have m4_ : Aside0 (Kept w w_6 P0_) := ⟨Kept.then_ HK.out hk_ (fun k_ h_ => .inl (HQ.out k_ (HI4.out k_ h_)))⟩; clear HH HP4 HP0 HB HK; clear hx0 hf0 hx1 hf1 hx2 hf2 hx3 hf3 hx4 hf4; have HH := m0_; have HP4 := m1_; have HP0 := m2_; have HB := m3_; have HK := m4_; clear m0_ m1_ m2_ m3_ m4_; have hc_ := markResS_cells HH.out c4k.out c3k.out; have hx0 : w_6.cell? ⟨g, (x5 : Int).toNat * 5, none⟩ = some ((.slice Av0 (rd_T57 x0 x5).f0.length cv0 : Value)) := hc_.1 0 _ rfl; have hx1 : w_6.cell? ⟨g, (x5 : Int).toNat * 5 + 1, none⟩ = some (.bool (t1a.tmod 3 == 0)) := hc_.1 1 _ rfl; have hx2 : w_6.cell? ⟨g, (x5 : Int).toNat * 5 + 2, none⟩ = some (.string t2) := hc_.1 2 _ rfl; have hx3 : w_6.cell? ⟨g, (x5 : Int).toNat * 5 + 3, none⟩ = some (.int .i64 (wrap64 ((wrap64 (t1a + 1)) + 1))) := hc_.1 3 _ rfl; have hx4 : w_6.cell? ⟨g, (x5 : Int).toNat * 5 + 4, none⟩ = some ((.slice Av4 (rd_T57 x0 x5).f4.length cv4 : Value)) := hc_.1 4 _ rfl; have hf0 : w_6.frozen? ⟨g, (x5 : Int).toNat * 5, none⟩ = false := hc_.2 0; have hf1 : w_6.frozen? ⟨g, (x5 : Int).toNat * 5 + 1, none⟩ = false := hc_.2 1; have hf2 : w_6.frozen? ⟨g, (x5 : Int).toNat * 5 + 2, none⟩ = false := hc_.2 2; have hf3 : w_6.frozen? ⟨g, (x5 : Int).toNat * 5 + 3, none⟩ = false := hc_.2 3; have hf4 : w_6.frozen? ⟨g, (x5 : Int).toNat * 5 + 4, none⟩ = false := hc_.2 4; clear hc_; clear hr_ hb_ hk_))
   go_roundg k1
   case measure => have := HK1.out; omega
   case rel => exact ⟨_, t3a, wrap64 (x5 + 1), rfl, rfl, H', ⟨by have := HK1.out; omega⟩, ⟨Kd.H_back HH.out (k57_mkM _ _ _ (⟨t1b, (t1a.tmod 3 == 0), t2, (wrap64 ((wrap64 (t1a + 1)) + 1)), t3b⟩ : S57) (Kd.R_mono HP0.out HI0.out) (Kd.R_mono HP4.out HI4.out)) (fun _ h_ => h_)⟩, ⟨by rw [List.length_set]; exact HL.out⟩, HB, HK⟩
end Go.Proofs.Ytbgggcgjijljkaa.Q
