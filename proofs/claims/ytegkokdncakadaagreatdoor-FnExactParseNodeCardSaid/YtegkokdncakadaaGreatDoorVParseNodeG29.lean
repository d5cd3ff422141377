-- PRINTED by print.py (a twelfth state) out of the translation. Not trusted: Lean checks it.
import Derived.Test.YtegkokdncakadaaGreatDoorVParseNodeG27
import Derived.Test.YtegkokdncakadaaGreatDoorVParseNodeG28
import Derived.Laws.Strings
import Derived.Lib.ItoaLen
import Derived.Lib.ItoaMem
import Derived.Laws.BytesArg
namespace Go.Proofs.YtegkokdncakadaaGreatDoor.Q
open Go.RowKit Go.Proofs.YtegkokdncakadaaGreatDoorW.PrintWords Go.Proofs.YtegkokdncakadaaGreatDoorW.PrintLast Go.Proofs.YtegkokdncakadaaGreatDoorW.PrintMore
attribute [local go_sem] max2_int min2_int max_two min_two max_three min_three max_four min_four   -- for this text's walks alone
set_option linter.unusedVariables false
set_option linter.unusedSimpArgs false
mutual
def laws_heldNodeS.l0 : Nat → List (S24) → Int → Int → Option (Int)
 | 0, _, _, _ => none
 | k + 1, x0, x1, x5 => if x5 < (x0.length : Int) then (if 0 ≤ x5 then ((laws_markText.f k x1).bind fun t327 => (if ((rd_T24 x0 x5).f0).toList = t327.toList then ((laws_markText.f k (wrap64 (x1 + 1))).bind fun t329 => (if ((rd_T24 x0 x5).f1).toList = t329.toList then ((laws_markText.f k (wrap64 ((wrap64 (x1 + 1)) + 1))).bind fun t331 => (if ((rd_T24 x0 x5).f2).toList = t331.toList then ((laws_heldNodeS.f k ((rd_T24 x0 x5).f3) (wrap64 ((wrap64 ((wrap64 (x1 + 1)) + 1)) + 1))).bind fun t333 => (if t333 < 0 then (some (-1)) else (laws_heldNodeS.l0 k x0 t333 (wrap64 (x5 + 1))))) else (some (-1)))) else (some (-1)))) else (some (-1)))) else (none)) else (some x1)
def laws_heldNodeS.f : Nat → List (S24) → Int → Option (Int)
 | 0, _, _ => none
 | k + 1, l0, a1 => laws_heldNodeS.l0 k l0 a1 0
end
def laws_heldNodeS.T4 : Bool × List (List Nat × List Nat) := (true, [([], []), ([], []), ([0, 1], [0, 1]), ([2], [2]), ([3], [3]), ([], []), ([5], [5]), ([4, 6], [4, 6])])
def laws_heldNodeS.B4 : List Nat := [0, 0, 3, 7, 15, 0, 32, 127]
theorem laws_heldNodeS.tab4 : rtab .any (opsOf Tryz.f39 4) = laws_heldNodeS.T4 := by kernel_rfl
theorem laws_heldNodeS.bits4 : waitsOk laws_heldNodeS.T4.2 laws_heldNodeS.B4 = true := by kernel_rfl
def laws_heldNodeS.T7 : Bool × List (List Nat × List Nat) := (true, [([], []), ([], []), ([0, 1], [0, 1]), ([2], [2]), ([3], [3]), ([], []), ([5], [5]), ([4, 6], [4, 6])])
def laws_heldNodeS.B7 : List Nat := [0, 0, 3, 7, 15, 0, 32, 127]
theorem laws_heldNodeS.tab7 : rtab .any (opsOf Tryz.f39 7) = laws_heldNodeS.T7 := by kernel_rfl
theorem laws_heldNodeS.bits7 : waitsOk laws_heldNodeS.T7.2 laws_heldNodeS.B7 = true := by kernel_rfl
def laws_heldNodeS.T10 : Bool × List (List Nat × List Nat) := (true, [([], []), ([], []), ([0, 1], [0, 1]), ([2], [2]), ([3], [3]), ([], []), ([5], [5]), ([4, 6], [4, 6])])
def laws_heldNodeS.B10 : List Nat := [0, 0, 3, 7, 15, 0, 32, 127]
theorem laws_heldNodeS.tab10 : rtab .any (opsOf Tryz.f39 10) = laws_heldNodeS.T10 := by kernel_rfl
theorem laws_heldNodeS.bits10 : waitsOk laws_heldNodeS.T10.2 laws_heldNodeS.B10 = true := by kernel_rfl
set_option maxHeartbeats 8000000 in
set_option maxRecDepth 100000 in
theorem laws_heldNodeS.calls (k : Nat) : ∀ (A0 : Option Addr) (c0 : Nat) (l0 : List (S24)) (a1 : Int) (r : Int) (w : World) (hr0 : Kd.C k24 w A0 l0.length l0) (hc0 : l0.length ≤ c0) (h : laws_heldNodeS.f k l0 a1 = some r),
 Calls Tryz.prog 39 #[.slice A0 l0.length c0, .int .i64 a1] w fun e w' => e = .returned (.int .i64 r) ∧ Below w.heap.size w w' := by
 induction k using Nat.strongRecOn with
 | _ k ih =>
 intro A0 c0 l0 a1 r w hr0 hc0 h
 cases k with
 | zero => exact absurd h (by simp [laws_heldNodeS.f])
 | succ k =>
 simp only [laws_heldNodeS.f] at h
 have HR0 := A_ hr0
 clear hr0 hc0
 have HB := A_ (Below.refl w.heap.size w)
 have H : (laws_heldNodeS.l0 k l0 a1 0) = some r := h
 clear h
 have H' := A_ H
 clear H
 go_enter Tryz.func39, Tryz.ntmps39
 go_wp2
 go_loopg [1, 5] k (fun kq v1 v5 w' => ∃ (x1_1 : Int) (x5_1 : Int), v1 = .int .i64 x1_1 ∧ v5 = .int .i64 x5_1 ∧ Aside0 (laws_heldNodeS.l0 kq l0 x1_1 x5_1 = some r) ∧ Aside0 (kq ≤ k) ∧ Aside0 (Below w.heap.size w w'))
 case atStart => exact ⟨(a1), (0), rs_, rs_, H', ⟨Nat.le_refl _⟩, ⟨bB_⟩⟩
 case round =>
  clear H'
  obtain ⟨x1_1, x5_1, rfl, rfl, HA, HK1, HB⟩ := hrel
  cases gk with
  | zero => exact absurd HA.out (by simp [laws_heldNodeS.l0])
  | succ k1 =>
   have H := HA.out
   clear HA
   simp only [laws_heldNodeS.l0] at H
   by_cases c3 : x5_1 < (l0.length : Int)
   rotate_left
   · rw [if_neg c3] at H
     have c3b0 := decide_eq_false c3
     clear c3
     obtain rfl := si_ H
     go_wp2
     go_ret
     exact ⟨rr_, bB_⟩
   rw [if_pos c3] at H
   have c3b0 := decide_eq_true c3
   clear c3
   by_cases c4 : 0 ≤ x5_1
   rotate_left
   · exact absurd H (by rw [if_neg c4]; simp)
   rw [if_pos c4] at H
   have c4b0 := decide_eq_true c4
   clear c4
   obtain ⟨t43, A5, H⟩ := bo_ H
   (try dsimp only at H)
   by_cases c6 : ((rd_T24 l0 x5_1).f0).toList = t43.toList
   rotate_left
   · rw [if_neg c6] at H
     obtain ⟨c6b0, c6b1⟩ := eF_ c6
     obtain rfl := si_ H
     try go_wp2
     replace HB := A_ (below_drew1 HB.out)
     have p39 : 0 ≤ (x5_1 : Int) := od_
     have q39 : x5_1 < (l0.length : Int) := od_
     obtain ⟨ad39, A39_3, c39_3, e39, hx39_0, hx39_1, hx39_2, hx39_3, hl39_3, hi39_3⟩ := at_T24 HR0.out x5_1 p39 q39
     have hw39_3 := hx39_3
     have hw39_2 := hx39_2
     have hw39_1 := hx39_1
     have hw39_0 := hx39_0
     cases e39
     replace hx39_0 := bc_ HB.out hx39_0
     replace hx39_1 := bc_ HB.out hx39_1
     replace hx39_2 := bc_ HB.out hx39_2
     replace hx39_3 := bc_ HB.out hx39_3
     clear hi39_3 hl39_3
     replace p39 := eq_true p39
     replace q39 := eq_true q39
     refine st4_ (n := 8) (ds := []) (be_ hw39_0) (be_ hw39_1) (be_ hw39_2) (be_ hw39_3) (fun hHeld => ?_); refine with_tabW laws_heldNodeS.tab4 laws_heldNodeS.bits4 (fun HT_ HW_ => ?_)
     generalize wr.drew = w37 at HB hx39_0 hx39_1 hx39_2 hx39_3 hHeld ⊢
     refine pu_ (i := 0) (N := some 12) ?_
     refine pu_ (i := 1) (N := some 13) ?_
     refine pu_ (i := 2) (N := some 14) ?_
     refine pu_ (i := 3) (N := some 15) ?_
     refine pu_ (i := 5) (N := some 17) ?_
     refine tk_ (i := 4) (N := some 16) hHeld ?_
     refine on_ (i := 6) (N := some 18) (fun K hK => ?_)
     refine goes_ Tryz.func66 (by kernel_rfl) rfl #[.int .i64 x1_1] (by rfl) rfl rfl ml_ ?_
     with_reducible refine (laws_markText.calls k1 x1_1 t43 _ A5.out).mono ?_
     rintro e w38 ⟨rfl, hb⟩
     refine ⟨_, rfl, ?_⟩
     replace HB := A_ (below_step bB_ hb)
     clear hb
     refine hK.out _ _ ⟨(be_ hw39_0), (be_ hw39_1), (be_ hw39_2), (be_ hw39_3)⟩ (fun hHeld => ?_)
     clear hK K
     refine no_ (some 18) ?_
     refine pu_ (i := 7) (N := some 19) ?_
     refine done_ (done_of HT_.out (by kernel_rfl)) ?_
     (try clear hHeld)
     try go_wp2
     go_ret
     exact ⟨rr_, bB_⟩
   rw [if_pos c6] at H
   obtain ⟨c6b0, c6b1⟩ := eT_ c6
   clear c6
   obtain ⟨t44, A7, H⟩ := bo_ H
   (try dsimp only at H)
   by_cases c8 : ((rd_T24 l0 x5_1).f1).toList = t44.toList
   rotate_left
   · rw [if_neg c8] at H
     obtain ⟨c8b0, c8b1⟩ := eF_ c8
     obtain rfl := si_ H
     try go_wp2
     replace HB := A_ (below_drew1 HB.out)
     have p39 : 0 ≤ (x5_1 : Int) := od_
     have q39 : x5_1 < (l0.length : Int) := od_
     obtain ⟨ad39, A39_3, c39_3, e39, hx39_0, hx39_1, hx39_2, hx39_3, hl39_3, hi39_3⟩ := at_T24 HR0.out x5_1 p39 q39
     have hw39_3 := hx39_3
     have hw39_2 := hx39_2
     have hw39_1 := hx39_1
     have hw39_0 := hx39_0
     cases e39
     replace hx39_0 := bc_ HB.out hx39_0
     replace hx39_1 := bc_ HB.out hx39_1
     replace hx39_2 := bc_ HB.out hx39_2
     replace hx39_3 := bc_ HB.out hx39_3
     clear hi39_3 hl39_3
     replace p39 := eq_true p39
     replace q39 := eq_true q39
     refine st4_ (n := 8) (ds := []) (be_ hw39_0) (be_ hw39_1) (be_ hw39_2) (be_ hw39_3) (fun hHeld => ?_); refine with_tabW laws_heldNodeS.tab4 laws_heldNodeS.bits4 (fun HT_ HW_ => ?_)
     generalize wr.drew = w33 at HB hx39_0 hx39_1 hx39_2 hx39_3 hHeld ⊢
     refine pu_ (i := 0) (N := some 12) ?_
     refine pu_ (i := 1) (N := some 13) ?_
     refine pu_ (i := 2) (N := some 14) ?_
     refine pu_ (i := 3) (N := some 15) ?_
     refine pu_ (i := 5) (N := some 17) ?_
     refine tk_ (i := 4) (N := some 16) hHeld ?_
     refine on_ (i := 6) (N := some 18) (fun K hK => ?_)
     refine goes_ Tryz.func66 (by kernel_rfl) rfl #[.int .i64 x1_1] (by rfl) rfl rfl ml_ ?_
     with_reducible refine (laws_markText.calls k1 x1_1 t43 _ A5.out).mono ?_
     rintro e w34 ⟨rfl, hb⟩
     refine ⟨_, rfl, ?_⟩
     replace HB := A_ (below_step bB_ hb)
     clear hb
     refine hK.out _ _ ⟨(be_ hw39_0), (be_ hw39_1), (be_ hw39_2), (be_ hw39_3)⟩ (fun hHeld => ?_)
     clear hK K
     refine no_ (some 18) ?_
     refine pu_ (i := 7) (N := some 19) ?_
     refine done_ (done_of HT_.out (by kernel_rfl)) ?_
     (try clear hHeld)
     try go_wp2
     replace HB := A_ (below_drew1 HB.out)
     have p40 : 0 ≤ (x5_1 : Int) := od_
     have q40 : x5_1 < (l0.length : Int) := od_
     obtain ⟨ad40, A40_3, c40_3, e40, hx40_0, hx40_1, hx40_2, hx40_3, hl40_3, hi40_3⟩ := at_T24 HR0.out x5_1 p40 q40
     have hw40_3 := hx40_3
     have hw40_2 := hx40_2
     have hw40_1 := hx40_1
     have hw40_0 := hx40_0
     obtain rfl : ad39 = ad40 := (by injection e40)
     replace hx40_0 := bc_ HB.out hx40_0
     replace hx40_1 := bc_ HB.out hx40_1
     replace hx40_2 := bc_ HB.out hx40_2
     replace hx40_3 := bc_ HB.out hx40_3
     clear hi40_3 hl40_3
     replace p40 := eq_true p40
     replace q40 := eq_true q40
     refine st4_ (n := 8) (ds := []) (be_ hw40_0) (be_ hw40_1) (be_ hw40_2) (be_ hw40_3) (fun hHeld => ?_); refine with_tabW laws_heldNodeS.tab7 laws_heldNodeS.bits7 (fun HT_ HW_ => ?_)
     generalize w34.drew = w35 at HB hx40_0 hx40_1 hx40_2 hx40_3 hHeld ⊢
     refine pu_ (i := 0) (N := some 22) ?_
     refine pu_ (i := 1) (N := some 23) ?_
     refine pu_ (i := 2) (N := some 24) ?_
     refine pu_ (i := 3) (N := some 25) ?_
     refine pu_ (i := 5) (N := some 27) ?_
     refine tk_ (i := 4) (N := some 26) hHeld ?_
     refine on_ (i := 6) (N := some 28) (fun K hK => ?_)
     refine goes_ Tryz.func66 (by kernel_rfl) rfl #[.int .i64 (wrap64 (x1_1 + 1))] (by rfl) rfl rfl ml_ ?_
     with_reducible refine (laws_markText.calls k1 (wrap64 (x1_1 + 1)) t44 _ A7.out).mono ?_
     rintro e w36 ⟨rfl, hb⟩
     refine ⟨_, rfl, ?_⟩
     replace HB := A_ (below_step bB_ hb)
     clear hb
     refine hK.out _ _ ⟨(be_ hw40_0), (be_ hw40_1), (be_ hw40_2), (be_ hw40_3)⟩ (fun hHeld => ?_)
     clear hK K
     refine no_ (some 28) ?_
     refine pu_ (i := 7) (N := some 29) ?_
     refine done_ (done_of HT_.out (by kernel_rfl)) ?_
     (try clear hHeld)
     try go_wp2
     go_ret
     exact ⟨rr_, bB_⟩
   rw [if_pos c8] at H
   obtain ⟨c8b0, c8b1⟩ := eT_ c8
   clear c8
   obtain ⟨t45, A9, H⟩ := bo_ H
   (try dsimp only at H)
   by_cases c10 : ((rd_T24 l0 x5_1).f2).toList = t45.toList
   rotate_left
   · rw [if_neg c10] at H
     obtain ⟨c10b0, c10b1⟩ := eF_ c10
     obtain rfl := si_ H
     try go_wp2
     replace HB := A_ (below_drew1 HB.out)
     have p39 : 0 ≤ (x5_1 : Int) := od_
     have q39 : x5_1 < (l0.length : Int) := od_
     obtain ⟨ad39, A39_3, c39_3, e39, hx39_0, hx39_1, hx39_2, hx39_3, hl39_3, hi39_3⟩ := at_T24 HR0.out x5_1 p39 q39
     have hw39_3 := hx39_3
     have hw39_2 := hx39_2
     have hw39_1 := hx39_1
     have hw39_0 := hx39_0
     cases e39
     replace hx39_0 := bc_ HB.out hx39_0
     replace hx39_1 := bc_ HB.out hx39_1
     replace hx39_2 := bc_ HB.out hx39_2
     replace hx39_3 := bc_ HB.out hx39_3
     clear hi39_3 hl39_3
     replace p39 := eq_true p39
     replace q39 := eq_true q39
     refine st4_ (n := 8) (ds := []) (be_ hw39_0) (be_ hw39_1) (be_ hw39_2) (be_ hw39_3) (fun hHeld => ?_); refine with_tabW laws_heldNodeS.tab4 laws_heldNodeS.bits4 (fun HT_ HW_ => ?_)
     generalize wr.drew = w27 at HB hx39_0 hx39_1 hx39_2 hx39_3 hHeld ⊢
     refine pu_ (i := 0) (N := some 12) ?_
     refine pu_ (i := 1) (N := some 13) ?_
     refine pu_ (i := 2) (N := some 14) ?_
     refine pu_ (i := 3) (N := some 15) ?_
     refine pu_ (i := 5) (N := some 17) ?_
     refine tk_ (i := 4) (N := some 16) hHeld ?_
     refine on_ (i := 6) (N := some 18) (fun K hK => ?_)
     refine goes_ Tryz.func66 (by kernel_rfl) rfl #[.int .i64 x1_1] (by rfl) rfl rfl ml_ ?_
     with_reducible refine (laws_markText.calls k1 x1_1 t43 _ A5.out).mono ?_
     rintro e w28 ⟨rfl, hb⟩
     refine ⟨_, rfl, ?_⟩
     replace HB := A_ (below_step bB_ hb)
     clear hb
     refine hK.out _ _ ⟨(be_ hw39_0), (be_ hw39_1), (be_ hw39_2), (be_ hw39_3)⟩ (fun hHeld => ?_)
     clear hK K
     refine no_ (some 18) ?_
     refine pu_ (i := 7) (N := some 19) ?_
     refine done_ (done_of HT_.out (by kernel_rfl)) ?_
     (try clear hHeld)
     try go_wp2
     replace HB := A_ (below_drew1 HB.out)
     have p40 : 0 ≤ (x5_1 : Int) := od_
     have q40 : x5_1 < (l0.length : Int) := od_
     obtain ⟨ad40, A40_3, c40_3, e40, hx40_0, hx40_1, hx40_2, hx40_3, hl40_3, hi40_3⟩ := at_T24 HR0.out x5_1 p40 q40
     have hw40_3 := hx40_3
     have hw40_2 := hx40_2
     have hw40_1 := hx40_1
     have hw40_0 := hx40_0
     obtain rfl : ad39 = ad40 := (by injection e40)
     replace hx40_0 := bc_ HB.out hx40_0
     replace hx40_1 := bc_ HB.out hx40_1
     replace hx40_2 := bc_ HB.out hx40_2
     replace hx40_3 := bc_ HB.out hx40_3
     clear hi40_3 hl40_3
     replace p40 := eq_true p40
     replace q40 := eq_true q40
     refine st4_ (n := 8) (ds := []) (be_ hw40_0) (be_ hw40_1) (be_ hw40_2) (be_ hw40_3) (fun hHeld => ?_); refine with_tabW laws_heldNodeS.tab7 laws_heldNodeS.bits7 (fun HT_ HW_ => ?_)
     generalize w28.drew = w29 at HB hx40_0 hx40_1 hx40_2 hx40_3 hHeld ⊢
     refine pu_ (i := 0) (N := some 22) ?_
     refine pu_ (i := 1) (N := some 23) ?_
     refine pu_ (i := 2) (N := some 24) ?_
     refine pu_ (i := 3) (N := some 25) ?_
     refine pu_ (i := 5) (N := some 27) ?_
     refine tk_ (i := 4) (N := some 26) hHeld ?_
     refine on_ (i := 6) (N := some 28) (fun K hK => ?_)
     refine goes_ Tryz.func66 (by kernel_rfl) rfl #[.int .i64 (wrap64 (x1_1 + 1))] (by rfl) rfl rfl ml_ ?_
     with_reducible refine (laws_markText.calls k1 (wrap64 (x1_1 + 1)) t44 _ A7.out).mono ?_
     rintro e w30 ⟨rfl, hb⟩
     refine ⟨_, rfl, ?_⟩
     replace HB := A_ (below_step bB_ hb)
     clear hb
     refine hK.out _ _ ⟨(be_ hw40_0), (be_ hw40_1), (be_ hw40_2), (be_ hw40_3)⟩ (fun hHeld => ?_)
     clear hK K
     refine no_ (some 28) ?_
     refine pu_ (i := 7) (N := some 29) ?_
     refine done_ (done_of HT_.out (by kernel_rfl)) ?_
     (try clear hHeld)
     try go_wp2
     replace HB := A_ (below_drew1 HB.out)
     have p41 : 0 ≤ (x5_1 : Int) := od_
     have q41 : x5_1 < (l0.length : Int) := od_
     obtain ⟨ad41, A41_3, c41_3, e41, hx41_0, hx41_1, hx41_2, hx41_3, hl41_3, hi41_3⟩ := at_T24 HR0.out x5_1 p41 q41
     have hw41_3 := hx41_3
     have hw41_2 := hx41_2
     have hw41_1 := hx41_1
     have hw41_0 := hx41_0
     obtain rfl : ad39 = ad41 := (by injection e41)
     replace hx41_0 := bc_ HB.out hx41_0
     replace hx41_1 := bc_ HB.out hx41_1
     replace hx41_2 := bc_ HB.out hx41_2
     replace hx41_3 := bc_ HB.out hx41_3
     clear hi41_3 hl41_3
     replace p41 := eq_true p41
     replace q41 := eq_true q41
     refine st4_ (n := 8) (ds := []) (be_ hw41_0) (be_ hw41_1) (be_ hw41_2) (be_ hw41_3) (fun hHeld => ?_); refine with_tabW laws_heldNodeS.tab10 laws_heldNodeS.bits10 (fun HT_ HW_ => ?_)
     generalize w30.drew = w31 at HB hx41_0 hx41_1 hx41_2 hx41_3 hHeld ⊢
     refine pu_ (i := 0) (N := some 32) ?_
     refine pu_ (i := 1) (N := some 33) ?_
     refine pu_ (i := 2) (N := some 34) ?_
     refine pu_ (i := 3) (N := some 35) ?_
     refine pu_ (i := 5) (N := some 37) ?_
     refine tk_ (i := 4) (N := some 36) hHeld ?_
     refine on_ (i := 6) (N := some 38) (fun K hK => ?_)
     refine goes_ Tryz.func66 (by kernel_rfl) rfl #[.int .i64 (wrap64 ((wrap64 (x1_1 + 1)) + 1))] (by rfl) rfl rfl ml_ ?_
     with_reducible refine (laws_markText.calls k1 (wrap64 ((wrap64 (x1_1 + 1)) + 1)) t45 _ A9.out).mono ?_
     rintro e w32 ⟨rfl, hb⟩
     refine ⟨_, rfl, ?_⟩
     replace HB := A_ (below_step bB_ hb)
     clear hb
     refine hK.out _ _ ⟨(be_ hw41_0), (be_ hw41_1), (be_ hw41_2), (be_ hw41_3)⟩ (fun hHeld => ?_)
     clear hK K
     refine no_ (some 38) ?_
     refine pu_ (i := 7) (N := some 39) ?_
     refine done_ (done_of HT_.out (by kernel_rfl)) ?_
     (try clear hHeld)
     try go_wp2
     go_ret
     exact ⟨rr_, bB_⟩
   rw [if_pos c10] at H
   obtain ⟨c10b0, c10b1⟩ := eT_ c10
   clear c10
   obtain ⟨t46, A11, H⟩ := bo_ H
   (try dsimp only at H)
   by_cases c12 : t46 < 0
   · rw [if_pos c12] at H
     have c12b0 := decide_eq_true c12
     clear c12
     obtain rfl := si_ H
     try go_wp2
     replace HB := A_ (below_drew1 HB.out)
     have p39 : 0 ≤ (x5_1 : Int) := od_
     have q39 : x5_1 < (l0.length : Int) := od_
     obtain ⟨ad39, A39_3, c39_3, e39, hx39_0, hx39_1, hx39_2, hx39_3, hl39_3, hi39_3⟩ := at_T24 HR0.out x5_1 p39 q39
     have hw39_3 := hx39_3
     have hw39_2 := hx39_2
     have hw39_1 := hx39_1
     have hw39_0 := hx39_0
     cases e39
     replace hx39_0 := bc_ HB.out hx39_0
     replace hx39_1 := bc_ HB.out hx39_1
     replace hx39_2 := bc_ HB.out hx39_2
     replace hx39_3 := bc_ HB.out hx39_3
     clear hi39_3 hl39_3
     replace p39 := eq_true p39
     replace q39 := eq_true q39
     refine st4_ (n := 8) (ds := []) (be_ hw39_0) (be_ hw39_1) (be_ hw39_2) (be_ hw39_3) (fun hHeld => ?_); refine with_tabW laws_heldNodeS.tab4 laws_heldNodeS.bits4 (fun HT_ HW_ => ?_)
     generalize wr.drew = w13 at HB hx39_0 hx39_1 hx39_2 hx39_3 hHeld ⊢
     refine pu_ (i := 0) (N := some 12) ?_
     refine pu_ (i := 1) (N := some 13) ?_
     refine pu_ (i := 2) (N := some 14) ?_
     refine pu_ (i := 3) (N := some 15) ?_
     refine pu_ (i := 5) (N := some 17) ?_
     refine tk_ (i := 4) (N := some 16) hHeld ?_
     refine on_ (i := 6) (N := some 18) (fun K hK => ?_)
     refine goes_ Tryz.func66 (by kernel_rfl) rfl #[.int .i64 x1_1] (by rfl) rfl rfl ml_ ?_
     with_reducible refine (laws_markText.calls k1 x1_1 t43 _ A5.out).mono ?_
     rintro e w14 ⟨rfl, hb⟩
     refine ⟨_, rfl, ?_⟩
     replace HB := A_ (below_step bB_ hb)
     clear hb
     refine hK.out _ _ ⟨(be_ hw39_0), (be_ hw39_1), (be_ hw39_2), (be_ hw39_3)⟩ (fun hHeld => ?_)
     clear hK K
     refine no_ (some 18) ?_
     refine pu_ (i := 7) (N := some 19) ?_
     refine done_ (done_of HT_.out (by kernel_rfl)) ?_
     (try clear hHeld)
     try go_wp2
     replace HB := A_ (below_drew1 HB.out)
     have p40 : 0 ≤ (x5_1 : Int) := od_
     have q40 : x5_1 < (l0.length : Int) := od_
     obtain ⟨ad40, A40_3, c40_3, e40, hx40_0, hx40_1, hx40_2, hx40_3, hl40_3, hi40_3⟩ := at_T24 HR0.out x5_1 p40 q40
     have hw40_3 := hx40_3
     have hw40_2 := hx40_2
     have hw40_1 := hx40_1
     have hw40_0 := hx40_0
     obtain rfl : ad39 = ad40 := (by injection e40)
     replace hx40_0 := bc_ HB.out hx40_0
     replace hx40_1 := bc_ HB.out hx40_1
     replace hx40_2 := bc_ HB.out hx40_2
     replace hx40_3 := bc_ HB.out hx40_3
     clear hi40_3 hl40_3
     replace p40 := eq_true p40
     replace q40 := eq_true q40
     refine st4_ (n := 8) (ds := []) (be_ hw40_0) (be_ hw40_1) (be_ hw40_2) (be_ hw40_3) (fun hHeld => ?_); refine with_tabW laws_heldNodeS.tab7 laws_heldNodeS.bits7 (fun HT_ HW_ => ?_)
     generalize w14.drew = w15 at HB hx40_0 hx40_1 hx40_2 hx40_3 hHeld ⊢
     refine pu_ (i := 0) (N := some 22) ?_
     refine pu_ (i := 1) (N := some 23) ?_
     refine pu_ (i := 2) (N := some 24) ?_
     refine pu_ (i := 3) (N := some 25) ?_
     refine pu_ (i := 5) (N := some 27) ?_
     refine tk_ (i := 4) (N := some 26) hHeld ?_
     refine on_ (i := 6) (N := some 28) (fun K hK => ?_)
     refine goes_ Tryz.func66 (by kernel_rfl) rfl #[.int .i64 (wrap64 (x1_1 + 1))] (by rfl) rfl rfl ml_ ?_
     with_reducible refine (laws_markText.calls k1 (wrap64 (x1_1 + 1)) t44 _ A7.out).mono ?_
     rintro e w16 ⟨rfl, hb⟩
     refine ⟨_, rfl, ?_⟩
     replace HB := A_ (below_step bB_ hb)
     clear hb
     refine hK.out _ _ ⟨(be_ hw40_0), (be_ hw40_1), (be_ hw40_2), (be_ hw40_3)⟩ (fun hHeld => ?_)
     clear hK K
     refine no_ (some 28) ?_
     refine pu_ (i := 7) (N := some 29) ?_
     refine done_ (done_of HT_.out (by kernel_rfl)) ?_
     (try clear hHeld)
     try go_wp2
     replace HB := A_ (below_drew1 HB.out)
     have p41 : 0 ≤ (x5_1 : Int) := od_
     have q41 : x5_1 < (l0.length : Int) := od_
     obtain ⟨ad41, A41_3, c41_3, e41, hx41_0, hx41_1, hx41_2, hx41_3, hl41_3, hi41_3⟩ := at_T24 HR0.out x5_1 p41 q41
     have hw41_3 := hx41_3
     have hw41_2 := hx41_2
     have hw41_1 := hx41_1
     have hw41_0 := hx41_0
     obtain rfl : ad39 = ad41 := (by injection e41)
     replace hx41_0 := bc_ HB.out hx41_0
     replace hx41_1 := bc_ HB.out hx41_1
     replace hx41_2 := bc_ HB.out hx41_2
     replace hx41_3 := bc_ HB.out hx41_3
     clear hi41_3 hl41_3
     replace p41 := eq_true p41
     replace q41 := eq_true q41
     refine st4_ (n := 8) (ds := []) (be_ hw41_0) (be_ hw41_1) (be_ hw41_2) (be_ hw41_3) (fun hHeld => ?_); refine with_tabW laws_heldNodeS.tab10 laws_heldNodeS.bits10 (fun HT_ HW_ => ?_)
     generalize w16.drew = w17 at HB hx41_0 hx41_1 hx41_2 hx41_3 hHeld ⊢
     refine pu_ (i := 0) (N := some 32) ?_
     refine pu_ (i := 1) (N := some 33) ?_
     refine pu_ (i := 2) (N := some 34) ?_
     refine pu_ (i := 3) (N := some 35) ?_
     refine pu_ (i := 5) (N := some 37) ?_
     refine tk_ (i := 4) (N := some 36) hHeld ?_
     refine on_ (i := 6) (N := some 38) (fun K hK => ?_)
     refine goes_ Tryz.func66 (by kernel_rfl) rfl #[.int .i64 (wrap64 ((wrap64 (x1_1 + 1)) + 1))] (by rfl) rfl rfl ml_ ?_
     with_reducible refine (laws_markText.calls k1 (wrap64 ((wrap64 (x1_1 + 1)) + 1)) t45 _ A9.out).mono ?_
     rintro e w18 ⟨rfl, hb⟩
     refine ⟨_, rfl, ?_⟩
     replace HB := A_ (below_step bB_ hb)
     clear hb
     refine hK.out _ _ ⟨(be_ hw41_0), (be_ hw41_1), (be_ hw41_2), (be_ hw41_3)⟩ (fun hHeld => ?_)
     clear hK K
     refine no_ (some 38) ?_
     refine pu_ (i := 7) (N := some 39) ?_
     refine done_ (done_of HT_.out (by kernel_rfl)) ?_
     (try clear hHeld)
     have p42 : 0 ≤ (x5_1 : Int) := od_
     have q42 : x5_1 < (l0.length : Int) := od_
     obtain ⟨ad42, A42_3, c42_3, e42, hx42_0, hx42_1, hx42_2, hx42_3, hl42_3, hi42_3⟩ := at_T24 HR0.out x5_1 p42 q42
     obtain rfl : ad39 = ad42 := (by injection e42)
     replace hx42_0 := bc_ HB.out hx42_0
     replace hx42_1 := bc_ HB.out hx42_1
     replace hx42_2 := bc_ HB.out hx42_2
     replace hx42_3 := bc_ HB.out hx42_3
     have HR42_3 := A_ hi42_3
     have HC42_3 := A_ hl42_3
     clear hi42_3 hl42_3
     replace p42 := eq_true p42
     replace q42 := eq_true q42
     try go_wp2_with (first | ((with_reducible refine gc_ (f := 39) rfl ?_); refine gL_ (some 48) Tryz.func39 #[.slice A42_3 ((rd_T24 l0 x5_1).f3).length c42_3, .int .i64 (wrap64 ((wrap64 ((wrap64 (x1_1 + 1)) + 1)) + 1))] ?_; (with_reducible refine (ih k1 (by have := HK1.out; omega) _ _ ((rd_T24 l0 x5_1).f3) (wrap64 ((wrap64 ((wrap64 (x1_1 + 1)) + 1)) + 1)) t46 _ ?s1 ?s2 A11.out).mono ?_); (case s1 => exact cC_ (Kd.C_below HR42_3.out HB.out)); (case s2 => exact HC42_3.out); rintro e w19 ⟨rfl, hb⟩; refine ⟨_, rfl, ?_⟩; replace HB := A_ (below_step bB_ hb); clear hb))
     go_ret
     exact ⟨rr_, bB_⟩
   rw [if_neg c12] at H
   have c12b0 := decide_eq_false c12
   clear c12
   have H' := A_ H
   clear H
   try go_wp2
   replace HB := A_ (below_drew1 HB.out)
   have p39 : 0 ≤ (x5_1 : Int) := od_
   have q39 : x5_1 < (l0.length : Int) := od_
   obtain ⟨ad39, A39_3, c39_3, e39, hx39_0, hx39_1, hx39_2, hx39_3, hl39_3, hi39_3⟩ := at_T24 HR0.out x5_1 p39 q39
   have hw39_3 := hx39_3
   have hw39_2 := hx39_2
   have hw39_1 := hx39_1
   have hw39_0 := hx39_0
   cases e39
   replace hx39_0 := bc_ HB.out hx39_0
   replace hx39_1 := bc_ HB.out hx39_1
   replace hx39_2 := bc_ HB.out hx39_2
   replace hx39_3 := bc_ HB.out hx39_3
   clear hi39_3 hl39_3
   replace p39 := eq_true p39
   replace q39 := eq_true q39
   refine st4_ (n := 8) (ds := []) (be_ hw39_0) (be_ hw39_1) (be_ hw39_2) (be_ hw39_3) (fun hHeld => ?_); refine with_tabW laws_heldNodeS.tab4 laws_heldNodeS.bits4 (fun HT_ HW_ => ?_)
   generalize wr.drew = w20 at HB hx39_0 hx39_1 hx39_2 hx39_3 hHeld ⊢
   refine pu_ (i := 0) (N := some 12) ?_
   refine pu_ (i := 1) (N := some 13) ?_
   refine pu_ (i := 2) (N := some 14) ?_
   refine pu_ (i := 3) (N := some 15) ?_
   refine pu_ (i := 5) (N := some 17) ?_
   refine tk_ (i := 4) (N := some 16) hHeld ?_
   refine on_ (i := 6) (N := some 18) (fun K hK => ?_)
   refine goes_ Tryz.func66 (by kernel_rfl) rfl #[.int .i64 x1_1] (by rfl) rfl rfl ml_ ?_
   with_reducible refine (laws_markText.calls k1 x1_1 t43 _ A5.out).mono ?_
   rintro e w21 ⟨rfl, hb⟩
   refine ⟨_, rfl, ?_⟩
   replace HB := A_ (below_step bB_ hb)
   clear hb
   refine hK.out _ _ ⟨(be_ hw39_0), (be_ hw39_1), (be_ hw39_2), (be_ hw39_3)⟩ (fun hHeld => ?_)
   clear hK K
   refine no_ (some 18) ?_
   refine pu_ (i := 7) (N := some 19) ?_
   refine done_ (done_of HT_.out (by kernel_rfl)) ?_
   (try clear hHeld)
   try go_wp2
   replace HB := A_ (below_drew1 HB.out)
   have p40 : 0 ≤ (x5_1 : Int) := od_
   have q40 : x5_1 < (l0.length : Int) := od_
   obtain ⟨ad40, A40_3, c40_3, e40, hx40_0, hx40_1, hx40_2, hx40_3, hl40_3, hi40_3⟩ := at_T24 HR0.out x5_1 p40 q40
   have hw40_3 := hx40_3
   have hw40_2 := hx40_2
   have hw40_1 := hx40_1
   have hw40_0 := hx40_0
   obtain rfl : ad39 = ad40 := (by injection e40)
   replace hx40_0 := bc_ HB.out hx40_0
   replace hx40_1 := bc_ HB.out hx40_1
   replace hx40_2 := bc_ HB.out hx40_2
   replace hx40_3 := bc_ HB.out hx40_3
   clear hi40_3 hl40_3
   replace p40 := eq_true p40
   replace q40 := eq_true q40
   refine st4_ (n := 8) (ds := []) (be_ hw40_0) (be_ hw40_1) (be_ hw40_2) (be_ hw40_3) (fun hHeld => ?_); refine with_tabW laws_heldNodeS.tab7 laws_heldNodeS.bits7 (fun HT_ HW_ => ?_)
   generalize w21.drew = w22 at HB hx40_0 hx40_1 hx40_2 hx40_3 hHeld ⊢
   refine pu_ (i := 0) (N := some 22) ?_
   refine pu_ (i := 1) (N := some 23) ?_
   refine pu_ (i := 2) (N := some 24) ?_
   refine pu_ (i := 3) (N := some 25) ?_
   refine pu_ (i := 5) (N := some 27) ?_
   refine tk_ (i := 4) (N := some 26) hHeld ?_
   refine on_ (i := 6) (N := some 28) (fun K hK => ?_)
   refine goes_ Tryz.func66 (by kernel_rfl) rfl #[.int .i64 (wrap64 (x1_1 + 1))] (by rfl) rfl rfl ml_ ?_
   with_reducible refine (laws_markText.calls k1 (wrap64 (x1_1 + 1)) t44 _ A7.out).mono ?_
   rintro e w23 ⟨rfl, hb⟩
   refine ⟨_, rfl, ?_⟩
   replace HB := A_ (below_step bB_ hb)
   clear hb
   refine hK.out _ _ ⟨(be_ hw40_0), (be_ hw40_1), (be_ hw40_2), (be_ hw40_3)⟩ (fun hHeld => ?_)
   clear hK K
   refine no_ (some 28) ?_
   refine pu_ (i := 7) (N := some 29) ?_
   refine done_ (done_of HT_.out (by kernel_rfl)) ?_
   (try clear hHeld)
   try go_wp2
   replace HB := A_ (below_drew1 HB.out)
   have p41 : 0 ≤ (x5_1 : Int) := od_
   have q41 : x5_1 < (l0.length : Int) := od_
   obtain ⟨ad41, A41_3, c41_3, e41, hx41_0, hx41_1, hx41_2, hx41_3, hl41_3, hi41_3⟩ := at_T24 HR0.out x5_1 p41 q41
   have hw41_3 := hx41_3
   have hw41_2 := hx41_2
   have hw41_1 := hx41_1
   have hw41_0 := hx41_0
   obtain rfl : ad39 = ad41 := (by injection e41)
   replace hx41_0 := bc_ HB.out hx41_0
   replace hx41_1 := bc_ HB.out hx41_1
   replace hx41_2 := bc_ HB.out hx41_2
   replace hx41_3 := bc_ HB.out hx41_3
   clear hi41_3 hl41_3
   replace p41 := eq_true p41
   replace q41 := eq_true q41
   refine st4_ (n := 8) (ds := []) (be_ hw41_0) (be_ hw41_1) (be_ hw41_2) (be_ hw41_3) (fun hHeld => ?_); refine with_tabW laws_heldNodeS.tab10 laws_heldNodeS.bits10 (fun HT_ HW_ => ?_)
   generalize w23.drew = w24 at HB hx41_0 hx41_1 hx41_2 hx41_3 hHeld ⊢
   refine pu_ (i := 0) (N := some 32) ?_
   refine pu_ (i := 1) (N := some 33) ?_
   refine pu_ (i := 2) (N := some 34) ?_
   refine pu_ (i := 3) (N := some 35) ?_
   refine pu_ (i := 5) (N := some 37) ?_
   refine tk_ (i := 4) (N := some 36) hHeld ?_
   refine on_ (i := 6) (N := some 38) (fun K hK => ?_)
   refine goes_ Tryz.func66 (by kernel_rfl) rfl #[.int .i64 (wrap64 ((wrap64 (x1_1 + 1)) + 1))] (by rfl) rfl rfl ml_ ?_
   with_reducible refine (laws_markText.calls k1 (wrap64 ((wrap64 (x1_1 + 1)) + 1)) t45 _ A9.out).mono ?_
   rintro e w25 ⟨rfl, hb⟩
   refine ⟨_, rfl, ?_⟩
   replace HB := A_ (below_step bB_ hb)
   clear hb
   refine hK.out _ _ ⟨(be_ hw41_0), (be_ hw41_1), (be_ hw41_2), (be_ hw41_3)⟩ (fun hHeld => ?_)
   clear hK K
   refine no_ (some 38) ?_
   refine pu_ (i := 7) (N := some 39) ?_
   refine done_ (done_of HT_.out (by kernel_rfl)) ?_
   (try clear hHeld)
   have p42 : 0 ≤ (x5_1 : Int) := od_
   have q42 : x5_1 < (l0.length : Int) := od_
   obtain ⟨ad42, A42_3, c42_3, e42, hx42_0, hx42_1, hx42_2, hx42_3, hl42_3, hi42_3⟩ := at_T24 HR0.out x5_1 p42 q42
   obtain rfl : ad39 = ad42 := (by injection e42)
   replace hx42_0 := bc_ HB.out hx42_0
   replace hx42_1 := bc_ HB.out hx42_1
   replace hx42_2 := bc_ HB.out hx42_2
   replace hx42_3 := bc_ HB.out hx42_3
   have HR42_3 := A_ hi42_3
   have HC42_3 := A_ hl42_3
   clear hi42_3 hl42_3
   replace p42 := eq_true p42
   replace q42 := eq_true q42
   try go_wp2_with (first | ((with_reducible refine gc_ (f := 39) rfl ?_); refine gL_ (some 48) Tryz.func39 #[.slice A42_3 ((rd_T24 l0 x5_1).f3).length c42_3, .int .i64 (wrap64 ((wrap64 ((wrap64 (x1_1 + 1)) + 1)) + 1))] ?_; (with_reducible refine (ih k1 (by have := HK1.out; omega) _ _ ((rd_T24 l0 x5_1).f3) (wrap64 ((wrap64 ((wrap64 (x1_1 + 1)) + 1)) + 1)) t46 _ ?s1 ?s2 A11.out).mono ?_); (case s1 => exact cC_ (Kd.C_below HR42_3.out HB.out)); (case s2 => exact HC42_3.out); rintro e w26 ⟨rfl, hb⟩; refine ⟨_, rfl, ?_⟩; replace HB := A_ (below_step bB_ hb); clear hb))
   go_roundg k1
   case measure => have := HK1.out; omega
   case rel => exact ⟨(t46), (wrap64 (x5_1 + 1)), rs_, rs_, H', ⟨by have := HK1.out; omega⟩, ⟨bB_⟩⟩
set_option maxHeartbeats 8000000
set_option maxRecDepth 100000
theorem bIQx130_ {P : Prop} (h : P := by repeat (first | (with_reducible first | exact HI0.out | apply IsS93.alloc | apply IsS93.drewN | apply IsS93.drew | apply IsS93.set_1 | apply IsS93.set_2) | exact HI0.out)) : P := h
theorem bIQx131_ {P : Prop} (h : P := by repeat (first | (with_reducible first | exact HB.out | apply below_alloc | apply pw_below_drewN | apply below_drew1 | refine below_set ?_ (IsS93.ge HI0.out)) | exact HB.out)) : P := h
def laws_heldNode.f (k : Nat) (a0_0 : ByteArray) (a0_1 : ByteArray) (a0_2 : ByteArray) (l0_3 : List (S24)) (a1 : Int) : Option (Int) := (laws_heldNodeS.f k l0_3 a1).bind fun t335 => (if t335 < 0 then (some (-1)) else (some t335))
theorem laws_heldNode.calls (k : Nat) (a0_0 : ByteArray) (a0_1 : ByteArray) (a0_2 : ByteArray) (A0_3 : Option Addr) (c0_3 : Nat) (l0_3 : List (S24)) (a1 : Int) (r : Int) (w : World) (hr0_3 : Kd.C k24 w A0_3 l0_3.length l0_3) (hc0_3 : l0_3.length ≤ c0_3) (h : laws_heldNode.f k a0_0 a0_1 a0_2 l0_3 a1 = some r) :
 Calls Tryz.prog 10 #[.agg #[.string a0_0, .string a0_1, .string a0_2, .slice A0_3 l0_3.length c0_3], .int .i64 a1] w fun e w' => e = .returned (.int .i64 r) ∧ Below w.heap.size w w' := by
 have hu24 := Tryz.underlying24
 have HR0_3 := A_ hr0_3
 have HC0_3 := A_ hc0_3
 clear hr0_3 hc0_3
 have HB := A_ (Below.refl w.heap.size w)
 have H : ((laws_heldNodeS.f k l0_3 a1).bind fun t12 => (if t12 < 0 then (some (-1)) else (some t12))) = some r := h
 clear h
 obtain ⟨t12, A3, H⟩ := bo_ H
 (try dsimp only at H)
 by_cases c4 : t12 < 0
 · rw [if_pos c4] at H
   have c4b0 := decide_eq_true c4
   clear c4
   obtain rfl := si_ H
   go_enter Tryz.func10, Tryz.ntmps10
   go_wp2_with (first | ((with_reducible refine gd_ (N := 2) rfl ?_); refine bx_ (N := 2) (cs := #[.string a0_0, .string a0_1, .string a0_2, .slice A0_3 l0_3.length c0_3]) (t := 24) ?_; intro gb11 hg w5 hbox hb; have BK11 := A_ (hbox); have GW11 := A_ (ge_ hg bB_ : w.heap.size ≤ gb11); have GE11 := A_ (ge_ hg bB_ : w.heap.size ≤ gb11); replace HB := A_ (below_step bB_ hb); clear hb hbox hg; obtain ⟨hcz6_0, hcz6_1, hcz6_2, hcz6_3, hfz6_0, hfz6_1, hfz6_2, hfz6_3⟩ := cz4_ BK11.out) | ((with_reducible refine gc_ (f := 39) rfl ?_); refine gL_ (some 8) Tryz.func39 #[.slice A0_3 l0_3.length c0_3, .int .i64 a1] ?_; (with_reducible refine (laws_heldNodeS.calls k _ _ l0_3 a1 t12 _ ?s1 ?s2 A3.out).mono ?_); (case s1 => exact cC_ (Kd.C_below HR0_3.out HB.out)); (case s2 => exact HC0_3.out); rintro e w7 ⟨rfl, hb⟩; refine ⟨_, rfl, ?_⟩; replace HB := A_ (below_step (bG_ GE11.out) hb); clear hb))
   go_ret
   exact ⟨rr_, bG_ GE11.out⟩
 rw [if_neg c4] at H
 have c4b0 := decide_eq_false c4
 clear c4
 obtain rfl := si_ H
 go_enter Tryz.func10, Tryz.ntmps10
 go_wp2_with (first | ((with_reducible refine gd_ (N := 2) rfl ?_); refine bx_ (N := 2) (cs := #[.string a0_0, .string a0_1, .string a0_2, .slice A0_3 l0_3.length c0_3]) (t := 24) ?_; intro gb11 hg w8 hbox hb; have BK11 := A_ (hbox); have GW11 := A_ (ge_ hg bB_ : w.heap.size ≤ gb11); have GE11 := A_ (ge_ hg bB_ : w.heap.size ≤ gb11); replace HB := A_ (below_step bB_ hb); clear hb hbox hg; obtain ⟨hcz9_0, hcz9_1, hcz9_2, hcz9_3, hfz9_0, hfz9_1, hfz9_2, hfz9_3⟩ := cz4_ BK11.out) | ((with_reducible refine gc_ (f := 39) rfl ?_); refine gL_ (some 8) Tryz.func39 #[.slice A0_3 l0_3.length c0_3, .int .i64 a1] ?_; (with_reducible refine (laws_heldNodeS.calls k _ _ l0_3 a1 t12 _ ?s1 ?s2 A3.out).mono ?_); (case s1 => exact cC_ (Kd.C_below HR0_3.out HB.out)); (case s2 => exact HC0_3.out); rintro e w10 ⟨rfl, hb⟩; refine ⟨_, rfl, ?_⟩; replace HB := A_ (below_step (bG_ GE11.out) hb); clear hb))
 go_ret
 exact ⟨rr_, bG_ GE11.out⟩
def laws_big.f (l0 : List Int) : Option (Bool) := some (decide ((l0.length : Int) > 1048576))
def IsS93 (w0 W : World) (g : Nat) (f0 : List Int) (f1 : Int) (f2 : Int) : Prop := ∃ A0 c0, W.heap[g]? = some (.cells #[.slice A0 f0.length c0, .int .i64 f1, .int .i64 f2] 93 (0, 0)) ∧ w0.heap.size ≤ g ∧ Kd.C (Kd.int .u8) w0 A0 f0.length f0
theorem IsS93.grown {w0 W : World} {g : Nat} {f0 : List Int} {f1 : Int} {f2 : Int} {W1 : World} {row : Option Nat} (h : IsS93 w0 W g f0 f1 f2) (hw : W.grownBy W1 row) (hne : some g ≠ row) : IsS93 w0 W1 g f0 f1 f2 := by
 obtain ⟨A0, c0, hb, hg, hr0⟩ := h
 exact ⟨A0, c0, blk_grown hb hw hne, hg, hr0⟩
theorem IsS93.kept {w0 W : World} {g : Nat} {f0 : List Int} {f1 : Int} {f2 : Int} {W1 : World} {S : Nat → Prop} (h : IsS93 w0 W g f0 f1 f2) (hk : Kept W W1 S) (hne : ¬ S g) : IsS93 w0 W1 g f0 f1 f2 := by
 obtain ⟨A0, c0, hb, hg, hr0⟩ := h
 exact ⟨A0, c0, blk_kept hb hk hne, hg, hr0⟩
theorem IsS93.below {w0 W : World} {g : Nat} {f0 : List Int} {f1 : Int} {f2 : Int} {W1 : World} (h : IsS93 w0 W g f0 f1 f2) (hw : Below W.heap.size W W1) : IsS93 w0 W1 g f0 f1 f2 := h.grown (grown_of_below hw none) (by simp)
theorem IsS93.alloc {w0 W : World} {g : Nat} {f0 : List Int} {f1 : Int} {f2 : Int} (h : IsS93 w0 W g f0 f1 f2) (o : Obj) : IsS93 w0 (W.alloc o) g f0 f1 f2 := h.below (below_alloc (Below.refl _ _) o)
theorem IsS93.drewN {w0 W : World} {g : Nat} {f0 : List Int} {f1 : Int} {f2 : Int} (h : IsS93 w0 W g f0 f1 f2) (m : Nat) : IsS93 w0 (W.drewN m) g f0 f1 f2 := h
theorem IsS93.drew {w0 W : World} {g : Nat} {f0 : List Int} {f1 : Int} {f2 : Int} (h : IsS93 w0 W g f0 f1 f2) : IsS93 w0 W.drew g f0 f1 f2 := h
theorem IsS93.apart {w0 W : World} {g : Nat} {f0 : List Int} {f1 : Int} {f2 : Int} {α : Type} {d : Kd α} {e : Nat} {base : Nat} {ok : Nat → Prop} {v : Value} {xs : List α} (h : IsS93 w0 W g f0 f1 f2) (ho : d.R e W base ok v xs) (ht : ∀ q, q ∈ e :: d.E → q ≠ 93) : d.R e W base (fun k => ok k ∧ k ≠ g) v xs := by
 obtain ⟨A0, c0, hb, hg, hr0⟩ := h
 exact Kd.R_types ho hb ht
theorem IsS93.ge {w0 W : World} {g : Nat} {f0 : List Int} {f1 : Int} {f2 : Int} (h : IsS93 w0 W g f0 f1 f2) : w0.heap.size ≤ g := by
 obtain ⟨A0, c0, hb, hg, hr0⟩ := h
 exact hg
theorem IsS93.set_1 {w0 W : World} {g : Nat} {f0 : List Int} {f1 : Int} {f2 : Int} (h : IsS93 w0 W g f0 f1 f2) (x : Int) : IsS93 w0 (W.setCell ⟨g, 1, none⟩ (.int .i64 x)) g f0 x f2 := by
 obtain ⟨A0, c0, hb, hg, hr0⟩ := h
 exact ⟨A0, c0, by simpa using blk_set hb 1 (.int .i64 x), hg, hr0⟩
theorem IsS93.set_2 {w0 W : World} {g : Nat} {f0 : List Int} {f1 : Int} {f2 : Int} (h : IsS93 w0 W g f0 f1 f2) (x : Int) : IsS93 w0 (W.setCell ⟨g, 2, none⟩ (.int .i64 x)) g f0 f1 x := by
 obtain ⟨A0, c0, hb, hg, hr0⟩ := h
 exact ⟨A0, c0, by simpa using blk_set hb 2 (.int .i64 x), hg, hr0⟩
theorem IsS93.new (w0 W : World) (A0 : Option Addr) (c0 : Nat) (f0 : List Int) (f1 : Int) (f2 : Int) (hB : Below w0.heap.size w0 W) (hr0 : Kd.C (Kd.int .u8) w0 A0 f0.length f0) : IsS93 w0 (W.alloc (.cells #[.slice A0 f0.length c0, .int .i64 f1, .int .i64 f2] 93)) W.heap.size f0 f1 f2 := ⟨A0, c0, by simpa using heap_alloc_new W _, hB.size, hr0⟩
end Go.Proofs.YtegkokdncakadaaGreatDoor.Q

/- The law FnExactParseNode: its way to 'true', and the walk over it. No condition. -/
set_option linter.unusedVariables false
set_option linter.unusedSimpArgs false
namespace Go.Proofs.YtegkokdncakadaaGreatDoor.Q
open Go.RowKit Go.Proofs.YtegkokdncakadaaGreatDoorW.PrintWords Go.Proofs.YtegkokdncakadaaGreatDoorW.PrintLast
def laws_FnExactParseNode.f (k : Nat) (a0 : ByteArray) : Option Bool := (if (a0.size : Int) > 1048576 then (some true) else ((spec_ParseNode.f k a0).bind fun bt1 => ((impl_ParseNode.f k a0).bind fun bt8 => ((laws_eqNode.f k bt8.1 bt8.2.1 bt8.2.2.1 bt8.2.2.2.1 bt1.1 bt1.2.1 bt1.2.2.1 bt1.2.2.2.1).bind fun t15 => (if t15 = true then (if bt8.2.2.2.2 = bt1.2.2.2.2 then ((laws_markNode.f k bt8.1 bt8.2.1 bt8.2.2.1 bt8.2.2.2.1 1).bind fun bt17 => ((laws_heldNode.f k bt8.1 bt8.2.1 bt8.2.2.1 bt17.2 1).bind fun t21 => (if t21 < 0 then none else (if t21 = bt17.1 then ((impl_ParseNode.f k a0).bind fun bt23 => ((laws_eqNode.f k bt23.1 bt23.2.1 bt23.2.2.1 bt23.2.2.2.1 bt1.1 bt1.2.1 bt1.2.2.1 bt1.2.2.2.1).bind fun t30 => (if t30 = true then (if bt23.2.2.2.2 = bt1.2.2.2.2 then ((laws_heldNode.f k bt8.1 bt8.2.1 bt8.2.2.1 bt17.2 1).bind fun t32 => (if t32 < 0 then none else (if t32 = bt17.1 then (some true) else none))) else none) else none))) else none)))) else none) else none)))))
set_option maxHeartbeats 16000000 in
set_option maxRecDepth 100000 in
theorem laws_FnExactParseNode.calls (k : Nat) (a0 : ByteArray) (r : Bool) (w : World)  (hGT : GT w) (hGM : GM w) (hGE : GE w) (h : laws_FnExactParseNode.f k a0 = some r) :
 Calls Tryz.prog 3 #[.string a0] w fun e w' => e = .returned (.bool r) ∧ Below w.heap.size w w' := by
 have HGT := A_ hGT
 have HGM := A_ hGM
 have HGE := A_ hGE
 clear hGT hGM hGE
 have HB := A_ (Below.refl w.heap.size w)
 have H : (if (a0.size : Int) > 1048576 then (some true) else ((spec_ParseNode.f k a0).bind fun bt1 => ((impl_ParseNode.f k a0).bind fun bt8 => ((laws_eqNode.f k bt8.1 bt8.2.1 bt8.2.2.1 bt8.2.2.2.1 bt1.1 bt1.2.1 bt1.2.2.1 bt1.2.2.2.1).bind fun t15 => (if t15 = true then (if bt8.2.2.2.2 = bt1.2.2.2.2 then ((laws_markNode.f k bt8.1 bt8.2.1 bt8.2.2.1 bt8.2.2.2.1 1).bind fun bt17 => ((laws_heldNode.f k bt8.1 bt8.2.1 bt8.2.2.1 bt17.2 1).bind fun t21 => (if t21 < 0 then none else (if t21 = bt17.1 then ((impl_ParseNode.f k a0).bind fun bt23 => ((laws_eqNode.f k bt23.1 bt23.2.1 bt23.2.2.1 bt23.2.2.2.1 bt1.1 bt1.2.1 bt1.2.2.1 bt1.2.2.2.1).bind fun t30 => (if t30 = true then (if bt23.2.2.2.2 = bt1.2.2.2.2 then ((laws_heldNode.f k bt8.1 bt8.2.1 bt8.2.2.1 bt17.2 1).bind fun t32 => (if t32 < 0 then none else (if t32 = bt17.1 then (some true) else none))) else none) else none))) else none)))) else none) else none))))) = some r := h
 clear h
 by_cases c34 : (a0.size : Int) > 1048576
 · rw [if_pos c34] at H
   have c34b0 : decide (1048576 < (a0.size : Int)) = true := decide_eq_true c34
   (try (have c34b1 : decide (1048576 < a0.size) = true := decide_eq_true (by omega)))
   clear c34
   obtain rfl := si_ H
   go_enter Tryz.func3, Tryz.ntmps3
   go_wp2
   go_ret
   exact ⟨rfl, bB_⟩
 rw [if_neg c34] at H
 have c34b0 : decide (1048576 < (a0.size : Int)) = false := decide_eq_false c34
 (try (have c34b1 : decide (1048576 < a0.size) = false := decide_eq_false (by omega)))
 clear c34
 replace H := Option.bind_eq_some_iff.mp H
 obtain ⟨⟨t1, t2, t3, t4, t5⟩, A0_, H⟩ := H
 (try dsimp only at H)
 have FA6 := A_ A0_
 clear A0_
 replace H := Option.bind_eq_some_iff.mp H
 obtain ⟨⟨t8, t9, t10, t11, t12⟩, A0_, H⟩ := H
 (try dsimp only at H)
 have FA13 := A_ A0_
 clear A0_
 replace H := Option.bind_eq_some_iff.mp H
 obtain ⟨t15, A0_, H⟩ := H
 (try dsimp only at H)
 have FA16 := A_ A0_
 clear A0_
 by_cases c35 : t15 = true
 rotate_left
 · rw [if_neg c35] at H
   exact absurd H (by simp)
 subst c35
 rw [if_pos rfl] at H
 by_cases c36 : t12 = t5
 rotate_left
 · rw [if_neg c36] at H
   exact absurd H (by simp)
 rw [if_pos c36] at H
 obtain ⟨c36b0, c36b1⟩ := eT_ c36
 clear c36
 replace H := Option.bind_eq_some_iff.mp H
 obtain ⟨⟨t17, t18⟩, A0_, H⟩ := H
 (try dsimp only at H)
 have FA19 := A_ A0_
 clear A0_
 replace H := Option.bind_eq_some_iff.mp H
 obtain ⟨t21, A0_, H⟩ := H
 (try dsimp only at H)
 have FA22 := A_ A0_
 clear A0_
 by_cases c37 : t21 < 0
 · rw [if_pos c37] at H
   exact absurd H (by simp)
 rw [if_neg c37] at H
 have c37b0 := decide_eq_false c37
 clear c37
 by_cases c38 : t21 = t17
 rotate_left
 · rw [if_neg c38] at H
   exact absurd H (by simp)
 rw [if_pos c38] at H
 obtain ⟨c38b0, c38b1⟩ := eT_ c38
 clear c38
 replace H := Option.bind_eq_some_iff.mp H
 obtain ⟨⟨t23, t24, t25, t26, t27⟩, A0_, H⟩ := H
 (try dsimp only at H)
 have FA28 := A_ A0_
 clear A0_
 replace H := Option.bind_eq_some_iff.mp H
 obtain ⟨t30, A0_, H⟩ := H
 (try dsimp only at H)
 have FA31 := A_ A0_
 clear A0_
 by_cases c39 : t30 = true
 rotate_left
 · rw [if_neg c39] at H
   exact absurd H (by simp)
 subst c39
 rw [if_pos rfl] at H
 by_cases c40 : t27 = t5
 rotate_left
 · rw [if_neg c40] at H
   exact absurd H (by simp)
 rw [if_pos c40] at H
 obtain ⟨c40b0, c40b1⟩ := eT_ c40
 clear c40
 replace H := Option.bind_eq_some_iff.mp H
 obtain ⟨t32, A0_, H⟩ := H
 (try dsimp only at H)
 have FA33 := A_ A0_
 clear A0_
 by_cases c41 : t32 < 0
 · rw [if_pos c41] at H
   exact absurd H (by simp)
 rw [if_neg c41] at H
 have c41b0 := decide_eq_false c41
 clear c41
 by_cases c42 : t32 = t17
 rotate_left
 · rw [if_neg c42] at H
   exact absurd H (by simp)
 rw [if_pos c42] at H
 obtain ⟨c42b0, c42b1⟩ := eT_ c42
 clear c42
 obtain rfl := si_ H
 go_enter Tryz.func3, Tryz.ntmps3
 go_wp2_with (first | ((with_reducible refine gc_ (f := 6) rfl ?_); refine gL_ (some 16) Tryz.func6 #[.string a0] ?_; (with_reducible refine (spec_ParseNode.calls k a0 t1 t2 t3 t4 t5 _ FA6.out).mono ?_); rintro e w_1 ⟨v43, rfl, ho0_, hb_⟩; refine ⟨_, rfl, ?_⟩; have n0_ : Aside0 (w.heap.size ≤ w_1.heap.size) := ⟨Nat.le_trans (below_size bR_) (below_size hb_)⟩; have m0_ := A_ (below_step bB_ hb_); have m1_ := A_ (show Kd.S kA 24 w_1 w.heap.size (fun k_ => w.heap.size ≤ k_ ∧ k_ < w_1.heap.size) v43 t4 from Kd.S_mono (Kd.S_lower (Kd.S_bound ho0_) (below_size bB_)) (fun k_ h_ => ⟨Nat.le_trans (below_size bR_) h_.2.1, h_.2.2.1⟩)); clear HB; have HZ1 := n0_; have HB := m0_; have HO7 := m1_; clear n0_ m0_ m1_; (try clear hb_); (try clear hk_); (try clear hw_); (try clear hg_); (try clear hbox_); (try clear ho0_); (try clear ho1_); obtain ⟨Ao7, co7, eo_⟩ := Kd.S_slice HO7.out; subst eo_) | ((with_reducible refine gd_ (N := 3) rfl ?_); refine bx_ (N := 3) (cs := #[.string (⟨#[]⟩ : ByteArray), .string (⟨#[]⟩ : ByteArray), .string (⟨#[]⟩ : ByteArray), .slice none 0 0]) (t := 24) ?_; intro gb3 hg_ w_2 hbox_ hb_; have n0_ : Aside0 (w_1.heap.size ≤ w_2.heap.size) := ⟨Nat.le_trans (below_size bR_) (below_size hb_)⟩; have m0_ := A_ (Kd.S_below (vS_ HO7.out) hb_); have m1_ := A_ (below_step bB_ hb_); have m2_ := A_ hbox_; have m3_ := A_ (show w_1.heap.size ≤ gb3 ∧ gb3 < w_2.heap.size from ⟨by rw [hg_]; exact (below_size bR_), blk_lt hbox_⟩); have m4_ := A_ (show w.heap.size ≤ gb3 from by rw [hg_]; exact below_size bB_); clear HO7 HB; have HZ2 := n0_; have HO7 := m0_; have HB := m1_; have BK3 := m2_; have HG3 := m3_; have GE3 := m4_; clear n0_ m0_ m1_ m2_ m3_ m4_; (try clear hb_); (try clear hk_); (try clear hw_); (try clear hg_); (try clear hbox_); have hx3_0 : w_2.cell? ⟨gb3, 0, none⟩ = some (.string (⟨#[]⟩ : ByteArray)) := bl_ BK3.out 0; have hf3_0 := blk_frozen BK3.out 0; have hx3_1 : w_2.cell? ⟨gb3, 1, none⟩ = some (.string (⟨#[]⟩ : ByteArray)) := bl_ BK3.out 1; have hf3_1 := blk_frozen BK3.out 1; have hx3_2 : w_2.cell? ⟨gb3, 2, none⟩ = some (.string (⟨#[]⟩ : ByteArray)) := bl_ BK3.out 2; have hf3_2 := blk_frozen BK3.out 2; have hx3_3 : w_2.cell? ⟨gb3, 3, none⟩ = some (.slice none 0 0) := bl_ BK3.out 3; have hf3_3 := blk_frozen BK3.out 3) | ((with_reducible refine gc_ (f := 7) rfl ?_); generalize hw0_ : ((((w_2.setCell ⟨gb3, 0, none⟩ (.string t1)).setCell ⟨gb3, 1, none⟩ (.string t2)).setCell ⟨gb3, 2, none⟩ (.string t3)).setCell ⟨gb3, 3, none⟩ (.slice Ao7 t4.length co7)) = w_3; have hw_ : w_3 = ((((w_2.setCell ⟨gb3, 0, none⟩ (.string t1)).setCell ⟨gb3, 1, none⟩ (.string t2)).setCell ⟨gb3, 2, none⟩ (.string t3)).setCell ⟨gb3, 3, none⟩ (.slice Ao7 t4.length co7)) := hw0_.symm; clear hw0_; have hk_ : Kept w_2 w_3 (fun k_ => k_ = gb3) := (by rw [hw_]; exact Kept.setCell (S := fun k_ => k_ = gb3) (p := ⟨gb3, 3, none⟩) (Kept.setCell (S := fun k_ => k_ = gb3) (p := ⟨gb3, 2, none⟩) (Kept.setCell (S := fun k_ => k_ = gb3) (p := ⟨gb3, 1, none⟩) (Kept.setCell (S := fun k_ => k_ = gb3) (p := ⟨gb3, 0, none⟩) (Kept.refl _ _) (.inl rfl) _) (.inl rfl) _) (.inl rfl) _) (.inl rfl) _); have n0_ : Aside0 (w_2.heap.size ≤ w_3.heap.size) := ⟨Nat.le_trans (below_size bR_) (hk_.1)⟩; have m0_ := A_ (Kd.S_step (vS_ HO7.out) (fun k_ h1_ h2_ => hk_.2 k_ h2_ (fun h3_ => by have := HZ1.out; have := HZ2.out; have := HG3.out.1; have := HG3.out.2; omega))); have m1_ := A_ (show Below w.heap.size w w_3 from by rw [hw_]; exact below_set (below_set (below_set (below_set (HB.out) GE3.out) GE3.out) GE3.out) GE3.out); have m2_ := A_ (show w_3.heap[gb3]? = some (.cells #[.string t1, .string t2, .string t3, .slice Ao7 t4.length co7] 24 (0, 0)) from by rw [hw_]; exact blk_put (cs := #[.string t1, .string t2, .string t3, .slice none 0 0]) (cs' := #[.string t1, .string t2, .string t3, .slice Ao7 t4.length co7]) (blk_put (cs := #[.string t1, .string t2, .string (⟨#[]⟩ : ByteArray), .slice none 0 0]) (cs' := #[.string t1, .string t2, .string t3, .slice none 0 0]) (blk_put (cs := #[.string t1, .string (⟨#[]⟩ : ByteArray), .string (⟨#[]⟩ : ByteArray), .slice none 0 0]) (cs' := #[.string t1, .string t2, .string (⟨#[]⟩ : ByteArray), .slice none 0 0]) (blk_put (cs := #[.string (⟨#[]⟩ : ByteArray), .string (⟨#[]⟩ : ByteArray), .string (⟨#[]⟩ : ByteArray), .slice none 0 0]) (cs' := #[.string t1, .string (⟨#[]⟩ : ByteArray), .string (⟨#[]⟩ : ByteArray), .slice none 0 0]) (BK3.out) 0 (.string t1) rfl) 1 (.string t2) rfl) 2 (.string t3) rfl) 3 (.slice Ao7 t4.length co7) rfl); clear HO7 HB BK3; (try clear hx3_0 hf3_0 hx3_1 hf3_1 hx3_2 hf3_2 hx3_3 hf3_3); have HZ3 := n0_; have HO7 := m0_; have HB := m1_; have BK3 := m2_; clear n0_ m0_ m1_ m2_; (try clear hb_); (try clear hk_); (try clear hw_); (try clear hg_); (try clear hbox_); have hx3_0 : w_3.cell? ⟨gb3, 0, none⟩ = some (.string t1) := bl_ BK3.out 0; have hf3_0 := blk_frozen BK3.out 0; have hx3_1 : w_3.cell? ⟨gb3, 1, none⟩ = some (.string t2) := bl_ BK3.out 1; have hf3_1 := blk_frozen BK3.out 1; have hx3_2 : w_3.cell? ⟨gb3, 2, none⟩ = some (.string t3) := bl_ BK3.out 2; have hf3_2 := blk_frozen BK3.out 2; have hx3_3 : w_3.cell? ⟨gb3, 3, none⟩ = some (.slice Ao7 t4.length co7) := bl_ BK3.out 3; have hf3_3 := blk_frozen BK3.out 3; refine gL_ (some 21) Tryz.func7 #[.string a0] ?_; (with_reducible refine (impl_ParseNode.calls k a0 t8 t9 t10 t11 t12 _ ?gT1 ?gM1 ?gE1 FA13.out).mono ?_); (case gT1 => exact gT_ HGT.out (by repeat (first | (with_reducible first | exact HB.out | apply below_alloc | apply pw_below_drewN | apply below_drew1 | refine below_set ?_ GE3.out | refine below_set ?_ GE5.out | refine below_set ?_ GE9.out) | exact HB.out))); (case gM1 => exact gM_ HGM.out (by repeat (first | (with_reducible first | exact HB.out | apply below_alloc | apply pw_below_drewN | apply below_drew1 | refine below_set ?_ GE3.out | refine below_set ?_ GE5.out | refine below_set ?_ GE9.out) | exact HB.out))); (case gE1 => exact gE_ HGE.out (by repeat (first | (with_reducible first | exact HB.out | apply below_alloc | apply pw_below_drewN | apply below_drew1 | refine below_set ?_ GE3.out | refine below_set ?_ GE5.out | refine below_set ?_ GE9.out) | exact HB.out))); rintro e w_4 ⟨v44, rfl, ho0_, hb_⟩; refine ⟨_, rfl, ?_⟩; have n0_ : Aside0 (w_3.heap.size ≤ w_4.heap.size) := ⟨Nat.le_trans (below_size bR_) (below_size hb_)⟩; have m0_ := A_ (Kd.S_below (vS_ HO7.out) hb_); have m1_ := A_ (blk_below (g := gb3) (o := .cells #[.string t1, .string t2, .string t3, .slice Ao7 t4.length co7] 24 (0, 0)) (vb_ BK3.out) hb_); have m2_ := A_ (below_step bB_ hb_); have m3_ := A_ (show Kd.S kA 24 w_4 w.heap.size (fun k_ => w_3.heap.size ≤ k_ ∧ k_ < w_4.heap.size) v44 t11 from Kd.S_mono (Kd.S_lower (Kd.S_bound ho0_) (below_size bB_)) (fun k_ h_ => ⟨Nat.le_trans (below_size bR_) h_.2.1, h_.2.2.1⟩)); clear HO7 BK3 HB; (try clear hx3_0 hf3_0 hx3_1 hf3_1 hx3_2 hf3_2 hx3_3 hf3_3); have HZ4 := n0_; have HO7 := m0_; have BK3 := m1_; have HB := m2_; have HO14 := m3_; clear n0_ m0_ m1_ m2_ m3_; (try clear hb_); (try clear hk_); (try clear hw_); (try clear hg_); (try clear hbox_); (try clear ho0_); (try clear ho1_); obtain ⟨Ao14, co14, eo_⟩ := Kd.S_slice HO14.out; subst eo_; have hx3_0 : w_4.cell? ⟨gb3, 0, none⟩ = some (.string t1) := bl_ BK3.out 0; have hf3_0 := blk_frozen BK3.out 0; have hx3_1 : w_4.cell? ⟨gb3, 1, none⟩ = some (.string t2) := bl_ BK3.out 1; have hf3_1 := blk_frozen BK3.out 1; have hx3_2 : w_4.cell? ⟨gb3, 2, none⟩ = some (.string t3) := bl_ BK3.out 2; have hf3_2 := blk_frozen BK3.out 2; have hx3_3 : w_4.cell? ⟨gb3, 3, none⟩ = some (.slice Ao7 t4.length co7) := bl_ BK3.out 3; have hf3_3 := blk_frozen BK3.out 3) | ((with_reducible refine gd_ (N := 5) rfl ?_); refine bx_ (N := 5) (cs := #[.string (⟨#[]⟩ : ByteArray), .string (⟨#[]⟩ : ByteArray), .string (⟨#[]⟩ : ByteArray), .slice none 0 0]) (t := 24) ?_; intro gb5 hg_ w_5 hbox_ hb_; have n0_ : Aside0 (w_4.heap.size ≤ w_5.heap.size) := ⟨Nat.le_trans (below_size bR_) (below_size hb_)⟩; have m0_ := A_ (Kd.S_below (vS_ HO7.out) hb_); have m1_ := A_ (Kd.S_below (vS_ HO14.out) hb_); have m2_ := A_ (blk_below (g := gb3) (o := .cells #[.string t1, .string t2, .string t3, .slice Ao7 t4.length co7] 24 (0, 0)) (vb_ BK3.out) hb_); have m3_ := A_ (below_step bB_ hb_); have m4_ := A_ hbox_; have m5_ := A_ (show w_4.heap.size ≤ gb5 ∧ gb5 < w_5.heap.size from ⟨by rw [hg_]; exact (below_size bR_), blk_lt hbox_⟩); have m6_ := A_ (show w.heap.size ≤ gb5 from by rw [hg_]; exact below_size bB_); clear HO7 HO14 BK3 HB; (try clear hx3_0 hf3_0 hx3_1 hf3_1 hx3_2 hf3_2 hx3_3 hf3_3); have HZ5 := n0_; have HO7 := m0_; have HO14 := m1_; have BK3 := m2_; have HB := m3_; have BK5 := m4_; have HG5 := m5_; have GE5 := m6_; clear n0_ m0_ m1_ m2_ m3_ m4_ m5_ m6_; (try clear hb_); (try clear hk_); (try clear hw_); (try clear hg_); (try clear hbox_); have hne3_5 : (gb3 = gb5) = False := eq_false (by have := HZ1.out; have := HZ2.out; have := HZ3.out; have := HZ4.out; have := HZ5.out; have := HG3.out.1; have := HG3.out.2; have := HG5.out.1; have := HG5.out.2; omega); have hen3_5 : (gb5 = gb3) = False := eq_false (by have := HZ1.out; have := HZ2.out; have := HZ3.out; have := HZ4.out; have := HZ5.out; have := HG3.out.1; have := HG3.out.2; have := HG5.out.1; have := HG5.out.2; omega); have hx3_0 : w_5.cell? ⟨gb3, 0, none⟩ = some (.string t1) := bl_ BK3.out 0; have hf3_0 := blk_frozen BK3.out 0; have hx3_1 : w_5.cell? ⟨gb3, 1, none⟩ = some (.string t2) := bl_ BK3.out 1; have hf3_1 := blk_frozen BK3.out 1; have hx3_2 : w_5.cell? ⟨gb3, 2, none⟩ = some (.string t3) := bl_ BK3.out 2; have hf3_2 := blk_frozen BK3.out 2; have hx3_3 : w_5.cell? ⟨gb3, 3, none⟩ = some (.slice Ao7 t4.length co7) := bl_ BK3.out 3; have hf3_3 := blk_frozen BK3.out 3; have hx5_0 : w_5.cell? ⟨gb5, 0, none⟩ = some (.string (⟨#[]⟩ : ByteArray)) := bl_ BK5.out 0; have hf5_0 := blk_frozen BK5.out 0; have hx5_1 : w_5.cell? ⟨gb5, 1, none⟩ = some (.string (⟨#[]⟩ : ByteArray)) := bl_ BK5.out 1; have hf5_1 := blk_frozen BK5.out 1; have hx5_2 : w_5.cell? ⟨gb5, 2, none⟩ = some (.string (⟨#[]⟩ : ByteArray)) := bl_ BK5.out 2; have hf5_2 := blk_frozen BK5.out 2; have hx5_3 : w_5.cell? ⟨gb5, 3, none⟩ = some (.slice none 0 0) := bl_ BK5.out 3; have hf5_3 := blk_frozen BK5.out 3) | ((with_reducible refine gc_ (f := 8) rfl ?_); generalize hw0_ : ((((w_5.setCell ⟨gb5, 0, none⟩ (.string t8)).setCell ⟨gb5, 1, none⟩ (.string t9)).setCell ⟨gb5, 2, none⟩ (.string t10)).setCell ⟨gb5, 3, none⟩ (.slice Ao14 t11.length co14)) = w_6; have hw_ : w_6 = ((((w_5.setCell ⟨gb5, 0, none⟩ (.string t8)).setCell ⟨gb5, 1, none⟩ (.string t9)).setCell ⟨gb5, 2, none⟩ (.string t10)).setCell ⟨gb5, 3, none⟩ (.slice Ao14 t11.length co14)) := hw0_.symm; clear hw0_; have hk_ : Kept w_5 w_6 (fun k_ => k_ = gb5) := (by rw [hw_]; exact Kept.setCell (S := fun k_ => k_ = gb5) (p := ⟨gb5, 3, none⟩) (Kept.setCell (S := fun k_ => k_ = gb5) (p := ⟨gb5, 2, none⟩) (Kept.setCell (S := fun k_ => k_ = gb5) (p := ⟨gb5, 1, none⟩) (Kept.setCell (S := fun k_ => k_ = gb5) (p := ⟨gb5, 0, none⟩) (Kept.refl _ _) (.inl rfl) _) (.inl rfl) _) (.inl rfl) _) (.inl rfl) _); have n0_ : Aside0 (w_5.heap.size ≤ w_6.heap.size) := ⟨Nat.le_trans (below_size bR_) (hk_.1)⟩; have m0_ := A_ (Kd.S_step (vS_ HO7.out) (fun k_ h1_ h2_ => hk_.2 k_ h2_ (fun h3_ => by have := HZ1.out; have := HZ2.out; have := HZ3.out; have := HZ4.out; have := HZ5.out; have := HG3.out.1; have := HG3.out.2; have := HG5.out.1; have := HG5.out.2; omega))); have m1_ := A_ (Kd.S_step (vS_ HO14.out) (fun k_ h1_ h2_ => hk_.2 k_ h2_ (fun h3_ => by have := HZ1.out; have := HZ2.out; have := HZ3.out; have := HZ4.out; have := HZ5.out; have := HG3.out.1; have := HG3.out.2; have := HG5.out.1; have := HG5.out.2; omega))); have m2_ := A_ ((hk_.2 gb3 (blk_lt BK3.out) (fun h3_ => by have := HZ1.out; have := HZ2.out; have := HZ3.out; have := HZ4.out; have := HZ5.out; have := HG3.out.1; have := HG3.out.2; have := HG5.out.1; have := HG5.out.2; omega)).trans BK3.out); have m3_ := A_ (show Below w.heap.size w w_6 from by rw [hw_]; exact below_set (below_set (below_set (below_set (HB.out) GE5.out) GE5.out) GE5.out) GE5.out); have m4_ := A_ (show w_6.heap[gb5]? = some (.cells #[.string t8, .string t9, .string t10, .slice Ao14 t11.length co14] 24 (0, 0)) from by rw [hw_]; exact blk_put (cs := #[.string t8, .string t9, .string t10, .slice none 0 0]) (cs' := #[.string t8, .string t9, .string t10, .slice Ao14 t11.length co14]) (blk_put (cs := #[.string t8, .string t9, .string (⟨#[]⟩ : ByteArray), .slice none 0 0]) (cs' := #[.string t8, .string t9, .string t10, .slice none 0 0]) (blk_put (cs := #[.string t8, .string (⟨#[]⟩ : ByteArray), .string (⟨#[]⟩ : ByteArray), .slice none 0 0]) (cs' := #[.string t8, .string t9, .string (⟨#[]⟩ : ByteArray), .slice none 0 0]) (blk_put (cs := #[.string (⟨#[]⟩ : ByteArray), .string (⟨#[]⟩ : ByteArray), .string (⟨#[]⟩ : ByteArray), .slice none 0 0]) (cs' := #[.string t8, .string (⟨#[]⟩ : ByteArray), .string (⟨#[]⟩ : ByteArray), .slice none 0 0]) (BK5.out) 0 (.string t8) rfl) 1 (.string t9) rfl) 2 (.string t10) rfl) 3 (.slice Ao14 t11.length co14) rfl); clear HO7 HO14 BK3 HB BK5; (try clear hx3_0 hf3_0 hx3_1 hf3_1 hx3_2 hf3_2 hx3_3 hf3_3 hx5_0 hf5_0 hx5_1 hf5_1 hx5_2 hf5_2 hx5_3 hf5_3); have HZ6 := n0_; have HO7 := m0_; have HO14 := m1_; have BK3 := m2_; have HB := m3_; have BK5 := m4_; clear n0_ m0_ m1_ m2_ m3_ m4_; (try clear hb_); (try clear hk_); (try clear hw_); (try clear hg_); (try clear hbox_); have hx3_0 : w_6.cell? ⟨gb3, 0, none⟩ = some (.string t1) := bl_ BK3.out 0; have hf3_0 := blk_frozen BK3.out 0; have hx3_1 : w_6.cell? ⟨gb3, 1, none⟩ = some (.string t2) := bl_ BK3.out 1; have hf3_1 := blk_frozen BK3.out 1; have hx3_2 : w_6.cell? ⟨gb3, 2, none⟩ = some (.string t3) := bl_ BK3.out 2; have hf3_2 := blk_frozen BK3.out 2; have hx3_3 : w_6.cell? ⟨gb3, 3, none⟩ = some (.slice Ao7 t4.length co7) := bl_ BK3.out 3; have hf3_3 := blk_frozen BK3.out 3; have hx5_0 : w_6.cell? ⟨gb5, 0, none⟩ = some (.string t8) := bl_ BK5.out 0; have hf5_0 := blk_frozen BK5.out 0; have hx5_1 : w_6.cell? ⟨gb5, 1, none⟩ = some (.string t9) := bl_ BK5.out 1; have hf5_1 := blk_frozen BK5.out 1; have hx5_2 : w_6.cell? ⟨gb5, 2, none⟩ = some (.string t10) := bl_ BK5.out 2; have hf5_2 := blk_frozen BK5.out 2; have hx5_3 : w_6.cell? ⟨gb5, 3, none⟩ = some (.slice Ao14 t11.length co14) := bl_ BK5.out 3; have hf5_3 := blk_frozen BK5.out 3; refine gL_ (some 26) Tryz.func8 #[.agg #[.string t8, .string t9, .string t10, .slice Ao14 t11.length co14], .agg #[.string t1, .string t2, .string t3, .slice Ao7 t4.length co7]] ?_; (with_reducible refine (laws_eqNode.calls k t8 t9 t10 Ao14 co14 t11 t1 t2 t3 Ao7 co7 t4 true _ ?s1 ?s2 ?s3 ?s4 FA16.out).mono ?_); (case s1 => exact cC_ (Kd.S_reads' HO14.out).2.2); (case s2 => exact (Kd.S_reads' HO14.out).2.1); (case s3 => exact cC_ (Kd.S_reads' HO7.out).2.2); (case s4 => exact (Kd.S_reads' HO7.out).2.1); rintro e w_7 ⟨rfl, hb_⟩; refine ⟨_, rfl, ?_⟩; have n0_ : Aside0 (w_6.heap.size ≤ w_7.heap.size) := ⟨Nat.le_trans (below_size bR_) (below_size hb_)⟩; have m0_ := A_ (Kd.S_below (vS_ HO7.out) hb_); have m1_ := A_ (Kd.S_below (vS_ HO14.out) hb_); have m2_ := A_ (blk_below (g := gb3) (o := .cells #[.string t1, .string t2, .string t3, .slice Ao7 t4.length co7] 24 (0, 0)) (vb_ BK3.out) hb_); have m3_ := A_ (blk_below (g := gb5) (o := .cells #[.string t8, .string t9, .string t10, .slice Ao14 t11.length co14] 24 (0, 0)) (vb_ BK5.out) hb_); have m4_ := A_ (below_step bB_ hb_); clear HO7 HO14 BK3 BK5 HB; (try clear hx3_0 hf3_0 hx3_1 hf3_1 hx3_2 hf3_2 hx3_3 hf3_3 hx5_0 hf5_0 hx5_1 hf5_1 hx5_2 hf5_2 hx5_3 hf5_3); have HZ7 := n0_; have HO7 := m0_; have HO14 := m1_; have BK3 := m2_; have BK5 := m3_; have HB := m4_; clear n0_ m0_ m1_ m2_ m3_ m4_; (try clear hb_); (try clear hk_); (try clear hw_); (try clear hg_); (try clear hbox_); (try clear ho0_); have hx3_0 : w_7.cell? ⟨gb3, 0, none⟩ = some (.string t1) := bl_ BK3.out 0; have hf3_0 := blk_frozen BK3.out 0; have hx3_1 : w_7.cell? ⟨gb3, 1, none⟩ = some (.string t2) := bl_ BK3.out 1; have hf3_1 := blk_frozen BK3.out 1; have hx3_2 : w_7.cell? ⟨gb3, 2, none⟩ = some (.string t3) := bl_ BK3.out 2; have hf3_2 := blk_frozen BK3.out 2; have hx3_3 : w_7.cell? ⟨gb3, 3, none⟩ = some (.slice Ao7 t4.length co7) := bl_ BK3.out 3; have hf3_3 := blk_frozen BK3.out 3; have hx5_0 : w_7.cell? ⟨gb5, 0, none⟩ = some (.string t8) := bl_ BK5.out 0; have hf5_0 := blk_frozen BK5.out 0; have hx5_1 : w_7.cell? ⟨gb5, 1, none⟩ = some (.string t9) := bl_ BK5.out 1; have hf5_1 := blk_frozen BK5.out 1; have hx5_2 : w_7.cell? ⟨gb5, 2, none⟩ = some (.string t10) := bl_ BK5.out 2; have hf5_2 := blk_frozen BK5.out 2; have hx5_3 : w_7.cell? ⟨gb5, 3, none⟩ = some (.slice Ao14 t11.length co14) := bl_ BK5.out 3; have hf5_3 := blk_frozen BK5.out 3) | ((with_reducible refine gc_ (f := 9) rfl ?_); refine gL_ (some 35) Tryz.func9 #[.agg #[.string t8, .string t9, .string t10, (.slice Ao14 t11.length co14)], .int .i64 1] ?_; (with_reducible refine (laws_markNode.calls k t8 t9 t10 (fun k_ => w_3.heap.size ≤ k_ ∧ k_ < w_4.heap.size) (.slice Ao14 t11.length co14) t11 1 t17 t18 w _ ?s1 ?s2 FA19.out).mono ?_); (case s1 => exact bB_); (case s2 => exact (vS_ HO14.out)); rintro e w_8 ⟨rfl, ho0_, hb_, hk_⟩; refine ⟨_, rfl, ?_⟩; have n0_ : Aside0 (w_7.heap.size ≤ w_8.heap.size) := ⟨Nat.le_trans (below_size bR_) (hk_.1)⟩; have m0_ := A_ (Kd.S_step (vS_ HO7.out) (fun k_ h1_ h2_ => hk_.2 k_ h2_ (fun h3_ => by have := HZ1.out; have := HZ2.out; have := HZ3.out; have := HZ4.out; have := HZ5.out; have := HZ6.out; have := HZ7.out; have := HG3.out.1; have := HG3.out.2; have := HG5.out.1; have := HG5.out.2; omega))); have m1_ := A_ ((hk_.2 gb3 (blk_lt BK3.out) (fun h3_ => by have := HZ1.out; have := HZ2.out; have := HZ3.out; have := HZ4.out; have := HZ5.out; have := HZ6.out; have := HZ7.out; have := HG3.out.1; have := HG3.out.2; have := HG5.out.1; have := HG5.out.2; omega)).trans BK3.out); have m2_ := A_ ((hk_.2 gb5 (blk_lt BK5.out) (fun h3_ => by have := HZ1.out; have := HZ2.out; have := HZ3.out; have := HZ4.out; have := HZ5.out; have := HZ6.out; have := HZ7.out; have := HG3.out.1; have := HG3.out.2; have := HG5.out.1; have := HG5.out.2; omega)).trans BK5.out); have m3_ := A_ (Kd.S_mono ho0_ (fun _ h_ => h_)); have m4_ := A_ hb_; have m5_ := A_ (Kd.S_reads' ho0_).1; clear HO7 BK3 BK5 HO14 HB; (try clear hx3_0 hf3_0 hx3_1 hf3_1 hx3_2 hf3_2 hx3_3 hf3_3 hx5_0 hf5_0 hx5_1 hf5_1 hx5_2 hf5_2 hx5_3 hf5_3); have HZ8 := n0_; have HO7 := m0_; have BK3 := m1_; have BK5 := m2_; have HO14 := m3_; have HB := m4_; have HE20 := m5_; clear n0_ m0_ m1_ m2_ m3_ m4_ m5_; (try clear hb_); (try clear hk_); (try clear hw_); (try clear hg_); (try clear hbox_); (try clear ho0_); (try clear ho1_); (try clear ho2_); have hx3_0 : w_8.cell? ⟨gb3, 0, none⟩ = some (.string t1) := bl_ BK3.out 0; have hf3_0 := blk_frozen BK3.out 0; have hx3_1 : w_8.cell? ⟨gb3, 1, none⟩ = some (.string t2) := bl_ BK3.out 1; have hf3_1 := blk_frozen BK3.out 1; have hx3_2 : w_8.cell? ⟨gb3, 2, none⟩ = some (.string t3) := bl_ BK3.out 2; have hf3_2 := blk_frozen BK3.out 2; have hx3_3 : w_8.cell? ⟨gb3, 3, none⟩ = some (.slice Ao7 t4.length co7) := bl_ BK3.out 3; have hf3_3 := blk_frozen BK3.out 3; have hx5_0 : w_8.cell? ⟨gb5, 0, none⟩ = some (.string t8) := bl_ BK5.out 0; have hf5_0 := blk_frozen BK5.out 0; have hx5_1 : w_8.cell? ⟨gb5, 1, none⟩ = some (.string t9) := bl_ BK5.out 1; have hf5_1 := blk_frozen BK5.out 1; have hx5_2 : w_8.cell? ⟨gb5, 2, none⟩ = some (.string t10) := bl_ BK5.out 2; have hf5_2 := blk_frozen BK5.out 2; have hx5_3 : w_8.cell? ⟨gb5, 3, none⟩ = some (.slice Ao14 t11.length co14) := bl_ BK5.out 3; have hf5_3 := blk_frozen BK5.out 3) | ((with_reducible refine gc_ (f := 10) rfl ?_); refine gL_ (some 38) Tryz.func10 #[.agg #[.string t8, .string t9, .string t10, .slice Ao14 t11.length co14], .int .i64 1] ?_; refine calls_of_args (args' := #[.agg #[.string t8, .string t9, .string t10, .slice Ao14 t18.length co14], .int .i64 1]) (by simp only [HE20.out]) ?_; (with_reducible refine (laws_heldNode.calls k t8 t9 t10 Ao14 co14 t18 1 t21 _ ?s1 ?s2 FA22.out).mono ?_); (case s1 => repeat (first | (have h_ := Kd.S_reads' HO14.out; rw [HE20.out] at h_; exact h_.2.2) | (with_reducible refine Kd.C_alloc ?_ _) | (with_reducible refine Kd.C_drewN ?_ _) | (with_reducible refine Kd.C_drew ?_))); (case s2 => have h_ := Kd.S_reads' HO14.out; rw [HE20.out] at h_; exact h_.2.1); rintro e w_9 ⟨rfl, hb_⟩; refine ⟨_, rfl, ?_⟩; have n0_ : Aside0 (w_8.heap.size ≤ w_9.heap.size) := ⟨Nat.le_trans (below_size bR_) (below_size hb_)⟩; have m0_ := A_ (Kd.S_below (vS_ HO7.out) hb_); have m1_ := A_ (Kd.S_below (vS_ HO14.out) hb_); have m2_ := A_ (blk_below (g := gb3) (o := .cells #[.string t1, .string t2, .string t3, .slice Ao7 t4.length co7] 24 (0, 0)) (vb_ BK3.out) hb_); have m3_ := A_ (blk_below (g := gb5) (o := .cells #[.string t8, .string t9, .string t10, .slice Ao14 t11.length co14] 24 (0, 0)) (vb_ BK5.out) hb_); have m4_ := A_ (below_step bB_ hb_); clear HO7 HO14 BK3 BK5 HB; (try clear hx3_0 hf3_0 hx3_1 hf3_1 hx3_2 hf3_2 hx3_3 hf3_3 hx5_0 hf5_0 hx5_1 hf5_1 hx5_2 hf5_2 hx5_3 hf5_3); have HZ9 := n0_; have HO7 := m0_; have HO14 := m1_; have BK3 := m2_; have BK5 := m3_; have HB := m4_; clear n0_ m0_ m1_ m2_ m3_ m4_; (try clear hb_); (try clear hk_); (try clear hw_); (try clear hg_); (try clear hbox_); (try clear ho0_); have hx3_0 : w_9.cell? ⟨gb3, 0, none⟩ = some (.string t1) := bl_ BK3.out 0; have hf3_0 := blk_frozen BK3.out 0; have hx3_1 : w_9.cell? ⟨gb3, 1, none⟩ = some (.string t2) := bl_ BK3.out 1; have hf3_1 := blk_frozen BK3.out 1; have hx3_2 : w_9.cell? ⟨gb3, 2, none⟩ = some (.string t3) := bl_ BK3.out 2; have hf3_2 := blk_frozen BK3.out 2; have hx3_3 : w_9.cell? ⟨gb3, 3, none⟩ = some (.slice Ao7 t4.length co7) := bl_ BK3.out 3; have hf3_3 := blk_frozen BK3.out 3; have hx5_0 : w_9.cell? ⟨gb5, 0, none⟩ = some (.string t8) := bl_ BK5.out 0; have hf5_0 := blk_frozen BK5.out 0; have hx5_1 : w_9.cell? ⟨gb5, 1, none⟩ = some (.string t9) := bl_ BK5.out 1; have hf5_1 := blk_frozen BK5.out 1; have hx5_2 : w_9.cell? ⟨gb5, 2, none⟩ = some (.string t10) := bl_ BK5.out 2; have hf5_2 := blk_frozen BK5.out 2; have hx5_3 : w_9.cell? ⟨gb5, 3, none⟩ = some (.slice Ao14 t11.length co14) := bl_ BK5.out 3; have hf5_3 := blk_frozen BK5.out 3) | ((with_reducible refine gc_ (f := 7) rfl ?_); refine gL_ (some 46) Tryz.func7 #[.string a0] ?_; (with_reducible refine (impl_ParseNode.calls k a0 t23 t24 t25 t26 t27 _ ?gT2 ?gM2 ?gE2 FA28.out).mono ?_); (case gT2 => exact gT_ HGT.out (by repeat (first | (with_reducible first | exact HB.out | apply below_alloc | apply pw_below_drewN | apply below_drew1 | refine below_set ?_ GE3.out | refine below_set ?_ GE5.out | refine below_set ?_ GE9.out) | exact HB.out))); (case gM2 => exact gM_ HGM.out (by repeat (first | (with_reducible first | exact HB.out | apply below_alloc | apply pw_below_drewN | apply below_drew1 | refine below_set ?_ GE3.out | refine below_set ?_ GE5.out | refine below_set ?_ GE9.out) | exact HB.out))); (case gE2 => exact gE_ HGE.out (by repeat (first | (with_reducible first | exact HB.out | apply below_alloc | apply pw_below_drewN | apply below_drew1 | refine below_set ?_ GE3.out | refine below_set ?_ GE5.out | refine below_set ?_ GE9.out) | exact HB.out))); rintro e w_10 ⟨v45, rfl, ho0_, hb_⟩; refine ⟨_, rfl, ?_⟩; have n0_ : Aside0 (w_9.heap.size ≤ w_10.heap.size) := ⟨Nat.le_trans (below_size bR_) (below_size hb_)⟩; have m0_ := A_ (Kd.S_below (vS_ HO7.out) hb_); have m1_ := A_ (Kd.S_below (vS_ HO14.out) hb_); have m2_ := A_ (blk_below (g := gb3) (o := .cells #[.string t1, .string t2, .string t3, .slice Ao7 t4.length co7] 24 (0, 0)) (vb_ BK3.out) hb_); have m3_ := A_ (blk_below (g := gb5) (o := .cells #[.string t8, .string t9, .string t10, .slice Ao14 t11.length co14] 24 (0, 0)) (vb_ BK5.out) hb_); have m4_ := A_ (below_step bB_ hb_); have m5_ := A_ (show Kd.S kA 24 w_10 w.heap.size (fun k_ => w_9.heap.size ≤ k_ ∧ k_ < w_10.heap.size) v45 t26 from Kd.S_mono (Kd.S_lower (Kd.S_bound ho0_) (below_size bB_)) (fun k_ h_ => ⟨Nat.le_trans (below_size bR_) h_.2.1, h_.2.2.1⟩)); clear HO7 HO14 BK3 BK5 HB; (try clear hx3_0 hf3_0 hx3_1 hf3_1 hx3_2 hf3_2 hx3_3 hf3_3 hx5_0 hf5_0 hx5_1 hf5_1 hx5_2 hf5_2 hx5_3 hf5_3); have HZ10 := n0_; have HO7 := m0_; have HO14 := m1_; have BK3 := m2_; have BK5 := m3_; have HB := m4_; have HO29 := m5_; clear n0_ m0_ m1_ m2_ m3_ m4_ m5_; (try clear hb_); (try clear hk_); (try clear hw_); (try clear hg_); (try clear hbox_); (try clear ho0_); (try clear ho1_); obtain ⟨Ao29, co29, eo_⟩ := Kd.S_slice HO29.out; subst eo_; have hx3_0 : w_10.cell? ⟨gb3, 0, none⟩ = some (.string t1) := bl_ BK3.out 0; have hf3_0 := blk_frozen BK3.out 0; have hx3_1 : w_10.cell? ⟨gb3, 1, none⟩ = some (.string t2) := bl_ BK3.out 1; have hf3_1 := blk_frozen BK3.out 1; have hx3_2 : w_10.cell? ⟨gb3, 2, none⟩ = some (.string t3) := bl_ BK3.out 2; have hf3_2 := blk_frozen BK3.out 2; have hx3_3 : w_10.cell? ⟨gb3, 3, none⟩ = some (.slice Ao7 t4.length co7) := bl_ BK3.out 3; have hf3_3 := blk_frozen BK3.out 3; have hx5_0 : w_10.cell? ⟨gb5, 0, none⟩ = some (.string t8) := bl_ BK5.out 0; have hf5_0 := blk_frozen BK5.out 0; have hx5_1 : w_10.cell? ⟨gb5, 1, none⟩ = some (.string t9) := bl_ BK5.out 1; have hf5_1 := blk_frozen BK5.out 1; have hx5_2 : w_10.cell? ⟨gb5, 2, none⟩ = some (.string t10) := bl_ BK5.out 2; have hf5_2 := blk_frozen BK5.out 2; have hx5_3 : w_10.cell? ⟨gb5, 3, none⟩ = some (.slice Ao14 t11.length co14) := bl_ BK5.out 3; have hf5_3 := blk_frozen BK5.out 3) | ((with_reducible refine gd_ (N := 9) rfl ?_); refine bx_ (N := 9) (cs := #[.string (⟨#[]⟩ : ByteArray), .string (⟨#[]⟩ : ByteArray), .string (⟨#[]⟩ : ByteArray), .slice none 0 0]) (t := 24) ?_; intro gb9 hg_ w_11 hbox_ hb_; have n0_ : Aside0 (w_10.heap.size ≤ w_11.heap.size) := ⟨Nat.le_trans (below_size bR_) (below_size hb_)⟩; have m0_ := A_ (Kd.S_below (vS_ HO7.out) hb_); have m1_ := A_ (Kd.S_below (vS_ HO14.out) hb_); have m2_ := A_ (Kd.S_below (vS_ HO29.out) hb_); have m3_ := A_ (blk_below (g := gb3) (o := .cells #[.string t1, .string t2, .string t3, .slice Ao7 t4.length co7] 24 (0, 0)) (vb_ BK3.out) hb_); have m4_ := A_ (blk_below (g := gb5) (o := .cells #[.string t8, .string t9, .string t10, .slice Ao14 t11.length co14] 24 (0, 0)) (vb_ BK5.out) hb_); have m5_ := A_ (below_step bB_ hb_); have m6_ := A_ hbox_; have m7_ := A_ (show w_10.heap.size ≤ gb9 ∧ gb9 < w_11.heap.size from ⟨by rw [hg_]; exact (below_size bR_), blk_lt hbox_⟩); have m8_ := A_ (show w.heap.size ≤ gb9 from by rw [hg_]; exact below_size bB_); clear HO7 HO14 HO29 BK3 BK5 HB; (try clear hx3_0 hf3_0 hx3_1 hf3_1 hx3_2 hf3_2 hx3_3 hf3_3 hx5_0 hf5_0 hx5_1 hf5_1 hx5_2 hf5_2 hx5_3 hf5_3); have HZ11 := n0_; have HO7 := m0_; have HO14 := m1_; have HO29 := m2_; have BK3 := m3_; have BK5 := m4_; have HB := m5_; have BK9 := m6_; have HG9 := m7_; have GE9 := m8_; clear n0_ m0_ m1_ m2_ m3_ m4_ m5_ m6_ m7_ m8_; (try clear hb_); (try clear hk_); (try clear hw_); (try clear hg_); (try clear hbox_); have hne3_9 : (gb3 = gb9) = False := eq_false (by have := HZ1.out; have := HZ2.out; have := HZ3.out; have := HZ4.out; have := HZ5.out; have := HZ6.out; have := HZ7.out; have := HZ8.out; have := HZ9.out; have := HZ10.out; have := HZ11.out; have := HG3.out.1; have := HG3.out.2; have := HG5.out.1; have := HG5.out.2; have := HG9.out.1; have := HG9.out.2; omega); have hen3_9 : (gb9 = gb3) = False := eq_false (by have := HZ1.out; have := HZ2.out; have := HZ3.out; have := HZ4.out; have := HZ5.out; have := HZ6.out; have := HZ7.out; have := HZ8.out; have := HZ9.out; have := HZ10.out; have := HZ11.out; have := HG3.out.1; have := HG3.out.2; have := HG5.out.1; have := HG5.out.2; have := HG9.out.1; have := HG9.out.2; omega); have hne5_9 : (gb5 = gb9) = False := eq_false (by have := HZ1.out; have := HZ2.out; have := HZ3.out; have := HZ4.out; have := HZ5.out; have := HZ6.out; have := HZ7.out; have := HZ8.out; have := HZ9.out; have := HZ10.out; have := HZ11.out; have := HG3.out.1; have := HG3.out.2; have := HG5.out.1; have := HG5.out.2; have := HG9.out.1; have := HG9.out.2; omega); have hen5_9 : (gb9 = gb5) = False := eq_false (by have := HZ1.out; have := HZ2.out; have := HZ3.out; have := HZ4.out; have := HZ5.out; have := HZ6.out; have := HZ7.out; have := HZ8.out; have := HZ9.out; have := HZ10.out; have := HZ11.out; have := HG3.out.1; have := HG3.out.2; have := HG5.out.1; have := HG5.out.2; have := HG9.out.1; have := HG9.out.2; omega); have hx3_0 : w_11.cell? ⟨gb3, 0, none⟩ = some (.string t1) := bl_ BK3.out 0; have hf3_0 := blk_frozen BK3.out 0; have hx3_1 : w_11.cell? ⟨gb3, 1, none⟩ = some (.string t2) := bl_ BK3.out 1; have hf3_1 := blk_frozen BK3.out 1; have hx3_2 : w_11.cell? ⟨gb3, 2, none⟩ = some (.string t3) := bl_ BK3.out 2; have hf3_2 := blk_frozen BK3.out 2; have hx3_3 : w_11.cell? ⟨gb3, 3, none⟩ = some (.slice Ao7 t4.length co7) := bl_ BK3.out 3; have hf3_3 := blk_frozen BK3.out 3; have hx5_0 : w_11.cell? ⟨gb5, 0, none⟩ = some (.string t8) := bl_ BK5.out 0; have hf5_0 := blk_frozen BK5.out 0; have hx5_1 : w_11.cell? ⟨gb5, 1, none⟩ = some (.string t9) := bl_ BK5.out 1; have hf5_1 := blk_frozen BK5.out 1; have hx5_2 : w_11.cell? ⟨gb5, 2, none⟩ = some (.string t10) := bl_ BK5.out 2; have hf5_2 := blk_frozen BK5.out 2; have hx5_3 : w_11.cell? ⟨gb5, 3, none⟩ = some (.slice Ao14 t11.length co14) := bl_ BK5.out 3; have hf5_3 := blk_frozen BK5.out 3; have hx9_0 : w_11.cell? ⟨gb9, 0, none⟩ = some (.string (⟨#[]⟩ : ByteArray)) := bl_ BK9.out 0; have hf9_0 := blk_frozen BK9.out 0; have hx9_1 : w_11.cell? ⟨gb9, 1, none⟩ = some (.string (⟨#[]⟩ : ByteArray)) := bl_ BK9.out 1; have hf9_1 := blk_frozen BK9.out 1; have hx9_2 : w_11.cell? ⟨gb9, 2, none⟩ = some (.string (⟨#[]⟩ : ByteArray)) := bl_ BK9.out 2; have hf9_2 := blk_frozen BK9.out 2; have hx9_3 : w_11.cell? ⟨gb9, 3, none⟩ = some (.slice none 0 0) := bl_ BK9.out 3; have hf9_3 := blk_frozen BK9.out 3) | ((with_reducible refine gc_ (f := 8) rfl ?_); generalize hw0_ : ((((w_11.setCell ⟨gb9, 0, none⟩ (.string t23)).setCell ⟨gb9, 1, none⟩ (.string t24)).setCell ⟨gb9, 2, none⟩ (.string t25)).setCell ⟨gb9, 3, none⟩ (.slice Ao29 t26.length co29)) = w_12; have hw_ : w_12 = ((((w_11.setCell ⟨gb9, 0, none⟩ (.string t23)).setCell ⟨gb9, 1, none⟩ (.string t24)).setCell ⟨gb9, 2, none⟩ (.string t25)).setCell ⟨gb9, 3, none⟩ (.slice Ao29 t26.length co29)) := hw0_.symm; clear hw0_; have hk_ : Kept w_11 w_12 (fun k_ => k_ = gb9) := (by rw [hw_]; exact Kept.setCell (S := fun k_ => k_ = gb9) (p := ⟨gb9, 3, none⟩) (Kept.setCell (S := fun k_ => k_ = gb9) (p := ⟨gb9, 2, none⟩) (Kept.setCell (S := fun k_ => k_ = gb9) (p := ⟨gb9, 1, none⟩) (Kept.setCell (S := fun k_ => k_ = gb9) (p := ⟨gb9, 0, none⟩) (Kept.refl _ _) (.inl rfl) _) (.inl rfl) _) (.inl rfl) _) (.inl rfl) _); have n0_ : Aside0 (w_11.heap.size ≤ w_12.heap.size) := ⟨Nat.le_trans (below_size bR_) (hk_.1)⟩; have m0_ := A_ (Kd.S_step (vS_ HO7.out) (fun k_ h1_ h2_ => hk_.2 k_ h2_ (fun h3_ => by have := HZ1.out; have := HZ2.out; have := HZ3.out; have := HZ4.out; have := HZ5.out; have := HZ6.out; have := HZ7.out; have := HZ8.out; have := HZ9.out; have := HZ10.out; have := HZ11.out; have := HG3.out.1; have := HG3.out.2; have := HG5.out.1; have := HG5.out.2; have := HG9.out.1; have := HG9.out.2; omega))); have m1_ := A_ (Kd.S_step (vS_ HO14.out) (fun k_ h1_ h2_ => hk_.2 k_ h2_ (fun h3_ => by have := HZ1.out; have := HZ2.out; have := HZ3.out; have := HZ4.out; have := HZ5.out; have := HZ6.out; have := HZ7.out; have := HZ8.out; have := HZ9.out; have := HZ10.out; have := HZ11.out; have := HG3.out.1; have := HG3.out.2; have := HG5.out.1; have := HG5.out.2; have := HG9.out.1; have := HG9.out.2; omega))); have m2_ := A_ (Kd.S_step (vS_ HO29.out) (fun k_ h1_ h2_ => hk_.2 k_ h2_ (fun h3_ => by have := HZ1.out; have := HZ2.out; have := HZ3.out; have := HZ4.out; have := HZ5.out; have := HZ6.out; have := HZ7.out; have := HZ8.out; have := HZ9.out; have := HZ10.out; have := HZ11.out; have := HG3.out.1; have := HG3.out.2; have := HG5.out.1; have := HG5.out.2; have := HG9.out.1; have := HG9.out.2; omega))); have m3_ := A_ ((hk_.2 gb3 (blk_lt BK3.out) (fun h3_ => by have := HZ1.out; have := HZ2.out; have := HZ3.out; have := HZ4.out; have := HZ5.out; have := HZ6.out; have := HZ7.out; have := HZ8.out; have := HZ9.out; have := HZ10.out; have := HZ11.out; have := HG3.out.1; have := HG3.out.2; have := HG5.out.1; have := HG5.out.2; have := HG9.out.1; have := HG9.out.2; omega)).trans BK3.out); have m4_ := A_ ((hk_.2 gb5 (blk_lt BK5.out) (fun h3_ => by have := HZ1.out; have := HZ2.out; have := HZ3.out; have := HZ4.out; have := HZ5.out; have := HZ6.out; have := HZ7.out; have := HZ8.out; have := HZ9.out; have := HZ10.out; have := HZ11.out; have := HG3.out.1; have := HG3.out.2; have := HG5.out.1; have := HG5.out.2; have := HG9.out.1; have := HG9.out.2; omega)).trans BK5.out); have m5_ := A_ (show Below w.heap.size w w_12 from by rw [hw_]; exact below_set (below_set (below_set (below_set (HB.out) GE9.out) GE9.out) GE9.out) GE9.out); have m6_ := A_ (show w_12.heap[gb9]? = some (.cells #[.string t23, .string t24, .string t25, .slice Ao29 t26.length co29] 24 (0, 0)) from by rw [hw_]; exact blk_put (cs := #[.string t23, .string t24, .string t25, .slice none 0 0]) (cs' := #[.string t23, .string t24, .string t25, .slice Ao29 t26.length co29]) (blk_put (cs := #[.string t23, .string t24, .string (⟨#[]⟩ : ByteArray), .slice none 0 0]) (cs' := #[.string t23, .string t24, .string t25, .slice none 0 0]) (blk_put (cs := #[.string t23, .string (⟨#[]⟩ : ByteArray), .string (⟨#[]⟩ : ByteArray), .slice none 0 0]) (cs' := #[.string t23, .string t24, .string (⟨#[]⟩ : ByteArray), .slice none 0 0]) (blk_put (cs := #[.string (⟨#[]⟩ : ByteArray), .string (⟨#[]⟩ : ByteArray), .string (⟨#[]⟩ : ByteArray), .slice none 0 0]) (cs' := #[.string t23, .string (⟨#[]⟩ : ByteArray), .string (⟨#[]⟩ : ByteArray), .slice none 0 0]) (BK9.out) 0 (.string t23) rfl) 1 (.string t24) rfl) 2 (.string t25) rfl) 3 (.slice Ao29 t26.length co29) rfl); clear HO7 HO14 HO29 BK3 BK5 HB BK9; (try clear hx3_0 hf3_0 hx3_1 hf3_1 hx3_2 hf3_2 hx3_3 hf3_3 hx5_0 hf5_0 hx5_1 hf5_1 hx5_2 hf5_2 hx5_3 hf5_3 hx9_0 hf9_0 hx9_1 hf9_1 hx9_2 hf9_2 hx9_3 hf9_3); have HZ12 := n0_; have HO7 := m0_; have HO14 := m1_; have HO29 := m2_; have BK3 := m3_; have BK5 := m4_; have HB := m5_; have BK9 := m6_; clear n0_ m0_ m1_ m2_ m3_ m4_ m5_ m6_; (try clear hb_); (try clear hk_); (try clear hw_); (try clear hg_); (try clear hbox_); have hx3_0 : w_12.cell? ⟨gb3, 0, none⟩ = some (.string t1) := bl_ BK3.out 0; have hf3_0 := blk_frozen BK3.out 0; have hx3_1 : w_12.cell? ⟨gb3, 1, none⟩ = some (.string t2) := bl_ BK3.out 1; have hf3_1 := blk_frozen BK3.out 1; have hx3_2 : w_12.cell? ⟨gb3, 2, none⟩ = some (.string t3) := bl_ BK3.out 2; have hf3_2 := blk_frozen BK3.out 2; have hx3_3 : w_12.cell? ⟨gb3, 3, none⟩ = some (.slice Ao7 t4.length co7) := bl_ BK3.out 3; have hf3_3 := blk_frozen BK3.out 3; have hx5_0 : w_12.cell? ⟨gb5, 0, none⟩ = some (.string t8) := bl_ BK5.out 0; have hf5_0 := blk_frozen BK5.out 0; have hx5_1 : w_12.cell? ⟨gb5, 1, none⟩ = some (.string t9) := bl_ BK5.out 1; have hf5_1 := blk_frozen BK5.out 1; have hx5_2 : w_12.cell? ⟨gb5, 2, none⟩ = some (.string t10) := bl_ BK5.out 2; have hf5_2 := blk_frozen BK5.out 2; have hx5_3 : w_12.cell? ⟨gb5, 3, none⟩ = some (.slice Ao14 t11.length co14) := bl_ BK5.out 3; have hf5_3 := blk_frozen BK5.out 3; have hx9_0 : w_12.cell? ⟨gb9, 0, none⟩ = some (.string t23) := bl_ BK9.out 0; have hf9_0 := blk_frozen BK9.out 0; have hx9_1 : w_12.cell? ⟨gb9, 1, none⟩ = some (.string t24) := bl_ BK9.out 1; have hf9_1 := blk_frozen BK9.out 1; have hx9_2 : w_12.cell? ⟨gb9, 2, none⟩ = some (.string t25) := bl_ BK9.out 2; have hf9_2 := blk_frozen BK9.out 2; have hx9_3 : w_12.cell? ⟨gb9, 3, none⟩ = some (.slice Ao29 t26.length co29) := bl_ BK9.out 3; have hf9_3 := blk_frozen BK9.out 3; refine gL_ (some 51) Tryz.func8 #[.agg #[.string t23, .string t24, .string t25, .slice Ao29 t26.length co29], .agg #[.string t1, .string t2, .string t3, .slice Ao7 t4.length co7]] ?_; (with_reducible refine (laws_eqNode.calls k t23 t24 t25 Ao29 co29 t26 t1 t2 t3 Ao7 co7 t4 true _ ?s1 ?s2 ?s3 ?s4 FA31.out).mono ?_); (case s1 => exact cC_ (Kd.S_reads' HO29.out).2.2); (case s2 => exact (Kd.S_reads' HO29.out).2.1); (case s3 => exact cC_ (Kd.S_reads' HO7.out).2.2); (case s4 => exact (Kd.S_reads' HO7.out).2.1); rintro e w_13 ⟨rfl, hb_⟩; refine ⟨_, rfl, ?_⟩; have n0_ : Aside0 (w_12.heap.size ≤ w_13.heap.size) := ⟨Nat.le_trans (below_size bR_) (below_size hb_)⟩; have m0_ := A_ (Kd.S_below (vS_ HO7.out) hb_); have m1_ := A_ (Kd.S_below (vS_ HO14.out) hb_); have m2_ := A_ (Kd.S_below (vS_ HO29.out) hb_); have m3_ := A_ (blk_below (g := gb3) (o := .cells #[.string t1, .string t2, .string t3, .slice Ao7 t4.length co7] 24 (0, 0)) (vb_ BK3.out) hb_); have m4_ := A_ (blk_below (g := gb5) (o := .cells #[.string t8, .string t9, .string t10, .slice Ao14 t11.length co14] 24 (0, 0)) (vb_ BK5.out) hb_); have m5_ := A_ (blk_below (g := gb9) (o := .cells #[.string t23, .string t24, .string t25, .slice Ao29 t26.length co29] 24 (0, 0)) (vb_ BK9.out) hb_); have m6_ := A_ (below_step bB_ hb_); clear HO7 HO14 HO29 BK3 BK5 BK9 HB; (try clear hx3_0 hf3_0 hx3_1 hf3_1 hx3_2 hf3_2 hx3_3 hf3_3 hx5_0 hf5_0 hx5_1 hf5_1 hx5_2 hf5_2 hx5_3 hf5_3 hx9_0 hf9_0 hx9_1 hf9_1 hx9_2 hf9_2 hx9_3 hf9_3); have HZ13 := n0_; have HO14 := m1_; have BK3 := m3_; have BK5 := m4_; have BK9 := m5_; have HB := m6_; clear n0_ m0_ m1_ m2_ m3_ m4_ m5_ m6_; (try clear hb_); (try clear hk_); (try clear hw_); (try clear hg_); (try clear hbox_); (try clear ho0_); have hx3_0 : w_13.cell? ⟨gb3, 0, none⟩ = some (.string t1) := bl_ BK3.out 0; have hf3_0 := blk_frozen BK3.out 0; have hx3_1 : w_13.cell? ⟨gb3, 1, none⟩ = some (.string t2) := bl_ BK3.out 1; have hf3_1 := blk_frozen BK3.out 1; have hx3_2 : w_13.cell? ⟨gb3, 2, none⟩ = some (.string t3) := bl_ BK3.out 2; have hf3_2 := blk_frozen BK3.out 2; have hx3_3 : w_13.cell? ⟨gb3, 3, none⟩ = some (.slice Ao7 t4.length co7) := bl_ BK3.out 3; have hf3_3 := blk_frozen BK3.out 3; have hx5_0 : w_13.cell? ⟨gb5, 0, none⟩ = some (.string t8) := bl_ BK5.out 0; have hf5_0 := blk_frozen BK5.out 0; have hx5_1 : w_13.cell? ⟨gb5, 1, none⟩ = some (.string t9) := bl_ BK5.out 1; have hf5_1 := blk_frozen BK5.out 1; have hx5_2 : w_13.cell? ⟨gb5, 2, none⟩ = some (.string t10) := bl_ BK5.out 2; have hf5_2 := blk_frozen BK5.out 2; have hx5_3 : w_13.cell? ⟨gb5, 3, none⟩ = some (.slice Ao14 t11.length co14) := bl_ BK5.out 3; have hf5_3 := blk_frozen BK5.out 3; have hx9_0 : w_13.cell? ⟨gb9, 0, none⟩ = some (.string t23) := bl_ BK9.out 0; have hf9_0 := blk_frozen BK9.out 0; have hx9_1 : w_13.cell? ⟨gb9, 1, none⟩ = some (.string t24) := bl_ BK9.out 1; have hf9_1 := blk_frozen BK9.out 1; have hx9_2 : w_13.cell? ⟨gb9, 2, none⟩ = some (.string t25) := bl_ BK9.out 2; have hf9_2 := blk_frozen BK9.out 2; have hx9_3 : w_13.cell? ⟨gb9, 3, none⟩ = some (.slice Ao29 t26.length co29) := bl_ BK9.out 3; have hf9_3 := blk_frozen BK9.out 3) | ((with_reducible refine gc_ (f := 10) rfl ?_); refine gL_ (some 60) Tryz.func10 #[.agg #[.string t8, .string t9, .string t10, .slice Ao14 t11.length co14], .int .i64 1] ?_; refine calls_of_args (args' := #[.agg #[.string t8, .string t9, .string t10, .slice Ao14 t18.length co14], .int .i64 1]) (by simp only [HE20.out]) ?_; (with_reducible refine (laws_heldNode.calls k t8 t9 t10 Ao14 co14 t18 1 t32 _ ?s1 ?s2 FA33.out).mono ?_); (case s1 => repeat (first | (have h_ := Kd.S_reads' HO14.out; rw [HE20.out] at h_; exact h_.2.2) | (with_reducible refine Kd.C_alloc ?_ _) | (with_reducible refine Kd.C_drewN ?_ _) | (with_reducible refine Kd.C_drew ?_))); (case s2 => have h_ := Kd.S_reads' HO14.out; rw [HE20.out] at h_; exact h_.2.1); rintro e w_14 ⟨rfl, hb_⟩; refine ⟨_, rfl, ?_⟩; have n0_ : Aside0 (w_13.heap.size ≤ w_14.heap.size) := ⟨Nat.le_trans (below_size bR_) (below_size hb_)⟩; have m0_ := A_ (Kd.S_below (vS_ HO14.out) hb_); have m1_ := A_ (blk_below (g := gb3) (o := .cells #[.string t1, .string t2, .string t3, .slice Ao7 t4.length co7] 24 (0, 0)) (vb_ BK3.out) hb_); have m2_ := A_ (blk_below (g := gb5) (o := .cells #[.string t8, .string t9, .string t10, .slice Ao14 t11.length co14] 24 (0, 0)) (vb_ BK5.out) hb_); have m3_ := A_ (blk_below (g := gb9) (o := .cells #[.string t23, .string t24, .string t25, .slice Ao29 t26.length co29] 24 (0, 0)) (vb_ BK9.out) hb_); have m4_ := A_ (below_step bB_ hb_); clear HO14 BK3 BK5 BK9 HB; (try clear hx3_0 hf3_0 hx3_1 hf3_1 hx3_2 hf3_2 hx3_3 hf3_3 hx5_0 hf5_0 hx5_1 hf5_1 hx5_2 hf5_2 hx5_3 hf5_3 hx9_0 hf9_0 hx9_1 hf9_1 hx9_2 hf9_2 hx9_3 hf9_3); have HZ14 := n0_; have BK3 := m1_; have BK5 := m2_; have BK9 := m3_; have HB := m4_; clear n0_ m0_ m1_ m2_ m3_ m4_; (try clear hb_); (try clear hk_); (try clear hw_); (try clear hg_); (try clear hbox_); (try clear ho0_); have hx3_0 : w_14.cell? ⟨gb3, 0, none⟩ = some (.string t1) := bl_ BK3.out 0; have hf3_0 := blk_frozen BK3.out 0; have hx3_1 : w_14.cell? ⟨gb3, 1, none⟩ = some (.string t2) := bl_ BK3.out 1; have hf3_1 := blk_frozen BK3.out 1; have hx3_2 : w_14.cell? ⟨gb3, 2, none⟩ = some (.string t3) := bl_ BK3.out 2; have hf3_2 := blk_frozen BK3.out 2; have hx3_3 : w_14.cell? ⟨gb3, 3, none⟩ = some (.slice Ao7 t4.length co7) := bl_ BK3.out 3; have hf3_3 := blk_frozen BK3.out 3; have hx5_0 : w_14.cell? ⟨gb5, 0, none⟩ = some (.string t8) := bl_ BK5.out 0; have hf5_0 := blk_frozen BK5.out 0; have hx5_1 : w_14.cell? ⟨gb5, 1, none⟩ = some (.string t9) := bl_ BK5.out 1; have hf5_1 := blk_frozen BK5.out 1; have hx5_2 : w_14.cell? ⟨gb5, 2, none⟩ = some (.string t10) := bl_ BK5.out 2; have hf5_2 := blk_frozen BK5.out 2; have hx5_3 : w_14.cell? ⟨gb5, 3, none⟩ = some (.slice Ao14 t11.length co14) := bl_ BK5.out 3; have hf5_3 := blk_frozen BK5.out 3; have hx9_0 : w_14.cell? ⟨gb9, 0, none⟩ = some (.string t23) := bl_ BK9.out 0; have hf9_0 := blk_frozen BK9.out 0; have hx9_1 : w_14.cell? ⟨gb9, 1, none⟩ = some (.string t24) := bl_ BK9.out 1; have hf9_1 := blk_frozen BK9.out 1; have hx9_2 : w_14.cell? ⟨gb9, 2, none⟩ = some (.string t25) := bl_ BK9.out 2; have hf9_2 := blk_frozen BK9.out 2; have hx9_3 : w_14.cell? ⟨gb9, 3, none⟩ = some (.slice Ao29 t26.length co29) := bl_ BK9.out 3; have hf9_3 := blk_frozen BK9.out 3))
 go_ret
 exact ⟨rfl, bB_⟩
end Go.Proofs.YtegkokdncakadaaGreatDoor.Q

/- What a reading of a struct says of its cells. No condition. -/
namespace Go.Proofs.YtegkokdncakadaaGreatDoor.Q
open Go.RowKit Go.ChangeShapes Go.WideShapes Go.Proofs.YtegkokdncakadaaGreatDoorW.PrintWords Go.Proofs.YtegkokdncakadaaGreatDoor
set_option linter.unusedVariables false
set_option linter.unusedSimpArgs false
end Go.Proofs.YtegkokdncakadaaGreatDoor.Q

/- Small lemmas for plain laws over rounds: indices as lengths of what was passed, bytes' equality. No condition. -/
set_option linter.unusedSimpArgs false
set_option linter.unusedVariables false
namespace Go.Proofs.YtegkokdncakadaaGreatDoor.L
open Go.RowKit Go.Proofs.YtegkokdncakadaaGreatDoorW.PrintWords Go.Proofs.YtegkokdncakadaaGreatDoorW.PrintLast
theorem ba_toList (s : ByteArray) : s.toList = s.data.toList := ByteArray.toList_eq s
theorem ba_inj {a b : ByteArray} (h : a.toList = b.toList) : a = b := by
  rw [ba_toList, ba_toList] at h
  cases a with | mk x => cases b with | mk y => congr 1; exact Array.toList_inj.1 h
theorem maxLen_eq : maxLen = 9223372036854775807 := by decide
theorem wrap_id {x : Int} (h0 : -9223372036854775808 ≤ x) (h1 : x < 9223372036854775808) : wrap64 x = x := by
  unfold wrap64
  omega
section
variable {α : Type} {l pre suf : List α} {a : α}
theorem lt_at (h : l = pre ++ a :: suf) : ((pre.length : Nat) : Int) < (l.length : Int) := by subst h; simp; omega
theorem getD_at (d : α) (h : l = pre ++ a :: suf) : l.getD ((pre.length : Nat) : Int).toNat d = a := by subst h; simp [List.getD_eq_getElem?_getD]
theorem next_at (h : l = pre ++ a :: suf) (hl : l.length ≤ maxLen) : wrap64 ((pre.length : Int) + 1) = ((pre ++ [a]).length : Int) := by
  have : l.length = pre.length + 1 + suf.length := by subst h; simp; omega
  rw [maxLen_eq] at hl
  rw [wrap_id (by omega) (by omega)]
  simp
theorem snoc_at (h : l = pre ++ a :: suf) : l = (pre ++ [a]) ++ suf := by subst h; simp
theorem end_at (h : l = pre ++ []) : ¬ ((pre.length : Nat) : Int) < (l.length : Int) := by subst h; simp
theorem set_at {b : α} (h : l = pre ++ a :: suf) : l.set ((pre.length : Nat) : Int).toNat b = (pre ++ [b]) ++ suf := by subst h; simp
theorem nonneg_at (n : Nat) : (0 : Int) ≤ (n : Int) := Int.natCast_nonneg n
end
theorem ev_cast {α : Type} {g : Nat → Option α} {r s : α} (h : Ev g r) (e : r = s) : Ev g s := e ▸ h
end Go.Proofs.YtegkokdncakadaaGreatDoor.L

/- Decimal numerals: what the program's NumText makes. No condition. -/
set_option linter.unusedSimpArgs false
set_option linter.unusedVariables false
namespace Go.Proofs.YtegkokdncakadaaGreatDoor.L
open Go.RowKit Go.Proofs.YtegkokdncakadaaGreatDoorW.PrintWords Go.Proofs.YtegkokdncakadaaGreatDoorW.PrintLast Go.Proofs.YtegkokdncakadaaGreatDoor.Q
theorem decD_step {n : Nat} (h : ¬ n < 10) : Lib.decDigits n = Lib.decDigits (n / 10) ++ [UInt8.ofNat (48 + n % 10)] := by
  rw [Lib.decDigits, dif_neg h]
theorem numI (x : Int) (h1 : x ≤ 9223372036854775807) : impl_NumText.f x = some ⟨(Lib.decDigits x.toNat).toArray⟩ := by
  unfold impl_NumText.f strconv_Itoa.f mx
  by_cases c : x < 0
  · rw [if_pos c, if_pos (by omega), show (0 : Int) = ((0 : Nat) : Int) from rfl, Lib.itoa_nonneg, show x.toNat = 0 by omega]
  · rw [if_neg c, if_pos (by omega)]
    rw [show Lib.itoa x = Lib.decDigits x.toNat from by
      have := Lib.itoa_nonneg x.toNat
      rwa [show ((x.toNat : Nat) : Int) = x by omega] at this]
end Go.Proofs.YtegkokdncakadaaGreatDoor.L

/- Texts byte by byte: plain texts, small names, as the program and the reference have them. No condition. -/
set_option linter.unusedSimpArgs false
set_option linter.unusedVariables false
namespace Go.Proofs.YtegkokdncakadaaGreatDoor.L
open Go.RowKit Go.Proofs.YtegkokdncakadaaGreatDoorW.PrintWords Go.Proofs.YtegkokdncakadaaGreatDoorW.PrintLast Go.Proofs.YtegkokdncakadaaGreatDoor.Q
abbrev bl (s : ByteArray) : List UInt8 := s.data.toList
theorem bl_len (s : ByteArray) : (bl s).length = s.size := data_length s
theorem bl_inj {s t : ByteArray} (h : bl s = bl t) : s = t := ba_inj (by rw [ba_toList, ba_toList]; exact h)
section
variable {s : ByteArray} {pre suf : List UInt8} {c : UInt8}
theorem blt_at (h : bl s = pre ++ c :: suf) : ((pre.length : Nat) : Int) < (s.size : Int) := by
  have := bl_len s
  rw [h] at this
  simp at this
  omega
theorem bend_at (h : bl s = pre ++ []) : ¬ ((pre.length : Nat) : Int) < (s.size : Int) := by
  have := bl_len s
  rw [h] at this
  simp at this
  omega
theorem bt_at' (h : bl s = pre ++ c :: suf) : bt s (pre.length : Int) = (c.toNat : Int) := by
  have hlt := blt_at h
  have h2 : pre.length < s.size := by omega
  rw [← bt_at s (pre.length : Int) (by simpa using h2)]
  have h3 : pre.length < (bl s).length := by rw [bl_len]; exact h2
  have h4 : (bl s)[pre.length] = c := by simp [h]
  have h5 : s[pre.length]'h2 = (bl s)[pre.length] := by
    show s.data[pre.length] = _
    simp
  simp only [Int.toNat_natCast, h5, h4]
theorem bnext_at (h : bl s = pre ++ c :: suf) (hs : s.size ≤ maxLen) : wrap64 ((pre.length : Int) + 1) = ((pre ++ [c]).length : Int) := by
  have := blt_at h
  rw [maxLen_eq] at hs
  rw [wrap_id (by omega) (by omega)]
  simp
end
theorem byte_bounds (c : UInt8) : 0 ≤ (c.toNat : Int) ∧ (c.toNat : Int) ≤ 255 := ⟨by omega, by have := c.toNat_lt; omega⟩
theorem wrap_byte (c : UInt8) : wrap64 (c.toNat : Int) = (c.toNat : Int) := wrap_id (by omega) (by have := byte_bounds c; omega)
def inB (lo hi : Int) (c : UInt8) : Bool := decide (lo ≤ (c.toNat : Int) ∧ (c.toNat : Int) ≤ hi)
theorem specIn (a b c : Int) : spec_l1In.f a b c = some (decide (b ≤ a ∧ a ≤ c)) := by
  unfold spec_l1In.f
  by_cases h : a ≥ b
  · rw [if_pos h]; simp [show b ≤ a from h]
  · rw [if_neg h]; simp [show ¬ b ≤ a from h]
theorem implIn (a b c : Int) : impl_in.f a b c = some (decide (b ≤ a ∧ a ≤ c)) := by
  unfold impl_in.f
  by_cases h : a ≥ b
  · rw [if_pos h]; simp [show b ≤ a from h]
  · rw [if_neg h]; simp [show ¬ b ≤ a from h]
theorem implIsPlain (c : UInt8) : impl_isPlain.f (c.toNat : Int) = some (inB 32 126 c) := by
  unfold impl_isPlain.f inB
  by_cases h : (c.toNat : Int) ≥ 32
  · rw [if_pos h]; simp only [show (32 : Int) ≤ c.toNat from h, true_and]
  · rw [if_neg h]; simp only [show ¬ (32 : Int) ≤ c.toNat from h, false_and, decide_false]
theorem implIsSmall (c : UInt8) : impl_isSmall.f (c.toNat : Int) = some (inB 97 122 c) := by
  unfold impl_isSmall.f inB
  by_cases h : (c.toNat : Int) ≥ 97
  · rw [if_pos h]; simp only [show (97 : Int) ≤ c.toNat from h, true_and]
  · rw [if_neg h]; simp only [show ¬ (97 : Int) ≤ c.toNat from h, false_and, decide_false]
theorem implIsDigit (c : UInt8) : impl_isDigit.f (c.toNat : Int) = some (inB 48 57 c) := by
  unfold impl_isDigit.f inB
  by_cases h : (c.toNat : Int) ≥ 48
  · rw [if_pos h]; simp only [show (48 : Int) ≤ c.toNat from h, true_and]
  · rw [if_neg h]; simp only [show ¬ (48 : Int) ≤ c.toNat from h, false_and, decide_false]
theorem specSmall1 (c : UInt8) : spec_l1Small.f (c.toNat : Int) = some (inB 97 122 c) := by
  unfold spec_l1Small.f; rw [wrap_byte, specIn]; rfl
theorem specDigit1 (c : UInt8) : spec_l1Digit.f (c.toNat : Int) = some (inB 48 57 c) := by
  unfold spec_l1Digit.f; rw [wrap_byte, specIn]; rfl
def plainL (l : List UInt8) : Bool := l.all (inB 32 126)
theorem specPlain_loop {s : ByteArray} (hs : s.size ≤ maxLen) : ∀ (suf pre : List UInt8), bl s = pre ++ suf → Ev (fun k => spec_Plain.l0 k s pre.length) (plainL suf) := by
  intro suf
  induction suf with
  | nil =>
    intro pre h
    refine Ev.step (fun k => spec_Plain.l0.eq_2 ..) ?_
    simp only [if_neg (bend_at h)]
    exact Ev.now _
  | cons c suf ih =>
    intro pre h
    refine Ev.step (fun k => spec_Plain.l0.eq_2 ..) ?_
    simp only [if_pos (blt_at h), if_pos (nonneg_at _), bt_at' h, wrap_byte, specIn, Option.bind_some, bnext_at h hs]
    have := ih (pre ++ [c]) (snoc_at h)
    simp only [plainL, List.all_cons, inB] at this ⊢
    by_cases e : (32 : Int) ≤ c.toNat ∧ (c.toNat : Int) ≤ 126
    · simp only [e, and_self, decide_true, if_true, Bool.true_and]
      exact this
    · simp only [e, decide_false, Bool.false_eq_true, if_false, Bool.false_and]
      exact Ev.now _
theorem specPlain {s : ByteArray} (hs : s.size ≤ maxLen) : Ev (fun k => spec_Plain.f k s) (plainL (bl s)) := specPlain_loop hs _ [] rfl
theorem implPlain_loop {s : ByteArray} (hs : s.size ≤ maxLen) : ∀ (suf pre : List UInt8), bl s = pre ++ suf → Ev (fun k => impl_Plain.l0 k s pre.length) (plainL suf) := by
  intro suf
  induction suf with
  | nil =>
    intro pre h
    refine Ev.step (fun k => impl_Plain.l0.eq_2 ..) ?_
    simp only [if_neg (bend_at h)]
    exact Ev.now _
  | cons c suf ih =>
    intro pre h
    refine Ev.step (fun k => impl_Plain.l0.eq_2 ..) ?_
    simp only [if_pos (blt_at h), if_pos (nonneg_at _), bt_at' h, implIsPlain, Option.bind_some, bnext_at h hs]
    have := ih (pre ++ [c]) (snoc_at h)
    simp only [plainL, List.all_cons] at this ⊢
    by_cases e : inB 32 126 c = true
    · simp only [e, if_true, Bool.true_and]
      exact this
    · simp only [e, if_false, Bool.false_and]
      exact Ev.now _
theorem implPlain {s : ByteArray} (hs : s.size ≤ maxLen) : Ev (fun k => impl_Plain.f k s) (plainL (bl s)) := implPlain_loop hs _ [] rfl
def smallL : Bool → List UInt8 → Bool
  | _, [] => true
  | first, c :: l => (inB 97 122 c || (!first && (inB 48 57 c || decide (c = 45)))) && smallL false l
theorem eq45 (c : UInt8) : ((c.toNat : Int) = 45) = (c = 45) := by
  apply propext
  constructor
  · intro h
    apply UInt8.toNat_inj.1
    show c.toNat = 45
    omega
  · rintro rfl
    rfl
def smallName (s : ByteArray) : Bool := smallL true (bl s) && decide (1 ≤ (s.size : Int) ∧ (s.size : Int) ≤ 20)
theorem specSmall_loop {s : ByteArray} (hs : s.size ≤ maxLen) : ∀ (suf pre : List UInt8), bl s = pre ++ suf → Ev (fun k => spec_SmallName.l0 k s pre.length) (smallL (decide (pre = [])) suf && decide (1 ≤ (s.size : Int) ∧ (s.size : Int) ≤ 20)) := by
  intro suf
  induction suf with
  | nil =>
    intro pre h
    refine Ev.step (fun k => spec_SmallName.l0.eq_2 ..) ?_
    simp only [if_neg (bend_at h), specIn, Option.bind_some, smallL, Bool.true_and]
    exact Ev.now _
  | cons c suf ih =>
    intro pre h
    refine Ev.step (fun k => spec_SmallName.l0.eq_2 ..) ?_
    simp only [if_pos (blt_at h), if_pos (nonneg_at _), bt_at' h, specSmall1, specDigit1, Option.bind_some, bnext_at h hs, eq45]
    have := ih (pre ++ [c]) (snoc_at h)
    rw [show decide (pre ++ [c] = []) = false by simp] at this
    simp only [smallL]
    by_cases e : inB 97 122 c = true
    · simp only [e, if_true, Bool.true_or, Bool.true_and]
      exact this
    · simp only [e, Bool.false_eq_true, if_false, Bool.false_or]
      by_cases e0 : pre = []
      · subst e0
        simp only [List.length_nil, Int.natCast_zero, if_true, decide_true, Bool.not_true, Bool.false_and]
        exact Ev.now _
      · have hp : ¬ ((pre.length : Nat) : Int) = 0 := by
          intro h0
          exact e0 (List.eq_nil_of_length_eq_zero (by omega))
        simp only [if_neg hp, e0, decide_false, Bool.not_false, Bool.true_and]
        by_cases e1 : inB 48 57 c = true
        · simp only [e1, if_true, Bool.true_or, Bool.true_and]
          exact this
        · simp only [e1, Bool.false_eq_true, if_false, Bool.false_or]
          by_cases e2 : c = 45
          · simp only [e2, if_true, decide_true, Bool.true_and]
            subst e2
            exact this
          · simp only [e2, if_false, decide_false, Bool.false_and]
            exact Ev.now _
theorem specSmall {s : ByteArray} (hs : s.size ≤ maxLen) : Ev (fun k => spec_SmallName.f k s) (smallName s) := specSmall_loop hs _ [] rfl
theorem implSmall_loop {s : ByteArray} (hs : s.size ≤ maxLen) : ∀ (suf pre : List UInt8), bl s = pre ++ suf → Ev (fun k => impl_SmallName.l0 k s pre.length) (smallL (decide (pre = [])) suf && decide (1 ≤ (s.size : Int) ∧ (s.size : Int) ≤ 20)) := by
  intro suf
  induction suf with
  | nil =>
    intro pre h
    refine Ev.step (fun k => impl_SmallName.l0.eq_2 ..) ?_
    simp only [if_neg (bend_at h), implIn, Option.bind_some, smallL, Bool.true_and]
    exact Ev.now _
  | cons c suf ih =>
    intro pre h
    refine Ev.step (fun k => impl_SmallName.l0.eq_2 ..) ?_
    simp only [if_pos (blt_at h), if_pos (nonneg_at _), bt_at' h, implIsSmall, implIsDigit, Option.bind_some, bnext_at h hs, eq45]
    have := ih (pre ++ [c]) (snoc_at h)
    rw [show decide (pre ++ [c] = []) = false by simp] at this
    simp only [smallL]
    by_cases e : inB 97 122 c = true
    · simp only [e, if_true, Bool.true_or, Bool.true_and]
      exact this
    · simp only [e, Bool.false_eq_true, if_false, Bool.false_or]
      by_cases e0 : pre = []
      · subst e0
        simp only [List.length_nil, Int.natCast_zero, if_true, decide_true, Bool.not_true, Bool.false_and]
        exact Ev.now _
      · have hp : ¬ ((pre.length : Nat) : Int) = 0 := by
          intro h0
          exact e0 (List.eq_nil_of_length_eq_zero (by omega))
        simp only [if_neg hp, e0, decide_false, Bool.not_false, Bool.true_and]
        by_cases e1 : inB 48 57 c = true
        · simp only [e1, if_true, Bool.true_or, Bool.true_and]
          exact this
        · simp only [e1, Bool.false_eq_true, if_false, Bool.false_or]
          by_cases e2 : c = 45
          · simp only [e2, if_true, decide_true, Bool.true_and]
            subst e2
            exact this
          · simp only [e2, if_false, decide_false, Bool.false_and]
            exact Ev.now _
theorem implSmall {s : ByteArray} (hs : s.size ≤ maxLen) : Ev (fun k => impl_SmallName.f k s) (smallName s) := implSmall_loop hs _ [] rfl
end Go.Proofs.YtegkokdncakadaaGreatDoor.L
