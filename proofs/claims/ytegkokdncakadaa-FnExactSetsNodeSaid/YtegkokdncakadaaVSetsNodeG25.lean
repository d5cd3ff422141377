import Derived.Test.YtegkokdncakadaaVSetsNodeG24
import Derived.Deep.Slices
import Derived.WideShapes
namespace Go.Proofs.Ytegkokdncakadaa.Q
open Go.RowKit Go.Proofs.YtegkokdncakadaaW.PrintWords Go.Proofs.YtegkokdncakadaaW.PrintLast Go.Proofs.YtegkokdncakadaaW.PrintMore
attribute [local go_sem] max2_int min2_int max_two min_two max_three min_three max_four min_four
set_option linter.unusedVariables false
set_option linter.unusedSimpArgs false
mutual
def laws_heldNodeS.l0 : Nat -> List (S26) -> Int -> Int -> Option (Int)
 | 0, _, _, _ => none
 | k + 1, x0, x1, x5 => if x5 < (x0.length : Int) then (if 0 <= x5 then ((laws_markText.f k x1).bind fun t209 => (if ((rd_T26 x0 x5).f0).toList = t209.toList then ((laws_markText.f k (wrap64 (x1 + 1))).bind fun t211 => (if ((rd_T26 x0 x5).f1).toList = t211.toList then ((laws_markText.f k (wrap64 ((wrap64 (x1 + 1)) + 1))).bind fun t213 => (if ((rd_T26 x0 x5).f2).toList = t213.toList then ((laws_heldNodeS.f k ((rd_T26 x0 x5).f3) (wrap64 ((wrap64 ((wrap64 (x1 + 1)) + 1)) + 1))).bind fun t215 => (if t215 < 0 then (some (-1)) else (laws_heldNodeS.l0 k x0 t215 (wrap64 (x5 + 1))))) else (some (-1)))) else (some (-1)))) else (some (-1)))) else (none)) else (some x1)
def laws_heldNodeS.f : Nat -> List (S26) -> Int -> Option (Int)
 | 0, _, _ => none
 | k + 1, l0, a1 => laws_heldNodeS.l0 k l0 a1 0
end
def laws_heldNodeS.T4 : Bool × List (List Nat × List Nat) := (true, [([], []), ([], []), ([0, 1], [0, 1]), ([2], [2]), ([3], [3]), ([], []), ([5], [5]), ([4, 6], [4, 6])])
def laws_heldNodeS.B4 : List Nat := [0, 0, 3, 7, 15, 0, 32, 127]
theorem laws_heldNodeS.tab4 : rtab .any (opsOf Try.f20 4) = laws_heldNodeS.T4 := by kernel_rfl
theorem laws_heldNodeS.bits4 : waitsOk laws_heldNodeS.T4.2 laws_heldNodeS.B4 = true := by kernel_rfl
def laws_heldNodeS.T7 : Bool × List (List Nat × List Nat) := (true, [([], []), ([], []), ([0, 1], [0, 1]), ([2], [2]), ([3], [3]), ([], []), ([5], [5]), ([4, 6], [4, 6])])
def laws_heldNodeS.B7 : List Nat := [0, 0, 3, 7, 15, 0, 32, 127]
theorem laws_heldNodeS.tab7 : rtab .any (opsOf Try.f20 7) = laws_heldNodeS.T7 := by kernel_rfl
theorem laws_heldNodeS.bits7 : waitsOk laws_heldNodeS.T7.2 laws_heldNodeS.B7 = true := by kernel_rfl
def laws_heldNodeS.T10 : Bool × List (List Nat × List Nat) := (true, [([], []), ([], []), ([0, 1], [0, 1]), ([2], [2]), ([3], [3]), ([], []), ([5], [5]), ([4, 6], [4, 6])])
def laws_heldNodeS.B10 : List Nat := [0, 0, 3, 7, 15, 0, 32, 127]
theorem laws_heldNodeS.tab10 : rtab .any (opsOf Try.f20 10) = laws_heldNodeS.T10 := by kernel_rfl
theorem laws_heldNodeS.bits10 : waitsOk laws_heldNodeS.T10.2 laws_heldNodeS.B10 = true := by kernel_rfl
set_option maxHeartbeats 8000000 in
set_option maxRecDepth 100000 in
theorem laws_heldNodeS.calls (k : Nat) : ∀ (A0 : Option Addr) (c0 : Nat) (l0 : List (S26)) (a1 : Int) (r : Int) (w : World) (hr0 : Kd.C k26 w A0 l0.length l0) (hc0 : l0.length <= c0) (h : laws_heldNodeS.f k l0 a1 = some r),
 Calls Try.prog 20 #[.slice A0 l0.length c0, .int .i64 a1] w fun e w' => e = .returned (.int .i64 r) /\ Below w.heap.size w w' := by
 induction k using Nat.strongRecOn with
 | _ k ih =>
 intro A0 c0 l0 a1 r w hr0 hc0 h
 cases k with
 | zero => exact absurd h (by simp [laws_heldNodeS.f])
 | succ k =>
 simp only [laws_heldNodeS.f] at h
 have HR0 := A_ hr0
 clear hr0 hc0
 have HB := A_ (Below.refl w.heap.size w)
 have H : (laws_heldNodeS.l0 k l0 a1 0) = some r := h
 clear h
 have H' := A_ H
 clear H
 go_enter Try.func20, Try.ntmps20
 go_wp2
 go_loopg [1, 5] k (fun kq v1 v5 w' => ∃ (x1_1 : Int) (x5_1 : Int), v1 = .int .i64 x1_1 /\ v5 = .int .i64 x5_1 /\ Aside0 (laws_heldNodeS.l0 kq l0 x1_1 x5_1 = some r) /\ Aside0 (kq <= k) /\ Aside0 (Below w.heap.size w w'))
 case atStart => exact ⟨(a1), (0), rs_, rs_, H', ⟨Nat.le_refl _⟩, ⟨bB_⟩⟩
 case round =>
  clear H'
  obtain ⟨x1_1, x5_1, rfl, rfl, HA, HK1, HB⟩ := hrel
  cases gk with
  | zero => exact absurd HA.out (by simp [laws_heldNodeS.l0])
  | succ k1 =>
   have H := HA.out
   clear HA
   simp only [laws_heldNodeS.l0] at H
   by_cases c3 : x5_1 < (l0.length : Int)
   rotate_left
   . rw [if_neg c3] at H
     have c3b0 := decide_eq_false c3
     clear c3
     obtain rfl := si_ H
     go_wp2
     go_ret
     exact ⟨rr_, bB_⟩
   rw [if_pos c3] at H
   have c3b0 := decide_eq_true c3
   clear c3
   by_cases c4 : 0 <= x5_1
   rotate_left
   . exact absurd H (by rw [if_neg c4]; simp)
   rw [if_pos c4] at H
   have c4b0 := decide_eq_true c4
   clear c4
   obtain ⟨t43, A5, H⟩ := bo_ H
   (try dsimp only at H)
   by_cases c6 : ((rd_T26 l0 x5_1).f0).toList = t43.toList
   rotate_left
   . rw [if_neg c6] at H
     obtain ⟨c6b0, c6b1⟩ := eF_ c6
     obtain rfl := si_ H
     try go_wp2
     replace HB := A_ (below_drew1 HB.out)
     have p39 : 0 <= (x5_1 : Int) := od_
     have q39 : x5_1 < (l0.length : Int) := od_
     obtain ⟨ad39, A39_3, c39_3, e39, hx39_0, hx39_1, hx39_2, hx39_3, hl39_3, hi39_3⟩ := at_T26 HR0.out x5_1 p39 q39
     have hw39_3 := hx39_3
     have hw39_2 := hx39_2
     have hw39_1 := hx39_1
     have hw39_0 := hx39_0
     cases e39
     replace hx39_0 := bc_ HB.out hx39_0
     replace hx39_1 := bc_ HB.out hx39_1
     replace hx39_2 := bc_ HB.out hx39_2
     replace hx39_3 := bc_ HB.out hx39_3
     clear hi39_3 hl39_3
     replace p39 := eq_true p39
     replace q39 := eq_true q39
     refine st4_ (n := 8) (ds := []) (be_ hw39_0) (be_ hw39_1) (be_ hw39_2) (be_ hw39_3) (fun hHeld => ?_); refine with_tabW laws_heldNodeS.tab4 laws_heldNodeS.bits4 (fun HT_ HW_ => ?_)
     generalize wr.drew = w37 at HB hx39_0 hx39_1 hx39_2 hx39_3 hHeld ⊢
     refine pu_ (i := 0) (N := some 12) ?_
     refine pu_ (i := 1) (N := some 13) ?_
     refine pu_ (i := 2) (N := some 14) ?_
     refine pu_ (i := 3) (N := some 15) ?_
     refine pu_ (i := 5) (N := some 17) ?_
     refine tk_ (i := 4) (N := some 16) hHeld ?_
     refine on_ (i := 6) (N := some 18) (fun K hK => ?_)
     refine goes_ Try.func18 (by kernel_rfl) rfl #[.int .i64 x1_1] (by rfl) rfl rfl ml_ ?_
     with_reducible refine (laws_markText.calls k1 x1_1 t43 _ A5.out).mono ?_
     rintro e w38 ⟨rfl, hb⟩
     refine ⟨_, rfl, ?_⟩
     replace HB := A_ (below_step bB_ hb)
     clear hb
     refine hK.out _ _ ⟨(be_ hw39_0), (be_ hw39_1), (be_ hw39_2), (be_ hw39_3)⟩ (fun hHeld => ?_)
     clear hK K
     refine no_ (some 18) ?_
     refine pu_ (i := 7) (N := some 19) ?_
     refine done_ (done_of HT_.out (by kernel_rfl)) ?_
     (try clear hHeld)
     try go_wp2
     go_ret
     exact ⟨rr_, bB_⟩
   rw [if_pos c6] at H
   obtain ⟨c6b0, c6b1⟩ := eT_ c6
   clear c6
   obtain ⟨t44, A7, H⟩ := bo_ H
   (try dsimp only at H)
   by_cases c8 : ((rd_T26 l0 x5_1).f1).toList = t44.toList
   rotate_left
   . rw [if_neg c8] at H
     obtain ⟨c8b0, c8b1⟩ := eF_ c8
     obtain rfl := si_ H
     try go_wp2
     replace HB := A_ (below_drew1 HB.out)
     have p39 : 0 <= (x5_1 : Int) := od_
     have q39 : x5_1 < (l0.length : Int) := od_
     obtain ⟨ad39, A39_3, c39_3, e39, hx39_0, hx39_1, hx39_2, hx39_3, hl39_3, hi39_3⟩ := at_T26 HR0.out x5_1 p39 q39
     have hw39_3 := hx39_3
     have hw39_2 := hx39_2
     have hw39_1 := hx39_1
     have hw39_0 := hx39_0
     cases e39
     replace hx39_0 := bc_ HB.out hx39_0
     replace hx39_1 := bc_ HB.out hx39_1
     replace hx39_2 := bc_ HB.out hx39_2
     replace hx39_3 := bc_ HB.out hx39_3
     clear hi39_3 hl39_3
     replace p39 := eq_true p39
     replace q39 := eq_true q39
     refine st4_ (n := 8) (ds := []) (be_ hw39_0) (be_ hw39_1) (be_ hw39_2) (be_ hw39_3) (fun hHeld => ?_); refine with_tabW laws_heldNodeS.tab4 laws_heldNodeS.bits4 (fun HT_ HW_ => ?_)
     generalize wr.drew = w33 at HB hx39_0 hx39_1 hx39_2 hx39_3 hHeld ⊢
     refine pu_ (i := 0) (N := some 12) ?_
     refine pu_ (i := 1) (N := some 13) ?_
     refine pu_ (i := 2) (N := some 14) ?_
     refine pu_ (i := 3) (N := some 15) ?_
     refine pu_ (i := 5) (N := some 17) ?_
     refine tk_ (i := 4) (N := some 16) hHeld ?_
     refine on_ (i := 6) (N := some 18) (fun K hK => ?_)
     refine goes_ Try.func18 (by kernel_rfl) rfl #[.int .i64 x1_1] (by rfl) rfl rfl ml_ ?_
     with_reducible refine (laws_markText.calls k1 x1_1 t43 _ A5.out).mono ?_
     rintro e w34 ⟨rfl, hb⟩
     refine ⟨_, rfl, ?_⟩
     replace HB := A_ (below_step bB_ hb)
     clear hb
     refine hK.out _ _ ⟨(be_ hw39_0), (be_ hw39_1), (be_ hw39_2), (be_ hw39_3)⟩ (fun hHeld => ?_)
     clear hK K
     refine no_ (some 18) ?_
     refine pu_ (i := 7) (N := some 19) ?_
     refine done_ (done_of HT_.out (by kernel_rfl)) ?_
     (try clear hHeld)
     try go_wp2
     replace HB := A_ (below_drew1 HB.out)
     have p40 : 0 <= (x5_1 : Int) := od_
     have q40 : x5_1 < (l0.length : Int) := od_
     obtain ⟨ad40, A40_3, c40_3, e40, hx40_0, hx40_1, hx40_2, hx40_3, hl40_3, hi40_3⟩ := at_T26 HR0.out x5_1 p40 q40
     have hw40_3 := hx40_3
     have hw40_2 := hx40_2
     have hw40_1 := hx40_1
     have hw40_0 := hx40_0
     obtain rfl : ad39 = ad40 := (by injection e40)
     replace hx40_0 := bc_ HB.out hx40_0
     replace hx40_1 := bc_ HB.out hx40_1
     replace hx40_2 := bc_ HB.out hx40_2
     replace hx40_3 := bc_ HB.out hx40_3
     clear hi40_3 hl40_3
     replace p40 := eq_true p40
     replace q40 := eq_true q40
     refine st4_ (n := 8) (ds := []) (be_ hw40_0) (be_ hw40_1) (be_ hw40_2) (be_ hw40_3) (fun hHeld => ?_); refine with_tabW laws_heldNodeS.tab7 laws_heldNodeS.bits7 (fun HT_ HW_ => ?_)
     generalize w34.drew = w35 at HB hx40_0 hx40_1 hx40_2 hx40_3 hHeld ⊢
     refine pu_ (i := 0) (N := some 22) ?_
     refine pu_ (i := 1) (N := some 23) ?_
     refine pu_ (i := 2) (N := some 24) ?_
     refine pu_ (i := 3) (N := some 25) ?_
     refine pu_ (i := 5) (N := some 27) ?_
     refine tk_ (i := 4) (N := some 26) hHeld ?_
     refine on_ (i := 6) (N := some 28) (fun K hK => ?_)
     refine goes_ Try.func18 (by kernel_rfl) rfl #[.int .i64 (wrap64 (x1_1 + 1))] (by rfl) rfl rfl ml_ ?_
     with_reducible refine (laws_markText.calls k1 (wrap64 (x1_1 + 1)) t44 _ A7.out).mono ?_
     rintro e w36 ⟨rfl, hb⟩
     refine ⟨_, rfl, ?_⟩
     replace HB := A_ (below_step bB_ hb)
     clear hb
     refine hK.out _ _ ⟨(be_ hw40_0), (be_ hw40_1), (be_ hw40_2), (be_ hw40_3)⟩ (fun hHeld => ?_)
     clear hK K
     refine no_ (some 28) ?_
     refine pu_ (i := 7) (N := some 29) ?_
     refine done_ (done_of HT_.out (by kernel_rfl)) ?_
     (try clear hHeld)
     try go_wp2
     go_ret
     exact ⟨rr_, bB_⟩
   rw [if_pos c8] at H
   obtain ⟨c8b0, c8b1⟩ := eT_ c8
   clear c8
   obtain ⟨t45, A9, H⟩ := bo_ H
   (try dsimp only at H)
   by_cases c10 : ((rd_T26 l0 x5_1).f2).toList = t45.toList
   rotate_left
   . rw [if_neg c10] at H
     obtain ⟨c10b0, c10b1⟩ := eF_ c10
     obtain rfl := si_ H
     try go_wp2
     replace HB := A_ (below_drew1 HB.out)
     have p39 : 0 <= (x5_1 : Int) := od_
     have q39 : x5_1 < (l0.length : Int) := od_
     obtain ⟨ad39, A39_3, c39_3, e39, hx39_0, hx39_1, hx39_2, hx39_3, hl39_3, hi39_3⟩ := at_T26 HR0.out x5_1 p39 q39
     have hw39_3 := hx39_3
     have hw39_2 := hx39_2
     have hw39_1 := hx39_1
     have hw39_0 := hx39_0
     cases e39
     replace hx39_0 := bc_ HB.out hx39_0
     replace hx39_1 := bc_ HB.out hx39_1
     replace hx39_2 := bc_ HB.out hx39_2
     replace hx39_3 := bc_ HB.out hx39_3
     clear hi39_3 hl39_3
     replace p39 := eq_true p39
     replace q39 := eq_true q39
     refine st4_ (n := 8) (ds := []) (be_ hw39_0) (be_ hw39_1) (be_ hw39_2) (be_ hw39_3) (fun hHeld => ?_); refine with_tabW laws_heldNodeS.tab4 laws_heldNodeS.bits4 (fun HT_ HW_ => ?_)
     generalize wr.drew = w27 at HB hx39_0 hx39_1 hx39_2 hx39_3 hHeld ⊢
     refine pu_ (i := 0) (N := some 12) ?_
     refine pu_ (i := 1) (N := some 13) ?_
     refine pu_ (i := 2) (N := some 14) ?_
     refine pu_ (i := 3) (N := some 15) ?_
     refine pu_ (i := 5) (N := some 17) ?_
     refine tk_ (i := 4) (N := some 16) hHeld ?_
     refine on_ (i := 6) (N := some 18) (fun K hK => ?_)
     refine goes_ Try.func18 (by kernel_rfl) rfl #[.int .i64 x1_1] (by rfl) rfl rfl ml_ ?_
     with_reducible refine (laws_markText.calls k1 x1_1 t43 _ A5.out).mono ?_
     rintro e w28 ⟨rfl, hb⟩
     refine ⟨_, rfl, ?_⟩
     replace HB := A_ (below_step bB_ hb)
     clear hb
     refine hK.out _ _ ⟨(be_ hw39_0), (be_ hw39_1), (be_ hw39_2), (be_ hw39_3)⟩ (fun hHeld => ?_)
     clear hK K
     refine no_ (some 18) ?_
     refine pu_ (i := 7) (N := some 19) ?_
     refine done_ (done_of HT_.out (by kernel_rfl)) ?_
     (try clear hHeld)
     try go_wp2
     replace HB := A_ (below_drew1 HB.out)
     have p40 : 0 <= (x5_1 : Int) := od_
     have q40 : x5_1 < (l0.length : Int) := od_
     obtain ⟨ad40, A40_3, c40_3, e40, hx40_0, hx40_1, hx40_2, hx40_3, hl40_3, hi40_3⟩ := at_T26 HR0.out x5_1 p40 q40
     have hw40_3 := hx40_3
     have hw40_2 := hx40_2
     have hw40_1 := hx40_1
     have hw40_0 := hx40_0
     obtain rfl : ad39 = ad40 := (by injection e40)
     replace hx40_0 := bc_ HB.out hx40_0
     replace hx40_1 := bc_ HB.out hx40_1
     replace hx40_2 := bc_ HB.out hx40_2
     replace hx40_3 := bc_ HB.out hx40_3
     clear hi40_3 hl40_3
     replace p40 := eq_true p40
     replace q40 := eq_true q40
     refine st4_ (n := 8) (ds := []) (be_ hw40_0) (be_ hw40_1) (be_ hw40_2) (be_ hw40_3) (fun hHeld => ?_); refine with_tabW laws_heldNodeS.tab7 laws_heldNodeS.bits7 (fun HT_ HW_ => ?_)
     generalize w28.drew = w29 at HB hx40_0 hx40_1 hx40_2 hx40_3 hHeld ⊢
     refine pu_ (i := 0) (N := some 22) ?_
     refine pu_ (i := 1) (N := some 23) ?_
     refine pu_ (i := 2) (N := some 24) ?_
     refine pu_ (i := 3) (N := some 25) ?_
     refine pu_ (i := 5) (N := some 27) ?_
     refine tk_ (i := 4) (N := some 26) hHeld ?_
     refine on_ (i := 6) (N := some 28) (fun K hK => ?_)
     refine goes_ Try.func18 (by kernel_rfl) rfl #[.int .i64 (wrap64 (x1_1 + 1))] (by rfl) rfl rfl ml_ ?_
     with_reducible refine (laws_markText.calls k1 (wrap64 (x1_1 + 1)) t44 _ A7.out).mono ?_
     rintro e w30 ⟨rfl, hb⟩
     refine ⟨_, rfl, ?_⟩
     replace HB := A_ (below_step bB_ hb)
     clear hb
     refine hK.out _ _ ⟨(be_ hw40_0), (be_ hw40_1), (be_ hw40_2), (be_ hw40_3)⟩ (fun hHeld => ?_)
     clear hK K
     refine no_ (some 28) ?_
     refine pu_ (i := 7) (N := some 29) ?_
     refine done_ (done_of HT_.out (by kernel_rfl)) ?_
     (try clear hHeld)
     try go_wp2
     replace HB := A_ (below_drew1 HB.out)
     have p41 : 0 <= (x5_1 : Int) := od_
     have q41 : x5_1 < (l0.length : Int) := od_
     obtain ⟨ad41, A41_3, c41_3, e41, hx41_0, hx41_1, hx41_2, hx41_3, hl41_3, hi41_3⟩ := at_T26 HR0.out x5_1 p41 q41
     have hw41_3 := hx41_3
     have hw41_2 := hx41_2
     have hw41_1 := hx41_1
     have hw41_0 := hx41_0
     obtain rfl : ad39 = ad41 := (by injection e41)
     replace hx41_0 := bc_ HB.out hx41_0
     replace hx41_1 := bc_ HB.out hx41_1
     replace hx41_2 := bc_ HB.out hx41_2
     replace hx41_3 := bc_ HB.out hx41_3
     clear hi41_3 hl41_3
     replace p41 := eq_true p41
     replace q41 := eq_true q41
     refine st4_ (n := 8) (ds := []) (be_ hw41_0) (be_ hw41_1) (be_ hw41_2) (be_ hw41_3) (fun hHeld => ?_); refine with_tabW laws_heldNodeS.tab10 laws_heldNodeS.bits10 (fun HT_ HW_ => ?_)
     generalize w30.drew = w31 at HB hx41_0 hx41_1 hx41_2 hx41_3 hHeld ⊢
     refine pu_ (i := 0) (N := some 32) ?_
     refine pu_ (i := 1) (N := some 33) ?_
     refine pu_ (i := 2) (N := some 34) ?_
     refine pu_ (i := 3) (N := some 35) ?_
     refine pu_ (i := 5) (N := some 37) ?_
     refine tk_ (i := 4) (N := some 36) hHeld ?_
     refine on_ (i := 6) (N := some 38) (fun K hK => ?_)
     refine goes_ Try.func18 (by kernel_rfl) rfl #[.int .i64 (wrap64 ((wrap64 (x1_1 + 1)) + 1))] (by rfl) rfl rfl ml_ ?_
     with_reducible refine (laws_markText.calls k1 (wrap64 ((wrap64 (x1_1 + 1)) + 1)) t45 _ A9.out).mono ?_
     rintro e w32 ⟨rfl, hb⟩
     refine ⟨_, rfl, ?_⟩
     replace HB := A_ (below_step bB_ hb)
     clear hb
     refine hK.out _ _ ⟨(be_ hw41_0), (be_ hw41_1), (be_ hw41_2), (be_ hw41_3)⟩ (fun hHeld => ?_)
     clear hK K
     refine no_ (some 38) ?_
     refine pu_ (i := 7) (N := some 39) ?_
     refine done_ (done_of HT_.out (by kernel_rfl)) ?_
     (try clear hHeld)
     try go_wp2
     go_ret
     exact ⟨rr_, bB_⟩
   rw [if_pos c10] at H
   obtain ⟨c10b0, c10b1⟩ := eT_ c10
   clear c10
   obtain ⟨t46, A11, H⟩ := bo_ H
   (try dsimp only at H)
   by_cases c12 : t46 < 0
   . rw [if_pos c12] at H
     have c12b0 := decide_eq_true c12
     clear c12
     obtain rfl := si_ H
     try go_wp2
     replace HB := A_ (below_drew1 HB.out)
     have p39 : 0 <= (x5_1 : Int) := od_
     have q39 : x5_1 < (l0.length : Int) := od_
     obtain ⟨ad39, A39_3, c39_3, e39, hx39_0, hx39_1, hx39_2, hx39_3, hl39_3, hi39_3⟩ := at_T26 HR0.out x5_1 p39 q39
     have hw39_3 := hx39_3
     have hw39_2 := hx39_2
     have hw39_1 := hx39_1
     have hw39_0 := hx39_0
     cases e39
     replace hx39_0 := bc_ HB.out hx39_0
     replace hx39_1 := bc_ HB.out hx39_1
     replace hx39_2 := bc_ HB.out hx39_2
     replace hx39_3 := bc_ HB.out hx39_3
     clear hi39_3 hl39_3
     replace p39 := eq_true p39
     replace q39 := eq_true q39
     refine st4_ (n := 8) (ds := []) (be_ hw39_0) (be_ hw39_1) (be_ hw39_2) (be_ hw39_3) (fun hHeld => ?_); refine with_tabW laws_heldNodeS.tab4 laws_heldNodeS.bits4 (fun HT_ HW_ => ?_)
     generalize wr.drew = w13 at HB hx39_0 hx39_1 hx39_2 hx39_3 hHeld ⊢
     refine pu_ (i := 0) (N := some 12) ?_
     refine pu_ (i := 1) (N := some 13) ?_
     refine pu_ (i := 2) (N := some 14) ?_
     refine pu_ (i := 3) (N := some 15) ?_
     refine pu_ (i := 5) (N := some 17) ?_
     refine tk_ (i := 4) (N := some 16) hHeld ?_
     refine on_ (i := 6) (N := some 18) (fun K hK => ?_)
     refine goes_ Try.func18 (by kernel_rfl) rfl #[.int .i64 x1_1] (by rfl) rfl rfl ml_ ?_
     with_reducible refine (laws_markText.calls k1 x1_1 t43 _ A5.out).mono ?_
     rintro e w14 ⟨rfl, hb⟩
     refine ⟨_, rfl, ?_⟩
     replace HB := A_ (below_step bB_ hb)
     clear hb
     refine hK.out _ _ ⟨(be_ hw39_0), (be_ hw39_1), (be_ hw39_2), (be_ hw39_3)⟩ (fun hHeld => ?_)
     clear hK K
     refine no_ (some 18) ?_
     refine pu_ (i := 7) (N := some 19) ?_
     refine done_ (done_of HT_.out (by kernel_rfl)) ?_
     (try clear hHeld)
     try go_wp2
     replace HB := A_ (below_drew1 HB.out)
     have p40 : 0 <= (x5_1 : Int) := od_
     have q40 : x5_1 < (l0.length : Int) := od_
     obtain ⟨ad40, A40_3, c40_3, e40, hx40_0, hx40_1, hx40_2, hx40_3, hl40_3, hi40_3⟩ := at_T26 HR0.out x5_1 p40 q40
     have hw40_3 := hx40_3
     have hw40_2 := hx40_2
     have hw40_1 := hx40_1
     have hw40_0 := hx40_0
     obtain rfl : ad39 = ad40 := (by injection e40)
     replace hx40_0 := bc_ HB.out hx40_0
     replace hx40_1 := bc_ HB.out hx40_1
     replace hx40_2 := bc_ HB.out hx40_2
     replace hx40_3 := bc_ HB.out hx40_3
     clear hi40_3 hl40_3
     replace p40 := eq_true p40
     replace q40 := eq_true q40
     refine st4_ (n := 8) (ds := []) (be_ hw40_0) (be_ hw40_1) (be_ hw40_2) (be_ hw40_3) (fun hHeld => ?_); refine with_tabW laws_heldNodeS.tab7 laws_heldNodeS.bits7 (fun HT_ HW_ => ?_)
     generalize w14.drew = w15 at HB hx40_0 hx40_1 hx40_2 hx40_3 hHeld ⊢
     refine pu_ (i := 0) (N := some 22) ?_
     refine pu_ (i := 1) (N := some 23) ?_
     refine pu_ (i := 2) (N := some 24) ?_
     refine pu_ (i := 3) (N := some 25) ?_
     refine pu_ (i := 5) (N := some 27) ?_
     refine tk_ (i := 4) (N := some 26) hHeld ?_
     refine on_ (i := 6) (N := some 28) (fun K hK => ?_)
     refine goes_ Try.func18 (by kernel_rfl) rfl #[.int .i64 (wrap64 (x1_1 + 1))] (by rfl) rfl rfl ml_ ?_
     with_reducible refine (laws_markText.calls k1 (wrap64 (x1_1 + 1)) t44 _ A7.out).mono ?_
     rintro e w16 ⟨rfl, hb⟩
     refine ⟨_, rfl, ?_⟩
     replace HB := A_ (below_step bB_ hb)
     clear hb
     refine hK.out _ _ ⟨(be_ hw40_0), (be_ hw40_1), (be_ hw40_2), (be_ hw40_3)⟩ (fun hHeld => ?_)
     clear hK K
     refine no_ (some 28) ?_
     refine pu_ (i := 7) (N := some 29) ?_
     refine done_ (done_of HT_.out (by kernel_rfl)) ?_
     (try clear hHeld)
     try go_wp2
     replace HB := A_ (below_drew1 HB.out)
     have p41 : 0 <= (x5_1 : Int) := od_
     have q41 : x5_1 < (l0.length : Int) := od_
     obtain ⟨ad41, A41_3, c41_3, e41, hx41_0, hx41_1, hx41_2, hx41_3, hl41_3, hi41_3⟩ := at_T26 HR0.out x5_1 p41 q41
     have hw41_3 := hx41_3
     have hw41_2 := hx41_2
     have hw41_1 := hx41_1
     have hw41_0 := hx41_0
     obtain rfl : ad39 = ad41 := (by injection e41)
     replace hx41_0 := bc_ HB.out hx41_0
     replace hx41_1 := bc_ HB.out hx41_1
     replace hx41_2 := bc_ HB.out hx41_2
     replace hx41_3 := bc_ HB.out hx41_3
     clear hi41_3 hl41_3
     replace p41 := eq_true p41
     replace q41 := eq_true q41
     refine st4_ (n := 8) (ds := []) (be_ hw41_0) (be_ hw41_1) (be_ hw41_2) (be_ hw41_3) (fun hHeld => ?_); refine with_tabW laws_heldNodeS.tab10 laws_heldNodeS.bits10 (fun HT_ HW_ => ?_)
     generalize w16.drew = w17 at HB hx41_0 hx41_1 hx41_2 hx41_3 hHeld ⊢
     refine pu_ (i := 0) (N := some 32) ?_
     refine pu_ (i := 1) (N := some 33) ?_
     refine pu_ (i := 2) (N := some 34) ?_
     refine pu_ (i := 3) (N := some 35) ?_
     refine pu_ (i := 5) (N := some 37) ?_
     refine tk_ (i := 4) (N := some 36) hHeld ?_
     refine on_ (i := 6) (N := some 38) (fun K hK => ?_)
     refine goes_ Try.func18 (by kernel_rfl) rfl #[.int .i64 (wrap64 ((wrap64 (x1_1 + 1)) + 1))] (by rfl) rfl rfl ml_ ?_
     with_reducible refine (laws_markText.calls k1 (wrap64 ((wrap64 (x1_1 + 1)) + 1)) t45 _ A9.out).mono ?_
     rintro e w18 ⟨rfl, hb⟩
     refine ⟨_, rfl, ?_⟩
     replace HB := A_ (below_step bB_ hb)
     clear hb
     refine hK.out _ _ ⟨(be_ hw41_0), (be_ hw41_1), (be_ hw41_2), (be_ hw41_3)⟩ (fun hHeld => ?_)
     clear hK K
     refine no_ (some 38) ?_
     refine pu_ (i := 7) (N := some 39) ?_
     refine done_ (done_of HT_.out (by kernel_rfl)) ?_
     (try clear hHeld)
     have p42 : 0 <= (x5_1 : Int) := od_
     have q42 : x5_1 < (l0.length : Int) := od_
     obtain ⟨ad42, A42_3, c42_3, e42, hx42_0, hx42_1, hx42_2, hx42_3, hl42_3, hi42_3⟩ := at_T26 HR0.out x5_1 p42 q42
     obtain rfl : ad39 = ad42 := (by injection e42)
     replace hx42_0 := bc_ HB.out hx42_0
     replace hx42_1 := bc_ HB.out hx42_1
     replace hx42_2 := bc_ HB.out hx42_2
     replace hx42_3 := bc_ HB.out hx42_3
     have HR42_3 := A_ hi42_3
     have HC42_3 := A_ hl42_3
     clear hi42_3 hl42_3
     replace p42 := eq_true p42
     replace q42 := eq_true q42
     try go_wp2_with (first | ((with_reducible refine gc_ (f := 20) rfl ?_); refine gL_ (some 48) Try.func20 #[.slice A42_3 ((rd_T26 l0 x5_1).f3).length c42_3, .int .i64 (wrap64 ((wrap64 ((wrap64 (x1_1 + 1)) + 1)) + 1))] ?_; (with_reducible refine (ih k1 (by have := HK1.out; omega) _ _ ((rd_T26 l0 x5_1).f3) (wrap64 ((wrap64 ((wrap64 (x1_1 + 1)) + 1)) + 1)) t46 _ ?s1 ?s2 A11.out).mono ?_); (case s1 => exact cC_ (Kd.C_below HR42_3.out HB.out)); (case s2 => exact HC42_3.out); rintro e w19 ⟨rfl, hb⟩; refine ⟨_, rfl, ?_⟩; replace HB := A_ (below_step bB_ hb); clear hb))
     go_ret
     exact ⟨rr_, bB_⟩
   rw [if_neg c12] at H
   have c12b0 := decide_eq_false c12
   clear c12
   have H' := A_ H
   clear H
   try go_wp2
   replace HB := A_ (below_drew1 HB.out)
   have p39 : 0 <= (x5_1 : Int) := od_
   have q39 : x5_1 < (l0.length : Int) := od_
   obtain ⟨ad39, A39_3, c39_3, e39, hx39_0, hx39_1, hx39_2, hx39_3, hl39_3, hi39_3⟩ := at_T26 HR0.out x5_1 p39 q39
   have hw39_3 := hx39_3
   have hw39_2 := hx39_2
   have hw39_1 := hx39_1
   have hw39_0 := hx39_0
   cases e39
   replace hx39_0 := bc_ HB.out hx39_0
   replace hx39_1 := bc_ HB.out hx39_1
   replace hx39_2 := bc_ HB.out hx39_2
   replace hx39_3 := bc_ HB.out hx39_3
   clear hi39_3 hl39_3
   replace p39 := eq_true p39
   replace q39 := eq_true q39
   refine st4_ (n := 8) (ds := []) (be_ hw39_0) (be_ hw39_1) (be_ hw39_2) (be_ hw39_3) (fun hHeld => ?_); refine with_tabW laws_heldNodeS.tab4 laws_heldNodeS.bits4 (fun HT_ HW_ => ?_)
   generalize wr.drew = w20 at HB hx39_0 hx39_1 hx39_2 hx39_3 hHeld ⊢
   refine pu_ (i := 0) (N := some 12) ?_
   refine pu_ (i := 1) (N := some 13) ?_
   refine pu_ (i := 2) (N := some 14) ?_
   refine pu_ (i := 3) (N := some 15) ?_
   refine pu_ (i := 5) (N := some 17) ?_
   refine tk_ (i := 4) (N := some 16) hHeld ?_
   refine on_ (i := 6) (N := some 18) (fun K hK => ?_)
   refine goes_ Try.func18 (by kernel_rfl) rfl #[.int .i64 x1_1] (by rfl) rfl rfl ml_ ?_
   with_reducible refine (laws_markText.calls k1 x1_1 t43 _ A5.out).mono ?_
   rintro e w21 ⟨rfl, hb⟩
   refine ⟨_, rfl, ?_⟩
   replace HB := A_ (below_step bB_ hb)
   clear hb
   refine hK.out _ _ ⟨(be_ hw39_0), (be_ hw39_1), (be_ hw39_2), (be_ hw39_3)⟩ (fun hHeld => ?_)
   clear hK K
   refine no_ (some 18) ?_
   refine pu_ (i := 7) (N := some 19) ?_
   refine done_ (done_of HT_.out (by kernel_rfl)) ?_
   (try clear hHeld)
   try go_wp2
   replace HB := A_ (below_drew1 HB.out)
   have p40 : 0 <= (x5_1 : Int) := od_
   have q40 : x5_1 < (l0.length : Int) := od_
   obtain ⟨ad40, A40_3, c40_3, e40, hx40_0, hx40_1, hx40_2, hx40_3, hl40_3, hi40_3⟩ := at_T26 HR0.out x5_1 p40 q40
   have hw40_3 := hx40_3
   have hw40_2 := hx40_2
   have hw40_1 := hx40_1
   have hw40_0 := hx40_0
   obtain rfl : ad39 = ad40 := (by injection e40)
   replace hx40_0 := bc_ HB.out hx40_0
   replace hx40_1 := bc_ HB.out hx40_1
   replace hx40_2 := bc_ HB.out hx40_2
   replace hx40_3 := bc_ HB.out hx40_3
   clear hi40_3 hl40_3
   replace p40 := eq_true p40
   replace q40 := eq_true q40
   refine st4_ (n := 8) (ds := []) (be_ hw40_0) (be_ hw40_1) (be_ hw40_2) (be_ hw40_3) (fun hHeld => ?_); refine with_tabW laws_heldNodeS.tab7 laws_heldNodeS.bits7 (fun HT_ HW_ => ?_)
   generalize w21.drew = w22 at HB hx40_0 hx40_1 hx40_2 hx40_3 hHeld ⊢
   refine pu_ (i := 0) (N := some 22) ?_
   refine pu_ (i := 1) (N := some 23) ?_
   refine pu_ (i := 2) (N := some 24) ?_
   refine pu_ (i := 3) (N := some 25) ?_
   refine pu_ (i := 5) (N := some 27) ?_
   refine tk_ (i := 4) (N := some 26) hHeld ?_
   refine on_ (i := 6) (N := some 28) (fun K hK => ?_)
   refine goes_ Try.func18 (by kernel_rfl) rfl #[.int .i64 (wrap64 (x1_1 + 1))] (by rfl) rfl rfl ml_ ?_
   with_reducible refine (laws_markText.calls k1 (wrap64 (x1_1 + 1)) t44 _ A7.out).mono ?_
   rintro e w23 ⟨rfl, hb⟩
   refine ⟨_, rfl, ?_⟩
   replace HB := A_ (below_step bB_ hb)
   clear hb
   refine hK.out _ _ ⟨(be_ hw40_0), (be_ hw40_1), (be_ hw40_2), (be_ hw40_3)⟩ (fun hHeld => ?_)
   clear hK K
   refine no_ (some 28) ?_
   refine pu_ (i := 7) (N := some 29) ?_
   refine done_ (done_of HT_.out (by kernel_rfl)) ?_
   (try clear hHeld)
   try go_wp2
   replace HB := A_ (below_drew1 HB.out)
   have p41 : 0 <= (x5_1 : Int) := od_
   have q41 : x5_1 < (l0.length : Int) := od_
   obtain ⟨ad41, A41_3, c41_3, e41, hx41_0, hx41_1, hx41_2, hx41_3, hl41_3, hi41_3⟩ := at_T26 HR0.out x5_1 p41 q41
   have hw41_3 := hx41_3
   have hw41_2 := hx41_2
   have hw41_1 := hx41_1
   have hw41_0 := hx41_0
   obtain rfl : ad39 = ad41 := (by injection e41)
   replace hx41_0 := bc_ HB.out hx41_0
   replace hx41_1 := bc_ HB.out hx41_1
   replace hx41_2 := bc_ HB.out hx41_2
   replace hx41_3 := bc_ HB.out hx41_3
   clear hi41_3 hl41_3
   replace p41 := eq_true p41
   replace q41 := eq_true q41
   refine st4_ (n := 8) (ds := []) (be_ hw41_0) (be_ hw41_1) (be_ hw41_2) (be_ hw41_3) (fun hHeld => ?_); refine with_tabW laws_heldNodeS.tab10 laws_heldNodeS.bits10 (fun HT_ HW_ => ?_)
   generalize w23.drew = w24 at HB hx41_0 hx41_1 hx41_2 hx41_3 hHeld ⊢
   refine pu_ (i := 0) (N := some 32) ?_
   refine pu_ (i := 1) (N := some 33) ?_
   refine pu_ (i := 2) (N := some 34) ?_
   refine pu_ (i := 3) (N := some 35) ?_
   refine pu_ (i := 5) (N := some 37) ?_
   refine tk_ (i := 4) (N := some 36) hHeld ?_
   refine on_ (i := 6) (N := some 38) (fun K hK => ?_)
   refine goes_ Try.func18 (by kernel_rfl) rfl #[.int .i64 (wrap64 ((wrap64 (x1_1 + 1)) + 1))] (by rfl) rfl rfl ml_ ?_
   with_reducible refine (laws_markText.calls k1 (wrap64 ((wrap64 (x1_1 + 1)) + 1)) t45 _ A9.out).mono ?_
   rintro e w25 ⟨rfl, hb⟩
   refine ⟨_, rfl, ?_⟩
   replace HB := A_ (below_step bB_ hb)
   clear hb
   refine hK.out _ _ ⟨(be_ hw41_0), (be_ hw41_1), (be_ hw41_2), (be_ hw41_3)⟩ (fun hHeld => ?_)
   clear hK K
   refine no_ (some 38) ?_
   refine pu_ (i := 7) (N := some 39) ?_
   refine done_ (done_of HT_.out (by kernel_rfl)) ?_
   (try clear hHeld)
   have p42 : 0 <= (x5_1 : Int) := od_
   have q42 : x5_1 < (l0.length : Int) := od_
   obtain ⟨ad42, A42_3, c42_3, e42, hx42_0, hx42_1, hx42_2, hx42_3, hl42_3, hi42_3⟩ := at_T26 HR0.out x5_1 p42 q42
   obtain rfl : ad39 = ad42 := (by injection e42)
   replace hx42_0 := bc_ HB.out hx42_0
   replace hx42_1 := bc_ HB.out hx42_1
   replace hx42_2 := bc_ HB.out hx42_2
   replace hx42_3 := bc_ HB.out hx42_3
   have HR42_3 := A_ hi42_3
   have HC42_3 := A_ hl42_3
   clear hi42_3 hl42_3
   replace p42 := eq_true p42
   replace q42 := eq_true q42
   try go_wp2_with (first | ((with_reducible refine gc_ (f := 20) rfl ?_); refine gL_ (some 48) Try.func20 #[.slice A42_3 ((rd_T26 l0 x5_1).f3).length c42_3, .int .i64 (wrap64 ((wrap64 ((wrap64 (x1_1 + 1)) + 1)) + 1))] ?_; (with_reducible refine (ih k1 (by have := HK1.out; omega) _ _ ((rd_T26 l0 x5_1).f3) (wrap64 ((wrap64 ((wrap64 (x1_1 + 1)) + 1)) + 1)) t46 _ ?s1 ?s2 A11.out).mono ?_); (case s1 => exact cC_ (Kd.C_below HR42_3.out HB.out)); (case s2 => exact HC42_3.out); rintro e w26 ⟨rfl, hb⟩; refine ⟨_, rfl, ?_⟩; replace HB := A_ (below_step bB_ hb); clear hb))
   go_roundg k1
   case measure => have := HK1.out; omega
   case rel => exact ⟨(t46), (wrap64 (x5_1 + 1)), rs_, rs_, H', ⟨by have := HK1.out; omega⟩, ⟨bB_⟩⟩
def laws_heldNode.f (k : Nat) (a0_0 : ByteArray) (a0_1 : ByteArray) (a0_2 : ByteArray) (l0_3 : List (S26)) (a1 : Int) : Option (Int) := (laws_heldNodeS.f k l0_3 a1).bind fun t217 => (if t217 < 0 then (some (-1)) else (some t217))
set_option maxHeartbeats 8000000 in
set_option maxRecDepth 100000 in
theorem laws_heldNode.calls (k : Nat) (a0_0 : ByteArray) (a0_1 : ByteArray) (a0_2 : ByteArray) (A0_3 : Option Addr) (c0_3 : Nat) (l0_3 : List (S26)) (a1 : Int) (r : Int) (w : World) (hr0_3 : Kd.C k26 w A0_3 l0_3.length l0_3) (hc0_3 : l0_3.length <= c0_3) (h : laws_heldNode.f k a0_0 a0_1 a0_2 l0_3 a1 = some r) :
 Calls Try.prog 12 #[.agg #[.string a0_0, .string a0_1, .string a0_2, .slice A0_3 l0_3.length c0_3], .int .i64 a1] w fun e w' => e = .returned (.int .i64 r) /\ Below w.heap.size w w' := by
 have hu26 := Try.underlying26
 have HR0_3 := A_ hr0_3
 have HC0_3 := A_ hc0_3
 clear hr0_3 hc0_3
 have HB := A_ (Below.refl w.heap.size w)
 have H : ((laws_heldNodeS.f k l0_3 a1).bind fun t12 => (if t12 < 0 then (some (-1)) else (some t12))) = some r := h
 clear h
 obtain ⟨t12, A3, H⟩ := bo_ H
 (try dsimp only at H)
 by_cases c4 : t12 < 0
 . rw [if_pos c4] at H
   have c4b0 := decide_eq_true c4
   clear c4
   obtain rfl := si_ H
   go_enter Try.func12, Try.ntmps12
   go_wp2_with (first | ((with_reducible refine gd_ (N := 2) rfl ?_); refine bx_ (N := 2) (cs := #[.string a0_0, .string a0_1, .string a0_2, .slice A0_3 l0_3.length c0_3]) (t := 26) ?_; intro gb11 hg w5 hbox hb; have BK11 := A_ (hbox); have GW11 := A_ (ge_ hg bB_ : w.heap.size <= gb11); have GE11 := A_ (ge_ hg bB_ : w.heap.size <= gb11); replace HB := A_ (below_step bB_ hb); clear hb hbox hg; obtain ⟨hcz6_0, hcz6_1, hcz6_2, hcz6_3, hfz6_0, hfz6_1, hfz6_2, hfz6_3⟩ := cz4_ BK11.out) | ((with_reducible refine gc_ (f := 20) rfl ?_); refine gL_ (some 8) Try.func20 #[.slice A0_3 l0_3.length c0_3, .int .i64 a1] ?_; (with_reducible refine (laws_heldNodeS.calls k _ _ l0_3 a1 t12 _ ?s1 ?s2 A3.out).mono ?_); (case s1 => exact cC_ (Kd.C_below HR0_3.out HB.out)); (case s2 => exact HC0_3.out); rintro e w7 ⟨rfl, hb⟩; refine ⟨_, rfl, ?_⟩; replace HB := A_ (below_step (bG_ GE11.out) hb); clear hb))
   go_ret
   exact ⟨rr_, bG_ GE11.out⟩
 rw [if_neg c4] at H
 have c4b0 := decide_eq_false c4
 clear c4
 obtain rfl := si_ H
 go_enter Try.func12, Try.ntmps12
 go_wp2_with (first | ((with_reducible refine gd_ (N := 2) rfl ?_); refine bx_ (N := 2) (cs := #[.string a0_0, .string a0_1, .string a0_2, .slice A0_3 l0_3.length c0_3]) (t := 26) ?_; intro gb11 hg w8 hbox hb; have BK11 := A_ (hbox); have GW11 := A_ (ge_ hg bB_ : w.heap.size <= gb11); have GE11 := A_ (ge_ hg bB_ : w.heap.size <= gb11); replace HB := A_ (below_step bB_ hb); clear hb hbox hg; obtain ⟨hcz9_0, hcz9_1, hcz9_2, hcz9_3, hfz9_0, hfz9_1, hfz9_2, hfz9_3⟩ := cz4_ BK11.out) | ((with_reducible refine gc_ (f := 20) rfl ?_); refine gL_ (some 8) Try.func20 #[.slice A0_3 l0_3.length c0_3, .int .i64 a1] ?_; (with_reducible refine (laws_heldNodeS.calls k _ _ l0_3 a1 t12 _ ?s1 ?s2 A3.out).mono ?_); (case s1 => exact cC_ (Kd.C_below HR0_3.out HB.out)); (case s2 => exact HC0_3.out); rintro e w10 ⟨rfl, hb⟩; refine ⟨_, rfl, ?_⟩; replace HB := A_ (below_step (bG_ GE11.out) hb); clear hb))
 go_ret
 exact ⟨rr_, bG_ GE11.out⟩
end Go.Proofs.Ytegkokdncakadaa.Q

/- The law FnExactSetsNode: its way to 'true', and the walk over it. No condition. -/
set_option linter.unusedVariables false
set_option linter.unusedSimpArgs false
namespace Go.Proofs.Ytegkokdncakadaa.Q
open Go.RowKit Go.Proofs.YtegkokdncakadaaW.PrintWords Go.Proofs.YtegkokdncakadaaW.PrintLast
def laws_FnExactSetsNode.f (k : Nat) (l0 : List (S39)) : Option Bool := ((laws_szSetS.f k l0 1048576).bind fun t1 => (if t1 < 0 then (some true) else ((laws_toSetS.f k l0).bind fun t3 => ((spec_SetsNode.f k t3).bind fun bt6 => ((laws_toSetS.f k l0).bind fun t12 => ((impl_SetsNode.f k t12).bind fun bt15 => ((laws_eqNode.f k bt15.1 bt15.2.1 bt15.2.2.1 bt15.2.2.2 bt6.1 bt6.2.1 bt6.2.2.1 bt6.2.2.2).bind fun t21 => (if t21 = true then ((laws_toSetS.f k l0).bind fun t23 => ((laws_eqSetS.f k t12 t23).bind fun t26 => (if t26 = true then ((laws_markSetS.f k t12 1).bind fun bt28 => (if bt28.1 < 0 then none else ((laws_eqNode.f k bt15.1 bt15.2.1 bt15.2.2.1 bt15.2.2.2 bt6.1 bt6.2.1 bt6.2.2.1 bt6.2.2.2).bind fun t32 => (if t32 = true then ((laws_markNode.f k bt15.1 bt15.2.1 bt15.2.2.1 bt15.2.2.2 1).bind fun bt34 => ((laws_heldNode.f k bt15.1 bt15.2.1 bt15.2.2.1 bt34.2 1).bind fun t38 => (if t38 < 0 then none else (if t38 = bt34.1 then ((laws_toSetS.f k l0).bind fun t40 => ((impl_SetsNode.f k t40).bind fun bt43 => ((laws_eqNode.f k bt43.1 bt43.2.1 bt43.2.2.1 bt43.2.2.2 bt6.1 bt6.2.1 bt6.2.2.1 bt6.2.2.2).bind fun t49 => (if t49 = true then ((laws_heldNode.f k bt15.1 bt15.2.1 bt15.2.2.1 bt34.2 1).bind fun t51 => (if t51 < 0 then none else (if t51 = bt34.1 then (some true) else none))) else none)))) else none)))) else none)))) else none))) else none))))))))
set_option maxHeartbeats 16000000 in
set_option maxRecDepth 100000 in
theorem laws_FnExactSetsNode.calls (k : Nat) (A0 : Option Addr) (c0 : Nat) (l0 : List (S39)) (r : Bool) (w : World) (hr0 : Kd.C k39 w A0 l0.length l0) (hc0 : l0.length <= c0) (h : laws_FnExactSetsNode.f k l0 = some r) :
 Calls Try.prog 3 #[.slice A0 l0.length c0] w fun e w' => e = .returned (.bool r) /\ Below w.heap.size w w' := by
 have HR0 := A_ hr0
 have HC0 := A_ hc0
 clear hr0 hc0
 have HB := A_ (Below.refl w.heap.size w)
 have H : ((laws_szSetS.f k l0 1048576).bind fun t1 => (if t1 < 0 then (some true) else ((laws_toSetS.f k l0).bind fun t3 => ((spec_SetsNode.f k t3).bind fun bt6 => ((laws_toSetS.f k l0).bind fun t12 => ((impl_SetsNode.f k t12).bind fun bt15 => ((laws_eqNode.f k bt15.1 bt15.2.1 bt15.2.2.1 bt15.2.2.2 bt6.1 bt6.2.1 bt6.2.2.1 bt6.2.2.2).bind fun t21 => (if t21 = true then ((laws_toSetS.f k l0).bind fun t23 => ((laws_eqSetS.f k t12 t23).bind fun t26 => (if t26 = true then ((laws_markSetS.f k t12 1).bind fun bt28 => (if bt28.1 < 0 then none else ((laws_eqNode.f k bt15.1 bt15.2.1 bt15.2.2.1 bt15.2.2.2 bt6.1 bt6.2.1 bt6.2.2.1 bt6.2.2.2).bind fun t32 => (if t32 = true then ((laws_markNode.f k bt15.1 bt15.2.1 bt15.2.2.1 bt15.2.2.2 1).bind fun bt34 => ((laws_heldNode.f k bt15.1 bt15.2.1 bt15.2.2.1 bt34.2 1).bind fun t38 => (if t38 < 0 then none else (if t38 = bt34.1 then ((laws_toSetS.f k l0).bind fun t40 => ((impl_SetsNode.f k t40).bind fun bt43 => ((laws_eqNode.f k bt43.1 bt43.2.1 bt43.2.2.1 bt43.2.2.2 bt6.1 bt6.2.1 bt6.2.2.1 bt6.2.2.2).bind fun t49 => (if t49 = true then ((laws_heldNode.f k bt15.1 bt15.2.1 bt15.2.2.1 bt34.2 1).bind fun t51 => (if t51 < 0 then none else (if t51 = bt34.1 then (some true) else none))) else none)))) else none)))) else none)))) else none))) else none)))))))) = some r := h
 clear h
 replace H := Option.bind_eq_some_iff.mp H
 obtain ⟨t1, A0_, H⟩ := H
 (try dsimp only at H)
 have FA2 := A_ A0_
 clear A0_
 by_cases c53 : t1 < 0
 . rw [if_pos c53] at H
   have c53b0 := decide_eq_true c53
   clear c53
   obtain rfl := si_ H
   go_enter Try.func3, Try.ntmps3
   go_wp2_with (first | ((with_reducible refine gc_ (f := 4) rfl ?_); refine gL_ (some 13) Try.func4 #[.slice A0 l0.length c0, .int .i64 1048576] ?_; (with_reducible refine (laws_szSetS.calls k A0 c0 l0 1048576 t1 _ ?s1 ?s2 FA2.out).mono ?_); (case s1 => exact cC_ (Kd.C_below HR0.out HB.out)); (case s2 => exact HC0.out); rintro e w_1 ⟨rfl, hb_⟩; refine ⟨_, rfl, ?_⟩; have n0_ : Aside0 (w.heap.size <= w_1.heap.size) := ⟨Nat.le_trans (below_size bR_) (below_size hb_)⟩; have m0_ := A_ (below_step bB_ hb_); clear HB; have HZ1 := n0_; have HB := m0_; clear n0_ m0_; (try clear hb_); (try clear hk_); (try clear hw_); (try clear hg_); (try clear hbox_); (try clear ho0_)))
   go_ret
   exact ⟨rfl, bB_⟩
 rw [if_neg c53] at H
 have c53b0 := decide_eq_false c53
 clear c53
 replace H := Option.bind_eq_some_iff.mp H
 obtain ⟨t3, A0_, H⟩ := H
 (try dsimp only at H)
 have FA4 := A_ A0_
 clear A0_
 replace H := Option.bind_eq_some_iff.mp H
 obtain ⟨⟨t6, t7, t8, t9⟩, A0_, H⟩ := H
 (try dsimp only at H)
 have FA10 := A_ A0_
 clear A0_
 replace H := Option.bind_eq_some_iff.mp H
 obtain ⟨t12, A0_, H⟩ := H
 (try dsimp only at H)
 have FA13 := A_ A0_
 clear A0_
 replace H := Option.bind_eq_some_iff.mp H
 obtain ⟨⟨t15, t16, t17, t18⟩, A0_, H⟩ := H
 (try dsimp only at H)
 have FA19 := A_ A0_
 clear A0_
 replace H := Option.bind_eq_some_iff.mp H
 obtain ⟨t21, A0_, H⟩ := H
 (try dsimp only at H)
 have FA22 := A_ A0_
 clear A0_
 by_cases c54 : t21 = true
 rotate_left
 . rw [if_neg c54] at H
   exact absurd H (by simp)
 subst c54
 rw [if_pos rfl] at H
 replace H := Option.bind_eq_some_iff.mp H
 obtain ⟨t23, A0_, H⟩ := H
 (try dsimp only at H)
 have FA24 := A_ A0_
 clear A0_
 replace H := Option.bind_eq_some_iff.mp H
 obtain ⟨t26, A0_, H⟩ := H
 (try dsimp only at H)
 have FA27 := A_ A0_
 clear A0_
 by_cases c55 : t26 = true
 rotate_left
 . rw [if_neg c55] at H
   exact absurd H (by simp)
 subst c55
 rw [if_pos rfl] at H
 replace H := Option.bind_eq_some_iff.mp H
 obtain ⟨⟨t28, t29⟩, A0_, H⟩ := H
 (try dsimp only at H)
 have FA30 := A_ A0_
 clear A0_
 by_cases c56 : t28 < 0
 . rw [if_pos c56] at H
   exact absurd H (by simp)
 rw [if_neg c56] at H
 have c56b0 := decide_eq_false c56
 clear c56
 replace H := Option.bind_eq_some_iff.mp H
 obtain ⟨t32, A0_, H⟩ := H
 (try dsimp only at H)
 have FA33 := A_ A0_
 clear A0_
 by_cases c57 : t32 = true
 rotate_left
 . rw [if_neg c57] at H
   exact absurd H (by simp)
 subst c57
 rw [if_pos rfl] at H
 replace H := Option.bind_eq_some_iff.mp H
 obtain ⟨⟨t34, t35⟩, A0_, H⟩ := H
 (try dsimp only at H)
 have FA36 := A_ A0_
 clear A0_
 replace H := Option.bind_eq_some_iff.mp H
 obtain ⟨t38, A0_, H⟩ := H
 (try dsimp only at H)
 have FA39 := A_ A0_
 clear A0_
 by_cases c58 : t38 < 0
 . rw [if_pos c58] at H
   exact absurd H (by simp)
 rw [if_neg c58] at H
 have c58b0 := decide_eq_false c58
 clear c58
 by_cases c59 : t38 = t34
 rotate_left
 . rw [if_neg c59] at H
   exact absurd H (by simp)
 rw [if_pos c59] at H
 obtain ⟨c59b0, c59b1⟩ := eT_ c59
 clear c59
 replace H := Option.bind_eq_some_iff.mp H
 obtain ⟨t40, A0_, H⟩ := H
 (try dsimp only at H)
 have FA41 := A_ A0_
 clear A0_
 replace H := Option.bind_eq_some_iff.mp H
 obtain ⟨⟨t43, t44, t45, t46⟩, A0_, H⟩ := H
 (try dsimp only at H)
 have FA47 := A_ A0_
 clear A0_
 replace H := Option.bind_eq_some_iff.mp H
 obtain ⟨t49, A0_, H⟩ := H
 (try dsimp only at H)
 have FA50 := A_ A0_
 clear A0_
 by_cases c60 : t49 = true
 rotate_left
 . rw [if_neg c60] at H
   exact absurd H (by simp)
 subst c60
 rw [if_pos rfl] at H
 replace H := Option.bind_eq_some_iff.mp H
 obtain ⟨t51, A0_, H⟩ := H
 (try dsimp only at H)
 have FA52 := A_ A0_
 clear A0_
 by_cases c61 : t51 < 0
 . rw [if_pos c61] at H
   exact absurd H (by simp)
 rw [if_neg c61] at H
 have c61b0 := decide_eq_false c61
 clear c61
 by_cases c62 : t51 = t34
 rotate_left
 . rw [if_neg c62] at H
   exact absurd H (by simp)
 rw [if_pos c62] at H
 obtain ⟨c62b0, c62b1⟩ := eT_ c62
 clear c62
 obtain rfl := si_ H
 go_enter Try.func3, Try.ntmps3
 go_wp2_with (first | ((with_reducible refine gc_ (f := 4) rfl ?_); refine gL_ (some 13) Try.func4 #[.slice A0 l0.length c0, .int .i64 1048576] ?_; (with_reducible refine (laws_szSetS.calls k A0 c0 l0 1048576 t1 _ ?s1 ?s2 FA2.out).mono ?_); (case s1 => exact cC_ (Kd.C_below HR0.out HB.out)); (case s2 => exact HC0.out); rintro e w_1 ⟨rfl, hb_⟩; refine ⟨_, rfl, ?_⟩; have n0_ : Aside0 (w.heap.size <= w_1.heap.size) := ⟨Nat.le_trans (below_size bR_) (below_size hb_)⟩; have m0_ := A_ (below_step bB_ hb_); clear HB; have HZ1 := n0_; have HB := m0_; clear n0_ m0_; (try clear hb_); (try clear hk_); (try clear hw_); (try clear hg_); (try clear hbox_); (try clear ho0_)) | ((with_reducible refine gc_ (f := 6) rfl ?_); refine gL_ (some 17) Try.func6 #[.slice A0 l0.length c0] ?_; (with_reducible refine (laws_toSetS.calls k A0 c0 l0 t3 _ ?s1 ?s2 FA4.out).mono ?_); (case s1 => exact cC_ (Kd.C_below HR0.out HB.out)); (case s2 => exact HC0.out); rintro e w_2 ⟨v63, rfl, ho0_, hb_⟩; refine ⟨_, rfl, ?_⟩; have n0_ : Aside0 (w_1.heap.size <= w_2.heap.size) := ⟨Nat.le_trans (below_size bR_) (below_size hb_)⟩; have m0_ := A_ (below_step bB_ hb_); have m1_ := A_ (show Kd.R k42 42 w_2 w.heap.size (fun k_ => w_1.heap.size <= k_ /\ k_ < w_2.heap.size) v63 t3 from Kd.R_mono (Kd.R_lower (Kd.R_bound ho0_) (below_size bB_)) (fun k_ h_ => ⟨Nat.le_trans (below_size bR_) h_.2.1, h_.2.2.1⟩)); clear HB; have HZ2 := n0_; have HB := m0_; have HO5 := m1_; clear n0_ m0_ m1_; (try clear hb_); (try clear hk_); (try clear hw_); (try clear hg_); (try clear hbox_); (try clear ho0_); (try clear ho1_); obtain ⟨Ao5, co5, eo_⟩ := Kd.R_slice HO5.out; subst eo_) | ((with_reducible refine gc_ (f := 5) rfl ?_); refine gL_ (some 18) Try.func5 #[.slice Ao5 t3.length co5] ?_; (with_reducible refine (spec_SetsNode.calls k Ao5 co5 t3 t6 t7 t8 t9 _ ?s1 ?s2 FA10.out).mono ?_); (case s1 => exact cC_ (Kd.R_reads' HO5.out).2.2); (case s2 => exact (Kd.R_reads' HO5.out).2.1); rintro e w_3 ⟨v64, rfl, ho0_, hb_⟩; refine ⟨_, rfl, ?_⟩; have n0_ : Aside0 (w_2.heap.size <= w_3.heap.size) := ⟨Nat.le_trans (below_size bR_) (below_size hb_)⟩; have m0_ := A_ (Kd.R_below (vR_ HO5.out) hb_); have m1_ := A_ (below_step bB_ hb_); have m2_ := A_ (show Kd.S kA 26 w_3 w.heap.size (fun k_ => w_2.heap.size <= k_ /\ k_ < w_3.heap.size) v64 t9 from Kd.S_mono (Kd.S_lower (Kd.S_bound ho0_) (below_size bB_)) (fun k_ h_ => ⟨Nat.le_trans (below_size bR_) h_.2.1, h_.2.2.1⟩)); clear HO5 HB; have HZ3 := n0_; have HB := m1_; have HO11 := m2_; clear n0_ m0_ m1_ m2_; (try clear hb_); (try clear hk_); (try clear hw_); (try clear hg_); (try clear hbox_); (try clear ho0_); (try clear ho1_); obtain ⟨Ao11, co11, eo_⟩ := Kd.S_slice HO11.out; subst eo_) | ((with_reducible refine gd_ (N := 4) rfl ?_); refine bx_ (N := 4) (cs := #[.string (⟨#[]⟩ : ByteArray), .string (⟨#[]⟩ : ByteArray), .string (⟨#[]⟩ : ByteArray), .slice none 0 0]) (t := 26) ?_; intro gb4 hg_ w_4 hbox_ hb_; have n0_ : Aside0 (w_3.heap.size <= w_4.heap.size) := ⟨Nat.le_trans (below_size bR_) (below_size hb_)⟩; have m0_ := A_ (Kd.S_below (vS_ HO11.out) hb_); have m1_ := A_ (below_step bB_ hb_); have m2_ := A_ hbox_; have m3_ := A_ (show w_3.heap.size <= gb4 /\ gb4 < w_4.heap.size from ⟨by rw [hg_]; exact (below_size bR_), blk_lt hbox_⟩); have m4_ := A_ (show w.heap.size <= gb4 from by rw [hg_]; exact below_size bB_); clear HO11 HB; have HZ4 := n0_; have HO11 := m0_; have HB := m1_; have BK4 := m2_; have HG4 := m3_; have GE4 := m4_; clear n0_ m0_ m1_ m2_ m3_ m4_; (try clear hb_); (try clear hk_); (try clear hw_); (try clear hg_); (try clear hbox_); have hx4_0 : w_4.cell? ⟨gb4, 0, none⟩ = some (.string (⟨#[]⟩ : ByteArray)) := bl_ BK4.out 0; have hf4_0 := blk_frozen BK4.out 0; have hx4_1 : w_4.cell? ⟨gb4, 1, none⟩ = some (.string (⟨#[]⟩ : ByteArray)) := bl_ BK4.out 1; have hf4_1 := blk_frozen BK4.out 1; have hx4_2 : w_4.cell? ⟨gb4, 2, none⟩ = some (.string (⟨#[]⟩ : ByteArray)) := bl_ BK4.out 2; have hf4_2 := blk_frozen BK4.out 2; have hx4_3 : w_4.cell? ⟨gb4, 3, none⟩ = some (.slice none 0 0) := bl_ BK4.out 3; have hf4_3 := blk_frozen BK4.out 3) | ((with_reducible refine gc_ (f := 6) rfl ?_); generalize hw0_ : ((((w_4.setCell ⟨gb4, 0, none⟩ (.string t6)).setCell ⟨gb4, 1, none⟩ (.string t7)).setCell ⟨gb4, 2, none⟩ (.string t8)).setCell ⟨gb4, 3, none⟩ (.slice Ao11 t9.length co11)) = w_5; have hw_ : w_5 = ((((w_4.setCell ⟨gb4, 0, none⟩ (.string t6)).setCell ⟨gb4, 1, none⟩ (.string t7)).setCell ⟨gb4, 2, none⟩ (.string t8)).setCell ⟨gb4, 3, none⟩ (.slice Ao11 t9.length co11)) := hw0_.symm; clear hw0_; have hk_ : Kept w_4 w_5 (fun k_ => k_ = gb4) := (by rw [hw_]; exact Kept.setCell (S := fun k_ => k_ = gb4) (p := ⟨gb4, 3, none⟩) (Kept.setCell (S := fun k_ => k_ = gb4) (p := ⟨gb4, 2, none⟩) (Kept.setCell (S := fun k_ => k_ = gb4) (p := ⟨gb4, 1, none⟩) (Kept.setCell (S := fun k_ => k_ = gb4) (p := ⟨gb4, 0, none⟩) (Kept.refl _ _) (.inl rfl) _) (.inl rfl) _) (.inl rfl) _) (.inl rfl) _); have n0_ : Aside0 (w_4.heap.size <= w_5.heap.size) := ⟨Nat.le_trans (below_size bR_) (hk_.1)⟩; have m0_ := A_ (Kd.S_step (vS_ HO11.out) (fun k_ h1_ h2_ => hk_.2 k_ h2_ (fun h3_ => by have := HZ1.out; have := HZ2.out; have := HZ3.out; have := HZ4.out; have := HG4.out.1; have := HG4.out.2; omega))); have m1_ := A_ (show Below w.heap.size w w_5 from by rw [hw_]; exact below_set (below_set (below_set (below_set (HB.out) GE4.out) GE4.out) GE4.out) GE4.out); have m2_ := A_ (show w_5.heap[gb4]? = some (.cells #[.string t6, .string t7, .string t8, .slice Ao11 t9.length co11] 26 (0, 0)) from by rw [hw_]; exact blk_put (cs := #[.string t6, .string t7, .string t8, .slice none 0 0]) (cs' := #[.string t6, .string t7, .string t8, .slice Ao11 t9.length co11]) (blk_put (cs := #[.string t6, .string t7, .string (⟨#[]⟩ : ByteArray), .slice none 0 0]) (cs' := #[.string t6, .string t7, .string t8, .slice none 0 0]) (blk_put (cs := #[.string t6, .string (⟨#[]⟩ : ByteArray), .string (⟨#[]⟩ : ByteArray), .slice none 0 0]) (cs' := #[.string t6, .string t7, .string (⟨#[]⟩ : ByteArray), .slice none 0 0]) (blk_put (cs := #[.string (⟨#[]⟩ : ByteArray), .string (⟨#[]⟩ : ByteArray), .string (⟨#[]⟩ : ByteArray), .slice none 0 0]) (cs' := #[.string t6, .string (⟨#[]⟩ : ByteArray), .string (⟨#[]⟩ : ByteArray), .slice none 0 0]) (BK4.out) 0 (.string t6) rfl) 1 (.string t7) rfl) 2 (.string t8) rfl) 3 (.slice Ao11 t9.length co11) rfl); clear HO11 HB BK4; (try clear hx4_0 hf4_0 hx4_1 hf4_1 hx4_2 hf4_2 hx4_3 hf4_3); have HZ5 := n0_; have HO11 := m0_; have HB := m1_; have BK4 := m2_; clear n0_ m0_ m1_ m2_; (try clear hb_); (try clear hk_); (try clear hw_); (try clear hg_); (try clear hbox_); have hx4_0 : w_5.cell? ⟨gb4, 0, none⟩ = some (.string t6) := bl_ BK4.out 0; have hf4_0 := blk_frozen BK4.out 0; have hx4_1 : w_5.cell? ⟨gb4, 1, none⟩ = some (.string t7) := bl_ BK4.out 1; have hf4_1 := blk_frozen BK4.out 1; have hx4_2 : w_5.cell? ⟨gb4, 2, none⟩ = some (.string t8) := bl_ BK4.out 2; have hf4_2 := blk_frozen BK4.out 2; have hx4_3 : w_5.cell? ⟨gb4, 3, none⟩ = some (.slice Ao11 t9.length co11) := bl_ BK4.out 3; have hf4_3 := blk_frozen BK4.out 3; refine gL_ (some 20) Try.func6 #[.slice A0 l0.length c0] ?_; (with_reducible refine (laws_toSetS.calls k A0 c0 l0 t12 _ ?s1 ?s2 FA13.out).mono ?_); (case s1 => exact cC_ (Kd.C_below HR0.out HB.out)); (case s2 => exact HC0.out); rintro e w_6 ⟨v65, rfl, ho0_, hb_⟩; refine ⟨_, rfl, ?_⟩; have n0_ : Aside0 (w_5.heap.size <= w_6.heap.size) := ⟨Nat.le_trans (below_size bR_) (below_size hb_)⟩; have m0_ := A_ (Kd.S_below (vS_ HO11.out) hb_); have m1_ := A_ (blk_below (g := gb4) (o := .cells #[.string t6, .string t7, .string t8, .slice Ao11 t9.length co11] 26 (0, 0)) (vb_ BK4.out) hb_); have m2_ := A_ (below_step bB_ hb_); have m3_ := A_ (show Kd.R k42 42 w_6 w.heap.size (fun k_ => w_5.heap.size <= k_ /\ k_ < w_6.heap.size) v65 t12 from Kd.R_mono (Kd.R_lower (Kd.R_bound ho0_) (below_size bB_)) (fun k_ h_ => ⟨Nat.le_trans (below_size bR_) h_.2.1, h_.2.2.1⟩)); clear HO11 BK4 HB; (try clear hx4_0 hf4_0 hx4_1 hf4_1 hx4_2 hf4_2 hx4_3 hf4_3); have HZ6 := n0_; have HO11 := m0_; have BK4 := m1_; have HB := m2_; have HO14 := m3_; clear n0_ m0_ m1_ m2_ m3_; (try clear hb_); (try clear hk_); (try clear hw_); (try clear hg_); (try clear hbox_); (try clear ho0_); (try clear ho1_); obtain ⟨Ao14, co14, eo_⟩ := Kd.R_slice HO14.out; subst eo_; have hx4_0 : w_6.cell? ⟨gb4, 0, none⟩ = some (.string t6) := bl_ BK4.out 0; have hf4_0 := blk_frozen BK4.out 0; have hx4_1 : w_6.cell? ⟨gb4, 1, none⟩ = some (.string t7) := bl_ BK4.out 1; have hf4_1 := blk_frozen BK4.out 1; have hx4_2 : w_6.cell? ⟨gb4, 2, none⟩ = some (.string t8) := bl_ BK4.out 2; have hf4_2 := blk_frozen BK4.out 2; have hx4_3 : w_6.cell? ⟨gb4, 3, none⟩ = some (.slice Ao11 t9.length co11) := bl_ BK4.out 3; have hf4_3 := blk_frozen BK4.out 3) | ((with_reducible refine gc_ (f := 7) rfl ?_); refine gL_ (some 22) Try.func7 #[.slice Ao14 t12.length co14] ?_; (with_reducible refine (impl_SetsNode.calls k Ao14 co14 t12 t15 t16 t17 t18 _ ?s1 ?s2 FA19.out).mono ?_); (case s1 => exact cC_ (Kd.R_reads' HO14.out).2.2); (case s2 => exact (Kd.R_reads' HO14.out).2.1); rintro e w_7 ⟨v66, rfl, ho0_, hb_⟩; refine ⟨_, rfl, ?_⟩; have n0_ : Aside0 (w_6.heap.size <= w_7.heap.size) := ⟨Nat.le_trans (below_size bR_) (below_size hb_)⟩; have m0_ := A_ (Kd.S_below (vS_ HO11.out) hb_); have m1_ := A_ (Kd.R_below (vR_ HO14.out) hb_); have m2_ := A_ (blk_below (g := gb4) (o := .cells #[.string t6, .string t7, .string t8, .slice Ao11 t9.length co11] 26 (0, 0)) (vb_ BK4.out) hb_); have m3_ := A_ (below_step bB_ hb_); have m4_ := A_ (show Kd.S kA 26 w_7 w.heap.size (fun k_ => w_6.heap.size <= k_ /\ k_ < w_7.heap.size) v66 t18 from Kd.S_mono (Kd.S_lower (Kd.S_bound ho0_) (below_size bB_)) (fun k_ h_ => ⟨Nat.le_trans (below_size bR_) h_.2.1, h_.2.2.1⟩)); clear HO11 HO14 BK4 HB; (try clear hx4_0 hf4_0 hx4_1 hf4_1 hx4_2 hf4_2 hx4_3 hf4_3); have HZ7 := n0_; have HO11 := m0_; have HO14 := m1_; have BK4 := m2_; have HB := m3_; have HO20 := m4_; clear n0_ m0_ m1_ m2_ m3_ m4_; (try clear hb_); (try clear hk_); (try clear hw_); (try clear hg_); (try clear hbox_); (try clear ho0_); (try clear ho1_); obtain ⟨Ao20, co20, eo_⟩ := Kd.S_slice HO20.out; subst eo_; have hx4_0 : w_7.cell? ⟨gb4, 0, none⟩ = some (.string t6) := bl_ BK4.out 0; have hf4_0 := blk_frozen BK4.out 0; have hx4_1 : w_7.cell? ⟨gb4, 1, none⟩ = some (.string t7) := bl_ BK4.out 1; have hf4_1 := blk_frozen BK4.out 1; have hx4_2 : w_7.cell? ⟨gb4, 2, none⟩ = some (.string t8) := bl_ BK4.out 2; have hf4_2 := blk_frozen BK4.out 2; have hx4_3 : w_7.cell? ⟨gb4, 3, none⟩ = some (.slice Ao11 t9.length co11) := bl_ BK4.out 3; have hf4_3 := blk_frozen BK4.out 3) | ((with_reducible refine gd_ (N := 6) rfl ?_); refine bx_ (N := 6) (cs := #[.string (⟨#[]⟩ : ByteArray), .string (⟨#[]⟩ : ByteArray), .string (⟨#[]⟩ : ByteArray), .slice none 0 0]) (t := 26) ?_; intro gb6 hg_ w_8 hbox_ hb_; have n0_ : Aside0 (w_7.heap.size <= w_8.heap.size) := ⟨Nat.le_trans (below_size bR_) (below_size hb_)⟩; have m0_ := A_ (Kd.S_below (vS_ HO11.out) hb_); have m1_ := A_ (Kd.R_below (vR_ HO14.out) hb_); have m2_ := A_ (Kd.S_below (vS_ HO20.out) hb_); have m3_ := A_ (blk_below (g := gb4) (o := .cells #[.string t6, .string t7, .string t8, .slice Ao11 t9.length co11] 26 (0, 0)) (vb_ BK4.out) hb_); have m4_ := A_ (below_step bB_ hb_); have m5_ := A_ hbox_; have m6_ := A_ (show w_7.heap.size <= gb6 /\ gb6 < w_8.heap.size from ⟨by rw [hg_]; exact (below_size bR_), blk_lt hbox_⟩); have m7_ := A_ (show w.heap.size <= gb6 from by rw [hg_]; exact below_size bB_); clear HO11 HO14 HO20 BK4 HB; (try clear hx4_0 hf4_0 hx4_1 hf4_1 hx4_2 hf4_2 hx4_3 hf4_3); have HZ8 := n0_; have HO11 := m0_; have HO14 := m1_; have HO20 := m2_; have BK4 := m3_; have HB := m4_; have BK6 := m5_; have HG6 := m6_; have GE6 := m7_; clear n0_ m0_ m1_ m2_ m3_ m4_ m5_ m6_ m7_; (try clear hb_); (try clear hk_); (try clear hw_); (try clear hg_); (try clear hbox_); have hne4_6 : (gb4 = gb6) = False := eq_false (by have := HZ1.out; have := HZ2.out; have := HZ3.out; have := HZ4.out; have := HZ5.out; have := HZ6.out; have := HZ7.out; have := HZ8.out; have := HG4.out.1; have := HG4.out.2; have := HG6.out.1; have := HG6.out.2; omega); have hen4_6 : (gb6 = gb4) = False := eq_false (by have := HZ1.out; have := HZ2.out; have := HZ3.out; have := HZ4.out; have := HZ5.out; have := HZ6.out; have := HZ7.out; have := HZ8.out; have := HG4.out.1; have := HG4.out.2; have := HG6.out.1; have := HG6.out.2; omega); have hx4_0 : w_8.cell? ⟨gb4, 0, none⟩ = some (.string t6) := bl_ BK4.out 0; have hf4_0 := blk_frozen BK4.out 0; have hx4_1 : w_8.cell? ⟨gb4, 1, none⟩ = some (.string t7) := bl_ BK4.out 1; have hf4_1 := blk_frozen BK4.out 1; have hx4_2 : w_8.cell? ⟨gb4, 2, none⟩ = some (.string t8) := bl_ BK4.out 2; have hf4_2 := blk_frozen BK4.out 2; have hx4_3 : w_8.cell? ⟨gb4, 3, none⟩ = some (.slice Ao11 t9.length co11) := bl_ BK4.out 3; have hf4_3 := blk_frozen BK4.out 3; have hx6_0 : w_8.cell? ⟨gb6, 0, none⟩ = some (.string (⟨#[]⟩ : ByteArray)) := bl_ BK6.out 0; have hf6_0 := blk_frozen BK6.out 0; have hx6_1 : w_8.cell? ⟨gb6, 1, none⟩ = some (.string (⟨#[]⟩ : ByteArray)) := bl_ BK6.out 1; have hf6_1 := blk_frozen BK6.out 1; have hx6_2 : w_8.cell? ⟨gb6, 2, none⟩ = some (.string (⟨#[]⟩ : ByteArray)) := bl_ BK6.out 2; have hf6_2 := blk_frozen BK6.out 2; have hx6_3 : w_8.cell? ⟨gb6, 3, none⟩ = some (.slice none 0 0) := bl_ BK6.out 3; have hf6_3 := blk_frozen BK6.out 3) | ((with_reducible refine gc_ (f := 8) rfl ?_); generalize hw0_ : ((((w_8.setCell ⟨gb6, 0, none⟩ (.string t15)).setCell ⟨gb6, 1, none⟩ (.string t16)).setCell ⟨gb6, 2, none⟩ (.string t17)).setCell ⟨gb6, 3, none⟩ (.slice Ao20 t18.length co20)) = w_9; have hw_ : w_9 = ((((w_8.setCell ⟨gb6, 0, none⟩ (.string t15)).setCell ⟨gb6, 1, none⟩ (.string t16)).setCell ⟨gb6, 2, none⟩ (.string t17)).setCell ⟨gb6, 3, none⟩ (.slice Ao20 t18.length co20)) := hw0_.symm; clear hw0_; have hk_ : Kept w_8 w_9 (fun k_ => k_ = gb6) := (by rw [hw_]; exact Kept.setCell (S := fun k_ => k_ = gb6) (p := ⟨gb6, 3, none⟩) (Kept.setCell (S := fun k_ => k_ = gb6) (p := ⟨gb6, 2, none⟩) (Kept.setCell (S := fun k_ => k_ = gb6) (p := ⟨gb6, 1, none⟩) (Kept.setCell (S := fun k_ => k_ = gb6) (p := ⟨gb6, 0, none⟩) (Kept.refl _ _) (.inl rfl) _) (.inl rfl) _) (.inl rfl) _) (.inl rfl) _); have n0_ : Aside0 (w_8.heap.size <= w_9.heap.size) := ⟨Nat.le_trans (below_size bR_) (hk_.1)⟩; have m0_ := A_ (Kd.S_step (vS_ HO11.out) (fun k_ h1_ h2_ => hk_.2 k_ h2_ (fun h3_ => by have := HZ1.out; have := HZ2.out; have := HZ3.out; have := HZ4.out; have := HZ5.out; have := HZ6.out; have := HZ7.out; have := HZ8.out; have := HG4.out.1; have := HG4.out.2; have := HG6.out.1; have := HG6.out.2; omega))); have m1_ := A_ (Kd.R_step (vR_ HO14.out) (fun k_ h1_ h2_ => hk_.2 k_ h2_ (fun h3_ => by have := HZ1.out; have := HZ2.out; have := HZ3.out; have := HZ4.out; have := HZ5.out; have := HZ6.out; have := HZ7.out; have := HZ8.out; have := HG4.out.1; have := HG4.out.2; have := HG6.out.1; have := HG6.out.2; omega))); have m2_ := A_ (Kd.S_step (vS_ HO20.out) (fun k_ h1_ h2_ => hk_.2 k_ h2_ (fun h3_ => by have := HZ1.out; have := HZ2.out; have := HZ3.out; have := HZ4.out; have := HZ5.out; have := HZ6.out; have := HZ7.out; have := HZ8.out; have := HG4.out.1; have := HG4.out.2; have := HG6.out.1; have := HG6.out.2; omega))); have m3_ := A_ ((hk_.2 gb4 (blk_lt BK4.out) (fun h3_ => by have := HZ1.out; have := HZ2.out; have := HZ3.out; have := HZ4.out; have := HZ5.out; have := HZ6.out; have := HZ7.out; have := HZ8.out; have := HG4.out.1; have := HG4.out.2; have := HG6.out.1; have := HG6.out.2; omega)).trans BK4.out); have m4_ := A_ (show Below w.heap.size w w_9 from by rw [hw_]; exact below_set (below_set (below_set (below_set (HB.out) GE6.out) GE6.out) GE6.out) GE6.out); have m5_ := A_ (show w_9.heap[gb6]? = some (.cells #[.string t15, .string t16, .string t17, .slice Ao20 t18.length co20] 26 (0, 0)) from by rw [hw_]; exact blk_put (cs := #[.string t15, .string t16, .string t17, .slice none 0 0]) (cs' := #[.string t15, .string t16, .string t17, .slice Ao20 t18.length co20]) (blk_put (cs := #[.string t15, .string t16, .string (⟨#[]⟩ : ByteArray), .slice none 0 0]) (cs' := #[.string t15, .string t16, .string t17, .slice none 0 0]) (blk_put (cs := #[.string t15, .string (⟨#[]⟩ : ByteArray), .string (⟨#[]⟩ : ByteArray), .slice none 0 0]) (cs' := #[.string t15, .string t16, .string (⟨#[]⟩ : ByteArray), .slice none 0 0]) (blk_put (cs := #[.string (⟨#[]⟩ : ByteArray), .string (⟨#[]⟩ : ByteArray), .string (⟨#[]⟩ : ByteArray), .slice none 0 0]) (cs' := #[.string t15, .string (⟨#[]⟩ : ByteArray), .string (⟨#[]⟩ : ByteArray), .slice none 0 0]) (BK6.out) 0 (.string t15) rfl) 1 (.string t16) rfl) 2 (.string t17) rfl) 3 (.slice Ao20 t18.length co20) rfl); clear HO11 HO14 HO20 BK4 HB BK6; (try clear hx4_0 hf4_0 hx4_1 hf4_1 hx4_2 hf4_2 hx4_3 hf4_3 hx6_0 hf6_0 hx6_1 hf6_1 hx6_2 hf6_2 hx6_3 hf6_3); have HZ9 := n0_; have HO11 := m0_; have HO14 := m1_; have HO20 := m2_; have BK4 := m3_; have HB := m4_; have BK6 := m5_; clear n0_ m0_ m1_ m2_ m3_ m4_ m5_; (try clear hb_); (try clear hk_); (try clear hw_); (try clear hg_); (try clear hbox_); have hx4_0 : w_9.cell? ⟨gb4, 0, none⟩ = some (.string t6) := bl_ BK4.out 0; have hf4_0 := blk_frozen BK4.out 0; have hx4_1 : w_9.cell? ⟨gb4, 1, none⟩ = some (.string t7) := bl_ BK4.out 1; have hf4_1 := blk_frozen BK4.out 1; have hx4_2 : w_9.cell? ⟨gb4, 2, none⟩ = some (.string t8) := bl_ BK4.out 2; have hf4_2 := blk_frozen BK4.out 2; have hx4_3 : w_9.cell? ⟨gb4, 3, none⟩ = some (.slice Ao11 t9.length co11) := bl_ BK4.out 3; have hf4_3 := blk_frozen BK4.out 3; have hx6_0 : w_9.cell? ⟨gb6, 0, none⟩ = some (.string t15) := bl_ BK6.out 0; have hf6_0 := blk_frozen BK6.out 0; have hx6_1 : w_9.cell? ⟨gb6, 1, none⟩ = some (.string t16) := bl_ BK6.out 1; have hf6_1 := blk_frozen BK6.out 1; have hx6_2 : w_9.cell? ⟨gb6, 2, none⟩ = some (.string t17) := bl_ BK6.out 2; have hf6_2 := blk_frozen BK6.out 2; have hx6_3 : w_9.cell? ⟨gb6, 3, none⟩ = some (.slice Ao20 t18.length co20) := bl_ BK6.out 3; have hf6_3 := blk_frozen BK6.out 3; refine gL_ (some 25) Try.func8 #[.agg #[.string t15, .string t16, .string t17, .slice Ao20 t18.length co20], .agg #[.string t6, .string t7, .string t8, .slice Ao11 t9.length co11]] ?_; (with_reducible refine (laws_eqNode.calls k t15 t16 t17 Ao20 co20 t18 t6 t7 t8 Ao11 co11 t9 true _ ?s1 ?s2 ?s3 ?s4 FA22.out).mono ?_); (case s1 => exact cC_ (Kd.S_reads' HO20.out).2.2); (case s2 => exact (Kd.S_reads' HO20.out).2.1); (case s3 => exact cC_ (Kd.S_reads' HO11.out).2.2); (case s4 => exact (Kd.S_reads' HO11.out).2.1); rintro e w_10 ⟨rfl, hb_⟩; refine ⟨_, rfl, ?_⟩; have n0_ : Aside0 (w_9.heap.size <= w_10.heap.size) := ⟨Nat.le_trans (below_size bR_) (below_size hb_)⟩; have m0_ := A_ (Kd.S_below (vS_ HO11.out) hb_); have m1_ := A_ (Kd.R_below (vR_ HO14.out) hb_); have m2_ := A_ (Kd.S_below (vS_ HO20.out) hb_); have m3_ := A_ (blk_below (g := gb4) (o := .cells #[.string t6, .string t7, .string t8, .slice Ao11 t9.length co11] 26 (0, 0)) (vb_ BK4.out) hb_); have m4_ := A_ (blk_below (g := gb6) (o := .cells #[.string t15, .string t16, .string t17, .slice Ao20 t18.length co20] 26 (0, 0)) (vb_ BK6.out) hb_); have m5_ := A_ (below_step bB_ hb_); clear HO11 HO14 HO20 BK4 BK6 HB; (try clear hx4_0 hf4_0 hx4_1 hf4_1 hx4_2 hf4_2 hx4_3 hf4_3 hx6_0 hf6_0 hx6_1 hf6_1 hx6_2 hf6_2 hx6_3 hf6_3); have HZ10 := n0_; have HO11 := m0_; have HO14 := m1_; have HO20 := m2_; have BK4 := m3_; have BK6 := m4_; have HB := m5_; clear n0_ m0_ m1_ m2_ m3_ m4_ m5_; (try clear hb_); (try clear hk_); (try clear hw_); (try clear hg_); (try clear hbox_); (try clear ho0_); have hx4_0 : w_10.cell? ⟨gb4, 0, none⟩ = some (.string t6) := bl_ BK4.out 0; have hf4_0 := blk_frozen BK4.out 0; have hx4_1 : w_10.cell? ⟨gb4, 1, none⟩ = some (.string t7) := bl_ BK4.out 1; have hf4_1 := blk_frozen BK4.out 1; have hx4_2 : w_10.cell? ⟨gb4, 2, none⟩ = some (.string t8) := bl_ BK4.out 2; have hf4_2 := blk_frozen BK4.out 2; have hx4_3 : w_10.cell? ⟨gb4, 3, none⟩ = some (.slice Ao11 t9.length co11) := bl_ BK4.out 3; have hf4_3 := blk_frozen BK4.out 3; have hx6_0 : w_10.cell? ⟨gb6, 0, none⟩ = some (.string t15) := bl_ BK6.out 0; have hf6_0 := blk_frozen BK6.out 0; have hx6_1 : w_10.cell? ⟨gb6, 1, none⟩ = some (.string t16) := bl_ BK6.out 1; have hf6_1 := blk_frozen BK6.out 1; have hx6_2 : w_10.cell? ⟨gb6, 2, none⟩ = some (.string t17) := bl_ BK6.out 2; have hf6_2 := blk_frozen BK6.out 2; have hx6_3 : w_10.cell? ⟨gb6, 3, none⟩ = some (.slice Ao20 t18.length co20) := bl_ BK6.out 3; have hf6_3 := blk_frozen BK6.out 3) | ((with_reducible refine gc_ (f := 6) rfl ?_); refine gL_ (some 29) Try.func6 #[.slice A0 l0.length c0] ?_; (with_reducible refine (laws_toSetS.calls k A0 c0 l0 t23 _ ?s1 ?s2 FA24.out).mono ?_); (case s1 => exact cC_ (Kd.C_below HR0.out HB.out)); (case s2 => exact HC0.out); rintro e w_11 ⟨v67, rfl, ho0_, hb_⟩; refine ⟨_, rfl, ?_⟩; have n0_ : Aside0 (w_10.heap.size <= w_11.heap.size) := ⟨Nat.le_trans (below_size bR_) (below_size hb_)⟩; have m0_ := A_ (Kd.S_below (vS_ HO11.out) hb_); have m1_ := A_ (Kd.R_below (vR_ HO14.out) hb_); have m2_ := A_ (Kd.S_below (vS_ HO20.out) hb_); have m3_ := A_ (blk_below (g := gb4) (o := .cells #[.string t6, .string t7, .string t8, .slice Ao11 t9.length co11] 26 (0, 0)) (vb_ BK4.out) hb_); have m4_ := A_ (blk_below (g := gb6) (o := .cells #[.string t15, .string t16, .string t17, .slice Ao20 t18.length co20] 26 (0, 0)) (vb_ BK6.out) hb_); have m5_ := A_ (below_step bB_ hb_); have m6_ := A_ (show Kd.R k42 42 w_11 w.heap.size (fun k_ => w_10.heap.size <= k_ /\ k_ < w_11.heap.size) v67 t23 from Kd.R_mono (Kd.R_lower (Kd.R_bound ho0_) (below_size bB_)) (fun k_ h_ => ⟨Nat.le_trans (below_size bR_) h_.2.1, h_.2.2.1⟩)); clear HO11 HO14 HO20 BK4 BK6 HB; (try clear hx4_0 hf4_0 hx4_1 hf4_1 hx4_2 hf4_2 hx4_3 hf4_3 hx6_0 hf6_0 hx6_1 hf6_1 hx6_2 hf6_2 hx6_3 hf6_3); have HZ11 := n0_; have HO11 := m0_; have HO14 := m1_; have HO20 := m2_; have BK4 := m3_; have BK6 := m4_; have HB := m5_; have HO25 := m6_; clear n0_ m0_ m1_ m2_ m3_ m4_ m5_ m6_; (try clear hb_); (try clear hk_); (try clear hw_); (try clear hg_); (try clear hbox_); (try clear ho0_); (try clear ho1_); obtain ⟨Ao25, co25, eo_⟩ := Kd.R_slice HO25.out; subst eo_; have hx4_0 : w_11.cell? ⟨gb4, 0, none⟩ = some (.string t6) := bl_ BK4.out 0; have hf4_0 := blk_frozen BK4.out 0; have hx4_1 : w_11.cell? ⟨gb4, 1, none⟩ = some (.string t7) := bl_ BK4.out 1; have hf4_1 := blk_frozen BK4.out 1; have hx4_2 : w_11.cell? ⟨gb4, 2, none⟩ = some (.string t8) := bl_ BK4.out 2; have hf4_2 := blk_frozen BK4.out 2; have hx4_3 : w_11.cell? ⟨gb4, 3, none⟩ = some (.slice Ao11 t9.length co11) := bl_ BK4.out 3; have hf4_3 := blk_frozen BK4.out 3; have hx6_0 : w_11.cell? ⟨gb6, 0, none⟩ = some (.string t15) := bl_ BK6.out 0; have hf6_0 := blk_frozen BK6.out 0; have hx6_1 : w_11.cell? ⟨gb6, 1, none⟩ = some (.string t16) := bl_ BK6.out 1; have hf6_1 := blk_frozen BK6.out 1; have hx6_2 : w_11.cell? ⟨gb6, 2, none⟩ = some (.string t17) := bl_ BK6.out 2; have hf6_2 := blk_frozen BK6.out 2; have hx6_3 : w_11.cell? ⟨gb6, 3, none⟩ = some (.slice Ao20 t18.length co20) := bl_ BK6.out 3; have hf6_3 := blk_frozen BK6.out 3) | ((with_reducible refine gc_ (f := 9) rfl ?_); refine gL_ (some 30) Try.func9 #[.slice Ao14 t12.length co14, .slice Ao25 t23.length co25] ?_; (with_reducible refine (laws_eqSetS.calls k Ao14 co14 t12 Ao25 co25 t23 true _ ?s1 ?s2 ?s3 ?s4 FA27.out).mono ?_); (case s1 => exact cC_ (Kd.R_reads' HO14.out).2.2); (case s2 => exact (Kd.R_reads' HO14.out).2.1); (case s3 => exact cC_ (Kd.R_reads' HO25.out).2.2); (case s4 => exact (Kd.R_reads' HO25.out).2.1); rintro e w_12 ⟨rfl, hb_⟩; refine ⟨_, rfl, ?_⟩; have n0_ : Aside0 (w_11.heap.size <= w_12.heap.size) := ⟨Nat.le_trans (below_size bR_) (below_size hb_)⟩; have m0_ := A_ (Kd.S_below (vS_ HO11.out) hb_); have m1_ := A_ (Kd.R_below (vR_ HO14.out) hb_); have m2_ := A_ (Kd.S_below (vS_ HO20.out) hb_); have m3_ := A_ (Kd.R_below (vR_ HO25.out) hb_); have m4_ := A_ (blk_below (g := gb4) (o := .cells #[.string t6, .string t7, .string t8, .slice Ao11 t9.length co11] 26 (0, 0)) (vb_ BK4.out) hb_); have m5_ := A_ (blk_below (g := gb6) (o := .cells #[.string t15, .string t16, .string t17, .slice Ao20 t18.length co20] 26 (0, 0)) (vb_ BK6.out) hb_); have m6_ := A_ (below_step bB_ hb_); clear HO11 HO14 HO20 HO25 BK4 BK6 HB; (try clear hx4_0 hf4_0 hx4_1 hf4_1 hx4_2 hf4_2 hx4_3 hf4_3 hx6_0 hf6_0 hx6_1 hf6_1 hx6_2 hf6_2 hx6_3 hf6_3); have HZ12 := n0_; have HO11 := m0_; have HO14 := m1_; have HO20 := m2_; have BK4 := m4_; have BK6 := m5_; have HB := m6_; clear n0_ m0_ m1_ m2_ m3_ m4_ m5_ m6_; (try clear hb_); (try clear hk_); (try clear hw_); (try clear hg_); (try clear hbox_); (try clear ho0_); have hx4_0 : w_12.cell? ⟨gb4, 0, none⟩ = some (.string t6) := bl_ BK4.out 0; have hf4_0 := blk_frozen BK4.out 0; have hx4_1 : w_12.cell? ⟨gb4, 1, none⟩ = some (.string t7) := bl_ BK4.out 1; have hf4_1 := blk_frozen BK4.out 1; have hx4_2 : w_12.cell? ⟨gb4, 2, none⟩ = some (.string t8) := bl_ BK4.out 2; have hf4_2 := blk_frozen BK4.out 2; have hx4_3 : w_12.cell? ⟨gb4, 3, none⟩ = some (.slice Ao11 t9.length co11) := bl_ BK4.out 3; have hf4_3 := blk_frozen BK4.out 3; have hx6_0 : w_12.cell? ⟨gb6, 0, none⟩ = some (.string t15) := bl_ BK6.out 0; have hf6_0 := blk_frozen BK6.out 0; have hx6_1 : w_12.cell? ⟨gb6, 1, none⟩ = some (.string t16) := bl_ BK6.out 1; have hf6_1 := blk_frozen BK6.out 1; have hx6_2 : w_12.cell? ⟨gb6, 2, none⟩ = some (.string t17) := bl_ BK6.out 2; have hf6_2 := blk_frozen BK6.out 2; have hx6_3 : w_12.cell? ⟨gb6, 3, none⟩ = some (.slice Ao20 t18.length co20) := bl_ BK6.out 3; have hf6_3 := blk_frozen BK6.out 3) | ((with_reducible refine gc_ (f := 10) rfl ?_); refine gL_ (some 34) Try.func10 #[(.slice Ao14 t12.length co14), .int .i64 1] ?_; (with_reducible refine (laws_markSetS.calls k (fun k_ => w_5.heap.size <= k_ /\ k_ < w_6.heap.size) (.slice Ao14 t12.length co14) t12 1 t28 t29 w _ ?s1 ?s2 FA30.out).mono ?_); (case s1 => exact bB_); (case s2 => exact (vR_ HO14.out)); rintro e w_13 ⟨rfl, ho0_, hb_, hk_⟩; refine ⟨_, rfl, ?_⟩; have n0_ : Aside0 (w_12.heap.size <= w_13.heap.size) := ⟨Nat.le_trans (below_size bR_) (hk_.1)⟩; have m0_ := A_ (Kd.S_step (vS_ HO11.out) (fun k_ h1_ h2_ => hk_.2 k_ h2_ (fun h3_ => by have := HZ1.out; have := HZ2.out; have := HZ3.out; have := HZ4.out; have := HZ5.out; have := HZ6.out; have := HZ7.out; have := HZ8.out; have := HZ9.out; have := HZ10.out; have := HZ11.out; have := HZ12.out; have := HG4.out.1; have := HG4.out.2; have := HG6.out.1; have := HG6.out.2; omega))); have m1_ := A_ (Kd.S_step (vS_ HO20.out) (fun k_ h1_ h2_ => hk_.2 k_ h2_ (fun h3_ => by have := HZ1.out; have := HZ2.out; have := HZ3.out; have := HZ4.out; have := HZ5.out; have := HZ6.out; have := HZ7.out; have := HZ8.out; have := HZ9.out; have := HZ10.out; have := HZ11.out; have := HZ12.out; have := HG4.out.1; have := HG4.out.2; have := HG6.out.1; have := HG6.out.2; omega))); have m2_ := A_ ((hk_.2 gb4 (blk_lt BK4.out) (fun h3_ => by have := HZ1.out; have := HZ2.out; have := HZ3.out; have := HZ4.out; have := HZ5.out; have := HZ6.out; have := HZ7.out; have := HZ8.out; have := HZ9.out; have := HZ10.out; have := HZ11.out; have := HZ12.out; have := HG4.out.1; have := HG4.out.2; have := HG6.out.1; have := HG6.out.2; omega)).trans BK4.out); have m3_ := A_ ((hk_.2 gb6 (blk_lt BK6.out) (fun h3_ => by have := HZ1.out; have := HZ2.out; have := HZ3.out; have := HZ4.out; have := HZ5.out; have := HZ6.out; have := HZ7.out; have := HZ8.out; have := HZ9.out; have := HZ10.out; have := HZ11.out; have := HZ12.out; have := HG4.out.1; have := HG4.out.2; have := HG6.out.1; have := HG6.out.2; omega)).trans BK6.out); have m4_ := A_ (Kd.R_mono (ok' := fun k_ => w_5.heap.size <= k_ /\ k_ < w_6.heap.size) (Kd.R_tight rfl ho0_) (fun k_ h_ => HO14.out.1 k_ h_.symm)); have m5_ := A_ hb_; have m6_ := A_ (Kd.R_reads' ho0_).1; clear HO11 HO20 BK4 BK6 HO14 HB; (try clear hx4_0 hf4_0 hx4_1 hf4_1 hx4_2 hf4_2 hx4_3 hf4_3 hx6_0 hf6_0 hx6_1 hf6_1 hx6_2 hf6_2 hx6_3 hf6_3); have HZ13 := n0_; have HO11 := m0_; have HO20 := m1_; have BK4 := m2_; have BK6 := m3_; have HB := m5_; have HE31 := m6_; clear n0_ m0_ m1_ m2_ m3_ m4_ m5_ m6_; (try clear hb_); (try clear hk_); (try clear hw_); (try clear hg_); (try clear hbox_); (try clear ho0_); (try clear ho1_); (try clear ho2_); have hx4_0 : w_13.cell? ⟨gb4, 0, none⟩ = some (.string t6) := bl_ BK4.out 0; have hf4_0 := blk_frozen BK4.out 0; have hx4_1 : w_13.cell? ⟨gb4, 1, none⟩ = some (.string t7) := bl_ BK4.out 1; have hf4_1 := blk_frozen BK4.out 1; have hx4_2 : w_13.cell? ⟨gb4, 2, none⟩ = some (.string t8) := bl_ BK4.out 2; have hf4_2 := blk_frozen BK4.out 2; have hx4_3 : w_13.cell? ⟨gb4, 3, none⟩ = some (.slice Ao11 t9.length co11) := bl_ BK4.out 3; have hf4_3 := blk_frozen BK4.out 3; have hx6_0 : w_13.cell? ⟨gb6, 0, none⟩ = some (.string t15) := bl_ BK6.out 0; have hf6_0 := blk_frozen BK6.out 0; have hx6_1 : w_13.cell? ⟨gb6, 1, none⟩ = some (.string t16) := bl_ BK6.out 1; have hf6_1 := blk_frozen BK6.out 1; have hx6_2 : w_13.cell? ⟨gb6, 2, none⟩ = some (.string t17) := bl_ BK6.out 2; have hf6_2 := blk_frozen BK6.out 2; have hx6_3 : w_13.cell? ⟨gb6, 3, none⟩ = some (.slice Ao20 t18.length co20) := bl_ BK6.out 3; have hf6_3 := blk_frozen BK6.out 3) | (go_at_call 8; (with_reducible refine (laws_eqNode.calls k t15 t16 t17 Ao20 co20 t18 t6 t7 t8 Ao11 co11 t9 true _ ?s1 ?s2 ?s3 ?s4 FA33.out).mono ?_); (case s1 => exact cC_ (Kd.S_reads' HO20.out).2.2); (case s2 => exact (Kd.S_reads' HO20.out).2.1); (case s3 => exact cC_ (Kd.S_reads' HO11.out).2.2); (case s4 => exact (Kd.S_reads' HO11.out).2.1); rintro e w_14 ⟨rfl, hb_⟩; have n0_ : Aside0 (w_13.heap.size <= w_14.heap.size) := ⟨Nat.le_trans (below_size bR_) (below_size hb_)⟩; have m0_ := A_ (Kd.S_below (vS_ HO11.out) hb_); have m1_ := A_ (Kd.S_below (vS_ HO20.out) hb_); have m2_ := A_ (blk_below (g := gb4) (o := .cells #[.string t6, .string t7, .string t8, .slice Ao11 t9.length co11] 26 (0, 0)) (vb_ BK4.out) hb_); have m3_ := A_ (blk_below (g := gb6) (o := .cells #[.string t15, .string t16, .string t17, .slice Ao20 t18.length co20] 26 (0, 0)) (vb_ BK6.out) hb_); have m4_ := A_ (below_step bB_ hb_); clear HO11 HO20 BK4 BK6 HB; (try clear hx4_0 hf4_0 hx4_1 hf4_1 hx4_2 hf4_2 hx4_3 hf4_3 hx6_0 hf6_0 hx6_1 hf6_1 hx6_2 hf6_2 hx6_3 hf6_3); have HZ14 := n0_; have HO11 := m0_; have HO20 := m1_; have BK4 := m2_; have BK6 := m3_; have HB := m4_; clear n0_ m0_ m1_ m2_ m3_ m4_; (try clear hb_); (try clear hk_); (try clear hw_); (try clear hg_); (try clear hbox_); (try clear ho0_); have hx4_0 : w_14.cell? ⟨gb4, 0, none⟩ = some (.string t6) := bl_ BK4.out 0; have hf4_0 := blk_frozen BK4.out 0; have hx4_1 : w_14.cell? ⟨gb4, 1, none⟩ = some (.string t7) := bl_ BK4.out 1; have hf4_1 := blk_frozen BK4.out 1; have hx4_2 : w_14.cell? ⟨gb4, 2, none⟩ = some (.string t8) := bl_ BK4.out 2; have hf4_2 := blk_frozen BK4.out 2; have hx4_3 : w_14.cell? ⟨gb4, 3, none⟩ = some (.slice Ao11 t9.length co11) := bl_ BK4.out 3; have hf4_3 := blk_frozen BK4.out 3; have hx6_0 : w_14.cell? ⟨gb6, 0, none⟩ = some (.string t15) := bl_ BK6.out 0; have hf6_0 := blk_frozen BK6.out 0; have hx6_1 : w_14.cell? ⟨gb6, 1, none⟩ = some (.string t16) := bl_ BK6.out 1; have hf6_1 := blk_frozen BK6.out 1; have hx6_2 : w_14.cell? ⟨gb6, 2, none⟩ = some (.string t17) := bl_ BK6.out 2; have hf6_2 := blk_frozen BK6.out 2; have hx6_3 : w_14.cell? ⟨gb6, 3, none⟩ = some (.slice Ao20 t18.length co20) := bl_ BK6.out 3; have hf6_3 := blk_frozen BK6.out 3) | ((with_reducible refine gc_ (f := 11) rfl ?_); refine gL_ (some 45) Try.func11 #[.agg #[.string t15, .string t16, .string t17, (.slice Ao20 t18.length co20)], .int .i64 1] ?_; (with_reducible refine (laws_markNode.calls k t15 t16 t17 (fun k_ => w_6.heap.size <= k_ /\ k_ < w_7.heap.size) (.slice Ao20 t18.length co20) t18 1 t34 t35 w _ ?s1 ?s2 FA36.out).mono ?_); (case s1 => exact bB_); (case s2 => exact (vS_ HO20.out)); rintro e w_15 ⟨rfl, ho0_, hb_, hk_⟩; refine ⟨_, rfl, ?_⟩; have n0_ : Aside0 (w_14.heap.size <= w_15.heap.size) := ⟨Nat.le_trans (below_size bR_) (hk_.1)⟩; have m0_ := A_ (Kd.S_step (vS_ HO11.out) (fun k_ h1_ h2_ => hk_.2 k_ h2_ (fun h3_ => by have := HZ1.out; have := HZ2.out; have := HZ3.out; have := HZ4.out; have := HZ5.out; have := HZ6.out; have := HZ7.out; have := HZ8.out; have := HZ9.out; have := HZ10.out; have := HZ11.out; have := HZ12.out; have := HZ13.out; have := HZ14.out; have := HG4.out.1; have := HG4.out.2; have := HG6.out.1; have := HG6.out.2; omega))); have m1_ := A_ ((hk_.2 gb4 (blk_lt BK4.out) (fun h3_ => by have := HZ1.out; have := HZ2.out; have := HZ3.out; have := HZ4.out; have := HZ5.out; have := HZ6.out; have := HZ7.out; have := HZ8.out; have := HZ9.out; have := HZ10.out; have := HZ11.out; have := HZ12.out; have := HZ13.out; have := HZ14.out; have := HG4.out.1; have := HG4.out.2; have := HG6.out.1; have := HG6.out.2; omega)).trans BK4.out); have m2_ := A_ ((hk_.2 gb6 (blk_lt BK6.out) (fun h3_ => by have := HZ1.out; have := HZ2.out; have := HZ3.out; have := HZ4.out; have := HZ5.out; have := HZ6.out; have := HZ7.out; have := HZ8.out; have := HZ9.out; have := HZ10.out; have := HZ11.out; have := HZ12.out; have := HZ13.out; have := HZ14.out; have := HG4.out.1; have := HG4.out.2; have := HG6.out.1; have := HG6.out.2; omega)).trans BK6.out); have m3_ := A_ (Kd.S_mono ho0_ (fun _ h_ => h_)); have m4_ := A_ hb_; have m5_ := A_ (Kd.S_reads' ho0_).1; clear HO11 BK4 BK6 HO20 HB; (try clear hx4_0 hf4_0 hx4_1 hf4_1 hx4_2 hf4_2 hx4_3 hf4_3 hx6_0 hf6_0 hx6_1 hf6_1 hx6_2 hf6_2 hx6_3 hf6_3); have HZ15 := n0_; have HO11 := m0_; have BK4 := m1_; have BK6 := m2_; have HO20 := m3_; have HB := m4_; have HE37 := m5_; clear n0_ m0_ m1_ m2_ m3_ m4_ m5_; (try clear hb_); (try clear hk_); (try clear hw_); (try clear hg_); (try clear hbox_); (try clear ho0_); (try clear ho1_); (try clear ho2_); have hx4_0 : w_15.cell? ⟨gb4, 0, none⟩ = some (.string t6) := bl_ BK4.out 0; have hf4_0 := blk_frozen BK4.out 0; have hx4_1 : w_15.cell? ⟨gb4, 1, none⟩ = some (.string t7) := bl_ BK4.out 1; have hf4_1 := blk_frozen BK4.out 1; have hx4_2 : w_15.cell? ⟨gb4, 2, none⟩ = some (.string t8) := bl_ BK4.out 2; have hf4_2 := blk_frozen BK4.out 2; have hx4_3 : w_15.cell? ⟨gb4, 3, none⟩ = some (.slice Ao11 t9.length co11) := bl_ BK4.out 3; have hf4_3 := blk_frozen BK4.out 3; have hx6_0 : w_15.cell? ⟨gb6, 0, none⟩ = some (.string t15) := bl_ BK6.out 0; have hf6_0 := blk_frozen BK6.out 0; have hx6_1 : w_15.cell? ⟨gb6, 1, none⟩ = some (.string t16) := bl_ BK6.out 1; have hf6_1 := blk_frozen BK6.out 1; have hx6_2 : w_15.cell? ⟨gb6, 2, none⟩ = some (.string t17) := bl_ BK6.out 2; have hf6_2 := blk_frozen BK6.out 2; have hx6_3 : w_15.cell? ⟨gb6, 3, none⟩ = some (.slice Ao20 t18.length co20) := bl_ BK6.out 3; have hf6_3 := blk_frozen BK6.out 3) | ((with_reducible refine gc_ (f := 12) rfl ?_); refine gL_ (some 48) Try.func12 #[.agg #[.string t15, .string t16, .string t17, .slice Ao20 t18.length co20], .int .i64 1] ?_; refine calls_of_args (args' := #[.agg #[.string t15, .string t16, .string t17, .slice Ao20 t35.length co20], .int .i64 1]) (by simp only [HE37.out]) ?_; (with_reducible refine (laws_heldNode.calls k t15 t16 t17 Ao20 co20 t35 1 t38 _ ?s1 ?s2 FA39.out).mono ?_); (case s1 => repeat (first | (have h_ := Kd.S_reads' HO20.out; rw [HE37.out] at h_; exact h_.2.2) | (with_reducible refine Kd.C_alloc ?_ _) | (with_reducible refine Kd.C_drewN ?_ _) | (with_reducible refine Kd.C_drew ?_))); (case s2 => have h_ := Kd.S_reads' HO20.out; rw [HE37.out] at h_; exact h_.2.1); rintro e w_16 ⟨rfl, hb_⟩; refine ⟨_, rfl, ?_⟩; have n0_ : Aside0 (w_15.heap.size <= w_16.heap.size) := ⟨Nat.le_trans (below_size bR_) (below_size hb_)⟩; have m0_ := A_ (Kd.S_below (vS_ HO11.out) hb_); have m1_ := A_ (Kd.S_below (vS_ HO20.out) hb_); have m2_ := A_ (blk_below (g := gb4) (o := .cells #[.string t6, .string t7, .string t8, .slice Ao11 t9.length co11] 26 (0, 0)) (vb_ BK4.out) hb_); have m3_ := A_ (blk_below (g := gb6) (o := .cells #[.string t15, .string t16, .string t17, .slice Ao20 t18.length co20] 26 (0, 0)) (vb_ BK6.out) hb_); have m4_ := A_ (below_step bB_ hb_); clear HO11 HO20 BK4 BK6 HB; (try clear hx4_0 hf4_0 hx4_1 hf4_1 hx4_2 hf4_2 hx4_3 hf4_3 hx6_0 hf6_0 hx6_1 hf6_1 hx6_2 hf6_2 hx6_3 hf6_3); have HZ16 := n0_; have HO11 := m0_; have HO20 := m1_; have BK4 := m2_; have BK6 := m3_; have HB := m4_; clear n0_ m0_ m1_ m2_ m3_ m4_; (try clear hb_); (try clear hk_); (try clear hw_); (try clear hg_); (try clear hbox_); (try clear ho0_); have hx4_0 : w_16.cell? ⟨gb4, 0, none⟩ = some (.string t6) := bl_ BK4.out 0; have hf4_0 := blk_frozen BK4.out 0; have hx4_1 : w_16.cell? ⟨gb4, 1, none⟩ = some (.string t7) := bl_ BK4.out 1; have hf4_1 := blk_frozen BK4.out 1; have hx4_2 : w_16.cell? ⟨gb4, 2, none⟩ = some (.string t8) := bl_ BK4.out 2; have hf4_2 := blk_frozen BK4.out 2; have hx4_3 : w_16.cell? ⟨gb4, 3, none⟩ = some (.slice Ao11 t9.length co11) := bl_ BK4.out 3; have hf4_3 := blk_frozen BK4.out 3; have hx6_0 : w_16.cell? ⟨gb6, 0, none⟩ = some (.string t15) := bl_ BK6.out 0; have hf6_0 := blk_frozen BK6.out 0; have hx6_1 : w_16.cell? ⟨gb6, 1, none⟩ = some (.string t16) := bl_ BK6.out 1; have hf6_1 := blk_frozen BK6.out 1; have hx6_2 : w_16.cell? ⟨gb6, 2, none⟩ = some (.string t17) := bl_ BK6.out 2; have hf6_2 := blk_frozen BK6.out 2; have hx6_3 : w_16.cell? ⟨gb6, 3, none⟩ = some (.slice Ao20 t18.length co20) := bl_ BK6.out 3; have hf6_3 := blk_frozen BK6.out 3) | ((with_reducible refine gc_ (f := 6) rfl ?_); refine gL_ (some 55) Try.func6 #[.slice A0 l0.length c0] ?_; (with_reducible refine (laws_toSetS.calls k A0 c0 l0 t40 _ ?s1 ?s2 FA41.out).mono ?_); (case s1 => exact cC_ (Kd.C_below HR0.out HB.out)); (case s2 => exact HC0.out); rintro e w_17 ⟨v68, rfl, ho0_, hb_⟩; refine ⟨_, rfl, ?_⟩; have n0_ : Aside0 (w_16.heap.size <= w_17.heap.size) := ⟨Nat.le_trans (below_size bR_) (below_size hb_)⟩; have m0_ := A_ (Kd.S_below (vS_ HO11.out) hb_); have m1_ := A_ (Kd.S_below (vS_ HO20.out) hb_); have m2_ := A_ (blk_below (g := gb4) (o := .cells #[.string t6, .string t7, .string t8, .slice Ao11 t9.length co11] 26 (0, 0)) (vb_ BK4.out) hb_); have m3_ := A_ (blk_below (g := gb6) (o := .cells #[.string t15, .string t16, .string t17, .slice Ao20 t18.length co20] 26 (0, 0)) (vb_ BK6.out) hb_); have m4_ := A_ (below_step bB_ hb_); have m5_ := A_ (show Kd.R k42 42 w_17 w.heap.size (fun k_ => w_16.heap.size <= k_ /\ k_ < w_17.heap.size) v68 t40 from Kd.R_mono (Kd.R_lower (Kd.R_bound ho0_) (below_size bB_)) (fun k_ h_ => ⟨Nat.le_trans (below_size bR_) h_.2.1, h_.2.2.1⟩)); clear HO11 HO20 BK4 BK6 HB; (try clear hx4_0 hf4_0 hx4_1 hf4_1 hx4_2 hf4_2 hx4_3 hf4_3 hx6_0 hf6_0 hx6_1 hf6_1 hx6_2 hf6_2 hx6_3 hf6_3); have HZ17 := n0_; have HO11 := m0_; have HO20 := m1_; have BK4 := m2_; have BK6 := m3_; have HB := m4_; have HO42 := m5_; clear n0_ m0_ m1_ m2_ m3_ m4_ m5_; (try clear hb_); (try clear hk_); (try clear hw_); (try clear hg_); (try clear hbox_); (try clear ho0_); (try clear ho1_); obtain ⟨Ao42, co42, eo_⟩ := Kd.R_slice HO42.out; subst eo_; have hx4_0 : w_17.cell? ⟨gb4, 0, none⟩ = some (.string t6) := bl_ BK4.out 0; have hf4_0 := blk_frozen BK4.out 0; have hx4_1 : w_17.cell? ⟨gb4, 1, none⟩ = some (.string t7) := bl_ BK4.out 1; have hf4_1 := blk_frozen BK4.out 1; have hx4_2 : w_17.cell? ⟨gb4, 2, none⟩ = some (.string t8) := bl_ BK4.out 2; have hf4_2 := blk_frozen BK4.out 2; have hx4_3 : w_17.cell? ⟨gb4, 3, none⟩ = some (.slice Ao11 t9.length co11) := bl_ BK4.out 3; have hf4_3 := blk_frozen BK4.out 3; have hx6_0 : w_17.cell? ⟨gb6, 0, none⟩ = some (.string t15) := bl_ BK6.out 0; have hf6_0 := blk_frozen BK6.out 0; have hx6_1 : w_17.cell? ⟨gb6, 1, none⟩ = some (.string t16) := bl_ BK6.out 1; have hf6_1 := blk_frozen BK6.out 1; have hx6_2 : w_17.cell? ⟨gb6, 2, none⟩ = some (.string t17) := bl_ BK6.out 2; have hf6_2 := blk_frozen BK6.out 2; have hx6_3 : w_17.cell? ⟨gb6, 3, none⟩ = some (.slice Ao20 t18.length co20) := bl_ BK6.out 3; have hf6_3 := blk_frozen BK6.out 3) | ((with_reducible refine gc_ (f := 7) rfl ?_); refine gL_ (some 56) Try.func7 #[.slice Ao42 t40.length co42] ?_; (with_reducible refine (impl_SetsNode.calls k Ao42 co42 t40 t43 t44 t45 t46 _ ?s1 ?s2 FA47.out).mono ?_); (case s1 => exact cC_ (Kd.R_reads' HO42.out).2.2); (case s2 => exact (Kd.R_reads' HO42.out).2.1); rintro e w_18 ⟨v69, rfl, ho0_, hb_⟩; refine ⟨_, rfl, ?_⟩; have n0_ : Aside0 (w_17.heap.size <= w_18.heap.size) := ⟨Nat.le_trans (below_size bR_) (below_size hb_)⟩; have m0_ := A_ (Kd.S_below (vS_ HO11.out) hb_); have m1_ := A_ (Kd.S_below (vS_ HO20.out) hb_); have m2_ := A_ (Kd.R_below (vR_ HO42.out) hb_); have m3_ := A_ (blk_below (g := gb4) (o := .cells #[.string t6, .string t7, .string t8, .slice Ao11 t9.length co11] 26 (0, 0)) (vb_ BK4.out) hb_); have m4_ := A_ (blk_below (g := gb6) (o := .cells #[.string t15, .string t16, .string t17, .slice Ao20 t18.length co20] 26 (0, 0)) (vb_ BK6.out) hb_); have m5_ := A_ (below_step bB_ hb_); have m6_ := A_ (show Kd.S kA 26 w_18 w.heap.size (fun k_ => w_17.heap.size <= k_ /\ k_ < w_18.heap.size) v69 t46 from Kd.S_mono (Kd.S_lower (Kd.S_bound ho0_) (below_size bB_)) (fun k_ h_ => ⟨Nat.le_trans (below_size bR_) h_.2.1, h_.2.2.1⟩)); clear HO11 HO20 HO42 BK4 BK6 HB; (try clear hx4_0 hf4_0 hx4_1 hf4_1 hx4_2 hf4_2 hx4_3 hf4_3 hx6_0 hf6_0 hx6_1 hf6_1 hx6_2 hf6_2 hx6_3 hf6_3); have HZ18 := n0_; have HO11 := m0_; have HO20 := m1_; have BK4 := m3_; have BK6 := m4_; have HB := m5_; have HO48 := m6_; clear n0_ m0_ m1_ m2_ m3_ m4_ m5_ m6_; (try clear hb_); (try clear hk_); (try clear hw_); (try clear hg_); (try clear hbox_); (try clear ho0_); (try clear ho1_); obtain ⟨Ao48, co48, eo_⟩ := Kd.S_slice HO48.out; subst eo_; have hx4_0 : w_18.cell? ⟨gb4, 0, none⟩ = some (.string t6) := bl_ BK4.out 0; have hf4_0 := blk_frozen BK4.out 0; have hx4_1 : w_18.cell? ⟨gb4, 1, none⟩ = some (.string t7) := bl_ BK4.out 1; have hf4_1 := blk_frozen BK4.out 1; have hx4_2 : w_18.cell? ⟨gb4, 2, none⟩ = some (.string t8) := bl_ BK4.out 2; have hf4_2 := blk_frozen BK4.out 2; have hx4_3 : w_18.cell? ⟨gb4, 3, none⟩ = some (.slice Ao11 t9.length co11) := bl_ BK4.out 3; have hf4_3 := blk_frozen BK4.out 3; have hx6_0 : w_18.cell? ⟨gb6, 0, none⟩ = some (.string t15) := bl_ BK6.out 0; have hf6_0 := blk_frozen BK6.out 0; have hx6_1 : w_18.cell? ⟨gb6, 1, none⟩ = some (.string t16) := bl_ BK6.out 1; have hf6_1 := blk_frozen BK6.out 1; have hx6_2 : w_18.cell? ⟨gb6, 2, none⟩ = some (.string t17) := bl_ BK6.out 2; have hf6_2 := blk_frozen BK6.out 2; have hx6_3 : w_18.cell? ⟨gb6, 3, none⟩ = some (.slice Ao20 t18.length co20) := bl_ BK6.out 3; have hf6_3 := blk_frozen BK6.out 3) | ((with_reducible refine gd_ (N := 10) rfl ?_); refine bx_ (N := 10) (cs := #[.string (⟨#[]⟩ : ByteArray), .string (⟨#[]⟩ : ByteArray), .string (⟨#[]⟩ : ByteArray), .slice none 0 0]) (t := 26) ?_; intro gb10 hg_ w_19 hbox_ hb_; have n0_ : Aside0 (w_18.heap.size <= w_19.heap.size) := ⟨Nat.le_trans (below_size bR_) (below_size hb_)⟩; have m0_ := A_ (Kd.S_below (vS_ HO11.out) hb_); have m1_ := A_ (Kd.S_below (vS_ HO20.out) hb_); have m2_ := A_ (Kd.S_below (vS_ HO48.out) hb_); have m3_ := A_ (blk_below (g := gb4) (o := .cells #[.string t6, .string t7, .string t8, .slice Ao11 t9.length co11] 26 (0, 0)) (vb_ BK4.out) hb_); have m4_ := A_ (blk_below (g := gb6) (o := .cells #[.string t15, .string t16, .string t17, .slice Ao20 t18.length co20] 26 (0, 0)) (vb_ BK6.out) hb_); have m5_ := A_ (below_step bB_ hb_); have m6_ := A_ hbox_; have m7_ := A_ (show w_18.heap.size <= gb10 /\ gb10 < w_19.heap.size from ⟨by rw [hg_]; exact (below_size bR_), blk_lt hbox_⟩); have m8_ := A_ (show w.heap.size <= gb10 from by rw [hg_]; exact below_size bB_); clear HO11 HO20 HO48 BK4 BK6 HB; (try clear hx4_0 hf4_0 hx4_1 hf4_1 hx4_2 hf4_2 hx4_3 hf4_3 hx6_0 hf6_0 hx6_1 hf6_1 hx6_2 hf6_2 hx6_3 hf6_3); have HZ19 := n0_; have HO11 := m0_; have HO20 := m1_; have HO48 := m2_; have BK4 := m3_; have BK6 := m4_; have HB := m5_; have BK10 := m6_; have HG10 := m7_; have GE10 := m8_; clear n0_ m0_ m1_ m2_ m3_ m4_ m5_ m6_ m7_ m8_; (try clear hb_); (try clear hk_); (try clear hw_); (try clear hg_); (try clear hbox_); have hne4_10 : (gb4 = gb10) = False := eq_false (by have := HZ1.out; have := HZ2.out; have := HZ3.out; have := HZ4.out; have := HZ5.out; have := HZ6.out; have := HZ7.out; have := HZ8.out; have := HZ9.out; have := HZ10.out; have := HZ11.out; have := HZ12.out; have := HZ13.out; have := HZ14.out; have := HZ15.out; have := HZ16.out; have := HZ17.out; have := HZ18.out; have := HZ19.out; have := HG4.out.1; have := HG4.out.2; have := HG6.out.1; have := HG6.out.2; have := HG10.out.1; have := HG10.out.2; omega); have hen4_10 : (gb10 = gb4) = False := eq_false (by have := HZ1.out; have := HZ2.out; have := HZ3.out; have := HZ4.out; have := HZ5.out; have := HZ6.out; have := HZ7.out; have := HZ8.out; have := HZ9.out; have := HZ10.out; have := HZ11.out; have := HZ12.out; have := HZ13.out; have := HZ14.out; have := HZ15.out; have := HZ16.out; have := HZ17.out; have := HZ18.out; have := HZ19.out; have := HG4.out.1; have := HG4.out.2; have := HG6.out.1; have := HG6.out.2; have := HG10.out.1; have := HG10.out.2; omega); have hne6_10 : (gb6 = gb10) = False := eq_false (by have := HZ1.out; have := HZ2.out; have := HZ3.out; have := HZ4.out; have := HZ5.out; have := HZ6.out; have := HZ7.out; have := HZ8.out; have := HZ9.out; have := HZ10.out; have := HZ11.out; have := HZ12.out; have := HZ13.out; have := HZ14.out; have := HZ15.out; have := HZ16.out; have := HZ17.out; have := HZ18.out; have := HZ19.out; have := HG4.out.1; have := HG4.out.2; have := HG6.out.1; have := HG6.out.2; have := HG10.out.1; have := HG10.out.2; omega); have hen6_10 : (gb10 = gb6) = False := eq_false (by have := HZ1.out; have := HZ2.out; have := HZ3.out; have := HZ4.out; have := HZ5.out; have := HZ6.out; have := HZ7.out; have := HZ8.out; have := HZ9.out; have := HZ10.out; have := HZ11.out; have := HZ12.out; have := HZ13.out; have := HZ14.out; have := HZ15.out; have := HZ16.out; have := HZ17.out; have := HZ18.out; have := HZ19.out; have := HG4.out.1; have := HG4.out.2; have := HG6.out.1; have := HG6.out.2; have := HG10.out.1; have := HG10.out.2; omega); have hx4_0 : w_19.cell? ⟨gb4, 0, none⟩ = some (.string t6) := bl_ BK4.out 0; have hf4_0 := blk_frozen BK4.out 0; have hx4_1 : w_19.cell? ⟨gb4, 1, none⟩ = some (.string t7) := bl_ BK4.out 1; have hf4_1 := blk_frozen BK4.out 1; have hx4_2 : w_19.cell? ⟨gb4, 2, none⟩ = some (.string t8) := bl_ BK4.out 2; have hf4_2 := blk_frozen BK4.out 2; have hx4_3 : w_19.cell? ⟨gb4, 3, none⟩ = some (.slice Ao11 t9.length co11) := bl_ BK4.out 3; have hf4_3 := blk_frozen BK4.out 3; have hx6_0 : w_19.cell? ⟨gb6, 0, none⟩ = some (.string t15) := bl_ BK6.out 0; have hf6_0 := blk_frozen BK6.out 0; have hx6_1 : w_19.cell? ⟨gb6, 1, none⟩ = some (.string t16) := bl_ BK6.out 1; have hf6_1 := blk_frozen BK6.out 1; have hx6_2 : w_19.cell? ⟨gb6, 2, none⟩ = some (.string t17) := bl_ BK6.out 2; have hf6_2 := blk_frozen BK6.out 2; have hx6_3 : w_19.cell? ⟨gb6, 3, none⟩ = some (.slice Ao20 t18.length co20) := bl_ BK6.out 3; have hf6_3 := blk_frozen BK6.out 3; have hx10_0 : w_19.cell? ⟨gb10, 0, none⟩ = some (.string (⟨#[]⟩ : ByteArray)) := bl_ BK10.out 0; have hf10_0 := blk_frozen BK10.out 0; have hx10_1 : w_19.cell? ⟨gb10, 1, none⟩ = some (.string (⟨#[]⟩ : ByteArray)) := bl_ BK10.out 1; have hf10_1 := blk_frozen BK10.out 1; have hx10_2 : w_19.cell? ⟨gb10, 2, none⟩ = some (.string (⟨#[]⟩ : ByteArray)) := bl_ BK10.out 2; have hf10_2 := blk_frozen BK10.out 2; have hx10_3 : w_19.cell? ⟨gb10, 3, none⟩ = some (.slice none 0 0) := bl_ BK10.out 3; have hf10_3 := blk_frozen BK10.out 3) | ((with_reducible refine gc_ (f := 8) rfl ?_); generalize hw0_ : ((((w_19.setCell ⟨gb10, 0, none⟩ (.string t43)).setCell ⟨gb10, 1, none⟩ (.string t44)).setCell ⟨gb10, 2, none⟩ (.string t45)).setCell ⟨gb10, 3, none⟩ (.slice Ao48 t46.length co48)) = w_20; have hw_ : w_20 = ((((w_19.setCell ⟨gb10, 0, none⟩ (.string t43)).setCell ⟨gb10, 1, none⟩ (.string t44)).setCell ⟨gb10, 2, none⟩ (.string t45)).setCell ⟨gb10, 3, none⟩ (.slice Ao48 t46.length co48)) := hw0_.symm; clear hw0_; have hk_ : Kept w_19 w_20 (fun k_ => k_ = gb10) := (by rw [hw_]; exact Kept.setCell (S := fun k_ => k_ = gb10) (p := ⟨gb10, 3, none⟩) (Kept.setCell (S := fun k_ => k_ = gb10) (p := ⟨gb10, 2, none⟩) (Kept.setCell (S := fun k_ => k_ = gb10) (p := ⟨gb10, 1, none⟩) (Kept.setCell (S := fun k_ => k_ = gb10) (p := ⟨gb10, 0, none⟩) (Kept.refl _ _) (.inl rfl) _) (.inl rfl) _) (.inl rfl) _) (.inl rfl) _); have n0_ : Aside0 (w_19.heap.size <= w_20.heap.size) := ⟨Nat.le_trans (below_size bR_) (hk_.1)⟩; have m0_ := A_ (Kd.S_step (vS_ HO11.out) (fun k_ h1_ h2_ => hk_.2 k_ h2_ (fun h3_ => by have := HZ1.out; have := HZ2.out; have := HZ3.out; have := HZ4.out; have := HZ5.out; have := HZ6.out; have := HZ7.out; have := HZ8.out; have := HZ9.out; have := HZ10.out; have := HZ11.out; have := HZ12.out; have := HZ13.out; have := HZ14.out; have := HZ15.out; have := HZ16.out; have := HZ17.out; have := HZ18.out; have := HZ19.out; have := HG4.out.1; have := HG4.out.2; have := HG6.out.1; have := HG6.out.2; have := HG10.out.1; have := HG10.out.2; omega))); have m1_ := A_ (Kd.S_step (vS_ HO20.out) (fun k_ h1_ h2_ => hk_.2 k_ h2_ (fun h3_ => by have := HZ1.out; have := HZ2.out; have := HZ3.out; have := HZ4.out; have := HZ5.out; have := HZ6.out; have := HZ7.out; have := HZ8.out; have := HZ9.out; have := HZ10.out; have := HZ11.out; have := HZ12.out; have := HZ13.out; have := HZ14.out; have := HZ15.out; have := HZ16.out; have := HZ17.out; have := HZ18.out; have := HZ19.out; have := HG4.out.1; have := HG4.out.2; have := HG6.out.1; have := HG6.out.2; have := HG10.out.1; have := HG10.out.2; omega))); have m2_ := A_ (Kd.S_step (vS_ HO48.out) (fun k_ h1_ h2_ => hk_.2 k_ h2_ (fun h3_ => by have := HZ1.out; have := HZ2.out; have := HZ3.out; have := HZ4.out; have := HZ5.out; have := HZ6.out; have := HZ7.out; have := HZ8.out; have := HZ9.out; have := HZ10.out; have := HZ11.out; have := HZ12.out; have := HZ13.out; have := HZ14.out; have := HZ15.out; have := HZ16.out; have := HZ17.out; have := HZ18.out; have := HZ19.out; have := HG4.out.1; have := HG4.out.2; have := HG6.out.1; have := HG6.out.2; have := HG10.out.1; have := HG10.out.2; omega))); have m3_ := A_ ((hk_.2 gb4 (blk_lt BK4.out) (fun h3_ => by have := HZ1.out; have := HZ2.out; have := HZ3.out; have := HZ4.out; have := HZ5.out; have := HZ6.out; have := HZ7.out; have := HZ8.out; have := HZ9.out; have := HZ10.out; have := HZ11.out; have := HZ12.out; have := HZ13.out; have := HZ14.out; have := HZ15.out; have := HZ16.out; have := HZ17.out; have := HZ18.out; have := HZ19.out; have := HG4.out.1; have := HG4.out.2; have := HG6.out.1; have := HG6.out.2; have := HG10.out.1; have := HG10.out.2; omega)).trans BK4.out); have m4_ := A_ ((hk_.2 gb6 (blk_lt BK6.out) (fun h3_ => by have := HZ1.out; have := HZ2.out; have := HZ3.out; have := HZ4.out; have := HZ5.out; have := HZ6.out; have := HZ7.out; have := HZ8.out; have := HZ9.out; have := HZ10.out; have := HZ11.out; have := HZ12.out; have := HZ13.out; have := HZ14.out; have := HZ15.out; have := HZ16.out; have := HZ17.out; have := HZ18.out; have := HZ19.out; have := HG4.out.1; have := HG4.out.2; have := HG6.out.1; have := HG6.out.2; have := HG10.out.1; have := HG10.out.2; omega)).trans BK6.out); have m5_ := A_ (show Below w.heap.size w w_20 from by rw [hw_]; exact below_set (below_set (below_set (below_set (HB.out) GE10.out) GE10.out) GE10.out) GE10.out); have m6_ := A_ (show w_20.heap[gb10]? = some (.cells #[.string t43, .string t44, .string t45, .slice Ao48 t46.length co48] 26 (0, 0)) from by rw [hw_]; exact blk_put (cs := #[.string t43, .string t44, .string t45, .slice none 0 0]) (cs' := #[.string t43, .string t44, .string t45, .slice Ao48 t46.length co48]) (blk_put (cs := #[.string t43, .string t44, .string (⟨#[]⟩ : ByteArray), .slice none 0 0]) (cs' := #[.string t43, .string t44, .string t45, .slice none 0 0]) (blk_put (cs := #[.string t43, .string (⟨#[]⟩ : ByteArray), .string (⟨#[]⟩ : ByteArray), .slice none 0 0]) (cs' := #[.string t43, .string t44, .string (⟨#[]⟩ : ByteArray), .slice none 0 0]) (blk_put (cs := #[.string (⟨#[]⟩ : ByteArray), .string (⟨#[]⟩ : ByteArray), .string (⟨#[]⟩ : ByteArray), .slice none 0 0]) (cs' := #[.string t43, .string (⟨#[]⟩ : ByteArray), .string (⟨#[]⟩ : ByteArray), .slice none 0 0]) (BK10.out) 0 (.string t43) rfl) 1 (.string t44) rfl) 2 (.string t45) rfl) 3 (.slice Ao48 t46.length co48) rfl); clear HO11 HO20 HO48 BK4 BK6 HB BK10; (try clear hx4_0 hf4_0 hx4_1 hf4_1 hx4_2 hf4_2 hx4_3 hf4_3 hx6_0 hf6_0 hx6_1 hf6_1 hx6_2 hf6_2 hx6_3 hf6_3 hx10_0 hf10_0 hx10_1 hf10_1 hx10_2 hf10_2 hx10_3 hf10_3); have HZ20 := n0_; have HO11 := m0_; have HO20 := m1_; have HO48 := m2_; have BK4 := m3_; have BK6 := m4_; have HB := m5_; have BK10 := m6_; clear n0_ m0_ m1_ m2_ m3_ m4_ m5_ m6_; (try clear hb_); (try clear hk_); (try clear hw_); (try clear hg_); (try clear hbox_); have hx4_0 : w_20.cell? ⟨gb4, 0, none⟩ = some (.string t6) := bl_ BK4.out 0; have hf4_0 := blk_frozen BK4.out 0; have hx4_1 : w_20.cell? ⟨gb4, 1, none⟩ = some (.string t7) := bl_ BK4.out 1; have hf4_1 := blk_frozen BK4.out 1; have hx4_2 : w_20.cell? ⟨gb4, 2, none⟩ = some (.string t8) := bl_ BK4.out 2; have hf4_2 := blk_frozen BK4.out 2; have hx4_3 : w_20.cell? ⟨gb4, 3, none⟩ = some (.slice Ao11 t9.length co11) := bl_ BK4.out 3; have hf4_3 := blk_frozen BK4.out 3; have hx6_0 : w_20.cell? ⟨gb6, 0, none⟩ = some (.string t15) := bl_ BK6.out 0; have hf6_0 := blk_frozen BK6.out 0; have hx6_1 : w_20.cell? ⟨gb6, 1, none⟩ = some (.string t16) := bl_ BK6.out 1; have hf6_1 := blk_frozen BK6.out 1; have hx6_2 : w_20.cell? ⟨gb6, 2, none⟩ = some (.string t17) := bl_ BK6.out 2; have hf6_2 := blk_frozen BK6.out 2; have hx6_3 : w_20.cell? ⟨gb6, 3, none⟩ = some (.slice Ao20 t18.length co20) := bl_ BK6.out 3; have hf6_3 := blk_frozen BK6.out 3; have hx10_0 : w_20.cell? ⟨gb10, 0, none⟩ = some (.string t43) := bl_ BK10.out 0; have hf10_0 := blk_frozen BK10.out 0; have hx10_1 : w_20.cell? ⟨gb10, 1, none⟩ = some (.string t44) := bl_ BK10.out 1; have hf10_1 := blk_frozen BK10.out 1; have hx10_2 : w_20.cell? ⟨gb10, 2, none⟩ = some (.string t45) := bl_ BK10.out 2; have hf10_2 := blk_frozen BK10.out 2; have hx10_3 : w_20.cell? ⟨gb10, 3, none⟩ = some (.slice Ao48 t46.length co48) := bl_ BK10.out 3; have hf10_3 := blk_frozen BK10.out 3; refine gL_ (some 59) Try.func8 #[.agg #[.string t43, .string t44, .string t45, .slice Ao48 t46.length co48], .agg #[.string t6, .string t7, .string t8, .slice Ao11 t9.length co11]] ?_; (with_reducible refine (laws_eqNode.calls k t43 t44 t45 Ao48 co48 t46 t6 t7 t8 Ao11 co11 t9 true _ ?s1 ?s2 ?s3 ?s4 FA50.out).mono ?_); (case s1 => exact cC_ (Kd.S_reads' HO48.out).2.2); (case s2 => exact (Kd.S_reads' HO48.out).2.1); (case s3 => exact cC_ (Kd.S_reads' HO11.out).2.2); (case s4 => exact (Kd.S_reads' HO11.out).2.1); rintro e w_21 ⟨rfl, hb_⟩; refine ⟨_, rfl, ?_⟩; have n0_ : Aside0 (w_20.heap.size <= w_21.heap.size) := ⟨Nat.le_trans (below_size bR_) (below_size hb_)⟩; have m0_ := A_ (Kd.S_below (vS_ HO11.out) hb_); have m1_ := A_ (Kd.S_below (vS_ HO20.out) hb_); have m2_ := A_ (Kd.S_below (vS_ HO48.out) hb_); have m3_ := A_ (blk_below (g := gb4) (o := .cells #[.string t6, .string t7, .string t8, .slice Ao11 t9.length co11] 26 (0, 0)) (vb_ BK4.out) hb_); have m4_ := A_ (blk_below (g := gb6) (o := .cells #[.string t15, .string t16, .string t17, .slice Ao20 t18.length co20] 26 (0, 0)) (vb_ BK6.out) hb_); have m5_ := A_ (blk_below (g := gb10) (o := .cells #[.string t43, .string t44, .string t45, .slice Ao48 t46.length co48] 26 (0, 0)) (vb_ BK10.out) hb_); have m6_ := A_ (below_step bB_ hb_); clear HO11 HO20 HO48 BK4 BK6 BK10 HB; (try clear hx4_0 hf4_0 hx4_1 hf4_1 hx4_2 hf4_2 hx4_3 hf4_3 hx6_0 hf6_0 hx6_1 hf6_1 hx6_2 hf6_2 hx6_3 hf6_3 hx10_0 hf10_0 hx10_1 hf10_1 hx10_2 hf10_2 hx10_3 hf10_3); have HZ21 := n0_; have HO20 := m1_; have BK4 := m3_; have BK6 := m4_; have BK10 := m5_; have HB := m6_; clear n0_ m0_ m1_ m2_ m3_ m4_ m5_ m6_; (try clear hb_); (try clear hk_); (try clear hw_); (try clear hg_); (try clear hbox_); (try clear ho0_); have hx4_0 : w_21.cell? ⟨gb4, 0, none⟩ = some (.string t6) := bl_ BK4.out 0; have hf4_0 := blk_frozen BK4.out 0; have hx4_1 : w_21.cell? ⟨gb4, 1, none⟩ = some (.string t7) := bl_ BK4.out 1; have hf4_1 := blk_frozen BK4.out 1; have hx4_2 : w_21.cell? ⟨gb4, 2, none⟩ = some (.string t8) := bl_ BK4.out 2; have hf4_2 := blk_frozen BK4.out 2; have hx4_3 : w_21.cell? ⟨gb4, 3, none⟩ = some (.slice Ao11 t9.length co11) := bl_ BK4.out 3; have hf4_3 := blk_frozen BK4.out 3; have hx6_0 : w_21.cell? ⟨gb6, 0, none⟩ = some (.string t15) := bl_ BK6.out 0; have hf6_0 := blk_frozen BK6.out 0; have hx6_1 : w_21.cell? ⟨gb6, 1, none⟩ = some (.string t16) := bl_ BK6.out 1; have hf6_1 := blk_frozen BK6.out 1; have hx6_2 : w_21.cell? ⟨gb6, 2, none⟩ = some (.string t17) := bl_ BK6.out 2; have hf6_2 := blk_frozen BK6.out 2; have hx6_3 : w_21.cell? ⟨gb6, 3, none⟩ = some (.slice Ao20 t18.length co20) := bl_ BK6.out 3; have hf6_3 := blk_frozen BK6.out 3; have hx10_0 : w_21.cell? ⟨gb10, 0, none⟩ = some (.string t43) := bl_ BK10.out 0; have hf10_0 := blk_frozen BK10.out 0; have hx10_1 : w_21.cell? ⟨gb10, 1, none⟩ = some (.string t44) := bl_ BK10.out 1; have hf10_1 := blk_frozen BK10.out 1; have hx10_2 : w_21.cell? ⟨gb10, 2, none⟩ = some (.string t45) := bl_ BK10.out 2; have hf10_2 := blk_frozen BK10.out 2; have hx10_3 : w_21.cell? ⟨gb10, 3, none⟩ = some (.slice Ao48 t46.length co48) := bl_ BK10.out 3; have hf10_3 := blk_frozen BK10.out 3) | ((with_reducible refine gc_ (f := 12) rfl ?_); refine gL_ (some 63) Try.func12 #[.agg #[.string t15, .string t16, .string t17, .slice Ao20 t18.length co20], .int .i64 1] ?_; refine calls_of_args (args' := #[.agg #[.string t15, .string t16, .string t17, .slice Ao20 t35.length co20], .int .i64 1]) (by simp only [HE37.out]) ?_; (with_reducible refine (laws_heldNode.calls k t15 t16 t17 Ao20 co20 t35 1 t51 _ ?s1 ?s2 FA52.out).mono ?_); (case s1 => repeat (first | (have h_ := Kd.S_reads' HO20.out; rw [HE37.out] at h_; exact h_.2.2) | (with_reducible refine Kd.C_alloc ?_ _) | (with_reducible refine Kd.C_drewN ?_ _) | (with_reducible refine Kd.C_drew ?_))); (case s2 => have h_ := Kd.S_reads' HO20.out; rw [HE37.out] at h_; exact h_.2.1); rintro e w_22 ⟨rfl, hb_⟩; refine ⟨_, rfl, ?_⟩; have n0_ : Aside0 (w_21.heap.size <= w_22.heap.size) := ⟨Nat.le_trans (below_size bR_) (below_size hb_)⟩; have m0_ := A_ (Kd.S_below (vS_ HO20.out) hb_); have m1_ := A_ (blk_below (g := gb4) (o := .cells #[.string t6, .string t7, .string t8, .slice Ao11 t9.length co11] 26 (0, 0)) (vb_ BK4.out) hb_); have m2_ := A_ (blk_below (g := gb6) (o := .cells #[.string t15, .string t16, .string t17, .slice Ao20 t18.length co20] 26 (0, 0)) (vb_ BK6.out) hb_); have m3_ := A_ (blk_below (g := gb10) (o := .cells #[.string t43, .string t44, .string t45, .slice Ao48 t46.length co48] 26 (0, 0)) (vb_ BK10.out) hb_); have m4_ := A_ (below_step bB_ hb_); clear HO20 BK4 BK6 BK10 HB; (try clear hx4_0 hf4_0 hx4_1 hf4_1 hx4_2 hf4_2 hx4_3 hf4_3 hx6_0 hf6_0 hx6_1 hf6_1 hx6_2 hf6_2 hx6_3 hf6_3 hx10_0 hf10_0 hx10_1 hf10_1 hx10_2 hf10_2 hx10_3 hf10_3); have HZ22 := n0_; have BK4 := m1_; have BK6 := m2_; have BK10 := m3_; have HB := m4_; clear n0_ m0_ m1_ m2_ m3_ m4_; (try clear hb_); (try clear hk_); (try clear hw_); (try clear hg_); (try clear hbox_); (try clear ho0_); have hx4_0 : w_22.cell? ⟨gb4, 0, none⟩ = some (.string t6) := bl_ BK4.out 0; have hf4_0 := blk_frozen BK4.out 0; have hx4_1 : w_22.cell? ⟨gb4, 1, none⟩ = some (.string t7) := bl_ BK4.out 1; have hf4_1 := blk_frozen BK4.out 1; have hx4_2 : w_22.cell? ⟨gb4, 2, none⟩ = some (.string t8) := bl_ BK4.out 2; have hf4_2 := blk_frozen BK4.out 2; have hx4_3 : w_22.cell? ⟨gb4, 3, none⟩ = some (.slice Ao11 t9.length co11) := bl_ BK4.out 3; have hf4_3 := blk_frozen BK4.out 3; have hx6_0 : w_22.cell? ⟨gb6, 0, none⟩ = some (.string t15) := bl_ BK6.out 0; have hf6_0 := blk_frozen BK6.out 0; have hx6_1 : w_22.cell? ⟨gb6, 1, none⟩ = some (.string t16) := bl_ BK6.out 1; have hf6_1 := blk_frozen BK6.out 1; have hx6_2 : w_22.cell? ⟨gb6, 2, none⟩ = some (.string t17) := bl_ BK6.out 2; have hf6_2 := blk_frozen BK6.out 2; have hx6_3 : w_22.cell? ⟨gb6, 3, none⟩ = some (.slice Ao20 t18.length co20) := bl_ BK6.out 3; have hf6_3 := blk_frozen BK6.out 3; have hx10_0 : w_22.cell? ⟨gb10, 0, none⟩ = some (.string t43) := bl_ BK10.out 0; have hf10_0 := blk_frozen BK10.out 0; have hx10_1 : w_22.cell? ⟨gb10, 1, none⟩ = some (.string t44) := bl_ BK10.out 1; have hf10_1 := blk_frozen BK10.out 1; have hx10_2 : w_22.cell? ⟨gb10, 2, none⟩ = some (.string t45) := bl_ BK10.out 2; have hf10_2 := blk_frozen BK10.out 2; have hx10_3 : w_22.cell? ⟨gb10, 3, none⟩ = some (.slice Ao48 t46.length co48) := bl_ BK10.out 3; have hf10_3 := blk_frozen BK10.out 3))
 go_ret
 exact ⟨rfl, bB_⟩
end Go.Proofs.Ytegkokdncakadaa.Q

/- What a reading of a parameter says of its cells, kind by kind: for the rows of laws whose parameters are slices and structs. No condition. -/
namespace Go.Proofs.Ytegkokdncakadaa.Op
open Go.RowKit Go.ChangeShapes Go.WideShapes Go.Proofs.YtegkokdncakadaaW.PrintWords
def Opens {α H : Type} (enc : TypeId × Value -> H) (P : Program) (w : World) (t : TypeId) (d : Kd α) (G : α -> Prop) : Prop :=
  ∀ fuel cs x, DataW.trod enc P w 0 (fun _ => true) true fuel t cs = some x -> ∃ a, d.K w a cs /\ G a
section
variable {H : Type} {enc : TypeId × Value -> H} {P : Program} {w : World} {t : TypeId}
theorem opens_string (ht : P.underlying t = some .string) : Opens enc P w t Kd.string (fun s => s.size <= maxLen) := by
  intro fuel cs x h
  obtain ⟨s, rfl, _, hs⟩ := DataW.trod_string ht h
  exact ⟨s, rfl, hs⟩
theorem opens_bool (ht : P.underlying t = some .bool) : Opens enc P w t Kd.bool (fun _ => True) := by
  intro fuel cs x h
  obtain ⟨s, rfl, _⟩ := DataW.trod_bool ht h
  exact ⟨s, rfl, trivial⟩
theorem opens_slice {α : Type} [Inhabited α] {e : TypeId} {d : Kd α} {G : α -> Prop} (ht : P.underlying t = some (.slice e)) (hc : P.cellsOf e = d.sz) (he : Opens enc P w e d G) :
    Opens enc P w t (Kd.slice e d) (fun l => l.length <= maxLen /\ ∀ a ∈ l, G a) := by
  intro fuel cs x h
  rcases Go.Deep.open_slice ht h with ⟨rfl, _⟩ | ⟨a, len, cap, m, n, D, Pl, rfl, _, hl, hm, hmm, _, hx⟩
  . exact ⟨[], ⟨none, 0, rfl, Nat.le_refl _, Kd.C_nil d w⟩, by simp, by simp⟩
  . have hm' : m = cap := by simpa using hmm
    have each : ∀ i, i < len -> ∃ y : α, G y /\ ∃ c, d.K w y c /\ ∀ j u, c[j]? = some u -> w.cell? (a.add (i * d.sz + j)) = some u := fun i hi => by
      obtain ⟨cs', h1, h2⟩ := hx i (by omega)
      obtain ⟨y, hK, hG⟩ := he _ _ _ h2
      obtain ⟨_, h3, h4⟩ := World.cells?_some h1
      refine ⟨y, hG, cs', hK, fun j u hu => ?_⟩
      have hj : j < P.cellsOf e := by
        have := (List.getElem?_eq_some_iff.1 hu).1
        omega
      have h5 := h4 j hj
      rw [Go.Deep.add_add, hc, hu] at h5
      exact h5
    obtain ⟨f, hf⟩ := Go.Deep.choose_lt each
    have hmax : maxLen = 9223372036854775807 := by decide
    refine ⟨(List.range len).map f, ⟨some a, cap, by simp, by simpa using hl, ?_⟩, by simp; omega, ?_⟩
    . refine ⟨rfl, by simp; omega, fun _ => ⟨a, rfl, fun j p hj => ?_⟩⟩
      have hjl : j < len := by
        have := (List.getElem?_eq_some_iff.1 hj).1
        simpa using this
      have hp : f j = p := by
        rw [List.getElem?_map, List.getElem?_range hjl] at hj
        simpa using hj
      obtain ⟨_, c, hK, hcell⟩ := hf j hjl
      exact ⟨c, d.K_len hK, hp ▸ hK, hcell⟩
    . intro y hy
      obtain ⟨j, hj, rfl⟩ := List.mem_map.1 hy
      exact (hf j (List.mem_range.1 hj)).1
end
end Go.Proofs.Ytegkokdncakadaa.Op
