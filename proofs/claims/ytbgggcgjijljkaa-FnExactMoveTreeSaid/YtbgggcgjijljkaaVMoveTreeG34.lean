import Derived.Test.YtbgggcgjijljkaaVMoveTreeG33
import Derived.Test.YtbgggcgjijljkaaVMoveTreeG30
import Derived.Deep.Slices
import Derived.WideShapes
namespace Go.Proofs.Ytbgggcgjijljkaa.Q
open Go.RowKit Go.Proofs.YtbgggcgjijljkaaW.PrintWords Go.Proofs.YtbgggcgjijljkaaW.PrintLast Go.Proofs.YtbgggcgjijljkaaW.PrintMore
attribute [local go_sem] max2_int min2_int max_two min_two max_three min_three max_four min_four
set_option linter.unusedVariables false
set_option linter.unusedSimpArgs false
def laws_heldPropS.l0 : Nat -> List (S72) -> Int -> Int -> Option (Int)
 | 0, _, _, _ => none
 | k + 1, x0, x1, x5 => if x5 < (x0.length : Int) then (if 0 <= x5 then ((laws_markText.f k x1).bind fun t419 => (if ((rd_T72 x0 x5).f0).toList = t419.toList then ((laws_markText.f k (wrap64 (x1 + 1))).bind fun t421 => (if ((rd_T72 x0 x5).f1).toList = t421.toList then ((laws_markText.f k (wrap64 ((wrap64 (x1 + 1)) + 1))).bind fun t423 => (if ((rd_T72 x0 x5).f2).toList = t423.toList then (laws_heldPropS.l0 k x0 (wrap64 ((wrap64 ((wrap64 (x1 + 1)) + 1)) + 1)) (wrap64 (x5 + 1))) else (some (-1)))) else (some (-1)))) else (some (-1)))) else (none)) else (some x1)
def laws_heldPropS.f (k : Nat) (l0 : List (S72)) (a1 : Int) : Option (Int) := laws_heldPropS.l0 k l0 a1 0
def laws_heldPropS.T4 : Bool × List (List Nat × List Nat) := (true, [([], []), ([], []), ([0, 1], [0, 1]), ([2], [2]), ([3], [3]), ([], []), ([5], [5]), ([4, 6], [4, 6])])
def laws_heldPropS.B4 : List Nat := [0, 0, 3, 7, 15, 0, 32, 127]
theorem laws_heldPropS.tab4 : rtab .any (opsOf Try.f72 4) = laws_heldPropS.T4 := by kernel_rfl
theorem laws_heldPropS.bits4 : waitsOk laws_heldPropS.T4.2 laws_heldPropS.B4 = true := by kernel_rfl
def laws_heldPropS.T7 : Bool × List (List Nat × List Nat) := (true, [([], []), ([], []), ([0, 1], [0, 1]), ([2], [2]), ([3], [3]), ([], []), ([5], [5]), ([4, 6], [4, 6])])
def laws_heldPropS.B7 : List Nat := [0, 0, 3, 7, 15, 0, 32, 127]
theorem laws_heldPropS.tab7 : rtab .any (opsOf Try.f72 7) = laws_heldPropS.T7 := by kernel_rfl
theorem laws_heldPropS.bits7 : waitsOk laws_heldPropS.T7.2 laws_heldPropS.B7 = true := by kernel_rfl
def laws_heldPropS.T10 : Bool × List (List Nat × List Nat) := (true, [([], []), ([], []), ([0, 1], [0, 1]), ([2], [2]), ([3], [3]), ([], []), ([5], [5]), ([4, 6], [4, 6])])
def laws_heldPropS.B10 : List Nat := [0, 0, 3, 7, 15, 0, 32, 127]
theorem laws_heldPropS.tab10 : rtab .any (opsOf Try.f72 10) = laws_heldPropS.T10 := by kernel_rfl
theorem laws_heldPropS.bits10 : waitsOk laws_heldPropS.T10.2 laws_heldPropS.B10 = true := by kernel_rfl
set_option maxHeartbeats 8000000 in
set_option maxRecDepth 100000 in
theorem laws_heldPropS.calls (k : Nat) (A0 : Option Addr) (c0 : Nat) (l0 : List (S72)) (a1 : Int) (r : Int) (w : World) (hr0 : Kd.C k72 w A0 l0.length l0) (hc0 : l0.length <= c0) (h : laws_heldPropS.f k l0 a1 = some r) :
 Calls Try.prog 72 #[.slice A0 l0.length c0, .int .i64 a1] w fun e w' => e = .returned (.int .i64 r) /\ Below w.heap.size w w' := by
 have HR0 := A_ hr0
 clear hr0 hc0
 have HB := A_ (Below.refl w.heap.size w)
 have H : (laws_heldPropS.l0 k l0 a1 0) = some r := h
 clear h
 have H' := A_ H
 clear H
 go_enter Try.func72, Try.ntmps72
 go_wp2
 go_loopg [1, 5] k (fun kq v1 v5 w' => ∃ (x1_1 : Int) (x5_1 : Int), v1 = .int .i64 x1_1 /\ v5 = .int .i64 x5_1 /\ Aside0 (laws_heldPropS.l0 kq l0 x1_1 x5_1 = some r) /\ Aside0 (kq <= k) /\ Aside0 (Below w.heap.size w w'))
 case atStart => exact ⟨(a1), (0), rs_, rs_, H', ⟨Nat.le_refl _⟩, ⟨bB_⟩⟩
 case round =>
  clear H'
  obtain ⟨x1_1, x5_1, rfl, rfl, HA, HK1, HB⟩ := hrel
  cases gk with
  | zero => exact absurd HA.out (by simp [laws_heldPropS.l0])
  | succ k1 =>
   have H := HA.out
   clear HA
   simp only [laws_heldPropS.l0] at H
   by_cases c3 : x5_1 < (l0.length : Int)
   rotate_left
   . rw [if_neg c3] at H
     have c3b0 := decide_eq_false c3
     clear c3
     obtain rfl := si_ H
     go_wp2
     go_ret
     exact ⟨rr_, bB_⟩
   rw [if_pos c3] at H
   have c3b0 := decide_eq_true c3
   clear c3
   by_cases c4 : 0 <= x5_1
   rotate_left
   . exact absurd H (by rw [if_neg c4]; simp)
   rw [if_pos c4] at H
   have c4b0 := decide_eq_true c4
   clear c4
   obtain ⟨t31, A5, H⟩ := bo_ H
   (try dsimp only at H)
   by_cases c6 : ((rd_T72 l0 x5_1).f0).toList = t31.toList
   rotate_left
   . rw [if_neg c6] at H
     obtain ⟨c6b0, c6b1⟩ := eF_ c6
     obtain rfl := si_ H
     try go_wp2
     replace HB := A_ (below_drew1 HB.out)
     have p2 : 0 <= (x5_1 : Int) := od_
     have q2 : x5_1 < (l0.length : Int) := od_
     obtain ⟨ad2, e2, hx2_0, hx2_1, hx2_2⟩ := at_T72 HR0.out x5_1 p2 q2
     have hw2_2 := hx2_2
     have hw2_1 := hx2_1
     have hw2_0 := hx2_0
     cases e2
     replace hx2_0 := bc_ HB.out hx2_0
     replace hx2_1 := bc_ HB.out hx2_1
     replace hx2_2 := bc_ HB.out hx2_2
     replace p2 := eq_true p2
     replace q2 := eq_true q2
     refine st3_ (n := 8) (ds := []) (be_ hw2_0) (be_ hw2_1) (be_ hw2_2) (fun hHeld => ?_); refine with_tabW laws_heldPropS.tab4 laws_heldPropS.bits4 (fun HT_ HW_ => ?_)
     generalize wr.drew = w27 at HB hx2_0 hx2_1 hx2_2 hHeld ⊢
     refine pu_ (i := 0) (N := some 12) ?_
     refine pu_ (i := 1) (N := some 13) ?_
     refine pu_ (i := 2) (N := some 14) ?_
     refine pu_ (i := 3) (N := some 15) ?_
     refine pu_ (i := 5) (N := some 17) ?_
     refine tk_ (i := 4) (N := some 16) hHeld ?_
     refine on_ (i := 6) (N := some 18) (fun K hK => ?_)
     refine goes_ Try.func69 (by kernel_rfl) rfl #[.int .i64 x1_1] (by rfl) rfl rfl ml_ ?_
     with_reducible refine (laws_markText.calls k1 x1_1 t31 _ A5.out).mono ?_
     rintro e w28 ⟨rfl, hb⟩
     refine ⟨_, rfl, ?_⟩
     replace HB := A_ (below_step bB_ hb)
     clear hb
     refine hK.out _ _ ⟨(be_ hw2_0), (be_ hw2_1), (be_ hw2_2)⟩ (fun hHeld => ?_)
     clear hK K
     refine no_ (some 18) ?_
     refine pu_ (i := 7) (N := some 19) ?_
     refine done_ (done_of HT_.out (by kernel_rfl)) ?_
     (try clear hHeld)
     try go_wp2
     go_ret
     exact ⟨rr_, bB_⟩
   rw [if_pos c6] at H
   obtain ⟨c6b0, c6b1⟩ := eT_ c6
   clear c6
   obtain ⟨t32, A7, H⟩ := bo_ H
   (try dsimp only at H)
   by_cases c8 : ((rd_T72 l0 x5_1).f1).toList = t32.toList
   rotate_left
   . rw [if_neg c8] at H
     obtain ⟨c8b0, c8b1⟩ := eF_ c8
     obtain rfl := si_ H
     try go_wp2
     replace HB := A_ (below_drew1 HB.out)
     have p2 : 0 <= (x5_1 : Int) := od_
     have q2 : x5_1 < (l0.length : Int) := od_
     obtain ⟨ad2, e2, hx2_0, hx2_1, hx2_2⟩ := at_T72 HR0.out x5_1 p2 q2
     have hw2_2 := hx2_2
     have hw2_1 := hx2_1
     have hw2_0 := hx2_0
     cases e2
     replace hx2_0 := bc_ HB.out hx2_0
     replace hx2_1 := bc_ HB.out hx2_1
     replace hx2_2 := bc_ HB.out hx2_2
     replace p2 := eq_true p2
     replace q2 := eq_true q2
     refine st3_ (n := 8) (ds := []) (be_ hw2_0) (be_ hw2_1) (be_ hw2_2) (fun hHeld => ?_); refine with_tabW laws_heldPropS.tab4 laws_heldPropS.bits4 (fun HT_ HW_ => ?_)
     generalize wr.drew = w23 at HB hx2_0 hx2_1 hx2_2 hHeld ⊢
     refine pu_ (i := 0) (N := some 12) ?_
     refine pu_ (i := 1) (N := some 13) ?_
     refine pu_ (i := 2) (N := some 14) ?_
     refine pu_ (i := 3) (N := some 15) ?_
     refine pu_ (i := 5) (N := some 17) ?_
     refine tk_ (i := 4) (N := some 16) hHeld ?_
     refine on_ (i := 6) (N := some 18) (fun K hK => ?_)
     refine goes_ Try.func69 (by kernel_rfl) rfl #[.int .i64 x1_1] (by rfl) rfl rfl ml_ ?_
     with_reducible refine (laws_markText.calls k1 x1_1 t31 _ A5.out).mono ?_
     rintro e w24 ⟨rfl, hb⟩
     refine ⟨_, rfl, ?_⟩
     replace HB := A_ (below_step bB_ hb)
     clear hb
     refine hK.out _ _ ⟨(be_ hw2_0), (be_ hw2_1), (be_ hw2_2)⟩ (fun hHeld => ?_)
     clear hK K
     refine no_ (some 18) ?_
     refine pu_ (i := 7) (N := some 19) ?_
     refine done_ (done_of HT_.out (by kernel_rfl)) ?_
     (try clear hHeld)
     try go_wp2
     replace HB := A_ (below_drew1 HB.out)
     have p29 : 0 <= (x5_1 : Int) := od_
     have q29 : x5_1 < (l0.length : Int) := od_
     obtain ⟨ad29, e29, hx29_0, hx29_1, hx29_2⟩ := at_T72 HR0.out x5_1 p29 q29
     have hw29_2 := hx29_2
     have hw29_1 := hx29_1
     have hw29_0 := hx29_0
     obtain rfl : ad2 = ad29 := (by injection e29)
     replace hx29_0 := bc_ HB.out hx29_0
     replace hx29_1 := bc_ HB.out hx29_1
     replace hx29_2 := bc_ HB.out hx29_2
     replace p29 := eq_true p29
     replace q29 := eq_true q29
     refine st3_ (n := 8) (ds := []) (be_ hw29_0) (be_ hw29_1) (be_ hw29_2) (fun hHeld => ?_); refine with_tabW laws_heldPropS.tab7 laws_heldPropS.bits7 (fun HT_ HW_ => ?_)
     generalize w24.drew = w25 at HB hx29_0 hx29_1 hx29_2 hHeld ⊢
     refine pu_ (i := 0) (N := some 22) ?_
     refine pu_ (i := 1) (N := some 23) ?_
     refine pu_ (i := 2) (N := some 24) ?_
     refine pu_ (i := 3) (N := some 25) ?_
     refine pu_ (i := 5) (N := some 27) ?_
     refine tk_ (i := 4) (N := some 26) hHeld ?_
     refine on_ (i := 6) (N := some 28) (fun K hK => ?_)
     refine goes_ Try.func69 (by kernel_rfl) rfl #[.int .i64 (wrap64 (x1_1 + 1))] (by rfl) rfl rfl ml_ ?_
     with_reducible refine (laws_markText.calls k1 (wrap64 (x1_1 + 1)) t32 _ A7.out).mono ?_
     rintro e w26 ⟨rfl, hb⟩
     refine ⟨_, rfl, ?_⟩
     replace HB := A_ (below_step bB_ hb)
     clear hb
     refine hK.out _ _ ⟨(be_ hw29_0), (be_ hw29_1), (be_ hw29_2)⟩ (fun hHeld => ?_)
     clear hK K
     refine no_ (some 28) ?_
     refine pu_ (i := 7) (N := some 29) ?_
     refine done_ (done_of HT_.out (by kernel_rfl)) ?_
     (try clear hHeld)
     try go_wp2
     go_ret
     exact ⟨rr_, bB_⟩
   rw [if_pos c8] at H
   obtain ⟨c8b0, c8b1⟩ := eT_ c8
   clear c8
   obtain ⟨t33, A9, H⟩ := bo_ H
   (try dsimp only at H)
   by_cases c10 : ((rd_T72 l0 x5_1).f2).toList = t33.toList
   rotate_left
   . rw [if_neg c10] at H
     obtain ⟨c10b0, c10b1⟩ := eF_ c10
     obtain rfl := si_ H
     try go_wp2
     replace HB := A_ (below_drew1 HB.out)
     have p2 : 0 <= (x5_1 : Int) := od_
     have q2 : x5_1 < (l0.length : Int) := od_
     obtain ⟨ad2, e2, hx2_0, hx2_1, hx2_2⟩ := at_T72 HR0.out x5_1 p2 q2
     have hw2_2 := hx2_2
     have hw2_1 := hx2_1
     have hw2_0 := hx2_0
     cases e2
     replace hx2_0 := bc_ HB.out hx2_0
     replace hx2_1 := bc_ HB.out hx2_1
     replace hx2_2 := bc_ HB.out hx2_2
     replace p2 := eq_true p2
     replace q2 := eq_true q2
     refine st3_ (n := 8) (ds := []) (be_ hw2_0) (be_ hw2_1) (be_ hw2_2) (fun hHeld => ?_); refine with_tabW laws_heldPropS.tab4 laws_heldPropS.bits4 (fun HT_ HW_ => ?_)
     generalize wr.drew = w17 at HB hx2_0 hx2_1 hx2_2 hHeld ⊢
     refine pu_ (i := 0) (N := some 12) ?_
     refine pu_ (i := 1) (N := some 13) ?_
     refine pu_ (i := 2) (N := some 14) ?_
     refine pu_ (i := 3) (N := some 15) ?_
     refine pu_ (i := 5) (N := some 17) ?_
     refine tk_ (i := 4) (N := some 16) hHeld ?_
     refine on_ (i := 6) (N := some 18) (fun K hK => ?_)
     refine goes_ Try.func69 (by kernel_rfl) rfl #[.int .i64 x1_1] (by rfl) rfl rfl ml_ ?_
     with_reducible refine (laws_markText.calls k1 x1_1 t31 _ A5.out).mono ?_
     rintro e w18 ⟨rfl, hb⟩
     refine ⟨_, rfl, ?_⟩
     replace HB := A_ (below_step bB_ hb)
     clear hb
     refine hK.out _ _ ⟨(be_ hw2_0), (be_ hw2_1), (be_ hw2_2)⟩ (fun hHeld => ?_)
     clear hK K
     refine no_ (some 18) ?_
     refine pu_ (i := 7) (N := some 19) ?_
     refine done_ (done_of HT_.out (by kernel_rfl)) ?_
     (try clear hHeld)
     try go_wp2
     replace HB := A_ (below_drew1 HB.out)
     have p29 : 0 <= (x5_1 : Int) := od_
     have q29 : x5_1 < (l0.length : Int) := od_
     obtain ⟨ad29, e29, hx29_0, hx29_1, hx29_2⟩ := at_T72 HR0.out x5_1 p29 q29
     have hw29_2 := hx29_2
     have hw29_1 := hx29_1
     have hw29_0 := hx29_0
     obtain rfl : ad2 = ad29 := (by injection e29)
     replace hx29_0 := bc_ HB.out hx29_0
     replace hx29_1 := bc_ HB.out hx29_1
     replace hx29_2 := bc_ HB.out hx29_2
     replace p29 := eq_true p29
     replace q29 := eq_true q29
     refine st3_ (n := 8) (ds := []) (be_ hw29_0) (be_ hw29_1) (be_ hw29_2) (fun hHeld => ?_); refine with_tabW laws_heldPropS.tab7 laws_heldPropS.bits7 (fun HT_ HW_ => ?_)
     generalize w18.drew = w19 at HB hx29_0 hx29_1 hx29_2 hHeld ⊢
     refine pu_ (i := 0) (N := some 22) ?_
     refine pu_ (i := 1) (N := some 23) ?_
     refine pu_ (i := 2) (N := some 24) ?_
     refine pu_ (i := 3) (N := some 25) ?_
     refine pu_ (i := 5) (N := some 27) ?_
     refine tk_ (i := 4) (N := some 26) hHeld ?_
     refine on_ (i := 6) (N := some 28) (fun K hK => ?_)
     refine goes_ Try.func69 (by kernel_rfl) rfl #[.int .i64 (wrap64 (x1_1 + 1))] (by rfl) rfl rfl ml_ ?_
     with_reducible refine (laws_markText.calls k1 (wrap64 (x1_1 + 1)) t32 _ A7.out).mono ?_
     rintro e w20 ⟨rfl, hb⟩
     refine ⟨_, rfl, ?_⟩
     replace HB := A_ (below_step bB_ hb)
     clear hb
     refine hK.out _ _ ⟨(be_ hw29_0), (be_ hw29_1), (be_ hw29_2)⟩ (fun hHeld => ?_)
     clear hK K
     refine no_ (some 28) ?_
     refine pu_ (i := 7) (N := some 29) ?_
     refine done_ (done_of HT_.out (by kernel_rfl)) ?_
     (try clear hHeld)
     try go_wp2
     replace HB := A_ (below_drew1 HB.out)
     have p30 : 0 <= (x5_1 : Int) := od_
     have q30 : x5_1 < (l0.length : Int) := od_
     obtain ⟨ad30, e30, hx30_0, hx30_1, hx30_2⟩ := at_T72 HR0.out x5_1 p30 q30
     have hw30_2 := hx30_2
     have hw30_1 := hx30_1
     have hw30_0 := hx30_0
     obtain rfl : ad2 = ad30 := (by injection e30)
     replace hx30_0 := bc_ HB.out hx30_0
     replace hx30_1 := bc_ HB.out hx30_1
     replace hx30_2 := bc_ HB.out hx30_2
     replace p30 := eq_true p30
     replace q30 := eq_true q30
     refine st3_ (n := 8) (ds := []) (be_ hw30_0) (be_ hw30_1) (be_ hw30_2) (fun hHeld => ?_); refine with_tabW laws_heldPropS.tab10 laws_heldPropS.bits10 (fun HT_ HW_ => ?_)
     generalize w20.drew = w21 at HB hx30_0 hx30_1 hx30_2 hHeld ⊢
     refine pu_ (i := 0) (N := some 32) ?_
     refine pu_ (i := 1) (N := some 33) ?_
     refine pu_ (i := 2) (N := some 34) ?_
     refine pu_ (i := 3) (N := some 35) ?_
     refine pu_ (i := 5) (N := some 37) ?_
     refine tk_ (i := 4) (N := some 36) hHeld ?_
     refine on_ (i := 6) (N := some 38) (fun K hK => ?_)
     refine goes_ Try.func69 (by kernel_rfl) rfl #[.int .i64 (wrap64 ((wrap64 (x1_1 + 1)) + 1))] (by rfl) rfl rfl ml_ ?_
     with_reducible refine (laws_markText.calls k1 (wrap64 ((wrap64 (x1_1 + 1)) + 1)) t33 _ A9.out).mono ?_
     rintro e w22 ⟨rfl, hb⟩
     refine ⟨_, rfl, ?_⟩
     replace HB := A_ (below_step bB_ hb)
     clear hb
     refine hK.out _ _ ⟨(be_ hw30_0), (be_ hw30_1), (be_ hw30_2)⟩ (fun hHeld => ?_)
     clear hK K
     refine no_ (some 38) ?_
     refine pu_ (i := 7) (N := some 39) ?_
     refine done_ (done_of HT_.out (by kernel_rfl)) ?_
     (try clear hHeld)
     try go_wp2
     go_ret
     exact ⟨rr_, bB_⟩
   rw [if_pos c10] at H
   obtain ⟨c10b0, c10b1⟩ := eT_ c10
   clear c10
   have H' := A_ H
   clear H
   try go_wp2
   replace HB := A_ (below_drew1 HB.out)
   have p2 : 0 <= (x5_1 : Int) := od_
   have q2 : x5_1 < (l0.length : Int) := od_
   obtain ⟨ad2, e2, hx2_0, hx2_1, hx2_2⟩ := at_T72 HR0.out x5_1 p2 q2
   have hw2_2 := hx2_2
   have hw2_1 := hx2_1
   have hw2_0 := hx2_0
   cases e2
   replace hx2_0 := bc_ HB.out hx2_0
   replace hx2_1 := bc_ HB.out hx2_1
   replace hx2_2 := bc_ HB.out hx2_2
   replace p2 := eq_true p2
   replace q2 := eq_true q2
   refine st3_ (n := 8) (ds := []) (be_ hw2_0) (be_ hw2_1) (be_ hw2_2) (fun hHeld => ?_); refine with_tabW laws_heldPropS.tab4 laws_heldPropS.bits4 (fun HT_ HW_ => ?_)
   generalize wr.drew = w11 at HB hx2_0 hx2_1 hx2_2 hHeld ⊢
   refine pu_ (i := 0) (N := some 12) ?_
   refine pu_ (i := 1) (N := some 13) ?_
   refine pu_ (i := 2) (N := some 14) ?_
   refine pu_ (i := 3) (N := some 15) ?_
   refine pu_ (i := 5) (N := some 17) ?_
   refine tk_ (i := 4) (N := some 16) hHeld ?_
   refine on_ (i := 6) (N := some 18) (fun K hK => ?_)
   refine goes_ Try.func69 (by kernel_rfl) rfl #[.int .i64 x1_1] (by rfl) rfl rfl ml_ ?_
   with_reducible refine (laws_markText.calls k1 x1_1 t31 _ A5.out).mono ?_
   rintro e w12 ⟨rfl, hb⟩
   refine ⟨_, rfl, ?_⟩
   replace HB := A_ (below_step bB_ hb)
   clear hb
   refine hK.out _ _ ⟨(be_ hw2_0), (be_ hw2_1), (be_ hw2_2)⟩ (fun hHeld => ?_)
   clear hK K
   refine no_ (some 18) ?_
   refine pu_ (i := 7) (N := some 19) ?_
   refine done_ (done_of HT_.out (by kernel_rfl)) ?_
   (try clear hHeld)
   try go_wp2
   replace HB := A_ (below_drew1 HB.out)
   have p29 : 0 <= (x5_1 : Int) := od_
   have q29 : x5_1 < (l0.length : Int) := od_
   obtain ⟨ad29, e29, hx29_0, hx29_1, hx29_2⟩ := at_T72 HR0.out x5_1 p29 q29
   have hw29_2 := hx29_2
   have hw29_1 := hx29_1
   have hw29_0 := hx29_0
   obtain rfl : ad2 = ad29 := (by injection e29)
   replace hx29_0 := bc_ HB.out hx29_0
   replace hx29_1 := bc_ HB.out hx29_1
   replace hx29_2 := bc_ HB.out hx29_2
   replace p29 := eq_true p29
   replace q29 := eq_true q29
   refine st3_ (n := 8) (ds := []) (be_ hw29_0) (be_ hw29_1) (be_ hw29_2) (fun hHeld => ?_); refine with_tabW laws_heldPropS.tab7 laws_heldPropS.bits7 (fun HT_ HW_ => ?_)
   generalize w12.drew = w13 at HB hx29_0 hx29_1 hx29_2 hHeld ⊢
   refine pu_ (i := 0) (N := some 22) ?_
   refine pu_ (i := 1) (N := some 23) ?_
   refine pu_ (i := 2) (N := some 24) ?_
   refine pu_ (i := 3) (N := some 25) ?_
   refine pu_ (i := 5) (N := some 27) ?_
   refine tk_ (i := 4) (N := some 26) hHeld ?_
   refine on_ (i := 6) (N := some 28) (fun K hK => ?_)
   refine goes_ Try.func69 (by kernel_rfl) rfl #[.int .i64 (wrap64 (x1_1 + 1))] (by rfl) rfl rfl ml_ ?_
   with_reducible refine (laws_markText.calls k1 (wrap64 (x1_1 + 1)) t32 _ A7.out).mono ?_
   rintro e w14 ⟨rfl, hb⟩
   refine ⟨_, rfl, ?_⟩
   replace HB := A_ (below_step bB_ hb)
   clear hb
   refine hK.out _ _ ⟨(be_ hw29_0), (be_ hw29_1), (be_ hw29_2)⟩ (fun hHeld => ?_)
   clear hK K
   refine no_ (some 28) ?_
   refine pu_ (i := 7) (N := some 29) ?_
   refine done_ (done_of HT_.out (by kernel_rfl)) ?_
   (try clear hHeld)
   try go_wp2
   replace HB := A_ (below_drew1 HB.out)
   have p30 : 0 <= (x5_1 : Int) := od_
   have q30 : x5_1 < (l0.length : Int) := od_
   obtain ⟨ad30, e30, hx30_0, hx30_1, hx30_2⟩ := at_T72 HR0.out x5_1 p30 q30
   have hw30_2 := hx30_2
   have hw30_1 := hx30_1
   have hw30_0 := hx30_0
   obtain rfl : ad2 = ad30 := (by injection e30)
   replace hx30_0 := bc_ HB.out hx30_0
   replace hx30_1 := bc_ HB.out hx30_1
   replace hx30_2 := bc_ HB.out hx30_2
   replace p30 := eq_true p30
   replace q30 := eq_true q30
   refine st3_ (n := 8) (ds := []) (be_ hw30_0) (be_ hw30_1) (be_ hw30_2) (fun hHeld => ?_); refine with_tabW laws_heldPropS.tab10 laws_heldPropS.bits10 (fun HT_ HW_ => ?_)
   generalize w14.drew = w15 at HB hx30_0 hx30_1 hx30_2 hHeld ⊢
   refine pu_ (i := 0) (N := some 32) ?_
   refine pu_ (i := 1) (N := some 33) ?_
   refine pu_ (i := 2) (N := some 34) ?_
   refine pu_ (i := 3) (N := some 35) ?_
   refine pu_ (i := 5) (N := some 37) ?_
   refine tk_ (i := 4) (N := some 36) hHeld ?_
   refine on_ (i := 6) (N := some 38) (fun K hK => ?_)
   refine goes_ Try.func69 (by kernel_rfl) rfl #[.int .i64 (wrap64 ((wrap64 (x1_1 + 1)) + 1))] (by rfl) rfl rfl ml_ ?_
   with_reducible refine (laws_markText.calls k1 (wrap64 ((wrap64 (x1_1 + 1)) + 1)) t33 _ A9.out).mono ?_
   rintro e w16 ⟨rfl, hb⟩
   refine ⟨_, rfl, ?_⟩
   replace HB := A_ (below_step bB_ hb)
   clear hb
   refine hK.out _ _ ⟨(be_ hw30_0), (be_ hw30_1), (be_ hw30_2)⟩ (fun hHeld => ?_)
   clear hK K
   refine no_ (some 38) ?_
   refine pu_ (i := 7) (N := some 39) ?_
   refine done_ (done_of HT_.out (by kernel_rfl)) ?_
   (try clear hHeld)
   try go_wp2
   go_roundg k1
   case measure => have := HK1.out; omega
   case rel => exact ⟨(wrap64 ((wrap64 ((wrap64 (x1_1 + 1)) + 1)) + 1)), (wrap64 (x5_1 + 1)), rs_, rs_, H', ⟨by have := HK1.out; omega⟩, ⟨bB_⟩⟩
def laws_heldResS.l0 : Nat -> List (S57) -> Int -> Int -> Option (Int)
 | 0, _, _, _ => none
 | k + 1, x0, x1, x5 => if x5 < (x0.length : Int) then (if 0 <= x5 then ((laws_heldStringS.f k ((rd_T57 x0 x5).f0) x1).bind fun t425 => (if t425 < 0 then (some (-1)) else (if (((rd_T57 x0 x5).f1) != ((Int.tmod t425 3) == 0)) = true then (some (-1)) else ((laws_markText.f k (wrap64 (t425 + 1))).bind fun t428 => (if ((rd_T57 x0 x5).f2).toList = t428.toList then (if ((rd_T57 x0 x5).f3) = (wrap64 ((wrap64 (t425 + 1)) + 1)) then ((laws_heldPropS.f k ((rd_T57 x0 x5).f4) (wrap64 ((wrap64 ((wrap64 (t425 + 1)) + 1)) + 1))).bind fun t431 => (if t431 < 0 then (some (-1)) else (laws_heldResS.l0 k x0 t431 (wrap64 (x5 + 1))))) else (some (-1))) else (some (-1))))))) else (none)) else (some x1)
def laws_heldResS.f (k : Nat) (l0 : List (S57)) (a1 : Int) : Option (Int) := laws_heldResS.l0 k l0 a1 0
def laws_heldResS.T10 : Bool × List (List Nat × List Nat) := (true, [([], []), ([], []), ([0, 1], [0, 1]), ([2], [2]), ([3], [3]), ([], []), ([5], [5]), ([4, 6], [4, 6])])
def laws_heldResS.B10 : List Nat := [0, 0, 3, 7, 15, 0, 32, 127]
theorem laws_heldResS.tab10 : rtab .any (opsOf Try.f23 10) = laws_heldResS.T10 := by kernel_rfl
theorem laws_heldResS.bits10 : waitsOk laws_heldResS.T10.2 laws_heldResS.B10 = true := by kernel_rfl
set_option maxHeartbeats 8000000 in
set_option maxRecDepth 100000 in
theorem laws_heldResS.calls (k : Nat) (A0 : Option Addr) (c0 : Nat) (l0 : List (S57)) (a1 : Int) (r : Int) (w : World) (hr0 : Kd.C k57 w A0 l0.length l0) (hc0 : l0.length <= c0) (h : laws_heldResS.f k l0 a1 = some r) :
 Calls Try.prog 23 #[.slice A0 l0.length c0, .int .i64 a1] w fun e w' => e = .returned (.int .i64 r) /\ Below w.heap.size w w' := by
 have HR0 := A_ hr0
 clear hr0 hc0
 have HB := A_ (Below.refl w.heap.size w)
 have H : (laws_heldResS.l0 k l0 a1 0) = some r := h
 clear h
 have H' := A_ H
 clear H
 go_enter Try.func23, Try.ntmps23
 go_wp2
 go_loopg [1, 5] k (fun kq v1 v5 w' => ∃ (x1_1 : Int) (x5_1 : Int), v1 = .int .i64 x1_1 /\ v5 = .int .i64 x5_1 /\ Aside0 (laws_heldResS.l0 kq l0 x1_1 x5_1 = some r) /\ Aside0 (kq <= k) /\ Aside0 (Below w.heap.size w w'))
 case atStart => exact ⟨(a1), (0), rs_, rs_, H', ⟨Nat.le_refl _⟩, ⟨bB_⟩⟩
 case round =>
  clear H'
  obtain ⟨x1_1, x5_1, rfl, rfl, HA, HK1, HB⟩ := hrel
  cases gk with
  | zero => exact absurd HA.out (by simp [laws_heldResS.l0])
  | succ k1 =>
   have H := HA.out
   clear HA
   simp only [laws_heldResS.l0] at H
   by_cases c3 : x5_1 < (l0.length : Int)
   rotate_left
   . rw [if_neg c3] at H
     have c3b0 := decide_eq_false c3
     clear c3
     obtain rfl := si_ H
     go_wp2
     go_ret
     exact ⟨rr_, bB_⟩
   rw [if_pos c3] at H
   have c3b0 := decide_eq_true c3
   clear c3
   by_cases c4 : 0 <= x5_1
   rotate_left
   . exact absurd H (by rw [if_neg c4]; simp)
   rw [if_pos c4] at H
   have c4b0 := decide_eq_true c4
   clear c4
   obtain ⟨t34, A5, H⟩ := bo_ H
   (try dsimp only at H)
   by_cases c6 : t34 < 0
   . rw [if_pos c6] at H
     have c6b0 := decide_eq_true c6
     clear c6
     obtain rfl := si_ H
     have p29 : 0 <= (x5_1 : Int) := od_
     have q29 : x5_1 < (l0.length : Int) := od_
     obtain ⟨ad29, A29_0, c29_0, A29_4, c29_4, e29, hx29_0, hx29_1, hx29_2, hx29_3, hx29_4, hl29_0, hi29_0, hl29_4, hi29_4⟩ := at_T57 HR0.out x5_1 p29 q29
     cases e29
     replace hx29_0 := bc_ HB.out hx29_0
     replace hx29_1 := bc_ HB.out hx29_1
     replace hx29_2 := bc_ HB.out hx29_2
     replace hx29_3 := bc_ HB.out hx29_3
     replace hx29_4 := bc_ HB.out hx29_4
     have HR29_0 := A_ hi29_0
     have HC29_0 := A_ hl29_0
     clear hi29_0 hl29_0
     clear hi29_4 hl29_4
     replace p29 := eq_true p29
     replace q29 := eq_true q29
     go_wp2_with (first | ((with_reducible refine gc_ (f := 71) rfl ?_); refine gL_ (some 18) Try.func71 #[.slice A29_0 ((rd_T57 l0 x5_1).f0).length c29_0, .int .i64 x1_1] ?_; (with_reducible refine (laws_heldStringS.calls k1 _ _ ((rd_T57 l0 x5_1).f0) x1_1 t34 _ ?s1 ?s2 A5.out).mono ?_); (case s1 => exact cC_ (Kd.C_below HR29_0.out HB.out)); (case s2 => exact HC29_0.out); rintro e w7 ⟨rfl, hb⟩; refine ⟨_, rfl, ?_⟩; replace HB := A_ (below_step bB_ hb); clear hb))
     go_ret
     exact ⟨rr_, bB_⟩
   rw [if_neg c6] at H
   have c6b0 := decide_eq_false c6
   clear c6
   by_cases c8 : (((rd_T57 l0 x5_1).f1) != ((Int.tmod t34 3) == 0)) = true
   . rw [if_pos c8] at H
     have c8b0 : (((rd_T57 l0 x5_1).f1) != ((Int.tmod t34 3) == 0)) = true := c8
     (try (have c8b1 : decide (((rd_T57 l0 x5_1).f1) = ((Int.tmod t34 3) == 0)) = false := by simpa using c8))
     (try (have c8b2 : (((rd_T57 l0 x5_1).f1) == ((Int.tmod t34 3) == 0)) = false := by simpa using c8))
     (try (have c8b3 : ¬ (((rd_T57 l0 x5_1).f1) = ((Int.tmod t34 3) == 0)) := by simpa using c8))
     clear c8
     obtain rfl := si_ H
     have p29 : 0 <= (x5_1 : Int) := od_
     have q29 : x5_1 < (l0.length : Int) := od_
     obtain ⟨ad29, A29_0, c29_0, A29_4, c29_4, e29, hx29_0, hx29_1, hx29_2, hx29_3, hx29_4, hl29_0, hi29_0, hl29_4, hi29_4⟩ := at_T57 HR0.out x5_1 p29 q29
     cases e29
     replace hx29_0 := bc_ HB.out hx29_0
     replace hx29_1 := bc_ HB.out hx29_1
     replace hx29_2 := bc_ HB.out hx29_2
     replace hx29_3 := bc_ HB.out hx29_3
     replace hx29_4 := bc_ HB.out hx29_4
     have HR29_0 := A_ hi29_0
     have HC29_0 := A_ hl29_0
     clear hi29_0 hl29_0
     clear hi29_4 hl29_4
     replace p29 := eq_true p29
     replace q29 := eq_true q29
     go_wp2_with (first | ((with_reducible refine gc_ (f := 71) rfl ?_); refine gL_ (some 18) Try.func71 #[.slice A29_0 ((rd_T57 l0 x5_1).f0).length c29_0, .int .i64 x1_1] ?_; (with_reducible refine (laws_heldStringS.calls k1 _ _ ((rd_T57 l0 x5_1).f0) x1_1 t34 _ ?s1 ?s2 A5.out).mono ?_); (case s1 => exact cC_ (Kd.C_below HR29_0.out HB.out)); (case s2 => exact HC29_0.out); rintro e w9 ⟨rfl, hb⟩; refine ⟨_, rfl, ?_⟩; replace HB := A_ (below_step bB_ hb); clear hb; have p31 : 0 <= (x5_1 : Int) := od_; have q31 : x5_1 < (l0.length : Int) := od_; obtain ⟨ad31, A31_0, c31_0, A31_4, c31_4, e31, hx31_0, hx31_1, hx31_2, hx31_3, hx31_4, hl31_0, hi31_0, hl31_4, hi31_4⟩ := at_T57 HR0.out x5_1 p31 q31; obtain rfl : ad29 = ad31 := (by injection e31); replace hx31_0 := bc_ HB.out hx31_0; replace hx31_1 := bc_ HB.out hx31_1; replace hx31_2 := bc_ HB.out hx31_2; replace hx31_3 := bc_ HB.out hx31_3; replace hx31_4 := bc_ HB.out hx31_4; clear hi31_0 hl31_0; clear hi31_4 hl31_4; replace p31 := eq_true p31; replace q31 := eq_true q31))
     go_ret
     exact ⟨rr_, bB_⟩
   rw [if_neg c8] at H
   have c8b0 : (((rd_T57 l0 x5_1).f1) != ((Int.tmod t34 3) == 0)) = false := by simpa using c8
   (try (have c8b1 : decide (((rd_T57 l0 x5_1).f1) = ((Int.tmod t34 3) == 0)) = true := by simpa using c8))
   (try (have c8b2 : (((rd_T57 l0 x5_1).f1) == ((Int.tmod t34 3) == 0)) = true := by simpa using c8))
   clear c8
   obtain ⟨t35, A10, H⟩ := bo_ H
   (try dsimp only at H)
   by_cases c11 : ((rd_T57 l0 x5_1).f2).toList = t35.toList
   rotate_left
   . rw [if_neg c11] at H
     obtain ⟨c11b0, c11b1⟩ := eF_ c11
     obtain rfl := si_ H
     have p29 : 0 <= (x5_1 : Int) := od_
     have q29 : x5_1 < (l0.length : Int) := od_
     obtain ⟨ad29, A29_0, c29_0, A29_4, c29_4, e29, hx29_0, hx29_1, hx29_2, hx29_3, hx29_4, hl29_0, hi29_0, hl29_4, hi29_4⟩ := at_T57 HR0.out x5_1 p29 q29
     cases e29
     replace hx29_0 := bc_ HB.out hx29_0
     replace hx29_1 := bc_ HB.out hx29_1
     replace hx29_2 := bc_ HB.out hx29_2
     replace hx29_3 := bc_ HB.out hx29_3
     replace hx29_4 := bc_ HB.out hx29_4
     have HR29_0 := A_ hi29_0
     have HC29_0 := A_ hl29_0
     clear hi29_0 hl29_0
     clear hi29_4 hl29_4
     replace p29 := eq_true p29
     replace q29 := eq_true q29
     try go_wp2_with (first | ((with_reducible refine gc_ (f := 71) rfl ?_); refine gL_ (some 18) Try.func71 #[.slice A29_0 ((rd_T57 l0 x5_1).f0).length c29_0, .int .i64 x1_1] ?_; (with_reducible refine (laws_heldStringS.calls k1 _ _ ((rd_T57 l0 x5_1).f0) x1_1 t34 _ ?s1 ?s2 A5.out).mono ?_); (case s1 => exact cC_ (Kd.C_below HR29_0.out HB.out)); (case s2 => exact HC29_0.out); rintro e w26 ⟨rfl, hb⟩; refine ⟨_, rfl, ?_⟩; replace HB := A_ (below_step bB_ hb); clear hb; have p31 : 0 <= (x5_1 : Int) := od_; have q31 : x5_1 < (l0.length : Int) := od_; obtain ⟨ad31, A31_0, c31_0, A31_4, c31_4, e31, hx31_0, hx31_1, hx31_2, hx31_3, hx31_4, hl31_0, hi31_0, hl31_4, hi31_4⟩ := at_T57 HR0.out x5_1 p31 q31; obtain rfl : ad29 = ad31 := (by injection e31); replace hx31_0 := bc_ HB.out hx31_0; replace hx31_1 := bc_ HB.out hx31_1; replace hx31_2 := bc_ HB.out hx31_2; replace hx31_3 := bc_ HB.out hx31_3; replace hx31_4 := bc_ HB.out hx31_4; clear hi31_0 hl31_0; clear hi31_4 hl31_4; replace p31 := eq_true p31; replace q31 := eq_true q31))
     replace HB := A_ (below_drew1 HB.out)
     have p30 : 0 <= (x5_1 : Int) := od_
     have q30 : x5_1 < (l0.length : Int) := od_
     obtain ⟨ad30, A30_0, c30_0, A30_4, c30_4, e30, hx30_0, hx30_1, hx30_2, hx30_3, hx30_4, hl30_0, hi30_0, hl30_4, hi30_4⟩ := at_T57 HR0.out x5_1 p30 q30
     have hw30_4 := hx30_4
     have hw30_3 := hx30_3
     have hw30_2 := hx30_2
     have hw30_1 := hx30_1
     have hw30_0 := hx30_0
     obtain rfl : ad29 = ad30 := (by injection e30)
     replace hx30_0 := bc_ HB.out hx30_0
     replace hx30_1 := bc_ HB.out hx30_1
     replace hx30_2 := bc_ HB.out hx30_2
     replace hx30_3 := bc_ HB.out hx30_3
     replace hx30_4 := bc_ HB.out hx30_4
     clear hi30_0 hl30_0
     clear hi30_4 hl30_4
     replace p30 := eq_true p30
     replace q30 := eq_true q30
     refine st5_ (n := 8) (ds := []) (be_ hw30_0) (be_ hw30_1) (be_ hw30_2) (be_ hw30_3) (be_ hw30_4) (fun hHeld => ?_); refine with_tabW laws_heldResS.tab10 laws_heldResS.bits10 (fun HT_ HW_ => ?_)
     generalize w26.drew = w27 at HB hx30_0 hx30_1 hx30_2 hx30_3 hx30_4 hHeld ⊢
     refine pu_ (i := 0) (N := some 32) ?_
     refine pu_ (i := 1) (N := some 33) ?_
     refine pu_ (i := 2) (N := some 34) ?_
     refine pu_ (i := 3) (N := some 35) ?_
     refine pu_ (i := 5) (N := some 37) ?_
     refine tk_ (i := 4) (N := some 36) hHeld ?_
     refine on_ (i := 6) (N := some 38) (fun K hK => ?_)
     refine goes_ Try.func69 (by kernel_rfl) rfl #[.int .i64 (wrap64 (t34 + 1))] (by rfl) rfl rfl ml_ ?_
     with_reducible refine (laws_markText.calls k1 (wrap64 (t34 + 1)) t35 _ A10.out).mono ?_
     rintro e w28 ⟨rfl, hb⟩
     refine ⟨_, rfl, ?_⟩
     replace HB := A_ (below_step bB_ hb)
     clear hb
     refine hK.out _ _ ⟨(be_ hw30_0), (be_ hw30_1), (be_ hw30_2), (be_ hw30_3), (be_ hw30_4)⟩ (fun hHeld => ?_)
     clear hK K
     refine no_ (some 38) ?_
     refine pu_ (i := 7) (N := some 39) ?_
     refine done_ (done_of HT_.out (by kernel_rfl)) ?_
     (try clear hHeld)
     try go_wp2
     go_ret
     exact ⟨rr_, bB_⟩
   rw [if_pos c11] at H
   obtain ⟨c11b0, c11b1⟩ := eT_ c11
   clear c11
   by_cases c12 : ((rd_T57 l0 x5_1).f3) = (wrap64 ((wrap64 (t34 + 1)) + 1))
   rotate_left
   . rw [if_neg c12] at H
     obtain ⟨c12b0, c12b1⟩ := eF_ c12
     obtain rfl := si_ H
     have p29 : 0 <= (x5_1 : Int) := od_
     have q29 : x5_1 < (l0.length : Int) := od_
     obtain ⟨ad29, A29_0, c29_0, A29_4, c29_4, e29, hx29_0, hx29_1, hx29_2, hx29_3, hx29_4, hl29_0, hi29_0, hl29_4, hi29_4⟩ := at_T57 HR0.out x5_1 p29 q29
     cases e29
     replace hx29_0 := bc_ HB.out hx29_0
     replace hx29_1 := bc_ HB.out hx29_1
     replace hx29_2 := bc_ HB.out hx29_2
     replace hx29_3 := bc_ HB.out hx29_3
     replace hx29_4 := bc_ HB.out hx29_4
     have HR29_0 := A_ hi29_0
     have HC29_0 := A_ hl29_0
     clear hi29_0 hl29_0
     clear hi29_4 hl29_4
     replace p29 := eq_true p29
     replace q29 := eq_true q29
     try go_wp2_with (first | ((with_reducible refine gc_ (f := 71) rfl ?_); refine gL_ (some 18) Try.func71 #[.slice A29_0 ((rd_T57 l0 x5_1).f0).length c29_0, .int .i64 x1_1] ?_; (with_reducible refine (laws_heldStringS.calls k1 _ _ ((rd_T57 l0 x5_1).f0) x1_1 t34 _ ?s1 ?s2 A5.out).mono ?_); (case s1 => exact cC_ (Kd.C_below HR29_0.out HB.out)); (case s2 => exact HC29_0.out); rintro e w23 ⟨rfl, hb⟩; refine ⟨_, rfl, ?_⟩; replace HB := A_ (below_step bB_ hb); clear hb; have p31 : 0 <= (x5_1 : Int) := od_; have q31 : x5_1 < (l0.length : Int) := od_; obtain ⟨ad31, A31_0, c31_0, A31_4, c31_4, e31, hx31_0, hx31_1, hx31_2, hx31_3, hx31_4, hl31_0, hi31_0, hl31_4, hi31_4⟩ := at_T57 HR0.out x5_1 p31 q31; obtain rfl : ad29 = ad31 := (by injection e31); replace hx31_0 := bc_ HB.out hx31_0; replace hx31_1 := bc_ HB.out hx31_1; replace hx31_2 := bc_ HB.out hx31_2; replace hx31_3 := bc_ HB.out hx31_3; replace hx31_4 := bc_ HB.out hx31_4; clear hi31_0 hl31_0; clear hi31_4 hl31_4; replace p31 := eq_true p31; replace q31 := eq_true q31))
     replace HB := A_ (below_drew1 HB.out)
     have p30 : 0 <= (x5_1 : Int) := od_
     have q30 : x5_1 < (l0.length : Int) := od_
     obtain ⟨ad30, A30_0, c30_0, A30_4, c30_4, e30, hx30_0, hx30_1, hx30_2, hx30_3, hx30_4, hl30_0, hi30_0, hl30_4, hi30_4⟩ := at_T57 HR0.out x5_1 p30 q30
     have hw30_4 := hx30_4
     have hw30_3 := hx30_3
     have hw30_2 := hx30_2
     have hw30_1 := hx30_1
     have hw30_0 := hx30_0
     obtain rfl : ad29 = ad30 := (by injection e30)
     replace hx30_0 := bc_ HB.out hx30_0
     replace hx30_1 := bc_ HB.out hx30_1
     replace hx30_2 := bc_ HB.out hx30_2
     replace hx30_3 := bc_ HB.out hx30_3
     replace hx30_4 := bc_ HB.out hx30_4
     clear hi30_0 hl30_0
     clear hi30_4 hl30_4
     replace p30 := eq_true p30
     replace q30 := eq_true q30
     refine st5_ (n := 8) (ds := []) (be_ hw30_0) (be_ hw30_1) (be_ hw30_2) (be_ hw30_3) (be_ hw30_4) (fun hHeld => ?_); refine with_tabW laws_heldResS.tab10 laws_heldResS.bits10 (fun HT_ HW_ => ?_)
     generalize w23.drew = w24 at HB hx30_0 hx30_1 hx30_2 hx30_3 hx30_4 hHeld ⊢
     refine pu_ (i := 0) (N := some 32) ?_
     refine pu_ (i := 1) (N := some 33) ?_
     refine pu_ (i := 2) (N := some 34) ?_
     refine pu_ (i := 3) (N := some 35) ?_
     refine pu_ (i := 5) (N := some 37) ?_
     refine tk_ (i := 4) (N := some 36) hHeld ?_
     refine on_ (i := 6) (N := some 38) (fun K hK => ?_)
     refine goes_ Try.func69 (by kernel_rfl) rfl #[.int .i64 (wrap64 (t34 + 1))] (by rfl) rfl rfl ml_ ?_
     with_reducible refine (laws_markText.calls k1 (wrap64 (t34 + 1)) t35 _ A10.out).mono ?_
     rintro e w25 ⟨rfl, hb⟩
     refine ⟨_, rfl, ?_⟩
     replace HB := A_ (below_step bB_ hb)
     clear hb
     refine hK.out _ _ ⟨(be_ hw30_0), (be_ hw30_1), (be_ hw30_2), (be_ hw30_3), (be_ hw30_4)⟩ (fun hHeld => ?_)
     clear hK K
     refine no_ (some 38) ?_
     refine pu_ (i := 7) (N := some 39) ?_
     refine done_ (done_of HT_.out (by kernel_rfl)) ?_
     (try clear hHeld)
     have p32 : 0 <= (x5_1 : Int) := od_
     have q32 : x5_1 < (l0.length : Int) := od_
     obtain ⟨ad32, A32_0, c32_0, A32_4, c32_4, e32, hx32_0, hx32_1, hx32_2, hx32_3, hx32_4, hl32_0, hi32_0, hl32_4, hi32_4⟩ := at_T57 HR0.out x5_1 p32 q32
     obtain rfl : ad29 = ad32 := (by injection e32)
     replace hx32_0 := bc_ HB.out hx32_0
     replace hx32_1 := bc_ HB.out hx32_1
     replace hx32_2 := bc_ HB.out hx32_2
     replace hx32_3 := bc_ HB.out hx32_3
     replace hx32_4 := bc_ HB.out hx32_4
     clear hi32_0 hl32_0
     clear hi32_4 hl32_4
     replace p32 := eq_true p32
     replace q32 := eq_true q32
     try go_wp2
     go_ret
     exact ⟨rr_, bB_⟩
   rw [if_pos c12] at H
   obtain ⟨c12b0, c12b1⟩ := eT_ c12
   clear c12
   obtain ⟨t36, A13, H⟩ := bo_ H
   (try dsimp only at H)
   by_cases c14 : t36 < 0
   . rw [if_pos c14] at H
     have c14b0 := decide_eq_true c14
     clear c14
     obtain rfl := si_ H
     have p29 : 0 <= (x5_1 : Int) := od_
     have q29 : x5_1 < (l0.length : Int) := od_
     obtain ⟨ad29, A29_0, c29_0, A29_4, c29_4, e29, hx29_0, hx29_1, hx29_2, hx29_3, hx29_4, hl29_0, hi29_0, hl29_4, hi29_4⟩ := at_T57 HR0.out x5_1 p29 q29
     cases e29
     replace hx29_0 := bc_ HB.out hx29_0
     replace hx29_1 := bc_ HB.out hx29_1
     replace hx29_2 := bc_ HB.out hx29_2
     replace hx29_3 := bc_ HB.out hx29_3
     replace hx29_4 := bc_ HB.out hx29_4
     have HR29_0 := A_ hi29_0
     have HC29_0 := A_ hl29_0
     clear hi29_0 hl29_0
     clear hi29_4 hl29_4
     replace p29 := eq_true p29
     replace q29 := eq_true q29
     try go_wp2_with (first | ((with_reducible refine gc_ (f := 71) rfl ?_); refine gL_ (some 18) Try.func71 #[.slice A29_0 ((rd_T57 l0 x5_1).f0).length c29_0, .int .i64 x1_1] ?_; (with_reducible refine (laws_heldStringS.calls k1 _ _ ((rd_T57 l0 x5_1).f0) x1_1 t34 _ ?s1 ?s2 A5.out).mono ?_); (case s1 => exact cC_ (Kd.C_below HR29_0.out HB.out)); (case s2 => exact HC29_0.out); rintro e w15 ⟨rfl, hb⟩; refine ⟨_, rfl, ?_⟩; replace HB := A_ (below_step bB_ hb); clear hb; have p31 : 0 <= (x5_1 : Int) := od_; have q31 : x5_1 < (l0.length : Int) := od_; obtain ⟨ad31, A31_0, c31_0, A31_4, c31_4, e31, hx31_0, hx31_1, hx31_2, hx31_3, hx31_4, hl31_0, hi31_0, hl31_4, hi31_4⟩ := at_T57 HR0.out x5_1 p31 q31; obtain rfl : ad29 = ad31 := (by injection e31); replace hx31_0 := bc_ HB.out hx31_0; replace hx31_1 := bc_ HB.out hx31_1; replace hx31_2 := bc_ HB.out hx31_2; replace hx31_3 := bc_ HB.out hx31_3; replace hx31_4 := bc_ HB.out hx31_4; clear hi31_0 hl31_0; clear hi31_4 hl31_4; replace p31 := eq_true p31; replace q31 := eq_true q31))
     replace HB := A_ (below_drew1 HB.out)
     have p30 : 0 <= (x5_1 : Int) := od_
     have q30 : x5_1 < (l0.length : Int) := od_
     obtain ⟨ad30, A30_0, c30_0, A30_4, c30_4, e30, hx30_0, hx30_1, hx30_2, hx30_3, hx30_4, hl30_0, hi30_0, hl30_4, hi30_4⟩ := at_T57 HR0.out x5_1 p30 q30
     have hw30_4 := hx30_4
     have hw30_3 := hx30_3
     have hw30_2 := hx30_2
     have hw30_1 := hx30_1
     have hw30_0 := hx30_0
     obtain rfl : ad29 = ad30 := (by injection e30)
     replace hx30_0 := bc_ HB.out hx30_0
     replace hx30_1 := bc_ HB.out hx30_1
     replace hx30_2 := bc_ HB.out hx30_2
     replace hx30_3 := bc_ HB.out hx30_3
     replace hx30_4 := bc_ HB.out hx30_4
     clear hi30_0 hl30_0
     clear hi30_4 hl30_4
     replace p30 := eq_true p30
     replace q30 := eq_true q30
     refine st5_ (n := 8) (ds := []) (be_ hw30_0) (be_ hw30_1) (be_ hw30_2) (be_ hw30_3) (be_ hw30_4) (fun hHeld => ?_); refine with_tabW laws_heldResS.tab10 laws_heldResS.bits10 (fun HT_ HW_ => ?_)
     generalize w15.drew = w16 at HB hx30_0 hx30_1 hx30_2 hx30_3 hx30_4 hHeld ⊢
     refine pu_ (i := 0) (N := some 32) ?_
     refine pu_ (i := 1) (N := some 33) ?_
     refine pu_ (i := 2) (N := some 34) ?_
     refine pu_ (i := 3) (N := some 35) ?_
     refine pu_ (i := 5) (N := some 37) ?_
     refine tk_ (i := 4) (N := some 36) hHeld ?_
     refine on_ (i := 6) (N := some 38) (fun K hK => ?_)
     refine goes_ Try.func69 (by kernel_rfl) rfl #[.int .i64 (wrap64 (t34 + 1))] (by rfl) rfl rfl ml_ ?_
     with_reducible refine (laws_markText.calls k1 (wrap64 (t34 + 1)) t35 _ A10.out).mono ?_
     rintro e w17 ⟨rfl, hb⟩
     refine ⟨_, rfl, ?_⟩
     replace HB := A_ (below_step bB_ hb)
     clear hb
     refine hK.out _ _ ⟨(be_ hw30_0), (be_ hw30_1), (be_ hw30_2), (be_ hw30_3), (be_ hw30_4)⟩ (fun hHeld => ?_)
     clear hK K
     refine no_ (some 38) ?_
     refine pu_ (i := 7) (N := some 39) ?_
     refine done_ (done_of HT_.out (by kernel_rfl)) ?_
     (try clear hHeld)
     have p32 : 0 <= (x5_1 : Int) := od_
     have q32 : x5_1 < (l0.length : Int) := od_
     obtain ⟨ad32, A32_0, c32_0, A32_4, c32_4, e32, hx32_0, hx32_1, hx32_2, hx32_3, hx32_4, hl32_0, hi32_0, hl32_4, hi32_4⟩ := at_T57 HR0.out x5_1 p32 q32
     obtain rfl : ad29 = ad32 := (by injection e32)
     replace hx32_0 := bc_ HB.out hx32_0
     replace hx32_1 := bc_ HB.out hx32_1
     replace hx32_2 := bc_ HB.out hx32_2
     replace hx32_3 := bc_ HB.out hx32_3
     replace hx32_4 := bc_ HB.out hx32_4
     clear hi32_0 hl32_0
     clear hi32_4 hl32_4
     replace p32 := eq_true p32
     replace q32 := eq_true q32
     have p33 : 0 <= (x5_1 : Int) := od_
     have q33 : x5_1 < (l0.length : Int) := od_
     obtain ⟨ad33, A33_0, c33_0, A33_4, c33_4, e33, hx33_0, hx33_1, hx33_2, hx33_3, hx33_4, hl33_0, hi33_0, hl33_4, hi33_4⟩ := at_T57 HR0.out x5_1 p33 q33
     obtain rfl : ad29 = ad33 := (by injection e33)
     replace hx33_0 := bc_ HB.out hx33_0
     replace hx33_1 := bc_ HB.out hx33_1
     replace hx33_2 := bc_ HB.out hx33_2
     replace hx33_3 := bc_ HB.out hx33_3
     replace hx33_4 := bc_ HB.out hx33_4
     clear hi33_0 hl33_0
     have HR33_4 := A_ hi33_4
     have HC33_4 := A_ hl33_4
     clear hi33_4 hl33_4
     replace p33 := eq_true p33
     replace q33 := eq_true q33
     have ea_ := Option.some.inj (hx32_0.symm.trans hx33_0)
     injection ea_ with ea_ en_ ec_
     subst ea_
     subst ec_
     clear en_
     have ea_ := Option.some.inj (hx32_4.symm.trans hx33_4)
     injection ea_ with ea_ en_ ec_
     subst ea_
     subst ec_
     clear en_
     try go_wp2_with (first | ((with_reducible refine gc_ (f := 72) rfl ?_); refine gL_ (some 57) Try.func72 #[.slice A32_4 ((rd_T57 l0 x5_1).f4).length c32_4, .int .i64 (wrap64 ((wrap64 ((wrap64 (t34 + 1)) + 1)) + 1))] ?_; (with_reducible refine (laws_heldPropS.calls k1 _ _ ((rd_T57 l0 x5_1).f4) (wrap64 ((wrap64 ((wrap64 (t34 + 1)) + 1)) + 1)) t36 _ ?s1 ?s2 A13.out).mono ?_); (case s1 => exact cC_ (Kd.C_below HR33_4.out HB.out)); (case s2 => exact HC33_4.out); rintro e w18 ⟨rfl, hb⟩; refine ⟨_, rfl, ?_⟩; replace HB := A_ (below_step bB_ hb); clear hb))
     go_ret
     exact ⟨rr_, bB_⟩
   rw [if_neg c14] at H
   have c14b0 := decide_eq_false c14
   clear c14
   have H' := A_ H
   clear H
   have p29 : 0 <= (x5_1 : Int) := od_
   have q29 : x5_1 < (l0.length : Int) := od_
   obtain ⟨ad29, A29_0, c29_0, A29_4, c29_4, e29, hx29_0, hx29_1, hx29_2, hx29_3, hx29_4, hl29_0, hi29_0, hl29_4, hi29_4⟩ := at_T57 HR0.out x5_1 p29 q29
   cases e29
   replace hx29_0 := bc_ HB.out hx29_0
   replace hx29_1 := bc_ HB.out hx29_1
   replace hx29_2 := bc_ HB.out hx29_2
   replace hx29_3 := bc_ HB.out hx29_3
   replace hx29_4 := bc_ HB.out hx29_4
   have HR29_0 := A_ hi29_0
   have HC29_0 := A_ hl29_0
   clear hi29_0 hl29_0
   clear hi29_4 hl29_4
   replace p29 := eq_true p29
   replace q29 := eq_true q29
   try go_wp2_with (first | ((with_reducible refine gc_ (f := 71) rfl ?_); refine gL_ (some 18) Try.func71 #[.slice A29_0 ((rd_T57 l0 x5_1).f0).length c29_0, .int .i64 x1_1] ?_; (with_reducible refine (laws_heldStringS.calls k1 _ _ ((rd_T57 l0 x5_1).f0) x1_1 t34 _ ?s1 ?s2 A5.out).mono ?_); (case s1 => exact cC_ (Kd.C_below HR29_0.out HB.out)); (case s2 => exact HC29_0.out); rintro e w19 ⟨rfl, hb⟩; refine ⟨_, rfl, ?_⟩; replace HB := A_ (below_step bB_ hb); clear hb; have p31 : 0 <= (x5_1 : Int) := od_; have q31 : x5_1 < (l0.length : Int) := od_; obtain ⟨ad31, A31_0, c31_0, A31_4, c31_4, e31, hx31_0, hx31_1, hx31_2, hx31_3, hx31_4, hl31_0, hi31_0, hl31_4, hi31_4⟩ := at_T57 HR0.out x5_1 p31 q31; obtain rfl : ad29 = ad31 := (by injection e31); replace hx31_0 := bc_ HB.out hx31_0; replace hx31_1 := bc_ HB.out hx31_1; replace hx31_2 := bc_ HB.out hx31_2; replace hx31_3 := bc_ HB.out hx31_3; replace hx31_4 := bc_ HB.out hx31_4; clear hi31_0 hl31_0; clear hi31_4 hl31_4; replace p31 := eq_true p31; replace q31 := eq_true q31))
   replace HB := A_ (below_drew1 HB.out)
   have p30 : 0 <= (x5_1 : Int) := od_
   have q30 : x5_1 < (l0.length : Int) := od_
   obtain ⟨ad30, A30_0, c30_0, A30_4, c30_4, e30, hx30_0, hx30_1, hx30_2, hx30_3, hx30_4, hl30_0, hi30_0, hl30_4, hi30_4⟩ := at_T57 HR0.out x5_1 p30 q30
   have hw30_4 := hx30_4
   have hw30_3 := hx30_3
   have hw30_2 := hx30_2
   have hw30_1 := hx30_1
   have hw30_0 := hx30_0
   obtain rfl : ad29 = ad30 := (by injection e30)
   replace hx30_0 := bc_ HB.out hx30_0
   replace hx30_1 := bc_ HB.out hx30_1
   replace hx30_2 := bc_ HB.out hx30_2
   replace hx30_3 := bc_ HB.out hx30_3
   replace hx30_4 := bc_ HB.out hx30_4
   clear hi30_0 hl30_0
   clear hi30_4 hl30_4
   replace p30 := eq_true p30
   replace q30 := eq_true q30
   refine st5_ (n := 8) (ds := []) (be_ hw30_0) (be_ hw30_1) (be_ hw30_2) (be_ hw30_3) (be_ hw30_4) (fun hHeld => ?_); refine with_tabW laws_heldResS.tab10 laws_heldResS.bits10 (fun HT_ HW_ => ?_)
   generalize w19.drew = w20 at HB hx30_0 hx30_1 hx30_2 hx30_3 hx30_4 hHeld ⊢
   refine pu_ (i := 0) (N := some 32) ?_
   refine pu_ (i := 1) (N := some 33) ?_
   refine pu_ (i := 2) (N := some 34) ?_
   refine pu_ (i := 3) (N := some 35) ?_
   refine pu_ (i := 5) (N := some 37) ?_
   refine tk_ (i := 4) (N := some 36) hHeld ?_
   refine on_ (i := 6) (N := some 38) (fun K hK => ?_)
   refine goes_ Try.func69 (by kernel_rfl) rfl #[.int .i64 (wrap64 (t34 + 1))] (by rfl) rfl rfl ml_ ?_
   with_reducible refine (laws_markText.calls k1 (wrap64 (t34 + 1)) t35 _ A10.out).mono ?_
   rintro e w21 ⟨rfl, hb⟩
   refine ⟨_, rfl, ?_⟩
   replace HB := A_ (below_step bB_ hb)
   clear hb
   refine hK.out _ _ ⟨(be_ hw30_0), (be_ hw30_1), (be_ hw30_2), (be_ hw30_3), (be_ hw30_4)⟩ (fun hHeld => ?_)
   clear hK K
   refine no_ (some 38) ?_
   refine pu_ (i := 7) (N := some 39) ?_
   refine done_ (done_of HT_.out (by kernel_rfl)) ?_
   (try clear hHeld)
   have p32 : 0 <= (x5_1 : Int) := od_
   have q32 : x5_1 < (l0.length : Int) := od_
   obtain ⟨ad32, A32_0, c32_0, A32_4, c32_4, e32, hx32_0, hx32_1, hx32_2, hx32_3, hx32_4, hl32_0, hi32_0, hl32_4, hi32_4⟩ := at_T57 HR0.out x5_1 p32 q32
   obtain rfl : ad29 = ad32 := (by injection e32)
   replace hx32_0 := bc_ HB.out hx32_0
   replace hx32_1 := bc_ HB.out hx32_1
   replace hx32_2 := bc_ HB.out hx32_2
   replace hx32_3 := bc_ HB.out hx32_3
   replace hx32_4 := bc_ HB.out hx32_4
   clear hi32_0 hl32_0
   clear hi32_4 hl32_4
   replace p32 := eq_true p32
   replace q32 := eq_true q32
   have p33 : 0 <= (x5_1 : Int) := od_
   have q33 : x5_1 < (l0.length : Int) := od_
   obtain ⟨ad33, A33_0, c33_0, A33_4, c33_4, e33, hx33_0, hx33_1, hx33_2, hx33_3, hx33_4, hl33_0, hi33_0, hl33_4, hi33_4⟩ := at_T57 HR0.out x5_1 p33 q33
   obtain rfl : ad29 = ad33 := (by injection e33)
   replace hx33_0 := bc_ HB.out hx33_0
   replace hx33_1 := bc_ HB.out hx33_1
   replace hx33_2 := bc_ HB.out hx33_2
   replace hx33_3 := bc_ HB.out hx33_3
   replace hx33_4 := bc_ HB.out hx33_4
   clear hi33_0 hl33_0
   have HR33_4 := A_ hi33_4
   have HC33_4 := A_ hl33_4
   clear hi33_4 hl33_4
   replace p33 := eq_true p33
   replace q33 := eq_true q33
   have ea_ := Option.some.inj (hx32_0.symm.trans hx33_0)
   injection ea_ with ea_ en_ ec_
   subst ea_
   subst ec_
   clear en_
   have ea_ := Option.some.inj (hx32_4.symm.trans hx33_4)
   injection ea_ with ea_ en_ ec_
   subst ea_
   subst ec_
   clear en_
   try go_wp2_with (first | ((with_reducible refine gc_ (f := 72) rfl ?_); refine gL_ (some 57) Try.func72 #[.slice A32_4 ((rd_T57 l0 x5_1).f4).length c32_4, .int .i64 (wrap64 ((wrap64 ((wrap64 (t34 + 1)) + 1)) + 1))] ?_; (with_reducible refine (laws_heldPropS.calls k1 _ _ ((rd_T57 l0 x5_1).f4) (wrap64 ((wrap64 ((wrap64 (t34 + 1)) + 1)) + 1)) t36 _ ?s1 ?s2 A13.out).mono ?_); (case s1 => exact cC_ (Kd.C_below HR33_4.out HB.out)); (case s2 => exact HC33_4.out); rintro e w22 ⟨rfl, hb⟩; refine ⟨_, rfl, ?_⟩; replace HB := A_ (below_step bB_ hb); clear hb))
   go_roundg k1
   case measure => have := HK1.out; omega
   case rel => exact ⟨(t36), (wrap64 (x5_1 + 1)), rs_, rs_, H', ⟨by have := HK1.out; omega⟩, ⟨bB_⟩⟩
end Go.Proofs.Ytbgggcgjijljkaa.Q

/- The law FnExactMoveTree: its way to 'true', and the walk over it. No condition. -/
set_option linter.unusedVariables false
set_option linter.unusedSimpArgs false
namespace Go.Proofs.Ytbgggcgjijljkaa.Q
open Go.RowKit Go.Proofs.YtbgggcgjijljkaaW.PrintWords Go.Proofs.YtbgggcgjijljkaaW.PrintLast
theorem below_drawn_FnExactMoveTree {w w1 : World} {n : Nat} (h : w1 = w.drewN n) : Below w.heap.size w w1 := h ▸ pw_below_drewN (Below.refl _ _) n
def laws_FnExactMoveTree.f (k : Nat) (l0 : List (S79)) (l1 : List ByteArray) (l2 : List ByteArray) (a3 : Bool) (a4 : Int) : Option Bool := ((laws_szResS.f k l0 1048576).bind fun t1 => (if t1 < 0 then (some true) else ((laws_szStringS.f k l1 t1).bind fun t3 => (if t3 < 0 then (some true) else ((laws_szStringS.f k l2 t3).bind fun t5 => (if t5 < 0 then (some true) else ((laws_toResS.f k l0).bind fun t7 => ((laws_toStringS.f k l1).bind fun t10 => ((laws_toStringS.f k l2).bind fun t13 => ((spec_MoveTree.f k t7 t10 t13 a3 a4).bind fun bt16 => ((laws_toResS.f k l0).bind fun t20 => ((laws_toStringS.f k l1).bind fun t23 => ((laws_toStringS.f k l2).bind fun t26 => ((impl_MoveTreeX.f k t20 t23 t26 a3 a4).bind fun bt29 => ((laws_eqResS.f k bt29.1 bt16.1).bind fun t33 => (if t33 = true then (if bt29.2 = bt16.2 then ((laws_toResS.f k l0).bind fun t35 => ((laws_eqResS.f k t20 t35).bind fun t38 => (if t38 = true then ((laws_toStringS.f k l1).bind fun t40 => ((laws_eqStringS.f k t23 t40).bind fun t43 => (if t43 = true then ((laws_toStringS.f k l2).bind fun t45 => ((laws_eqStringS.f k t26 t45).bind fun t48 => (if t48 = true then ((laws_markResS.f k t20 1).bind fun bt50 => ((laws_markStringS.f k t23 bt50.1).bind fun bt54 => ((laws_markStringS.f k t26 bt54.1).bind fun bt58 => (if bt58.1 < 0 then none else ((laws_eqResS.f k bt29.1 bt16.1).bind fun t62 => (if t62 = true then (if bt29.2 = bt16.2 then ((laws_markResS.f k bt29.1 1).bind fun bt64 => ((laws_heldResS.f k bt64.2 1).bind fun t68 => (if t68 < 0 then none else (if t68 = bt64.1 then ((laws_toResS.f k l0).bind fun t70 => ((laws_toStringS.f k l1).bind fun t73 => ((laws_toStringS.f k l2).bind fun t76 => ((impl_MoveTreeX.f k t70 t73 t76 a3 a4).bind fun bt79 => ((laws_eqResS.f k bt79.1 bt16.1).bind fun t83 => (if t83 = true then (if bt79.2 = bt16.2 then ((laws_heldResS.f k bt64.2 1).bind fun t85 => (if t85 < 0 then none else (if t85 = bt64.1 then (some true) else none))) else none) else none)))))) else none)))) else none) else none)))))) else none))) else none))) else none))) else none) else none))))))))))))))))
set_option maxHeartbeats 16000000 in
set_option maxRecDepth 100000 in
theorem laws_FnExactMoveTree.calls (k : Nat) (A0 : Option Addr) (c0 : Nat) (l0 : List (S79)) (A1 : Option Addr) (c1 : Nat) (l1 : List ByteArray) (A2 : Option Addr) (c2 : Nat) (l2 : List ByteArray) (a3 : Bool) (a4 : Int) (r : Bool) (w : World) (hr0 : Kd.C k79 w A0 l0.length l0) (hc0 : l0.length <= c0) (hr1 : Kd.C Kd.string w A1 l1.length l1) (hc1 : l1.length <= c1) (hr2 : Kd.C Kd.string w A2 l2.length l2) (hc2 : l2.length <= c2) (h : laws_FnExactMoveTree.f k l0 l1 l2 a3 a4 = some r) :
 Calls Try.prog 8 #[.slice A0 l0.length c0, .slice A1 l1.length c1, .slice A2 l2.length c2, .bool a3, .int .i64 a4] w fun e w' => e = .returned (.bool r) /\ Below w.heap.size w w' := by
 have HR0 := A_ hr0
 have HC0 := A_ hc0
 have HR1 := A_ hr1
 have HC1 := A_ hc1
 have HR2 := A_ hr2
 have HC2 := A_ hc2
 clear hr0 hc0 hr1 hc1 hr2 hc2
 have HB := A_ (Below.refl w.heap.size w)
 have H : ((laws_szResS.f k l0 1048576).bind fun t1 => (if t1 < 0 then (some true) else ((laws_szStringS.f k l1 t1).bind fun t3 => (if t3 < 0 then (some true) else ((laws_szStringS.f k l2 t3).bind fun t5 => (if t5 < 0 then (some true) else ((laws_toResS.f k l0).bind fun t7 => ((laws_toStringS.f k l1).bind fun t10 => ((laws_toStringS.f k l2).bind fun t13 => ((spec_MoveTree.f k t7 t10 t13 a3 a4).bind fun bt16 => ((laws_toResS.f k l0).bind fun t20 => ((laws_toStringS.f k l1).bind fun t23 => ((laws_toStringS.f k l2).bind fun t26 => ((impl_MoveTreeX.f k t20 t23 t26 a3 a4).bind fun bt29 => ((laws_eqResS.f k bt29.1 bt16.1).bind fun t33 => (if t33 = true then (if bt29.2 = bt16.2 then ((laws_toResS.f k l0).bind fun t35 => ((laws_eqResS.f k t20 t35).bind fun t38 => (if t38 = true then ((laws_toStringS.f k l1).bind fun t40 => ((laws_eqStringS.f k t23 t40).bind fun t43 => (if t43 = true then ((laws_toStringS.f k l2).bind fun t45 => ((laws_eqStringS.f k t26 t45).bind fun t48 => (if t48 = true then ((laws_markResS.f k t20 1).bind fun bt50 => ((laws_markStringS.f k t23 bt50.1).bind fun bt54 => ((laws_markStringS.f k t26 bt54.1).bind fun bt58 => (if bt58.1 < 0 then none else ((laws_eqResS.f k bt29.1 bt16.1).bind fun t62 => (if t62 = true then (if bt29.2 = bt16.2 then ((laws_markResS.f k bt29.1 1).bind fun bt64 => ((laws_heldResS.f k bt64.2 1).bind fun t68 => (if t68 < 0 then none else (if t68 = bt64.1 then ((laws_toResS.f k l0).bind fun t70 => ((laws_toStringS.f k l1).bind fun t73 => ((laws_toStringS.f k l2).bind fun t76 => ((impl_MoveTreeX.f k t70 t73 t76 a3 a4).bind fun bt79 => ((laws_eqResS.f k bt79.1 bt16.1).bind fun t83 => (if t83 = true then (if bt79.2 = bt16.2 then ((laws_heldResS.f k bt64.2 1).bind fun t85 => (if t85 < 0 then none else (if t85 = bt64.1 then (some true) else none))) else none) else none)))))) else none)))) else none) else none)))))) else none))) else none))) else none))) else none) else none)))))))))))))))) = some r := h
 clear h
 replace H := Option.bind_eq_some_iff.mp H
 obtain ⟨t1, A0_, H⟩ := H
 (try dsimp only at H)
 have FA2 := A_ A0_
 clear A0_
 by_cases c87 : t1 < 0
 . rw [if_pos c87] at H
   have c87b0 := decide_eq_true c87
   clear c87
   obtain rfl := si_ H
   go_enter Try.func8, Try.ntmps8
   go_wp2_with (first | ((with_reducible refine gc_ (f := 13) rfl ?_); refine gL_ (some 26) Try.func13 #[.slice A0 l0.length c0, .int .i64 1048576] ?_; (with_reducible refine (laws_szResS.calls k A0 c0 l0 1048576 t1 _ ?s1 ?s2 FA2.out).mono ?_); (case s1 => exact cC_ (Kd.C_below HR0.out HB.out)); (case s2 => exact HC0.out); rintro e w_1 ⟨rfl, hb_⟩; refine ⟨_, rfl, ?_⟩; have n0_ : Aside0 (w.heap.size <= w_1.heap.size) := ⟨Nat.le_trans (below_size bR_) (below_size hb_)⟩; have m0_ := A_ (below_step bB_ hb_); clear HB; have HZ1 := n0_; have HB := m0_; clear n0_ m0_; (try clear hb_); (try clear hk_); (try clear hw_); (try clear hg_); (try clear hbox_); (try clear ho0_)))
   go_ret
   exact ⟨rfl, bB_⟩
 rw [if_neg c87] at H
 have c87b0 := decide_eq_false c87
 clear c87
 replace H := Option.bind_eq_some_iff.mp H
 obtain ⟨t3, A0_, H⟩ := H
 (try dsimp only at H)
 have FA4 := A_ A0_
 clear A0_
 by_cases c88 : t3 < 0
 . rw [if_pos c88] at H
   have c88b0 := decide_eq_true c88
   clear c88
   obtain rfl := si_ H
   go_enter Try.func8, Try.ntmps8
   go_wp2_with (first | ((with_reducible refine gc_ (f := 13) rfl ?_); refine gL_ (some 26) Try.func13 #[.slice A0 l0.length c0, .int .i64 1048576] ?_; (with_reducible refine (laws_szResS.calls k A0 c0 l0 1048576 t1 _ ?s1 ?s2 FA2.out).mono ?_); (case s1 => exact cC_ (Kd.C_below HR0.out HB.out)); (case s2 => exact HC0.out); rintro e w_1 ⟨rfl, hb_⟩; refine ⟨_, rfl, ?_⟩; have n0_ : Aside0 (w.heap.size <= w_1.heap.size) := ⟨Nat.le_trans (below_size bR_) (below_size hb_)⟩; have m0_ := A_ (below_step bB_ hb_); clear HB; have HZ1 := n0_; have HB := m0_; clear n0_ m0_; (try clear hb_); (try clear hk_); (try clear hw_); (try clear hg_); (try clear hbox_); (try clear ho0_)) | ((with_reducible refine gc_ (f := 14) rfl ?_); refine gL_ (some 31) Try.func14 #[.slice A1 l1.length c1, .int .i64 t1] ?_; (with_reducible refine (laws_szStringS.calls k A1 c1 l1 t1 t3 _ ?s1 ?s2 FA4.out).mono ?_); (case s1 => exact cC_ (Kd.C_below HR1.out HB.out)); (case s2 => exact HC1.out); rintro e w_2 ⟨rfl, ⟨nd_, hw_⟩⟩; refine ⟨_, rfl, ?_⟩; have hb_ := below_drawn_FnExactMoveTree hw_; clear hw_; have n0_ : Aside0 (w_1.heap.size <= w_2.heap.size) := ⟨Nat.le_trans (below_size bR_) (below_size hb_)⟩; have m0_ := A_ (below_step bB_ hb_); clear HB; have HZ2 := n0_; have HB := m0_; clear n0_ m0_; (try clear hb_); (try clear hk_); (try clear hw_); (try clear hg_); (try clear hbox_); (try clear ho0_)))
   go_ret
   exact ⟨rfl, bB_⟩
 rw [if_neg c88] at H
 have c88b0 := decide_eq_false c88
 clear c88
 replace H := Option.bind_eq_some_iff.mp H
 obtain ⟨t5, A0_, H⟩ := H
 (try dsimp only at H)
 have FA6 := A_ A0_
 clear A0_
 by_cases c89 : t5 < 0
 . rw [if_pos c89] at H
   have c89b0 := decide_eq_true c89
   clear c89
   obtain rfl := si_ H
   go_enter Try.func8, Try.ntmps8
   go_wp2_with (first | ((with_reducible refine gc_ (f := 13) rfl ?_); refine gL_ (some 26) Try.func13 #[.slice A0 l0.length c0, .int .i64 1048576] ?_; (with_reducible refine (laws_szResS.calls k A0 c0 l0 1048576 t1 _ ?s1 ?s2 FA2.out).mono ?_); (case s1 => exact cC_ (Kd.C_below HR0.out HB.out)); (case s2 => exact HC0.out); rintro e w_1 ⟨rfl, hb_⟩; refine ⟨_, rfl, ?_⟩; have n0_ : Aside0 (w.heap.size <= w_1.heap.size) := ⟨Nat.le_trans (below_size bR_) (below_size hb_)⟩; have m0_ := A_ (below_step bB_ hb_); clear HB; have HZ1 := n0_; have HB := m0_; clear n0_ m0_; (try clear hb_); (try clear hk_); (try clear hw_); (try clear hg_); (try clear hbox_); (try clear ho0_)) | ((with_reducible refine gc_ (f := 14) rfl ?_); refine gL_ (some 31) Try.func14 #[.slice A1 l1.length c1, .int .i64 t1] ?_; (with_reducible refine (laws_szStringS.calls k A1 c1 l1 t1 t3 _ ?s1 ?s2 FA4.out).mono ?_); (case s1 => exact cC_ (Kd.C_below HR1.out HB.out)); (case s2 => exact HC1.out); rintro e w_2 ⟨rfl, ⟨nd_, hw_⟩⟩; refine ⟨_, rfl, ?_⟩; have hb_ := below_drawn_FnExactMoveTree hw_; clear hw_; have n0_ : Aside0 (w_1.heap.size <= w_2.heap.size) := ⟨Nat.le_trans (below_size bR_) (below_size hb_)⟩; have m0_ := A_ (below_step bB_ hb_); clear HB; have HZ2 := n0_; have HB := m0_; clear n0_ m0_; (try clear hb_); (try clear hk_); (try clear hw_); (try clear hg_); (try clear hbox_); (try clear ho0_)) | ((with_reducible refine gc_ (f := 14) rfl ?_); refine gL_ (some 36) Try.func14 #[.slice A2 l2.length c2, .int .i64 t3] ?_; (with_reducible refine (laws_szStringS.calls k A2 c2 l2 t3 t5 _ ?s1 ?s2 FA6.out).mono ?_); (case s1 => exact cC_ (Kd.C_below HR2.out HB.out)); (case s2 => exact HC2.out); rintro e w_3 ⟨rfl, ⟨nd_, hw_⟩⟩; refine ⟨_, rfl, ?_⟩; have hb_ := below_drawn_FnExactMoveTree hw_; clear hw_; have n0_ : Aside0 (w_2.heap.size <= w_3.heap.size) := ⟨Nat.le_trans (below_size bR_) (below_size hb_)⟩; have m0_ := A_ (below_step bB_ hb_); clear HB; have HZ3 := n0_; have HB := m0_; clear n0_ m0_; (try clear hb_); (try clear hk_); (try clear hw_); (try clear hg_); (try clear hbox_); (try clear ho0_)))
   go_ret
   exact ⟨rfl, bB_⟩
 rw [if_neg c89] at H
 have c89b0 := decide_eq_false c89
 clear c89
 replace H := Option.bind_eq_some_iff.mp H
 obtain ⟨t7, A0_, H⟩ := H
 (try dsimp only at H)
 have FA8 := A_ A0_
 clear A0_
 replace H := Option.bind_eq_some_iff.mp H
 obtain ⟨t10, A0_, H⟩ := H
 (try dsimp only at H)
 have FA11 := A_ A0_
 clear A0_
 replace H := Option.bind_eq_some_iff.mp H
 obtain ⟨t13, A0_, H⟩ := H
 (try dsimp only at H)
 have FA14 := A_ A0_
 clear A0_
 replace H := Option.bind_eq_some_iff.mp H
 obtain ⟨⟨t16, t17⟩, A0_, H⟩ := H
 (try dsimp only at H)
 have FA18 := A_ A0_
 clear A0_
 replace H := Option.bind_eq_some_iff.mp H
 obtain ⟨t20, A0_, H⟩ := H
 (try dsimp only at H)
 have FA21 := A_ A0_
 clear A0_
 replace H := Option.bind_eq_some_iff.mp H
 obtain ⟨t23, A0_, H⟩ := H
 (try dsimp only at H)
 have FA24 := A_ A0_
 clear A0_
 replace H := Option.bind_eq_some_iff.mp H
 obtain ⟨t26, A0_, H⟩ := H
 (try dsimp only at H)
 have FA27 := A_ A0_
 clear A0_
 replace H := Option.bind_eq_some_iff.mp H
 obtain ⟨⟨t29, t30⟩, A0_, H⟩ := H
 (try dsimp only at H)
 have FA31 := A_ A0_
 clear A0_
 replace H := Option.bind_eq_some_iff.mp H
 obtain ⟨t33, A0_, H⟩ := H
 (try dsimp only at H)
 have FA34 := A_ A0_
 clear A0_
 by_cases c90 : t33 = true
 rotate_left
 . rw [if_neg c90] at H
   exact absurd H (by simp)
 subst c90
 rw [if_pos rfl] at H
 by_cases c91 : t30 = t17
 rotate_left
 . rw [if_neg c91] at H
   exact absurd H (by simp)
 rw [if_pos c91] at H
 obtain ⟨c91b0, c91b1⟩ := eT_ c91
 clear c91
 replace H := Option.bind_eq_some_iff.mp H
 obtain ⟨t35, A0_, H⟩ := H
 (try dsimp only at H)
 have FA36 := A_ A0_
 clear A0_
 replace H := Option.bind_eq_some_iff.mp H
 obtain ⟨t38, A0_, H⟩ := H
 (try dsimp only at H)
 have FA39 := A_ A0_
 clear A0_
 by_cases c92 : t38 = true
 rotate_left
 . rw [if_neg c92] at H
   exact absurd H (by simp)
 subst c92
 rw [if_pos rfl] at H
 replace H := Option.bind_eq_some_iff.mp H
 obtain ⟨t40, A0_, H⟩ := H
 (try dsimp only at H)
 have FA41 := A_ A0_
 clear A0_
 replace H := Option.bind_eq_some_iff.mp H
 obtain ⟨t43, A0_, H⟩ := H
 (try dsimp only at H)
 have FA44 := A_ A0_
 clear A0_
 by_cases c93 : t43 = true
 rotate_left
 . rw [if_neg c93] at H
   exact absurd H (by simp)
 subst c93
 rw [if_pos rfl] at H
 replace H := Option.bind_eq_some_iff.mp H
 obtain ⟨t45, A0_, H⟩ := H
 (try dsimp only at H)
 have FA46 := A_ A0_
 clear A0_
 replace H := Option.bind_eq_some_iff.mp H
 obtain ⟨t48, A0_, H⟩ := H
 (try dsimp only at H)
 have FA49 := A_ A0_
 clear A0_
 by_cases c94 : t48 = true
 rotate_left
 . rw [if_neg c94] at H
   exact absurd H (by simp)
 subst c94
 rw [if_pos rfl] at H
 replace H := Option.bind_eq_some_iff.mp H
 obtain ⟨⟨t50, t51⟩, A0_, H⟩ := H
 (try dsimp only at H)
 have FA52 := A_ A0_
 clear A0_
 replace H := Option.bind_eq_some_iff.mp H
 obtain ⟨⟨t54, t55⟩, A0_, H⟩ := H
 (try dsimp only at H)
 have FA56 := A_ A0_
 clear A0_
 replace H := Option.bind_eq_some_iff.mp H
 obtain ⟨⟨t58, t59⟩, A0_, H⟩ := H
 (try dsimp only at H)
 have FA60 := A_ A0_
 clear A0_
 by_cases c95 : t58 < 0
 . rw [if_pos c95] at H
   exact absurd H (by simp)
 rw [if_neg c95] at H
 have c95b0 := decide_eq_false c95
 clear c95
 replace H := Option.bind_eq_some_iff.mp H
 obtain ⟨t62, A0_, H⟩ := H
 (try dsimp only at H)
 have FA63 := A_ A0_
 clear A0_
 by_cases c96 : t62 = true
 rotate_left
 . rw [if_neg c96] at H
   exact absurd H (by simp)
 subst c96
 rw [if_pos rfl] at H
 by_cases c97 : t30 = t17
 rotate_left
 . rw [if_neg c97] at H
   exact absurd H (by simp)
 rw [if_pos c97] at H
 obtain ⟨c97b0, c97b1⟩ := eT_ c97
 clear c97
 replace H := Option.bind_eq_some_iff.mp H
 obtain ⟨⟨t64, t65⟩, A0_, H⟩ := H
 (try dsimp only at H)
 have FA66 := A_ A0_
 clear A0_
 replace H := Option.bind_eq_some_iff.mp H
 obtain ⟨t68, A0_, H⟩ := H
 (try dsimp only at H)
 have FA69 := A_ A0_
 clear A0_
 by_cases c98 : t68 < 0
 . rw [if_pos c98] at H
   exact absurd H (by simp)
 rw [if_neg c98] at H
 have c98b0 := decide_eq_false c98
 clear c98
 by_cases c99 : t68 = t64
 rotate_left
 . rw [if_neg c99] at H
   exact absurd H (by simp)
 rw [if_pos c99] at H
 obtain ⟨c99b0, c99b1⟩ := eT_ c99
 clear c99
 replace H := Option.bind_eq_some_iff.mp H
 obtain ⟨t70, A0_, H⟩ := H
 (try dsimp only at H)
 have FA71 := A_ A0_
 clear A0_
 replace H := Option.bind_eq_some_iff.mp H
 obtain ⟨t73, A0_, H⟩ := H
 (try dsimp only at H)
 have FA74 := A_ A0_
 clear A0_
 replace H := Option.bind_eq_some_iff.mp H
 obtain ⟨t76, A0_, H⟩ := H
 (try dsimp only at H)
 have FA77 := A_ A0_
 clear A0_
 replace H := Option.bind_eq_some_iff.mp H
 obtain ⟨⟨t79, t80⟩, A0_, H⟩ := H
 (try dsimp only at H)
 have FA81 := A_ A0_
 clear A0_
 replace H := Option.bind_eq_some_iff.mp H
 obtain ⟨t83, A0_, H⟩ := H
 (try dsimp only at H)
 have FA84 := A_ A0_
 clear A0_
 by_cases c4d : t83 = true
 rotate_left
 . rw [if_neg c4d] at H
   exact absurd H (by simp)
 subst c4d
 rw [if_pos rfl] at H
 by_cases c1d : t80 = t17
 rotate_left
 . rw [if_neg c1d] at H
   exact absurd H (by simp)
 rw [if_pos c1d] at H
 obtain ⟨c1db0, c1db1⟩ := eT_ c1d
 clear c1d
 replace H := Option.bind_eq_some_iff.mp H
 obtain ⟨t85, A0_, H⟩ := H
 (try dsimp only at H)
 have FA86 := A_ A0_
 clear A0_
 by_cases c3d : t85 < 0
 . rw [if_pos c3d] at H
   exact absurd H (by simp)
 rw [if_neg c3d] at H
 have c3db0 := decide_eq_false c3d
 clear c3d
 by_cases c2d : t85 = t64
 rotate_left
 . rw [if_neg c2d] at H
   exact absurd H (by simp)
 rw [if_pos c2d] at H
 obtain ⟨c2db0, c2db1⟩ := eT_ c2d
 clear c2d
 obtain rfl := si_ H
 go_enter Try.func8, Try.ntmps8
 go_wp2_with (first | ((with_reducible refine gc_ (f := 13) rfl ?_); refine gL_ (some 26) Try.func13 #[.slice A0 l0.length c0, .int .i64 1048576] ?_; (with_reducible refine (laws_szResS.calls k A0 c0 l0 1048576 t1 _ ?s1 ?s2 FA2.out).mono ?_); (case s1 => exact cC_ (Kd.C_below HR0.out HB.out)); (case s2 => exact HC0.out); rintro e w_1 ⟨rfl, hb_⟩; refine ⟨_, rfl, ?_⟩; have n0_ : Aside0 (w.heap.size <= w_1.heap.size) := ⟨Nat.le_trans (below_size bR_) (below_size hb_)⟩; have m0_ := A_ (below_step bB_ hb_); clear HB; have HZ1 := n0_; have HB := m0_; clear n0_ m0_; (try clear hb_); (try clear hk_); (try clear hw_); (try clear hg_); (try clear hbox_); (try clear ho0_)) | ((with_reducible refine gc_ (f := 14) rfl ?_); refine gL_ (some 31) Try.func14 #[.slice A1 l1.length c1, .int .i64 t1] ?_; (with_reducible refine (laws_szStringS.calls k A1 c1 l1 t1 t3 _ ?s1 ?s2 FA4.out).mono ?_); (case s1 => exact cC_ (Kd.C_below HR1.out HB.out)); (case s2 => exact HC1.out); rintro e w_2 ⟨rfl, ⟨nd_, hw_⟩⟩; refine ⟨_, rfl, ?_⟩; have hb_ := below_drawn_FnExactMoveTree hw_; clear hw_; have n0_ : Aside0 (w_1.heap.size <= w_2.heap.size) := ⟨Nat.le_trans (below_size bR_) (below_size hb_)⟩; have m0_ := A_ (below_step bB_ hb_); clear HB; have HZ2 := n0_; have HB := m0_; clear n0_ m0_; (try clear hb_); (try clear hk_); (try clear hw_); (try clear hg_); (try clear hbox_); (try clear ho0_)) | ((with_reducible refine gc_ (f := 14) rfl ?_); refine gL_ (some 36) Try.func14 #[.slice A2 l2.length c2, .int .i64 t3] ?_; (with_reducible refine (laws_szStringS.calls k A2 c2 l2 t3 t5 _ ?s1 ?s2 FA6.out).mono ?_); (case s1 => exact cC_ (Kd.C_below HR2.out HB.out)); (case s2 => exact HC2.out); rintro e w_3 ⟨rfl, ⟨nd_, hw_⟩⟩; refine ⟨_, rfl, ?_⟩; have hb_ := below_drawn_FnExactMoveTree hw_; clear hw_; have n0_ : Aside0 (w_2.heap.size <= w_3.heap.size) := ⟨Nat.le_trans (below_size bR_) (below_size hb_)⟩; have m0_ := A_ (below_step bB_ hb_); clear HB; have HZ3 := n0_; have HB := m0_; clear n0_ m0_; (try clear hb_); (try clear hk_); (try clear hw_); (try clear hg_); (try clear hbox_); (try clear ho0_)) | ((with_reducible refine gc_ (f := 16) rfl ?_); refine gL_ (some 41) Try.func16 #[.slice A0 l0.length c0] ?_; (with_reducible refine (laws_toResS.calls k A0 c0 l0 t7 _ ?s1 ?s2 FA8.out).mono ?_); (case s1 => exact cC_ (Kd.C_below HR0.out HB.out)); (case s2 => exact HC0.out); rintro e w_4 ⟨v5d, rfl, ho0_, hb_⟩; refine ⟨_, rfl, ?_⟩; have n0_ : Aside0 (w_3.heap.size <= w_4.heap.size) := ⟨Nat.le_trans (below_size bR_) (below_size hb_)⟩; have m0_ := A_ (below_step bB_ hb_); have m1_ := A_ (show Kd.S k57 57 w_4 w.heap.size (fun k_ => w_3.heap.size <= k_ /\ k_ < w_4.heap.size) v5d t7 from Kd.S_mono (Kd.S_lower (Kd.S_bound ho0_) (below_size bB_)) (fun k_ h_ => ⟨Nat.le_trans (below_size bR_) h_.2.1, h_.2.2.1⟩)); clear HB; have HZ4 := n0_; have HB := m0_; have HO9 := m1_; clear n0_ m0_ m1_; (try clear hb_); (try clear hk_); (try clear hw_); (try clear hg_); (try clear hbox_); (try clear ho0_); (try clear ho1_); obtain ⟨Ao9, co9, eo_⟩ := Kd.S_slice HO9.out; subst eo_) | ((with_reducible refine gc_ (f := 17) rfl ?_); refine gL_ (some 43) Try.func17 #[.slice A1 l1.length c1] ?_; (with_reducible refine (laws_toStringS.calls k A1 c1 l1 t10 _ ?s1 ?s2 FA11.out).mono ?_); (case s1 => exact cC_ (Kd.C_below HR1.out HB.out)); (case s2 => exact HC1.out); rintro e w_5 ⟨v6d, rfl, ho0_, hb_⟩; refine ⟨_, rfl, ?_⟩; have n0_ : Aside0 (w_4.heap.size <= w_5.heap.size) := ⟨Nat.le_trans (below_size bR_) (below_size hb_)⟩; have m0_ := A_ (Kd.S_below (vS_ HO9.out) hb_); have m1_ := A_ (below_step bB_ hb_); have m2_ := A_ (show Kd.R Kd.string 9 w_5 w.heap.size (fun k_ => w_4.heap.size <= k_ /\ k_ < w_5.heap.size) v6d t10 from Kd.R_mono (Kd.R_lower (Kd.R_bound ho0_) (below_size bB_)) (fun k_ h_ => ⟨Nat.le_trans (below_size bR_) h_.2.1, h_.2.2.1⟩)); clear HO9 HB; have HZ5 := n0_; have HO9 := m0_; have HB := m1_; have HO12 := m2_; clear n0_ m0_ m1_ m2_; (try clear hb_); (try clear hk_); (try clear hw_); (try clear hg_); (try clear hbox_); (try clear ho0_); (try clear ho1_); obtain ⟨Ao12, co12, eo_⟩ := Kd.R_slice HO12.out; subst eo_) | ((with_reducible refine gc_ (f := 17) rfl ?_); refine gL_ (some 45) Try.func17 #[.slice A2 l2.length c2] ?_; (with_reducible refine (laws_toStringS.calls k A2 c2 l2 t13 _ ?s1 ?s2 FA14.out).mono ?_); (case s1 => exact cC_ (Kd.C_below HR2.out HB.out)); (case s2 => exact HC2.out); rintro e w_6 ⟨v7d, rfl, ho0_, hb_⟩; refine ⟨_, rfl, ?_⟩; have n0_ : Aside0 (w_5.heap.size <= w_6.heap.size) := ⟨Nat.le_trans (below_size bR_) (below_size hb_)⟩; have m0_ := A_ (Kd.S_below (vS_ HO9.out) hb_); have m1_ := A_ (Kd.R_below (vR_ HO12.out) hb_); have m2_ := A_ (below_step bB_ hb_); have m3_ := A_ (show Kd.R Kd.string 9 w_6 w.heap.size (fun k_ => w_5.heap.size <= k_ /\ k_ < w_6.heap.size) v7d t13 from Kd.R_mono (Kd.R_lower (Kd.R_bound ho0_) (below_size bB_)) (fun k_ h_ => ⟨Nat.le_trans (below_size bR_) h_.2.1, h_.2.2.1⟩)); clear HO9 HO12 HB; have HZ6 := n0_; have HO9 := m0_; have HO12 := m1_; have HB := m2_; have HO15 := m3_; clear n0_ m0_ m1_ m2_ m3_; (try clear hb_); (try clear hk_); (try clear hw_); (try clear hg_); (try clear hbox_); (try clear ho0_); (try clear ho1_); obtain ⟨Ao15, co15, eo_⟩ := Kd.R_slice HO15.out; subst eo_) | ((with_reducible refine gc_ (f := 36) rfl ?_); refine gL_ (some 48) Try.func36 #[.slice Ao9 t7.length co9, .slice Ao12 t10.length co12, .slice Ao15 t13.length co15, .bool a3, .int .i64 a4] ?_; (with_reducible refine (spec_MoveTree.calls k Ao9 co9 t7 Ao12 co12 t10 Ao15 co15 t13 a3 a4 t16 t17 _ ?s1 ?s2 ?s3 ?s4 ?s5 ?s6 FA18.out).mono ?_); (case s1 => exact cC_ (Kd.S_reads' HO9.out).2.2); (case s2 => exact (Kd.S_reads' HO9.out).2.1); (case s3 => exact cC_ (Kd.R_reads' HO12.out).2.2); (case s4 => exact (Kd.R_reads' HO12.out).2.1); (case s5 => exact cC_ (Kd.R_reads' HO15.out).2.2); (case s6 => exact (Kd.R_reads' HO15.out).2.1); rintro e w_7 ⟨v8d, rfl, ho0_, hb_⟩; refine ⟨_, rfl, ?_⟩; have n0_ : Aside0 (w_6.heap.size <= w_7.heap.size) := ⟨Nat.le_trans (below_size bR_) (below_size hb_)⟩; have m0_ := A_ (Kd.S_below (vS_ HO9.out) hb_); have m1_ := A_ (Kd.R_below (vR_ HO12.out) hb_); have m2_ := A_ (Kd.R_below (vR_ HO15.out) hb_); have m3_ := A_ (below_step bB_ hb_); have m4_ := A_ (show Kd.S k57 57 w_7 w.heap.size (fun k_ => w_6.heap.size <= k_ /\ k_ < w_7.heap.size) v8d t16 from Kd.S_mono (Kd.S_lower (Kd.S_bound ho0_) (below_size bB_)) (fun k_ h_ => ⟨Nat.le_trans (below_size bR_) h_.2.1, h_.2.2.1⟩)); clear HO9 HO12 HO15 HB; have HZ7 := n0_; have HB := m3_; have HO19 := m4_; clear n0_ m0_ m1_ m2_ m3_ m4_; (try clear hb_); (try clear hk_); (try clear hw_); (try clear hg_); (try clear hbox_); (try clear ho0_); (try clear ho1_); obtain ⟨Ao19, co19, eo_⟩ := Kd.S_slice HO19.out; subst eo_) | ((with_reducible refine gc_ (f := 16) rfl ?_); refine gL_ (some 52) Try.func16 #[.slice A0 l0.length c0] ?_; (with_reducible refine (laws_toResS.calls k A0 c0 l0 t20 _ ?s1 ?s2 FA21.out).mono ?_); (case s1 => exact cC_ (Kd.C_below HR0.out HB.out)); (case s2 => exact HC0.out); rintro e w_8 ⟨v9d, rfl, ho0_, hb_⟩; refine ⟨_, rfl, ?_⟩; have n0_ : Aside0 (w_7.heap.size <= w_8.heap.size) := ⟨Nat.le_trans (below_size bR_) (below_size hb_)⟩; have m0_ := A_ (Kd.S_below (vS_ HO19.out) hb_); have m1_ := A_ (below_step bB_ hb_); have m2_ := A_ (show Kd.S k57 57 w_8 w.heap.size (fun k_ => w_7.heap.size <= k_ /\ k_ < w_8.heap.size) v9d t20 from Kd.S_mono (Kd.S_lower (Kd.S_bound ho0_) (below_size bB_)) (fun k_ h_ => ⟨Nat.le_trans (below_size bR_) h_.2.1, h_.2.2.1⟩)); clear HO19 HB; have HZ8 := n0_; have HO19 := m0_; have HB := m1_; have HO22 := m2_; clear n0_ m0_ m1_ m2_; (try clear hb_); (try clear hk_); (try clear hw_); (try clear hg_); (try clear hbox_); (try clear ho0_); (try clear ho1_); obtain ⟨Ao22, co22, eo_⟩ := Kd.S_slice HO22.out; subst eo_) | ((with_reducible refine gc_ (f := 17) rfl ?_); refine gL_ (some 54) Try.func17 #[.slice A1 l1.length c1] ?_; (with_reducible refine (laws_toStringS.calls k A1 c1 l1 t23 _ ?s1 ?s2 FA24.out).mono ?_); (case s1 => exact cC_ (Kd.C_below HR1.out HB.out)); (case s2 => exact HC1.out); rintro e w_9 ⟨v1e, rfl, ho0_, hb_⟩; refine ⟨_, rfl, ?_⟩; have n0_ : Aside0 (w_8.heap.size <= w_9.heap.size) := ⟨Nat.le_trans (below_size bR_) (below_size hb_)⟩; have m0_ := A_ (Kd.S_below (vS_ HO19.out) hb_); have m1_ := A_ (Kd.S_below (vS_ HO22.out) hb_); have m2_ := A_ (below_step bB_ hb_); have m3_ := A_ (show Kd.R Kd.string 9 w_9 w.heap.size (fun k_ => w_8.heap.size <= k_ /\ k_ < w_9.heap.size) v1e t23 from Kd.R_mono (Kd.R_lower (Kd.R_bound ho0_) (below_size bB_)) (fun k_ h_ => ⟨Nat.le_trans (below_size bR_) h_.2.1, h_.2.2.1⟩)); clear HO19 HO22 HB; have HZ9 := n0_; have HO19 := m0_; have HO22 := m1_; have HB := m2_; have HO25 := m3_; clear n0_ m0_ m1_ m2_ m3_; (try clear hb_); (try clear hk_); (try clear hw_); (try clear hg_); (try clear hbox_); (try clear ho0_); (try clear ho1_); obtain ⟨Ao25, co25, eo_⟩ := Kd.R_slice HO25.out; subst eo_) | ((with_reducible refine gc_ (f := 17) rfl ?_); refine gL_ (some 56) Try.func17 #[.slice A2 l2.length c2] ?_; (with_reducible refine (laws_toStringS.calls k A2 c2 l2 t26 _ ?s1 ?s2 FA27.out).mono ?_); (case s1 => exact cC_ (Kd.C_below HR2.out HB.out)); (case s2 => exact HC2.out); rintro e w_10 ⟨v2e, rfl, ho0_, hb_⟩; refine ⟨_, rfl, ?_⟩; have n0_ : Aside0 (w_9.heap.size <= w_10.heap.size) := ⟨Nat.le_trans (below_size bR_) (below_size hb_)⟩; have m0_ := A_ (Kd.S_below (vS_ HO19.out) hb_); have m1_ := A_ (Kd.S_below (vS_ HO22.out) hb_); have m2_ := A_ (Kd.R_below (vR_ HO25.out) hb_); have m3_ := A_ (below_step bB_ hb_); have m4_ := A_ (show Kd.R Kd.string 9 w_10 w.heap.size (fun k_ => w_9.heap.size <= k_ /\ k_ < w_10.heap.size) v2e t26 from Kd.R_mono (Kd.R_lower (Kd.R_bound ho0_) (below_size bB_)) (fun k_ h_ => ⟨Nat.le_trans (below_size bR_) h_.2.1, h_.2.2.1⟩)); clear HO19 HO22 HO25 HB; have HZ10 := n0_; have HO19 := m0_; have HO22 := m1_; have HO25 := m2_; have HB := m3_; have HO28 := m4_; clear n0_ m0_ m1_ m2_ m3_ m4_; (try clear hb_); (try clear hk_); (try clear hw_); (try clear hg_); (try clear hbox_); (try clear ho0_); (try clear ho1_); obtain ⟨Ao28, co28, eo_⟩ := Kd.R_slice HO28.out; subst eo_) | ((with_reducible refine gc_ (f := 37) rfl ?_); refine gL_ (some 63) Try.func37 #[.slice Ao22 t20.length co22, .slice Ao25 t23.length co25, .slice Ao28 t26.length co28, .bool a3, .int .i64 a4] ?_; (with_reducible refine (impl_MoveTreeX.calls k Ao22 co22 t20 Ao25 co25 t23 Ao28 co28 t26 a3 a4 t29 t30 _ ?s1 ?s2 ?s3 ?s4 ?s5 ?s6 FA31.out).mono ?_); (case s1 => exact cC_ (Kd.S_reads' HO22.out).2.2); (case s2 => exact (Kd.S_reads' HO22.out).2.1); (case s3 => exact cC_ (Kd.R_reads' HO25.out).2.2); (case s4 => exact (Kd.R_reads' HO25.out).2.1); (case s5 => exact cC_ (Kd.R_reads' HO28.out).2.2); (case s6 => exact (Kd.R_reads' HO28.out).2.1); rintro e w_11 ⟨v3e, rfl, ho0_, hb_⟩; refine ⟨_, rfl, ?_⟩; have n0_ : Aside0 (w_10.heap.size <= w_11.heap.size) := ⟨Nat.le_trans (below_size bR_) (below_size hb_)⟩; have m0_ := A_ (Kd.S_below (vS_ HO19.out) hb_); have m1_ := A_ (Kd.S_below (vS_ HO22.out) hb_); have m2_ := A_ (Kd.R_below (vR_ HO25.out) hb_); have m3_ := A_ (Kd.R_below (vR_ HO28.out) hb_); have m4_ := A_ (below_step bB_ hb_); have m5_ := A_ (show Kd.S k57 57 w_11 w.heap.size (fun k_ => w_10.heap.size <= k_ /\ k_ < w_11.heap.size) v3e t29 from Kd.S_mono (Kd.S_lower (Kd.S_bound ho0_) (below_size bB_)) (fun k_ h_ => ⟨Nat.le_trans (below_size bR_) h_.2.1, h_.2.2.1⟩)); clear HO19 HO22 HO25 HO28 HB; have HZ11 := n0_; have HO19 := m0_; have HO22 := m1_; have HO25 := m2_; have HO28 := m3_; have HB := m4_; have HO32 := m5_; clear n0_ m0_ m1_ m2_ m3_ m4_ m5_; (try clear hb_); (try clear hk_); (try clear hw_); (try clear hg_); (try clear hbox_); (try clear ho0_); (try clear ho1_); obtain ⟨Ao32, co32, eo_⟩ := Kd.S_slice HO32.out; subst eo_) | ((with_reducible refine gc_ (f := 19) rfl ?_); refine gL_ (some 68) Try.func19 #[.slice Ao32 t29.length co32, .slice Ao19 t16.length co19] ?_; (with_reducible refine (laws_eqResS.calls k Ao32 co32 t29 Ao19 co19 t16 true _ ?s1 ?s2 ?s3 ?s4 FA34.out).mono ?_); (case s1 => exact cC_ (Kd.S_reads' HO32.out).2.2); (case s2 => exact (Kd.S_reads' HO32.out).2.1); (case s3 => exact cC_ (Kd.S_reads' HO19.out).2.2); (case s4 => exact (Kd.S_reads' HO19.out).2.1); rintro e w_12 ⟨rfl, hb_⟩; refine ⟨_, rfl, ?_⟩; have n0_ : Aside0 (w_11.heap.size <= w_12.heap.size) := ⟨Nat.le_trans (below_size bR_) (below_size hb_)⟩; have m0_ := A_ (Kd.S_below (vS_ HO19.out) hb_); have m1_ := A_ (Kd.S_below (vS_ HO22.out) hb_); have m2_ := A_ (Kd.R_below (vR_ HO25.out) hb_); have m3_ := A_ (Kd.R_below (vR_ HO28.out) hb_); have m4_ := A_ (Kd.S_below (vS_ HO32.out) hb_); have m5_ := A_ (below_step bB_ hb_); clear HO19 HO22 HO25 HO28 HO32 HB; have HZ12 := n0_; have HO19 := m0_; have HO22 := m1_; have HO25 := m2_; have HO28 := m3_; have HO32 := m4_; have HB := m5_; clear n0_ m0_ m1_ m2_ m3_ m4_ m5_; (try clear hb_); (try clear hk_); (try clear hw_); (try clear hg_); (try clear hbox_); (try clear ho0_)) | ((with_reducible refine gc_ (f := 16) rfl ?_); refine gL_ (some 77) Try.func16 #[.slice A0 l0.length c0] ?_; (with_reducible refine (laws_toResS.calls k A0 c0 l0 t35 _ ?s1 ?s2 FA36.out).mono ?_); (case s1 => exact cC_ (Kd.C_below HR0.out HB.out)); (case s2 => exact HC0.out); rintro e w_13 ⟨v4e, rfl, ho0_, hb_⟩; refine ⟨_, rfl, ?_⟩; have n0_ : Aside0 (w_12.heap.size <= w_13.heap.size) := ⟨Nat.le_trans (below_size bR_) (below_size hb_)⟩; have m0_ := A_ (Kd.S_below (vS_ HO19.out) hb_); have m1_ := A_ (Kd.S_below (vS_ HO22.out) hb_); have m2_ := A_ (Kd.R_below (vR_ HO25.out) hb_); have m3_ := A_ (Kd.R_below (vR_ HO28.out) hb_); have m4_ := A_ (Kd.S_below (vS_ HO32.out) hb_); have m5_ := A_ (below_step bB_ hb_); have m6_ := A_ (show Kd.S k57 57 w_13 w.heap.size (fun k_ => w_12.heap.size <= k_ /\ k_ < w_13.heap.size) v4e t35 from Kd.S_mono (Kd.S_lower (Kd.S_bound ho0_) (below_size bB_)) (fun k_ h_ => ⟨Nat.le_trans (below_size bR_) h_.2.1, h_.2.2.1⟩)); clear HO19 HO22 HO25 HO28 HO32 HB; have HZ13 := n0_; have HO19 := m0_; have HO22 := m1_; have HO25 := m2_; have HO28 := m3_; have HO32 := m4_; have HB := m5_; have HO37 := m6_; clear n0_ m0_ m1_ m2_ m3_ m4_ m5_ m6_; (try clear hb_); (try clear hk_); (try clear hw_); (try clear hg_); (try clear hbox_); (try clear ho0_); (try clear ho1_); obtain ⟨Ao37, co37, eo_⟩ := Kd.S_slice HO37.out; subst eo_) | ((with_reducible refine gc_ (f := 19) rfl ?_); refine gL_ (some 78) Try.func19 #[.slice Ao22 t20.length co22, .slice Ao37 t35.length co37] ?_; (with_reducible refine (laws_eqResS.calls k Ao22 co22 t20 Ao37 co37 t35 true _ ?s1 ?s2 ?s3 ?s4 FA39.out).mono ?_); (case s1 => exact cC_ (Kd.S_reads' HO22.out).2.2); (case s2 => exact (Kd.S_reads' HO22.out).2.1); (case s3 => exact cC_ (Kd.S_reads' HO37.out).2.2); (case s4 => exact (Kd.S_reads' HO37.out).2.1); rintro e w_14 ⟨rfl, hb_⟩; refine ⟨_, rfl, ?_⟩; have n0_ : Aside0 (w_13.heap.size <= w_14.heap.size) := ⟨Nat.le_trans (below_size bR_) (below_size hb_)⟩; have m0_ := A_ (Kd.S_below (vS_ HO19.out) hb_); have m1_ := A_ (Kd.S_below (vS_ HO22.out) hb_); have m2_ := A_ (Kd.R_below (vR_ HO25.out) hb_); have m3_ := A_ (Kd.R_below (vR_ HO28.out) hb_); have m4_ := A_ (Kd.S_below (vS_ HO32.out) hb_); have m5_ := A_ (Kd.S_below (vS_ HO37.out) hb_); have m6_ := A_ (below_step bB_ hb_); clear HO19 HO22 HO25 HO28 HO32 HO37 HB; have HZ14 := n0_; have HO19 := m0_; have HO22 := m1_; have HO25 := m2_; have HO28 := m3_; have HO32 := m4_; have HB := m6_; clear n0_ m0_ m1_ m2_ m3_ m4_ m5_ m6_; (try clear hb_); (try clear hk_); (try clear hw_); (try clear hg_); (try clear hbox_); (try clear ho0_)) | ((with_reducible refine gc_ (f := 17) rfl ?_); refine gL_ (some 82) Try.func17 #[.slice A1 l1.length c1] ?_; (with_reducible refine (laws_toStringS.calls k A1 c1 l1 t40 _ ?s1 ?s2 FA41.out).mono ?_); (case s1 => exact cC_ (Kd.C_below HR1.out HB.out)); (case s2 => exact HC1.out); rintro e w_15 ⟨v5e, rfl, ho0_, hb_⟩; refine ⟨_, rfl, ?_⟩; have n0_ : Aside0 (w_14.heap.size <= w_15.heap.size) := ⟨Nat.le_trans (below_size bR_) (below_size hb_)⟩; have m0_ := A_ (Kd.S_below (vS_ HO19.out) hb_); have m1_ := A_ (Kd.S_below (vS_ HO22.out) hb_); have m2_ := A_ (Kd.R_below (vR_ HO25.out) hb_); have m3_ := A_ (Kd.R_below (vR_ HO28.out) hb_); have m4_ := A_ (Kd.S_below (vS_ HO32.out) hb_); have m5_ := A_ (below_step bB_ hb_); have m6_ := A_ (show Kd.R Kd.string 9 w_15 w.heap.size (fun k_ => w_14.heap.size <= k_ /\ k_ < w_15.heap.size) v5e t40 from Kd.R_mono (Kd.R_lower (Kd.R_bound ho0_) (below_size bB_)) (fun k_ h_ => ⟨Nat.le_trans (below_size bR_) h_.2.1, h_.2.2.1⟩)); clear HO19 HO22 HO25 HO28 HO32 HB; have HZ15 := n0_; have HO19 := m0_; have HO22 := m1_; have HO25 := m2_; have HO28 := m3_; have HO32 := m4_; have HB := m5_; have HO42 := m6_; clear n0_ m0_ m1_ m2_ m3_ m4_ m5_ m6_; (try clear hb_); (try clear hk_); (try clear hw_); (try clear hg_); (try clear hbox_); (try clear ho0_); (try clear ho1_); obtain ⟨Ao42, co42, eo_⟩ := Kd.R_slice HO42.out; subst eo_) | ((with_reducible refine gc_ (f := 20) rfl ?_); refine gL_ (some 83) Try.func20 #[.slice Ao25 t23.length co25, .slice Ao42 t40.length co42] ?_; (with_reducible refine (laws_eqStringS.calls k Ao25 co25 t23 Ao42 co42 t40 true _ ?s1 ?s2 ?s3 ?s4 FA44.out).mono ?_); (case s1 => exact cC_ (Kd.R_reads' HO25.out).2.2); (case s2 => exact (Kd.R_reads' HO25.out).2.1); (case s3 => exact cC_ (Kd.R_reads' HO42.out).2.2); (case s4 => exact (Kd.R_reads' HO42.out).2.1); rintro e w_16 ⟨rfl, ⟨nd_, hw_⟩⟩; refine ⟨_, rfl, ?_⟩; have hb_ := below_drawn_FnExactMoveTree hw_; clear hw_; have n0_ : Aside0 (w_15.heap.size <= w_16.heap.size) := ⟨Nat.le_trans (below_size bR_) (below_size hb_)⟩; have m0_ := A_ (Kd.S_below (vS_ HO19.out) hb_); have m1_ := A_ (Kd.S_below (vS_ HO22.out) hb_); have m2_ := A_ (Kd.R_below (vR_ HO25.out) hb_); have m3_ := A_ (Kd.R_below (vR_ HO28.out) hb_); have m4_ := A_ (Kd.S_below (vS_ HO32.out) hb_); have m5_ := A_ (Kd.R_below (vR_ HO42.out) hb_); have m6_ := A_ (below_step bB_ hb_); clear HO19 HO22 HO25 HO28 HO32 HO42 HB; have HZ16 := n0_; have HO19 := m0_; have HO22 := m1_; have HO25 := m2_; have HO28 := m3_; have HO32 := m4_; have HB := m6_; clear n0_ m0_ m1_ m2_ m3_ m4_ m5_ m6_; (try clear hb_); (try clear hk_); (try clear hw_); (try clear hg_); (try clear hbox_); (try clear ho0_)) | ((with_reducible refine gc_ (f := 17) rfl ?_); refine gL_ (some 87) Try.func17 #[.slice A2 l2.length c2] ?_; (with_reducible refine (laws_toStringS.calls k A2 c2 l2 t45 _ ?s1 ?s2 FA46.out).mono ?_); (case s1 => exact cC_ (Kd.C_below HR2.out HB.out)); (case s2 => exact HC2.out); rintro e w_17 ⟨v6e, rfl, ho0_, hb_⟩; refine ⟨_, rfl, ?_⟩; have n0_ : Aside0 (w_16.heap.size <= w_17.heap.size) := ⟨Nat.le_trans (below_size bR_) (below_size hb_)⟩; have m0_ := A_ (Kd.S_below (vS_ HO19.out) hb_); have m1_ := A_ (Kd.S_below (vS_ HO22.out) hb_); have m2_ := A_ (Kd.R_below (vR_ HO25.out) hb_); have m3_ := A_ (Kd.R_below (vR_ HO28.out) hb_); have m4_ := A_ (Kd.S_below (vS_ HO32.out) hb_); have m5_ := A_ (below_step bB_ hb_); have m6_ := A_ (show Kd.R Kd.string 9 w_17 w.heap.size (fun k_ => w_16.heap.size <= k_ /\ k_ < w_17.heap.size) v6e t45 from Kd.R_mono (Kd.R_lower (Kd.R_bound ho0_) (below_size bB_)) (fun k_ h_ => ⟨Nat.le_trans (below_size bR_) h_.2.1, h_.2.2.1⟩)); clear HO19 HO22 HO25 HO28 HO32 HB; have HZ17 := n0_; have HO19 := m0_; have HO22 := m1_; have HO25 := m2_; have HO28 := m3_; have HO32 := m4_; have HB := m5_; have HO47 := m6_; clear n0_ m0_ m1_ m2_ m3_ m4_ m5_ m6_; (try clear hb_); (try clear hk_); (try clear hw_); (try clear hg_); (try clear hbox_); (try clear ho0_); (try clear ho1_); obtain ⟨Ao47, co47, eo_⟩ := Kd.R_slice HO47.out; subst eo_) | ((with_reducible refine gc_ (f := 20) rfl ?_); refine gL_ (some 88) Try.func20 #[.slice Ao28 t26.length co28, .slice Ao47 t45.length co47] ?_; (with_reducible refine (laws_eqStringS.calls k Ao28 co28 t26 Ao47 co47 t45 true _ ?s1 ?s2 ?s3 ?s4 FA49.out).mono ?_); (case s1 => exact cC_ (Kd.R_reads' HO28.out).2.2); (case s2 => exact (Kd.R_reads' HO28.out).2.1); (case s3 => exact cC_ (Kd.R_reads' HO47.out).2.2); (case s4 => exact (Kd.R_reads' HO47.out).2.1); rintro e w_18 ⟨rfl, ⟨nd_, hw_⟩⟩; refine ⟨_, rfl, ?_⟩; have hb_ := below_drawn_FnExactMoveTree hw_; clear hw_; have n0_ : Aside0 (w_17.heap.size <= w_18.heap.size) := ⟨Nat.le_trans (below_size bR_) (below_size hb_)⟩; have m0_ := A_ (Kd.S_below (vS_ HO19.out) hb_); have m1_ := A_ (Kd.S_below (vS_ HO22.out) hb_); have m2_ := A_ (Kd.R_below (vR_ HO25.out) hb_); have m3_ := A_ (Kd.R_below (vR_ HO28.out) hb_); have m4_ := A_ (Kd.S_below (vS_ HO32.out) hb_); have m5_ := A_ (Kd.R_below (vR_ HO47.out) hb_); have m6_ := A_ (below_step bB_ hb_); clear HO19 HO22 HO25 HO28 HO32 HO47 HB; have HZ18 := n0_; have HO19 := m0_; have HO22 := m1_; have HO25 := m2_; have HO28 := m3_; have HO32 := m4_; have HB := m6_; clear n0_ m0_ m1_ m2_ m3_ m4_ m5_ m6_; (try clear hb_); (try clear hk_); (try clear hw_); (try clear hg_); (try clear hbox_); (try clear ho0_)) | ((with_reducible refine gc_ (f := 21) rfl ?_); refine gL_ (some 92) Try.func21 #[(.slice Ao22 t20.length co22), .int .i64 1] ?_; (with_reducible refine (laws_markResS.calls k (fun k_ => w_7.heap.size <= k_ /\ k_ < w_8.heap.size) (.slice Ao22 t20.length co22) t20 1 t50 t51 w _ ?s1 ?s2 FA52.out).mono ?_); (case s1 => exact bB_); (case s2 => exact (vS_ HO22.out)); rintro e w_19 ⟨rfl, ho0_, hb_, hk_⟩; refine ⟨_, rfl, ?_⟩; have n0_ : Aside0 (w_18.heap.size <= w_19.heap.size) := ⟨Nat.le_trans (below_size bR_) (hk_.1)⟩; have m0_ := A_ (Kd.S_step (vS_ HO19.out) (fun k_ h1_ h2_ => hk_.2 k_ h2_ (fun h3_ => by have := HZ1.out; have := HZ2.out; have := HZ3.out; have := HZ4.out; have := HZ5.out; have := HZ6.out; have := HZ7.out; have := HZ8.out; have := HZ9.out; have := HZ10.out; have := HZ11.out; have := HZ12.out; have := HZ13.out; have := HZ14.out; have := HZ15.out; have := HZ16.out; have := HZ17.out; have := HZ18.out; omega))); have m1_ := A_ (Kd.R_step (vR_ HO25.out) (fun k_ h1_ h2_ => hk_.2 k_ h2_ (fun h3_ => by have := HZ1.out; have := HZ2.out; have := HZ3.out; have := HZ4.out; have := HZ5.out; have := HZ6.out; have := HZ7.out; have := HZ8.out; have := HZ9.out; have := HZ10.out; have := HZ11.out; have := HZ12.out; have := HZ13.out; have := HZ14.out; have := HZ15.out; have := HZ16.out; have := HZ17.out; have := HZ18.out; omega))); have m2_ := A_ (Kd.R_step (vR_ HO28.out) (fun k_ h1_ h2_ => hk_.2 k_ h2_ (fun h3_ => by have := HZ1.out; have := HZ2.out; have := HZ3.out; have := HZ4.out; have := HZ5.out; have := HZ6.out; have := HZ7.out; have := HZ8.out; have := HZ9.out; have := HZ10.out; have := HZ11.out; have := HZ12.out; have := HZ13.out; have := HZ14.out; have := HZ15.out; have := HZ16.out; have := HZ17.out; have := HZ18.out; omega))); have m3_ := A_ (Kd.S_step (vS_ HO32.out) (fun k_ h1_ h2_ => hk_.2 k_ h2_ (fun h3_ => by have := HZ1.out; have := HZ2.out; have := HZ3.out; have := HZ4.out; have := HZ5.out; have := HZ6.out; have := HZ7.out; have := HZ8.out; have := HZ9.out; have := HZ10.out; have := HZ11.out; have := HZ12.out; have := HZ13.out; have := HZ14.out; have := HZ15.out; have := HZ16.out; have := HZ17.out; have := HZ18.out; omega))); have m4_ := A_ (Kd.S_mono ho0_ (fun _ h_ => h_)); have m5_ := A_ hb_; have m6_ := A_ (Kd.S_reads' ho0_).1; clear HO19 HO25 HO28 HO32 HO22 HB; have HZ19 := n0_; have HO19 := m0_; have HO25 := m1_; have HO28 := m2_; have HO32 := m3_; have HB := m5_; have HE53 := m6_; clear n0_ m0_ m1_ m2_ m3_ m4_ m5_ m6_; (try clear hb_); (try clear hk_); (try clear hw_); (try clear hg_); (try clear hbox_); (try clear ho0_); (try clear ho1_); (try clear ho2_)) | ((with_reducible refine gc_ (f := 22) rfl ?_); refine gL_ (some 95) Try.func22 #[(.slice Ao25 t23.length co25), .int .i64 t50] ?_; (with_reducible refine (laws_markStringS.calls k (fun k_ => w_8.heap.size <= k_ /\ k_ < w_9.heap.size) (.slice Ao25 t23.length co25) t23 t50 t54 t55 w _ ?s1 ?s2 FA56.out).mono ?_); (case s1 => exact bB_); (case s2 => exact (vR_ HO25.out)); rintro e w_20 ⟨rfl, ho0_, hb_, hk_⟩; refine ⟨_, rfl, ?_⟩; have n0_ : Aside0 (w_19.heap.size <= w_20.heap.size) := ⟨Nat.le_trans (below_size bR_) (hk_.1)⟩; have m0_ := A_ (Kd.S_step (vS_ HO19.out) (fun k_ h1_ h2_ => hk_.2 k_ h2_ (fun h3_ => by have := HZ1.out; have := HZ2.out; have := HZ3.out; have := HZ4.out; have := HZ5.out; have := HZ6.out; have := HZ7.out; have := HZ8.out; have := HZ9.out; have := HZ10.out; have := HZ11.out; have := HZ12.out; have := HZ13.out; have := HZ14.out; have := HZ15.out; have := HZ16.out; have := HZ17.out; have := HZ18.out; have := HZ19.out; omega))); have m1_ := A_ (Kd.R_step (vR_ HO28.out) (fun k_ h1_ h2_ => hk_.2 k_ h2_ (fun h3_ => by have := HZ1.out; have := HZ2.out; have := HZ3.out; have := HZ4.out; have := HZ5.out; have := HZ6.out; have := HZ7.out; have := HZ8.out; have := HZ9.out; have := HZ10.out; have := HZ11.out; have := HZ12.out; have := HZ13.out; have := HZ14.out; have := HZ15.out; have := HZ16.out; have := HZ17.out; have := HZ18.out; have := HZ19.out; omega))); have m2_ := A_ (Kd.S_step (vS_ HO32.out) (fun k_ h1_ h2_ => hk_.2 k_ h2_ (fun h3_ => by have := HZ1.out; have := HZ2.out; have := HZ3.out; have := HZ4.out; have := HZ5.out; have := HZ6.out; have := HZ7.out; have := HZ8.out; have := HZ9.out; have := HZ10.out; have := HZ11.out; have := HZ12.out; have := HZ13.out; have := HZ14.out; have := HZ15.out; have := HZ16.out; have := HZ17.out; have := HZ18.out; have := HZ19.out; omega))); have m3_ := A_ (Kd.R_mono (ok' := fun k_ => w_8.heap.size <= k_ /\ k_ < w_9.heap.size) (Kd.R_tight rfl ho0_) (fun k_ h_ => HO25.out.1 k_ h_.symm)); have m4_ := A_ hb_; have m5_ := A_ (Kd.R_reads' ho0_).1; clear HO19 HO28 HO32 HO25 HB; have HZ20 := n0_; have HO19 := m0_; have HO28 := m1_; have HO32 := m2_; have HB := m4_; have HE57 := m5_; clear n0_ m0_ m1_ m2_ m3_ m4_ m5_; (try clear hb_); (try clear hk_); (try clear hw_); (try clear hg_); (try clear hbox_); (try clear ho0_); (try clear ho1_); (try clear ho2_)) | ((with_reducible refine gc_ (f := 22) rfl ?_); refine gL_ (some 98) Try.func22 #[(.slice Ao28 t26.length co28), .int .i64 t54] ?_; (with_reducible refine (laws_markStringS.calls k (fun k_ => w_9.heap.size <= k_ /\ k_ < w_10.heap.size) (.slice Ao28 t26.length co28) t26 t54 t58 t59 w _ ?s1 ?s2 FA60.out).mono ?_); (case s1 => exact bB_); (case s2 => exact (vR_ HO28.out)); rintro e w_21 ⟨rfl, ho0_, hb_, hk_⟩; refine ⟨_, rfl, ?_⟩; have n0_ : Aside0 (w_20.heap.size <= w_21.heap.size) := ⟨Nat.le_trans (below_size bR_) (hk_.1)⟩; have m0_ := A_ (Kd.S_step (vS_ HO19.out) (fun k_ h1_ h2_ => hk_.2 k_ h2_ (fun h3_ => by have := HZ1.out; have := HZ2.out; have := HZ3.out; have := HZ4.out; have := HZ5.out; have := HZ6.out; have := HZ7.out; have := HZ8.out; have := HZ9.out; have := HZ10.out; have := HZ11.out; have := HZ12.out; have := HZ13.out; have := HZ14.out; have := HZ15.out; have := HZ16.out; have := HZ17.out; have := HZ18.out; have := HZ19.out; have := HZ20.out; omega))); have m1_ := A_ (Kd.S_step (vS_ HO32.out) (fun k_ h1_ h2_ => hk_.2 k_ h2_ (fun h3_ => by have := HZ1.out; have := HZ2.out; have := HZ3.out; have := HZ4.out; have := HZ5.out; have := HZ6.out; have := HZ7.out; have := HZ8.out; have := HZ9.out; have := HZ10.out; have := HZ11.out; have := HZ12.out; have := HZ13.out; have := HZ14.out; have := HZ15.out; have := HZ16.out; have := HZ17.out; have := HZ18.out; have := HZ19.out; have := HZ20.out; omega))); have m2_ := A_ (Kd.R_mono (ok' := fun k_ => w_9.heap.size <= k_ /\ k_ < w_10.heap.size) (Kd.R_tight rfl ho0_) (fun k_ h_ => HO28.out.1 k_ h_.symm)); have m3_ := A_ hb_; have m4_ := A_ (Kd.R_reads' ho0_).1; clear HO19 HO32 HO28 HB; have HZ21 := n0_; have HO19 := m0_; have HO32 := m1_; have HB := m3_; have HE61 := m4_; clear n0_ m0_ m1_ m2_ m3_ m4_; (try clear hb_); (try clear hk_); (try clear hw_); (try clear hg_); (try clear hbox_); (try clear ho0_); (try clear ho1_); (try clear ho2_)) | (go_at_call 19; (with_reducible refine (laws_eqResS.calls k Ao32 co32 t29 Ao19 co19 t16 true _ ?s1 ?s2 ?s3 ?s4 FA63.out).mono ?_); (case s1 => exact cC_ (Kd.S_reads' HO32.out).2.2); (case s2 => exact (Kd.S_reads' HO32.out).2.1); (case s3 => exact cC_ (Kd.S_reads' HO19.out).2.2); (case s4 => exact (Kd.S_reads' HO19.out).2.1); rintro e w_22 ⟨rfl, hb_⟩; have n0_ : Aside0 (w_21.heap.size <= w_22.heap.size) := ⟨Nat.le_trans (below_size bR_) (below_size hb_)⟩; have m0_ := A_ (Kd.S_below (vS_ HO19.out) hb_); have m1_ := A_ (Kd.S_below (vS_ HO32.out) hb_); have m2_ := A_ (below_step bB_ hb_); clear HO19 HO32 HB; have HZ22 := n0_; have HO19 := m0_; have HO32 := m1_; have HB := m2_; clear n0_ m0_ m1_ m2_; (try clear hb_); (try clear hk_); (try clear hw_); (try clear hg_); (try clear hbox_); (try clear ho0_)) | ((with_reducible refine gc_ (f := 21) rfl ?_); refine gL_ (some 114) Try.func21 #[(.slice Ao32 t29.length co32), .int .i64 1] ?_; (with_reducible refine (laws_markResS.calls k (fun k_ => w_10.heap.size <= k_ /\ k_ < w_11.heap.size) (.slice Ao32 t29.length co32) t29 1 t64 t65 w _ ?s1 ?s2 FA66.out).mono ?_); (case s1 => exact bB_); (case s2 => exact (vS_ HO32.out)); rintro e w_23 ⟨rfl, ho0_, hb_, hk_⟩; refine ⟨_, rfl, ?_⟩; have n0_ : Aside0 (w_22.heap.size <= w_23.heap.size) := ⟨Nat.le_trans (below_size bR_) (hk_.1)⟩; have m0_ := A_ (Kd.S_step (vS_ HO19.out) (fun k_ h1_ h2_ => hk_.2 k_ h2_ (fun h3_ => by have := HZ1.out; have := HZ2.out; have := HZ3.out; have := HZ4.out; have := HZ5.out; have := HZ6.out; have := HZ7.out; have := HZ8.out; have := HZ9.out; have := HZ10.out; have := HZ11.out; have := HZ12.out; have := HZ13.out; have := HZ14.out; have := HZ15.out; have := HZ16.out; have := HZ17.out; have := HZ18.out; have := HZ19.out; have := HZ20.out; have := HZ21.out; have := HZ22.out; omega))); have m1_ := A_ (Kd.S_mono ho0_ (fun _ h_ => h_)); have m2_ := A_ hb_; have m3_ := A_ (Kd.S_reads' ho0_).1; clear HO19 HO32 HB; have HZ23 := n0_; have HO19 := m0_; have HO32 := m1_; have HB := m2_; have HE67 := m3_; clear n0_ m0_ m1_ m2_ m3_; (try clear hb_); (try clear hk_); (try clear hw_); (try clear hg_); (try clear hbox_); (try clear ho0_); (try clear ho1_); (try clear ho2_)) | ((with_reducible refine gc_ (f := 23) rfl ?_); refine gL_ (some 117) Try.func23 #[.slice Ao32 t29.length co32, .int .i64 1] ?_; refine calls_of_args (args' := #[.slice Ao32 t65.length co32, .int .i64 1]) (by simp only [HE67.out]) ?_; (with_reducible refine (laws_heldResS.calls k Ao32 co32 t65 1 t68 _ ?s1 ?s2 FA69.out).mono ?_); (case s1 => repeat (first | (have h_ := Kd.S_reads' HO32.out; rw [HE67.out] at h_; exact h_.2.2) | (with_reducible refine Kd.C_alloc ?_ _) | (with_reducible refine Kd.C_drewN ?_ _) | (with_reducible refine Kd.C_drew ?_))); (case s2 => have h_ := Kd.S_reads' HO32.out; rw [HE67.out] at h_; exact h_.2.1); rintro e w_24 ⟨rfl, hb_⟩; refine ⟨_, rfl, ?_⟩; have n0_ : Aside0 (w_23.heap.size <= w_24.heap.size) := ⟨Nat.le_trans (below_size bR_) (below_size hb_)⟩; have m0_ := A_ (Kd.S_below (vS_ HO19.out) hb_); have m1_ := A_ (Kd.S_below (vS_ HO32.out) hb_); have m2_ := A_ (below_step bB_ hb_); clear HO19 HO32 HB; have HZ24 := n0_; have HO19 := m0_; have HO32 := m1_; have HB := m2_; clear n0_ m0_ m1_ m2_; (try clear hb_); (try clear hk_); (try clear hw_); (try clear hg_); (try clear hbox_); (try clear ho0_)) | ((with_reducible refine gc_ (f := 16) rfl ?_); refine gL_ (some 125) Try.func16 #[.slice A0 l0.length c0] ?_; (with_reducible refine (laws_toResS.calls k A0 c0 l0 t70 _ ?s1 ?s2 FA71.out).mono ?_); (case s1 => exact cC_ (Kd.C_below HR0.out HB.out)); (case s2 => exact HC0.out); rintro e w_25 ⟨v7e, rfl, ho0_, hb_⟩; refine ⟨_, rfl, ?_⟩; have n0_ : Aside0 (w_24.heap.size <= w_25.heap.size) := ⟨Nat.le_trans (below_size bR_) (below_size hb_)⟩; have m0_ := A_ (Kd.S_below (vS_ HO19.out) hb_); have m1_ := A_ (Kd.S_below (vS_ HO32.out) hb_); have m2_ := A_ (below_step bB_ hb_); have m3_ := A_ (show Kd.S k57 57 w_25 w.heap.size (fun k_ => w_24.heap.size <= k_ /\ k_ < w_25.heap.size) v7e t70 from Kd.S_mono (Kd.S_lower (Kd.S_bound ho0_) (below_size bB_)) (fun k_ h_ => ⟨Nat.le_trans (below_size bR_) h_.2.1, h_.2.2.1⟩)); clear HO19 HO32 HB; have HZ25 := n0_; have HO19 := m0_; have HO32 := m1_; have HB := m2_; have HO72 := m3_; clear n0_ m0_ m1_ m2_ m3_; (try clear hb_); (try clear hk_); (try clear hw_); (try clear hg_); (try clear hbox_); (try clear ho0_); (try clear ho1_); obtain ⟨Ao72, co72, eo_⟩ := Kd.S_slice HO72.out; subst eo_) | ((with_reducible refine gc_ (f := 17) rfl ?_); refine gL_ (some 127) Try.func17 #[.slice A1 l1.length c1] ?_; (with_reducible refine (laws_toStringS.calls k A1 c1 l1 t73 _ ?s1 ?s2 FA74.out).mono ?_); (case s1 => exact cC_ (Kd.C_below HR1.out HB.out)); (case s2 => exact HC1.out); rintro e w_26 ⟨v8e, rfl, ho0_, hb_⟩; refine ⟨_, rfl, ?_⟩; have n0_ : Aside0 (w_25.heap.size <= w_26.heap.size) := ⟨Nat.le_trans (below_size bR_) (below_size hb_)⟩; have m0_ := A_ (Kd.S_below (vS_ HO19.out) hb_); have m1_ := A_ (Kd.S_below (vS_ HO32.out) hb_); have m2_ := A_ (Kd.S_below (vS_ HO72.out) hb_); have m3_ := A_ (below_step bB_ hb_); have m4_ := A_ (show Kd.R Kd.string 9 w_26 w.heap.size (fun k_ => w_25.heap.size <= k_ /\ k_ < w_26.heap.size) v8e t73 from Kd.R_mono (Kd.R_lower (Kd.R_bound ho0_) (below_size bB_)) (fun k_ h_ => ⟨Nat.le_trans (below_size bR_) h_.2.1, h_.2.2.1⟩)); clear HO19 HO32 HO72 HB; have HZ26 := n0_; have HO19 := m0_; have HO32 := m1_; have HO72 := m2_; have HB := m3_; have HO75 := m4_; clear n0_ m0_ m1_ m2_ m3_ m4_; (try clear hb_); (try clear hk_); (try clear hw_); (try clear hg_); (try clear hbox_); (try clear ho0_); (try clear ho1_); obtain ⟨Ao75, co75, eo_⟩ := Kd.R_slice HO75.out; subst eo_) | ((with_reducible refine gc_ (f := 17) rfl ?_); refine gL_ (some 129) Try.func17 #[.slice A2 l2.length c2] ?_; (with_reducible refine (laws_toStringS.calls k A2 c2 l2 t76 _ ?s1 ?s2 FA77.out).mono ?_); (case s1 => exact cC_ (Kd.C_below HR2.out HB.out)); (case s2 => exact HC2.out); rintro e w_27 ⟨v9e, rfl, ho0_, hb_⟩; refine ⟨_, rfl, ?_⟩; have n0_ : Aside0 (w_26.heap.size <= w_27.heap.size) := ⟨Nat.le_trans (below_size bR_) (below_size hb_)⟩; have m0_ := A_ (Kd.S_below (vS_ HO19.out) hb_); have m1_ := A_ (Kd.S_below (vS_ HO32.out) hb_); have m2_ := A_ (Kd.S_below (vS_ HO72.out) hb_); have m3_ := A_ (Kd.R_below (vR_ HO75.out) hb_); have m4_ := A_ (below_step bB_ hb_); have m5_ := A_ (show Kd.R Kd.string 9 w_27 w.heap.size (fun k_ => w_26.heap.size <= k_ /\ k_ < w_27.heap.size) v9e t76 from Kd.R_mono (Kd.R_lower (Kd.R_bound ho0_) (below_size bB_)) (fun k_ h_ => ⟨Nat.le_trans (below_size bR_) h_.2.1, h_.2.2.1⟩)); clear HO19 HO32 HO72 HO75 HB; have HZ27 := n0_; have HO19 := m0_; have HO32 := m1_; have HO72 := m2_; have HO75 := m3_; have HB := m4_; have HO78 := m5_; clear n0_ m0_ m1_ m2_ m3_ m4_ m5_; (try clear hb_); (try clear hk_); (try clear hw_); (try clear hg_); (try clear hbox_); (try clear ho0_); (try clear ho1_); obtain ⟨Ao78, co78, eo_⟩ := Kd.R_slice HO78.out; subst eo_) | ((with_reducible refine gc_ (f := 37) rfl ?_); refine gL_ (some 132) Try.func37 #[.slice Ao72 t70.length co72, .slice Ao75 t73.length co75, .slice Ao78 t76.length co78, .bool a3, .int .i64 a4] ?_; (with_reducible refine (impl_MoveTreeX.calls k Ao72 co72 t70 Ao75 co75 t73 Ao78 co78 t76 a3 a4 t79 t80 _ ?s1 ?s2 ?s3 ?s4 ?s5 ?s6 FA81.out).mono ?_); (case s1 => exact cC_ (Kd.S_reads' HO72.out).2.2); (case s2 => exact (Kd.S_reads' HO72.out).2.1); (case s3 => exact cC_ (Kd.R_reads' HO75.out).2.2); (case s4 => exact (Kd.R_reads' HO75.out).2.1); (case s5 => exact cC_ (Kd.R_reads' HO78.out).2.2); (case s6 => exact (Kd.R_reads' HO78.out).2.1); rintro e w_28 ⟨v1f, rfl, ho0_, hb_⟩; refine ⟨_, rfl, ?_⟩; have n0_ : Aside0 (w_27.heap.size <= w_28.heap.size) := ⟨Nat.le_trans (below_size bR_) (below_size hb_)⟩; have m0_ := A_ (Kd.S_below (vS_ HO19.out) hb_); have m1_ := A_ (Kd.S_below (vS_ HO32.out) hb_); have m2_ := A_ (Kd.S_below (vS_ HO72.out) hb_); have m3_ := A_ (Kd.R_below (vR_ HO75.out) hb_); have m4_ := A_ (Kd.R_below (vR_ HO78.out) hb_); have m5_ := A_ (below_step bB_ hb_); have m6_ := A_ (show Kd.S k57 57 w_28 w.heap.size (fun k_ => w_27.heap.size <= k_ /\ k_ < w_28.heap.size) v1f t79 from Kd.S_mono (Kd.S_lower (Kd.S_bound ho0_) (below_size bB_)) (fun k_ h_ => ⟨Nat.le_trans (below_size bR_) h_.2.1, h_.2.2.1⟩)); clear HO19 HO32 HO72 HO75 HO78 HB; have HZ28 := n0_; have HO19 := m0_; have HO32 := m1_; have HB := m5_; have HO82 := m6_; clear n0_ m0_ m1_ m2_ m3_ m4_ m5_ m6_; (try clear hb_); (try clear hk_); (try clear hw_); (try clear hg_); (try clear hbox_); (try clear ho0_); (try clear ho1_); obtain ⟨Ao82, co82, eo_⟩ := Kd.S_slice HO82.out; subst eo_) | ((with_reducible refine gc_ (f := 19) rfl ?_); refine gL_ (some 137) Try.func19 #[.slice Ao82 t79.length co82, .slice Ao19 t16.length co19] ?_; (with_reducible refine (laws_eqResS.calls k Ao82 co82 t79 Ao19 co19 t16 true _ ?s1 ?s2 ?s3 ?s4 FA84.out).mono ?_); (case s1 => exact cC_ (Kd.S_reads' HO82.out).2.2); (case s2 => exact (Kd.S_reads' HO82.out).2.1); (case s3 => exact cC_ (Kd.S_reads' HO19.out).2.2); (case s4 => exact (Kd.S_reads' HO19.out).2.1); rintro e w_29 ⟨rfl, hb_⟩; refine ⟨_, rfl, ?_⟩; have n0_ : Aside0 (w_28.heap.size <= w_29.heap.size) := ⟨Nat.le_trans (below_size bR_) (below_size hb_)⟩; have m0_ := A_ (Kd.S_below (vS_ HO19.out) hb_); have m1_ := A_ (Kd.S_below (vS_ HO32.out) hb_); have m2_ := A_ (Kd.S_below (vS_ HO82.out) hb_); have m3_ := A_ (below_step bB_ hb_); clear HO19 HO32 HO82 HB; have HZ29 := n0_; have HO32 := m1_; have HB := m3_; clear n0_ m0_ m1_ m2_ m3_; (try clear hb_); (try clear hk_); (try clear hw_); (try clear hg_); (try clear hbox_); (try clear ho0_)) | ((with_reducible refine gc_ (f := 23) rfl ?_); refine gL_ (some 146) Try.func23 #[.slice Ao32 t29.length co32, .int .i64 1] ?_; refine calls_of_args (args' := #[.slice Ao32 t65.length co32, .int .i64 1]) (by simp only [HE67.out]) ?_; (with_reducible refine (laws_heldResS.calls k Ao32 co32 t65 1 t85 _ ?s1 ?s2 FA86.out).mono ?_); (case s1 => repeat (first | (have h_ := Kd.S_reads' HO32.out; rw [HE67.out] at h_; exact h_.2.2) | (with_reducible refine Kd.C_alloc ?_ _) | (with_reducible refine Kd.C_drewN ?_ _) | (with_reducible refine Kd.C_drew ?_))); (case s2 => have h_ := Kd.S_reads' HO32.out; rw [HE67.out] at h_; exact h_.2.1); rintro e w_30 ⟨rfl, hb_⟩; refine ⟨_, rfl, ?_⟩; have n0_ : Aside0 (w_29.heap.size <= w_30.heap.size) := ⟨Nat.le_trans (below_size bR_) (below_size hb_)⟩; have m0_ := A_ (Kd.S_below (vS_ HO32.out) hb_); have m1_ := A_ (below_step bB_ hb_); clear HO32 HB; have HZ30 := n0_; have HB := m1_; clear n0_ m0_ m1_; (try clear hb_); (try clear hk_); (try clear hw_); (try clear hg_); (try clear hbox_); (try clear ho0_)))
 go_ret
 exact ⟨rfl, bB_⟩
end Go.Proofs.Ytbgggcgjijljkaa.Q

/- What a reading of a parameter says of its cells, kind by kind: for the rows of laws whose parameters are slices and structs. No condition. -/
namespace Go.Proofs.Ytbgggcgjijljkaa.Op
open Go.RowKit Go.ChangeShapes Go.WideShapes Go.Proofs.YtbgggcgjijljkaaW.PrintWords
def Opens {α H : Type} (enc : TypeId × Value -> H) (P : Program) (w : World) (t : TypeId) (d : Kd α) (G : α -> Prop) : Prop :=
  ∀ fuel cs x, DataW.trod enc P w 0 (fun _ => true) true fuel t cs = some x -> ∃ a, d.K w a cs /\ G a
section
variable {H : Type} {enc : TypeId × Value -> H} {P : Program} {w : World} {t : TypeId}
theorem opens_string (ht : P.underlying t = some .string) : Opens enc P w t Kd.string (fun s => s.size <= maxLen) := by
  intro fuel cs x h
  obtain ⟨s, rfl, _, hs⟩ := DataW.trod_string ht h
  exact ⟨s, rfl, hs⟩
theorem opens_bool (ht : P.underlying t = some .bool) : Opens enc P w t Kd.bool (fun _ => True) := by
  intro fuel cs x h
  obtain ⟨s, rfl, _⟩ := DataW.trod_bool ht h
  exact ⟨s, rfl, trivial⟩
theorem opens_int {k : IntKind} (ht : P.underlying t = some (.int k)) : Opens enc P w t (Kd.int k) (fun n => (Lit.int k n).wf = true) := by
  intro fuel cs x h
  obtain ⟨n, rfl, _, hn⟩ := DataW.trod_int ht h
  exact ⟨n, rfl, hn⟩
theorem opens_slice {α : Type} [Inhabited α] {e : TypeId} {d : Kd α} {G : α -> Prop} (ht : P.underlying t = some (.slice e)) (hc : P.cellsOf e = d.sz) (he : Opens enc P w e d G) :
    Opens enc P w t (Kd.slice e d) (fun l => l.length <= maxLen /\ ∀ a ∈ l, G a) := by
  intro fuel cs x h
  rcases Go.Deep.open_slice ht h with ⟨rfl, _⟩ | ⟨a, len, cap, m, n, D, Pl, rfl, _, hl, hm, hmm, _, hx⟩
  . exact ⟨[], ⟨none, 0, rfl, Nat.le_refl _, Kd.C_nil d w⟩, by simp, by simp⟩
  . have hm' : m = cap := by simpa using hmm
    have each : ∀ i, i < len -> ∃ y : α, G y /\ ∃ c, d.K w y c /\ ∀ j u, c[j]? = some u -> w.cell? (a.add (i * d.sz + j)) = some u := fun i hi => by
      obtain ⟨cs', h1, h2⟩ := hx i (by omega)
      obtain ⟨y, hK, hG⟩ := he _ _ _ h2
      obtain ⟨_, h3, h4⟩ := World.cells?_some h1
      refine ⟨y, hG, cs', hK, fun j u hu => ?_⟩
      have hj : j < P.cellsOf e := by
        have := (List.getElem?_eq_some_iff.1 hu).1
        omega
      have h5 := h4 j hj
      rw [Go.Deep.add_add, hc, hu] at h5
      exact h5
    obtain ⟨f, hf⟩ := Go.Deep.choose_lt each
    have hmax : maxLen = 9223372036854775807 := by decide
    refine ⟨(List.range len).map f, ⟨some a, cap, by simp, by simpa using hl, ?_⟩, by simp; omega, ?_⟩
    . refine ⟨rfl, by simp; omega, fun _ => ⟨a, rfl, fun j p hj => ?_⟩⟩
      have hjl : j < len := by
        have := (List.getElem?_eq_some_iff.1 hj).1
        simpa using this
      have hp : f j = p := by
        rw [List.getElem?_map, List.getElem?_range hjl] at hj
        simpa using hj
      obtain ⟨_, c, hK, hcell⟩ := hf j hjl
      exact ⟨c, d.K_len hK, hp ▸ hK, hcell⟩
    . intro y hy
      obtain ⟨j, hj, rfl⟩ := List.mem_map.1 hy
      exact (hf j (List.mem_range.1 hj)).1
end
end Go.Proofs.Ytbgggcgjijljkaa.Op
