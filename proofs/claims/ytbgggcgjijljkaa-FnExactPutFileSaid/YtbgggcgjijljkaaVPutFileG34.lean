-- PRINTED by print.py (a twelfth state) out of the translation. Not trusted: Lean checks it.
import Derived.Test.YtbgggcgjijljkaaVPutFileG12
import Derived.Test.YtbgggcgjijljkaaVPutFileG22
import Derived.Test.YtbgggcgjijljkaaVPutFileG30
namespace Go.Proofs.Ytbgggcgjijljkaa.Q
open Go.RowKit Go.Proofs.YtbgggcgjijljkaaW.PrintWords Go.Proofs.YtbgggcgjijljkaaW.PrintLast Go.Proofs.YtbgggcgjijljkaaW.PrintMore
attribute [local go_sem] max2_int min2_int max_two min_two max_three min_three max_four min_four   -- for this text's walks alone
set_option linter.unusedVariables false
set_option linter.unusedSimpArgs false
def laws_heldStringS.l0 : Nat → List ByteArray → Int → Int → Option (Int)
 | 0, _, _, _ => none
 | k + 1, x0, x1, x5 => if x5 < (x0.length : Int) then (if 0 ≤ x5 then ((laws_markText.f k x1).bind fun t417 => (if (rdOf ByteArray.empty x0 x5).toList = t417.toList then (laws_heldStringS.l0 k x0 (wrap64 (x1 + 1)) (wrap64 (x5 + 1))) else (some (-1)))) else (none)) else (some x1)
def laws_heldStringS.f (k : Nat) (l0 : List ByteArray) (a1 : Int) : Option (Int) := laws_heldStringS.l0 k l0 a1 0
set_option maxHeartbeats 8000000 in
set_option maxRecDepth 100000 in
theorem laws_heldStringS.calls (k : Nat) (A0 : Option Addr) (c0 : Nat) (l0 : List ByteArray) (a1 : Int) (r : Int) (w : World) (hr0 : Kd.C Kd.string w A0 l0.length l0) (hc0 : l0.length ≤ c0) (h : laws_heldStringS.f k l0 a1 = some r) :
 Calls Try.prog 71 #[.slice A0 l0.length c0, .int .i64 a1] w fun e w' => e = .returned (.int .i64 r) ∧ Below w.heap.size w w' := by
 have HR0 := Aside0.mk hr0
 have HC0 := Aside0.mk hc0
 clear hr0 hc0
 have HB := Aside0.mk (Below.refl w.heap.size w)
 have H : (laws_heldStringS.l0 k l0 a1 0) = some r := h
 clear h
 have H' := Aside0.mk H
 clear H
 go_enter Try.func71, Try.ntmps71
 go_wp2
 go_loopg [1, 5] k (fun kq v1 v5 w' => ∃ (x1_1 : Int) (x5_1 : Int), v1 = .int .i64 x1_1 ∧ v5 = .int .i64 x5_1 ∧ Aside0 (laws_heldStringS.l0 kq l0 x1_1 x5_1 = some r) ∧ Aside0 (kq ≤ k) ∧ Aside0 (Below w.heap.size w w'))
 case atStart => exact ⟨(a1), (0), rs_, rs_, H', ⟨Nat.le_refl _⟩, ⟨bB_⟩⟩
 case round =>
  clear H'
  try clear p2
  obtain ⟨x1_1, x5_1, rfl, rfl, HA, HK1, HB⟩ := hrel
  cases gk with
  | zero => exact absurd HA.out (by simp [laws_heldStringS.l0])
  | succ k1 =>
   have H := HA.out
   clear HA
   simp only [laws_heldStringS.l0] at H
   by_cases c3 : x5_1 < (l0.length : Int)
   rotate_left
   · rw [if_neg c3] at H
     have c3b0 : decide (x5_1 < (l0.length : Int)) = false := decide_eq_false c3
     clear c3
     obtain rfl := Option.some.inj H
     go_wp2
     go_ret
     exact ⟨rr_, bB_⟩
   rw [if_pos c3] at H
   have c3b0 : decide (x5_1 < (l0.length : Int)) = true := decide_eq_true c3
   clear c3
   by_cases c4 : 0 ≤ x5_1
   rotate_left
   · exact absurd H (by rw [if_neg c4]; simp)
   rw [if_pos c4] at H
   have c4b0 : decide (0 ≤ x5_1) = true := decide_eq_true c4
   clear c4
   obtain ⟨t417, A5, H⟩ := bo_ H
   (try dsimp only at H)
   by_cases c6 : (rdOf ByteArray.empty l0 x5_1).toList = t417.toList
   rotate_left
   · rw [if_neg c6] at H
     have c6b0 : ((rdOf ByteArray.empty l0 x5_1).toList == t417.toList) = false := beq_eq_false_iff_ne.mpr c6
     have c6b1 : ((rdOf ByteArray.empty l0 x5_1).toList != t417.toList) = true := bne_iff_ne.mpr c6
     obtain rfl := Option.some.inj H
     try go_wp2
     have n0_ := Aside0.mk (below_drew1 HB.out)
     clear HB
     have HB := n0_
     clear n0_
     have p416 : 0 ≤ (x5_1 : Int) := of_decide_eq_true as_
     have q416 : x5_1 < (l0.length : Int) := of_decide_eq_true as_
     obtain ⟨ad416, e416, hx416_0⟩ := Kd.at_string HR0.out x5_1 p416 q416
     have hw416_0 := hx416_0
     cases e416
     replace hx416_0 := bc_ HB.out hx416_0
     replace p416 := eq_true p416
     replace q416 := eq_true q416
     refine start_ (n := 7) (S := fun w' => w'.cell? (ad416.add (x5_1).toNat) = some (.string (rdOf ByteArray.empty l0 x5_1))) (ds := []) #[false, false, false, false, false, false, false] (by kernel_rfl) rfl rfl (((HB.out.cell (World.block_lt_of_cell? w _ hw416_0)).trans hw416_0)) (fun hHeld => ?_)
     generalize wr.drew = w9 at HB hx416_0 hHeld ⊢
     refine pu_ (i := 0) (N := some 12) ?_
     refine pu_ (i := 1) (N := some 13) ?_
     refine pu_ (i := 2) (N := some 14) ?_
     refine pu_ (i := 4) (N := some 16) ?_
     refine take_ (i := 3) (N := some 15) (v := ?_) (a' := ?_) #[true, true, true, true, true, false, false] rfl rfl (by kernel_rfl) (fun _ _ _ h => h) (Or.inl ⟨by rfl, ?_⟩) hHeld ?_ ?_
     rotate_left
     · intro w' s0
       go_simp
       with_reducible rfl
     rotate_left
     · simp only [Act.put, List.setIfInBounds_toArray, List.set_cons_zero, List.set_cons_succ, i64_w, i32_w]
       rfl
     refine on_ (i := 5) (N := some 17) (fun K hK => ?_)
     refine goes_ Try.func69 (by kernel_rfl) rfl #[.int .i64 x1_1] (by rfl) rfl rfl ml_ ?_
     with_reducible refine (laws_markText.calls k1 x1_1 t417 _ A5.out).mono ?_
     rintro e w10 ⟨rfl, hb⟩
     refine ⟨_, rfl, ?_⟩
     have n0_ := Aside0.mk (below_step bB_ hb)
     clear HB
     have HB := n0_
     clear n0_
     (try clear hb)
     (try clear hb2)
     (try clear hk)
     (try clear hi)
     refine hK.out _ _ (((HB.out.cell (World.block_lt_of_cell? w _ hw416_0)).trans hw416_0)) (fun hHeld => ?_)
     clear hK K
     refine no_ (some 17) ?_
     refine pu_ (i := 6) (N := some 18) ?_
     refine done_ (by kernel_rfl) ?_
     try go_wp2
     go_ret
     exact ⟨rr_, bB_⟩
   rw [if_pos c6] at H
   have c6b0 : ((rdOf ByteArray.empty l0 x5_1).toList == t417.toList) = true := beq_iff_eq.mpr c6
   have c6b1 : ((rdOf ByteArray.empty l0 x5_1).toList != t417.toList) = false := bne_eq_false_iff_eq.mpr c6
   clear c6
   have H' := Aside0.mk H
   clear H
   try go_wp2
   have n0_ := Aside0.mk (below_drew1 HB.out)
   clear HB
   have HB := n0_
   clear n0_
   have p416 : 0 ≤ (x5_1 : Int) := of_decide_eq_true as_
   have q416 : x5_1 < (l0.length : Int) := of_decide_eq_true as_
   obtain ⟨ad416, e416, hx416_0⟩ := Kd.at_string HR0.out x5_1 p416 q416
   have hw416_0 := hx416_0
   cases e416
   replace hx416_0 := bc_ HB.out hx416_0
   replace p416 := eq_true p416
   replace q416 := eq_true q416
   refine start_ (n := 7) (S := fun w' => w'.cell? (ad416.add (x5_1).toNat) = some (.string (rdOf ByteArray.empty l0 x5_1))) (ds := []) #[false, false, false, false, false, false, false] (by kernel_rfl) rfl rfl (((HB.out.cell (World.block_lt_of_cell? w _ hw416_0)).trans hw416_0)) (fun hHeld => ?_)
   generalize wr.drew = w7 at HB hx416_0 hHeld ⊢
   refine pu_ (i := 0) (N := some 12) ?_
   refine pu_ (i := 1) (N := some 13) ?_
   refine pu_ (i := 2) (N := some 14) ?_
   refine pu_ (i := 4) (N := some 16) ?_
   refine take_ (i := 3) (N := some 15) (v := ?_) (a' := ?_) #[true, true, true, true, true, false, false] rfl rfl (by kernel_rfl) (fun _ _ _ h => h) (Or.inl ⟨by rfl, ?_⟩) hHeld ?_ ?_
   rotate_left
   · intro w' s0
     go_simp
     with_reducible rfl
   rotate_left
   · simp only [Act.put, List.setIfInBounds_toArray, List.set_cons_zero, List.set_cons_succ, i64_w, i32_w]
     rfl
   refine on_ (i := 5) (N := some 17) (fun K hK => ?_)
   refine goes_ Try.func69 (by kernel_rfl) rfl #[.int .i64 x1_1] (by rfl) rfl rfl ml_ ?_
   with_reducible refine (laws_markText.calls k1 x1_1 t417 _ A5.out).mono ?_
   rintro e w8 ⟨rfl, hb⟩
   refine ⟨_, rfl, ?_⟩
   have n0_ := Aside0.mk (below_step bB_ hb)
   clear HB
   have HB := n0_
   clear n0_
   (try clear hb)
   (try clear hb2)
   (try clear hk)
   (try clear hi)
   refine hK.out _ _ (((HB.out.cell (World.block_lt_of_cell? w _ hw416_0)).trans hw416_0)) (fun hHeld => ?_)
   clear hK K
   refine no_ (some 17) ?_
   refine pu_ (i := 6) (N := some 18) ?_
   refine done_ (by kernel_rfl) ?_
   try go_wp2
   go_roundg k1
   case measure => have := HK1.out; omega
   case rel => exact ⟨(wrap64 (x1_1 + 1)), (wrap64 (x5_1 + 1)), rs_, rs_, H', ⟨by have := HK1.out; omega⟩, ⟨bB_⟩⟩
def laws_heldPropS.l0 : Nat → List (S72) → Int → Int → Option (Int)
 | 0, _, _, _ => none
 | k + 1, x0, x1, x5 => if x5 < (x0.length : Int) then (if 0 ≤ x5 then ((laws_markText.f k x1).bind fun t419 => (if ((rd_T72 x0 x5).f0).toList = t419.toList then ((laws_markText.f k (wrap64 (x1 + 1))).bind fun t421 => (if ((rd_T72 x0 x5).f1).toList = t421.toList then ((laws_markText.f k (wrap64 ((wrap64 (x1 + 1)) + 1))).bind fun t423 => (if ((rd_T72 x0 x5).f2).toList = t423.toList then (laws_heldPropS.l0 k x0 (wrap64 ((wrap64 ((wrap64 (x1 + 1)) + 1)) + 1)) (wrap64 (x5 + 1))) else (some (-1)))) else (some (-1)))) else (some (-1)))) else (none)) else (some x1)
def laws_heldPropS.f (k : Nat) (l0 : List (S72)) (a1 : Int) : Option (Int) := laws_heldPropS.l0 k l0 a1 0
def laws_heldPropS.T4 : Bool × List (List Nat × List Nat) := (true, [([], []), ([], []), ([0, 1], [0, 1]), ([2], [2]), ([3], [3]), ([], []), ([5], [5]), ([4, 6], [4, 6])])
def laws_heldPropS.B4 : List Nat := [0, 0, 3, 7, 15, 0, 32, 127]
theorem laws_heldPropS.tab4 : rtab .any (opsOf Try.f72 4) = laws_heldPropS.T4 := by kernel_rfl
theorem laws_heldPropS.bits4 : waitsOk laws_heldPropS.T4.2 laws_heldPropS.B4 = true := by kernel_rfl
def laws_heldPropS.T7 : Bool × List (List Nat × List Nat) := (true, [([], []), ([], []), ([0, 1], [0, 1]), ([2], [2]), ([3], [3]), ([], []), ([5], [5]), ([4, 6], [4, 6])])
def laws_heldPropS.B7 : List Nat := [0, 0, 3, 7, 15, 0, 32, 127]
theorem laws_heldPropS.tab7 : rtab .any (opsOf Try.f72 7) = laws_heldPropS.T7 := by kernel_rfl
theorem laws_heldPropS.bits7 : waitsOk laws_heldPropS.T7.2 laws_heldPropS.B7 = true := by kernel_rfl
def laws_heldPropS.T10 : Bool × List (List Nat × List Nat) := (true, [([], []), ([], []), ([0, 1], [0, 1]), ([2], [2]), ([3], [3]), ([], []), ([5], [5]), ([4, 6], [4, 6])])
def laws_heldPropS.B10 : List Nat := [0, 0, 3, 7, 15, 0, 32, 127]
theorem laws_heldPropS.tab10 : rtab .any (opsOf Try.f72 10) = laws_heldPropS.T10 := by kernel_rfl
theorem laws_heldPropS.bits10 : waitsOk laws_heldPropS.T10.2 laws_heldPropS.B10 = true := by kernel_rfl
set_option maxHeartbeats 8000000 in
set_option maxRecDepth 100000 in
theorem laws_heldPropS.calls (k : Nat) (A0 : Option Addr) (c0 : Nat) (l0 : List (S72)) (a1 : Int) (r : Int) (w : World) (hr0 : Kd.C k72 w A0 l0.length l0) (hc0 : l0.length ≤ c0) (h : laws_heldPropS.f k l0 a1 = some r) :
 Calls Try.prog 72 #[.slice A0 l0.length c0, .int .i64 a1] w fun e w' => e = .returned (.int .i64 r) ∧ Below w.heap.size w w' := by
 have HR0 := Aside0.mk hr0
 have HC0 := Aside0.mk hc0
 clear hr0 hc0
 have HB := Aside0.mk (Below.refl w.heap.size w)
 have H : (laws_heldPropS.l0 k l0 a1 0) = some r := h
 clear h
 have H' := Aside0.mk H
 clear H
 go_enter Try.func72, Try.ntmps72
 go_wp2
 go_loopg [1, 5] k (fun kq v1 v5 w' => ∃ (x1_1 : Int) (x5_1 : Int), v1 = .int .i64 x1_1 ∧ v5 = .int .i64 x5_1 ∧ Aside0 (laws_heldPropS.l0 kq l0 x1_1 x5_1 = some r) ∧ Aside0 (kq ≤ k) ∧ Aside0 (Below w.heap.size w w'))
 case atStart => exact ⟨(a1), (0), rs_, rs_, H', ⟨Nat.le_refl _⟩, ⟨bB_⟩⟩
 case round =>
  clear H'
  try clear p2
  obtain ⟨x1_1, x5_1, rfl, rfl, HA, HK1, HB⟩ := hrel
  cases gk with
  | zero => exact absurd HA.out (by simp [laws_heldPropS.l0])
  | succ k1 =>
   have H := HA.out
   clear HA
   simp only [laws_heldPropS.l0] at H
   by_cases c3 : x5_1 < (l0.length : Int)
   rotate_left
   · rw [if_neg c3] at H
     have c3b0 : decide (x5_1 < (l0.length : Int)) = false := decide_eq_false c3
     clear c3
     obtain rfl := Option.some.inj H
     go_wp2
     go_ret
     exact ⟨rr_, bB_⟩
   rw [if_pos c3] at H
   have c3b0 : decide (x5_1 < (l0.length : Int)) = true := decide_eq_true c3
   clear c3
   by_cases c4 : 0 ≤ x5_1
   rotate_left
   · exact absurd H (by rw [if_neg c4]; simp)
   rw [if_pos c4] at H
   have c4b0 : decide (0 ≤ x5_1) = true := decide_eq_true c4
   clear c4
   obtain ⟨t419, A5, H⟩ := bo_ H
   (try dsimp only at H)
   by_cases c6 : ((rd_T72 l0 x5_1).f0).toList = t419.toList
   rotate_left
   · rw [if_neg c6] at H
     have c6b0 : (((rd_T72 l0 x5_1).f0).toList == t419.toList) = false := beq_eq_false_iff_ne.mpr c6
     have c6b1 : (((rd_T72 l0 x5_1).f0).toList != t419.toList) = true := bne_iff_ne.mpr c6
     obtain rfl := Option.some.inj H
     try go_wp2
     have n0_ := Aside0.mk (below_drew1 HB.out)
     clear HB
     have HB := n0_
     clear n0_
     have p418 : 0 ≤ (x5_1 : Int) := of_decide_eq_true as_
     have q418 : x5_1 < (l0.length : Int) := of_decide_eq_true as_
     obtain ⟨ad418, e418, hx418_0, hx418_1, hx418_2⟩ := at_T72 HR0.out x5_1 p418 q418
     have hw418_2 := hx418_2
     have hw418_1 := hx418_1
     have hw418_0 := hx418_0
     cases e418
     replace hx418_0 := bc_ HB.out hx418_0
     replace hx418_1 := bc_ HB.out hx418_1
     replace hx418_2 := bc_ HB.out hx418_2
     replace p418 := eq_true p418
     replace q418 := eq_true q418
     refine start_ (n := 8) (S := fun w' => w'.cell? (ad418.add ((x5_1).toNat * 3)) = some (.string ((rd_T72 l0 x5_1).f0)) ∧ w'.cell? ⟨(ad418.add ((x5_1).toNat * 3)).block, (ad418.add ((x5_1).toNat * 3)).off + 1, none⟩ = some (.string ((rd_T72 l0 x5_1).f1)) ∧ w'.cell? ⟨(ad418.add ((x5_1).toNat * 3)).block, (ad418.add ((x5_1).toNat * 3)).off + 2, none⟩ = some (.string ((rd_T72 l0 x5_1).f2))) (ds := []) #[false, false, false, false, false, false, false, false] (by kernel_rfl) rfl rfl ⟨((HB.out.cell (World.block_lt_of_cell? w _ hw418_0)).trans hw418_0), ((HB.out.cell (World.block_lt_of_cell? w _ hw418_1)).trans hw418_1), ((HB.out.cell (World.block_lt_of_cell? w _ hw418_2)).trans hw418_2)⟩ (fun hHeld => ?_); refine with_tabW laws_heldPropS.tab4 laws_heldPropS.bits4 (fun HT_ HW_ => ?_)
     generalize wr.drew = w27 at HB hx418_0 hx418_1 hx418_2 hHeld ⊢
     refine pu_ (i := 0) (N := some 12) ?_
     refine pu_ (i := 1) (N := some 13) ?_
     refine pu_ (i := 2) (N := some 14) ?_
     refine pu_ (i := 3) (N := some 15) ?_
     refine pu_ (i := 5) (N := some 17) ?_
     refine tk_ (i := 4) (N := some 16) hHeld ?_
     refine on_ (i := 6) (N := some 18) (fun K hK => ?_)
     refine goes_ Try.func69 (by kernel_rfl) rfl #[.int .i64 x1_1] (by rfl) rfl rfl ml_ ?_
     with_reducible refine (laws_markText.calls k1 x1_1 t419 _ A5.out).mono ?_
     rintro e w28 ⟨rfl, hb⟩
     refine ⟨_, rfl, ?_⟩
     have n0_ := Aside0.mk (below_step bB_ hb)
     clear HB
     have HB := n0_
     clear n0_
     (try clear hb)
     (try clear hb2)
     (try clear hk)
     (try clear hi)
     refine hK.out _ _ ⟨((HB.out.cell (World.block_lt_of_cell? w _ hw418_0)).trans hw418_0), ((HB.out.cell (World.block_lt_of_cell? w _ hw418_1)).trans hw418_1), ((HB.out.cell (World.block_lt_of_cell? w _ hw418_2)).trans hw418_2)⟩ (fun hHeld => ?_)
     clear hK K
     refine no_ (some 18) ?_
     refine pu_ (i := 7) (N := some 19) ?_
     refine done_ (done_of HT_.out (by kernel_rfl)) ?_
     (try clear hHeld)
     try go_wp2
     go_ret
     exact ⟨rr_, bB_⟩
   rw [if_pos c6] at H
   have c6b0 : (((rd_T72 l0 x5_1).f0).toList == t419.toList) = true := beq_iff_eq.mpr c6
   have c6b1 : (((rd_T72 l0 x5_1).f0).toList != t419.toList) = false := bne_eq_false_iff_eq.mpr c6
   clear c6
   obtain ⟨t421, A7, H⟩ := bo_ H
   (try dsimp only at H)
   by_cases c8 : ((rd_T72 l0 x5_1).f1).toList = t421.toList
   rotate_left
   · rw [if_neg c8] at H
     have c8b0 : (((rd_T72 l0 x5_1).f1).toList == t421.toList) = false := beq_eq_false_iff_ne.mpr c8
     have c8b1 : (((rd_T72 l0 x5_1).f1).toList != t421.toList) = true := bne_iff_ne.mpr c8
     obtain rfl := Option.some.inj H
     try go_wp2
     have n0_ := Aside0.mk (below_drew1 HB.out)
     clear HB
     have HB := n0_
     clear n0_
     have p418 : 0 ≤ (x5_1 : Int) := of_decide_eq_true as_
     have q418 : x5_1 < (l0.length : Int) := of_decide_eq_true as_
     obtain ⟨ad418, e418, hx418_0, hx418_1, hx418_2⟩ := at_T72 HR0.out x5_1 p418 q418
     have hw418_2 := hx418_2
     have hw418_1 := hx418_1
     have hw418_0 := hx418_0
     cases e418
     replace hx418_0 := bc_ HB.out hx418_0
     replace hx418_1 := bc_ HB.out hx418_1
     replace hx418_2 := bc_ HB.out hx418_2
     replace p418 := eq_true p418
     replace q418 := eq_true q418
     refine start_ (n := 8) (S := fun w' => w'.cell? (ad418.add ((x5_1).toNat * 3)) = some (.string ((rd_T72 l0 x5_1).f0)) ∧ w'.cell? ⟨(ad418.add ((x5_1).toNat * 3)).block, (ad418.add ((x5_1).toNat * 3)).off + 1, none⟩ = some (.string ((rd_T72 l0 x5_1).f1)) ∧ w'.cell? ⟨(ad418.add ((x5_1).toNat * 3)).block, (ad418.add ((x5_1).toNat * 3)).off + 2, none⟩ = some (.string ((rd_T72 l0 x5_1).f2))) (ds := []) #[false, false, false, false, false, false, false, false] (by kernel_rfl) rfl rfl ⟨((HB.out.cell (World.block_lt_of_cell? w _ hw418_0)).trans hw418_0), ((HB.out.cell (World.block_lt_of_cell? w _ hw418_1)).trans hw418_1), ((HB.out.cell (World.block_lt_of_cell? w _ hw418_2)).trans hw418_2)⟩ (fun hHeld => ?_); refine with_tabW laws_heldPropS.tab4 laws_heldPropS.bits4 (fun HT_ HW_ => ?_)
     generalize wr.drew = w23 at HB hx418_0 hx418_1 hx418_2 hHeld ⊢
     refine pu_ (i := 0) (N := some 12) ?_
     refine pu_ (i := 1) (N := some 13) ?_
     refine pu_ (i := 2) (N := some 14) ?_
     refine pu_ (i := 3) (N := some 15) ?_
     refine pu_ (i := 5) (N := some 17) ?_
     refine tk_ (i := 4) (N := some 16) hHeld ?_
     refine on_ (i := 6) (N := some 18) (fun K hK => ?_)
     refine goes_ Try.func69 (by kernel_rfl) rfl #[.int .i64 x1_1] (by rfl) rfl rfl ml_ ?_
     with_reducible refine (laws_markText.calls k1 x1_1 t419 _ A5.out).mono ?_
     rintro e w24 ⟨rfl, hb⟩
     refine ⟨_, rfl, ?_⟩
     have n0_ := Aside0.mk (below_step bB_ hb)
     clear HB
     have HB := n0_
     clear n0_
     (try clear hb)
     (try clear hb2)
     (try clear hk)
     (try clear hi)
     refine hK.out _ _ ⟨((HB.out.cell (World.block_lt_of_cell? w _ hw418_0)).trans hw418_0), ((HB.out.cell (World.block_lt_of_cell? w _ hw418_1)).trans hw418_1), ((HB.out.cell (World.block_lt_of_cell? w _ hw418_2)).trans hw418_2)⟩ (fun hHeld => ?_)
     clear hK K
     refine no_ (some 18) ?_
     refine pu_ (i := 7) (N := some 19) ?_
     refine done_ (done_of HT_.out (by kernel_rfl)) ?_
     (try clear hHeld)
     try go_wp2
     have n0_ := Aside0.mk (below_drew1 HB.out)
     clear HB
     have HB := n0_
     clear n0_
     have p420 : 0 ≤ (x5_1 : Int) := of_decide_eq_true as_
     have q420 : x5_1 < (l0.length : Int) := of_decide_eq_true as_
     obtain ⟨ad420, e420, hx420_0, hx420_1, hx420_2⟩ := at_T72 HR0.out x5_1 p420 q420
     have hw420_2 := hx420_2
     have hw420_1 := hx420_1
     have hw420_0 := hx420_0
     obtain rfl : ad418 = ad420 := (by injection e420)
     replace hx420_0 := bc_ HB.out hx420_0
     replace hx420_1 := bc_ HB.out hx420_1
     replace hx420_2 := bc_ HB.out hx420_2
     replace p420 := eq_true p420
     replace q420 := eq_true q420
     refine start_ (n := 8) (S := fun w' => w'.cell? (ad418.add ((x5_1).toNat * 3)) = some (.string ((rd_T72 l0 x5_1).f0)) ∧ w'.cell? ⟨(ad418.add ((x5_1).toNat * 3)).block, (ad418.add ((x5_1).toNat * 3)).off + 1, none⟩ = some (.string ((rd_T72 l0 x5_1).f1)) ∧ w'.cell? ⟨(ad418.add ((x5_1).toNat * 3)).block, (ad418.add ((x5_1).toNat * 3)).off + 2, none⟩ = some (.string ((rd_T72 l0 x5_1).f2))) (ds := []) #[false, false, false, false, false, false, false, false] (by kernel_rfl) rfl rfl ⟨((HB.out.cell (World.block_lt_of_cell? w _ hw420_0)).trans hw420_0), ((HB.out.cell (World.block_lt_of_cell? w _ hw420_1)).trans hw420_1), ((HB.out.cell (World.block_lt_of_cell? w _ hw420_2)).trans hw420_2)⟩ (fun hHeld => ?_); refine with_tabW laws_heldPropS.tab7 laws_heldPropS.bits7 (fun HT_ HW_ => ?_)
     generalize w24.drew = w25 at HB hx420_0 hx420_1 hx420_2 hHeld ⊢
     refine pu_ (i := 0) (N := some 22) ?_
     refine pu_ (i := 1) (N := some 23) ?_
     refine pu_ (i := 2) (N := some 24) ?_
     refine pu_ (i := 3) (N := some 25) ?_
     refine pu_ (i := 5) (N := some 27) ?_
     refine tk_ (i := 4) (N := some 26) hHeld ?_
     refine on_ (i := 6) (N := some 28) (fun K hK => ?_)
     refine goes_ Try.func69 (by kernel_rfl) rfl #[.int .i64 (wrap64 (x1_1 + 1))] (by rfl) rfl rfl ml_ ?_
     with_reducible refine (laws_markText.calls k1 (wrap64 (x1_1 + 1)) t421 _ A7.out).mono ?_
     rintro e w26 ⟨rfl, hb⟩
     refine ⟨_, rfl, ?_⟩
     have n0_ := Aside0.mk (below_step bB_ hb)
     clear HB
     have HB := n0_
     clear n0_
     (try clear hb)
     (try clear hb2)
     (try clear hk)
     (try clear hi)
     refine hK.out _ _ ⟨((HB.out.cell (World.block_lt_of_cell? w _ hw420_0)).trans hw420_0), ((HB.out.cell (World.block_lt_of_cell? w _ hw420_1)).trans hw420_1), ((HB.out.cell (World.block_lt_of_cell? w _ hw420_2)).trans hw420_2)⟩ (fun hHeld => ?_)
     clear hK K
     refine no_ (some 28) ?_
     refine pu_ (i := 7) (N := some 29) ?_
     refine done_ (done_of HT_.out (by kernel_rfl)) ?_
     (try clear hHeld)
     try go_wp2
     go_ret
     exact ⟨rr_, bB_⟩
   rw [if_pos c8] at H
   have c8b0 : (((rd_T72 l0 x5_1).f1).toList == t421.toList) = true := beq_iff_eq.mpr c8
   have c8b1 : (((rd_T72 l0 x5_1).f1).toList != t421.toList) = false := bne_eq_false_iff_eq.mpr c8
   clear c8
   obtain ⟨t423, A9, H⟩ := bo_ H
   (try dsimp only at H)
   by_cases c10 : ((rd_T72 l0 x5_1).f2).toList = t423.toList
   rotate_left
   · rw [if_neg c10] at H
     have c10b0 : (((rd_T72 l0 x5_1).f2).toList == t423.toList) = false := beq_eq_false_iff_ne.mpr c10
     have c10b1 : (((rd_T72 l0 x5_1).f2).toList != t423.toList) = true := bne_iff_ne.mpr c10
     obtain rfl := Option.some.inj H
     try go_wp2
     have n0_ := Aside0.mk (below_drew1 HB.out)
     clear HB
     have HB := n0_
     clear n0_
     have p418 : 0 ≤ (x5_1 : Int) := of_decide_eq_true as_
     have q418 : x5_1 < (l0.length : Int) := of_decide_eq_true as_
     obtain ⟨ad418, e418, hx418_0, hx418_1, hx418_2⟩ := at_T72 HR0.out x5_1 p418 q418
     have hw418_2 := hx418_2
     have hw418_1 := hx418_1
     have hw418_0 := hx418_0
     cases e418
     replace hx418_0 := bc_ HB.out hx418_0
     replace hx418_1 := bc_ HB.out hx418_1
     replace hx418_2 := bc_ HB.out hx418_2
     replace p418 := eq_true p418
     replace q418 := eq_true q418
     refine start_ (n := 8) (S := fun w' => w'.cell? (ad418.add ((x5_1).toNat * 3)) = some (.string ((rd_T72 l0 x5_1).f0)) ∧ w'.cell? ⟨(ad418.add ((x5_1).toNat * 3)).block, (ad418.add ((x5_1).toNat * 3)).off + 1, none⟩ = some (.string ((rd_T72 l0 x5_1).f1)) ∧ w'.cell? ⟨(ad418.add ((x5_1).toNat * 3)).block, (ad418.add ((x5_1).toNat * 3)).off + 2, none⟩ = some (.string ((rd_T72 l0 x5_1).f2))) (ds := []) #[false, false, false, false, false, false, false, false] (by kernel_rfl) rfl rfl ⟨((HB.out.cell (World.block_lt_of_cell? w _ hw418_0)).trans hw418_0), ((HB.out.cell (World.block_lt_of_cell? w _ hw418_1)).trans hw418_1), ((HB.out.cell (World.block_lt_of_cell? w _ hw418_2)).trans hw418_2)⟩ (fun hHeld => ?_); refine with_tabW laws_heldPropS.tab4 laws_heldPropS.bits4 (fun HT_ HW_ => ?_)
     generalize wr.drew = w17 at HB hx418_0 hx418_1 hx418_2 hHeld ⊢
     refine pu_ (i := 0) (N := some 12) ?_
     refine pu_ (i := 1) (N := some 13) ?_
     refine pu_ (i := 2) (N := some 14) ?_
     refine pu_ (i := 3) (N := some 15) ?_
     refine pu_ (i := 5) (N := some 17) ?_
     refine tk_ (i := 4) (N := some 16) hHeld ?_
     refine on_ (i := 6) (N := some 18) (fun K hK => ?_)
     refine goes_ Try.func69 (by kernel_rfl) rfl #[.int .i64 x1_1] (by rfl) rfl rfl ml_ ?_
     with_reducible refine (laws_markText.calls k1 x1_1 t419 _ A5.out).mono ?_
     rintro e w18 ⟨rfl, hb⟩
     refine ⟨_, rfl, ?_⟩
     have n0_ := Aside0.mk (below_step bB_ hb)
     clear HB
     have HB := n0_
     clear n0_
     (try clear hb)
     (try clear hb2)
     (try clear hk)
     (try clear hi)
     refine hK.out _ _ ⟨((HB.out.cell (World.block_lt_of_cell? w _ hw418_0)).trans hw418_0), ((HB.out.cell (World.block_lt_of_cell? w _ hw418_1)).trans hw418_1), ((HB.out.cell (World.block_lt_of_cell? w _ hw418_2)).trans hw418_2)⟩ (fun hHeld => ?_)
     clear hK K
     refine no_ (some 18) ?_
     refine pu_ (i := 7) (N := some 19) ?_
     refine done_ (done_of HT_.out (by kernel_rfl)) ?_
     (try clear hHeld)
     try go_wp2
     have n0_ := Aside0.mk (below_drew1 HB.out)
     clear HB
     have HB := n0_
     clear n0_
     have p420 : 0 ≤ (x5_1 : Int) := of_decide_eq_true as_
     have q420 : x5_1 < (l0.length : Int) := of_decide_eq_true as_
     obtain ⟨ad420, e420, hx420_0, hx420_1, hx420_2⟩ := at_T72 HR0.out x5_1 p420 q420
     have hw420_2 := hx420_2
     have hw420_1 := hx420_1
     have hw420_0 := hx420_0
     obtain rfl : ad418 = ad420 := (by injection e420)
     replace hx420_0 := bc_ HB.out hx420_0
     replace hx420_1 := bc_ HB.out hx420_1
     replace hx420_2 := bc_ HB.out hx420_2
     replace p420 := eq_true p420
     replace q420 := eq_true q420
     refine start_ (n := 8) (S := fun w' => w'.cell? (ad418.add ((x5_1).toNat * 3)) = some (.string ((rd_T72 l0 x5_1).f0)) ∧ w'.cell? ⟨(ad418.add ((x5_1).toNat * 3)).block, (ad418.add ((x5_1).toNat * 3)).off + 1, none⟩ = some (.string ((rd_T72 l0 x5_1).f1)) ∧ w'.cell? ⟨(ad418.add ((x5_1).toNat * 3)).block, (ad418.add ((x5_1).toNat * 3)).off + 2, none⟩ = some (.string ((rd_T72 l0 x5_1).f2))) (ds := []) #[false, false, false, false, false, false, false, false] (by kernel_rfl) rfl rfl ⟨((HB.out.cell (World.block_lt_of_cell? w _ hw420_0)).trans hw420_0), ((HB.out.cell (World.block_lt_of_cell? w _ hw420_1)).trans hw420_1), ((HB.out.cell (World.block_lt_of_cell? w _ hw420_2)).trans hw420_2)⟩ (fun hHeld => ?_); refine with_tabW laws_heldPropS.tab7 laws_heldPropS.bits7 (fun HT_ HW_ => ?_)
     generalize w18.drew = w19 at HB hx420_0 hx420_1 hx420_2 hHeld ⊢
     refine pu_ (i := 0) (N := some 22) ?_
     refine pu_ (i := 1) (N := some 23) ?_
     refine pu_ (i := 2) (N := some 24) ?_
     refine pu_ (i := 3) (N := some 25) ?_
     refine pu_ (i := 5) (N := some 27) ?_
     refine tk_ (i := 4) (N := some 26) hHeld ?_
     refine on_ (i := 6) (N := some 28) (fun K hK => ?_)
     refine goes_ Try.func69 (by kernel_rfl) rfl #[.int .i64 (wrap64 (x1_1 + 1))] (by rfl) rfl rfl ml_ ?_
     with_reducible refine (laws_markText.calls k1 (wrap64 (x1_1 + 1)) t421 _ A7.out).mono ?_
     rintro e w20 ⟨rfl, hb⟩
     refine ⟨_, rfl, ?_⟩
     have n0_ := Aside0.mk (below_step bB_ hb)
     clear HB
     have HB := n0_
     clear n0_
     (try clear hb)
     (try clear hb2)
     (try clear hk)
     (try clear hi)
     refine hK.out _ _ ⟨((HB.out.cell (World.block_lt_of_cell? w _ hw420_0)).trans hw420_0), ((HB.out.cell (World.block_lt_of_cell? w _ hw420_1)).trans hw420_1), ((HB.out.cell (World.block_lt_of_cell? w _ hw420_2)).trans hw420_2)⟩ (fun hHeld => ?_)
     clear hK K
     refine no_ (some 28) ?_
     refine pu_ (i := 7) (N := some 29) ?_
     refine done_ (done_of HT_.out (by kernel_rfl)) ?_
     (try clear hHeld)
     try go_wp2
     have n0_ := Aside0.mk (below_drew1 HB.out)
     clear HB
     have HB := n0_
     clear n0_
     have p422 : 0 ≤ (x5_1 : Int) := of_decide_eq_true as_
     have q422 : x5_1 < (l0.length : Int) := of_decide_eq_true as_
     obtain ⟨ad422, e422, hx422_0, hx422_1, hx422_2⟩ := at_T72 HR0.out x5_1 p422 q422
     have hw422_2 := hx422_2
     have hw422_1 := hx422_1
     have hw422_0 := hx422_0
     obtain rfl : ad418 = ad422 := (by injection e422)
     replace hx422_0 := bc_ HB.out hx422_0
     replace hx422_1 := bc_ HB.out hx422_1
     replace hx422_2 := bc_ HB.out hx422_2
     replace p422 := eq_true p422
     replace q422 := eq_true q422
     refine start_ (n := 8) (S := fun w' => w'.cell? (ad418.add ((x5_1).toNat * 3)) = some (.string ((rd_T72 l0 x5_1).f0)) ∧ w'.cell? ⟨(ad418.add ((x5_1).toNat * 3)).block, (ad418.add ((x5_1).toNat * 3)).off + 1, none⟩ = some (.string ((rd_T72 l0 x5_1).f1)) ∧ w'.cell? ⟨(ad418.add ((x5_1).toNat * 3)).block, (ad418.add ((x5_1).toNat * 3)).off + 2, none⟩ = some (.string ((rd_T72 l0 x5_1).f2))) (ds := []) #[false, false, false, false, false, false, false, false] (by kernel_rfl) rfl rfl ⟨((HB.out.cell (World.block_lt_of_cell? w _ hw422_0)).trans hw422_0), ((HB.out.cell (World.block_lt_of_cell? w _ hw422_1)).trans hw422_1), ((HB.out.cell (World.block_lt_of_cell? w _ hw422_2)).trans hw422_2)⟩ (fun hHeld => ?_); refine with_tabW laws_heldPropS.tab10 laws_heldPropS.bits10 (fun HT_ HW_ => ?_)
     generalize w20.drew = w21 at HB hx422_0 hx422_1 hx422_2 hHeld ⊢
     refine pu_ (i := 0) (N := some 32) ?_
     refine pu_ (i := 1) (N := some 33) ?_
     refine pu_ (i := 2) (N := some 34) ?_
     refine pu_ (i := 3) (N := some 35) ?_
     refine pu_ (i := 5) (N := some 37) ?_
     refine tk_ (i := 4) (N := some 36) hHeld ?_
     refine on_ (i := 6) (N := some 38) (fun K hK => ?_)
     refine goes_ Try.func69 (by kernel_rfl) rfl #[.int .i64 (wrap64 ((wrap64 (x1_1 + 1)) + 1))] (by rfl) rfl rfl ml_ ?_
     with_reducible refine (laws_markText.calls k1 (wrap64 ((wrap64 (x1_1 + 1)) + 1)) t423 _ A9.out).mono ?_
     rintro e w22 ⟨rfl, hb⟩
     refine ⟨_, rfl, ?_⟩
     have n0_ := Aside0.mk (below_step bB_ hb)
     clear HB
     have HB := n0_
     clear n0_
     (try clear hb)
     (try clear hb2)
     (try clear hk)
     (try clear hi)
     refine hK.out _ _ ⟨((HB.out.cell (World.block_lt_of_cell? w _ hw422_0)).trans hw422_0), ((HB.out.cell (World.block_lt_of_cell? w _ hw422_1)).trans hw422_1), ((HB.out.cell (World.block_lt_of_cell? w _ hw422_2)).trans hw422_2)⟩ (fun hHeld => ?_)
     clear hK K
     refine no_ (some 38) ?_
     refine pu_ (i := 7) (N := some 39) ?_
     refine done_ (done_of HT_.out (by kernel_rfl)) ?_
     (try clear hHeld)
     try go_wp2
     go_ret
     exact ⟨rr_, bB_⟩
   rw [if_pos c10] at H
   have c10b0 : (((rd_T72 l0 x5_1).f2).toList == t423.toList) = true := beq_iff_eq.mpr c10
   have c10b1 : (((rd_T72 l0 x5_1).f2).toList != t423.toList) = false := bne_eq_false_iff_eq.mpr c10
   clear c10
   have H' := Aside0.mk H
   clear H
   try go_wp2
   have n0_ := Aside0.mk (below_drew1 HB.out)
   clear HB
   have HB := n0_
   clear n0_
   have p418 : 0 ≤ (x5_1 : Int) := of_decide_eq_true as_
   have q418 : x5_1 < (l0.length : Int) := of_decide_eq_true as_
   obtain ⟨ad418, e418, hx418_0, hx418_1, hx418_2⟩ := at_T72 HR0.out x5_1 p418 q418
   have hw418_2 := hx418_2
   have hw418_1 := hx418_1
   have hw418_0 := hx418_0
   cases e418
   replace hx418_0 := bc_ HB.out hx418_0
   replace hx418_1 := bc_ HB.out hx418_1
   replace hx418_2 := bc_ HB.out hx418_2
   replace p418 := eq_true p418
   replace q418 := eq_true q418
   refine start_ (n := 8) (S := fun w' => w'.cell? (ad418.add ((x5_1).toNat * 3)) = some (.string ((rd_T72 l0 x5_1).f0)) ∧ w'.cell? ⟨(ad418.add ((x5_1).toNat * 3)).block, (ad418.add ((x5_1).toNat * 3)).off + 1, none⟩ = some (.string ((rd_T72 l0 x5_1).f1)) ∧ w'.cell? ⟨(ad418.add ((x5_1).toNat * 3)).block, (ad418.add ((x5_1).toNat * 3)).off + 2, none⟩ = some (.string ((rd_T72 l0 x5_1).f2))) (ds := []) #[false, false, false, false, false, false, false, false] (by kernel_rfl) rfl rfl ⟨((HB.out.cell (World.block_lt_of_cell? w _ hw418_0)).trans hw418_0), ((HB.out.cell (World.block_lt_of_cell? w _ hw418_1)).trans hw418_1), ((HB.out.cell (World.block_lt_of_cell? w _ hw418_2)).trans hw418_2)⟩ (fun hHeld => ?_); refine with_tabW laws_heldPropS.tab4 laws_heldPropS.bits4 (fun HT_ HW_ => ?_)
   generalize wr.drew = w11 at HB hx418_0 hx418_1 hx418_2 hHeld ⊢
   refine pu_ (i := 0) (N := some 12) ?_
   refine pu_ (i := 1) (N := some 13) ?_
   refine pu_ (i := 2) (N := some 14) ?_
   refine pu_ (i := 3) (N := some 15) ?_
   refine pu_ (i := 5) (N := some 17) ?_
   refine tk_ (i := 4) (N := some 16) hHeld ?_
   refine on_ (i := 6) (N := some 18) (fun K hK => ?_)
   refine goes_ Try.func69 (by kernel_rfl) rfl #[.int .i64 x1_1] (by rfl) rfl rfl ml_ ?_
   with_reducible refine (laws_markText.calls k1 x1_1 t419 _ A5.out).mono ?_
   rintro e w12 ⟨rfl, hb⟩
   refine ⟨_, rfl, ?_⟩
   have n0_ := Aside0.mk (below_step bB_ hb)
   clear HB
   have HB := n0_
   clear n0_
   (try clear hb)
   (try clear hb2)
   (try clear hk)
   (try clear hi)
   refine hK.out _ _ ⟨((HB.out.cell (World.block_lt_of_cell? w _ hw418_0)).trans hw418_0), ((HB.out.cell (World.block_lt_of_cell? w _ hw418_1)).trans hw418_1), ((HB.out.cell (World.block_lt_of_cell? w _ hw418_2)).trans hw418_2)⟩ (fun hHeld => ?_)
   clear hK K
   refine no_ (some 18) ?_
   refine pu_ (i := 7) (N := some 19) ?_
   refine done_ (done_of HT_.out (by kernel_rfl)) ?_
   (try clear hHeld)
   try go_wp2
   have n0_ := Aside0.mk (below_drew1 HB.out)
   clear HB
   have HB := n0_
   clear n0_
   have p420 : 0 ≤ (x5_1 : Int) := of_decide_eq_true as_
   have q420 : x5_1 < (l0.length : Int) := of_decide_eq_true as_
   obtain ⟨ad420, e420, hx420_0, hx420_1, hx420_2⟩ := at_T72 HR0.out x5_1 p420 q420
   have hw420_2 := hx420_2
   have hw420_1 := hx420_1
   have hw420_0 := hx420_0
   obtain rfl : ad418 = ad420 := (by injection e420)
   replace hx420_0 := bc_ HB.out hx420_0
   replace hx420_1 := bc_ HB.out hx420_1
   replace hx420_2 := bc_ HB.out hx420_2
   replace p420 := eq_true p420
   replace q420 := eq_true q420
   refine start_ (n := 8) (S := fun w' => w'.cell? (ad418.add ((x5_1).toNat * 3)) = some (.string ((rd_T72 l0 x5_1).f0)) ∧ w'.cell? ⟨(ad418.add ((x5_1).toNat * 3)).block, (ad418.add ((x5_1).toNat * 3)).off + 1, none⟩ = some (.string ((rd_T72 l0 x5_1).f1)) ∧ w'.cell? ⟨(ad418.add ((x5_1).toNat * 3)).block, (ad418.add ((x5_1).toNat * 3)).off + 2, none⟩ = some (.string ((rd_T72 l0 x5_1).f2))) (ds := []) #[false, false, false, false, false, false, false, false] (by kernel_rfl) rfl rfl ⟨((HB.out.cell (World.block_lt_of_cell? w _ hw420_0)).trans hw420_0), ((HB.out.cell (World.block_lt_of_cell? w _ hw420_1)).trans hw420_1), ((HB.out.cell (World.block_lt_of_cell? w _ hw420_2)).trans hw420_2)⟩ (fun hHeld => ?_); refine with_tabW laws_heldPropS.tab7 laws_heldPropS.bits7 (fun HT_ HW_ => ?_)
   generalize w12.drew = w13 at HB hx420_0 hx420_1 hx420_2 hHeld ⊢
   refine pu_ (i := 0) (N := some 22) ?_
   refine pu_ (i := 1) (N := some 23) ?_
   refine pu_ (i := 2) (N := some 24) ?_
   refine pu_ (i := 3) (N := some 25) ?_
   refine pu_ (i := 5) (N := some 27) ?_
   refine tk_ (i := 4) (N := some 26) hHeld ?_
   refine on_ (i := 6) (N := some 28) (fun K hK => ?_)
   refine goes_ Try.func69 (by kernel_rfl) rfl #[.int .i64 (wrap64 (x1_1 + 1))] (by rfl) rfl rfl ml_ ?_
   with_reducible refine (laws_markText.calls k1 (wrap64 (x1_1 + 1)) t421 _ A7.out).mono ?_
   rintro e w14 ⟨rfl, hb⟩
   refine ⟨_, rfl, ?_⟩
   have n0_ := Aside0.mk (below_step bB_ hb)
   clear HB
   have HB := n0_
   clear n0_
   (try clear hb)
   (try clear hb2)
   (try clear hk)
   (try clear hi)
   refine hK.out _ _ ⟨((HB.out.cell (World.block_lt_of_cell? w _ hw420_0)).trans hw420_0), ((HB.out.cell (World.block_lt_of_cell? w _ hw420_1)).trans hw420_1), ((HB.out.cell (World.block_lt_of_cell? w _ hw420_2)).trans hw420_2)⟩ (fun hHeld => ?_)
   clear hK K
   refine no_ (some 28) ?_
   refine pu_ (i := 7) (N := some 29) ?_
   refine done_ (done_of HT_.out (by kernel_rfl)) ?_
   (try clear hHeld)
   try go_wp2
   have n0_ := Aside0.mk (below_drew1 HB.out)
   clear HB
   have HB := n0_
   clear n0_
   have p422 : 0 ≤ (x5_1 : Int) := of_decide_eq_true as_
   have q422 : x5_1 < (l0.length : Int) := of_decide_eq_true as_
   obtain ⟨ad422, e422, hx422_0, hx422_1, hx422_2⟩ := at_T72 HR0.out x5_1 p422 q422
   have hw422_2 := hx422_2
   have hw422_1 := hx422_1
   have hw422_0 := hx422_0
   obtain rfl : ad418 = ad422 := (by injection e422)
   replace hx422_0 := bc_ HB.out hx422_0
   replace hx422_1 := bc_ HB.out hx422_1
   replace hx422_2 := bc_ HB.out hx422_2
   replace p422 := eq_true p422
   replace q422 := eq_true q422
   refine start_ (n := 8) (S := fun w' => w'.cell? (ad418.add ((x5_1).toNat * 3)) = some (.string ((rd_T72 l0 x5_1).f0)) ∧ w'.cell? ⟨(ad418.add ((x5_1).toNat * 3)).block, (ad418.add ((x5_1).toNat * 3)).off + 1, none⟩ = some (.string ((rd_T72 l0 x5_1).f1)) ∧ w'.cell? ⟨(ad418.add ((x5_1).toNat * 3)).block, (ad418.add ((x5_1).toNat * 3)).off + 2, none⟩ = some (.string ((rd_T72 l0 x5_1).f2))) (ds := []) #[false, false, false, false, false, false, false, false] (by kernel_rfl) rfl rfl ⟨((HB.out.cell (World.block_lt_of_cell? w _ hw422_0)).trans hw422_0), ((HB.out.cell (World.block_lt_of_cell? w _ hw422_1)).trans hw422_1), ((HB.out.cell (World.block_lt_of_cell? w _ hw422_2)).trans hw422_2)⟩ (fun hHeld => ?_); refine with_tabW laws_heldPropS.tab10 laws_heldPropS.bits10 (fun HT_ HW_ => ?_)
   generalize w14.drew = w15 at HB hx422_0 hx422_1 hx422_2 hHeld ⊢
   refine pu_ (i := 0) (N := some 32) ?_
   refine pu_ (i := 1) (N := some 33) ?_
   refine pu_ (i := 2) (N := some 34) ?_
   refine pu_ (i := 3) (N := some 35) ?_
   refine pu_ (i := 5) (N := some 37) ?_
   refine tk_ (i := 4) (N := some 36) hHeld ?_
   refine on_ (i := 6) (N := some 38) (fun K hK => ?_)
   refine goes_ Try.func69 (by kernel_rfl) rfl #[.int .i64 (wrap64 ((wrap64 (x1_1 + 1)) + 1))] (by rfl) rfl rfl ml_ ?_
   with_reducible refine (laws_markText.calls k1 (wrap64 ((wrap64 (x1_1 + 1)) + 1)) t423 _ A9.out).mono ?_
   rintro e w16 ⟨rfl, hb⟩
   refine ⟨_, rfl, ?_⟩
   have n0_ := Aside0.mk (below_step bB_ hb)
   clear HB
   have HB := n0_
   clear n0_
   (try clear hb)
   (try clear hb2)
   (try clear hk)
   (try clear hi)
   refine hK.out _ _ ⟨((HB.out.cell (World.block_lt_of_cell? w _ hw422_0)).trans hw422_0), ((HB.out.cell (World.block_lt_of_cell? w _ hw422_1)).trans hw422_1), ((HB.out.cell (World.block_lt_of_cell? w _ hw422_2)).trans hw422_2)⟩ (fun hHeld => ?_)
   clear hK K
   refine no_ (some 38) ?_
   refine pu_ (i := 7) (N := some 39) ?_
   refine done_ (done_of HT_.out (by kernel_rfl)) ?_
   (try clear hHeld)
   try go_wp2
   go_roundg k1
   case measure => have := HK1.out; omega
   case rel => exact ⟨(wrap64 ((wrap64 ((wrap64 (x1_1 + 1)) + 1)) + 1)), (wrap64 (x5_1 + 1)), rs_, rs_, H', ⟨by have := HK1.out; omega⟩, ⟨bB_⟩⟩
def laws_heldResS.l0 : Nat → List (S57) → Int → Int → Option (Int)
 | 0, _, _, _ => none
 | k + 1, x0, x1, x5 => if x5 < (x0.length : Int) then (if 0 ≤ x5 then ((laws_heldStringS.f k ((rd_T57 x0 x5).f0) x1).bind fun t425 => (if t425 < 0 then (some (-1)) else (if (((rd_T57 x0 x5).f1) != ((Int.tmod t425 3) == 0)) = true then (some (-1)) else ((laws_markText.f k (wrap64 (t425 + 1))).bind fun t428 => (if ((rd_T57 x0 x5).f2).toList = t428.toList then (if ((rd_T57 x0 x5).f3) = (wrap64 ((wrap64 (t425 + 1)) + 1)) then ((laws_heldPropS.f k ((rd_T57 x0 x5).f4) (wrap64 ((wrap64 ((wrap64 (t425 + 1)) + 1)) + 1))).bind fun t431 => (if t431 < 0 then (some (-1)) else (laws_heldResS.l0 k x0 t431 (wrap64 (x5 + 1))))) else (some (-1))) else (some (-1))))))) else (none)) else (some x1)
def laws_heldResS.f (k : Nat) (l0 : List (S57)) (a1 : Int) : Option (Int) := laws_heldResS.l0 k l0 a1 0
def laws_heldResS.T10 : Bool × List (List Nat × List Nat) := (true, [([], []), ([], []), ([0, 1], [0, 1]), ([2], [2]), ([3], [3]), ([], []), ([5], [5]), ([4, 6], [4, 6])])
def laws_heldResS.B10 : List Nat := [0, 0, 3, 7, 15, 0, 32, 127]
theorem laws_heldResS.tab10 : rtab .any (opsOf Try.f23 10) = laws_heldResS.T10 := by kernel_rfl
theorem laws_heldResS.bits10 : waitsOk laws_heldResS.T10.2 laws_heldResS.B10 = true := by kernel_rfl
set_option maxHeartbeats 8000000 in
set_option maxRecDepth 100000 in
theorem laws_heldResS.calls (k : Nat) (A0 : Option Addr) (c0 : Nat) (l0 : List (S57)) (a1 : Int) (r : Int) (w : World) (hr0 : Kd.C k57 w A0 l0.length l0) (hc0 : l0.length ≤ c0) (h : laws_heldResS.f k l0 a1 = some r) :
 Calls Try.prog 23 #[.slice A0 l0.length c0, .int .i64 a1] w fun e w' => e = .returned (.int .i64 r) ∧ Below w.heap.size w w' := by
 have HR0 := Aside0.mk hr0
 have HC0 := Aside0.mk hc0
 clear hr0 hc0
 have HB := Aside0.mk (Below.refl w.heap.size w)
 have H : (laws_heldResS.l0 k l0 a1 0) = some r := h
 clear h
 have H' := Aside0.mk H
 clear H
 go_enter Try.func23, Try.ntmps23
 go_wp2
 go_loopg [1, 5] k (fun kq v1 v5 w' => ∃ (x1_1 : Int) (x5_1 : Int), v1 = .int .i64 x1_1 ∧ v5 = .int .i64 x5_1 ∧ Aside0 (laws_heldResS.l0 kq l0 x1_1 x5_1 = some r) ∧ Aside0 (kq ≤ k) ∧ Aside0 (Below w.heap.size w w'))
 case atStart => exact ⟨(a1), (0), rs_, rs_, H', ⟨Nat.le_refl _⟩, ⟨bB_⟩⟩
 case round =>
  clear H'
  try clear c2
  try clear p2
  obtain ⟨x1_1, x5_1, rfl, rfl, HA, HK1, HB⟩ := hrel
  cases gk with
  | zero => exact absurd HA.out (by simp [laws_heldResS.l0])
  | succ k1 =>
   have H := HA.out
   clear HA
   simp only [laws_heldResS.l0] at H
   by_cases c3 : x5_1 < (l0.length : Int)
   rotate_left
   · rw [if_neg c3] at H
     have c3b0 : decide (x5_1 < (l0.length : Int)) = false := decide_eq_false c3
     clear c3
     obtain rfl := Option.some.inj H
     go_wp2
     go_ret
     exact ⟨rr_, bB_⟩
   rw [if_pos c3] at H
   have c3b0 : decide (x5_1 < (l0.length : Int)) = true := decide_eq_true c3
   clear c3
   by_cases c4 : 0 ≤ x5_1
   rotate_left
   · exact absurd H (by rw [if_neg c4]; simp)
   rw [if_pos c4] at H
   have c4b0 : decide (0 ≤ x5_1) = true := decide_eq_true c4
   clear c4
   obtain ⟨t425, A5, H⟩ := bo_ H
   (try dsimp only at H)
   by_cases c6 : t425 < 0
   · rw [if_pos c6] at H
     have c6b0 : decide (t425 < 0) = true := decide_eq_true c6
     clear c6
     obtain rfl := Option.some.inj H
     have p424 : 0 ≤ (x5_1 : Int) := of_decide_eq_true as_
     have q424 : x5_1 < (l0.length : Int) := of_decide_eq_true as_
     obtain ⟨ad424, A424_0, c424_0, A424_4, c424_4, e424, hx424_0, hx424_1, hx424_2, hx424_3, hx424_4, hl424_0, hi424_0, hl424_4, hi424_4⟩ := at_T57 HR0.out x5_1 p424 q424
     cases e424
     replace hx424_0 := bc_ HB.out hx424_0
     replace hx424_1 := bc_ HB.out hx424_1
     replace hx424_2 := bc_ HB.out hx424_2
     replace hx424_3 := bc_ HB.out hx424_3
     replace hx424_4 := bc_ HB.out hx424_4
     have HR424_0 := Aside0.mk hi424_0
     have HC424_0 := Aside0.mk hl424_0
     clear hi424_0 hl424_0
     have HR424_4 := Aside0.mk hi424_4
     have HC424_4 := Aside0.mk hl424_4
     clear hi424_4 hl424_4
     replace p424 := eq_true p424
     replace q424 := eq_true q424
     go_wp2_with (first | ((with_reducible refine gate_callee (f := 71) rfl ?_); refine gL_ (some 18) Try.func71 #[.slice A424_0 ((rd_T57 l0 x5_1).f0).length c424_0, .int .i64 x1_1] ?_; (with_reducible refine (laws_heldStringS.calls k1 _ _ ((rd_T57 l0 x5_1).f0) x1_1 t425 _ ?side1 ?side2 A5.out).mono ?_); (case side1 => exact cC_ (Kd.C_below HR424_0.out HB.out)); (case side2 => exact HC424_0.out); rintro e w7 ⟨rfl, hb⟩; refine ⟨_, rfl, ?_⟩; have n0_ := Aside0.mk (below_step bB_ hb); clear HB; have HB := n0_; clear n0_; (try clear hb)))
     go_ret
     exact ⟨rr_, bB_⟩
   rw [if_neg c6] at H
   have c6b0 : decide (t425 < 0) = false := decide_eq_false c6
   clear c6
   by_cases c8 : (((rd_T57 l0 x5_1).f1) != ((Int.tmod t425 3) == 0)) = true
   · rw [if_pos c8] at H
     have c8b0 : (((rd_T57 l0 x5_1).f1) != ((Int.tmod t425 3) == 0)) = true := c8
     (try (have c8b1 : decide (((rd_T57 l0 x5_1).f1) = ((Int.tmod t425 3) == 0)) = false := by simpa using c8))
     (try (have c8b2 : (((rd_T57 l0 x5_1).f1) == ((Int.tmod t425 3) == 0)) = false := by simpa using c8))
     (try (have c8b3 : ¬ (((rd_T57 l0 x5_1).f1) = ((Int.tmod t425 3) == 0)) := by simpa using c8))
     clear c8
     obtain rfl := Option.some.inj H
     have p424 : 0 ≤ (x5_1 : Int) := of_decide_eq_true as_
     have q424 : x5_1 < (l0.length : Int) := of_decide_eq_true as_
     obtain ⟨ad424, A424_0, c424_0, A424_4, c424_4, e424, hx424_0, hx424_1, hx424_2, hx424_3, hx424_4, hl424_0, hi424_0, hl424_4, hi424_4⟩ := at_T57 HR0.out x5_1 p424 q424
     cases e424
     replace hx424_0 := bc_ HB.out hx424_0
     replace hx424_1 := bc_ HB.out hx424_1
     replace hx424_2 := bc_ HB.out hx424_2
     replace hx424_3 := bc_ HB.out hx424_3
     replace hx424_4 := bc_ HB.out hx424_4
     have HR424_0 := Aside0.mk hi424_0
     have HC424_0 := Aside0.mk hl424_0
     clear hi424_0 hl424_0
     have HR424_4 := Aside0.mk hi424_4
     have HC424_4 := Aside0.mk hl424_4
     clear hi424_4 hl424_4
     replace p424 := eq_true p424
     replace q424 := eq_true q424
     go_wp2_with (first | ((with_reducible refine gate_callee (f := 71) rfl ?_); refine gL_ (some 18) Try.func71 #[.slice A424_0 ((rd_T57 l0 x5_1).f0).length c424_0, .int .i64 x1_1] ?_; (with_reducible refine (laws_heldStringS.calls k1 _ _ ((rd_T57 l0 x5_1).f0) x1_1 t425 _ ?side1 ?side2 A5.out).mono ?_); (case side1 => exact cC_ (Kd.C_below HR424_0.out HB.out)); (case side2 => exact HC424_0.out); rintro e w9 ⟨rfl, hb⟩; refine ⟨_, rfl, ?_⟩; have n0_ := Aside0.mk (below_step bB_ hb); clear HB; have HB := n0_; clear n0_; (try clear hb); have p426 : 0 ≤ (x5_1 : Int) := of_decide_eq_true as_; have q426 : x5_1 < (l0.length : Int) := of_decide_eq_true as_; obtain ⟨ad426, A426_0, c426_0, A426_4, c426_4, e426, hx426_0, hx426_1, hx426_2, hx426_3, hx426_4, hl426_0, hi426_0, hl426_4, hi426_4⟩ := at_T57 HR0.out x5_1 p426 q426; obtain rfl : ad424 = ad426 := (by injection e426); replace hx426_0 := bc_ HB.out hx426_0; replace hx426_1 := bc_ HB.out hx426_1; replace hx426_2 := bc_ HB.out hx426_2; replace hx426_3 := bc_ HB.out hx426_3; replace hx426_4 := bc_ HB.out hx426_4; have HR426_0 := Aside0.mk hi426_0; have HC426_0 := Aside0.mk hl426_0; clear hi426_0 hl426_0; have HR426_4 := Aside0.mk hi426_4; have HC426_4 := Aside0.mk hl426_4; clear hi426_4 hl426_4; replace p426 := eq_true p426; replace q426 := eq_true q426))
     go_ret
     exact ⟨rr_, bB_⟩
   rw [if_neg c8] at H
   have c8b0 : (((rd_T57 l0 x5_1).f1) != ((Int.tmod t425 3) == 0)) = false := by simpa using c8
   (try (have c8b1 : decide (((rd_T57 l0 x5_1).f1) = ((Int.tmod t425 3) == 0)) = true := by simpa using c8))
   (try (have c8b2 : (((rd_T57 l0 x5_1).f1) == ((Int.tmod t425 3) == 0)) = true := by simpa using c8))
   clear c8
   obtain ⟨t428, A10, H⟩ := bo_ H
   (try dsimp only at H)
   by_cases c11 : ((rd_T57 l0 x5_1).f2).toList = t428.toList
   rotate_left
   · rw [if_neg c11] at H
     have c11b0 : (((rd_T57 l0 x5_1).f2).toList == t428.toList) = false := beq_eq_false_iff_ne.mpr c11
     have c11b1 : (((rd_T57 l0 x5_1).f2).toList != t428.toList) = true := bne_iff_ne.mpr c11
     obtain rfl := Option.some.inj H
     have p424 : 0 ≤ (x5_1 : Int) := of_decide_eq_true as_
     have q424 : x5_1 < (l0.length : Int) := of_decide_eq_true as_
     obtain ⟨ad424, A424_0, c424_0, A424_4, c424_4, e424, hx424_0, hx424_1, hx424_2, hx424_3, hx424_4, hl424_0, hi424_0, hl424_4, hi424_4⟩ := at_T57 HR0.out x5_1 p424 q424
     cases e424
     replace hx424_0 := bc_ HB.out hx424_0
     replace hx424_1 := bc_ HB.out hx424_1
     replace hx424_2 := bc_ HB.out hx424_2
     replace hx424_3 := bc_ HB.out hx424_3
     replace hx424_4 := bc_ HB.out hx424_4
     have HR424_0 := Aside0.mk hi424_0
     have HC424_0 := Aside0.mk hl424_0
     clear hi424_0 hl424_0
     have HR424_4 := Aside0.mk hi424_4
     have HC424_4 := Aside0.mk hl424_4
     clear hi424_4 hl424_4
     replace p424 := eq_true p424
     replace q424 := eq_true q424
     try go_wp2_with (first | ((with_reducible refine gate_callee (f := 71) rfl ?_); refine gL_ (some 18) Try.func71 #[.slice A424_0 ((rd_T57 l0 x5_1).f0).length c424_0, .int .i64 x1_1] ?_; (with_reducible refine (laws_heldStringS.calls k1 _ _ ((rd_T57 l0 x5_1).f0) x1_1 t425 _ ?side1 ?side2 A5.out).mono ?_); (case side1 => exact cC_ (Kd.C_below HR424_0.out HB.out)); (case side2 => exact HC424_0.out); rintro e w26 ⟨rfl, hb⟩; refine ⟨_, rfl, ?_⟩; have n0_ := Aside0.mk (below_step bB_ hb); clear HB; have HB := n0_; clear n0_; (try clear hb); have p426 : 0 ≤ (x5_1 : Int) := of_decide_eq_true as_; have q426 : x5_1 < (l0.length : Int) := of_decide_eq_true as_; obtain ⟨ad426, A426_0, c426_0, A426_4, c426_4, e426, hx426_0, hx426_1, hx426_2, hx426_3, hx426_4, hl426_0, hi426_0, hl426_4, hi426_4⟩ := at_T57 HR0.out x5_1 p426 q426; obtain rfl : ad424 = ad426 := (by injection e426); replace hx426_0 := bc_ HB.out hx426_0; replace hx426_1 := bc_ HB.out hx426_1; replace hx426_2 := bc_ HB.out hx426_2; replace hx426_3 := bc_ HB.out hx426_3; replace hx426_4 := bc_ HB.out hx426_4; have HR426_0 := Aside0.mk hi426_0; have HC426_0 := Aside0.mk hl426_0; clear hi426_0 hl426_0; have HR426_4 := Aside0.mk hi426_4; have HC426_4 := Aside0.mk hl426_4; clear hi426_4 hl426_4; replace p426 := eq_true p426; replace q426 := eq_true q426))
     have n0_ := Aside0.mk (below_drew1 HB.out)
     clear HB
     have HB := n0_
     clear n0_
     have p427 : 0 ≤ (x5_1 : Int) := of_decide_eq_true as_
     have q427 : x5_1 < (l0.length : Int) := of_decide_eq_true as_
     obtain ⟨ad427, A427_0, c427_0, A427_4, c427_4, e427, hx427_0, hx427_1, hx427_2, hx427_3, hx427_4, hl427_0, hi427_0, hl427_4, hi427_4⟩ := at_T57 HR0.out x5_1 p427 q427
     have hw427_4 := hx427_4
     have hw427_3 := hx427_3
     have hw427_2 := hx427_2
     have hw427_1 := hx427_1
     have hw427_0 := hx427_0
     obtain rfl : ad424 = ad427 := (by injection e427)
     replace hx427_0 := bc_ HB.out hx427_0
     replace hx427_1 := bc_ HB.out hx427_1
     replace hx427_2 := bc_ HB.out hx427_2
     replace hx427_3 := bc_ HB.out hx427_3
     replace hx427_4 := bc_ HB.out hx427_4
     have HR427_0 := Aside0.mk hi427_0
     have HC427_0 := Aside0.mk hl427_0
     clear hi427_0 hl427_0
     have HR427_4 := Aside0.mk hi427_4
     have HC427_4 := Aside0.mk hl427_4
     clear hi427_4 hl427_4
     replace p427 := eq_true p427
     replace q427 := eq_true q427
     refine start_ (n := 8) (S := fun w' => w'.cell? (ad424.add ((x5_1).toNat * 5)) = some (.slice A427_0 ((rd_T57 l0 x5_1).f0).length c427_0) ∧ w'.cell? ⟨(ad424.add ((x5_1).toNat * 5)).block, (ad424.add ((x5_1).toNat * 5)).off + 1, none⟩ = some (.bool ((rd_T57 l0 x5_1).f1)) ∧ w'.cell? ⟨(ad424.add ((x5_1).toNat * 5)).block, (ad424.add ((x5_1).toNat * 5)).off + 2, none⟩ = some (.string ((rd_T57 l0 x5_1).f2)) ∧ w'.cell? ⟨(ad424.add ((x5_1).toNat * 5)).block, (ad424.add ((x5_1).toNat * 5)).off + 3, none⟩ = some (.int .i64 ((rd_T57 l0 x5_1).f3)) ∧ w'.cell? ⟨(ad424.add ((x5_1).toNat * 5)).block, (ad424.add ((x5_1).toNat * 5)).off + 4, none⟩ = some (.slice A427_4 ((rd_T57 l0 x5_1).f4).length c427_4)) (ds := []) #[false, false, false, false, false, false, false, false] (by kernel_rfl) rfl rfl ⟨((HB.out.cell (World.block_lt_of_cell? w _ hw427_0)).trans hw427_0), ((HB.out.cell (World.block_lt_of_cell? w _ hw427_1)).trans hw427_1), ((HB.out.cell (World.block_lt_of_cell? w _ hw427_2)).trans hw427_2), ((HB.out.cell (World.block_lt_of_cell? w _ hw427_3)).trans hw427_3), ((HB.out.cell (World.block_lt_of_cell? w _ hw427_4)).trans hw427_4)⟩ (fun hHeld => ?_); refine with_tabW laws_heldResS.tab10 laws_heldResS.bits10 (fun HT_ HW_ => ?_)
     generalize w26.drew = w27 at HB HR427_0 HR427_4 hx427_0 hx427_1 hx427_2 hx427_3 hx427_4 hHeld ⊢
     refine pu_ (i := 0) (N := some 32) ?_
     refine pu_ (i := 1) (N := some 33) ?_
     refine pu_ (i := 2) (N := some 34) ?_
     refine pu_ (i := 3) (N := some 35) ?_
     refine pu_ (i := 5) (N := some 37) ?_
     refine tk_ (i := 4) (N := some 36) hHeld ?_
     refine on_ (i := 6) (N := some 38) (fun K hK => ?_)
     refine goes_ Try.func69 (by kernel_rfl) rfl #[.int .i64 (wrap64 (t425 + 1))] (by rfl) rfl rfl ml_ ?_
     with_reducible refine (laws_markText.calls k1 (wrap64 (t425 + 1)) t428 _ A10.out).mono ?_
     rintro e w28 ⟨rfl, hb⟩
     refine ⟨_, rfl, ?_⟩
     have n0_ := Aside0.mk (below_step bB_ hb)
     clear HB
     have HB := n0_
     clear n0_
     (try clear hb)
     (try clear hb2)
     (try clear hk)
     (try clear hi)
     refine hK.out _ _ ⟨((HB.out.cell (World.block_lt_of_cell? w _ hw427_0)).trans hw427_0), ((HB.out.cell (World.block_lt_of_cell? w _ hw427_1)).trans hw427_1), ((HB.out.cell (World.block_lt_of_cell? w _ hw427_2)).trans hw427_2), ((HB.out.cell (World.block_lt_of_cell? w _ hw427_3)).trans hw427_3), ((HB.out.cell (World.block_lt_of_cell? w _ hw427_4)).trans hw427_4)⟩ (fun hHeld => ?_)
     clear hK K
     refine no_ (some 38) ?_
     refine pu_ (i := 7) (N := some 39) ?_
     refine done_ (done_of HT_.out (by kernel_rfl)) ?_
     (try clear hHeld)
     try go_wp2
     go_ret
     exact ⟨rr_, bB_⟩
   rw [if_pos c11] at H
   have c11b0 : (((rd_T57 l0 x5_1).f2).toList == t428.toList) = true := beq_iff_eq.mpr c11
   have c11b1 : (((rd_T57 l0 x5_1).f2).toList != t428.toList) = false := bne_eq_false_iff_eq.mpr c11
   clear c11
   by_cases c12 : ((rd_T57 l0 x5_1).f3) = (wrap64 ((wrap64 (t425 + 1)) + 1))
   rotate_left
   · rw [if_neg c12] at H
     have c12b0 : (((rd_T57 l0 x5_1).f3) == (wrap64 ((wrap64 (t425 + 1)) + 1))) = false := beq_eq_false_iff_ne.mpr c12
     have c12b1 : (((rd_T57 l0 x5_1).f3) != (wrap64 ((wrap64 (t425 + 1)) + 1))) = true := bne_iff_ne.mpr c12
     obtain rfl := Option.some.inj H
     have p424 : 0 ≤ (x5_1 : Int) := of_decide_eq_true as_
     have q424 : x5_1 < (l0.length : Int) := of_decide_eq_true as_
     obtain ⟨ad424, A424_0, c424_0, A424_4, c424_4, e424, hx424_0, hx424_1, hx424_2, hx424_3, hx424_4, hl424_0, hi424_0, hl424_4, hi424_4⟩ := at_T57 HR0.out x5_1 p424 q424
     cases e424
     replace hx424_0 := bc_ HB.out hx424_0
     replace hx424_1 := bc_ HB.out hx424_1
     replace hx424_2 := bc_ HB.out hx424_2
     replace hx424_3 := bc_ HB.out hx424_3
     replace hx424_4 := bc_ HB.out hx424_4
     have HR424_0 := Aside0.mk hi424_0
     have HC424_0 := Aside0.mk hl424_0
     clear hi424_0 hl424_0
     have HR424_4 := Aside0.mk hi424_4
     have HC424_4 := Aside0.mk hl424_4
     clear hi424_4 hl424_4
     replace p424 := eq_true p424
     replace q424 := eq_true q424
     try go_wp2_with (first | ((with_reducible refine gate_callee (f := 71) rfl ?_); refine gL_ (some 18) Try.func71 #[.slice A424_0 ((rd_T57 l0 x5_1).f0).length c424_0, .int .i64 x1_1] ?_; (with_reducible refine (laws_heldStringS.calls k1 _ _ ((rd_T57 l0 x5_1).f0) x1_1 t425 _ ?side1 ?side2 A5.out).mono ?_); (case side1 => exact cC_ (Kd.C_below HR424_0.out HB.out)); (case side2 => exact HC424_0.out); rintro e w23 ⟨rfl, hb⟩; refine ⟨_, rfl, ?_⟩; have n0_ := Aside0.mk (below_step bB_ hb); clear HB; have HB := n0_; clear n0_; (try clear hb); have p426 : 0 ≤ (x5_1 : Int) := of_decide_eq_true as_; have q426 : x5_1 < (l0.length : Int) := of_decide_eq_true as_; obtain ⟨ad426, A426_0, c426_0, A426_4, c426_4, e426, hx426_0, hx426_1, hx426_2, hx426_3, hx426_4, hl426_0, hi426_0, hl426_4, hi426_4⟩ := at_T57 HR0.out x5_1 p426 q426; obtain rfl : ad424 = ad426 := (by injection e426); replace hx426_0 := bc_ HB.out hx426_0; replace hx426_1 := bc_ HB.out hx426_1; replace hx426_2 := bc_ HB.out hx426_2; replace hx426_3 := bc_ HB.out hx426_3; replace hx426_4 := bc_ HB.out hx426_4; have HR426_0 := Aside0.mk hi426_0; have HC426_0 := Aside0.mk hl426_0; clear hi426_0 hl426_0; have HR426_4 := Aside0.mk hi426_4; have HC426_4 := Aside0.mk hl426_4; clear hi426_4 hl426_4; replace p426 := eq_true p426; replace q426 := eq_true q426))
     have n0_ := Aside0.mk (below_drew1 HB.out)
     clear HB
     have HB := n0_
     clear n0_
     have p427 : 0 ≤ (x5_1 : Int) := of_decide_eq_true as_
     have q427 : x5_1 < (l0.length : Int) := of_decide_eq_true as_
     obtain ⟨ad427, A427_0, c427_0, A427_4, c427_4, e427, hx427_0, hx427_1, hx427_2, hx427_3, hx427_4, hl427_0, hi427_0, hl427_4, hi427_4⟩ := at_T57 HR0.out x5_1 p427 q427
     have hw427_4 := hx427_4
     have hw427_3 := hx427_3
     have hw427_2 := hx427_2
     have hw427_1 := hx427_1
     have hw427_0 := hx427_0
     obtain rfl : ad424 = ad427 := (by injection e427)
     replace hx427_0 := bc_ HB.out hx427_0
     replace hx427_1 := bc_ HB.out hx427_1
     replace hx427_2 := bc_ HB.out hx427_2
     replace hx427_3 := bc_ HB.out hx427_3
     replace hx427_4 := bc_ HB.out hx427_4
     have HR427_0 := Aside0.mk hi427_0
     have HC427_0 := Aside0.mk hl427_0
     clear hi427_0 hl427_0
     have HR427_4 := Aside0.mk hi427_4
     have HC427_4 := Aside0.mk hl427_4
     clear hi427_4 hl427_4
     replace p427 := eq_true p427
     replace q427 := eq_true q427
     refine start_ (n := 8) (S := fun w' => w'.cell? (ad424.add ((x5_1).toNat * 5)) = some (.slice A427_0 ((rd_T57 l0 x5_1).f0).length c427_0) ∧ w'.cell? ⟨(ad424.add ((x5_1).toNat * 5)).block, (ad424.add ((x5_1).toNat * 5)).off + 1, none⟩ = some (.bool ((rd_T57 l0 x5_1).f1)) ∧ w'.cell? ⟨(ad424.add ((x5_1).toNat * 5)).block, (ad424.add ((x5_1).toNat * 5)).off + 2, none⟩ = some (.string ((rd_T57 l0 x5_1).f2)) ∧ w'.cell? ⟨(ad424.add ((x5_1).toNat * 5)).block, (ad424.add ((x5_1).toNat * 5)).off + 3, none⟩ = some (.int .i64 ((rd_T57 l0 x5_1).f3)) ∧ w'.cell? ⟨(ad424.add ((x5_1).toNat * 5)).block, (ad424.add ((x5_1).toNat * 5)).off + 4, none⟩ = some (.slice A427_4 ((rd_T57 l0 x5_1).f4).length c427_4)) (ds := []) #[false, false, false, false, false, false, false, false] (by kernel_rfl) rfl rfl ⟨((HB.out.cell (World.block_lt_of_cell? w _ hw427_0)).trans hw427_0), ((HB.out.cell (World.block_lt_of_cell? w _ hw427_1)).trans hw427_1), ((HB.out.cell (World.block_lt_of_cell? w _ hw427_2)).trans hw427_2), ((HB.out.cell (World.block_lt_of_cell? w _ hw427_3)).trans hw427_3), ((HB.out.cell (World.block_lt_of_cell? w _ hw427_4)).trans hw427_4)⟩ (fun hHeld => ?_); refine with_tabW laws_heldResS.tab10 laws_heldResS.bits10 (fun HT_ HW_ => ?_)
     generalize w23.drew = w24 at HB HR427_0 HR427_4 hx427_0 hx427_1 hx427_2 hx427_3 hx427_4 hHeld ⊢
     refine pu_ (i := 0) (N := some 32) ?_
     refine pu_ (i := 1) (N := some 33) ?_
     refine pu_ (i := 2) (N := some 34) ?_
     refine pu_ (i := 3) (N := some 35) ?_
     refine pu_ (i := 5) (N := some 37) ?_
     refine tk_ (i := 4) (N := some 36) hHeld ?_
     refine on_ (i := 6) (N := some 38) (fun K hK => ?_)
     refine goes_ Try.func69 (by kernel_rfl) rfl #[.int .i64 (wrap64 (t425 + 1))] (by rfl) rfl rfl ml_ ?_
     with_reducible refine (laws_markText.calls k1 (wrap64 (t425 + 1)) t428 _ A10.out).mono ?_
     rintro e w25 ⟨rfl, hb⟩
     refine ⟨_, rfl, ?_⟩
     have n0_ := Aside0.mk (below_step bB_ hb)
     clear HB
     have HB := n0_
     clear n0_
     (try clear hb)
     (try clear hb2)
     (try clear hk)
     (try clear hi)
     refine hK.out _ _ ⟨((HB.out.cell (World.block_lt_of_cell? w _ hw427_0)).trans hw427_0), ((HB.out.cell (World.block_lt_of_cell? w _ hw427_1)).trans hw427_1), ((HB.out.cell (World.block_lt_of_cell? w _ hw427_2)).trans hw427_2), ((HB.out.cell (World.block_lt_of_cell? w _ hw427_3)).trans hw427_3), ((HB.out.cell (World.block_lt_of_cell? w _ hw427_4)).trans hw427_4)⟩ (fun hHeld => ?_)
     clear hK K
     refine no_ (some 38) ?_
     refine pu_ (i := 7) (N := some 39) ?_
     refine done_ (done_of HT_.out (by kernel_rfl)) ?_
     (try clear hHeld)
     have p429 : 0 ≤ (x5_1 : Int) := of_decide_eq_true as_
     have q429 : x5_1 < (l0.length : Int) := of_decide_eq_true as_
     obtain ⟨ad429, A429_0, c429_0, A429_4, c429_4, e429, hx429_0, hx429_1, hx429_2, hx429_3, hx429_4, hl429_0, hi429_0, hl429_4, hi429_4⟩ := at_T57 HR0.out x5_1 p429 q429
     obtain rfl : ad424 = ad429 := (by injection e429)
     replace hx429_0 := bc_ HB.out hx429_0
     replace hx429_1 := bc_ HB.out hx429_1
     replace hx429_2 := bc_ HB.out hx429_2
     replace hx429_3 := bc_ HB.out hx429_3
     replace hx429_4 := bc_ HB.out hx429_4
     have HR429_0 := Aside0.mk hi429_0
     have HC429_0 := Aside0.mk hl429_0
     clear hi429_0 hl429_0
     have HR429_4 := Aside0.mk hi429_4
     have HC429_4 := Aside0.mk hl429_4
     clear hi429_4 hl429_4
     replace p429 := eq_true p429
     replace q429 := eq_true q429
     try go_wp2
     go_ret
     exact ⟨rr_, bB_⟩
   rw [if_pos c12] at H
   have c12b0 : (((rd_T57 l0 x5_1).f3) == (wrap64 ((wrap64 (t425 + 1)) + 1))) = true := beq_iff_eq.mpr c12
   have c12b1 : (((rd_T57 l0 x5_1).f3) != (wrap64 ((wrap64 (t425 + 1)) + 1))) = false := bne_eq_false_iff_eq.mpr c12
   clear c12
   obtain ⟨t431, A13, H⟩ := bo_ H
   (try dsimp only at H)
   by_cases c14 : t431 < 0
   · rw [if_pos c14] at H
     have c14b0 : decide (t431 < 0) = true := decide_eq_true c14
     clear c14
     obtain rfl := Option.some.inj H
     have p424 : 0 ≤ (x5_1 : Int) := of_decide_eq_true as_
     have q424 : x5_1 < (l0.length : Int) := of_decide_eq_true as_
     obtain ⟨ad424, A424_0, c424_0, A424_4, c424_4, e424, hx424_0, hx424_1, hx424_2, hx424_3, hx424_4, hl424_0, hi424_0, hl424_4, hi424_4⟩ := at_T57 HR0.out x5_1 p424 q424
     cases e424
     replace hx424_0 := bc_ HB.out hx424_0
     replace hx424_1 := bc_ HB.out hx424_1
     replace hx424_2 := bc_ HB.out hx424_2
     replace hx424_3 := bc_ HB.out hx424_3
     replace hx424_4 := bc_ HB.out hx424_4
     have HR424_0 := Aside0.mk hi424_0
     have HC424_0 := Aside0.mk hl424_0
     clear hi424_0 hl424_0
     have HR424_4 := Aside0.mk hi424_4
     have HC424_4 := Aside0.mk hl424_4
     clear hi424_4 hl424_4
     replace p424 := eq_true p424
     replace q424 := eq_true q424
     try go_wp2_with (first | ((with_reducible refine gate_callee (f := 71) rfl ?_); refine gL_ (some 18) Try.func71 #[.slice A424_0 ((rd_T57 l0 x5_1).f0).length c424_0, .int .i64 x1_1] ?_; (with_reducible refine (laws_heldStringS.calls k1 _ _ ((rd_T57 l0 x5_1).f0) x1_1 t425 _ ?side1 ?side2 A5.out).mono ?_); (case side1 => exact cC_ (Kd.C_below HR424_0.out HB.out)); (case side2 => exact HC424_0.out); rintro e w15 ⟨rfl, hb⟩; refine ⟨_, rfl, ?_⟩; have n0_ := Aside0.mk (below_step bB_ hb); clear HB; have HB := n0_; clear n0_; (try clear hb); have p426 : 0 ≤ (x5_1 : Int) := of_decide_eq_true as_; have q426 : x5_1 < (l0.length : Int) := of_decide_eq_true as_; obtain ⟨ad426, A426_0, c426_0, A426_4, c426_4, e426, hx426_0, hx426_1, hx426_2, hx426_3, hx426_4, hl426_0, hi426_0, hl426_4, hi426_4⟩ := at_T57 HR0.out x5_1 p426 q426; obtain rfl : ad424 = ad426 := (by injection e426); replace hx426_0 := bc_ HB.out hx426_0; replace hx426_1 := bc_ HB.out hx426_1; replace hx426_2 := bc_ HB.out hx426_2; replace hx426_3 := bc_ HB.out hx426_3; replace hx426_4 := bc_ HB.out hx426_4; have HR426_0 := Aside0.mk hi426_0; have HC426_0 := Aside0.mk hl426_0; clear hi426_0 hl426_0; have HR426_4 := Aside0.mk hi426_4; have HC426_4 := Aside0.mk hl426_4; clear hi426_4 hl426_4; replace p426 := eq_true p426; replace q426 := eq_true q426))
     have n0_ := Aside0.mk (below_drew1 HB.out)
     clear HB
     have HB := n0_
     clear n0_
     have p427 : 0 ≤ (x5_1 : Int) := of_decide_eq_true as_
     have q427 : x5_1 < (l0.length : Int) := of_decide_eq_true as_
     obtain ⟨ad427, A427_0, c427_0, A427_4, c427_4, e427, hx427_0, hx427_1, hx427_2, hx427_3, hx427_4, hl427_0, hi427_0, hl427_4, hi427_4⟩ := at_T57 HR0.out x5_1 p427 q427
     have hw427_4 := hx427_4
     have hw427_3 := hx427_3
     have hw427_2 := hx427_2
     have hw427_1 := hx427_1
     have hw427_0 := hx427_0
     obtain rfl : ad424 = ad427 := (by injection e427)
     replace hx427_0 := bc_ HB.out hx427_0
     replace hx427_1 := bc_ HB.out hx427_1
     replace hx427_2 := bc_ HB.out hx427_2
     replace hx427_3 := bc_ HB.out hx427_3
     replace hx427_4 := bc_ HB.out hx427_4
     have HR427_0 := Aside0.mk hi427_0
     have HC427_0 := Aside0.mk hl427_0
     clear hi427_0 hl427_0
     have HR427_4 := Aside0.mk hi427_4
     have HC427_4 := Aside0.mk hl427_4
     clear hi427_4 hl427_4
     replace p427 := eq_true p427
     replace q427 := eq_true q427
     refine start_ (n := 8) (S := fun w' => w'.cell? (ad424.add ((x5_1).toNat * 5)) = some (.slice A427_0 ((rd_T57 l0 x5_1).f0).length c427_0) ∧ w'.cell? ⟨(ad424.add ((x5_1).toNat * 5)).block, (ad424.add ((x5_1).toNat * 5)).off + 1, none⟩ = some (.bool ((rd_T57 l0 x5_1).f1)) ∧ w'.cell? ⟨(ad424.add ((x5_1).toNat * 5)).block, (ad424.add ((x5_1).toNat * 5)).off + 2, none⟩ = some (.string ((rd_T57 l0 x5_1).f2)) ∧ w'.cell? ⟨(ad424.add ((x5_1).toNat * 5)).block, (ad424.add ((x5_1).toNat * 5)).off + 3, none⟩ = some (.int .i64 ((rd_T57 l0 x5_1).f3)) ∧ w'.cell? ⟨(ad424.add ((x5_1).toNat * 5)).block, (ad424.add ((x5_1).toNat * 5)).off + 4, none⟩ = some (.slice A427_4 ((rd_T57 l0 x5_1).f4).length c427_4)) (ds := []) #[false, false, false, false, false, false, false, false] (by kernel_rfl) rfl rfl ⟨((HB.out.cell (World.block_lt_of_cell? w _ hw427_0)).trans hw427_0), ((HB.out.cell (World.block_lt_of_cell? w _ hw427_1)).trans hw427_1), ((HB.out.cell (World.block_lt_of_cell? w _ hw427_2)).trans hw427_2), ((HB.out.cell (World.block_lt_of_cell? w _ hw427_3)).trans hw427_3), ((HB.out.cell (World.block_lt_of_cell? w _ hw427_4)).trans hw427_4)⟩ (fun hHeld => ?_); refine with_tabW laws_heldResS.tab10 laws_heldResS.bits10 (fun HT_ HW_ => ?_)
     generalize w15.drew = w16 at HB HR427_0 HR427_4 hx427_0 hx427_1 hx427_2 hx427_3 hx427_4 hHeld ⊢
     refine pu_ (i := 0) (N := some 32) ?_
     refine pu_ (i := 1) (N := some 33) ?_
     refine pu_ (i := 2) (N := some 34) ?_
     refine pu_ (i := 3) (N := some 35) ?_
     refine pu_ (i := 5) (N := some 37) ?_
     refine tk_ (i := 4) (N := some 36) hHeld ?_
     refine on_ (i := 6) (N := some 38) (fun K hK => ?_)
     refine goes_ Try.func69 (by kernel_rfl) rfl #[.int .i64 (wrap64 (t425 + 1))] (by rfl) rfl rfl ml_ ?_
     with_reducible refine (laws_markText.calls k1 (wrap64 (t425 + 1)) t428 _ A10.out).mono ?_
     rintro e w17 ⟨rfl, hb⟩
     refine ⟨_, rfl, ?_⟩
     have n0_ := Aside0.mk (below_step bB_ hb)
     clear HB
     have HB := n0_
     clear n0_
     (try clear hb)
     (try clear hb2)
     (try clear hk)
     (try clear hi)
     refine hK.out _ _ ⟨((HB.out.cell (World.block_lt_of_cell? w _ hw427_0)).trans hw427_0), ((HB.out.cell (World.block_lt_of_cell? w _ hw427_1)).trans hw427_1), ((HB.out.cell (World.block_lt_of_cell? w _ hw427_2)).trans hw427_2), ((HB.out.cell (World.block_lt_of_cell? w _ hw427_3)).trans hw427_3), ((HB.out.cell (World.block_lt_of_cell? w _ hw427_4)).trans hw427_4)⟩ (fun hHeld => ?_)
     clear hK K
     refine no_ (some 38) ?_
     refine pu_ (i := 7) (N := some 39) ?_
     refine done_ (done_of HT_.out (by kernel_rfl)) ?_
     (try clear hHeld)
     have p429 : 0 ≤ (x5_1 : Int) := of_decide_eq_true as_
     have q429 : x5_1 < (l0.length : Int) := of_decide_eq_true as_
     obtain ⟨ad429, A429_0, c429_0, A429_4, c429_4, e429, hx429_0, hx429_1, hx429_2, hx429_3, hx429_4, hl429_0, hi429_0, hl429_4, hi429_4⟩ := at_T57 HR0.out x5_1 p429 q429
     obtain rfl : ad424 = ad429 := (by injection e429)
     replace hx429_0 := bc_ HB.out hx429_0
     replace hx429_1 := bc_ HB.out hx429_1
     replace hx429_2 := bc_ HB.out hx429_2
     replace hx429_3 := bc_ HB.out hx429_3
     replace hx429_4 := bc_ HB.out hx429_4
     have HR429_0 := Aside0.mk hi429_0
     have HC429_0 := Aside0.mk hl429_0
     clear hi429_0 hl429_0
     have HR429_4 := Aside0.mk hi429_4
     have HC429_4 := Aside0.mk hl429_4
     clear hi429_4 hl429_4
     replace p429 := eq_true p429
     replace q429 := eq_true q429
     have p430 : 0 ≤ (x5_1 : Int) := of_decide_eq_true as_
     have q430 : x5_1 < (l0.length : Int) := of_decide_eq_true as_
     obtain ⟨ad430, A430_0, c430_0, A430_4, c430_4, e430, hx430_0, hx430_1, hx430_2, hx430_3, hx430_4, hl430_0, hi430_0, hl430_4, hi430_4⟩ := at_T57 HR0.out x5_1 p430 q430
     obtain rfl : ad424 = ad430 := (by injection e430)
     replace hx430_0 := bc_ HB.out hx430_0
     replace hx430_1 := bc_ HB.out hx430_1
     replace hx430_2 := bc_ HB.out hx430_2
     replace hx430_3 := bc_ HB.out hx430_3
     replace hx430_4 := bc_ HB.out hx430_4
     have HR430_0 := Aside0.mk hi430_0
     have HC430_0 := Aside0.mk hl430_0
     clear hi430_0 hl430_0
     have HR430_4 := Aside0.mk hi430_4
     have HC430_4 := Aside0.mk hl430_4
     clear hi430_4 hl430_4
     replace p430 := eq_true p430
     replace q430 := eq_true q430
     have ea_ := Option.some.inj (hx429_0.symm.trans hx430_0)
     injection ea_ with ea_ en_ ec_
     subst ea_
     subst ec_
     clear en_
     have ea_ := Option.some.inj (hx429_4.symm.trans hx430_4)
     injection ea_ with ea_ en_ ec_
     subst ea_
     subst ec_
     clear en_
     try go_wp2_with (first | ((with_reducible refine gate_callee (f := 72) rfl ?_); refine gL_ (some 57) Try.func72 #[.slice A429_4 ((rd_T57 l0 x5_1).f4).length c429_4, .int .i64 (wrap64 ((wrap64 ((wrap64 (t425 + 1)) + 1)) + 1))] ?_; (with_reducible refine (laws_heldPropS.calls k1 _ _ ((rd_T57 l0 x5_1).f4) (wrap64 ((wrap64 ((wrap64 (t425 + 1)) + 1)) + 1)) t431 _ ?side1 ?side2 A13.out).mono ?_); (case side1 => exact cC_ (Kd.C_below HR430_4.out HB.out)); (case side2 => exact HC430_4.out); rintro e w18 ⟨rfl, hb⟩; refine ⟨_, rfl, ?_⟩; have n0_ := Aside0.mk (below_step bB_ hb); clear HB; have HB := n0_; clear n0_; (try clear hb)))
     go_ret
     exact ⟨rr_, bB_⟩
   rw [if_neg c14] at H
   have c14b0 : decide (t431 < 0) = false := decide_eq_false c14
   clear c14
   have H' := Aside0.mk H
   clear H
   have p424 : 0 ≤ (x5_1 : Int) := of_decide_eq_true as_
   have q424 : x5_1 < (l0.length : Int) := of_decide_eq_true as_
   obtain ⟨ad424, A424_0, c424_0, A424_4, c424_4, e424, hx424_0, hx424_1, hx424_2, hx424_3, hx424_4, hl424_0, hi424_0, hl424_4, hi424_4⟩ := at_T57 HR0.out x5_1 p424 q424
   cases e424
   replace hx424_0 := bc_ HB.out hx424_0
   replace hx424_1 := bc_ HB.out hx424_1
   replace hx424_2 := bc_ HB.out hx424_2
   replace hx424_3 := bc_ HB.out hx424_3
   replace hx424_4 := bc_ HB.out hx424_4
   have HR424_0 := Aside0.mk hi424_0
   have HC424_0 := Aside0.mk hl424_0
   clear hi424_0 hl424_0
   have HR424_4 := Aside0.mk hi424_4
   have HC424_4 := Aside0.mk hl424_4
   clear hi424_4 hl424_4
   replace p424 := eq_true p424
   replace q424 := eq_true q424
   try go_wp2_with (first | ((with_reducible refine gate_callee (f := 71) rfl ?_); refine gL_ (some 18) Try.func71 #[.slice A424_0 ((rd_T57 l0 x5_1).f0).length c424_0, .int .i64 x1_1] ?_; (with_reducible refine (laws_heldStringS.calls k1 _ _ ((rd_T57 l0 x5_1).f0) x1_1 t425 _ ?side1 ?side2 A5.out).mono ?_); (case side1 => exact cC_ (Kd.C_below HR424_0.out HB.out)); (case side2 => exact HC424_0.out); rintro e w19 ⟨rfl, hb⟩; refine ⟨_, rfl, ?_⟩; have n0_ := Aside0.mk (below_step bB_ hb); clear HB; have HB := n0_; clear n0_; (try clear hb); have p426 : 0 ≤ (x5_1 : Int) := of_decide_eq_true as_; have q426 : x5_1 < (l0.length : Int) := of_decide_eq_true as_; obtain ⟨ad426, A426_0, c426_0, A426_4, c426_4, e426, hx426_0, hx426_1, hx426_2, hx426_3, hx426_4, hl426_0, hi426_0, hl426_4, hi426_4⟩ := at_T57 HR0.out x5_1 p426 q426; obtain rfl : ad424 = ad426 := (by injection e426); replace hx426_0 := bc_ HB.out hx426_0; replace hx426_1 := bc_ HB.out hx426_1; replace hx426_2 := bc_ HB.out hx426_2; replace hx426_3 := bc_ HB.out hx426_3; replace hx426_4 := bc_ HB.out hx426_4; have HR426_0 := Aside0.mk hi426_0; have HC426_0 := Aside0.mk hl426_0; clear hi426_0 hl426_0; have HR426_4 := Aside0.mk hi426_4; have HC426_4 := Aside0.mk hl426_4; clear hi426_4 hl426_4; replace p426 := eq_true p426; replace q426 := eq_true q426))
   have n0_ := Aside0.mk (below_drew1 HB.out)
   clear HB
   have HB := n0_
   clear n0_
   have p427 : 0 ≤ (x5_1 : Int) := of_decide_eq_true as_
   have q427 : x5_1 < (l0.length : Int) := of_decide_eq_true as_
   obtain ⟨ad427, A427_0, c427_0, A427_4, c427_4, e427, hx427_0, hx427_1, hx427_2, hx427_3, hx427_4, hl427_0, hi427_0, hl427_4, hi427_4⟩ := at_T57 HR0.out x5_1 p427 q427
   have hw427_4 := hx427_4
   have hw427_3 := hx427_3
   have hw427_2 := hx427_2
   have hw427_1 := hx427_1
   have hw427_0 := hx427_0
   obtain rfl : ad424 = ad427 := (by injection e427)
   replace hx427_0 := bc_ HB.out hx427_0
   replace hx427_1 := bc_ HB.out hx427_1
   replace hx427_2 := bc_ HB.out hx427_2
   replace hx427_3 := bc_ HB.out hx427_3
   replace hx427_4 := bc_ HB.out hx427_4
   have HR427_0 := Aside0.mk hi427_0
   have HC427_0 := Aside0.mk hl427_0
   clear hi427_0 hl427_0
   have HR427_4 := Aside0.mk hi427_4
   have HC427_4 := Aside0.mk hl427_4
   clear hi427_4 hl427_4
   replace p427 := eq_true p427
   replace q427 := eq_true q427
   refine start_ (n := 8) (S := fun w' => w'.cell? (ad424.add ((x5_1).toNat * 5)) = some (.slice A427_0 ((rd_T57 l0 x5_1).f0).length c427_0) ∧ w'.cell? ⟨(ad424.add ((x5_1).toNat * 5)).block, (ad424.add ((x5_1).toNat * 5)).off + 1, none⟩ = some (.bool ((rd_T57 l0 x5_1).f1)) ∧ w'.cell? ⟨(ad424.add ((x5_1).toNat * 5)).block, (ad424.add ((x5_1).toNat * 5)).off + 2, none⟩ = some (.string ((rd_T57 l0 x5_1).f2)) ∧ w'.cell? ⟨(ad424.add ((x5_1).toNat * 5)).block, (ad424.add ((x5_1).toNat * 5)).off + 3, none⟩ = some (.int .i64 ((rd_T57 l0 x5_1).f3)) ∧ w'.cell? ⟨(ad424.add ((x5_1).toNat * 5)).block, (ad424.add ((x5_1).toNat * 5)).off + 4, none⟩ = some (.slice A427_4 ((rd_T57 l0 x5_1).f4).length c427_4)) (ds := []) #[false, false, false, false, false, false, false, false] (by kernel_rfl) rfl rfl ⟨((HB.out.cell (World.block_lt_of_cell? w _ hw427_0)).trans hw427_0), ((HB.out.cell (World.block_lt_of_cell? w _ hw427_1)).trans hw427_1), ((HB.out.cell (World.block_lt_of_cell? w _ hw427_2)).trans hw427_2), ((HB.out.cell (World.block_lt_of_cell? w _ hw427_3)).trans hw427_3), ((HB.out.cell (World.block_lt_of_cell? w _ hw427_4)).trans hw427_4)⟩ (fun hHeld => ?_); refine with_tabW laws_heldResS.tab10 laws_heldResS.bits10 (fun HT_ HW_ => ?_)
   generalize w19.drew = w20 at HB HR427_0 HR427_4 hx427_0 hx427_1 hx427_2 hx427_3 hx427_4 hHeld ⊢
   refine pu_ (i := 0) (N := some 32) ?_
   refine pu_ (i := 1) (N := some 33) ?_
   refine pu_ (i := 2) (N := some 34) ?_
   refine pu_ (i := 3) (N := some 35) ?_
   refine pu_ (i := 5) (N := some 37) ?_
   refine tk_ (i := 4) (N := some 36) hHeld ?_
   refine on_ (i := 6) (N := some 38) (fun K hK => ?_)
   refine goes_ Try.func69 (by kernel_rfl) rfl #[.int .i64 (wrap64 (t425 + 1))] (by rfl) rfl rfl ml_ ?_
   with_reducible refine (laws_markText.calls k1 (wrap64 (t425 + 1)) t428 _ A10.out).mono ?_
   rintro e w21 ⟨rfl, hb⟩
   refine ⟨_, rfl, ?_⟩
   have n0_ := Aside0.mk (below_step bB_ hb)
   clear HB
   have HB := n0_
   clear n0_
   (try clear hb)
   (try clear hb2)
   (try clear hk)
   (try clear hi)
   refine hK.out _ _ ⟨((HB.out.cell (World.block_lt_of_cell? w _ hw427_0)).trans hw427_0), ((HB.out.cell (World.block_lt_of_cell? w _ hw427_1)).trans hw427_1), ((HB.out.cell (World.block_lt_of_cell? w _ hw427_2)).trans hw427_2), ((HB.out.cell (World.block_lt_of_cell? w _ hw427_3)).trans hw427_3), ((HB.out.cell (World.block_lt_of_cell? w _ hw427_4)).trans hw427_4)⟩ (fun hHeld => ?_)
   clear hK K
   refine no_ (some 38) ?_
   refine pu_ (i := 7) (N := some 39) ?_
   refine done_ (done_of HT_.out (by kernel_rfl)) ?_
   (try clear hHeld)
   have p429 : 0 ≤ (x5_1 : Int) := of_decide_eq_true as_
   have q429 : x5_1 < (l0.length : Int) := of_decide_eq_true as_
   obtain ⟨ad429, A429_0, c429_0, A429_4, c429_4, e429, hx429_0, hx429_1, hx429_2, hx429_3, hx429_4, hl429_0, hi429_0, hl429_4, hi429_4⟩ := at_T57 HR0.out x5_1 p429 q429
   obtain rfl : ad424 = ad429 := (by injection e429)
   replace hx429_0 := bc_ HB.out hx429_0
   replace hx429_1 := bc_ HB.out hx429_1
   replace hx429_2 := bc_ HB.out hx429_2
   replace hx429_3 := bc_ HB.out hx429_3
   replace hx429_4 := bc_ HB.out hx429_4
   have HR429_0 := Aside0.mk hi429_0
   have HC429_0 := Aside0.mk hl429_0
   clear hi429_0 hl429_0
   have HR429_4 := Aside0.mk hi429_4
   have HC429_4 := Aside0.mk hl429_4
   clear hi429_4 hl429_4
   replace p429 := eq_true p429
   replace q429 := eq_true q429
   have p430 : 0 ≤ (x5_1 : Int) := of_decide_eq_true as_
   have q430 : x5_1 < (l0.length : Int) := of_decide_eq_true as_
   obtain ⟨ad430, A430_0, c430_0, A430_4, c430_4, e430, hx430_0, hx430_1, hx430_2, hx430_3, hx430_4, hl430_0, hi430_0, hl430_4, hi430_4⟩ := at_T57 HR0.out x5_1 p430 q430
   obtain rfl : ad424 = ad430 := (by injection e430)
   replace hx430_0 := bc_ HB.out hx430_0
   replace hx430_1 := bc_ HB.out hx430_1
   replace hx430_2 := bc_ HB.out hx430_2
   replace hx430_3 := bc_ HB.out hx430_3
   replace hx430_4 := bc_ HB.out hx430_4
   have HR430_0 := Aside0.mk hi430_0
   have HC430_0 := Aside0.mk hl430_0
   clear hi430_0 hl430_0
   have HR430_4 := Aside0.mk hi430_4
   have HC430_4 := Aside0.mk hl430_4
   clear hi430_4 hl430_4
   replace p430 := eq_true p430
   replace q430 := eq_true q430
   have ea_ := Option.some.inj (hx429_0.symm.trans hx430_0)
   injection ea_ with ea_ en_ ec_
   subst ea_
   subst ec_
   clear en_
   have ea_ := Option.some.inj (hx429_4.symm.trans hx430_4)
   injection ea_ with ea_ en_ ec_
   subst ea_
   subst ec_
   clear en_
   try go_wp2_with (first | ((with_reducible refine gate_callee (f := 72) rfl ?_); refine gL_ (some 57) Try.func72 #[.slice A429_4 ((rd_T57 l0 x5_1).f4).length c429_4, .int .i64 (wrap64 ((wrap64 ((wrap64 (t425 + 1)) + 1)) + 1))] ?_; (with_reducible refine (laws_heldPropS.calls k1 _ _ ((rd_T57 l0 x5_1).f4) (wrap64 ((wrap64 ((wrap64 (t425 + 1)) + 1)) + 1)) t431 _ ?side1 ?side2 A13.out).mono ?_); (case side1 => exact cC_ (Kd.C_below HR430_4.out HB.out)); (case side2 => exact HC430_4.out); rintro e w22 ⟨rfl, hb⟩; refine ⟨_, rfl, ?_⟩; have n0_ := Aside0.mk (below_step bB_ hb); clear HB; have HB := n0_; clear n0_; (try clear hb)))
   go_roundg k1
   case measure => have := HK1.out; omega
   case rel => exact ⟨(t431), (wrap64 (x5_1 + 1)), rs_, rs_, H', ⟨by have := HK1.out; omega⟩, ⟨bB_⟩⟩
end Go.Proofs.Ytbgggcgjijljkaa.Q
