-- PRINTED by print.py (a twelfth state) out of the translation. Not trusted: Lean checks it.
import Derived.Test.YtiddgglidkbipaaVLiveLocksG12
import Derived.Test.YtiddgglidkbipaaVLiveLocksG22
namespace Go.Proofs.Ytiddgglidkbipaa.Q
open Go.RowKit Go.Proofs.YtiddgglidkbipaaW.PrintWords Go.Proofs.YtiddgglidkbipaaW.PrintLast Go.Proofs.YtiddgglidkbipaaW.PrintMore
attribute [local go_sem] max2_int min2_int max_two min_two max_three min_three max_four min_four   -- for this text's walks alone
set_option linter.unusedVariables false
set_option linter.unusedSimpArgs false
def laws_heldStringS.l0 : Nat → List ByteArray → Int → Int → Option (Int)
 | 0, _, _, _ => none
 | k + 1, x0, x1, x5 => if x5 < (x0.length : Int) then (if 0 ≤ x5 then ((laws_markText.f k x1).bind fun t383 => (if (rdOf ByteArray.empty x0 x5).toList = t383.toList then (laws_heldStringS.l0 k x0 (wrap64 (x1 + 1)) (wrap64 (x5 + 1))) else (some (-1)))) else (none)) else (some x1)
def laws_heldStringS.f (k : Nat) (l0 : List ByteArray) (a1 : Int) : Option (Int) := laws_heldStringS.l0 k l0 a1 0
set_option maxHeartbeats 8000000 in
set_option maxRecDepth 100000 in
theorem laws_heldStringS.calls (k : Nat) (A0 : Option Addr) (c0 : Nat) (l0 : List ByteArray) (a1 : Int) (r : Int) (w : World) (hr0 : Kd.C Kd.string w A0 l0.length l0) (hc0 : l0.length ≤ c0) (h : laws_heldStringS.f k l0 a1 = some r) :
 Calls Try.prog 70 #[.slice A0 l0.length c0, .int .i64 a1] w fun e w' => e = .returned (.int .i64 r) ∧ Below w.heap.size w w' := by
 have HR0 := Aside0.mk hr0
 have HC0 := Aside0.mk hc0
 clear hr0 hc0
 have HB := A_ (Below.refl w.heap.size w)
 have H : (laws_heldStringS.l0 k l0 a1 0) = some r := h
 clear h
 have H' := Aside0.mk H
 clear H
 go_enter Try.func70, Try.ntmps70
 go_wp2
 go_loopg [1, 5] k (fun kq v1 v5 w' => ∃ (x1_1 : Int) (x5_1 : Int), v1 = .int .i64 x1_1 ∧ v5 = .int .i64 x5_1 ∧ Aside0 (laws_heldStringS.l0 kq l0 x1_1 x5_1 = some r) ∧ Aside0 (kq ≤ k) ∧ Aside0 (Below w.heap.size w w'))
 case atStart => exact ⟨(a1), (0), rs_, rs_, H', ⟨Nat.le_refl _⟩, ⟨bB_⟩⟩
 case round =>
  clear H'
  try clear p2
  obtain ⟨x1_1, x5_1, rfl, rfl, HA, HK1, HB⟩ := hrel
  cases gk with
  | zero => exact absurd HA.out (by simp [laws_heldStringS.l0])
  | succ k1 =>
   have H := HA.out
   clear HA
   simp only [laws_heldStringS.l0] at H
   by_cases c3 : x5_1 < (l0.length : Int)
   rotate_left
   · rw [if_neg c3] at H
     have c3b0 : decide (x5_1 < (l0.length : Int)) = false := decide_eq_false c3
     clear c3
     obtain rfl := Option.some.inj H
     go_wp2
     go_ret
     exact ⟨rr_, bB_⟩
   rw [if_pos c3] at H
   have c3b0 : decide (x5_1 < (l0.length : Int)) = true := decide_eq_true c3
   clear c3
   by_cases c4 : 0 ≤ x5_1
   rotate_left
   · exact absurd H (by rw [if_neg c4]; simp)
   rw [if_pos c4] at H
   have c4b0 : decide (0 ≤ x5_1) = true := decide_eq_true c4
   clear c4
   obtain ⟨t383, A5, H⟩ := bo_ H
   (try dsimp only at H)
   by_cases c6 : (rdOf ByteArray.empty l0 x5_1).toList = t383.toList
   rotate_left
   · rw [if_neg c6] at H
     have c6b0 : ((rdOf ByteArray.empty l0 x5_1).toList == t383.toList) = false := beq_eq_false_iff_ne.mpr c6
     have c6b1 : ((rdOf ByteArray.empty l0 x5_1).toList != t383.toList) = true := bne_iff_ne.mpr c6
     obtain rfl := Option.some.inj H
     try go_wp2
     replace HB := A_ (below_drew1 HB.out)
     have p382 : 0 ≤ (x5_1 : Int) := of_decide_eq_true as_
     have q382 : x5_1 < (l0.length : Int) := of_decide_eq_true as_
     obtain ⟨ad382, e382, hx382_0⟩ := Kd.at_string HR0.out x5_1 p382 q382
     have hw382_0 := hx382_0
     cases e382
     replace hx382_0 := bc_ HB.out hx382_0
     replace p382 := eq_true p382
     replace q382 := eq_true q382
     refine start_ (n := 7) (S := fun w' => w'.cell? (ad382.add (x5_1).toNat) = some (.string (rdOf ByteArray.empty l0 x5_1))) (ds := []) #[false, false, false, false, false, false, false] (by kernel_rfl) rfl rfl (((HB.out.cell (World.block_lt_of_cell? w _ hw382_0)).trans hw382_0)) (fun hHeld => ?_)
     generalize wr.drew = w9 at HB hx382_0 hHeld ⊢
     refine pu_ (i := 0) (N := some 12) ?_
     refine pu_ (i := 1) (N := some 13) ?_
     refine pu_ (i := 2) (N := some 14) ?_
     refine pu_ (i := 4) (N := some 16) ?_
     refine take_ (i := 3) (N := some 15) (v := ?_) (a' := ?_) #[true, true, true, true, true, false, false] rfl rfl (by kernel_rfl) (fun _ _ _ h => h) (Or.inl ⟨by rfl, ?_⟩) hHeld ?_ ?_
     rotate_left
     · intro w' s0
       go_simp
       with_reducible rfl
     rotate_left
     · simp only [Act.put, List.setIfInBounds_toArray, List.set_cons_zero, List.set_cons_succ, i64_w, i32_w]
       rfl
     refine on_ (i := 5) (N := some 17) (fun K hK => ?_)
     refine goes_ Try.func73 (by kernel_rfl) rfl #[.int .i64 x1_1] (by rfl) rfl rfl ml_ ?_
     with_reducible refine (laws_markText.calls k1 x1_1 t383 _ A5.out).mono ?_
     rintro e w10 ⟨rfl, hb⟩
     refine ⟨_, rfl, ?_⟩
     replace HB := A_ (below_step bB_ hb)
     (try clear hb)
     (try clear hb2)
     (try clear hk)
     (try clear hi)
     refine hK.out _ _ (((HB.out.cell (World.block_lt_of_cell? w _ hw382_0)).trans hw382_0)) (fun hHeld => ?_)
     clear hK K
     refine no_ (some 17) ?_
     refine pu_ (i := 6) (N := some 18) ?_
     refine done_ (by kernel_rfl) ?_
     try go_wp2
     go_ret
     exact ⟨rr_, bB_⟩
   rw [if_pos c6] at H
   have c6b0 : ((rdOf ByteArray.empty l0 x5_1).toList == t383.toList) = true := beq_iff_eq.mpr c6
   have c6b1 : ((rdOf ByteArray.empty l0 x5_1).toList != t383.toList) = false := bne_eq_false_iff_eq.mpr c6
   clear c6
   have H' := Aside0.mk H
   clear H
   try go_wp2
   replace HB := A_ (below_drew1 HB.out)
   have p382 : 0 ≤ (x5_1 : Int) := of_decide_eq_true as_
   have q382 : x5_1 < (l0.length : Int) := of_decide_eq_true as_
   obtain ⟨ad382, e382, hx382_0⟩ := Kd.at_string HR0.out x5_1 p382 q382
   have hw382_0 := hx382_0
   cases e382
   replace hx382_0 := bc_ HB.out hx382_0
   replace p382 := eq_true p382
   replace q382 := eq_true q382
   refine start_ (n := 7) (S := fun w' => w'.cell? (ad382.add (x5_1).toNat) = some (.string (rdOf ByteArray.empty l0 x5_1))) (ds := []) #[false, false, false, false, false, false, false] (by kernel_rfl) rfl rfl (((HB.out.cell (World.block_lt_of_cell? w _ hw382_0)).trans hw382_0)) (fun hHeld => ?_)
   generalize wr.drew = w7 at HB hx382_0 hHeld ⊢
   refine pu_ (i := 0) (N := some 12) ?_
   refine pu_ (i := 1) (N := some 13) ?_
   refine pu_ (i := 2) (N := some 14) ?_
   refine pu_ (i := 4) (N := some 16) ?_
   refine take_ (i := 3) (N := some 15) (v := ?_) (a' := ?_) #[true, true, true, true, true, false, false] rfl rfl (by kernel_rfl) (fun _ _ _ h => h) (Or.inl ⟨by rfl, ?_⟩) hHeld ?_ ?_
   rotate_left
   · intro w' s0
     go_simp
     with_reducible rfl
   rotate_left
   · simp only [Act.put, List.setIfInBounds_toArray, List.set_cons_zero, List.set_cons_succ, i64_w, i32_w]
     rfl
   refine on_ (i := 5) (N := some 17) (fun K hK => ?_)
   refine goes_ Try.func73 (by kernel_rfl) rfl #[.int .i64 x1_1] (by rfl) rfl rfl ml_ ?_
   with_reducible refine (laws_markText.calls k1 x1_1 t383 _ A5.out).mono ?_
   rintro e w8 ⟨rfl, hb⟩
   refine ⟨_, rfl, ?_⟩
   replace HB := A_ (below_step bB_ hb)
   (try clear hb)
   (try clear hb2)
   (try clear hk)
   (try clear hi)
   refine hK.out _ _ (((HB.out.cell (World.block_lt_of_cell? w _ hw382_0)).trans hw382_0)) (fun hHeld => ?_)
   clear hK K
   refine no_ (some 17) ?_
   refine pu_ (i := 6) (N := some 18) ?_
   refine done_ (by kernel_rfl) ?_
   try go_wp2
   go_roundg k1
   case measure => have := HK1.out; omega
   case rel => exact ⟨(wrap64 (x1_1 + 1)), (wrap64 (x5_1 + 1)), rs_, rs_, H', ⟨by have := HK1.out; omega⟩, ⟨bB_⟩⟩
def laws_heldLockS.l0 : Nat → List (S28) → Int → Int → Option (Int)
 | 0, _, _, _ => none
 | k + 1, x0, x1, x5 => if x5 < (x0.length : Int) then (if 0 ≤ x5 then (if ((rd_T28 x0 x5).f0) = x1 then ((laws_heldStringS.f k ((rd_T28 x0 x5).f1) (wrap64 (x1 + 1))).bind fun t386 => (if t386 < 0 then (some (-1)) else (if (((rd_T28 x0 x5).f2) != ((Int.tmod t386 3) == 0)) = true then (some (-1)) else (if (((rd_T28 x0 x5).f3) != ((Int.tmod (wrap64 (t386 + 1)) 3) == 0)) = true then (some (-1)) else (if ((rd_T28 x0 x5).f4) = (wrap64 ((wrap64 (t386 + 1)) + 1)) then (laws_heldLockS.l0 k x0 (wrap64 ((wrap64 ((wrap64 (t386 + 1)) + 1)) + 1)) (wrap64 (x5 + 1))) else (some (-1))))))) else (some (-1))) else (none)) else (some x1)
def laws_heldLockS.f (k : Nat) (l0 : List (S28)) (a1 : Int) : Option (Int) := laws_heldLockS.l0 k l0 a1 0
set_option maxHeartbeats 8000000 in
set_option maxRecDepth 100000 in
theorem laws_heldLockS.calls (k : Nat) (A0 : Option Addr) (c0 : Nat) (l0 : List (S28)) (a1 : Int) (r : Int) (w : World) (hr0 : Kd.C k28 w A0 l0.length l0) (hc0 : l0.length ≤ c0) (h : laws_heldLockS.f k l0 a1 = some r) :
 Calls Try.prog 35 #[.slice A0 l0.length c0, .int .i64 a1] w fun e w' => e = .returned (.int .i64 r) ∧ Below w.heap.size w w' := by
 have HR0 := Aside0.mk hr0
 have HC0 := Aside0.mk hc0
 clear hr0 hc0
 have HB := A_ (Below.refl w.heap.size w)
 have H : (laws_heldLockS.l0 k l0 a1 0) = some r := h
 clear h
 have H' := Aside0.mk H
 clear H
 go_enter Try.func35, Try.ntmps35
 go_wp2
 go_loopg [1, 5] k (fun kq v1 v5 w' => ∃ (x1_1 : Int) (x5_1 : Int), v1 = .int .i64 x1_1 ∧ v5 = .int .i64 x5_1 ∧ Aside0 (laws_heldLockS.l0 kq l0 x1_1 x5_1 = some r) ∧ Aside0 (kq ≤ k) ∧ Aside0 (Below w.heap.size w w'))
 case atStart => exact ⟨(a1), (0), rs_, rs_, H', ⟨Nat.le_refl _⟩, ⟨bB_⟩⟩
 case round =>
  clear H'
  try clear p2
  obtain ⟨x1_1, x5_1, rfl, rfl, HA, HK1, HB⟩ := hrel
  cases gk with
  | zero => exact absurd HA.out (by simp [laws_heldLockS.l0])
  | succ k1 =>
   have H := HA.out
   clear HA
   simp only [laws_heldLockS.l0] at H
   by_cases c3 : x5_1 < (l0.length : Int)
   rotate_left
   · rw [if_neg c3] at H
     have c3b0 : decide (x5_1 < (l0.length : Int)) = false := decide_eq_false c3
     clear c3
     obtain rfl := Option.some.inj H
     go_wp2
     go_ret
     exact ⟨rr_, bB_⟩
   rw [if_pos c3] at H
   have c3b0 : decide (x5_1 < (l0.length : Int)) = true := decide_eq_true c3
   clear c3
   by_cases c4 : 0 ≤ x5_1
   rotate_left
   · exact absurd H (by rw [if_neg c4]; simp)
   rw [if_pos c4] at H
   have c4b0 : decide (0 ≤ x5_1) = true := decide_eq_true c4
   clear c4
   by_cases c5 : ((rd_T28 l0 x5_1).f0) = x1_1
   rotate_left
   · rw [if_neg c5] at H
     have c5b0 : (((rd_T28 l0 x5_1).f0) == x1_1) = false := beq_eq_false_iff_ne.mpr c5
     have c5b1 : (((rd_T28 l0 x5_1).f0) != x1_1) = true := bne_iff_ne.mpr c5
     obtain rfl := Option.some.inj H
     have p384 : 0 ≤ (x5_1 : Int) := of_decide_eq_true as_
     have q384 : x5_1 < (l0.length : Int) := of_decide_eq_true as_
     obtain ⟨ad384, A384_1, c384_1, e384, hx384_0, hx384_1, hx384_2, hx384_3, hx384_4, hl384_1, hi384_1⟩ := at_T28 HR0.out x5_1 p384 q384
     cases e384
     replace hx384_0 := bc_ HB.out hx384_0
     replace hx384_1 := bc_ HB.out hx384_1
     replace hx384_2 := bc_ HB.out hx384_2
     replace hx384_3 := bc_ HB.out hx384_3
     replace hx384_4 := bc_ HB.out hx384_4
     have HR384_1 := Aside0.mk hi384_1
     have HC384_1 := Aside0.mk hl384_1
     clear hi384_1 hl384_1
     replace p384 := eq_true p384
     replace q384 := eq_true q384
     go_wp2
     go_ret
     exact ⟨rr_, bB_⟩
   rw [if_pos c5] at H
   have c5b0 : (((rd_T28 l0 x5_1).f0) == x1_1) = true := beq_iff_eq.mpr c5
   have c5b1 : (((rd_T28 l0 x5_1).f0) != x1_1) = false := bne_eq_false_iff_eq.mpr c5
   clear c5
   obtain ⟨t386, A6, H⟩ := bo_ H
   (try dsimp only at H)
   by_cases c7 : t386 < 0
   · rw [if_pos c7] at H
     have c7b0 : decide (t386 < 0) = true := decide_eq_true c7
     clear c7
     obtain rfl := Option.some.inj H
     have p384 : 0 ≤ (x5_1 : Int) := of_decide_eq_true as_
     have q384 : x5_1 < (l0.length : Int) := of_decide_eq_true as_
     obtain ⟨ad384, A384_1, c384_1, e384, hx384_0, hx384_1, hx384_2, hx384_3, hx384_4, hl384_1, hi384_1⟩ := at_T28 HR0.out x5_1 p384 q384
     cases e384
     replace hx384_0 := bc_ HB.out hx384_0
     replace hx384_1 := bc_ HB.out hx384_1
     replace hx384_2 := bc_ HB.out hx384_2
     replace hx384_3 := bc_ HB.out hx384_3
     replace hx384_4 := bc_ HB.out hx384_4
     have HR384_1 := Aside0.mk hi384_1
     have HC384_1 := Aside0.mk hl384_1
     clear hi384_1 hl384_1
     replace p384 := eq_true p384
     replace q384 := eq_true q384
     have p385 : 0 ≤ (x5_1 : Int) := of_decide_eq_true as_
     have q385 : x5_1 < (l0.length : Int) := of_decide_eq_true as_
     obtain ⟨ad385, A385_1, c385_1, e385, hx385_0, hx385_1, hx385_2, hx385_3, hx385_4, hl385_1, hi385_1⟩ := at_T28 HR0.out x5_1 p385 q385
     obtain rfl : ad384 = ad385 := (by injection e385)
     replace hx385_0 := bc_ HB.out hx385_0
     replace hx385_1 := bc_ HB.out hx385_1
     replace hx385_2 := bc_ HB.out hx385_2
     replace hx385_3 := bc_ HB.out hx385_3
     replace hx385_4 := bc_ HB.out hx385_4
     have HR385_1 := Aside0.mk hi385_1
     have HC385_1 := Aside0.mk hl385_1
     clear hi385_1 hl385_1
     replace p385 := eq_true p385
     replace q385 := eq_true q385
     have ea_ := Option.some.inj (hx384_1.symm.trans hx385_1)
     injection ea_ with ea_ en_ ec_
     subst ea_
     subst ec_
     clear en_
     go_wp2_with (first | ((with_reducible refine gate_callee (f := 70) rfl ?_); refine gL_ (some 27) Try.func70 #[.slice A384_1 ((rd_T28 l0 x5_1).f1).length c384_1, .int .i64 (wrap64 (x1_1 + 1))] ?_; (with_reducible refine (laws_heldStringS.calls k1 _ _ ((rd_T28 l0 x5_1).f1) (wrap64 (x1_1 + 1)) t386 _ ?s1 ?s2 A6.out).mono ?_); (case s1 => exact cC_ (Kd.C_below HR385_1.out HB.out)); (case s2 => exact HC385_1.out); rintro e w8 ⟨rfl, hb⟩; refine ⟨_, rfl, ?_⟩; replace HB := A_ (below_step bB_ hb); (try clear hb)))
     go_ret
     exact ⟨rr_, bB_⟩
   rw [if_neg c7] at H
   have c7b0 : decide (t386 < 0) = false := decide_eq_false c7
   clear c7
   by_cases c9 : (((rd_T28 l0 x5_1).f2) != ((Int.tmod t386 3) == 0)) = true
   · rw [if_pos c9] at H
     have c9b0 : (((rd_T28 l0 x5_1).f2) != ((Int.tmod t386 3) == 0)) = true := c9
     (try (have c9b1 : decide (((rd_T28 l0 x5_1).f2) = ((Int.tmod t386 3) == 0)) = false := by simpa using c9))
     (try (have c9b2 : (((rd_T28 l0 x5_1).f2) == ((Int.tmod t386 3) == 0)) = false := by simpa using c9))
     (try (have c9b3 : ¬ (((rd_T28 l0 x5_1).f2) = ((Int.tmod t386 3) == 0)) := by simpa using c9))
     clear c9
     obtain rfl := Option.some.inj H
     have p384 : 0 ≤ (x5_1 : Int) := of_decide_eq_true as_
     have q384 : x5_1 < (l0.length : Int) := of_decide_eq_true as_
     obtain ⟨ad384, A384_1, c384_1, e384, hx384_0, hx384_1, hx384_2, hx384_3, hx384_4, hl384_1, hi384_1⟩ := at_T28 HR0.out x5_1 p384 q384
     cases e384
     replace hx384_0 := bc_ HB.out hx384_0
     replace hx384_1 := bc_ HB.out hx384_1
     replace hx384_2 := bc_ HB.out hx384_2
     replace hx384_3 := bc_ HB.out hx384_3
     replace hx384_4 := bc_ HB.out hx384_4
     have HR384_1 := Aside0.mk hi384_1
     have HC384_1 := Aside0.mk hl384_1
     clear hi384_1 hl384_1
     replace p384 := eq_true p384
     replace q384 := eq_true q384
     have p385 : 0 ≤ (x5_1 : Int) := of_decide_eq_true as_
     have q385 : x5_1 < (l0.length : Int) := of_decide_eq_true as_
     obtain ⟨ad385, A385_1, c385_1, e385, hx385_0, hx385_1, hx385_2, hx385_3, hx385_4, hl385_1, hi385_1⟩ := at_T28 HR0.out x5_1 p385 q385
     obtain rfl : ad384 = ad385 := (by injection e385)
     replace hx385_0 := bc_ HB.out hx385_0
     replace hx385_1 := bc_ HB.out hx385_1
     replace hx385_2 := bc_ HB.out hx385_2
     replace hx385_3 := bc_ HB.out hx385_3
     replace hx385_4 := bc_ HB.out hx385_4
     have HR385_1 := Aside0.mk hi385_1
     have HC385_1 := Aside0.mk hl385_1
     clear hi385_1 hl385_1
     replace p385 := eq_true p385
     replace q385 := eq_true q385
     have ea_ := Option.some.inj (hx384_1.symm.trans hx385_1)
     injection ea_ with ea_ en_ ec_
     subst ea_
     subst ec_
     clear en_
     go_wp2_with (first | ((with_reducible refine gate_callee (f := 70) rfl ?_); refine gL_ (some 27) Try.func70 #[.slice A384_1 ((rd_T28 l0 x5_1).f1).length c384_1, .int .i64 (wrap64 (x1_1 + 1))] ?_; (with_reducible refine (laws_heldStringS.calls k1 _ _ ((rd_T28 l0 x5_1).f1) (wrap64 (x1_1 + 1)) t386 _ ?s1 ?s2 A6.out).mono ?_); (case s1 => exact cC_ (Kd.C_below HR385_1.out HB.out)); (case s2 => exact HC385_1.out); rintro e w10 ⟨rfl, hb⟩; refine ⟨_, rfl, ?_⟩; replace HB := A_ (below_step bB_ hb); (try clear hb); have p387 : 0 ≤ (x5_1 : Int) := of_decide_eq_true as_; have q387 : x5_1 < (l0.length : Int) := of_decide_eq_true as_; obtain ⟨ad387, A387_1, c387_1, e387, hx387_0, hx387_1, hx387_2, hx387_3, hx387_4, hl387_1, hi387_1⟩ := at_T28 HR0.out x5_1 p387 q387; obtain rfl : ad384 = ad387 := (by injection e387); replace hx387_0 := bc_ HB.out hx387_0; replace hx387_1 := bc_ HB.out hx387_1; replace hx387_2 := bc_ HB.out hx387_2; replace hx387_3 := bc_ HB.out hx387_3; replace hx387_4 := bc_ HB.out hx387_4; have HR387_1 := Aside0.mk hi387_1; have HC387_1 := Aside0.mk hl387_1; clear hi387_1 hl387_1; replace p387 := eq_true p387; replace q387 := eq_true q387))
     go_ret
     exact ⟨rr_, bB_⟩
   rw [if_neg c9] at H
   have c9b0 : (((rd_T28 l0 x5_1).f2) != ((Int.tmod t386 3) == 0)) = false := by simpa using c9
   (try (have c9b1 : decide (((rd_T28 l0 x5_1).f2) = ((Int.tmod t386 3) == 0)) = true := by simpa using c9))
   (try (have c9b2 : (((rd_T28 l0 x5_1).f2) == ((Int.tmod t386 3) == 0)) = true := by simpa using c9))
   clear c9
   by_cases c11 : (((rd_T28 l0 x5_1).f3) != ((Int.tmod (wrap64 (t386 + 1)) 3) == 0)) = true
   · rw [if_pos c11] at H
     have c11b0 : (((rd_T28 l0 x5_1).f3) != ((Int.tmod (wrap64 (t386 + 1)) 3) == 0)) = true := c11
     (try (have c11b1 : decide (((rd_T28 l0 x5_1).f3) = ((Int.tmod (wrap64 (t386 + 1)) 3) == 0)) = false := by simpa using c11))
     (try (have c11b2 : (((rd_T28 l0 x5_1).f3) == ((Int.tmod (wrap64 (t386 + 1)) 3) == 0)) = false := by simpa using c11))
     (try (have c11b3 : ¬ (((rd_T28 l0 x5_1).f3) = ((Int.tmod (wrap64 (t386 + 1)) 3) == 0)) := by simpa using c11))
     clear c11
     obtain rfl := Option.some.inj H
     have p384 : 0 ≤ (x5_1 : Int) := of_decide_eq_true as_
     have q384 : x5_1 < (l0.length : Int) := of_decide_eq_true as_
     obtain ⟨ad384, A384_1, c384_1, e384, hx384_0, hx384_1, hx384_2, hx384_3, hx384_4, hl384_1, hi384_1⟩ := at_T28 HR0.out x5_1 p384 q384
     cases e384
     replace hx384_0 := bc_ HB.out hx384_0
     replace hx384_1 := bc_ HB.out hx384_1
     replace hx384_2 := bc_ HB.out hx384_2
     replace hx384_3 := bc_ HB.out hx384_3
     replace hx384_4 := bc_ HB.out hx384_4
     have HR384_1 := Aside0.mk hi384_1
     have HC384_1 := Aside0.mk hl384_1
     clear hi384_1 hl384_1
     replace p384 := eq_true p384
     replace q384 := eq_true q384
     have p385 : 0 ≤ (x5_1 : Int) := of_decide_eq_true as_
     have q385 : x5_1 < (l0.length : Int) := of_decide_eq_true as_
     obtain ⟨ad385, A385_1, c385_1, e385, hx385_0, hx385_1, hx385_2, hx385_3, hx385_4, hl385_1, hi385_1⟩ := at_T28 HR0.out x5_1 p385 q385
     obtain rfl : ad384 = ad385 := (by injection e385)
     replace hx385_0 := bc_ HB.out hx385_0
     replace hx385_1 := bc_ HB.out hx385_1
     replace hx385_2 := bc_ HB.out hx385_2
     replace hx385_3 := bc_ HB.out hx385_3
     replace hx385_4 := bc_ HB.out hx385_4
     have HR385_1 := Aside0.mk hi385_1
     have HC385_1 := Aside0.mk hl385_1
     clear hi385_1 hl385_1
     replace p385 := eq_true p385
     replace q385 := eq_true q385
     have ea_ := Option.some.inj (hx384_1.symm.trans hx385_1)
     injection ea_ with ea_ en_ ec_
     subst ea_
     subst ec_
     clear en_
     go_wp2_with (first | ((with_reducible refine gate_callee (f := 70) rfl ?_); refine gL_ (some 27) Try.func70 #[.slice A384_1 ((rd_T28 l0 x5_1).f1).length c384_1, .int .i64 (wrap64 (x1_1 + 1))] ?_; (with_reducible refine (laws_heldStringS.calls k1 _ _ ((rd_T28 l0 x5_1).f1) (wrap64 (x1_1 + 1)) t386 _ ?s1 ?s2 A6.out).mono ?_); (case s1 => exact cC_ (Kd.C_below HR385_1.out HB.out)); (case s2 => exact HC385_1.out); rintro e w12 ⟨rfl, hb⟩; refine ⟨_, rfl, ?_⟩; replace HB := A_ (below_step bB_ hb); (try clear hb); have p387 : 0 ≤ (x5_1 : Int) := of_decide_eq_true as_; have q387 : x5_1 < (l0.length : Int) := of_decide_eq_true as_; obtain ⟨ad387, A387_1, c387_1, e387, hx387_0, hx387_1, hx387_2, hx387_3, hx387_4, hl387_1, hi387_1⟩ := at_T28 HR0.out x5_1 p387 q387; obtain rfl : ad384 = ad387 := (by injection e387); replace hx387_0 := bc_ HB.out hx387_0; replace hx387_1 := bc_ HB.out hx387_1; replace hx387_2 := bc_ HB.out hx387_2; replace hx387_3 := bc_ HB.out hx387_3; replace hx387_4 := bc_ HB.out hx387_4; have HR387_1 := Aside0.mk hi387_1; have HC387_1 := Aside0.mk hl387_1; clear hi387_1 hl387_1; replace p387 := eq_true p387; replace q387 := eq_true q387; have p388 : 0 ≤ (x5_1 : Int) := of_decide_eq_true as_; have q388 : x5_1 < (l0.length : Int) := of_decide_eq_true as_; obtain ⟨ad388, A388_1, c388_1, e388, hx388_0, hx388_1, hx388_2, hx388_3, hx388_4, hl388_1, hi388_1⟩ := at_T28 HR0.out x5_1 p388 q388; obtain rfl : ad384 = ad388 := (by injection e388); replace hx388_0 := bc_ HB.out hx388_0; replace hx388_1 := bc_ HB.out hx388_1; replace hx388_2 := bc_ HB.out hx388_2; replace hx388_3 := bc_ HB.out hx388_3; replace hx388_4 := bc_ HB.out hx388_4; have HR388_1 := Aside0.mk hi388_1; have HC388_1 := Aside0.mk hl388_1; clear hi388_1 hl388_1; replace p388 := eq_true p388; replace q388 := eq_true q388; have ea_ := Option.some.inj (hx387_1.symm.trans hx388_1); injection ea_ with ea_ en_ ec_; subst ea_; subst ec_; clear en_))
     go_ret
     exact ⟨rr_, bB_⟩
   rw [if_neg c11] at H
   have c11b0 : (((rd_T28 l0 x5_1).f3) != ((Int.tmod (wrap64 (t386 + 1)) 3) == 0)) = false := by simpa using c11
   (try (have c11b1 : decide (((rd_T28 l0 x5_1).f3) = ((Int.tmod (wrap64 (t386 + 1)) 3) == 0)) = true := by simpa using c11))
   (try (have c11b2 : (((rd_T28 l0 x5_1).f3) == ((Int.tmod (wrap64 (t386 + 1)) 3) == 0)) = true := by simpa using c11))
   clear c11
   by_cases c13 : ((rd_T28 l0 x5_1).f4) = (wrap64 ((wrap64 (t386 + 1)) + 1))
   rotate_left
   · rw [if_neg c13] at H
     have c13b0 : (((rd_T28 l0 x5_1).f4) == (wrap64 ((wrap64 (t386 + 1)) + 1))) = false := beq_eq_false_iff_ne.mpr c13
     have c13b1 : (((rd_T28 l0 x5_1).f4) != (wrap64 ((wrap64 (t386 + 1)) + 1))) = true := bne_iff_ne.mpr c13
     obtain rfl := Option.some.inj H
     have p384 : 0 ≤ (x5_1 : Int) := of_decide_eq_true as_
     have q384 : x5_1 < (l0.length : Int) := of_decide_eq_true as_
     obtain ⟨ad384, A384_1, c384_1, e384, hx384_0, hx384_1, hx384_2, hx384_3, hx384_4, hl384_1, hi384_1⟩ := at_T28 HR0.out x5_1 p384 q384
     cases e384
     replace hx384_0 := bc_ HB.out hx384_0
     replace hx384_1 := bc_ HB.out hx384_1
     replace hx384_2 := bc_ HB.out hx384_2
     replace hx384_3 := bc_ HB.out hx384_3
     replace hx384_4 := bc_ HB.out hx384_4
     have HR384_1 := Aside0.mk hi384_1
     have HC384_1 := Aside0.mk hl384_1
     clear hi384_1 hl384_1
     replace p384 := eq_true p384
     replace q384 := eq_true q384
     have p385 : 0 ≤ (x5_1 : Int) := of_decide_eq_true as_
     have q385 : x5_1 < (l0.length : Int) := of_decide_eq_true as_
     obtain ⟨ad385, A385_1, c385_1, e385, hx385_0, hx385_1, hx385_2, hx385_3, hx385_4, hl385_1, hi385_1⟩ := at_T28 HR0.out x5_1 p385 q385
     obtain rfl : ad384 = ad385 := (by injection e385)
     replace hx385_0 := bc_ HB.out hx385_0
     replace hx385_1 := bc_ HB.out hx385_1
     replace hx385_2 := bc_ HB.out hx385_2
     replace hx385_3 := bc_ HB.out hx385_3
     replace hx385_4 := bc_ HB.out hx385_4
     have HR385_1 := Aside0.mk hi385_1
     have HC385_1 := Aside0.mk hl385_1
     clear hi385_1 hl385_1
     replace p385 := eq_true p385
     replace q385 := eq_true q385
     have ea_ := Option.some.inj (hx384_1.symm.trans hx385_1)
     injection ea_ with ea_ en_ ec_
     subst ea_
     subst ec_
     clear en_
     go_wp2_with (first | ((with_reducible refine gate_callee (f := 70) rfl ?_); refine gL_ (some 27) Try.func70 #[.slice A384_1 ((rd_T28 l0 x5_1).f1).length c384_1, .int .i64 (wrap64 (x1_1 + 1))] ?_; (with_reducible refine (laws_heldStringS.calls k1 _ _ ((rd_T28 l0 x5_1).f1) (wrap64 (x1_1 + 1)) t386 _ ?s1 ?s2 A6.out).mono ?_); (case s1 => exact cC_ (Kd.C_below HR385_1.out HB.out)); (case s2 => exact HC385_1.out); rintro e w15 ⟨rfl, hb⟩; refine ⟨_, rfl, ?_⟩; replace HB := A_ (below_step bB_ hb); (try clear hb); have p387 : 0 ≤ (x5_1 : Int) := of_decide_eq_true as_; have q387 : x5_1 < (l0.length : Int) := of_decide_eq_true as_; obtain ⟨ad387, A387_1, c387_1, e387, hx387_0, hx387_1, hx387_2, hx387_3, hx387_4, hl387_1, hi387_1⟩ := at_T28 HR0.out x5_1 p387 q387; obtain rfl : ad384 = ad387 := (by injection e387); replace hx387_0 := bc_ HB.out hx387_0; replace hx387_1 := bc_ HB.out hx387_1; replace hx387_2 := bc_ HB.out hx387_2; replace hx387_3 := bc_ HB.out hx387_3; replace hx387_4 := bc_ HB.out hx387_4; have HR387_1 := Aside0.mk hi387_1; have HC387_1 := Aside0.mk hl387_1; clear hi387_1 hl387_1; replace p387 := eq_true p387; replace q387 := eq_true q387; have p388 : 0 ≤ (x5_1 : Int) := of_decide_eq_true as_; have q388 : x5_1 < (l0.length : Int) := of_decide_eq_true as_; obtain ⟨ad388, A388_1, c388_1, e388, hx388_0, hx388_1, hx388_2, hx388_3, hx388_4, hl388_1, hi388_1⟩ := at_T28 HR0.out x5_1 p388 q388; obtain rfl : ad384 = ad388 := (by injection e388); replace hx388_0 := bc_ HB.out hx388_0; replace hx388_1 := bc_ HB.out hx388_1; replace hx388_2 := bc_ HB.out hx388_2; replace hx388_3 := bc_ HB.out hx388_3; replace hx388_4 := bc_ HB.out hx388_4; have HR388_1 := Aside0.mk hi388_1; have HC388_1 := Aside0.mk hl388_1; clear hi388_1 hl388_1; replace p388 := eq_true p388; replace q388 := eq_true q388; have ea_ := Option.some.inj (hx387_1.symm.trans hx388_1); injection ea_ with ea_ en_ ec_; subst ea_; subst ec_; clear en_; have p389 : 0 ≤ (x5_1 : Int) := of_decide_eq_true as_; have q389 : x5_1 < (l0.length : Int) := of_decide_eq_true as_; obtain ⟨ad389, A389_1, c389_1, e389, hx389_0, hx389_1, hx389_2, hx389_3, hx389_4, hl389_1, hi389_1⟩ := at_T28 HR0.out x5_1 p389 q389; obtain rfl : ad384 = ad389 := (by injection e389); replace hx389_0 := bc_ HB.out hx389_0; replace hx389_1 := bc_ HB.out hx389_1; replace hx389_2 := bc_ HB.out hx389_2; replace hx389_3 := bc_ HB.out hx389_3; replace hx389_4 := bc_ HB.out hx389_4; have HR389_1 := Aside0.mk hi389_1; have HC389_1 := Aside0.mk hl389_1; clear hi389_1 hl389_1; replace p389 := eq_true p389; replace q389 := eq_true q389; have ea_ := Option.some.inj (hx387_1.symm.trans hx389_1); injection ea_ with ea_ en_ ec_; subst ea_; subst ec_; clear en_))
     go_ret
     exact ⟨rr_, bB_⟩
   rw [if_pos c13] at H
   have c13b0 : (((rd_T28 l0 x5_1).f4) == (wrap64 ((wrap64 (t386 + 1)) + 1))) = true := beq_iff_eq.mpr c13
   have c13b1 : (((rd_T28 l0 x5_1).f4) != (wrap64 ((wrap64 (t386 + 1)) + 1))) = false := bne_eq_false_iff_eq.mpr c13
   clear c13
   have H' := Aside0.mk H
   clear H
   have p384 : 0 ≤ (x5_1 : Int) := of_decide_eq_true as_
   have q384 : x5_1 < (l0.length : Int) := of_decide_eq_true as_
   obtain ⟨ad384, A384_1, c384_1, e384, hx384_0, hx384_1, hx384_2, hx384_3, hx384_4, hl384_1, hi384_1⟩ := at_T28 HR0.out x5_1 p384 q384
   cases e384
   replace hx384_0 := bc_ HB.out hx384_0
   replace hx384_1 := bc_ HB.out hx384_1
   replace hx384_2 := bc_ HB.out hx384_2
   replace hx384_3 := bc_ HB.out hx384_3
   replace hx384_4 := bc_ HB.out hx384_4
   have HR384_1 := Aside0.mk hi384_1
   have HC384_1 := Aside0.mk hl384_1
   clear hi384_1 hl384_1
   replace p384 := eq_true p384
   replace q384 := eq_true q384
   have p385 : 0 ≤ (x5_1 : Int) := of_decide_eq_true as_
   have q385 : x5_1 < (l0.length : Int) := of_decide_eq_true as_
   obtain ⟨ad385, A385_1, c385_1, e385, hx385_0, hx385_1, hx385_2, hx385_3, hx385_4, hl385_1, hi385_1⟩ := at_T28 HR0.out x5_1 p385 q385
   obtain rfl : ad384 = ad385 := (by injection e385)
   replace hx385_0 := bc_ HB.out hx385_0
   replace hx385_1 := bc_ HB.out hx385_1
   replace hx385_2 := bc_ HB.out hx385_2
   replace hx385_3 := bc_ HB.out hx385_3
   replace hx385_4 := bc_ HB.out hx385_4
   have HR385_1 := Aside0.mk hi385_1
   have HC385_1 := Aside0.mk hl385_1
   clear hi385_1 hl385_1
   replace p385 := eq_true p385
   replace q385 := eq_true q385
   have ea_ := Option.some.inj (hx384_1.symm.trans hx385_1)
   injection ea_ with ea_ en_ ec_
   subst ea_
   subst ec_
   clear en_
   go_wp2_with (first | ((with_reducible refine gate_callee (f := 70) rfl ?_); refine gL_ (some 27) Try.func70 #[.slice A384_1 ((rd_T28 l0 x5_1).f1).length c384_1, .int .i64 (wrap64 (x1_1 + 1))] ?_; (with_reducible refine (laws_heldStringS.calls k1 _ _ ((rd_T28 l0 x5_1).f1) (wrap64 (x1_1 + 1)) t386 _ ?s1 ?s2 A6.out).mono ?_); (case s1 => exact cC_ (Kd.C_below HR385_1.out HB.out)); (case s2 => exact HC385_1.out); rintro e w14 ⟨rfl, hb⟩; refine ⟨_, rfl, ?_⟩; replace HB := A_ (below_step bB_ hb); (try clear hb); have p387 : 0 ≤ (x5_1 : Int) := of_decide_eq_true as_; have q387 : x5_1 < (l0.length : Int) := of_decide_eq_true as_; obtain ⟨ad387, A387_1, c387_1, e387, hx387_0, hx387_1, hx387_2, hx387_3, hx387_4, hl387_1, hi387_1⟩ := at_T28 HR0.out x5_1 p387 q387; obtain rfl : ad384 = ad387 := (by injection e387); replace hx387_0 := bc_ HB.out hx387_0; replace hx387_1 := bc_ HB.out hx387_1; replace hx387_2 := bc_ HB.out hx387_2; replace hx387_3 := bc_ HB.out hx387_3; replace hx387_4 := bc_ HB.out hx387_4; have HR387_1 := Aside0.mk hi387_1; have HC387_1 := Aside0.mk hl387_1; clear hi387_1 hl387_1; replace p387 := eq_true p387; replace q387 := eq_true q387; have p388 : 0 ≤ (x5_1 : Int) := of_decide_eq_true as_; have q388 : x5_1 < (l0.length : Int) := of_decide_eq_true as_; obtain ⟨ad388, A388_1, c388_1, e388, hx388_0, hx388_1, hx388_2, hx388_3, hx388_4, hl388_1, hi388_1⟩ := at_T28 HR0.out x5_1 p388 q388; obtain rfl : ad384 = ad388 := (by injection e388); replace hx388_0 := bc_ HB.out hx388_0; replace hx388_1 := bc_ HB.out hx388_1; replace hx388_2 := bc_ HB.out hx388_2; replace hx388_3 := bc_ HB.out hx388_3; replace hx388_4 := bc_ HB.out hx388_4; have HR388_1 := Aside0.mk hi388_1; have HC388_1 := Aside0.mk hl388_1; clear hi388_1 hl388_1; replace p388 := eq_true p388; replace q388 := eq_true q388; have ea_ := Option.some.inj (hx387_1.symm.trans hx388_1); injection ea_ with ea_ en_ ec_; subst ea_; subst ec_; clear en_; have p389 : 0 ≤ (x5_1 : Int) := of_decide_eq_true as_; have q389 : x5_1 < (l0.length : Int) := of_decide_eq_true as_; obtain ⟨ad389, A389_1, c389_1, e389, hx389_0, hx389_1, hx389_2, hx389_3, hx389_4, hl389_1, hi389_1⟩ := at_T28 HR0.out x5_1 p389 q389; obtain rfl : ad384 = ad389 := (by injection e389); replace hx389_0 := bc_ HB.out hx389_0; replace hx389_1 := bc_ HB.out hx389_1; replace hx389_2 := bc_ HB.out hx389_2; replace hx389_3 := bc_ HB.out hx389_3; replace hx389_4 := bc_ HB.out hx389_4; have HR389_1 := Aside0.mk hi389_1; have HC389_1 := Aside0.mk hl389_1; clear hi389_1 hl389_1; replace p389 := eq_true p389; replace q389 := eq_true q389; have ea_ := Option.some.inj (hx387_1.symm.trans hx389_1); injection ea_ with ea_ en_ ec_; subst ea_; subst ec_; clear en_))
   go_roundg k1
   case measure => have := HK1.out; omega
   case rel => exact ⟨(wrap64 ((wrap64 ((wrap64 (t386 + 1)) + 1)) + 1)), (wrap64 (x5_1 + 1)), rs_, rs_, H', ⟨by have := HK1.out; omega⟩, ⟨bB_⟩⟩
def spec_LiveLocks.l0 : Nat → Int → List (S28) → List (S28) → Int → Option ((List (S28)))
 | 0, _, _, _, _ => none
 | k + 1, x1, x5, x6, x7 => if x7 < (x6.length : Int) then (if 0 ≤ x7 then (if ((rd_T28 x6 x7).f4) > x1 then (if x5.length < 2932031007402 then (spec_LiveLocks.l0 k x1 (x5 ++ [(⟨(rd_T28 x6 x7).f0, (rd_T28 x6 x7).f1, (rd_T28 x6 x7).f2, (rd_T28 x6 x7).f3, (rd_T28 x6 x7).f4⟩ : S28)]) x6 (wrap64 (x7 + 1))) else (none)) else (spec_LiveLocks.l0 k x1 x5 x6 (wrap64 (x7 + 1)))) else (none)) else (some x5)
def spec_LiveLocks.f (k : Nat) (l0 : List (S28)) (a1 : Int) : Option ((List (S28))) := (spec_l13Copy.f k l0).bind fun t413 => (spec_LiveLocks.l0 k a1 (([] : List (S28))) t413 0)
set_option maxHeartbeats 8000000 in
set_option maxRecDepth 100000 in
theorem spec_LiveLocks.calls (k : Nat) (A0 : Option Addr) (c0 : Nat) (l0 : List (S28)) (a1 : Int) (r : List (S28)) (w : World) (hr0 : Kd.C k28 w A0 l0.length l0) (hc0 : l0.length ≤ c0) (h : spec_LiveLocks.f k l0 a1 = some r) :
 Calls Try.prog 36 #[.slice A0 l0.length c0, .int .i64 a1] w fun e w' => ∃ v0_ : Value, e = .returned (v0_) ∧ Kd.N k28 28 w' w.heap.size (fun k_ => (w.heap.size ≤ k_)) v0_ r ∧ Below w.heap.size w w' := by
 have hu28 := Try.underlying28
 have HR0 := Aside0.mk hr0
 have HC0 := Aside0.mk hc0
 clear hr0 hc0
 have HB := A_ (Below.refl w.heap.size w)
 have H : ((spec_l13Copy.f k l0).bind fun t413 => (spec_LiveLocks.l0 k a1 (([] : List (S28))) t413 0)) = some r := h
 clear h
 obtain ⟨y410, hy410⟩ : ∃ y_ : List (S28), y_ = (([] : List (S28))) := ⟨_, rfl⟩
 replace H : ((spec_l13Copy.f k l0).bind fun t413 => (spec_LiveLocks.l0 k a1 y410 t413 0)) = some r := hy_ hy410 H
 have Ny410 := Aside0.mk hy410
 clear hy410
 obtain ⟨t413, A3, H⟩ := bo_ H
 (try dsimp only at H)
 have H' := Aside0.mk H
 clear H
 go_enter Try.func36, Try.ntmps36
 go_wp2_with (first | ((with_reducible refine gate_dst (N := 8) rfl ?_); refine Kd.N_lit k28 _ 28 ?hg (N' := 8) ?hd (xs := ([] : List (S28))) (inner := []) (ok := (fun k_ => (w.heap.size ≤ k_))) (okp := (fun k_ => (w.heap.size ≤ k_))) ?hr ?hp (fun _ hk => hk) ((show ∀ k_, w.heap.size ≤ k_ → (fun k_ => (w.heap.size ≤ k_)) k_ from fun k_ hk => (Nat.le_trans (below_size bB_) hk)) _ (Nat.le_refl _)) (Below.refl _ _) (Nat.le_refl _) (by simp) ?_; (case hd => rfl); (case hg => rfl); (case hr => first | (go_simp; done) | (go_simp; rfl)); (case hp => exact (Reps.none _ _)); intro v411 w4 ho5 hb hg_ hnew_; clear hg_ hnew_; (first | rw [← Ny410.out] at ho5 | (simp only [Int.reduceToNat] at ho5; rw [← Ny410.out] at ho5)); have HO412 := A_ (Kd.N_lower ho5 (below_size bB_)); replace HB := A_ (below_step bB_ hb); clear hb ho5) | ((with_reducible refine gate_callee (f := 68) rfl ?_); refine gL_ (some 10) Try.func68 #[.slice A0 l0.length c0] ?_; (with_reducible refine (spec_l13Copy.calls k _ _ l0 t413 _ ?s1 ?s2 A3.out).mono ?_); (case s1 => exact cC_ (Kd.C_below HR0.out HB.out)); (case s2 => exact HC0.out); rintro e w6 ⟨v414, rfl, ho0, hb⟩; refine ⟨_, rfl, ?_⟩; have HO415 := A_ (Kd.N_lower (Kd.N_mono (ok' := fun k_ => (w.heap.size ≤ k_) ∧ some k_ ≠ (v411 : Value).ownBlock) (Kd.S_N (Kd.S_bound ho0)) (fun k_ hk_ => ⟨(Nat.le_trans (below_size bB_) hk_.2.1), (Kd.fresh' (Kd.N_lt (vN_ HO412.out)) k_ hk_.2.1)⟩)) (below_size bB_)); replace HO412 := A_ (Kd.N_elder' (vN_ HO412.out) (kb_ ho0) hb); replace HB := A_ (below_step bB_ hb); (try clear hb); (try clear ho0)))
 go_loopg [5, 7] k (fun kq v5 v7 w' => ∃ (x5_1 : List (S28)) (x7_1 : Int), v7 = .int .i64 x7_1 ∧ Aside0 (spec_LiveLocks.l0 kq a1 x5_1 t413 x7_1 = some r) ∧ Aside0 (kq ≤ k) ∧ Aside0 (Kd.N k28 28 w' w.heap.size (fun k_ => (w.heap.size ≤ k_) ∧ some k_ ≠ (v414 : Value).ownBlock) v5 x5_1) ∧ Aside0 (Kd.N k28 28 w' w.heap.size (fun k_ => (w.heap.size ≤ k_) ∧ some k_ ≠ (v5 : Value).ownBlock) v414 t413) ∧ Aside0 (Below w.heap.size w w'))
 case atStart => exact ⟨(y410), (0), rs_, H', ⟨Nat.le_refl _⟩, ⟨vN_ HO412.out⟩, ⟨vN_ HO415.out⟩, ⟨bB_⟩⟩
 case round =>
  clear H'
  try clear p2
  try clear c3
  try clear c6
  obtain ⟨x5_1, x7_1, rfl, HA, HK1, HO_5, HO_6, HB⟩ := hrel
  cases gk with
  | zero => exact absurd HA.out (by simp [spec_LiveLocks.l0])
  | succ k1 =>
   have H := HA.out
   clear HA
   simp only [spec_LiveLocks.l0] at H
   by_cases c7 : x7_1 < (t413.length : Int)
   rotate_left
   · rw [if_neg c7] at H
     have c7b0 : decide (x7_1 < (t413.length : Int)) = false := decide_eq_false c7
     clear c7
     obtain rfl := Option.some.inj H
     obtain ⟨Ao14, co14, eo14⟩ := Kd.N_slice HO_6.out
     subst eo14
     go_wp2
     go_ret
     exact ⟨_, rr_, by (with_reducible repeat (first | apply Kd.N_alloc | apply Kd.N_drewN | apply Kd.N_drew)); exact Kd.N_mono HO_5.out (fun _ hk => hk.1), bB_⟩
   rw [if_pos c7] at H
   have c7b0 : decide (x7_1 < (t413.length : Int)) = true := decide_eq_true c7
   clear c7
   by_cases c8 : 0 ≤ x7_1
   rotate_left
   · exact absurd H (by rw [if_neg c8]; simp)
   rw [if_pos c8] at H
   have c8b0 : decide (0 ≤ x7_1) = true := decide_eq_true c8
   clear c8
   by_cases c9 : ((rd_T28 t413 x7_1).f4) > a1
   rotate_left
   · rw [if_neg c9] at H
     have c9b0 : decide (a1 < ((rd_T28 t413 x7_1).f4)) = false := decide_eq_false c9
     clear c9
     have H' := Aside0.mk H
     clear H
     obtain ⟨Ao13, co13, eo13⟩ := Kd.N_slice HO_6.out
     subst eo13
     have p416 : 0 ≤ (x7_1 : Int) := of_decide_eq_true as_
     have q416 : x7_1 < (t413.length : Int) := of_decide_eq_true as_
     obtain ⟨ad416, A416_1, c416_1, e416, hx416_0, hx416_1, hx416_2, hx416_3, hx416_4, hl416_1, hi416_1⟩ := at_T28 (Kd.N_reads' HO_6.out).2.2 x7_1 p416 q416
     cases e416
     obtain ⟨ce416, hce416, hMe416, hcc416⟩ := Kd.N_get HO_6.out z28 x7_1 p416 (by first | exact q416 | exact of_decide_eq_true as_ | (have e_ := (Kd.N_reads' HO_6.out).1; omega))
     obtain ⟨ua416_1, uc416_1, rfl, ul416_1, ge416_1⟩ := k28_openF hMe416
     have hv416_1 := hcc416 1 _ rfl
     rw [add_field _ _ 1 (by omega)] at hv416_1
     replace hv416_1 := Option.some.inj (hv416_1.symm.trans hx416_1)
     injection hv416_1 with hva_ hvn_ hvc_
     rw [hva_] at ge416_1
     rw [hvc_] at ul416_1
     have HL416_1 := A_ (show Kd.V Kd.string 9 _ w.heap.size _ _ ((rd_T28 t413 x7_1).f1) from Kd.V_mk ul416_1 ge416_1)
     clear hva_ hvn_ hvc_ ge416_1 ul416_1
     clear hcc416 hce416
     have HR416_1 := Aside0.mk hi416_1
     have HC416_1 := Aside0.mk hl416_1
     clear hi416_1 hl416_1
     replace p416 := eq_true p416
     replace q416 := eq_true q416
     go_wp2
     go_roundg k1
     case measure => have := HK1.out; omega
     case rel => exact ⟨(x5_1), (wrap64 (x7_1 + 1)), rs_, H', ⟨by have := HK1.out; omega⟩, ⟨vN_ HO_5.out⟩, ⟨vN_ HO_6.out⟩, ⟨bB_⟩⟩
   rw [if_pos c9] at H
   have c9b0 : decide (a1 < ((rd_T28 t413 x7_1).f4)) = true := decide_eq_true c9
   clear c9
   by_cases c10 : x5_1.length < 2932031007402
   rotate_left
   · exact absurd H (by rw [if_neg c10]; simp)
   rw [if_pos c10] at H
   have LMc10 := Aside0.mk c10
   clear c10
   obtain ⟨y418, hy418⟩ : ∃ y_ : List (S28), y_ = (x5_1 ++ [(⟨(rd_T28 t413 x7_1).f0, (rd_T28 t413 x7_1).f1, (rd_T28 t413 x7_1).f2, (rd_T28 t413 x7_1).f3, (rd_T28 t413 x7_1).f4⟩ : S28)]) := ⟨_, rfl⟩
   replace H : (spec_LiveLocks.l0 k1 a1 y418 t413 (wrap64 (x7_1 + 1))) = some r := hy_ hy418 H
   have Ny418 := Aside0.mk hy418
   clear hy418
   have H' := Aside0.mk H
   clear H
   obtain ⟨Ao11, co11, eo11⟩ := Kd.N_slice HO_6.out
   subst eo11
   have p416 : 0 ≤ (x7_1 : Int) := of_decide_eq_true as_
   have q416 : x7_1 < (t413.length : Int) := of_decide_eq_true as_
   obtain ⟨ad416, A416_1, c416_1, e416, hx416_0, hx416_1, hx416_2, hx416_3, hx416_4, hl416_1, hi416_1⟩ := at_T28 (Kd.N_reads' HO_6.out).2.2 x7_1 p416 q416
   cases e416
   obtain ⟨ce416, hce416, hMe416, hcc416⟩ := Kd.N_get HO_6.out z28 x7_1 p416 (by first | exact q416 | exact of_decide_eq_true as_ | (have e_ := (Kd.N_reads' HO_6.out).1; omega))
   obtain ⟨ua416_1, uc416_1, rfl, ul416_1, ge416_1⟩ := k28_openF hMe416
   have hv416_1 := hcc416 1 _ rfl
   rw [add_field _ _ 1 (by omega)] at hv416_1
   replace hv416_1 := Option.some.inj (hv416_1.symm.trans hx416_1)
   injection hv416_1 with hva_ hvn_ hvc_
   rw [hva_] at ge416_1
   rw [hvc_] at ul416_1
   have HL416_1 := A_ (show Kd.V Kd.string 9 _ w.heap.size _ _ ((rd_T28 t413 x7_1).f1) from Kd.V_mk ul416_1 ge416_1)
   clear hva_ hvn_ hvc_ ge416_1 ul416_1
   clear hcc416 hce416
   have HR416_1 := Aside0.mk hi416_1
   have HC416_1 := Aside0.mk hl416_1
   clear hi416_1 hl416_1
   replace p416 := eq_true p416
   replace q416 := eq_true q416
   have p417 : 0 ≤ (x7_1 : Int) := of_decide_eq_true as_
   have q417 : x7_1 < (t413.length : Int) := of_decide_eq_true as_
   obtain ⟨ad417, A417_1, c417_1, e417, hx417_0, hx417_1, hx417_2, hx417_3, hx417_4, hl417_1, hi417_1⟩ := at_T28 (Kd.N_reads' HO_6.out).2.2 x7_1 p417 q417
   obtain rfl : ad416 = ad417 := (by injection e417)
   obtain ⟨ce417, hce417, hMe417, hcc417⟩ := Kd.N_get HO_6.out z28 x7_1 p417 (by first | exact q417 | exact of_decide_eq_true as_ | (have e_ := (Kd.N_reads' HO_6.out).1; omega))
   obtain ⟨ua417_1, uc417_1, rfl, ul417_1, ge417_1⟩ := k28_openF hMe417
   have hv417_1 := hcc417 1 _ rfl
   rw [add_field _ _ 1 (by omega)] at hv417_1
   replace hv417_1 := Option.some.inj (hv417_1.symm.trans hx417_1)
   injection hv417_1 with hva_ hvn_ hvc_
   rw [hva_] at ge417_1
   rw [hvc_] at ul417_1
   have HL417_1 := A_ (show Kd.V Kd.string 9 _ w.heap.size _ _ ((rd_T28 t413 x7_1).f1) from Kd.V_mk ul417_1 ge417_1)
   clear hva_ hvn_ hvc_ ge417_1 ul417_1
   clear hcc417 hce417
   have HR417_1 := Aside0.mk hi417_1
   have HC417_1 := Aside0.mk hl417_1
   clear hi417_1 hl417_1
   replace p417 := eq_true p417
   replace q417 := eq_true q417
   have ea_ := Option.some.inj (hx416_1.symm.trans hx417_1)
   injection ea_ with ea_ en_ ec_
   subst ea_
   subst ec_
   clear en_
   go_wp2_with (first | ((with_reducible refine gate_builtin (b := .append) (xs := #[.tmp 24, .tmp 29]) rfl ?_); at_builtin; refine Kd.N_append k28 (w0 := w) w.heap.size rfl (.tmp 24) (.tmp 29) 39 28 (.agg #[(.int .i64 0), (.slice none 0 0), (.bool false), (.bool false), (.int .i64 0)]) 48 rfl Try.underlying39 info28 rfl (by decide) (by omega) u5 x5_1 (⟨(rd_T28 t413 x7_1).f0, (rd_T28 t413 x7_1).f1, (rd_T28 t413 x7_1).f2, (rd_T28 t413 x7_1).f3, (rd_T28 t413 x7_1).f4⟩ : S28) [.int .i64 ((rd_T28 t413 x7_1).f0), .slice A416_1 ((rd_T28 t413 x7_1).f1).length c416_1, .bool ((rd_T28 t413 x7_1).f2), .bool ((rd_T28 t413 x7_1).f3), .int .i64 ((rd_T28 t413 x7_1).f4)] (fun k_ => (w.heap.size ≤ k_) ∧ some k_ ≠ (.slice (some ad416) t413.length co11 : Value).ownBlock) (fun k_ => ((fun k_ => (w.heap.size ≤ k_) ∧ some k_ ≠ (.slice (some ad416) t413.length co11 : Value).ownBlock)) k_ ∧ some k_ ≠ (u5 : Value).ownBlock) rfl rfl ?aP (fun _ hk => hk) ?aF ?aO ?aB ?aS ?aL ?_; (case aP => exact (k28_mkF _ _ (⟨(rd_T28 t413 x7_1).f0, (rd_T28 t413 x7_1).f1, (rd_T28 t413 x7_1).f2, (rd_T28 t413 x7_1).f3, (rd_T28 t413 x7_1).f4⟩ : S28) (Kd.V_reads' (Kd.V_mono (ok' := (fun k_ => ((fun k_ => (w.heap.size ≤ k_) ∧ some k_ ≠ (.slice (some ad416) t413.length co11 : Value).ownBlock)) k_ ∧ some k_ ≠ (u5 : Value).ownBlock)) (HL417_1.out) (fun k_ hk => ⟨⟨hk.1.1, hk.2⟩, hk.1.2⟩))).2.1 (Kd.V_F (Kd.V_mono (ok' := (fun k_ => ((fun k_ => (w.heap.size ≤ k_) ∧ some k_ ≠ (.slice (some ad416) t413.length co11 : Value).ownBlock)) k_ ∧ some k_ ≠ (u5 : Value).ownBlock)) (HL417_1.out) (fun k_ hk => ⟨⟨hk.1.1, hk.2⟩, hk.1.2⟩))))); (case aB => exact bB_); (case aF => exact (fun k_ hk => ⟨(Nat.le_trans (below_size bB_) hk), Kd.fresh' (Kd.N_lt (vN_ HO_6.out)) k_ hk⟩)); (case aO => exact (vN_ HO_5.out)); (case aS => exact (below_size bB_)); (case aL => have := LMc10.out; omega); intro v419 w12 ho hb hg hat; rw [← Ny418.out] at ho; replace HO_6 := A_ (Kd.N_afterv (ok := (fun k_ => (w.heap.size ≤ k_))) (vN_ HO_6.out) hg hat); replace HL416_1 := A_ (Kd.V_afterv (ok := (fun k_ => (w.heap.size ≤ k_) ∧ some k_ ≠ (.slice (some ad416) t413.length co11 : Value).ownBlock)) (by (with_reducible repeat (first | apply Kd.V_alloc | apply Kd.V_drewN | apply Kd.V_drew)); exact Kd.V_mono HL416_1.out (fun _ hk => ⟨⟨hk.1.1, hk.2⟩, hk.1.2⟩)) hg hat); replace HL417_1 := A_ (Kd.V_afterv (ok := (fun k_ => (w.heap.size ≤ k_) ∧ some k_ ≠ (.slice (some ad416) t413.length co11 : Value).ownBlock)) (by (with_reducible repeat (first | apply Kd.V_alloc | apply Kd.V_drewN | apply Kd.V_drew)); exact Kd.V_mono HL417_1.out (fun _ hk => ⟨⟨hk.1.1, hk.2⟩, hk.1.2⟩)) hg hat); replace HB := A_ (hb); have HO420 := A_ (ho); clear HO_5; clear ho hb hg hat))
   go_roundg k1
   case measure => have := HK1.out; omega
   case rel => exact ⟨(y418), (wrap64 (x7_1 + 1)), rs_, H', ⟨by have := HK1.out; omega⟩, ⟨vN_ HO420.out⟩, ⟨vN_ HO_6.out⟩, ⟨bB_⟩⟩
def laws_szStringS.l0 : Nat → List ByteArray → Int → Int → Option (Int)
 | 0, _, _, _ => none
 | k + 1, x0, x1, x5 => if x5 < (x0.length : Int) then (if 0 ≤ x5 then (if (wrap64 (x1 - ((rdOf ByteArray.empty x0 x5).size : Int))) < 0 then (some (-1)) else (laws_szStringS.l0 k x0 (wrap64 (x1 - ((rdOf ByteArray.empty x0 x5).size : Int))) (wrap64 (x5 + 1)))) else (none)) else (some x1)
def laws_szStringS.f (k : Nat) (l0 : List ByteArray) (a1 : Int) : Option (Int) := if (wrap64 (a1 - (l0.length : Int))) < 0 then (some (-1)) else (laws_szStringS.l0 k l0 (wrap64 (a1 - (l0.length : Int))) 0)
set_option maxHeartbeats 8000000 in
set_option maxRecDepth 100000 in
theorem laws_szStringS.calls (k : Nat) (A0 : Option Addr) (c0 : Nat) (l0 : List ByteArray) (a1 : Int) (r : Int) (w : World) (hr0 : Kd.C Kd.string w A0 l0.length l0) (hc0 : l0.length ≤ c0) (h : laws_szStringS.f k l0 a1 = some r) :
 Calls Try.prog 16 #[.slice A0 l0.length c0, .int .i64 a1] w fun e w' => e = .returned (.int .i64 r) ∧ Drawn0 w w' := by
 have HR0 := Aside0.mk hr0
 have HC0 := Aside0.mk hc0
 clear hr0 hc0
 have H : (if (wrap64 (a1 - (l0.length : Int))) < 0 then (some (-1)) else (laws_szStringS.l0 k l0 (wrap64 (a1 - (l0.length : Int))) 0)) = some r := h
 clear h
 by_cases c3 : (wrap64 (a1 - (l0.length : Int))) < 0
 · rw [if_pos c3] at H
   have c3b0 : decide ((wrap64 (a1 - (l0.length : Int))) < 0) = true := decide_eq_true c3
   clear c3
   obtain rfl := Option.some.inj H
   go_enter Try.func16, Try.ntmps16
   go_wp2
   go_ret
   exact ⟨rs_, dr_⟩
 rw [if_neg c3] at H
 have c3b0 : decide ((wrap64 (a1 - (l0.length : Int))) < 0) = false := decide_eq_false c3
 clear c3
 have H' := Aside0.mk H
 clear H
 go_enter Try.func16, Try.ntmps16
 go_wp2
 go_loopg [1, 5] k (fun kq v1 v5 w' => ∃ (x1_1 : Int) (x5_1 : Int), v1 = .int .i64 x1_1 ∧ v5 = .int .i64 x5_1 ∧ Aside0 (laws_szStringS.l0 kq l0 x1_1 x5_1 = some r) ∧ Aside0 (kq ≤ k) ∧ Drawn0 w w')
 case atStart => exact ⟨(wrap64 (a1 - (l0.length : Int))), (0), rs_, rs_, H', ⟨Nat.le_refl _⟩, dr_⟩
 case round =>
  clear H'
  try clear c1
  try clear p2
  try clear c3
  try clear c3b0
  obtain ⟨x1_1, x5_1, rfl, rfl, HA, HK1, ⟨m1, rfl⟩⟩ := hrel
  cases gk with
  | zero => exact absurd HA.out (by simp [laws_szStringS.l0])
  | succ k1 =>
   have H := HA.out
   clear HA
   simp only [laws_szStringS.l0] at H
   by_cases c4 : x5_1 < (l0.length : Int)
   rotate_left
   · rw [if_neg c4] at H
     have c4b0 : decide (x5_1 < (l0.length : Int)) = false := decide_eq_false c4
     clear c4
     obtain rfl := Option.some.inj H
     go_wp2
     go_ret
     exact ⟨rs_, dr_⟩
   rw [if_pos c4] at H
   have c4b0 : decide (x5_1 < (l0.length : Int)) = true := decide_eq_true c4
   clear c4
   by_cases c5 : 0 ≤ x5_1
   rotate_left
   · exact absurd H (by rw [if_neg c5]; simp)
   rw [if_pos c5] at H
   have c5b0 : decide (0 ≤ x5_1) = true := decide_eq_true c5
   clear c5
   by_cases c6 : (wrap64 (x1_1 - ((rdOf ByteArray.empty l0 x5_1).size : Int))) < 0
   · rw [if_pos c6] at H
     have c6b0 : decide ((wrap64 (x1_1 - ((rdOf ByteArray.empty l0 x5_1).size : Int))) < 0) = true := decide_eq_true c6
     clear c6
     obtain rfl := Option.some.inj H
     have p101 : 0 ≤ (x5_1 : Int) := of_decide_eq_true as_
     have q101 : x5_1 < (l0.length : Int) := of_decide_eq_true as_
     obtain ⟨ad101, e101, hx101_0⟩ := Kd.at_string HR0.out x5_1 p101 q101
     cases e101
     replace p101 := eq_true p101
     replace q101 := eq_true q101
     go_wp2
     go_ret
     exact ⟨rs_, dr_⟩
   rw [if_neg c6] at H
   have c6b0 : decide ((wrap64 (x1_1 - ((rdOf ByteArray.empty l0 x5_1).size : Int))) < 0) = false := decide_eq_false c6
   clear c6
   have H' := Aside0.mk H
   clear H
   have p101 : 0 ≤ (x5_1 : Int) := of_decide_eq_true as_
   have q101 : x5_1 < (l0.length : Int) := of_decide_eq_true as_
   obtain ⟨ad101, e101, hx101_0⟩ := Kd.at_string HR0.out x5_1 p101 q101
   cases e101
   replace p101 := eq_true p101
   replace q101 := eq_true q101
   go_wp2
   go_roundg k1
   case measure => have := HK1.out; omega
   case rel => exact ⟨(wrap64 (x1_1 - ((rdOf ByteArray.empty l0 x5_1).size : Int))), (wrap64 (x5_1 + 1)), rs_, rs_, H', ⟨by have := HK1.out; omega⟩, dr_⟩
def laws_szLock.f (k : Nat) (a0_0 : Int) (l0_1 : List ByteArray) (a0_2 : Bool) (a0_3 : Bool) (a0_4 : Int) (a1 : Int) : Option (Int) := (laws_szStringS.f k l0_1 a1).bind fun t103 => (if t103 < 0 then (some (-1)) else (some t103))
set_option maxHeartbeats 8000000 in
set_option maxRecDepth 100000 in
theorem laws_szLock.calls (k : Nat) (a0_0 : Int) (A0_1 : Option Addr) (c0_1 : Nat) (l0_1 : List ByteArray) (a0_2 : Bool) (a0_3 : Bool) (a0_4 : Int) (a1 : Int) (r : Int) (w : World) (hr0_1 : Kd.C Kd.string w A0_1 l0_1.length l0_1) (hc0_1 : l0_1.length ≤ c0_1) (h : laws_szLock.f k a0_0 l0_1 a0_2 a0_3 a0_4 a1 = some r) :
 Calls Try.prog 15 #[.agg #[.int .i64 a0_0, .slice A0_1 l0_1.length c0_1, .bool a0_2, .bool a0_3, .int .i64 a0_4], .int .i64 a1] w fun e w' => e = .returned (.int .i64 r) ∧ Below w.heap.size w w' := by
 have hu24 := Try.underlying24
 have HR0_1 := Aside0.mk hr0_1
 have HC0_1 := Aside0.mk hc0_1
 clear hr0_1 hc0_1
 have HB := A_ (Below.refl w.heap.size w)
 have H : ((laws_szStringS.f k l0_1 a1).bind fun t103 => (if t103 < 0 then (some (-1)) else (some t103))) = some r := h
 clear h
 obtain ⟨t103, A3, H⟩ := bo_ H
 (try dsimp only at H)
 by_cases c4 : t103 < 0
 · rw [if_pos c4] at H
   have c4b0 : decide (t103 < 0) = true := decide_eq_true c4
   clear c4
   obtain rfl := Option.some.inj H
   go_enter Try.func15, Try.ntmps15
   go_wp2_with (first | ((with_reducible refine gate_dst (N := 2) rfl ?_); refine bx_ (N := 2) (cs := #[.int .i64 a0_0, .slice A0_1 l0_1.length c0_1, .bool a0_2, .bool a0_3, .int .i64 a0_4]) (t := 24) ?_; intro gb102 hg w5 hbox hb; have BK102 := A_ (hbox); have GW102 := A_ (ge_ hg bB_ : w.heap.size ≤ gb102); have GE102 := A_ (ge_ hg bB_ : w.heap.size ≤ gb102); replace HB := A_ (below_step bB_ hb); clear hb hbox hg; obtain ⟨hcz6_0, hcz6_1, hcz6_2, hcz6_3, hcz6_4, hfz6_0, hfz6_1, hfz6_2, hfz6_3, hfz6_4⟩ := cz5_ BK102.out) | ((with_reducible refine gate_callee (f := 16) rfl ?_); refine gL_ (some 8) Try.func16 #[.slice A0_1 l0_1.length c0_1, .int .i64 a1] ?_; (with_reducible refine (laws_szStringS.calls k _ _ l0_1 a1 t103 _ ?s1 ?s2 A3.out).mono ?_); (case s1 => exact cC_ (Kd.C_below HR0_1.out HB.out)); (case s2 => exact HC0_1.out); rintro e w' ⟨rfl, ⟨nd, rfl⟩⟩; refine ⟨_, rfl, ?_⟩))
   go_ret
   exact ⟨rr_, bG_ GE102.out⟩
 rw [if_neg c4] at H
 have c4b0 : decide (t103 < 0) = false := decide_eq_false c4
 clear c4
 obtain rfl := Option.some.inj H
 go_enter Try.func15, Try.ntmps15
 go_wp2_with (first | ((with_reducible refine gate_dst (N := 2) rfl ?_); refine bx_ (N := 2) (cs := #[.int .i64 a0_0, .slice A0_1 l0_1.length c0_1, .bool a0_2, .bool a0_3, .int .i64 a0_4]) (t := 24) ?_; intro gb102 hg w7 hbox hb; have BK102 := A_ (hbox); have GW102 := A_ (ge_ hg bB_ : w.heap.size ≤ gb102); have GE102 := A_ (ge_ hg bB_ : w.heap.size ≤ gb102); replace HB := A_ (below_step bB_ hb); clear hb hbox hg; obtain ⟨hcz8_0, hcz8_1, hcz8_2, hcz8_3, hcz8_4, hfz8_0, hfz8_1, hfz8_2, hfz8_3, hfz8_4⟩ := cz5_ BK102.out) | ((with_reducible refine gate_callee (f := 16) rfl ?_); refine gL_ (some 8) Try.func16 #[.slice A0_1 l0_1.length c0_1, .int .i64 a1] ?_; (with_reducible refine (laws_szStringS.calls k _ _ l0_1 a1 t103 _ ?s1 ?s2 A3.out).mono ?_); (case s1 => exact cC_ (Kd.C_below HR0_1.out HB.out)); (case s2 => exact HC0_1.out); rintro e w' ⟨rfl, ⟨nd, rfl⟩⟩; refine ⟨_, rfl, ?_⟩))
 go_ret
 exact ⟨rr_, bG_ GE102.out⟩
def laws_toStringS.l0 : Nat → List ByteArray → List ByteArray → Int → Option (List ByteArray)
 | 0, _, _, _ => none
 | k + 1, x0, x3, x4 => if x4 < (x0.length : Int) then (if 0 ≤ x4 then (if x4 < (x3.length : Int) then (laws_toStringS.l0 k x0 (x3.set (x4 : Int).toNat (rdOf ByteArray.empty x0 x4)) (wrap64 (x4 + 1))) else (none)) else (none)) else (some x3)
def laws_toStringS.f (k : Nat) (l0 : List ByteArray) : Option (List ByteArray) := if 0 ≤ (l0.length : Int) then (if ((l0.length : Int) : Int).toNat ≤ 17592186044416 then (laws_toStringS.l0 k l0 (List.replicate ((l0.length : Int) : Int).toNat (⟨#[]⟩ : ByteArray)) 0) else (none)) else (none)
set_option maxHeartbeats 8000000 in
set_option maxRecDepth 100000 in
theorem laws_toStringS.calls (k : Nat) (A0 : Option Addr) (c0 : Nat) (l0 : List ByteArray) (r : List ByteArray) (w : World) (hr0 : Kd.C Kd.string w A0 l0.length l0) (hc0 : l0.length ≤ c0) (h : laws_toStringS.f k l0 = some r) :
 Calls Try.prog 19 #[.slice A0 l0.length c0] w fun e w' => ∃ v0_ : Value, e = .returned (v0_) ∧ Kd.R Kd.string 9 w' w.heap.size (fun _ => True) v0_ r ∧ Below w.heap.size w w' := by
 have HR0 := Aside0.mk hr0
 have HC0 := Aside0.mk hc0
 clear hr0 hc0
 have HB := A_ (Below.refl w.heap.size w)
 have H : (if 0 ≤ (l0.length : Int) then (if ((l0.length : Int) : Int).toNat ≤ 17592186044416 then (laws_toStringS.l0 k l0 (List.replicate ((l0.length : Int) : Int).toNat (⟨#[]⟩ : ByteArray)) 0) else (none)) else (none)) = some r := h
 clear h
 by_cases c2 : 0 ≤ (l0.length : Int)
 rotate_left
 · exact absurd H (by rw [if_neg c2]; simp)
 rw [if_pos c2] at H
 have c2b0 := eq_true c2
 have c2b1 : decide (0 ≤ (l0.length : Int)) = true := decide_eq_true c2
 clear c2
 by_cases c3 : ((l0.length : Int) : Int).toNat ≤ 17592186044416
 rotate_left
 · exact absurd H (by rw [if_neg c3]; simp)
 rw [if_pos c3] at H
 have c3b0 := eq_true c3
 have c3b1 : decide (((l0.length : Int) : Int).toNat ≤ 17592186044416) = true := decide_eq_true c3
 clear c3
 obtain ⟨y111, hy111⟩ : ∃ y_ : List ByteArray, y_ = (List.replicate ((l0.length : Int) : Int).toNat (⟨#[]⟩ : ByteArray)) := ⟨_, rfl⟩
 replace H : (laws_toStringS.l0 k l0 y111 0) = some r := hy_ hy111 H
 have Ny111 := Aside0.mk hy111
 clear hy111
 have H' := Aside0.mk H
 clear H
 go_enter Try.func19, Try.ntmps19
 go_wp2_with (first | ((with_reducible refine gate_dst (N := 7) rfl ?_); refine Kd.R_make Kd.string _ 9 rfl (N := 7) rfl 22 _ _ rfl (l0.length : Int) rfl rfl Try.underlying22 (.string ⟨#[]⟩) 16 info9 rfl (by decide) (by omega) (⟨#[]⟩ : ByteArray) (ok := fun _ => True) (okp := fun _ => True) rfl (fun _ hk => hk) trivial (of_decide_eq_true as_) (Nat.le_trans (Nat.mul_le_mul_right _ (of_decide_eq_true as_ : (l0.length : Int).toNat ≤ 17592186044416)) (by omega)) (Below.refl _ _) (Nat.le_refl _) ?_; intro v112 w4 ho5 hb hg_ hnew_; clear hg_ hnew_; (first | rw [← Ny111.out] at ho5 | (simp only [Int.reduceToNat] at ho5; rw [← Ny111.out] at ho5)); have HO113 := A_ (Kd.R_lower ho5 (below_size bB_)); replace HB := A_ (below_step bB_ hb); clear hb ho5))
 go_loopg [4] k (fun kq v4 w' => ∃ (x3_1 : List ByteArray) (x4_1 : Int), v4 = .int .i64 x4_1 ∧ Aside0 (laws_toStringS.l0 kq l0 x3_1 x4_1 = some r) ∧ Aside0 (kq ≤ k) ∧ Aside0 (Kd.R Kd.string 9 w' w.heap.size (fun _ => True) v112 x3_1) ∧ Aside0 (Below w.heap.size w w'))
 case atStart => exact ⟨(y111), (0), rs_, H', ⟨Nat.le_refl _⟩, ⟨vR_ HO113.out⟩, ⟨bB_⟩⟩
 case round =>
  clear H'
  try clear c1
  try clear c2
  try clear c2b0
  try clear c2b1
  try clear p2
  try clear c3
  try clear c3b0
  try clear c3b1
  obtain ⟨x3_1, x4_1, rfl, HA, HK1, HO_3, HB⟩ := hrel
  cases gk with
  | zero => exact absurd HA.out (by simp [laws_toStringS.l0])
  | succ k1 =>
   have H := HA.out
   clear HA
   simp only [laws_toStringS.l0] at H
   by_cases c6 : x4_1 < (l0.length : Int)
   rotate_left
   · rw [if_neg c6] at H
     have c6b0 : decide (x4_1 < (l0.length : Int)) = false := decide_eq_false c6
     clear c6
     obtain rfl := Option.some.inj H
     go_wp2
     go_ret
     exact ⟨_, rr_, by (with_reducible repeat (first | apply Kd.R_alloc | apply Kd.R_drewN | apply Kd.R_drew)); exact HO_3.out, bB_⟩
   rw [if_pos c6] at H
   have c6b0 : decide (x4_1 < (l0.length : Int)) = true := decide_eq_true c6
   clear c6
   by_cases c7 : 0 ≤ x4_1
   rotate_left
   · exact absurd H (by rw [if_neg c7]; simp)
   rw [if_pos c7] at H
   have c7b0 : decide (0 ≤ x4_1) = true := decide_eq_true c7
   clear c7
   by_cases c8 : x4_1 < (x3_1.length : Int)
   rotate_left
   · exact absurd H (by rw [if_neg c8]; simp)
   rw [if_pos c8] at H
   have c8b0 : decide (x4_1 < (x3_1.length : Int)) = true := decide_eq_true c8
   clear c8
   obtain ⟨y115, hy115⟩ : ∃ y_ : List ByteArray, y_ = (x3_1.set (x4_1 : Int).toNat (rdOf ByteArray.empty l0 x4_1)) := ⟨_, rfl⟩
   replace H : (laws_toStringS.l0 k1 l0 y115 (wrap64 (x4_1 + 1))) = some r := hy_ hy115 H
   have Ny115 := Aside0.mk hy115
   clear hy115
   have H' := Aside0.mk H
   clear H
   have p114 : 0 ≤ (x4_1 : Int) := of_decide_eq_true as_
   have q114 : x4_1 < (l0.length : Int) := of_decide_eq_true as_
   obtain ⟨ad114, e114, hx114_0⟩ := Kd.at_string HR0.out x4_1 p114 q114
   cases e114
   replace hx114_0 := bc_ HB.out hx114_0
   replace p114 := eq_true p114
   replace q114 := eq_true q114
   have p9 : 0 ≤ (x4_1 : Int) := of_decide_eq_true as_
   have q9 : (x4_1 : Int) < ((x3_1.length : Int) : Int) := of_decide_eq_true as_
   obtain ⟨go9, co9, eo9, gb9, gl9, cl9, HG9⟩ := Kd.R_form HO_3.out (by omega)
   (first | cases eo9 | (injection eo9 with ea_ en_ ec_; (first | subst ea_ | (injection ea_ with ea_; subst ea_)); subst ec_; clear en_))
   have GB9 := Aside0.mk gb9
   have GG9 := Aside0.mk HG9
   clear gb9 gl9 HG9
   obtain ⟨hx9_0, hf9_0⟩ := Kd.R_celln (⟨#[]⟩ : ByteArray) HO_3.out (x4_1 : Int) p9 q9
   replace p9 := eq_true p9
   replace q9 := eq_true q9
   have HP10 := Kd.R_putg HO_3.out (x4_1 : Int) (rdOf ByteArray.empty l0 x4_1)
   go_wp2_with (first | ((with_reducible refine gate_store (t := 9) (p := 20) rfl ?_); refine store_event (t := 9) (p := 20) (v := ?vo_w11) (w1 := (wr.setCell ⟨go9, (x4_1 : Int).toNat, none⟩ (.string (rdOf ByteArray.empty l0 x4_1)))) ?hg ?ho ?hn ?hr ?_; (case ho => rfl); (case hg => rfl); (case hn => rfl); (case hr => first | (go_simp; done) | (go_simp; rfl)); intro w11 hw; have hg : wr.grownBy w11 (some go9) := (by rw [hw]; exact HP10.2); have hp_ : Kd.R Kd.string 9 w11 w.heap.size (fun _ => True) (.slice (some ⟨go9, 0, none⟩) x3_1.length co9) y115 := (by rw [hw, Ny115.out]; exact HP10.1); clear HP10; replace HO_3 := A_ (hp_); replace HB := A_ ((by rw [hw]; exact below_set (HB.out) GB9.out : Below w.heap.size w w11)); clear hg hw hp_))
   go_roundg k1
   case measure => have := HK1.out; omega
   case rel => exact ⟨(y115), (wrap64 (x4_1 + 1)), rs_, H', ⟨by have := HK1.out; omega⟩, ⟨vR_ HO_3.out⟩, ⟨bB_⟩⟩
def laws_toLock.f (k : Nat) (a0_0 : Int) (l0_1 : List ByteArray) (a0_2 : Bool) (a0_3 : Bool) (a0_4 : Int) : Option (Int × List ByteArray × Bool × Bool × Int) := (laws_toStringS.f k l0_1).bind fun t119 => (some (a0_0, t119, a0_2, a0_3, a0_4))
set_option maxHeartbeats 8000000 in
set_option maxRecDepth 100000 in
theorem laws_toLock.calls (k : Nat) (a0_0 : Int) (A0_1 : Option Addr) (c0_1 : Nat) (l0_1 : List ByteArray) (a0_2 : Bool) (a0_3 : Bool) (a0_4 : Int) (r1 : Int) (r2 : List ByteArray) (r3 : Bool) (r4 : Bool) (r5 : Int) (w : World) (hr0_1 : Kd.C Kd.string w A0_1 l0_1.length l0_1) (hc0_1 : l0_1.length ≤ c0_1) (h : laws_toLock.f k a0_0 l0_1 a0_2 a0_3 a0_4 = some (r1, r2, r3, r4, r5)) :
 Calls Try.prog 18 #[.agg #[.int .i64 a0_0, .slice A0_1 l0_1.length c0_1, .bool a0_2, .bool a0_3, .int .i64 a0_4]] w fun e w' => ∃ v1_ : Value, e = .returned (.agg #[.int .i64 r1, v1_, .bool r3, .bool r4, .int .i64 r5]) ∧ Kd.R Kd.string 9 w' w.heap.size (fun _ => True) v1_ r2 ∧ Below w.heap.size w w' := by
 have hu24 := Try.underlying24
 have hu28 := Try.underlying28
 have HR0_1 := Aside0.mk hr0_1
 have HC0_1 := Aside0.mk hc0_1
 clear hr0_1 hc0_1
 have HB := A_ (Below.refl w.heap.size w)
 have H : ((laws_toStringS.f k l0_1).bind fun t119 => (some (a0_0, t119, a0_2, a0_3, a0_4))) = some (r1, r2, r3, r4, r5) := h
 clear h
 obtain ⟨t119, A2, H⟩ := bo_ H
 (try dsimp only at H)
 simp only [Option.some.injEq, Prod.mk.injEq] at H
 obtain ⟨rfl, rfl, rfl, rfl, rfl⟩ := H
 go_enter Try.func18, Try.ntmps18
 go_wp2_with (first | ((with_reducible refine gate_dst (N := 1) rfl ?_); refine bx_ (N := 1) (cs := #[.int .i64 a0_0, .slice A0_1 l0_1.length c0_1, .bool a0_2, .bool a0_3, .int .i64 a0_4]) (t := 24) ?_; intro gb116 hg w3 hbox hb; have BK116 := A_ (hbox); have GW116 := A_ (ge_ hg bB_ : w.heap.size ≤ gb116); have GE116 := A_ (ge_ hg bB_ : w.heap.size ≤ gb116); replace HB := A_ (below_step bB_ hb); clear hb hbox hg) | ((with_reducible refine gate_dst (N := 2) rfl ?_); refine bx_ (N := 2) (cs := #[.int .i64 0, .slice none 0 0, .bool false, .bool false, .int .i64 0]) (t := 28) ?_; intro gb117 hg w4 hbox hb; have BK117 := A_ (hbox); have GW117 := A_ (ge_ hg (bG_ GE116.out) : w.heap.size ≤ gb117); have GE117 := A_ (ge_ hg (bG_ GE116.out) : w.heap.size ≤ gb117); replace HB := A_ (below_step (bG_ GE116.out) hb); have NB116_117 := A_ (gm_ hg BK116.out); have NB117_116 := A_ (gn_ hg BK116.out); replace BK116 := A_ (bw_ BK116.out hb); clear hb hbox hg) | ((with_reducible refine gate_dst (N := 3) rfl ?_); refine bx_ (N := 3) (cs := #[.int .i64 0, .slice none 0 0, .bool false, .bool false, .int .i64 0]) (t := 28) ?_; intro gb118 hg w5 hbox hb; have BK118 := A_ (hbox); have GW118 := A_ ((by rw [hg]; exact (below_size (by repeat (first | (with_reducible first | exact HB.out | apply below_alloc | apply pw_below_drewN | apply below_drew1 | refine below_set ?_ GE116.out | refine below_set ?_ GE117.out) | exact HB.out))) : w.heap.size ≤ gb118)); have GE118 := A_ ((by rw [hg]; exact (below_size (by repeat (first | (with_reducible first | exact HB.out | apply below_alloc | apply pw_below_drewN | apply below_drew1 | refine below_set ?_ GE116.out | refine below_set ?_ GE117.out) | exact HB.out))) : w.heap.size ≤ gb118)); replace HB := A_ (below_step (by repeat (first | (with_reducible first | exact HB.out | apply below_alloc | apply pw_below_drewN | apply below_drew1 | refine below_set ?_ GE116.out | refine below_set ?_ GE117.out) | exact HB.out)) hb); have NB116_118 := A_ (gm_ hg BK116.out); have NB118_116 := A_ (gn_ hg BK116.out); replace BK116 := A_ (bw_ BK116.out hb); have NB117_118 := A_ (gm_ hg BK117.out); have NB118_117 := A_ (gn_ hg BK117.out); replace BK117 := A_ (bw_ BK117.out hb); clear hb hbox hg; have hnb6 := NB116_117.out; have hnc6 := NB117_116.out; have hnb7 := NB116_118.out; have hnc7 := NB118_116.out; obtain ⟨hcz8_0, hcz8_1, hcz8_2, hcz8_3, hcz8_4, hfz8_0, hfz8_1, hfz8_2, hfz8_3, hfz8_4⟩ := cz5_ BK116.out; have hnb9 := NB118_117.out; have hnc9 := NB117_118.out; obtain ⟨hcz10_0, hcz10_1, hcz10_2, hcz10_3, hcz10_4, hfz10_0, hfz10_1, hfz10_2, hfz10_3, hfz10_4⟩ := cz5_ BK118.out) | ((with_reducible refine gate_callee (f := 19) rfl ?_); refine gL_ (some 9) Try.func19 #[.slice A0_1 l0_1.length c0_1] ?_; (with_reducible refine (laws_toStringS.calls k _ _ l0_1 t119 _ ?s1 ?s2 A2.out).mono ?_); (case s1 => exact Kd.C_below HR0_1.out (by repeat (first | (with_reducible first | exact HB.out | apply below_alloc | apply pw_below_drewN | apply below_drew1 | refine below_set ?_ GE116.out | refine below_set ?_ GE117.out | refine below_set ?_ GE118.out) | exact HB.out))); (case s2 => exact HC0_1.out); rintro e w11 ⟨v120, rfl, ho0, hb⟩; refine ⟨_, rfl, ?_⟩; have HO121 := A_ (Kd.R_lower ho0 (below_size (by repeat (first | (with_reducible first | exact HB.out | apply below_alloc | apply pw_below_drewN | apply below_drew1 | refine below_set ?_ GE116.out | refine below_set ?_ GE117.out | refine below_set ?_ GE118.out) | exact HB.out)))); replace BK116 := A_ (blk_below (g := gb116) (o := .cells #[.int .i64 a0_0, .slice A0_1 l0_1.length c0_1, .bool a0_2, .bool a0_3, .int .i64 a0_4] 24 (0, 0)) (by (with_reducible repeat (first | refine blk_drewN ?_ _ | refine blk_drew ?_ | refine blk_alloc ?_ _)); refine blk_far ?_ NB116_118.out _; (with_reducible repeat (first | refine blk_drewN ?_ _ | refine blk_drew ?_ | refine blk_alloc ?_ _)); exact BK116.out) hb); replace BK117 := A_ (blk_below (g := gb117) (o := .cells #[.int .i64 0, .slice none 0 0, .bool false, .bool false, .int .i64 0] 28 (0, 0)) (by (with_reducible repeat (first | refine blk_drewN ?_ _ | refine blk_drew ?_ | refine blk_alloc ?_ _)); refine blk_far ?_ NB117_118.out _; (with_reducible repeat (first | refine blk_drewN ?_ _ | refine blk_drew ?_ | refine blk_alloc ?_ _)); exact BK117.out) hb); replace BK118 := A_ (blk_below (g := gb118) (o := .cells #[.int .i64 a0_0, .slice none 0 0, .bool false, .bool false, .int .i64 0] 28 (0, 0)) (by (with_reducible repeat (first | refine blk_drewN ?_ _ | refine blk_drew ?_ | refine blk_alloc ?_ _)); refine blk_put (cs := #[.int .i64 0, .slice none 0 0, .bool false, .bool false, .int .i64 0]) ?_ 0 _ rfl; (with_reducible repeat (first | refine blk_drewN ?_ _ | refine blk_drew ?_ | refine blk_alloc ?_ _)); exact BK118.out) hb); replace HB := A_ (below_step (by repeat (first | (with_reducible first | exact HB.out | apply below_alloc | apply pw_below_drewN | apply below_drew1 | refine below_set ?_ GE116.out | refine below_set ?_ GE117.out | refine below_set ?_ GE118.out) | exact HB.out)) hb); (try clear hb); (try clear ho0); obtain ⟨Ao12, co12, eo12⟩ := Kd.R_slice HO121.out; subst eo12; obtain ⟨hcz13_0, hcz13_1, hcz13_2, hcz13_3, hcz13_4, hfz13_0, hfz13_1, hfz13_2, hfz13_3, hfz13_4⟩ := cz5_ BK118.out; obtain ⟨hcz14_0, hcz14_1, hcz14_2, hcz14_3, hcz14_4, hfz14_0, hfz14_1, hfz14_2, hfz14_3, hfz14_4⟩ := cz5_ BK116.out; obtain ⟨hcz15_0, hcz15_1, hcz15_2, hcz15_3, hcz15_4, hfz15_0, hfz15_1, hfz15_2, hfz15_3, hfz15_4⟩ := cz5_ BK117.out))
 refine bodyPost_ret (results_cell_row rfl _ _ gb117 28 #[.int .i64 a0_0, .slice Ao12 t119.length co12, .bool a0_2, .bool a0_3, .int .i64 a0_4] (0, 0) _ rfl (by (with_reducible repeat (first | refine blk_drewN ?_ _ | refine blk_drew ?_ | refine blk_alloc ?_ _)); refine blk_put (cs := #[.int .i64 a0_0, .slice Ao12 t119.length co12, .bool a0_2, .bool a0_3, .int .i64 0]) ?_ 4 _ rfl; (with_reducible repeat (first | refine blk_drewN ?_ _ | refine blk_drew ?_ | refine blk_alloc ?_ _)); refine blk_put (cs := #[.int .i64 a0_0, .slice Ao12 t119.length co12, .bool a0_2, .bool false, .int .i64 0]) ?_ 3 _ rfl; (with_reducible repeat (first | refine blk_drewN ?_ _ | refine blk_drew ?_ | refine blk_alloc ?_ _)); refine blk_put (cs := #[.int .i64 a0_0, .slice Ao12 t119.length co12, .bool false, .bool false, .int .i64 0]) ?_ 2 _ rfl; (with_reducible repeat (first | refine blk_drewN ?_ _ | refine blk_drew ?_ | refine blk_alloc ?_ _)); refine blk_put (cs := #[.int .i64 a0_0, .slice none 0 0, .bool false, .bool false, .int .i64 0]) ?_ 1 _ rfl; (with_reducible repeat (first | refine blk_drewN ?_ _ | refine blk_drew ?_ | refine blk_alloc ?_ _)); refine blk_put (cs := #[.int .i64 0, .slice none 0 0, .bool false, .bool false, .int .i64 0]) ?_ 0 _ rfl; (with_reducible repeat (first | refine blk_drewN ?_ _ | refine blk_drew ?_ | refine blk_alloc ?_ _)); refine blk_far ?_ NB117_118.out _; (with_reducible repeat (first | refine blk_drewN ?_ _ | refine blk_drew ?_ | refine blk_alloc ?_ _)); refine blk_far ?_ NB117_118.out _; (with_reducible repeat (first | refine blk_drewN ?_ _ | refine blk_drew ?_ | refine blk_alloc ?_ _)); refine blk_far ?_ NB117_118.out _; (with_reducible repeat (first | refine blk_drewN ?_ _ | refine blk_drew ?_ | refine blk_alloc ?_ _)); refine blk_far ?_ NB117_118.out _; (with_reducible repeat (first | refine blk_drewN ?_ _ | refine blk_drew ?_ | refine blk_alloc ?_ _)); exact BK117.out) Try.underlying28 rfl (by kernel_rfl)) rfl ?_
 exact ⟨_, rr_, by (with_reducible repeat (first | apply Kd.R_alloc | apply Kd.R_drewN | apply Kd.R_drew)); exact Kd.R_mono (Kd.R_far (p := ⟨gb117, 4, none⟩) (Kd.R_far (p := ⟨gb117, 3, none⟩) (Kd.R_far (p := ⟨gb117, 2, none⟩) (Kd.R_far (p := ⟨gb117, 1, none⟩) (Kd.R_far (p := ⟨gb117, 0, none⟩) (Kd.R_far (p := ⟨gb118, 4, none⟩) (Kd.R_far (p := ⟨gb118, 3, none⟩) (Kd.R_far (p := ⟨gb118, 2, none⟩) (Kd.R_far (p := ⟨gb118, 1, none⟩) (Kd.R_types (Kd.R_types HO121.out BK118.out (by decide)) BK117.out (by decide)) (fun _ hk => hk.1.2) (.slice Ao12 t119.length co12)) (fun _ hk => hk.1.2) (.bool a0_2)) (fun _ hk => hk.1.2) (.bool a0_3)) (fun _ hk => hk.1.2) (.int .i64 a0_4)) (fun _ hk => hk.2) (.int .i64 a0_0)) (fun _ hk => hk.2) (.slice Ao12 t119.length co12)) (fun _ hk => hk.2) (.bool a0_2)) (fun _ hk => hk.2) (.bool a0_3)) (fun _ hk => hk.2) (.int .i64 a0_4)) (fun _ hk => trivial), by repeat (first | (with_reducible first | exact HB.out | apply below_alloc | apply pw_below_drewN | apply below_drew1 | refine below_set ?_ GE116.out | refine below_set ?_ GE117.out | refine below_set ?_ GE118.out) | exact HB.out)⟩
def laws_eqStringS.l0 : Nat → List ByteArray → List ByteArray → Int → Option (Bool)
 | 0, _, _, _ => none
 | k + 1, x0, x1, x5 => if x5 < (x0.length : Int) then (if 0 ≤ x5 then (if x5 < (x1.length : Int) then (if (rdOf ByteArray.empty x0 x5).toList = (rdOf ByteArray.empty x1 x5).toList then (laws_eqStringS.l0 k x0 x1 (wrap64 (x5 + 1))) else (some false)) else (none)) else (none)) else (some true)
def laws_eqStringS.f (k : Nat) (l0 : List ByteArray) (l1 : List ByteArray) : Option (Bool) := if (l0.length : Int) = (l1.length : Int) then (laws_eqStringS.l0 k l0 l1 0) else (some false)
set_option maxHeartbeats 8000000 in
set_option maxRecDepth 100000 in
theorem laws_eqStringS.calls (k : Nat) (A0 : Option Addr) (c0 : Nat) (l0 : List ByteArray) (A1 : Option Addr) (c1 : Nat) (l1 : List ByteArray) (r : Bool) (w : World) (hr0 : Kd.C Kd.string w A0 l0.length l0) (hc0 : l0.length ≤ c0) (hr1 : Kd.C Kd.string w A1 l1.length l1) (hc1 : l1.length ≤ c1) (h : laws_eqStringS.f k l0 l1 = some r) :
 Calls Try.prog 22 #[.slice A0 l0.length c0, .slice A1 l1.length c1] w fun e w' => e = .returned (.bool r) ∧ Drawn0 w w' := by
 have HR0 := Aside0.mk hr0
 have HC0 := Aside0.mk hc0
 clear hr0 hc0
 have HR1 := Aside0.mk hr1
 have HC1 := Aside0.mk hc1
 clear hr1 hc1
 have H : (if (l0.length : Int) = (l1.length : Int) then (laws_eqStringS.l0 k l0 l1 0) else (some false)) = some r := h
 clear h
 by_cases c3 : (l0.length : Int) = (l1.length : Int)
 rotate_left
 · rw [if_neg c3] at H
   have c3b0 : ((l0.length : Int) == (l1.length : Int)) = false := beq_eq_false_iff_ne.mpr c3
   have c3b1 : ((l0.length : Int) != (l1.length : Int)) = true := bne_iff_ne.mpr c3
   have c3b2 : (l0.length == l1.length) = false := by first | simpa using c3 | (simp at c3 ⊢; omega)
   obtain rfl := Option.some.inj H
   go_enter Try.func22, Try.ntmps22
   go_wp2
   repeat (go_quiet (fail); try go_wp2)
   go_ret
   exact ⟨rs_, dr_⟩
 rw [if_pos c3] at H
 have c3b0 : ((l0.length : Int) == (l1.length : Int)) = true := beq_iff_eq.mpr c3
 have c3b1 : ((l0.length : Int) != (l1.length : Int)) = false := bne_eq_false_iff_eq.mpr c3
 have c3b2 : (l0.length == l1.length) = true := by first | simpa using c3 | (simp at c3 ⊢; omega)
 clear c3
 have H' := Aside0.mk H
 clear H
 go_enter Try.func22, Try.ntmps22
 go_wp2
 repeat (go_quiet (fail); try go_wp2)
 go_loopg [5] k (fun kq v5 w' => ∃ (x5_1 : Int), v5 = .int .i64 x5_1 ∧ Aside0 (laws_eqStringS.l0 kq l0 l1 x5_1 = some r) ∧ Aside0 (kq ≤ k) ∧ Drawn0 w w')
 case atStart => exact ⟨(0), rs_, H', ⟨Nat.le_refl _⟩, dr_⟩
 case round =>
  clear H'
  try clear c1
  try clear c2
  try clear p2
  try clear c3
  try clear c3b0
  try clear c3b1
  try clear c3b2
  obtain ⟨x5_1, rfl, HA, HK1, ⟨m1, rfl⟩⟩ := hrel
  cases gk with
  | zero => exact absurd HA.out (by simp [laws_eqStringS.l0])
  | succ k1 =>
   have H := HA.out
   clear HA
   simp only [laws_eqStringS.l0] at H
   by_cases c4 : x5_1 < (l0.length : Int)
   rotate_left
   · rw [if_neg c4] at H
     have c4b0 : decide (x5_1 < (l0.length : Int)) = false := decide_eq_false c4
     clear c4
     obtain rfl := Option.some.inj H
     go_wp2
     repeat (go_quiet (fail); try go_wp2)
     go_ret
     exact ⟨rs_, dr_⟩
   rw [if_pos c4] at H
   have c4b0 : decide (x5_1 < (l0.length : Int)) = true := decide_eq_true c4
   clear c4
   by_cases c5 : 0 ≤ x5_1
   rotate_left
   · exact absurd H (by rw [if_neg c5]; simp)
   rw [if_pos c5] at H
   have c5b0 : decide (0 ≤ x5_1) = true := decide_eq_true c5
   clear c5
   by_cases c6 : x5_1 < (l1.length : Int)
   rotate_left
   · exact absurd H (by rw [if_neg c6]; simp)
   rw [if_pos c6] at H
   have c6b0 : decide (x5_1 < (l1.length : Int)) = true := decide_eq_true c6
   clear c6
   by_cases c7 : (rdOf ByteArray.empty l0 x5_1).toList = (rdOf ByteArray.empty l1 x5_1).toList
   rotate_left
   · rw [if_neg c7] at H
     have c7b0 : ((rdOf ByteArray.empty l0 x5_1).toList == (rdOf ByteArray.empty l1 x5_1).toList) = false := beq_eq_false_iff_ne.mpr c7
     have c7b1 : ((rdOf ByteArray.empty l0 x5_1).toList != (rdOf ByteArray.empty l1 x5_1).toList) = true := bne_iff_ne.mpr c7
     obtain rfl := Option.some.inj H
     have p129 : 0 ≤ (x5_1 : Int) := of_decide_eq_true as_
     have q129 : x5_1 < (l0.length : Int) := of_decide_eq_true as_
     obtain ⟨ad129, e129, hx129_0⟩ := Kd.at_string HR0.out x5_1 p129 q129
     cases e129
     replace p129 := eq_true p129
     replace q129 := eq_true q129
     have p130 : 0 ≤ (x5_1 : Int) := of_decide_eq_true as_
     have q130 : x5_1 < (l1.length : Int) := of_decide_eq_true as_
     obtain ⟨ad130, e130, hx130_0⟩ := Kd.at_string HR1.out x5_1 p130 q130
     cases e130
     replace p130 := eq_true p130
     replace q130 := eq_true q130
     go_wp2
     repeat (go_quiet (fail); try go_wp2)
     go_ret
     exact ⟨rs_, dr_⟩
   rw [if_pos c7] at H
   have c7b0 : ((rdOf ByteArray.empty l0 x5_1).toList == (rdOf ByteArray.empty l1 x5_1).toList) = true := beq_iff_eq.mpr c7
   have c7b1 : ((rdOf ByteArray.empty l0 x5_1).toList != (rdOf ByteArray.empty l1 x5_1).toList) = false := bne_eq_false_iff_eq.mpr c7
   clear c7
   have H' := Aside0.mk H
   clear H
   have p129 : 0 ≤ (x5_1 : Int) := of_decide_eq_true as_
   have q129 : x5_1 < (l0.length : Int) := of_decide_eq_true as_
   obtain ⟨ad129, e129, hx129_0⟩ := Kd.at_string HR0.out x5_1 p129 q129
   cases e129
   replace p129 := eq_true p129
   replace q129 := eq_true q129
   have p130 : 0 ≤ (x5_1 : Int) := of_decide_eq_true as_
   have q130 : x5_1 < (l1.length : Int) := of_decide_eq_true as_
   obtain ⟨ad130, e130, hx130_0⟩ := Kd.at_string HR1.out x5_1 p130 q130
   cases e130
   replace p130 := eq_true p130
   replace q130 := eq_true q130
   go_wp2
   repeat (go_quiet (fail); try go_wp2)
   go_roundg k1
   case measure => have := HK1.out; omega
   case rel => exact ⟨(wrap64 (x5_1 + 1)), rs_, H', ⟨by have := HK1.out; omega⟩, dr_⟩
def laws_eqLock.f (k : Nat) (a0_0 : Int) (l0_1 : List ByteArray) (a0_2 : Bool) (a0_3 : Bool) (a0_4 : Int) (a1_0 : Int) (l1_1 : List ByteArray) (a1_2 : Bool) (a1_3 : Bool) (a1_4 : Int) : Option (Bool) := if a0_0 = a1_0 then ((laws_eqStringS.f k l0_1 l1_1).bind fun t133 => (if t133 = true then (if (a0_2 != a1_2) = true then (some false) else (if (a0_3 != a1_3) = true then (some false) else (if a0_4 = a1_4 then (some true) else (some false)))) else (some false))) else (some false)
set_option maxHeartbeats 8000000 in
set_option maxRecDepth 100000 in
theorem laws_eqLock.calls (k : Nat) (a0_0 : Int) (A0_1 : Option Addr) (c0_1 : Nat) (l0_1 : List ByteArray) (a0_2 : Bool) (a0_3 : Bool) (a0_4 : Int) (a1_0 : Int) (A1_1 : Option Addr) (c1_1 : Nat) (l1_1 : List ByteArray) (a1_2 : Bool) (a1_3 : Bool) (a1_4 : Int) (r : Bool) (w : World) (hr0_1 : Kd.C Kd.string w A0_1 l0_1.length l0_1) (hc0_1 : l0_1.length ≤ c0_1) (hr1_1 : Kd.C Kd.string w A1_1 l1_1.length l1_1) (hc1_1 : l1_1.length ≤ c1_1) (h : laws_eqLock.f k a0_0 l0_1 a0_2 a0_3 a0_4 a1_0 l1_1 a1_2 a1_3 a1_4 = some r) :
 Calls Try.prog 21 #[.agg #[.int .i64 a0_0, .slice A0_1 l0_1.length c0_1, .bool a0_2, .bool a0_3, .int .i64 a0_4], .agg #[.int .i64 a1_0, .slice A1_1 l1_1.length c1_1, .bool a1_2, .bool a1_3, .int .i64 a1_4]] w fun e w' => e = .returned (.bool r) ∧ Below w.heap.size w w' := by
 have hu28 := Try.underlying28
 have HR0_1 := Aside0.mk hr0_1
 have HC0_1 := Aside0.mk hc0_1
 clear hr0_1 hc0_1
 have HR1_1 := Aside0.mk hr1_1
 have HC1_1 := Aside0.mk hc1_1
 clear hr1_1 hc1_1
 have HB := A_ (Below.refl w.heap.size w)
 have H : (if a0_0 = a1_0 then ((laws_eqStringS.f k l0_1 l1_1).bind fun t133 => (if t133 = true then (if (a0_2 != a1_2) = true then (some false) else (if (a0_3 != a1_3) = true then (some false) else (if a0_4 = a1_4 then (some true) else (some false)))) else (some false))) else (some false)) = some r := h
 clear h
 by_cases c3 : a0_0 = a1_0
 rotate_left
 · rw [if_neg c3] at H
   have c3b0 : (a0_0 == a1_0) = false := beq_eq_false_iff_ne.mpr c3
   have c3b1 : (a0_0 != a1_0) = true := bne_iff_ne.mpr c3
   obtain rfl := Option.some.inj H
   go_enter Try.func21, Try.ntmps21
   go_wp2_with (first | ((with_reducible refine gate_dst (N := 2) rfl ?_); refine bx_ (N := 2) (cs := #[.int .i64 a0_0, .slice A0_1 l0_1.length c0_1, .bool a0_2, .bool a0_3, .int .i64 a0_4]) (t := 28) ?_; intro gb131 hg w34 hbox hb; have BK131 := A_ (hbox); have GW131 := A_ (ge_ hg bB_ : w.heap.size ≤ gb131); have GE131 := A_ (ge_ hg bB_ : w.heap.size ≤ gb131); replace HB := A_ (below_step bB_ hb); clear hb hbox hg) | ((with_reducible refine gate_dst (N := 3) rfl ?_); refine bx_ (N := 3) (cs := #[.int .i64 a1_0, .slice A1_1 l1_1.length c1_1, .bool a1_2, .bool a1_3, .int .i64 a1_4]) (t := 28) ?_; intro gb132 hg w35 hbox hb; have BK132 := A_ (hbox); have GW132 := A_ (ge_ hg (bG_ GE131.out) : w.heap.size ≤ gb132); have GE132 := A_ (ge_ hg (bG_ GE131.out) : w.heap.size ≤ gb132); replace HB := A_ (below_step (bG_ GE131.out) hb); have NB131_132 := A_ (gm_ hg BK131.out); have NB132_131 := A_ (gn_ hg BK131.out); replace BK131 := A_ (bw_ BK131.out hb); clear hb hbox hg; have hnb36 := NB131_132.out; have hnc36 := NB132_131.out; obtain ⟨hcz37_0, hcz37_1, hcz37_2, hcz37_3, hcz37_4, hfz37_0, hfz37_1, hfz37_2, hfz37_3, hfz37_4⟩ := cz5_ BK131.out; obtain ⟨hcz38_0, hcz38_1, hcz38_2, hcz38_3, hcz38_4, hfz38_0, hfz38_1, hfz38_2, hfz38_3, hfz38_4⟩ := cz5_ BK132.out))
   go_ret
   exact ⟨rr_, by repeat (first | (with_reducible first | exact HB.out | apply below_alloc | apply pw_below_drewN | apply below_drew1 | refine below_set ?_ GE131.out | refine below_set ?_ GE132.out) | exact HB.out)⟩
 rw [if_pos c3] at H
 have c3b0 : (a0_0 == a1_0) = true := beq_iff_eq.mpr c3
 have c3b1 : (a0_0 != a1_0) = false := bne_eq_false_iff_eq.mpr c3
 clear c3
 obtain ⟨t133, A4, H⟩ := bo_ H
 (try dsimp only at H)
 by_cases c5 : t133 = true
 · subst c5
   rw [if_pos rfl] at H
   by_cases c6 : (a0_2 != a1_2) = true
   · rw [if_pos c6] at H
     have c6b0 : (a0_2 != a1_2) = true := c6
     (try (have c6b1 : decide (a0_2 = a1_2) = false := by simpa using c6))
     (try (have c6b2 : (a0_2 == a1_2) = false := by simpa using c6))
     (try (have c6b3 : ¬ (a0_2 = a1_2) := by simpa using c6))
     clear c6
     obtain rfl := Option.some.inj H
     go_enter Try.func21, Try.ntmps21
     go_wp2_with (first | ((with_reducible refine gate_dst (N := 2) rfl ?_); refine bx_ (N := 2) (cs := #[.int .i64 a0_0, .slice A0_1 l0_1.length c0_1, .bool a0_2, .bool a0_3, .int .i64 a0_4]) (t := 28) ?_; intro gb131 hg w7 hbox hb; have BK131 := A_ (hbox); have GW131 := A_ (ge_ hg bB_ : w.heap.size ≤ gb131); have GE131 := A_ (ge_ hg bB_ : w.heap.size ≤ gb131); replace HB := A_ (below_step bB_ hb); clear hb hbox hg) | ((with_reducible refine gate_dst (N := 3) rfl ?_); refine bx_ (N := 3) (cs := #[.int .i64 a1_0, .slice A1_1 l1_1.length c1_1, .bool a1_2, .bool a1_3, .int .i64 a1_4]) (t := 28) ?_; intro gb132 hg w8 hbox hb; have BK132 := A_ (hbox); have GW132 := A_ (ge_ hg (bG_ GE131.out) : w.heap.size ≤ gb132); have GE132 := A_ (ge_ hg (bG_ GE131.out) : w.heap.size ≤ gb132); replace HB := A_ (below_step (bG_ GE131.out) hb); have NB131_132 := A_ (gm_ hg BK131.out); have NB132_131 := A_ (gn_ hg BK131.out); replace BK131 := A_ (bw_ BK131.out hb); clear hb hbox hg; have hnb9 := NB131_132.out; have hnc9 := NB132_131.out; obtain ⟨hcz10_0, hcz10_1, hcz10_2, hcz10_3, hcz10_4, hfz10_0, hfz10_1, hfz10_2, hfz10_3, hfz10_4⟩ := cz5_ BK131.out; obtain ⟨hcz11_0, hcz11_1, hcz11_2, hcz11_3, hcz11_4, hfz11_0, hfz11_1, hfz11_2, hfz11_3, hfz11_4⟩ := cz5_ BK132.out) | ((with_reducible refine gate_callee (f := 22) rfl ?_); refine gL_ (some 14) Try.func22 #[.slice A0_1 l0_1.length c0_1, .slice A1_1 l1_1.length c1_1] ?_; (with_reducible refine (laws_eqStringS.calls k _ _ l0_1 _ _ l1_1 true _ ?s1 ?s2 ?s3 ?s4 A4.out).mono ?_); (case s1 => exact cC_ (Kd.C_below HR0_1.out HB.out)); (case s2 => exact HC0_1.out); (case s3 => exact cC_ (Kd.C_below HR1_1.out HB.out)); (case s4 => exact HC1_1.out); rintro e w' ⟨rfl, ⟨nd, rfl⟩⟩; refine ⟨_, rfl, ?_⟩))
     go_ret
     exact ⟨rr_, by repeat (first | (with_reducible first | exact HB.out | apply below_alloc | apply pw_below_drewN | apply below_drew1 | refine below_set ?_ GE131.out | refine below_set ?_ GE132.out) | exact HB.out)⟩
   rw [if_neg c6] at H
   have c6b0 : (a0_2 != a1_2) = false := by simpa using c6
   (try (have c6b1 : decide (a0_2 = a1_2) = true := by simpa using c6))
   (try (have c6b2 : (a0_2 == a1_2) = true := by simpa using c6))
   clear c6
   by_cases c12 : (a0_3 != a1_3) = true
   · rw [if_pos c12] at H
     have c12b0 : (a0_3 != a1_3) = true := c12
     (try (have c12b1 : decide (a0_3 = a1_3) = false := by simpa using c12))
     (try (have c12b2 : (a0_3 == a1_3) = false := by simpa using c12))
     (try (have c12b3 : ¬ (a0_3 = a1_3) := by simpa using c12))
     clear c12
     obtain rfl := Option.some.inj H
     go_enter Try.func21, Try.ntmps21
     go_wp2_with (first | ((with_reducible refine gate_dst (N := 2) rfl ?_); refine bx_ (N := 2) (cs := #[.int .i64 a0_0, .slice A0_1 l0_1.length c0_1, .bool a0_2, .bool a0_3, .int .i64 a0_4]) (t := 28) ?_; intro gb131 hg w13 hbox hb; have BK131 := A_ (hbox); have GW131 := A_ (ge_ hg bB_ : w.heap.size ≤ gb131); have GE131 := A_ (ge_ hg bB_ : w.heap.size ≤ gb131); replace HB := A_ (below_step bB_ hb); clear hb hbox hg) | ((with_reducible refine gate_dst (N := 3) rfl ?_); refine bx_ (N := 3) (cs := #[.int .i64 a1_0, .slice A1_1 l1_1.length c1_1, .bool a1_2, .bool a1_3, .int .i64 a1_4]) (t := 28) ?_; intro gb132 hg w14 hbox hb; have BK132 := A_ (hbox); have GW132 := A_ (ge_ hg (bG_ GE131.out) : w.heap.size ≤ gb132); have GE132 := A_ (ge_ hg (bG_ GE131.out) : w.heap.size ≤ gb132); replace HB := A_ (below_step (bG_ GE131.out) hb); have NB131_132 := A_ (gm_ hg BK131.out); have NB132_131 := A_ (gn_ hg BK131.out); replace BK131 := A_ (bw_ BK131.out hb); clear hb hbox hg; have hnb15 := NB131_132.out; have hnc15 := NB132_131.out; obtain ⟨hcz16_0, hcz16_1, hcz16_2, hcz16_3, hcz16_4, hfz16_0, hfz16_1, hfz16_2, hfz16_3, hfz16_4⟩ := cz5_ BK131.out; obtain ⟨hcz17_0, hcz17_1, hcz17_2, hcz17_3, hcz17_4, hfz17_0, hfz17_1, hfz17_2, hfz17_3, hfz17_4⟩ := cz5_ BK132.out) | ((with_reducible refine gate_callee (f := 22) rfl ?_); refine gL_ (some 14) Try.func22 #[.slice A0_1 l0_1.length c0_1, .slice A1_1 l1_1.length c1_1] ?_; (with_reducible refine (laws_eqStringS.calls k _ _ l0_1 _ _ l1_1 true _ ?s1 ?s2 ?s3 ?s4 A4.out).mono ?_); (case s1 => exact cC_ (Kd.C_below HR0_1.out HB.out)); (case s2 => exact HC0_1.out); (case s3 => exact cC_ (Kd.C_below HR1_1.out HB.out)); (case s4 => exact HC1_1.out); rintro e w' ⟨rfl, ⟨nd, rfl⟩⟩; refine ⟨_, rfl, ?_⟩))
     go_ret
     exact ⟨rr_, by repeat (first | (with_reducible first | exact HB.out | apply below_alloc | apply pw_below_drewN | apply below_drew1 | refine below_set ?_ GE131.out | refine below_set ?_ GE132.out) | exact HB.out)⟩
   rw [if_neg c12] at H
   have c12b0 : (a0_3 != a1_3) = false := by simpa using c12
   (try (have c12b1 : decide (a0_3 = a1_3) = true := by simpa using c12))
   (try (have c12b2 : (a0_3 == a1_3) = true := by simpa using c12))
   clear c12
   by_cases c18 : a0_4 = a1_4
   rotate_left
   · rw [if_neg c18] at H
     have c18b0 : (a0_4 == a1_4) = false := beq_eq_false_iff_ne.mpr c18
     have c18b1 : (a0_4 != a1_4) = true := bne_iff_ne.mpr c18
     obtain rfl := Option.some.inj H
     go_enter Try.func21, Try.ntmps21
     go_wp2_with (first | ((with_reducible refine gate_dst (N := 2) rfl ?_); refine bx_ (N := 2) (cs := #[.int .i64 a0_0, .slice A0_1 l0_1.length c0_1, .bool a0_2, .bool a0_3, .int .i64 a0_4]) (t := 28) ?_; intro gb131 hg w24 hbox hb; have BK131 := A_ (hbox); have GW131 := A_ (ge_ hg bB_ : w.heap.size ≤ gb131); have GE131 := A_ (ge_ hg bB_ : w.heap.size ≤ gb131); replace HB := A_ (below_step bB_ hb); clear hb hbox hg) | ((with_reducible refine gate_dst (N := 3) rfl ?_); refine bx_ (N := 3) (cs := #[.int .i64 a1_0, .slice A1_1 l1_1.length c1_1, .bool a1_2, .bool a1_3, .int .i64 a1_4]) (t := 28) ?_; intro gb132 hg w25 hbox hb; have BK132 := A_ (hbox); have GW132 := A_ (ge_ hg (bG_ GE131.out) : w.heap.size ≤ gb132); have GE132 := A_ (ge_ hg (bG_ GE131.out) : w.heap.size ≤ gb132); replace HB := A_ (below_step (bG_ GE131.out) hb); have NB131_132 := A_ (gm_ hg BK131.out); have NB132_131 := A_ (gn_ hg BK131.out); replace BK131 := A_ (bw_ BK131.out hb); clear hb hbox hg; have hnb26 := NB131_132.out; have hnc26 := NB132_131.out; obtain ⟨hcz27_0, hcz27_1, hcz27_2, hcz27_3, hcz27_4, hfz27_0, hfz27_1, hfz27_2, hfz27_3, hfz27_4⟩ := cz5_ BK131.out; obtain ⟨hcz28_0, hcz28_1, hcz28_2, hcz28_3, hcz28_4, hfz28_0, hfz28_1, hfz28_2, hfz28_3, hfz28_4⟩ := cz5_ BK132.out) | ((with_reducible refine gate_callee (f := 22) rfl ?_); refine gL_ (some 14) Try.func22 #[.slice A0_1 l0_1.length c0_1, .slice A1_1 l1_1.length c1_1] ?_; (with_reducible refine (laws_eqStringS.calls k _ _ l0_1 _ _ l1_1 true _ ?s1 ?s2 ?s3 ?s4 A4.out).mono ?_); (case s1 => exact cC_ (Kd.C_below HR0_1.out HB.out)); (case s2 => exact HC0_1.out); (case s3 => exact cC_ (Kd.C_below HR1_1.out HB.out)); (case s4 => exact HC1_1.out); rintro e w' ⟨rfl, ⟨nd, rfl⟩⟩; refine ⟨_, rfl, ?_⟩))
     go_ret
     exact ⟨rr_, by repeat (first | (with_reducible first | exact HB.out | apply below_alloc | apply pw_below_drewN | apply below_drew1 | refine below_set ?_ GE131.out | refine below_set ?_ GE132.out) | exact HB.out)⟩
   rw [if_pos c18] at H
   have c18b0 : (a0_4 == a1_4) = true := beq_iff_eq.mpr c18
   have c18b1 : (a0_4 != a1_4) = false := bne_eq_false_iff_eq.mpr c18
   clear c18
   obtain rfl := Option.some.inj H
   go_enter Try.func21, Try.ntmps21
   go_wp2_with (first | ((with_reducible refine gate_dst (N := 2) rfl ?_); refine bx_ (N := 2) (cs := #[.int .i64 a0_0, .slice A0_1 l0_1.length c0_1, .bool a0_2, .bool a0_3, .int .i64 a0_4]) (t := 28) ?_; intro gb131 hg w19 hbox hb; have BK131 := A_ (hbox); have GW131 := A_ (ge_ hg bB_ : w.heap.size ≤ gb131); have GE131 := A_ (ge_ hg bB_ : w.heap.size ≤ gb131); replace HB := A_ (below_step bB_ hb); clear hb hbox hg) | ((with_reducible refine gate_dst (N := 3) rfl ?_); refine bx_ (N := 3) (cs := #[.int .i64 a1_0, .slice A1_1 l1_1.length c1_1, .bool a1_2, .bool a1_3, .int .i64 a1_4]) (t := 28) ?_; intro gb132 hg w20 hbox hb; have BK132 := A_ (hbox); have GW132 := A_ (ge_ hg (bG_ GE131.out) : w.heap.size ≤ gb132); have GE132 := A_ (ge_ hg (bG_ GE131.out) : w.heap.size ≤ gb132); replace HB := A_ (below_step (bG_ GE131.out) hb); have NB131_132 := A_ (gm_ hg BK131.out); have NB132_131 := A_ (gn_ hg BK131.out); replace BK131 := A_ (bw_ BK131.out hb); clear hb hbox hg; have hnb21 := NB131_132.out; have hnc21 := NB132_131.out; obtain ⟨hcz22_0, hcz22_1, hcz22_2, hcz22_3, hcz22_4, hfz22_0, hfz22_1, hfz22_2, hfz22_3, hfz22_4⟩ := cz5_ BK131.out; obtain ⟨hcz23_0, hcz23_1, hcz23_2, hcz23_3, hcz23_4, hfz23_0, hfz23_1, hfz23_2, hfz23_3, hfz23_4⟩ := cz5_ BK132.out) | ((with_reducible refine gate_callee (f := 22) rfl ?_); refine gL_ (some 14) Try.func22 #[.slice A0_1 l0_1.length c0_1, .slice A1_1 l1_1.length c1_1] ?_; (with_reducible refine (laws_eqStringS.calls k _ _ l0_1 _ _ l1_1 true _ ?s1 ?s2 ?s3 ?s4 A4.out).mono ?_); (case s1 => exact cC_ (Kd.C_below HR0_1.out HB.out)); (case s2 => exact HC0_1.out); (case s3 => exact cC_ (Kd.C_below HR1_1.out HB.out)); (case s4 => exact HC1_1.out); rintro e w' ⟨rfl, ⟨nd, rfl⟩⟩; refine ⟨_, rfl, ?_⟩))
   go_ret
   exact ⟨rr_, by repeat (first | (with_reducible first | exact HB.out | apply below_alloc | apply pw_below_drewN | apply below_drew1 | refine below_set ?_ GE131.out | refine below_set ?_ GE132.out) | exact HB.out)⟩
 · replace c5 := Bool.eq_false_iff.mpr c5
   subst c5
   rw [if_neg nf_] at H
   obtain rfl := Option.some.inj H
   go_enter Try.func21, Try.ntmps21
   go_wp2_with (first | ((with_reducible refine gate_dst (N := 2) rfl ?_); refine bx_ (N := 2) (cs := #[.int .i64 a0_0, .slice A0_1 l0_1.length c0_1, .bool a0_2, .bool a0_3, .int .i64 a0_4]) (t := 28) ?_; intro gb131 hg w29 hbox hb; have BK131 := A_ (hbox); have GW131 := A_ (ge_ hg bB_ : w.heap.size ≤ gb131); have GE131 := A_ (ge_ hg bB_ : w.heap.size ≤ gb131); replace HB := A_ (below_step bB_ hb); clear hb hbox hg) | ((with_reducible refine gate_dst (N := 3) rfl ?_); refine bx_ (N := 3) (cs := #[.int .i64 a1_0, .slice A1_1 l1_1.length c1_1, .bool a1_2, .bool a1_3, .int .i64 a1_4]) (t := 28) ?_; intro gb132 hg w30 hbox hb; have BK132 := A_ (hbox); have GW132 := A_ (ge_ hg (bG_ GE131.out) : w.heap.size ≤ gb132); have GE132 := A_ (ge_ hg (bG_ GE131.out) : w.heap.size ≤ gb132); replace HB := A_ (below_step (bG_ GE131.out) hb); have NB131_132 := A_ (gm_ hg BK131.out); have NB132_131 := A_ (gn_ hg BK131.out); replace BK131 := A_ (bw_ BK131.out hb); clear hb hbox hg; have hnb31 := NB131_132.out; have hnc31 := NB132_131.out; obtain ⟨hcz32_0, hcz32_1, hcz32_2, hcz32_3, hcz32_4, hfz32_0, hfz32_1, hfz32_2, hfz32_3, hfz32_4⟩ := cz5_ BK131.out; obtain ⟨hcz33_0, hcz33_1, hcz33_2, hcz33_3, hcz33_4, hfz33_0, hfz33_1, hfz33_2, hfz33_3, hfz33_4⟩ := cz5_ BK132.out) | ((with_reducible refine gate_callee (f := 22) rfl ?_); refine gL_ (some 14) Try.func22 #[.slice A0_1 l0_1.length c0_1, .slice A1_1 l1_1.length c1_1] ?_; (with_reducible refine (laws_eqStringS.calls k _ _ l0_1 _ _ l1_1 false _ ?s1 ?s2 ?s3 ?s4 A4.out).mono ?_); (case s1 => exact cC_ (Kd.C_below HR0_1.out HB.out)); (case s2 => exact HC0_1.out); (case s3 => exact cC_ (Kd.C_below HR1_1.out HB.out)); (case s4 => exact HC1_1.out); rintro e w' ⟨rfl, ⟨nd, rfl⟩⟩; refine ⟨_, rfl, ?_⟩))
   go_ret
   exact ⟨rr_, by repeat (first | (with_reducible first | exact HB.out | apply below_alloc | apply pw_below_drewN | apply below_drew1 | refine below_set ?_ GE131.out | refine below_set ?_ GE132.out) | exact HB.out)⟩
def laws_szLockS.l0 : Nat → List (S24) → Int → Int → Option (Int)
 | 0, _, _, _ => none
 | k + 1, x0, x1, x5 => if x5 < (x0.length : Int) then (if 0 ≤ x5 then ((laws_szLock.f k ((rd_T24 x0 x5).f0) ((rd_T24 x0 x5).f1) ((rd_T24 x0 x5).f2) ((rd_T24 x0 x5).f3) ((rd_T24 x0 x5).f4) x1).bind fun t237 => (if t237 < 0 then (some (-1)) else (laws_szLockS.l0 k x0 t237 (wrap64 (x5 + 1))))) else (none)) else (some x1)
def laws_szLockS.f (k : Nat) (l0 : List (S24)) (a1 : Int) : Option (Int) := if (wrap64 (a1 - (l0.length : Int))) < 0 then (some (-1)) else (laws_szLockS.l0 k l0 (wrap64 (a1 - (l0.length : Int))) 0)
set_option maxHeartbeats 8000000 in
set_option maxRecDepth 100000 in
theorem laws_szLockS.calls (k : Nat) (A0 : Option Addr) (c0 : Nat) (l0 : List (S24)) (a1 : Int) (r : Int) (w : World) (hr0 : Kd.C k24 w A0 l0.length l0) (hc0 : l0.length ≤ c0) (h : laws_szLockS.f k l0 a1 = some r) :
 Calls Try.prog 25 #[.slice A0 l0.length c0, .int .i64 a1] w fun e w' => e = .returned (.int .i64 r) ∧ Below w.heap.size w w' := by
 have hu24 := Try.underlying24
 have HR0 := Aside0.mk hr0
 have HC0 := Aside0.mk hc0
 clear hr0 hc0
 have HB := A_ (Below.refl w.heap.size w)
 have H : (if (wrap64 (a1 - (l0.length : Int))) < 0 then (some (-1)) else (laws_szLockS.l0 k l0 (wrap64 (a1 - (l0.length : Int))) 0)) = some r := h
 clear h
 by_cases c3 : (wrap64 (a1 - (l0.length : Int))) < 0
 · rw [if_pos c3] at H
   have c3b0 : decide ((wrap64 (a1 - (l0.length : Int))) < 0) = true := decide_eq_true c3
   clear c3
   obtain rfl := Option.some.inj H
   go_enter Try.func25, Try.ntmps25
   go_wp2
   go_ret
   exact ⟨rr_, bB_⟩
 rw [if_neg c3] at H
 have c3b0 : decide ((wrap64 (a1 - (l0.length : Int))) < 0) = false := decide_eq_false c3
 clear c3
 have H' := Aside0.mk H
 clear H
 go_enter Try.func25, Try.ntmps25
 go_wp2
 go_loopg [1, 5] k (fun kq v1 v5 w' => ∃ (x1_1 : Int) (x5_1 : Int), v1 = .int .i64 x1_1 ∧ v5 = .int .i64 x5_1 ∧ Aside0 (laws_szLockS.l0 kq l0 x1_1 x5_1 = some r) ∧ Aside0 (kq ≤ k) ∧ Aside0 (Below w.heap.size w w'))
 case atStart => exact ⟨(wrap64 (a1 - (l0.length : Int))), (0), rs_, rs_, H', ⟨Nat.le_refl _⟩, ⟨bB_⟩⟩
 case round =>
  clear H'
  try clear c2
  try clear p2
  try clear c3
  try clear c3b0
  obtain ⟨x1_1, x5_1, rfl, rfl, HA, HK1, HB⟩ := hrel
  cases gk with
  | zero => exact absurd HA.out (by simp [laws_szLockS.l0])
  | succ k1 =>
   have H := HA.out
   clear HA
   simp only [laws_szLockS.l0] at H
   by_cases c4 : x5_1 < (l0.length : Int)
   rotate_left
   · rw [if_neg c4] at H
     have c4b0 : decide (x5_1 < (l0.length : Int)) = false := decide_eq_false c4
     clear c4
     obtain rfl := Option.some.inj H
     go_wp2
     go_ret
     exact ⟨rr_, bB_⟩
   rw [if_pos c4] at H
   have c4b0 : decide (x5_1 < (l0.length : Int)) = true := decide_eq_true c4
   clear c4
   by_cases c5 : 0 ≤ x5_1
   rotate_left
   · exact absurd H (by rw [if_neg c5]; simp)
   rw [if_pos c5] at H
   have c5b0 : decide (0 ≤ x5_1) = true := decide_eq_true c5
   clear c5
   obtain ⟨t237, A6, H⟩ := bo_ H
   (try dsimp only at H)
   by_cases c7 : t237 < 0
   · rw [if_pos c7] at H
     have c7b0 : decide (t237 < 0) = true := decide_eq_true c7
     clear c7
     obtain rfl := Option.some.inj H
     have p236 : 0 ≤ (x5_1 : Int) := of_decide_eq_true as_
     have q236 : x5_1 < (l0.length : Int) := of_decide_eq_true as_
     obtain ⟨ad236, A236_1, c236_1, e236, hx236_0, hx236_1, hx236_2, hx236_3, hx236_4, hl236_1, hi236_1⟩ := at_T24 HR0.out x5_1 p236 q236
     cases e236
     replace hx236_0 := bc_ HB.out hx236_0
     replace hx236_1 := bc_ HB.out hx236_1
     replace hx236_2 := bc_ HB.out hx236_2
     replace hx236_3 := bc_ HB.out hx236_3
     replace hx236_4 := bc_ HB.out hx236_4
     have HR236_1 := Aside0.mk hi236_1
     have HC236_1 := Aside0.mk hl236_1
     clear hi236_1 hl236_1
     replace p236 := eq_true p236
     replace q236 := eq_true q236
     go_wp2_with (first | ((with_reducible refine gate_callee (f := 15) rfl ?_); refine gL_ (some 23) Try.func15 #[.agg #[.int .i64 ((rd_T24 l0 x5_1).f0), .slice A236_1 ((rd_T24 l0 x5_1).f1).length c236_1, .bool ((rd_T24 l0 x5_1).f2), .bool ((rd_T24 l0 x5_1).f3), .int .i64 ((rd_T24 l0 x5_1).f4)], .int .i64 x1_1] ?_; (with_reducible refine (laws_szLock.calls k1 ((rd_T24 l0 x5_1).f0) _ _ ((rd_T24 l0 x5_1).f1) ((rd_T24 l0 x5_1).f2) ((rd_T24 l0 x5_1).f3) ((rd_T24 l0 x5_1).f4) x1_1 t237 _ ?s1 ?s2 A6.out).mono ?_); (case s1 => exact cC_ (Kd.C_below HR236_1.out HB.out)); (case s2 => exact HC236_1.out); rintro e w8 ⟨rfl, hb⟩; refine ⟨_, rfl, ?_⟩; replace HB := A_ (below_step bB_ hb); (try clear hb)))
     go_ret
     exact ⟨rr_, bB_⟩
   rw [if_neg c7] at H
   have c7b0 : decide (t237 < 0) = false := decide_eq_false c7
   clear c7
   have H' := Aside0.mk H
   clear H
   have p236 : 0 ≤ (x5_1 : Int) := of_decide_eq_true as_
   have q236 : x5_1 < (l0.length : Int) := of_decide_eq_true as_
   obtain ⟨ad236, A236_1, c236_1, e236, hx236_0, hx236_1, hx236_2, hx236_3, hx236_4, hl236_1, hi236_1⟩ := at_T24 HR0.out x5_1 p236 q236
   cases e236
   replace hx236_0 := bc_ HB.out hx236_0
   replace hx236_1 := bc_ HB.out hx236_1
   replace hx236_2 := bc_ HB.out hx236_2
   replace hx236_3 := bc_ HB.out hx236_3
   replace hx236_4 := bc_ HB.out hx236_4
   have HR236_1 := Aside0.mk hi236_1
   have HC236_1 := Aside0.mk hl236_1
   clear hi236_1 hl236_1
   replace p236 := eq_true p236
   replace q236 := eq_true q236
   go_wp2_with (first | ((with_reducible refine gate_callee (f := 15) rfl ?_); refine gL_ (some 23) Try.func15 #[.agg #[.int .i64 ((rd_T24 l0 x5_1).f0), .slice A236_1 ((rd_T24 l0 x5_1).f1).length c236_1, .bool ((rd_T24 l0 x5_1).f2), .bool ((rd_T24 l0 x5_1).f3), .int .i64 ((rd_T24 l0 x5_1).f4)], .int .i64 x1_1] ?_; (with_reducible refine (laws_szLock.calls k1 ((rd_T24 l0 x5_1).f0) _ _ ((rd_T24 l0 x5_1).f1) ((rd_T24 l0 x5_1).f2) ((rd_T24 l0 x5_1).f3) ((rd_T24 l0 x5_1).f4) x1_1 t237 _ ?s1 ?s2 A6.out).mono ?_); (case s1 => exact cC_ (Kd.C_below HR236_1.out HB.out)); (case s2 => exact HC236_1.out); rintro e w9 ⟨rfl, hb⟩; refine ⟨_, rfl, ?_⟩; replace HB := A_ (below_step bB_ hb); (try clear hb)))
   go_roundg k1
   case measure => have := HK1.out; omega
   case rel => exact ⟨(t237), (wrap64 (x5_1 + 1)), rs_, rs_, H', ⟨by have := HK1.out; omega⟩, ⟨bB_⟩⟩
end Go.Proofs.Ytiddgglidkbipaa.Q
