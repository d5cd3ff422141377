-- PRINTED by print.py (a twelfth state) out of the translation. Not trusted: Lean checks it.
import Derived.Test.YtiddgglidkbipaaVFnAloneG12
import Derived.Test.YtiddgglidkbipaaVFnAloneG22
import Derived.Test.YtiddgglidkbipaaVFnAloneG23
namespace Go.Proofs.Ytiddgglidkbipaa.Q
open Go.RowKit Go.Proofs.YtiddgglidkbipaaW.PrintWords Go.Proofs.YtiddgglidkbipaaW.PrintLast Go.Proofs.YtiddgglidkbipaaW.PrintMore
attribute [local go_sem] max2_int min2_int max_two min_two max_three min_three max_four min_four   -- for this text's walks alone
set_option linter.unusedVariables false
set_option linter.unusedSimpArgs false
mutual
def spec_LocksOk.l0 : Nat → List (S28) → Int → Option (Bool)
 | 0, _, _ => none
 | k + 1, x0, x3 => if x3 < (x0.length : Int) then (if 0 ≤ x3 then ((spec_LockOk.f k ((rd_T28 x0 x3).f0) ((rd_T28 x0 x3).f1) ((rd_T28 x0 x3).f2) ((rd_T28 x0 x3).f3) ((rd_T28 x0 x3).f4)).bind fun t524 => (if t524 = true then (spec_LocksOk.l1 k x0 x3 0) else (some false))) else (none)) else (some (decide ((x0.length : Int) ≤ 6)))
def spec_LocksOk.l1 : Nat → List (S28) → Int → Int → Option (Bool)
 | 0, _, _, _ => none
 | k + 1, x0, x3, x4 => if x4 < x3 then (if 0 ≤ x4 then (if x4 < (x0.length : Int) then (if 0 ≤ x3 then (if x3 < (x0.length : Int) then (if ((rd_T28 x0 x4).f0) = ((rd_T28 x0 x3).f0) then (some false) else ((spec_LockClash.f k ((rd_T28 x0 x4).f0) ((rd_T28 x0 x4).f1) ((rd_T28 x0 x4).f2) ((rd_T28 x0 x4).f3) ((rd_T28 x0 x4).f4) ((rd_T28 x0 x3).f0) ((rd_T28 x0 x3).f1) ((rd_T28 x0 x3).f2) ((rd_T28 x0 x3).f3) ((rd_T28 x0 x3).f4)).bind fun t529 => (if t529 = true then (some false) else (spec_LocksOk.l1 k x0 x3 (wrap64 (x4 + 1)))))) else (none)) else (none)) else (none)) else (none)) else (spec_LocksOk.l0 k x0 (wrap64 (x3 + 1)))
end
def spec_LocksOk.f (k : Nat) (l0 : List (S28)) : Option (Bool) := spec_LocksOk.l0 k l0 0
def spec_LocksOk.T9 : Bool × List (List Nat × List Nat) := (true, [([], []), ([], []), ([0, 1], [0, 1]), ([2], [2]), ([3], [3]), ([], []), ([], []), ([5, 6], [5, 6]), ([7], [7]), ([8], [8]), ([4, 9], [4, 9]), ([10], [10]), ([11], [11]), ([11], [11]), ([12, 13, 11], [11, 12, 13]), ([14, 11], [11, 14]), ([11], [11]), ([11], [11]), ([16, 17, 11], [11, 16, 17]), ([18, 11], [11, 18]), ([15, 19, 11, 11], [11, 15, 19]), ([11, 20], [11, 20])])
def spec_LocksOk.B9 : List Nat := [0, 0, 3, 7, 15, 0, 0, 96, 224, 480, 1023, 2047, 4095, 4095, 16383, 32767, 4095, 4095, 200703, 462847, 1048575, 2097151]
theorem spec_LocksOk.tab9 : rtab .any (opsOf Try.f45 9) = spec_LocksOk.T9 := by kernel_rfl
theorem spec_LocksOk.bits9 : waitsOk spec_LocksOk.T9.2 spec_LocksOk.B9 = true := by kernel_rfl
set_option maxHeartbeats 8000000 in
set_option maxRecDepth 100000 in
theorem spec_LocksOk.calls (k : Nat) (A0 : Option Addr) (c0 : Nat) (l0 : List (S28)) (r : Bool) (w : World) (hr0 : Kd.C k28 w A0 l0.length l0) (hc0 : l0.length ≤ c0) (h : spec_LocksOk.f k l0 = some r) :
 Calls Try.prog 45 #[.slice A0 l0.length c0] w fun e w' => e = .returned (.bool r) ∧ Below w.heap.size w w' := by
 have hu28 := Try.underlying28
 have HR0 := Aside0.mk hr0
 have HC0 := Aside0.mk hc0
 clear hr0 hc0
 have HB := Aside0.mk (Below.refl w.heap.size w)
 have H : (spec_LocksOk.l0 k l0 0) = some r := h
 clear h
 have H' := Aside0.mk H
 clear H
 go_enter Try.func45, Try.ntmps45
 go_wp2
 go_loopg [3] k (fun kq v3 w' => ∃ (x3_1 : Int), v3 = .int .i64 x3_1 ∧ Aside0 (spec_LocksOk.l0 kq l0 x3_1 = some r) ∧ Aside0 (kq ≤ k) ∧ Aside0 (Below w.heap.size w w'))
 case atStart => exact ⟨(0), rs_, H', ⟨Nat.le_refl _⟩, ⟨bB_⟩⟩
 case round =>
  clear H'
  obtain ⟨x3_1, rfl, HA, HK1, HB⟩ := hrel
  cases gk with
  | zero => exact absurd HA.out (by simp [spec_LocksOk.l0])
  | succ k1 =>
   have H := HA.out
   clear HA
   simp only [spec_LocksOk.l0] at H
   by_cases c2 : x3_1 < (l0.length : Int)
   rotate_left
   · rw [if_neg c2] at H
     have c2b0 : decide (x3_1 < (l0.length : Int)) = false := decide_eq_false c2
     clear c2
     obtain rfl := Option.some.inj H
     go_wp2
     go_ret
     exact ⟨rr_, bB_⟩
   rw [if_pos c2] at H
   have c2b0 : decide (x3_1 < (l0.length : Int)) = true := decide_eq_true c2
   clear c2
   by_cases c3 : 0 ≤ x3_1
   rotate_left
   · exact absurd H (by rw [if_neg c3]; simp)
   rw [if_pos c3] at H
   have c3b0 : decide (0 ≤ x3_1) = true := decide_eq_true c3
   clear c3
   obtain ⟨t524, A4, H⟩ := bo_ H
   (try dsimp only at H)
   by_cases c5 : t524 = true
   · subst c5
     rw [if_pos rfl] at H
     have H' := Aside0.mk H
     clear H
     have p523 : 0 ≤ (x3_1 : Int) := of_decide_eq_true as_
     have q523 : x3_1 < (l0.length : Int) := of_decide_eq_true as_
     obtain ⟨ad523, A523_1, c523_1, e523, hx523_0, hx523_1, hx523_2, hx523_3, hx523_4, hl523_1, hi523_1⟩ := at_T28 HR0.out x3_1 p523 q523
     cases e523
     replace hx523_0 := bc_ HB.out hx523_0
     replace hx523_1 := bc_ HB.out hx523_1
     replace hx523_2 := bc_ HB.out hx523_2
     replace hx523_3 := bc_ HB.out hx523_3
     replace hx523_4 := bc_ HB.out hx523_4
     have HR523_1 := Aside0.mk hi523_1
     have HC523_1 := Aside0.mk hl523_1
     clear hi523_1 hl523_1
     replace p523 := eq_true p523
     replace q523 := eq_true q523
     go_wp2_with (first | ((with_reducible refine gate_callee (f := 43) rfl ?_); refine gL_ (some 15) Try.func43 #[.agg #[.int .i64 ((rd_T28 l0 x3_1).f0), .slice A523_1 ((rd_T28 l0 x3_1).f1).length c523_1, .bool ((rd_T28 l0 x3_1).f2), .bool ((rd_T28 l0 x3_1).f3), .int .i64 ((rd_T28 l0 x3_1).f4)]] ?_; (with_reducible refine (spec_LockOk.calls k1 ((rd_T28 l0 x3_1).f0) _ _ ((rd_T28 l0 x3_1).f1) ((rd_T28 l0 x3_1).f2) ((rd_T28 l0 x3_1).f3) ((rd_T28 l0 x3_1).f4) true _ ?side1 ?side2 A4.out).mono ?_); (case side1 => exact cC_ (Kd.C_below HR523_1.out HB.out)); (case side2 => exact HC523_1.out); rintro e w6 ⟨rfl, hb⟩; refine ⟨_, rfl, ?_⟩; have n0_ := Aside0.mk (below_step bB_ hb); clear HB; have HB := n0_; clear n0_; (try clear hb)))
     go_loopg [4] k1 (fun kq v4 w' => ∃ (x4_2 : Int), v4 = .int .i64 x4_2 ∧ Aside0 (spec_LocksOk.l1 kq l0 x3_1 x4_2 = some r) ∧ Aside0 (kq ≤ k1) ∧ Aside0 (Below w.heap.size w w'))
     case atStart => exact ⟨(0), rs_, H', ⟨Nat.le_refl _⟩, ⟨bB_⟩⟩
     case round =>
      clear H'
      try clear c2
      try clear c2b0
      try clear p2
      try clear c3
      try clear c3b0
      try clear c4
      try clear c5
      try clear p5
      try clear q5
      try clear hx5
      try clear hx523_0
      try clear hx523_1
      try clear hx523_2
      try clear hx523_3
      try clear hx523_4
      try clear p523
      try clear q523
      obtain ⟨x4_2, rfl, HA, HK2, HB⟩ := hrel
      cases gk with
      | zero => exact absurd HA.out (by simp [spec_LocksOk.l1])
      | succ k2 =>
       have H := HA.out
       clear HA
       simp only [spec_LocksOk.l1] at H
       by_cases c7 : x4_2 < x3_1
       rotate_left
       · rw [if_neg c7] at H
         have c7b0 : decide (x4_2 < x3_1) = false := decide_eq_false c7
         clear c7
         have H' := Aside0.mk H
         clear H
         go_wp2
         go_roundg k2
         case measure => have := HK1.out; have := HK2.out; omega
         case rel => exact ⟨(wrap64 (x3_1 + 1)), rs_, H', ⟨by have := HK1.out; have := HK2.out; omega⟩, ⟨bB_⟩⟩
       rw [if_pos c7] at H
       have c7b0 : decide (x4_2 < x3_1) = true := decide_eq_true c7
       clear c7
       by_cases c8 : 0 ≤ x4_2
       rotate_left
       · exact absurd H (by rw [if_neg c8]; simp)
       rw [if_pos c8] at H
       have c8b0 : decide (0 ≤ x4_2) = true := decide_eq_true c8
       clear c8
       by_cases c9 : x4_2 < (l0.length : Int)
       rotate_left
       · exact absurd H (by rw [if_neg c9]; simp)
       rw [if_pos c9] at H
       have c9b0 : decide (x4_2 < (l0.length : Int)) = true := decide_eq_true c9
       clear c9
       by_cases c10 : 0 ≤ x3_1
       rotate_left
       · exact absurd H (by rw [if_neg c10]; simp)
       rw [if_pos c10] at H
       have c10b0 : decide (0 ≤ x3_1) = true := decide_eq_true c10
       clear c10
       by_cases c11 : x3_1 < (l0.length : Int)
       rotate_left
       · exact absurd H (by rw [if_neg c11]; simp)
       rw [if_pos c11] at H
       have c11b0 : decide (x3_1 < (l0.length : Int)) = true := decide_eq_true c11
       clear c11
       by_cases c12 : ((rd_T28 l0 x4_2).f0) = ((rd_T28 l0 x3_1).f0)
       · rw [if_pos c12] at H
         have c12b0 : (((rd_T28 l0 x4_2).f0) == ((rd_T28 l0 x3_1).f0)) = true := beq_iff_eq.mpr c12
         have c12b1 : (((rd_T28 l0 x4_2).f0) != ((rd_T28 l0 x3_1).f0)) = false := bne_eq_false_iff_eq.mpr c12
         clear c12
         obtain rfl := Option.some.inj H
         try go_wp2
         have n0_ := Aside0.mk (below_drew1 HB.out)
         clear HB
         have HB := n0_
         clear n0_
         have p525 : 0 ≤ (x4_2 : Int) := of_decide_eq_true as_
         have q525 : x4_2 < (l0.length : Int) := of_decide_eq_true as_
         obtain ⟨ad525, A525_1, c525_1, e525, hx525_0, hx525_1, hx525_2, hx525_3, hx525_4, hl525_1, hi525_1⟩ := at_T28 HR0.out x4_2 p525 q525
         have hw525_4 := hx525_4
         have hw525_3 := hx525_3
         have hw525_2 := hx525_2
         have hw525_1 := hx525_1
         have hw525_0 := hx525_0
         obtain rfl : ad523 = ad525 := (by injection e525)
         replace hx525_0 := bc_ HB.out hx525_0
         replace hx525_1 := bc_ HB.out hx525_1
         replace hx525_2 := bc_ HB.out hx525_2
         replace hx525_3 := bc_ HB.out hx525_3
         replace hx525_4 := bc_ HB.out hx525_4
         have HR525_1 := Aside0.mk hi525_1
         have HC525_1 := Aside0.mk hl525_1
         clear hi525_1 hl525_1
         replace p525 := eq_true p525
         replace q525 := eq_true q525
         have p526 : 0 ≤ (x3_1 : Int) := of_decide_eq_true as_
         have q526 : x3_1 < (l0.length : Int) := of_decide_eq_true as_
         obtain ⟨ad526, A526_1, c526_1, e526, hx526_0, hx526_1, hx526_2, hx526_3, hx526_4, hl526_1, hi526_1⟩ := at_T28 HR0.out x3_1 p526 q526
         have hw526_4 := hx526_4
         have hw526_3 := hx526_3
         have hw526_2 := hx526_2
         have hw526_1 := hx526_1
         have hw526_0 := hx526_0
         obtain rfl : ad523 = ad526 := (by injection e526)
         replace hx526_0 := bc_ HB.out hx526_0
         replace hx526_1 := bc_ HB.out hx526_1
         replace hx526_2 := bc_ HB.out hx526_2
         replace hx526_3 := bc_ HB.out hx526_3
         replace hx526_4 := bc_ HB.out hx526_4
         have HR526_1 := Aside0.mk hi526_1
         have HC526_1 := Aside0.mk hl526_1
         clear hi526_1 hl526_1
         replace p526 := eq_true p526
         replace q526 := eq_true q526
         refine start_ (n := 22) (S := fun w' => w'.cell? (ad523.add ((x4_2).toNat * 5)) = some (.int .i64 ((rd_T28 l0 x4_2).f0)) ∧ w'.cell? ⟨(ad523.add ((x4_2).toNat * 5)).block, (ad523.add ((x4_2).toNat * 5)).off + 1, none⟩ = some (.slice A525_1 ((rd_T28 l0 x4_2).f1).length c525_1) ∧ w'.cell? ⟨(ad523.add ((x4_2).toNat * 5)).block, (ad523.add ((x4_2).toNat * 5)).off + 2, none⟩ = some (.bool ((rd_T28 l0 x4_2).f2)) ∧ w'.cell? ⟨(ad523.add ((x4_2).toNat * 5)).block, (ad523.add ((x4_2).toNat * 5)).off + 3, none⟩ = some (.bool ((rd_T28 l0 x4_2).f3)) ∧ w'.cell? ⟨(ad523.add ((x4_2).toNat * 5)).block, (ad523.add ((x4_2).toNat * 5)).off + 4, none⟩ = some (.int .i64 ((rd_T28 l0 x4_2).f4)) ∧ w'.cell? (ad523.add ((x3_1).toNat * 5)) = some (.int .i64 ((rd_T28 l0 x3_1).f0)) ∧ w'.cell? ⟨(ad523.add ((x3_1).toNat * 5)).block, (ad523.add ((x3_1).toNat * 5)).off + 1, none⟩ = some (.slice A526_1 ((rd_T28 l0 x3_1).f1).length c526_1) ∧ w'.cell? ⟨(ad523.add ((x3_1).toNat * 5)).block, (ad523.add ((x3_1).toNat * 5)).off + 2, none⟩ = some (.bool ((rd_T28 l0 x3_1).f2)) ∧ w'.cell? ⟨(ad523.add ((x3_1).toNat * 5)).block, (ad523.add ((x3_1).toNat * 5)).off + 3, none⟩ = some (.bool ((rd_T28 l0 x3_1).f3)) ∧ w'.cell? ⟨(ad523.add ((x3_1).toNat * 5)).block, (ad523.add ((x3_1).toNat * 5)).off + 4, none⟩ = some (.int .i64 ((rd_T28 l0 x3_1).f4))) (ds := []) #[false, false, false, false, false, false, false, false, false, false, false, false, false, false, false, false, false, false, false, false, false, false] (by kernel_rfl) rfl rfl ⟨((HB.out.cell (World.block_lt_of_cell? w _ hw525_0)).trans hw525_0), ((HB.out.cell (World.block_lt_of_cell? w _ hw525_1)).trans hw525_1), ((HB.out.cell (World.block_lt_of_cell? w _ hw525_2)).trans hw525_2), ((HB.out.cell (World.block_lt_of_cell? w _ hw525_3)).trans hw525_3), ((HB.out.cell (World.block_lt_of_cell? w _ hw525_4)).trans hw525_4), ((HB.out.cell (World.block_lt_of_cell? w _ hw526_0)).trans hw526_0), ((HB.out.cell (World.block_lt_of_cell? w _ hw526_1)).trans hw526_1), ((HB.out.cell (World.block_lt_of_cell? w _ hw526_2)).trans hw526_2), ((HB.out.cell (World.block_lt_of_cell? w _ hw526_3)).trans hw526_3), ((HB.out.cell (World.block_lt_of_cell? w _ hw526_4)).trans hw526_4)⟩ (fun hHeld => ?_); refine with_tabW spec_LocksOk.tab9 spec_LocksOk.bits9 (fun HT_ HW_ => ?_)
         generalize wr.drew = w13 at HB HR525_1 HR526_1 hx525_0 hx525_1 hx525_2 hx525_3 hx525_4 hx526_0 hx526_1 hx526_2 hx526_3 hx526_4 hHeld ⊢
         refine pu_ (i := 0) (N := some 22) ?_
         refine pu_ (i := 1) (N := some 23) ?_
         refine pu_ (i := 2) (N := some 24) ?_
         refine pu_ (i := 3) (N := some 25) ?_
         refine pu_ (i := 5) (N := some 27) ?_
         refine pu_ (i := 6) (N := some 28) ?_
         refine pu_ (i := 7) (N := some 29) ?_
         refine pu_ (i := 8) (N := some 30) ?_
         refine tk_ (i := 4) (N := some 26) hHeld ?_
         refine tk_ (i := 9) (N := some 31) hHeld ?_
         refine pu_ (i := 10) (N := some 32) ?_
         refine pu_ (i := 11) (N := some 33) ?_
         refine pn_ (i := 12) (N := some 34) ?_
         refine pn_ (i := 13) (N := some 35) ?_
         refine pn_ (i := 14) (N := some 36) ?_
         refine pn_ (i := 15) (N := some 37) ?_
         refine pn_ (i := 16) (N := some 38) ?_
         refine pn_ (i := 17) (N := some 39) ?_
         refine pn_ (i := 18) (N := some 40) ?_
         refine pn_ (i := 19) (N := some 41) ?_
         refine pn_ (i := 20) (N := some 42) ?_
         refine pu_ (i := 21) (N := some 43) ?_
         refine done_ (done_of HT_.out (by kernel_rfl)) ?_
         (try clear hHeld)
         try go_wp2
         go_ret
         exact ⟨rr_, bB_⟩
       rw [if_neg c12] at H
       have c12b0 : (((rd_T28 l0 x4_2).f0) == ((rd_T28 l0 x3_1).f0)) = false := beq_eq_false_iff_ne.mpr c12
       have c12b1 : (((rd_T28 l0 x4_2).f0) != ((rd_T28 l0 x3_1).f0)) = true := bne_iff_ne.mpr c12
       obtain ⟨t529, A14, H⟩ := bo_ H
       (try dsimp only at H)
       by_cases c15 : t529 = true
       · subst c15
         rw [if_pos rfl] at H
         obtain rfl := Option.some.inj H
         try go_wp2
         have n0_ := Aside0.mk (below_drew1 HB.out)
         clear HB
         have HB := n0_
         clear n0_
         have p525 : 0 ≤ (x4_2 : Int) := of_decide_eq_true as_
         have q525 : x4_2 < (l0.length : Int) := of_decide_eq_true as_
         obtain ⟨ad525, A525_1, c525_1, e525, hx525_0, hx525_1, hx525_2, hx525_3, hx525_4, hl525_1, hi525_1⟩ := at_T28 HR0.out x4_2 p525 q525
         have hw525_4 := hx525_4
         have hw525_3 := hx525_3
         have hw525_2 := hx525_2
         have hw525_1 := hx525_1
         have hw525_0 := hx525_0
         obtain rfl : ad523 = ad525 := (by injection e525)
         replace hx525_0 := bc_ HB.out hx525_0
         replace hx525_1 := bc_ HB.out hx525_1
         replace hx525_2 := bc_ HB.out hx525_2
         replace hx525_3 := bc_ HB.out hx525_3
         replace hx525_4 := bc_ HB.out hx525_4
         have HR525_1 := Aside0.mk hi525_1
         have HC525_1 := Aside0.mk hl525_1
         clear hi525_1 hl525_1
         replace p525 := eq_true p525
         replace q525 := eq_true q525
         have p526 : 0 ≤ (x3_1 : Int) := of_decide_eq_true as_
         have q526 : x3_1 < (l0.length : Int) := of_decide_eq_true as_
         obtain ⟨ad526, A526_1, c526_1, e526, hx526_0, hx526_1, hx526_2, hx526_3, hx526_4, hl526_1, hi526_1⟩ := at_T28 HR0.out x3_1 p526 q526
         have hw526_4 := hx526_4
         have hw526_3 := hx526_3
         have hw526_2 := hx526_2
         have hw526_1 := hx526_1
         have hw526_0 := hx526_0
         obtain rfl : ad523 = ad526 := (by injection e526)
         replace hx526_0 := bc_ HB.out hx526_0
         replace hx526_1 := bc_ HB.out hx526_1
         replace hx526_2 := bc_ HB.out hx526_2
         replace hx526_3 := bc_ HB.out hx526_3
         replace hx526_4 := bc_ HB.out hx526_4
         have HR526_1 := Aside0.mk hi526_1
         have HC526_1 := Aside0.mk hl526_1
         clear hi526_1 hl526_1
         replace p526 := eq_true p526
         replace q526 := eq_true q526
         have p527 : 0 ≤ (x4_2 : Int) := of_decide_eq_true as_
         have q527 : x4_2 < (l0.length : Int) := of_decide_eq_true as_
         obtain ⟨ad527, A527_1, c527_1, e527, hx527_0, hx527_1, hx527_2, hx527_3, hx527_4, hl527_1, hi527_1⟩ := at_T28 HR0.out x4_2 p527 q527
         have hw527_4 := hx527_4
         have hw527_3 := hx527_3
         have hw527_2 := hx527_2
         have hw527_1 := hx527_1
         have hw527_0 := hx527_0
         obtain rfl : ad523 = ad527 := (by injection e527)
         replace hx527_0 := bc_ HB.out hx527_0
         replace hx527_1 := bc_ HB.out hx527_1
         replace hx527_2 := bc_ HB.out hx527_2
         replace hx527_3 := bc_ HB.out hx527_3
         replace hx527_4 := bc_ HB.out hx527_4
         have HR527_1 := Aside0.mk hi527_1
         have HC527_1 := Aside0.mk hl527_1
         clear hi527_1 hl527_1
         replace p527 := eq_true p527
         replace q527 := eq_true q527
         have ea_ := Option.some.inj (hx525_1.symm.trans hx527_1)
         injection ea_ with ea_ en_ ec_
         subst ea_
         subst ec_
         clear en_
         have p528 : 0 ≤ (x3_1 : Int) := of_decide_eq_true as_
         have q528 : x3_1 < (l0.length : Int) := of_decide_eq_true as_
         obtain ⟨ad528, A528_1, c528_1, e528, hx528_0, hx528_1, hx528_2, hx528_3, hx528_4, hl528_1, hi528_1⟩ := at_T28 HR0.out x3_1 p528 q528
         have hw528_4 := hx528_4
         have hw528_3 := hx528_3
         have hw528_2 := hx528_2
         have hw528_1 := hx528_1
         have hw528_0 := hx528_0
         obtain rfl : ad523 = ad528 := (by injection e528)
         replace hx528_0 := bc_ HB.out hx528_0
         replace hx528_1 := bc_ HB.out hx528_1
         replace hx528_2 := bc_ HB.out hx528_2
         replace hx528_3 := bc_ HB.out hx528_3
         replace hx528_4 := bc_ HB.out hx528_4
         have HR528_1 := Aside0.mk hi528_1
         have HC528_1 := Aside0.mk hl528_1
         clear hi528_1 hl528_1
         replace p528 := eq_true p528
         replace q528 := eq_true q528
         have ea_ := Option.some.inj (hx526_1.symm.trans hx528_1)
         injection ea_ with ea_ en_ ec_
         subst ea_
         subst ec_
         clear en_
         refine start_ (n := 22) (S := fun w' => w'.cell? (ad523.add ((x4_2).toNat * 5)) = some (.int .i64 ((rd_T28 l0 x4_2).f0)) ∧ w'.cell? ⟨(ad523.add ((x4_2).toNat * 5)).block, (ad523.add ((x4_2).toNat * 5)).off + 1, none⟩ = some (.slice A525_1 ((rd_T28 l0 x4_2).f1).length c525_1) ∧ w'.cell? ⟨(ad523.add ((x4_2).toNat * 5)).block, (ad523.add ((x4_2).toNat * 5)).off + 2, none⟩ = some (.bool ((rd_T28 l0 x4_2).f2)) ∧ w'.cell? ⟨(ad523.add ((x4_2).toNat * 5)).block, (ad523.add ((x4_2).toNat * 5)).off + 3, none⟩ = some (.bool ((rd_T28 l0 x4_2).f3)) ∧ w'.cell? ⟨(ad523.add ((x4_2).toNat * 5)).block, (ad523.add ((x4_2).toNat * 5)).off + 4, none⟩ = some (.int .i64 ((rd_T28 l0 x4_2).f4)) ∧ w'.cell? (ad523.add ((x3_1).toNat * 5)) = some (.int .i64 ((rd_T28 l0 x3_1).f0)) ∧ w'.cell? ⟨(ad523.add ((x3_1).toNat * 5)).block, (ad523.add ((x3_1).toNat * 5)).off + 1, none⟩ = some (.slice A526_1 ((rd_T28 l0 x3_1).f1).length c526_1) ∧ w'.cell? ⟨(ad523.add ((x3_1).toNat * 5)).block, (ad523.add ((x3_1).toNat * 5)).off + 2, none⟩ = some (.bool ((rd_T28 l0 x3_1).f2)) ∧ w'.cell? ⟨(ad523.add ((x3_1).toNat * 5)).block, (ad523.add ((x3_1).toNat * 5)).off + 3, none⟩ = some (.bool ((rd_T28 l0 x3_1).f3)) ∧ w'.cell? ⟨(ad523.add ((x3_1).toNat * 5)).block, (ad523.add ((x3_1).toNat * 5)).off + 4, none⟩ = some (.int .i64 ((rd_T28 l0 x3_1).f4)) ∧ w'.cell? (ad523.add ((x4_2).toNat * 5)) = some (.int .i64 ((rd_T28 l0 x4_2).f0)) ∧ w'.cell? ⟨(ad523.add ((x4_2).toNat * 5)).block, (ad523.add ((x4_2).toNat * 5)).off + 1, none⟩ = some (.slice A525_1 ((rd_T28 l0 x4_2).f1).length c525_1) ∧ w'.cell? ⟨(ad523.add ((x4_2).toNat * 5)).block, (ad523.add ((x4_2).toNat * 5)).off + 2, none⟩ = some (.bool ((rd_T28 l0 x4_2).f2)) ∧ w'.cell? ⟨(ad523.add ((x4_2).toNat * 5)).block, (ad523.add ((x4_2).toNat * 5)).off + 3, none⟩ = some (.bool ((rd_T28 l0 x4_2).f3)) ∧ w'.cell? ⟨(ad523.add ((x4_2).toNat * 5)).block, (ad523.add ((x4_2).toNat * 5)).off + 4, none⟩ = some (.int .i64 ((rd_T28 l0 x4_2).f4)) ∧ w'.cell? (ad523.add ((x3_1).toNat * 5)) = some (.int .i64 ((rd_T28 l0 x3_1).f0)) ∧ w'.cell? ⟨(ad523.add ((x3_1).toNat * 5)).block, (ad523.add ((x3_1).toNat * 5)).off + 1, none⟩ = some (.slice A526_1 ((rd_T28 l0 x3_1).f1).length c526_1) ∧ w'.cell? ⟨(ad523.add ((x3_1).toNat * 5)).block, (ad523.add ((x3_1).toNat * 5)).off + 2, none⟩ = some (.bool ((rd_T28 l0 x3_1).f2)) ∧ w'.cell? ⟨(ad523.add ((x3_1).toNat * 5)).block, (ad523.add ((x3_1).toNat * 5)).off + 3, none⟩ = some (.bool ((rd_T28 l0 x3_1).f3)) ∧ w'.cell? ⟨(ad523.add ((x3_1).toNat * 5)).block, (ad523.add ((x3_1).toNat * 5)).off + 4, none⟩ = some (.int .i64 ((rd_T28 l0 x3_1).f4))) (ds := []) #[false, false, false, false, false, false, false, false, false, false, false, false, false, false, false, false, false, false, false, false, false, false] (by kernel_rfl) rfl rfl ⟨((HB.out.cell (World.block_lt_of_cell? w _ hw525_0)).trans hw525_0), ((HB.out.cell (World.block_lt_of_cell? w _ hw525_1)).trans hw525_1), ((HB.out.cell (World.block_lt_of_cell? w _ hw525_2)).trans hw525_2), ((HB.out.cell (World.block_lt_of_cell? w _ hw525_3)).trans hw525_3), ((HB.out.cell (World.block_lt_of_cell? w _ hw525_4)).trans hw525_4), ((HB.out.cell (World.block_lt_of_cell? w _ hw526_0)).trans hw526_0), ((HB.out.cell (World.block_lt_of_cell? w _ hw526_1)).trans hw526_1), ((HB.out.cell (World.block_lt_of_cell? w _ hw526_2)).trans hw526_2), ((HB.out.cell (World.block_lt_of_cell? w _ hw526_3)).trans hw526_3), ((HB.out.cell (World.block_lt_of_cell? w _ hw526_4)).trans hw526_4), ((HB.out.cell (World.block_lt_of_cell? w _ hw527_0)).trans hw527_0), ((HB.out.cell (World.block_lt_of_cell? w _ hw527_1)).trans hw527_1), ((HB.out.cell (World.block_lt_of_cell? w _ hw527_2)).trans hw527_2), ((HB.out.cell (World.block_lt_of_cell? w _ hw527_3)).trans hw527_3), ((HB.out.cell (World.block_lt_of_cell? w _ hw527_4)).trans hw527_4), ((HB.out.cell (World.block_lt_of_cell? w _ hw528_0)).trans hw528_0), ((HB.out.cell (World.block_lt_of_cell? w _ hw528_1)).trans hw528_1), ((HB.out.cell (World.block_lt_of_cell? w _ hw528_2)).trans hw528_2), ((HB.out.cell (World.block_lt_of_cell? w _ hw528_3)).trans hw528_3), ((HB.out.cell (World.block_lt_of_cell? w _ hw528_4)).trans hw528_4)⟩ (fun hHeld => ?_); refine with_tabW spec_LocksOk.tab9 spec_LocksOk.bits9 (fun HT_ HW_ => ?_)
         generalize wr.drew = w16 at HB HR525_1 HR526_1 HR527_1 HR528_1 hx525_0 hx525_1 hx525_2 hx525_3 hx525_4 hx526_0 hx526_1 hx526_2 hx526_3 hx526_4 hx527_0 hx527_1 hx527_2 hx527_3 hx527_4 hx528_0 hx528_1 hx528_2 hx528_3 hx528_4 hHeld ⊢
         refine pu_ (i := 0) (N := some 22) ?_
         refine pu_ (i := 1) (N := some 23) ?_
         refine pu_ (i := 2) (N := some 24) ?_
         refine pu_ (i := 3) (N := some 25) ?_
         refine pu_ (i := 5) (N := some 27) ?_
         refine pu_ (i := 6) (N := some 28) ?_
         refine pu_ (i := 7) (N := some 29) ?_
         refine pu_ (i := 8) (N := some 30) ?_
         refine tk_ (i := 4) (N := some 26) hHeld ?_
         refine tk_ (i := 9) (N := some 31) hHeld ?_
         refine pu_ (i := 10) (N := some 32) ?_
         refine pu_ (i := 11) (N := some 33) ?_
         refine pu_ (i := 12) (N := some 34) ?_
         refine pu_ (i := 13) (N := some 35) ?_
         refine pu_ (i := 14) (N := some 36) ?_
         refine pu_ (i := 16) (N := some 38) ?_
         refine pu_ (i := 17) (N := some 39) ?_
         refine pu_ (i := 18) (N := some 40) ?_
         refine tk_ (i := 15) (N := some 37) hHeld ?_
         refine tk_ (i := 19) (N := some 41) hHeld ?_
         refine on_ (i := 20) (N := some 42) (fun K hK => ?_)
         refine goes_ Try.func23 (by kernel_rfl) rfl #[.agg #[.int .i64 ((rd_T28 l0 x4_2).f0), .slice A525_1 ((rd_T28 l0 x4_2).f1).length c525_1, .bool ((rd_T28 l0 x4_2).f2), .bool ((rd_T28 l0 x4_2).f3), .int .i64 ((rd_T28 l0 x4_2).f4)], .agg #[.int .i64 ((rd_T28 l0 x3_1).f0), .slice A526_1 ((rd_T28 l0 x3_1).f1).length c526_1, .bool ((rd_T28 l0 x3_1).f2), .bool ((rd_T28 l0 x3_1).f3), .int .i64 ((rd_T28 l0 x3_1).f4)]] (by rfl) rfl rfl ml_ ?_
         with_reducible refine (spec_LockClash.calls k2 ((rd_T28 l0 x4_2).f0) _ _ ((rd_T28 l0 x4_2).f1) ((rd_T28 l0 x4_2).f2) ((rd_T28 l0 x4_2).f3) ((rd_T28 l0 x4_2).f4) ((rd_T28 l0 x3_1).f0) _ _ ((rd_T28 l0 x3_1).f1) ((rd_T28 l0 x3_1).f2) ((rd_T28 l0 x3_1).f3) ((rd_T28 l0 x3_1).f4) true _ ?side1 ?side2 ?side3 ?side4 A14.out).mono ?_
         (case side1 => exact cC_ (Kd.C_below HR527_1.out HB.out))
         (case side2 => exact HC527_1.out)
         (case side3 => exact cC_ (Kd.C_below HR528_1.out HB.out))
         (case side4 => exact HC528_1.out)
         rintro e w17 ⟨rfl, hb⟩
         refine ⟨_, rfl, ?_⟩
         have n0_ := Aside0.mk (below_step bB_ hb)
         clear HB
         have HB := n0_
         clear n0_
         (try clear hb)
         (try clear hb2)
         (try clear hk)
         (try clear hi)
         refine hK.out _ _ ⟨((HB.out.cell (World.block_lt_of_cell? w _ hw525_0)).trans hw525_0), ((HB.out.cell (World.block_lt_of_cell? w _ hw525_1)).trans hw525_1), ((HB.out.cell (World.block_lt_of_cell? w _ hw525_2)).trans hw525_2), ((HB.out.cell (World.block_lt_of_cell? w _ hw525_3)).trans hw525_3), ((HB.out.cell (World.block_lt_of_cell? w _ hw525_4)).trans hw525_4), ((HB.out.cell (World.block_lt_of_cell? w _ hw526_0)).trans hw526_0), ((HB.out.cell (World.block_lt_of_cell? w _ hw526_1)).trans hw526_1), ((HB.out.cell (World.block_lt_of_cell? w _ hw526_2)).trans hw526_2), ((HB.out.cell (World.block_lt_of_cell? w _ hw526_3)).trans hw526_3), ((HB.out.cell (World.block_lt_of_cell? w _ hw526_4)).trans hw526_4), ((HB.out.cell (World.block_lt_of_cell? w _ hw527_0)).trans hw527_0), ((HB.out.cell (World.block_lt_of_cell? w _ hw527_1)).trans hw527_1), ((HB.out.cell (World.block_lt_of_cell? w _ hw527_2)).trans hw527_2), ((HB.out.cell (World.block_lt_of_cell? w _ hw527_3)).trans hw527_3), ((HB.out.cell (World.block_lt_of_cell? w _ hw527_4)).trans hw527_4), ((HB.out.cell (World.block_lt_of_cell? w _ hw528_0)).trans hw528_0), ((HB.out.cell (World.block_lt_of_cell? w _ hw528_1)).trans hw528_1), ((HB.out.cell (World.block_lt_of_cell? w _ hw528_2)).trans hw528_2), ((HB.out.cell (World.block_lt_of_cell? w _ hw528_3)).trans hw528_3), ((HB.out.cell (World.block_lt_of_cell? w _ hw528_4)).trans hw528_4)⟩ (fun hHeld => ?_)
         clear hK K
         refine no_ (some 42) ?_
         refine pu_ (i := 21) (N := some 43) ?_
         refine done_ (done_of HT_.out (by kernel_rfl)) ?_
         (try clear hHeld)
         try go_wp2
         go_ret
         exact ⟨rr_, bB_⟩
       · replace c15 := Bool.eq_false_iff.mpr c15
         subst c15
         rw [if_neg (show ¬ (false = true) by decide)] at H
         have H' := Aside0.mk H
         clear H
         try go_wp2
         have n0_ := Aside0.mk (below_drew1 HB.out)
         clear HB
         have HB := n0_
         clear n0_
         have p525 : 0 ≤ (x4_2 : Int) := of_decide_eq_true as_
         have q525 : x4_2 < (l0.length : Int) := of_decide_eq_true as_
         obtain ⟨ad525, A525_1, c525_1, e525, hx525_0, hx525_1, hx525_2, hx525_3, hx525_4, hl525_1, hi525_1⟩ := at_T28 HR0.out x4_2 p525 q525
         have hw525_4 := hx525_4
         have hw525_3 := hx525_3
         have hw525_2 := hx525_2
         have hw525_1 := hx525_1
         have hw525_0 := hx525_0
         obtain rfl : ad523 = ad525 := (by injection e525)
         replace hx525_0 := bc_ HB.out hx525_0
         replace hx525_1 := bc_ HB.out hx525_1
         replace hx525_2 := bc_ HB.out hx525_2
         replace hx525_3 := bc_ HB.out hx525_3
         replace hx525_4 := bc_ HB.out hx525_4
         have HR525_1 := Aside0.mk hi525_1
         have HC525_1 := Aside0.mk hl525_1
         clear hi525_1 hl525_1
         replace p525 := eq_true p525
         replace q525 := eq_true q525
         have p526 : 0 ≤ (x3_1 : Int) := of_decide_eq_true as_
         have q526 : x3_1 < (l0.length : Int) := of_decide_eq_true as_
         obtain ⟨ad526, A526_1, c526_1, e526, hx526_0, hx526_1, hx526_2, hx526_3, hx526_4, hl526_1, hi526_1⟩ := at_T28 HR0.out x3_1 p526 q526
         have hw526_4 := hx526_4
         have hw526_3 := hx526_3
         have hw526_2 := hx526_2
         have hw526_1 := hx526_1
         have hw526_0 := hx526_0
         obtain rfl : ad523 = ad526 := (by injection e526)
         replace hx526_0 := bc_ HB.out hx526_0
         replace hx526_1 := bc_ HB.out hx526_1
         replace hx526_2 := bc_ HB.out hx526_2
         replace hx526_3 := bc_ HB.out hx526_3
         replace hx526_4 := bc_ HB.out hx526_4
         have HR526_1 := Aside0.mk hi526_1
         have HC526_1 := Aside0.mk hl526_1
         clear hi526_1 hl526_1
         replace p526 := eq_true p526
         replace q526 := eq_true q526
         have p527 : 0 ≤ (x4_2 : Int) := of_decide_eq_true as_
         have q527 : x4_2 < (l0.length : Int) := of_decide_eq_true as_
         obtain ⟨ad527, A527_1, c527_1, e527, hx527_0, hx527_1, hx527_2, hx527_3, hx527_4, hl527_1, hi527_1⟩ := at_T28 HR0.out x4_2 p527 q527
         have hw527_4 := hx527_4
         have hw527_3 := hx527_3
         have hw527_2 := hx527_2
         have hw527_1 := hx527_1
         have hw527_0 := hx527_0
         obtain rfl : ad523 = ad527 := (by injection e527)
         replace hx527_0 := bc_ HB.out hx527_0
         replace hx527_1 := bc_ HB.out hx527_1
         replace hx527_2 := bc_ HB.out hx527_2
         replace hx527_3 := bc_ HB.out hx527_3
         replace hx527_4 := bc_ HB.out hx527_4
         have HR527_1 := Aside0.mk hi527_1
         have HC527_1 := Aside0.mk hl527_1
         clear hi527_1 hl527_1
         replace p527 := eq_true p527
         replace q527 := eq_true q527
         have ea_ := Option.some.inj (hx525_1.symm.trans hx527_1)
         injection ea_ with ea_ en_ ec_
         subst ea_
         subst ec_
         clear en_
         have p528 : 0 ≤ (x3_1 : Int) := of_decide_eq_true as_
         have q528 : x3_1 < (l0.length : Int) := of_decide_eq_true as_
         obtain ⟨ad528, A528_1, c528_1, e528, hx528_0, hx528_1, hx528_2, hx528_3, hx528_4, hl528_1, hi528_1⟩ := at_T28 HR0.out x3_1 p528 q528
         have hw528_4 := hx528_4
         have hw528_3 := hx528_3
         have hw528_2 := hx528_2
         have hw528_1 := hx528_1
         have hw528_0 := hx528_0
         obtain rfl : ad523 = ad528 := (by injection e528)
         replace hx528_0 := bc_ HB.out hx528_0
         replace hx528_1 := bc_ HB.out hx528_1
         replace hx528_2 := bc_ HB.out hx528_2
         replace hx528_3 := bc_ HB.out hx528_3
         replace hx528_4 := bc_ HB.out hx528_4
         have HR528_1 := Aside0.mk hi528_1
         have HC528_1 := Aside0.mk hl528_1
         clear hi528_1 hl528_1
         replace p528 := eq_true p528
         replace q528 := eq_true q528
         have ea_ := Option.some.inj (hx526_1.symm.trans hx528_1)
         injection ea_ with ea_ en_ ec_
         subst ea_
         subst ec_
         clear en_
         refine start_ (n := 22) (S := fun w' => w'.cell? (ad523.add ((x4_2).toNat * 5)) = some (.int .i64 ((rd_T28 l0 x4_2).f0)) ∧ w'.cell? ⟨(ad523.add ((x4_2).toNat * 5)).block, (ad523.add ((x4_2).toNat * 5)).off + 1, none⟩ = some (.slice A525_1 ((rd_T28 l0 x4_2).f1).length c525_1) ∧ w'.cell? ⟨(ad523.add ((x4_2).toNat * 5)).block, (ad523.add ((x4_2).toNat * 5)).off + 2, none⟩ = some (.bool ((rd_T28 l0 x4_2).f2)) ∧ w'.cell? ⟨(ad523.add ((x4_2).toNat * 5)).block, (ad523.add ((x4_2).toNat * 5)).off + 3, none⟩ = some (.bool ((rd_T28 l0 x4_2).f3)) ∧ w'.cell? ⟨(ad523.add ((x4_2).toNat * 5)).block, (ad523.add ((x4_2).toNat * 5)).off + 4, none⟩ = some (.int .i64 ((rd_T28 l0 x4_2).f4)) ∧ w'.cell? (ad523.add ((x3_1).toNat * 5)) = some (.int .i64 ((rd_T28 l0 x3_1).f0)) ∧ w'.cell? ⟨(ad523.add ((x3_1).toNat * 5)).block, (ad523.add ((x3_1).toNat * 5)).off + 1, none⟩ = some (.slice A526_1 ((rd_T28 l0 x3_1).f1).length c526_1) ∧ w'.cell? ⟨(ad523.add ((x3_1).toNat * 5)).block, (ad523.add ((x3_1).toNat * 5)).off + 2, none⟩ = some (.bool ((rd_T28 l0 x3_1).f2)) ∧ w'.cell? ⟨(ad523.add ((x3_1).toNat * 5)).block, (ad523.add ((x3_1).toNat * 5)).off + 3, none⟩ = some (.bool ((rd_T28 l0 x3_1).f3)) ∧ w'.cell? ⟨(ad523.add ((x3_1).toNat * 5)).block, (ad523.add ((x3_1).toNat * 5)).off + 4, none⟩ = some (.int .i64 ((rd_T28 l0 x3_1).f4)) ∧ w'.cell? (ad523.add ((x4_2).toNat * 5)) = some (.int .i64 ((rd_T28 l0 x4_2).f0)) ∧ w'.cell? ⟨(ad523.add ((x4_2).toNat * 5)).block, (ad523.add ((x4_2).toNat * 5)).off + 1, none⟩ = some (.slice A525_1 ((rd_T28 l0 x4_2).f1).length c525_1) ∧ w'.cell? ⟨(ad523.add ((x4_2).toNat * 5)).block, (ad523.add ((x4_2).toNat * 5)).off + 2, none⟩ = some (.bool ((rd_T28 l0 x4_2).f2)) ∧ w'.cell? ⟨(ad523.add ((x4_2).toNat * 5)).block, (ad523.add ((x4_2).toNat * 5)).off + 3, none⟩ = some (.bool ((rd_T28 l0 x4_2).f3)) ∧ w'.cell? ⟨(ad523.add ((x4_2).toNat * 5)).block, (ad523.add ((x4_2).toNat * 5)).off + 4, none⟩ = some (.int .i64 ((rd_T28 l0 x4_2).f4)) ∧ w'.cell? (ad523.add ((x3_1).toNat * 5)) = some (.int .i64 ((rd_T28 l0 x3_1).f0)) ∧ w'.cell? ⟨(ad523.add ((x3_1).toNat * 5)).block, (ad523.add ((x3_1).toNat * 5)).off + 1, none⟩ = some (.slice A526_1 ((rd_T28 l0 x3_1).f1).length c526_1) ∧ w'.cell? ⟨(ad523.add ((x3_1).toNat * 5)).block, (ad523.add ((x3_1).toNat * 5)).off + 2, none⟩ = some (.bool ((rd_T28 l0 x3_1).f2)) ∧ w'.cell? ⟨(ad523.add ((x3_1).toNat * 5)).block, (ad523.add ((x3_1).toNat * 5)).off + 3, none⟩ = some (.bool ((rd_T28 l0 x3_1).f3)) ∧ w'.cell? ⟨(ad523.add ((x3_1).toNat * 5)).block, (ad523.add ((x3_1).toNat * 5)).off + 4, none⟩ = some (.int .i64 ((rd_T28 l0 x3_1).f4))) (ds := []) #[false, false, false, false, false, false, false, false, false, false, false, false, false, false, false, false, false, false, false, false, false, false] (by kernel_rfl) rfl rfl ⟨((HB.out.cell (World.block_lt_of_cell? w _ hw525_0)).trans hw525_0), ((HB.out.cell (World.block_lt_of_cell? w _ hw525_1)).trans hw525_1), ((HB.out.cell (World.block_lt_of_cell? w _ hw525_2)).trans hw525_2), ((HB.out.cell (World.block_lt_of_cell? w _ hw525_3)).trans hw525_3), ((HB.out.cell (World.block_lt_of_cell? w _ hw525_4)).trans hw525_4), ((HB.out.cell (World.block_lt_of_cell? w _ hw526_0)).trans hw526_0), ((HB.out.cell (World.block_lt_of_cell? w _ hw526_1)).trans hw526_1), ((HB.out.cell (World.block_lt_of_cell? w _ hw526_2)).trans hw526_2), ((HB.out.cell (World.block_lt_of_cell? w _ hw526_3)).trans hw526_3), ((HB.out.cell (World.block_lt_of_cell? w _ hw526_4)).trans hw526_4), ((HB.out.cell (World.block_lt_of_cell? w _ hw527_0)).trans hw527_0), ((HB.out.cell (World.block_lt_of_cell? w _ hw527_1)).trans hw527_1), ((HB.out.cell (World.block_lt_of_cell? w _ hw527_2)).trans hw527_2), ((HB.out.cell (World.block_lt_of_cell? w _ hw527_3)).trans hw527_3), ((HB.out.cell (World.block_lt_of_cell? w _ hw527_4)).trans hw527_4), ((HB.out.cell (World.block_lt_of_cell? w _ hw528_0)).trans hw528_0), ((HB.out.cell (World.block_lt_of_cell? w _ hw528_1)).trans hw528_1), ((HB.out.cell (World.block_lt_of_cell? w _ hw528_2)).trans hw528_2), ((HB.out.cell (World.block_lt_of_cell? w _ hw528_3)).trans hw528_3), ((HB.out.cell (World.block_lt_of_cell? w _ hw528_4)).trans hw528_4)⟩ (fun hHeld => ?_); refine with_tabW spec_LocksOk.tab9 spec_LocksOk.bits9 (fun HT_ HW_ => ?_)
         generalize wr.drew = w18 at HB HR525_1 HR526_1 HR527_1 HR528_1 hx525_0 hx525_1 hx525_2 hx525_3 hx525_4 hx526_0 hx526_1 hx526_2 hx526_3 hx526_4 hx527_0 hx527_1 hx527_2 hx527_3 hx527_4 hx528_0 hx528_1 hx528_2 hx528_3 hx528_4 hHeld ⊢
         refine pu_ (i := 0) (N := some 22) ?_
         refine pu_ (i := 1) (N := some 23) ?_
         refine pu_ (i := 2) (N := some 24) ?_
         refine pu_ (i := 3) (N := some 25) ?_
         refine pu_ (i := 5) (N := some 27) ?_
         refine pu_ (i := 6) (N := some 28) ?_
         refine pu_ (i := 7) (N := some 29) ?_
         refine pu_ (i := 8) (N := some 30) ?_
         refine tk_ (i := 4) (N := some 26) hHeld ?_
         refine tk_ (i := 9) (N := some 31) hHeld ?_
         refine pu_ (i := 10) (N := some 32) ?_
         refine pu_ (i := 11) (N := some 33) ?_
         refine pu_ (i := 12) (N := some 34) ?_
         refine pu_ (i := 13) (N := some 35) ?_
         refine pu_ (i := 14) (N := some 36) ?_
         refine pu_ (i := 16) (N := some 38) ?_
         refine pu_ (i := 17) (N := some 39) ?_
         refine pu_ (i := 18) (N := some 40) ?_
         refine tk_ (i := 15) (N := some 37) hHeld ?_
         refine tk_ (i := 19) (N := some 41) hHeld ?_
         refine on_ (i := 20) (N := some 42) (fun K hK => ?_)
         refine goes_ Try.func23 (by kernel_rfl) rfl #[.agg #[.int .i64 ((rd_T28 l0 x4_2).f0), .slice A525_1 ((rd_T28 l0 x4_2).f1).length c525_1, .bool ((rd_T28 l0 x4_2).f2), .bool ((rd_T28 l0 x4_2).f3), .int .i64 ((rd_T28 l0 x4_2).f4)], .agg #[.int .i64 ((rd_T28 l0 x3_1).f0), .slice A526_1 ((rd_T28 l0 x3_1).f1).length c526_1, .bool ((rd_T28 l0 x3_1).f2), .bool ((rd_T28 l0 x3_1).f3), .int .i64 ((rd_T28 l0 x3_1).f4)]] (by rfl) rfl rfl ml_ ?_
         with_reducible refine (spec_LockClash.calls k2 ((rd_T28 l0 x4_2).f0) _ _ ((rd_T28 l0 x4_2).f1) ((rd_T28 l0 x4_2).f2) ((rd_T28 l0 x4_2).f3) ((rd_T28 l0 x4_2).f4) ((rd_T28 l0 x3_1).f0) _ _ ((rd_T28 l0 x3_1).f1) ((rd_T28 l0 x3_1).f2) ((rd_T28 l0 x3_1).f3) ((rd_T28 l0 x3_1).f4) false _ ?side1 ?side2 ?side3 ?side4 A14.out).mono ?_
         (case side1 => exact cC_ (Kd.C_below HR527_1.out HB.out))
         (case side2 => exact HC527_1.out)
         (case side3 => exact cC_ (Kd.C_below HR528_1.out HB.out))
         (case side4 => exact HC528_1.out)
         rintro e w19 ⟨rfl, hb⟩
         refine ⟨_, rfl, ?_⟩
         have n0_ := Aside0.mk (below_step bB_ hb)
         clear HB
         have HB := n0_
         clear n0_
         (try clear hb)
         (try clear hb2)
         (try clear hk)
         (try clear hi)
         refine hK.out _ _ ⟨((HB.out.cell (World.block_lt_of_cell? w _ hw525_0)).trans hw525_0), ((HB.out.cell (World.block_lt_of_cell? w _ hw525_1)).trans hw525_1), ((HB.out.cell (World.block_lt_of_cell? w _ hw525_2)).trans hw525_2), ((HB.out.cell (World.block_lt_of_cell? w _ hw525_3)).trans hw525_3), ((HB.out.cell (World.block_lt_of_cell? w _ hw525_4)).trans hw525_4), ((HB.out.cell (World.block_lt_of_cell? w _ hw526_0)).trans hw526_0), ((HB.out.cell (World.block_lt_of_cell? w _ hw526_1)).trans hw526_1), ((HB.out.cell (World.block_lt_of_cell? w _ hw526_2)).trans hw526_2), ((HB.out.cell (World.block_lt_of_cell? w _ hw526_3)).trans hw526_3), ((HB.out.cell (World.block_lt_of_cell? w _ hw526_4)).trans hw526_4), ((HB.out.cell (World.block_lt_of_cell? w _ hw527_0)).trans hw527_0), ((HB.out.cell (World.block_lt_of_cell? w _ hw527_1)).trans hw527_1), ((HB.out.cell (World.block_lt_of_cell? w _ hw527_2)).trans hw527_2), ((HB.out.cell (World.block_lt_of_cell? w _ hw527_3)).trans hw527_3), ((HB.out.cell (World.block_lt_of_cell? w _ hw527_4)).trans hw527_4), ((HB.out.cell (World.block_lt_of_cell? w _ hw528_0)).trans hw528_0), ((HB.out.cell (World.block_lt_of_cell? w _ hw528_1)).trans hw528_1), ((HB.out.cell (World.block_lt_of_cell? w _ hw528_2)).trans hw528_2), ((HB.out.cell (World.block_lt_of_cell? w _ hw528_3)).trans hw528_3), ((HB.out.cell (World.block_lt_of_cell? w _ hw528_4)).trans hw528_4)⟩ (fun hHeld => ?_)
         clear hK K
         refine no_ (some 42) ?_
         refine pu_ (i := 21) (N := some 43) ?_
         refine done_ (done_of HT_.out (by kernel_rfl)) ?_
         (try clear hHeld)
         try go_wp2
         go_roundg k2
         case measure => have := HK1.out; have := HK2.out; omega
         case rel => exact ⟨(wrap64 (x4_2 + 1)), rs_, H', ⟨by have := HK1.out; have := HK2.out; omega⟩, ⟨bB_⟩⟩
   · replace c5 := Bool.eq_false_iff.mpr c5
     subst c5
     rw [if_neg (show ¬ (false = true) by decide)] at H
     obtain rfl := Option.some.inj H
     have p523 : 0 ≤ (x3_1 : Int) := of_decide_eq_true as_
     have q523 : x3_1 < (l0.length : Int) := of_decide_eq_true as_
     obtain ⟨ad523, A523_1, c523_1, e523, hx523_0, hx523_1, hx523_2, hx523_3, hx523_4, hl523_1, hi523_1⟩ := at_T28 HR0.out x3_1 p523 q523
     cases e523
     replace hx523_0 := bc_ HB.out hx523_0
     replace hx523_1 := bc_ HB.out hx523_1
     replace hx523_2 := bc_ HB.out hx523_2
     replace hx523_3 := bc_ HB.out hx523_3
     replace hx523_4 := bc_ HB.out hx523_4
     have HR523_1 := Aside0.mk hi523_1
     have HC523_1 := Aside0.mk hl523_1
     clear hi523_1 hl523_1
     replace p523 := eq_true p523
     replace q523 := eq_true q523
     go_wp2_with (first | ((with_reducible refine gate_callee (f := 43) rfl ?_); refine gL_ (some 15) Try.func43 #[.agg #[.int .i64 ((rd_T28 l0 x3_1).f0), .slice A523_1 ((rd_T28 l0 x3_1).f1).length c523_1, .bool ((rd_T28 l0 x3_1).f2), .bool ((rd_T28 l0 x3_1).f3), .int .i64 ((rd_T28 l0 x3_1).f4)]] ?_; (with_reducible refine (spec_LockOk.calls k1 ((rd_T28 l0 x3_1).f0) _ _ ((rd_T28 l0 x3_1).f1) ((rd_T28 l0 x3_1).f2) ((rd_T28 l0 x3_1).f3) ((rd_T28 l0 x3_1).f4) false _ ?side1 ?side2 A4.out).mono ?_); (case side1 => exact cC_ (Kd.C_below HR523_1.out HB.out)); (case side2 => exact HC523_1.out); rintro e w20 ⟨rfl, hb⟩; refine ⟨_, rfl, ?_⟩; have n0_ := Aside0.mk (below_step bB_ hb); clear HB; have HB := n0_; clear n0_; (try clear hb)))
     go_ret
     exact ⟨rr_, bB_⟩
mutual
def impl_LocksOk.l0 : Nat → List (S28) → List (S28) → Int → Int → Option (Bool)
 | 0, _, _, _, _ => none
 | k + 1, x0, x7, x8, x9 => if x9 < x8 then (if 0 ≤ x9 then (if x9 < (x7.length : Int) then ((impl_LockOk.f k ((rd_T28 x7 x9).f0) ((rd_T28 x7 x9).f1) ((rd_T28 x7 x9).f2) ((rd_T28 x7 x9).f3) ((rd_T28 x7 x9).f4)).bind fun t532 => (if t532 = true then (if x9 ≤ (x0.length : Int) then ((some (x0.take (x9 : Int).toNat : List (S28))).bind fun y533 => (impl_LocksOk.l1 k x0 x7 x8 x9 y533 (y533.length : Int) 0 ((rd_T28 x7 x9).f0) ((rd_T28 x7 x9).f1) ((rd_T28 x7 x9).f2) ((rd_T28 x7 x9).f3) ((rd_T28 x7 x9).f4))) else (none)) else (some false))) else (none)) else (none)) else (some (decide ((x0.length : Int) ≤ 6)))
def impl_LocksOk.l1 : Nat → List (S28) → List (S28) → Int → Int → List (S28) → Int → Int → Int → List ByteArray → Bool → Bool → Int → Option (Bool)
 | 0, _, _, _, _, _, _, _, _, _, _, _, _ => none
 | k + 1, x0, x7, x8, x9, x19, x20, x21, x532000, x532001, x532002, x532003, x532004 => if x21 < x20 then (if 0 ≤ x21 then (if x21 < (x19.length : Int) then (if x532000 = ((rd_T28 x19 x21).f0) then (some false) else ((impl_LockClash.f k x532000 x532001 x532002 x532003 x532004 ((rd_T28 x19 x21).f0) ((rd_T28 x19 x21).f1) ((rd_T28 x19 x21).f2) ((rd_T28 x19 x21).f3) ((rd_T28 x19 x21).f4)).bind fun t539 => (if t539 = true then (some false) else (impl_LocksOk.l1 k x0 x7 x8 x9 x19 x20 (wrap64 (x21 + 1)) x532000 x532001 x532002 x532003 x532004)))) else (none)) else (none)) else (impl_LocksOk.l0 k x0 x7 x8 (wrap64 (x9 + 1)))
end
def impl_LocksOk.f (k : Nat) (l0 : List (S28)) : Option (Bool) := impl_LocksOk.l0 k l0 l0 (l0.length : Int) 0
set_option maxHeartbeats 8000000 in
set_option maxRecDepth 100000 in
theorem impl_LocksOk.calls (k : Nat) (A0 : Option Addr) (c0 : Nat) (l0 : List (S28)) (r : Bool) (w : World) (hr0 : Kd.C k28 w A0 l0.length l0) (hc0 : l0.length ≤ c0) (h : impl_LocksOk.f k l0 = some r) :
 Calls Try.prog 46 #[.slice A0 l0.length c0] w fun e w' => e = .returned (.bool r) ∧ Below w.heap.size w w' := by
 have hu28 := Try.underlying28
 have HR0 := Aside0.mk hr0
 have HC0 := Aside0.mk hc0
 clear hr0 hc0
 have HB := Aside0.mk (Below.refl w.heap.size w)
 have H : (impl_LocksOk.l0 k l0 l0 (l0.length : Int) 0) = some r := h
 clear h
 have H' := Aside0.mk H
 clear H
 go_enter Try.func46, Try.ntmps46
 go_wp2
 go_loopg [9] k (fun kq v9 w' => ∃ (x9_1 : Int), v9 = .int .i64 x9_1 ∧ Aside0 (impl_LocksOk.l0 kq l0 l0 (l0.length : Int) x9_1 = some r) ∧ Aside0 (kq ≤ k) ∧ Aside0 (Below w.heap.size w w'))
 case atStart => exact ⟨(0), rs_, H', ⟨Nat.le_refl _⟩, ⟨bB_⟩⟩
 case round =>
  clear H'
  obtain ⟨x9_1, rfl, HA, HK1, HB⟩ := hrel
  cases gk with
  | zero => exact absurd HA.out (by simp [impl_LocksOk.l0])
  | succ k1 =>
   have H := HA.out
   clear HA
   simp only [impl_LocksOk.l0] at H
   by_cases c2 : x9_1 < (l0.length : Int)
   rotate_left
   · rw [if_neg c2] at H
     have c2b0 : decide (x9_1 < (l0.length : Int)) = false := decide_eq_false c2
     clear c2
     obtain rfl := Option.some.inj H
     go_wp2
     go_ret
     exact ⟨rr_, bB_⟩
   rw [if_pos c2] at H
   have c2b0 : decide (x9_1 < (l0.length : Int)) = true := decide_eq_true c2
   clear c2
   by_cases c3 : 0 ≤ x9_1
   rotate_left
   · exact absurd H (by rw [if_neg c3]; simp)
   rw [if_pos c3] at H
   have c3b0 : decide (0 ≤ x9_1) = true := decide_eq_true c3
   clear c3
   by_cases c4 : x9_1 < (l0.length : Int)
   rotate_left
   · exact absurd H (by rw [if_neg c4]; simp)
   rw [if_pos c4] at H
   have c4b0 : decide (x9_1 < (l0.length : Int)) = true := decide_eq_true c4
   clear c4
   obtain ⟨t532, A5, H⟩ := bo_ H
   (try dsimp only at H)
   by_cases c6 : t532 = true
   · subst c6
     rw [if_pos rfl] at H
     have c7b0 := eq_true (of_decide_eq_true as_ : 0 ≤ x9_1)
     by_cases c8 : x9_1 ≤ (l0.length : Int)
     rotate_left
     · exact absurd H (by rw [if_neg c8]; simp)
     rw [if_pos c8] at H
     have c8b0 := eq_true c8
     have c8b1 : decide (x9_1 ≤ (l0.length : Int)) = true := decide_eq_true c8
     clear c8
     obtain ⟨y533, hy533⟩ : ∃ y_ : List (S28), y_ = (l0.take (x9_1 : Int).toNat) := ⟨_, rfl⟩
     replace H : (impl_LocksOk.l1 k1 l0 l0 (l0.length : Int) x9_1 y533 (y533.length : Int) 0 ((rd_T28 l0 x9_1).f0) ((rd_T28 l0 x9_1).f1) ((rd_T28 l0 x9_1).f2) ((rd_T28 l0 x9_1).f3) ((rd_T28 l0 x9_1).f4)) = some r := by first | (rw [hy533]; with_reducible exact H) | (have H2_ := (Option.bind_some _ _).symm.trans H; rw [hy533]; with_reducible exact H2_) | (have H2_ := (Option.bind_some _ _).symm.trans H; with_reducible exact H2_) | with_reducible exact H | (rw [hy533]; exact H) | exact H
     have Ny533 := Aside0.mk hy533
     clear hy533
     have H' := Aside0.mk H
     clear H
     have p530 : 0 ≤ (x9_1 : Int) := of_decide_eq_true as_
     have q530 : x9_1 < (l0.length : Int) := of_decide_eq_true as_
     obtain ⟨ad530, A530_1, c530_1, e530, hx530_0, hx530_1, hx530_2, hx530_3, hx530_4, hl530_1, hi530_1⟩ := at_T28 HR0.out x9_1 p530 q530
     cases e530
     replace hx530_0 := bc_ HB.out hx530_0
     replace hx530_1 := bc_ HB.out hx530_1
     replace hx530_2 := bc_ HB.out hx530_2
     replace hx530_3 := bc_ HB.out hx530_3
     replace hx530_4 := bc_ HB.out hx530_4
     have HR530_1 := Aside0.mk hi530_1
     have HC530_1 := Aside0.mk hl530_1
     clear hi530_1 hl530_1
     replace p530 := eq_true p530
     replace q530 := eq_true q530
     go_wp2_with (first | ((with_reducible refine gate_dst (N := 4) rfl ?_); refine bx_ (N := 4) (cs := #[.int .i64 0, .slice none 0 0, .bool false, .bool false, .int .i64 0]) (t := 28) ?_; intro gb531 hg w9 hbox hb; have n0_ := Aside0.mk (below_step bB_ hb); have n1_ := Aside0.mk (hbox); have n2_ := Aside0.mk (ge_ hg bB_ : w.heap.size ≤ gb531); have n3_ := Aside0.mk (ge_ hg bB_ : w.heap.size ≤ gb531); clear HB; have HB := n0_; have BK531 := n1_; have GW531 := n2_; have GE531 := n3_; clear n0_ n1_ n2_ n3_; clear hb hbox hg; obtain ⟨hcz10_0, hcz10_1, hcz10_2, hcz10_3, hcz10_4, hfz10_0, hfz10_1, hfz10_2, hfz10_3, hfz10_4⟩ := cz5_ BK531.out) | ((with_reducible refine gate_callee (f := 44) rfl ?_); refine gL_ (some 15) Try.func44 #[.agg #[.int .i64 ((rd_T28 l0 x9_1).f0), .slice A530_1 ((rd_T28 l0 x9_1).f1).length c530_1, .bool ((rd_T28 l0 x9_1).f2), .bool ((rd_T28 l0 x9_1).f3), .int .i64 ((rd_T28 l0 x9_1).f4)]] ?_; (with_reducible refine (impl_LockOk.calls k1 ((rd_T28 l0 x9_1).f0) _ _ ((rd_T28 l0 x9_1).f1) ((rd_T28 l0 x9_1).f2) ((rd_T28 l0 x9_1).f3) ((rd_T28 l0 x9_1).f4) true _ ?side1 ?side2 A5.out).mono ?_); (case side1 => exact Kd.C_below HR530_1.out (bG_ GE531.out)); (case side2 => exact HC530_1.out); rintro e w11 ⟨rfl, hb⟩; refine ⟨_, rfl, ?_⟩; have n0_ := Aside0.mk (blk_below (g := gb531) (o := .cells #[.int .i64 ((rd_T28 l0 x9_1).f0), .slice A530_1 ((rd_T28 l0 x9_1).f1).length c530_1, .bool ((rd_T28 l0 x9_1).f2), .bool ((rd_T28 l0 x9_1).f3), .int .i64 ((rd_T28 l0 x9_1).f4)] 28 (0, 0)) (by (with_reducible repeat (first | refine blk_drewN ?_ _ | refine blk_drew ?_ | refine blk_alloc ?_ _)); refine blk_put (cs := #[.int .i64 ((rd_T28 l0 x9_1).f0), .slice A530_1 ((rd_T28 l0 x9_1).f1).length c530_1, .bool ((rd_T28 l0 x9_1).f2), .bool ((rd_T28 l0 x9_1).f3), .int .i64 0]) ?_ 4 _ rfl; (with_reducible repeat (first | refine blk_drewN ?_ _ | refine blk_drew ?_ | refine blk_alloc ?_ _)); refine blk_put (cs := #[.int .i64 ((rd_T28 l0 x9_1).f0), .slice A530_1 ((rd_T28 l0 x9_1).f1).length c530_1, .bool ((rd_T28 l0 x9_1).f2), .bool false, .int .i64 0]) ?_ 3 _ rfl; (with_reducible repeat (first | refine blk_drewN ?_ _ | refine blk_drew ?_ | refine blk_alloc ?_ _)); refine blk_put (cs := #[.int .i64 ((rd_T28 l0 x9_1).f0), .slice A530_1 ((rd_T28 l0 x9_1).f1).length c530_1, .bool false, .bool false, .int .i64 0]) ?_ 2 _ rfl; (with_reducible repeat (first | refine blk_drewN ?_ _ | refine blk_drew ?_ | refine blk_alloc ?_ _)); refine blk_put (cs := #[.int .i64 ((rd_T28 l0 x9_1).f0), .slice none 0 0, .bool false, .bool false, .int .i64 0]) ?_ 1 _ rfl; (with_reducible repeat (first | refine blk_drewN ?_ _ | refine blk_drew ?_ | refine blk_alloc ?_ _)); refine blk_put (cs := #[.int .i64 0, .slice none 0 0, .bool false, .bool false, .int .i64 0]) ?_ 0 _ rfl; (with_reducible repeat (first | refine blk_drewN ?_ _ | refine blk_drew ?_ | refine blk_alloc ?_ _)); exact BK531.out) hb); have n1_ := Aside0.mk (below_step (bG_ GE531.out) hb); clear BK531; clear HB; have BK531 := n0_; have HB := n1_; clear n0_ n1_; (try clear hb); have q12 : (x9_1 : Int) ≤ ((l0.length : Int) : Int) := of_decide_eq_true as_; obtain ⟨i012, hi012, _, hsz12, _⟩ := info_parts info28; have hroom12 : l0.length ≤ c0 := HC0.out; have hC12 : Kd.C k28 _ (some ad530) l0.length l0 := HR0.out; have hcut12 := cut_to (P := Try.prog) 39 28 .i64 Try.underlying39 hi012 (some ad530) l0.length c0 x9_1 (of_decide_eq_true as_) q12 hroom12; have hr12 := Kd.C_take (m := (x9_1 : Int).toNat) hC12 (by omega); have hy12 : y533.length = (x9_1 : Int).toNat := (by rw [Ny533.out, List.length_take]; omega); rw [← Ny533.out] at hr12; rw [← hy12] at hcut12; have HR536 := Aside0.mk hr12; have HC536 := Aside0.mk (show y533.length ≤ c0 from by omega); clear hr12 hC12 hroom12 hi012 hsz12; have KY12 := Aside0.mk hy12; clear hy12; replace q12 := eq_true q12))
     go_loopg [21] k1 (fun kq v21 w' => ∃ (x21_2 : Int), v21 = .int .i64 x21_2 ∧ Aside0 (impl_LocksOk.l1 kq l0 l0 (l0.length : Int) x9_1 y533 (y533.length : Int) x21_2 ((rd_T28 l0 x9_1).f0) ((rd_T28 l0 x9_1).f1) ((rd_T28 l0 x9_1).f2) ((rd_T28 l0 x9_1).f3) ((rd_T28 l0 x9_1).f4) = some r) ∧ Aside0 (kq ≤ k1) ∧ Aside0 (w'.heap[gb531]? = some (.cells #[.int .i64 ((rd_T28 l0 x9_1).f0), (.slice A530_1 ((rd_T28 l0 x9_1).f1).length c530_1), .bool ((rd_T28 l0 x9_1).f2), .bool ((rd_T28 l0 x9_1).f3), .int .i64 ((rd_T28 l0 x9_1).f4)] 28 (0, 0))) ∧ Aside0 (Below w.heap.size w w'))
     case atStart => exact ⟨(0), rs_, H', ⟨Nat.le_refl _⟩, ⟨by (with_reducible repeat (first | refine blk_drewN ?_ _ | refine blk_drew ?_ | refine blk_alloc ?_ _)); exact BK531.out⟩, ⟨bG_ GE531.out⟩⟩
     case round =>
      clear H'
      try clear q1
      try clear c2
      try clear c2b0
      try clear p2
      try clear c3
      try clear c3b0
      try clear c4
      try clear c4b0
      try clear c5
      try clear p5
      try clear q5
      try clear hx5
      try clear c6
      try clear c7
      try clear c7b0
      try clear c8
      try clear c8b0
      try clear c8b1
      try clear q12
      try clear hcz10_0
      try clear hcz10_1
      try clear hcz10_2
      try clear hcz10_3
      try clear hcz10_4
      try clear hfz10_0
      try clear hfz10_1
      try clear hfz10_2
      try clear hfz10_3
      try clear hfz10_4
      try clear hx530_0
      try clear hx530_1
      try clear hx530_2
      try clear hx530_3
      try clear hx530_4
      try clear p530
      try clear q12
      try clear q530
      obtain ⟨x21_2, rfl, HA, HK2, BK531, HB⟩ := hrel
      cases gk with
      | zero => exact absurd HA.out (by simp [impl_LocksOk.l1])
      | succ k2 =>
       have H := HA.out
       clear HA
       simp only [impl_LocksOk.l1] at H
       by_cases c13 : x21_2 < (y533.length : Int)
       rotate_left
       · rw [if_neg c13] at H
         have c13b0 : decide (x21_2 < (y533.length : Int)) = false := decide_eq_false c13
         clear c13
         have H' := Aside0.mk H
         clear H
         go_wp2
         go_roundg k2
         case measure => have := HK1.out; have := HK2.out; omega
         case rel => exact ⟨(wrap64 (x9_1 + 1)), rs_, H', ⟨by have := HK1.out; have := HK2.out; omega⟩, ⟨bG_ GE531.out⟩⟩
       rw [if_pos c13] at H
       have c13b0 : decide (x21_2 < (y533.length : Int)) = true := decide_eq_true c13
       clear c13
       by_cases c14 : 0 ≤ x21_2
       rotate_left
       · exact absurd H (by rw [if_neg c14]; simp)
       rw [if_pos c14] at H
       have c14b0 : decide (0 ≤ x21_2) = true := decide_eq_true c14
       clear c14
       by_cases c15 : x21_2 < (y533.length : Int)
       rotate_left
       · exact absurd H (by rw [if_neg c15]; simp)
       rw [if_pos c15] at H
       have c15b0 : decide (x21_2 < (y533.length : Int)) = true := decide_eq_true c15
       clear c15
       by_cases c16 : ((rd_T28 l0 x9_1).f0) = ((rd_T28 y533 x21_2).f0)
       · rw [if_pos c16] at H
         have c16b0 : (((rd_T28 l0 x9_1).f0) == ((rd_T28 y533 x21_2).f0)) = true := beq_iff_eq.mpr c16
         have c16b1 : (((rd_T28 l0 x9_1).f0) != ((rd_T28 y533 x21_2).f0)) = false := bne_eq_false_iff_eq.mpr c16
         clear c16
         obtain rfl := Option.some.inj H
         have p537 : 0 ≤ (x21_2 : Int) := of_decide_eq_true as_
         have q537 : x21_2 < (y533.length : Int) := of_decide_eq_true as_
         obtain ⟨ad537, A537_1, c537_1, e537, hx537_0, hx537_1, hx537_2, hx537_3, hx537_4, hl537_1, hi537_1⟩ := at_T28 HR536.out x21_2 p537 q537
         obtain rfl : ad530 = ad537 := (by injection e537)
         replace hx537_0 := bc_ HB.out hx537_0
         replace hx537_1 := bc_ HB.out hx537_1
         replace hx537_2 := bc_ HB.out hx537_2
         replace hx537_3 := bc_ HB.out hx537_3
         replace hx537_4 := bc_ HB.out hx537_4
         have HR537_1 := Aside0.mk hi537_1
         have HC537_1 := Aside0.mk hl537_1
         clear hi537_1 hl537_1
         replace p537 := eq_true p537
         replace q537 := eq_true q537
         go_wp2_with (first | ((with_reducible refine gate_dst (N := 6) rfl ?_); refine bx_ (N := 6) (cs := #[.int .i64 0, .slice none 0 0, .bool false, .bool false, .int .i64 0]) (t := 28) ?_; intro gb538 hg w17 hbox hb; have n0_ := Aside0.mk (bw_ BK531.out hb); have n1_ := Aside0.mk (below_step (bG_ GE531.out) hb); have n2_ := Aside0.mk (hbox); have n3_ := Aside0.mk (ge_ hg (bG_ GE531.out) : w.heap.size ≤ gb538); have n4_ := Aside0.mk (ge_ hg (bG_ GE531.out) : w.heap.size ≤ gb538); have n5_ := Aside0.mk (gm_ hg BK531.out); have n6_ := Aside0.mk (gn_ hg BK531.out); clear BK531; clear HB; have BK531 := n0_; have HB := n1_; have BK538 := n2_; have GW538 := n3_; have GE538 := n4_; have NB531_538 := n5_; have NB538_531 := n6_; clear n0_ n1_ n2_ n3_ n4_ n5_ n6_; clear hb hbox hg; have hnb18 := NB538_531.out; have hnc18 := NB531_538.out; obtain ⟨hcz19_0, hcz19_1, hcz19_2, hcz19_3, hcz19_4, hfz19_0, hfz19_1, hfz19_2, hfz19_3, hfz19_4⟩ := cz5_ BK538.out; obtain ⟨hcz20_0, hcz20_1, hcz20_2, hcz20_3, hcz20_4, hfz20_0, hfz20_1, hfz20_2, hfz20_3, hfz20_4⟩ := cz5_ BK531.out))
         go_ret
         exact ⟨rr_, by repeat (first | (with_reducible first | exact HB.out | apply below_alloc | apply pw_below_drewN | apply below_drew1 | refine below_set ?_ GE531.out | refine below_set ?_ GE538.out) | exact HB.out)⟩
       rw [if_neg c16] at H
       have c16b0 : (((rd_T28 l0 x9_1).f0) == ((rd_T28 y533 x21_2).f0)) = false := beq_eq_false_iff_ne.mpr c16
       have c16b1 : (((rd_T28 l0 x9_1).f0) != ((rd_T28 y533 x21_2).f0)) = true := bne_iff_ne.mpr c16
       obtain ⟨t539, A21, H⟩ := bo_ H
       (try dsimp only at H)
       by_cases c22 : t539 = true
       · subst c22
         rw [if_pos rfl] at H
         obtain rfl := Option.some.inj H
         have p537 : 0 ≤ (x21_2 : Int) := of_decide_eq_true as_
         have q537 : x21_2 < (y533.length : Int) := of_decide_eq_true as_
         obtain ⟨ad537, A537_1, c537_1, e537, hx537_0, hx537_1, hx537_2, hx537_3, hx537_4, hl537_1, hi537_1⟩ := at_T28 HR536.out x21_2 p537 q537
         obtain rfl : ad530 = ad537 := (by injection e537)
         replace hx537_0 := bc_ HB.out hx537_0
         replace hx537_1 := bc_ HB.out hx537_1
         replace hx537_2 := bc_ HB.out hx537_2
         replace hx537_3 := bc_ HB.out hx537_3
         replace hx537_4 := bc_ HB.out hx537_4
         have HR537_1 := Aside0.mk hi537_1
         have HC537_1 := Aside0.mk hl537_1
         clear hi537_1 hl537_1
         replace p537 := eq_true p537
         replace q537 := eq_true q537
         go_wp2_with (first | ((with_reducible refine gate_dst (N := 6) rfl ?_); refine bx_ (N := 6) (cs := #[.int .i64 0, .slice none 0 0, .bool false, .bool false, .int .i64 0]) (t := 28) ?_; intro gb538 hg w23 hbox hb; have n0_ := Aside0.mk (bw_ BK531.out hb); have n1_ := Aside0.mk (below_step (bG_ GE531.out) hb); have n2_ := Aside0.mk (hbox); have n3_ := Aside0.mk (ge_ hg (bG_ GE531.out) : w.heap.size ≤ gb538); have n4_ := Aside0.mk (ge_ hg (bG_ GE531.out) : w.heap.size ≤ gb538); have n5_ := Aside0.mk (gm_ hg BK531.out); have n6_ := Aside0.mk (gn_ hg BK531.out); clear BK531; clear HB; have BK531 := n0_; have HB := n1_; have BK538 := n2_; have GW538 := n3_; have GE538 := n4_; have NB531_538 := n5_; have NB538_531 := n6_; clear n0_ n1_ n2_ n3_ n4_ n5_ n6_; clear hb hbox hg; have hnb24 := NB538_531.out; have hnc24 := NB531_538.out; obtain ⟨hcz25_0, hcz25_1, hcz25_2, hcz25_3, hcz25_4, hfz25_0, hfz25_1, hfz25_2, hfz25_3, hfz25_4⟩ := cz5_ BK538.out; obtain ⟨hcz26_0, hcz26_1, hcz26_2, hcz26_3, hcz26_4, hfz26_0, hfz26_1, hfz26_2, hfz26_3, hfz26_4⟩ := cz5_ BK531.out) | (go_at_call 24; (with_reducible refine (impl_LockClash.calls k2 ((rd_T28 l0 x9_1).f0) _ _ ((rd_T28 l0 x9_1).f1) ((rd_T28 l0 x9_1).f2) ((rd_T28 l0 x9_1).f3) ((rd_T28 l0 x9_1).f4) ((rd_T28 y533 x21_2).f0) _ _ ((rd_T28 y533 x21_2).f1) ((rd_T28 y533 x21_2).f2) ((rd_T28 y533 x21_2).f3) ((rd_T28 y533 x21_2).f4) true _ ?side1 ?side2 ?side3 ?side4 A21.out).mono ?_); (case side1 => exact Kd.C_below HR530_1.out (by repeat (first | (with_reducible first | exact HB.out | apply below_alloc | apply pw_below_drewN | apply below_drew1 | refine below_set ?_ GE531.out | refine below_set ?_ GE538.out) | exact HB.out))); (case side2 => exact HC530_1.out); (case side3 => exact Kd.C_below HR537_1.out (by repeat (first | (with_reducible first | exact HB.out | apply below_alloc | apply pw_below_drewN | apply below_drew1 | refine below_set ?_ GE531.out | refine below_set ?_ GE538.out) | exact HB.out))); (case side4 => exact HC537_1.out); rintro e w27 ⟨rfl, hb⟩; have n0_ := Aside0.mk (blk_below (g := gb531) (o := .cells #[.int .i64 ((rd_T28 l0 x9_1).f0), .slice A530_1 ((rd_T28 l0 x9_1).f1).length c530_1, .bool ((rd_T28 l0 x9_1).f2), .bool ((rd_T28 l0 x9_1).f3), .int .i64 ((rd_T28 l0 x9_1).f4)] 28 (0, 0)) (by (with_reducible repeat (first | refine blk_drewN ?_ _ | refine blk_drew ?_ | refine blk_alloc ?_ _)); refine blk_far ?_ NB531_538.out _; (with_reducible repeat (first | refine blk_drewN ?_ _ | refine blk_drew ?_ | refine blk_alloc ?_ _)); refine blk_far ?_ NB531_538.out _; (with_reducible repeat (first | refine blk_drewN ?_ _ | refine blk_drew ?_ | refine blk_alloc ?_ _)); refine blk_far ?_ NB531_538.out _; (with_reducible repeat (first | refine blk_drewN ?_ _ | refine blk_drew ?_ | refine blk_alloc ?_ _)); refine blk_far ?_ NB531_538.out _; (with_reducible repeat (first | refine blk_drewN ?_ _ | refine blk_drew ?_ | refine blk_alloc ?_ _)); refine blk_far ?_ NB531_538.out _; (with_reducible repeat (first | refine blk_drewN ?_ _ | refine blk_drew ?_ | refine blk_alloc ?_ _)); exact BK531.out) hb); have n1_ := Aside0.mk (blk_below (g := gb538) (o := .cells #[.int .i64 ((rd_T28 y533 x21_2).f0), .slice A537_1 ((rd_T28 y533 x21_2).f1).length c537_1, .bool ((rd_T28 y533 x21_2).f2), .bool ((rd_T28 y533 x21_2).f3), .int .i64 ((rd_T28 y533 x21_2).f4)] 28 (0, 0)) (by (with_reducible repeat (first | refine blk_drewN ?_ _ | refine blk_drew ?_ | refine blk_alloc ?_ _)); refine blk_put (cs := #[.int .i64 ((rd_T28 y533 x21_2).f0), .slice A537_1 ((rd_T28 y533 x21_2).f1).length c537_1, .bool ((rd_T28 y533 x21_2).f2), .bool ((rd_T28 y533 x21_2).f3), .int .i64 0]) ?_ 4 _ rfl; (with_reducible repeat (first | refine blk_drewN ?_ _ | refine blk_drew ?_ | refine blk_alloc ?_ _)); refine blk_put (cs := #[.int .i64 ((rd_T28 y533 x21_2).f0), .slice A537_1 ((rd_T28 y533 x21_2).f1).length c537_1, .bool ((rd_T28 y533 x21_2).f2), .bool false, .int .i64 0]) ?_ 3 _ rfl; (with_reducible repeat (first | refine blk_drewN ?_ _ | refine blk_drew ?_ | refine blk_alloc ?_ _)); refine blk_put (cs := #[.int .i64 ((rd_T28 y533 x21_2).f0), .slice A537_1 ((rd_T28 y533 x21_2).f1).length c537_1, .bool false, .bool false, .int .i64 0]) ?_ 2 _ rfl; (with_reducible repeat (first | refine blk_drewN ?_ _ | refine blk_drew ?_ | refine blk_alloc ?_ _)); refine blk_put (cs := #[.int .i64 ((rd_T28 y533 x21_2).f0), .slice none 0 0, .bool false, .bool false, .int .i64 0]) ?_ 1 _ rfl; (with_reducible repeat (first | refine blk_drewN ?_ _ | refine blk_drew ?_ | refine blk_alloc ?_ _)); refine blk_put (cs := #[.int .i64 0, .slice none 0 0, .bool false, .bool false, .int .i64 0]) ?_ 0 _ rfl; (with_reducible repeat (first | refine blk_drewN ?_ _ | refine blk_drew ?_ | refine blk_alloc ?_ _)); exact BK538.out) hb); have n2_ := Aside0.mk (below_step (by repeat (first | (with_reducible first | exact HB.out | apply below_alloc | apply pw_below_drewN | apply below_drew1 | refine below_set ?_ GE531.out | refine below_set ?_ GE538.out) | exact HB.out)) hb); clear BK531; clear BK538; clear HB; have BK531 := n0_; have BK538 := n1_; have HB := n2_; clear n0_ n1_ n2_; (try clear hb)))
         go_ret
         exact ⟨rr_, by repeat (first | (with_reducible first | exact HB.out | apply below_alloc | apply pw_below_drewN | apply below_drew1 | refine below_set ?_ GE531.out | refine below_set ?_ GE538.out) | exact HB.out)⟩
       · replace c22 := Bool.eq_false_iff.mpr c22
         subst c22
         rw [if_neg (show ¬ (false = true) by decide)] at H
         have H' := Aside0.mk H
         clear H
         have p537 : 0 ≤ (x21_2 : Int) := of_decide_eq_true as_
         have q537 : x21_2 < (y533.length : Int) := of_decide_eq_true as_
         obtain ⟨ad537, A537_1, c537_1, e537, hx537_0, hx537_1, hx537_2, hx537_3, hx537_4, hl537_1, hi537_1⟩ := at_T28 HR536.out x21_2 p537 q537
         obtain rfl : ad530 = ad537 := (by injection e537)
         replace hx537_0 := bc_ HB.out hx537_0
         replace hx537_1 := bc_ HB.out hx537_1
         replace hx537_2 := bc_ HB.out hx537_2
         replace hx537_3 := bc_ HB.out hx537_3
         replace hx537_4 := bc_ HB.out hx537_4
         have HR537_1 := Aside0.mk hi537_1
         have HC537_1 := Aside0.mk hl537_1
         clear hi537_1 hl537_1
         replace p537 := eq_true p537
         replace q537 := eq_true q537
         go_wp2_with (first | ((with_reducible refine gate_dst (N := 6) rfl ?_); refine bx_ (N := 6) (cs := #[.int .i64 0, .slice none 0 0, .bool false, .bool false, .int .i64 0]) (t := 28) ?_; intro gb538 hg w28 hbox hb; have n0_ := Aside0.mk (bw_ BK531.out hb); have n1_ := Aside0.mk (below_step (bG_ GE531.out) hb); have n2_ := Aside0.mk (hbox); have n3_ := Aside0.mk (ge_ hg (bG_ GE531.out) : w.heap.size ≤ gb538); have n4_ := Aside0.mk (ge_ hg (bG_ GE531.out) : w.heap.size ≤ gb538); have n5_ := Aside0.mk (gm_ hg BK531.out); have n6_ := Aside0.mk (gn_ hg BK531.out); clear BK531; clear HB; have BK531 := n0_; have HB := n1_; have BK538 := n2_; have GW538 := n3_; have GE538 := n4_; have NB531_538 := n5_; have NB538_531 := n6_; clear n0_ n1_ n2_ n3_ n4_ n5_ n6_; clear hb hbox hg; have hnb29 := NB538_531.out; have hnc29 := NB531_538.out; obtain ⟨hcz30_0, hcz30_1, hcz30_2, hcz30_3, hcz30_4, hfz30_0, hfz30_1, hfz30_2, hfz30_3, hfz30_4⟩ := cz5_ BK538.out; obtain ⟨hcz31_0, hcz31_1, hcz31_2, hcz31_3, hcz31_4, hfz31_0, hfz31_1, hfz31_2, hfz31_3, hfz31_4⟩ := cz5_ BK531.out) | (go_at_call 24; (with_reducible refine (impl_LockClash.calls k2 ((rd_T28 l0 x9_1).f0) _ _ ((rd_T28 l0 x9_1).f1) ((rd_T28 l0 x9_1).f2) ((rd_T28 l0 x9_1).f3) ((rd_T28 l0 x9_1).f4) ((rd_T28 y533 x21_2).f0) _ _ ((rd_T28 y533 x21_2).f1) ((rd_T28 y533 x21_2).f2) ((rd_T28 y533 x21_2).f3) ((rd_T28 y533 x21_2).f4) false _ ?side1 ?side2 ?side3 ?side4 A21.out).mono ?_); (case side1 => exact Kd.C_below HR530_1.out (by repeat (first | (with_reducible first | exact HB.out | apply below_alloc | apply pw_below_drewN | apply below_drew1 | refine below_set ?_ GE531.out | refine below_set ?_ GE538.out) | exact HB.out))); (case side2 => exact HC530_1.out); (case side3 => exact Kd.C_below HR537_1.out (by repeat (first | (with_reducible first | exact HB.out | apply below_alloc | apply pw_below_drewN | apply below_drew1 | refine below_set ?_ GE531.out | refine below_set ?_ GE538.out) | exact HB.out))); (case side4 => exact HC537_1.out); rintro e w32 ⟨rfl, hb⟩; have n0_ := Aside0.mk (blk_below (g := gb531) (o := .cells #[.int .i64 ((rd_T28 l0 x9_1).f0), .slice A530_1 ((rd_T28 l0 x9_1).f1).length c530_1, .bool ((rd_T28 l0 x9_1).f2), .bool ((rd_T28 l0 x9_1).f3), .int .i64 ((rd_T28 l0 x9_1).f4)] 28 (0, 0)) (by (with_reducible repeat (first | refine blk_drewN ?_ _ | refine blk_drew ?_ | refine blk_alloc ?_ _)); refine blk_far ?_ NB531_538.out _; (with_reducible repeat (first | refine blk_drewN ?_ _ | refine blk_drew ?_ | refine blk_alloc ?_ _)); refine blk_far ?_ NB531_538.out _; (with_reducible repeat (first | refine blk_drewN ?_ _ | refine blk_drew ?_ | refine blk_alloc ?_ _)); refine blk_far ?_ NB531_538.out _; (with_reducible repeat (first | refine blk_drewN ?_ _ | refine blk_drew ?_ | refine blk_alloc ?_ _)); refine blk_far ?_ NB531_538.out _; (with_reducible repeat (first | refine blk_drewN ?_ _ | refine blk_drew ?_ | refine blk_alloc ?_ _)); refine blk_far ?_ NB531_538.out _; (with_reducible repeat (first | refine blk_drewN ?_ _ | refine blk_drew ?_ | refine blk_alloc ?_ _)); exact BK531.out) hb); have n1_ := Aside0.mk (blk_below (g := gb538) (o := .cells #[.int .i64 ((rd_T28 y533 x21_2).f0), .slice A537_1 ((rd_T28 y533 x21_2).f1).length c537_1, .bool ((rd_T28 y533 x21_2).f2), .bool ((rd_T28 y533 x21_2).f3), .int .i64 ((rd_T28 y533 x21_2).f4)] 28 (0, 0)) (by (with_reducible repeat (first | refine blk_drewN ?_ _ | refine blk_drew ?_ | refine blk_alloc ?_ _)); refine blk_put (cs := #[.int .i64 ((rd_T28 y533 x21_2).f0), .slice A537_1 ((rd_T28 y533 x21_2).f1).length c537_1, .bool ((rd_T28 y533 x21_2).f2), .bool ((rd_T28 y533 x21_2).f3), .int .i64 0]) ?_ 4 _ rfl; (with_reducible repeat (first | refine blk_drewN ?_ _ | refine blk_drew ?_ | refine blk_alloc ?_ _)); refine blk_put (cs := #[.int .i64 ((rd_T28 y533 x21_2).f0), .slice A537_1 ((rd_T28 y533 x21_2).f1).length c537_1, .bool ((rd_T28 y533 x21_2).f2), .bool false, .int .i64 0]) ?_ 3 _ rfl; (with_reducible repeat (first | refine blk_drewN ?_ _ | refine blk_drew ?_ | refine blk_alloc ?_ _)); refine blk_put (cs := #[.int .i64 ((rd_T28 y533 x21_2).f0), .slice A537_1 ((rd_T28 y533 x21_2).f1).length c537_1, .bool false, .bool false, .int .i64 0]) ?_ 2 _ rfl; (with_reducible repeat (first | refine blk_drewN ?_ _ | refine blk_drew ?_ | refine blk_alloc ?_ _)); refine blk_put (cs := #[.int .i64 ((rd_T28 y533 x21_2).f0), .slice none 0 0, .bool false, .bool false, .int .i64 0]) ?_ 1 _ rfl; (with_reducible repeat (first | refine blk_drewN ?_ _ | refine blk_drew ?_ | refine blk_alloc ?_ _)); refine blk_put (cs := #[.int .i64 0, .slice none 0 0, .bool false, .bool false, .int .i64 0]) ?_ 0 _ rfl; (with_reducible repeat (first | refine blk_drewN ?_ _ | refine blk_drew ?_ | refine blk_alloc ?_ _)); exact BK538.out) hb); have n2_ := Aside0.mk (below_step (by repeat (first | (with_reducible first | exact HB.out | apply below_alloc | apply pw_below_drewN | apply below_drew1 | refine below_set ?_ GE531.out | refine below_set ?_ GE538.out) | exact HB.out)) hb); clear BK531; clear BK538; clear HB; have BK531 := n0_; have BK538 := n1_; have HB := n2_; clear n0_ n1_ n2_; (try clear hb)))
         go_roundg k2
         case measure => have := HK1.out; have := HK2.out; omega
         case rel => exact ⟨(wrap64 (x21_2 + 1)), rs_, H', ⟨by have := HK1.out; have := HK2.out; omega⟩, ⟨by (with_reducible repeat (first | refine blk_drewN ?_ _ | refine blk_drew ?_ | refine blk_alloc ?_ _)); exact BK531.out⟩, ⟨by repeat (first | (with_reducible first | exact HB.out | apply below_alloc | apply pw_below_drewN | apply below_drew1 | refine below_set ?_ GE531.out | refine below_set ?_ GE538.out) | exact HB.out)⟩⟩
   · replace c6 := Bool.eq_false_iff.mpr c6
     subst c6
     rw [if_neg (show ¬ (false = true) by decide)] at H
     obtain rfl := Option.some.inj H
     have p530 : 0 ≤ (x9_1 : Int) := of_decide_eq_true as_
     have q530 : x9_1 < (l0.length : Int) := of_decide_eq_true as_
     obtain ⟨ad530, A530_1, c530_1, e530, hx530_0, hx530_1, hx530_2, hx530_3, hx530_4, hl530_1, hi530_1⟩ := at_T28 HR0.out x9_1 p530 q530
     cases e530
     replace hx530_0 := bc_ HB.out hx530_0
     replace hx530_1 := bc_ HB.out hx530_1
     replace hx530_2 := bc_ HB.out hx530_2
     replace hx530_3 := bc_ HB.out hx530_3
     replace hx530_4 := bc_ HB.out hx530_4
     have HR530_1 := Aside0.mk hi530_1
     have HC530_1 := Aside0.mk hl530_1
     clear hi530_1 hl530_1
     replace p530 := eq_true p530
     replace q530 := eq_true q530
     go_wp2_with (first | ((with_reducible refine gate_dst (N := 4) rfl ?_); refine bx_ (N := 4) (cs := #[.int .i64 0, .slice none 0 0, .bool false, .bool false, .int .i64 0]) (t := 28) ?_; intro gb531 hg w33 hbox hb; have n0_ := Aside0.mk (below_step bB_ hb); have n1_ := Aside0.mk (hbox); have n2_ := Aside0.mk (ge_ hg bB_ : w.heap.size ≤ gb531); have n3_ := Aside0.mk (ge_ hg bB_ : w.heap.size ≤ gb531); clear HB; have HB := n0_; have BK531 := n1_; have GW531 := n2_; have GE531 := n3_; clear n0_ n1_ n2_ n3_; clear hb hbox hg; obtain ⟨hcz34_0, hcz34_1, hcz34_2, hcz34_3, hcz34_4, hfz34_0, hfz34_1, hfz34_2, hfz34_3, hfz34_4⟩ := cz5_ BK531.out) | ((with_reducible refine gate_callee (f := 44) rfl ?_); refine gL_ (some 15) Try.func44 #[.agg #[.int .i64 ((rd_T28 l0 x9_1).f0), .slice A530_1 ((rd_T28 l0 x9_1).f1).length c530_1, .bool ((rd_T28 l0 x9_1).f2), .bool ((rd_T28 l0 x9_1).f3), .int .i64 ((rd_T28 l0 x9_1).f4)]] ?_; (with_reducible refine (impl_LockOk.calls k1 ((rd_T28 l0 x9_1).f0) _ _ ((rd_T28 l0 x9_1).f1) ((rd_T28 l0 x9_1).f2) ((rd_T28 l0 x9_1).f3) ((rd_T28 l0 x9_1).f4) false _ ?side1 ?side2 A5.out).mono ?_); (case side1 => exact Kd.C_below HR530_1.out (bG_ GE531.out)); (case side2 => exact HC530_1.out); rintro e w35 ⟨rfl, hb⟩; refine ⟨_, rfl, ?_⟩; have n0_ := Aside0.mk (blk_below (g := gb531) (o := .cells #[.int .i64 ((rd_T28 l0 x9_1).f0), .slice A530_1 ((rd_T28 l0 x9_1).f1).length c530_1, .bool ((rd_T28 l0 x9_1).f2), .bool ((rd_T28 l0 x9_1).f3), .int .i64 ((rd_T28 l0 x9_1).f4)] 28 (0, 0)) (by (with_reducible repeat (first | refine blk_drewN ?_ _ | refine blk_drew ?_ | refine blk_alloc ?_ _)); refine blk_put (cs := #[.int .i64 ((rd_T28 l0 x9_1).f0), .slice A530_1 ((rd_T28 l0 x9_1).f1).length c530_1, .bool ((rd_T28 l0 x9_1).f2), .bool ((rd_T28 l0 x9_1).f3), .int .i64 0]) ?_ 4 _ rfl; (with_reducible repeat (first | refine blk_drewN ?_ _ | refine blk_drew ?_ | refine blk_alloc ?_ _)); refine blk_put (cs := #[.int .i64 ((rd_T28 l0 x9_1).f0), .slice A530_1 ((rd_T28 l0 x9_1).f1).length c530_1, .bool ((rd_T28 l0 x9_1).f2), .bool false, .int .i64 0]) ?_ 3 _ rfl; (with_reducible repeat (first | refine blk_drewN ?_ _ | refine blk_drew ?_ | refine blk_alloc ?_ _)); refine blk_put (cs := #[.int .i64 ((rd_T28 l0 x9_1).f0), .slice A530_1 ((rd_T28 l0 x9_1).f1).length c530_1, .bool false, .bool false, .int .i64 0]) ?_ 2 _ rfl; (with_reducible repeat (first | refine blk_drewN ?_ _ | refine blk_drew ?_ | refine blk_alloc ?_ _)); refine blk_put (cs := #[.int .i64 ((rd_T28 l0 x9_1).f0), .slice none 0 0, .bool false, .bool false, .int .i64 0]) ?_ 1 _ rfl; (with_reducible repeat (first | refine blk_drewN ?_ _ | refine blk_drew ?_ | refine blk_alloc ?_ _)); refine blk_put (cs := #[.int .i64 0, .slice none 0 0, .bool false, .bool false, .int .i64 0]) ?_ 0 _ rfl; (with_reducible repeat (first | refine blk_drewN ?_ _ | refine blk_drew ?_ | refine blk_alloc ?_ _)); exact BK531.out) hb); have n1_ := Aside0.mk (below_step (bG_ GE531.out) hb); clear BK531; clear HB; have BK531 := n0_; have HB := n1_; clear n0_ n1_; (try clear hb)))
     go_ret
     exact ⟨rr_, bG_ GE531.out⟩
def spec_l13Copy.l0 : Nat → List (S28) → List (S28) → Int → Option ((List (S28)))
 | 0, _, _, _ => none
 | k + 1, x0, x3, x4 => if x4 < (x0.length : Int) then (if 0 ≤ x4 then ((some (([] : List ByteArray) : List ByteArray)).bind fun y319 => (if y319.length + ((rd_T28 x0 x4).f1).length < 8796093022208 then (if x3.length < 2932031007402 then (spec_l13Copy.l0 k x0 (x3 ++ [(⟨(rd_T28 x0 x4).f0, (y319 ++ ((rd_T28 x0 x4).f1)), (rd_T28 x0 x4).f2, (rd_T28 x0 x4).f3, (rd_T28 x0 x4).f4⟩ : S28)]) (wrap64 (x4 + 1))) else (none)) else (none))) else (none)) else (some x3)
def spec_l13Copy.f (k : Nat) (l0 : List (S28)) : Option ((List (S28))) := spec_l13Copy.l0 k l0 (([] : List (S28))) 0
set_option maxHeartbeats 8000000 in
set_option maxRecDepth 100000 in
theorem spec_l13Copy.calls (k : Nat) (A0 : Option Addr) (c0 : Nat) (l0 : List (S28)) (r : List (S28)) (w : World) (hr0 : Kd.C k28 w A0 l0.length l0) (hc0 : l0.length ≤ c0) (h : spec_l13Copy.f k l0 = some r) :
 Calls Try.prog 68 #[.slice A0 l0.length c0] w fun e w' => ∃ v0_ : Value, e = .returned (v0_) ∧ Kd.S k28 28 w' w.heap.size (fun _ => True) v0_ r ∧ Below w.heap.size w w' := by
 have hu28 := Try.underlying28
 have HR0 := Aside0.mk hr0
 have HC0 := Aside0.mk hc0
 clear hr0 hc0
 have HB := Aside0.mk (Below.refl w.heap.size w)
 have H : (spec_l13Copy.l0 k l0 (([] : List (S28))) 0) = some r := h
 clear h
 obtain ⟨y314, hy314⟩ : ∃ y_ : List (S28), y_ = (([] : List (S28))) := ⟨_, rfl⟩
 replace H : (spec_l13Copy.l0 k l0 y314 0) = some r := by first | (rw [hy314]; with_reducible exact H) | (have H2_ := (Option.bind_some _ _).symm.trans H; rw [hy314]; with_reducible exact H2_) | (have H2_ := (Option.bind_some _ _).symm.trans H; with_reducible exact H2_) | with_reducible exact H | (rw [hy314]; exact H) | exact H
 have Ny314 := Aside0.mk hy314
 clear hy314
 have H' := Aside0.mk H
 clear H
 go_enter Try.func68, Try.ntmps68
 go_wp2_with (first | ((with_reducible refine gate_dst (N := 6) rfl ?_); refine Kd.S_lit k28 _ 28 ?hg (N := 6) ?hd (xs := ([] : List (S28))) (inner := []) (ok := fun _ => True) (okp := fun _ => True) ?hr ?hp (fun _ hk => hk) trivial (Below.refl _ _) (Nat.le_refl _) (by simp) ?_; (case hd => rfl); (case hg => rfl); (case hr => first | (go_simp; done) | (go_simp; rfl)); (case hp => exact (Reps.none _ _)); intro v315 w2 ho3 hb hg_ hnew_; clear hg_ hnew_; (first | rw [← Ny314.out] at ho3 | (simp only [Int.reduceToNat] at ho3; rw [← Ny314.out] at ho3)); have n0_ := Aside0.mk (Kd.S_lower ho3 (below_size bB_)); have n1_ := Aside0.mk (below_step bB_ hb); clear HB; have HO316 := n0_; have HB := n1_; clear n0_ n1_; clear hb ho3))
 go_loopg [3, 4] k (fun kq v3 v4 w' => ∃ (x3_1 : List (S28)) (x4_1 : Int), v4 = .int .i64 x4_1 ∧ Aside0 (spec_l13Copy.l0 kq l0 x3_1 x4_1 = some r) ∧ Aside0 (kq ≤ k) ∧ Aside0 (Kd.S k28 28 w' w.heap.size (fun _ => True) v3 x3_1) ∧ Aside0 (Below w.heap.size w w'))
 case atStart => exact ⟨(y314), (0), rs_, H', ⟨Nat.le_refl _⟩, ⟨by (with_reducible repeat (first | apply Kd.S_alloc | apply Kd.S_drewN | apply Kd.S_drew)); exact HO316.out⟩, ⟨bB_⟩⟩
 case round =>
  clear H'
  try clear p2
  obtain ⟨x3_1, x4_1, rfl, HA, HK1, HO_3, HB⟩ := hrel
  cases gk with
  | zero => exact absurd HA.out (by simp [spec_l13Copy.l0])
  | succ k1 =>
   have H := HA.out
   clear HA
   simp only [spec_l13Copy.l0] at H
   by_cases c4 : x4_1 < (l0.length : Int)
   rotate_left
   · rw [if_neg c4] at H
     have c4b0 : decide (x4_1 < (l0.length : Int)) = false := decide_eq_false c4
     clear c4
     obtain rfl := Option.some.inj H
     go_wp2
     go_ret
     exact ⟨_, rr_, by (with_reducible repeat (first | apply Kd.S_alloc | apply Kd.S_drewN | apply Kd.S_drew)); exact HO_3.out, bB_⟩
   rw [if_pos c4] at H
   have c4b0 : decide (x4_1 < (l0.length : Int)) = true := decide_eq_true c4
   clear c4
   by_cases c5 : 0 ≤ x4_1
   rotate_left
   · exact absurd H (by rw [if_neg c5]; simp)
   rw [if_pos c5] at H
   have c5b0 : decide (0 ≤ x4_1) = true := decide_eq_true c5
   clear c5
   obtain ⟨y319, hy319⟩ : ∃ y_ : List ByteArray, y_ = (([] : List ByteArray)) := ⟨_, rfl⟩
   replace H : (if y319.length + ((rd_T28 l0 x4_1).f1).length < 8796093022208 then (if x3_1.length < 2932031007402 then (spec_l13Copy.l0 k1 l0 (x3_1 ++ [(⟨(rd_T28 l0 x4_1).f0, (y319 ++ ((rd_T28 l0 x4_1).f1)), (rd_T28 l0 x4_1).f2, (rd_T28 l0 x4_1).f3, (rd_T28 l0 x4_1).f4⟩ : S28)]) (wrap64 (x4_1 + 1))) else (none)) else (none)) = some r := by first | (rw [hy319]; with_reducible exact H) | (have H2_ := (Option.bind_some _ _).symm.trans H; rw [hy319]; with_reducible exact H2_) | (have H2_ := (Option.bind_some _ _).symm.trans H; with_reducible exact H2_) | with_reducible exact H | (rw [hy319]; exact H) | exact H
   have Ny319 := Aside0.mk hy319
   clear hy319
   by_cases c6 : y319.length + ((rd_T28 l0 x4_1).f1).length < 8796093022208
   rotate_left
   · exact absurd H (by rw [if_neg c6]; simp)
   rw [if_pos c6] at H
   have LMc6 := Aside0.mk c6
   clear c6
   obtain ⟨y323, hy323⟩ : ∃ y_ : List ByteArray, y_ = (y319 ++ ((rd_T28 l0 x4_1).f1)) := ⟨_, rfl⟩
   replace H : (if x3_1.length < 2932031007402 then (spec_l13Copy.l0 k1 l0 (x3_1 ++ [(⟨(rd_T28 l0 x4_1).f0, y323, (rd_T28 l0 x4_1).f2, (rd_T28 l0 x4_1).f3, (rd_T28 l0 x4_1).f4⟩ : S28)]) (wrap64 (x4_1 + 1))) else (none)) = some r := by first | (rw [hy323]; with_reducible exact H) | (have H2_ := (Option.bind_some _ _).symm.trans H; rw [hy323]; with_reducible exact H2_) | (have H2_ := (Option.bind_some _ _).symm.trans H; with_reducible exact H2_) | with_reducible exact H | (rw [hy323]; exact H) | exact H
   have Ny323 := Aside0.mk hy323
   clear hy323
   by_cases c7 : x3_1.length < 2932031007402
   rotate_left
   · exact absurd H (by rw [if_neg c7]; simp)
   rw [if_pos c7] at H
   have LMc7 := Aside0.mk c7
   clear c7
   obtain ⟨y326, hy326⟩ : ∃ y_ : List (S28), y_ = (x3_1 ++ [(⟨(rd_T28 l0 x4_1).f0, y323, (rd_T28 l0 x4_1).f2, (rd_T28 l0 x4_1).f3, (rd_T28 l0 x4_1).f4⟩ : S28)]) := ⟨_, rfl⟩
   replace H : (spec_l13Copy.l0 k1 l0 y326 (wrap64 (x4_1 + 1))) = some r := by first | (rw [hy326]; with_reducible exact H) | (have H2_ := (Option.bind_some _ _).symm.trans H; rw [hy326]; with_reducible exact H2_) | (have H2_ := (Option.bind_some _ _).symm.trans H; with_reducible exact H2_) | with_reducible exact H | (rw [hy326]; exact H) | exact H
   have Ny326 := Aside0.mk hy326
   clear hy326
   have H' := Aside0.mk H
   clear H
   have p317 : 0 ≤ (x4_1 : Int) := of_decide_eq_true as_
   have q317 : x4_1 < (l0.length : Int) := of_decide_eq_true as_
   obtain ⟨ad317, A317_1, c317_1, e317, hx317_0, hx317_1, hx317_2, hx317_3, hx317_4, hl317_1, hi317_1⟩ := at_T28 HR0.out x4_1 p317 q317
   cases e317
   replace hx317_0 := bc_ HB.out hx317_0
   replace hx317_1 := bc_ HB.out hx317_1
   replace hx317_2 := bc_ HB.out hx317_2
   replace hx317_3 := bc_ HB.out hx317_3
   replace hx317_4 := bc_ HB.out hx317_4
   have HR317_1 := Aside0.mk hi317_1
   have HC317_1 := Aside0.mk hl317_1
   clear hi317_1 hl317_1
   replace p317 := eq_true p317
   replace q317 := eq_true q317
   go_wp2_with (first | ((with_reducible refine gate_dst (N := 5) rfl ?_); refine bx_ (N := 5) (cs := #[.int .i64 0, .slice none 0 0, .bool false, .bool false, .int .i64 0]) (t := 28) ?_; intro gb318 hg w8 hbox hb; have n0_ := Aside0.mk (Kd.S_below (Kd.S_elderB (vS_ HO_3.out) gb318 (Nat.le_of_eq hg.symm)) hb); have n1_ := Aside0.mk (below_step bB_ hb); have n2_ := Aside0.mk (hbox); have n3_ := Aside0.mk (ge_ hg bB_ : w.heap.size ≤ gb318); have n4_ := Aside0.mk (ge_ hg bB_ : w.heap.size ≤ gb318); clear HO_3; clear HB; have HO_3 := n0_; have HB := n1_; have BK318 := n2_; have GW318 := n3_; have GE318 := n4_; clear n0_ n1_ n2_ n3_ n4_; clear hb hbox hg; obtain ⟨hcz9_0, hcz9_1, hcz9_2, hcz9_3, hcz9_4, hfz9_0, hfz9_1, hfz9_2, hfz9_3, hfz9_4⟩ := cz5_ BK318.out) | ((with_reducible refine gate_dst (N := 17) rfl ?_); refine Kd.R_lit Kd.string _ 9 ?hg (N := 17) ?hd (xs := ([] : List ByteArray)) (inner := []) (ok := fun _ => True) (okp := fun _ => True) ?hr ?hp (fun _ hk => hk) trivial (Below.refl _ _) (Nat.le_refl _) (by simp) ?_; (case hd => rfl); (case hg => rfl); (case hr => first | (go_simp; done) | (go_simp; rfl)); (case hp => exact (Reps.none _ _)); intro v320 w10 ho11 hb hg_ hnew_; clear hg_ hnew_; (first | rw [← Ny319.out] at ho11 | (simp only [Int.reduceToNat] at ho11; rw [← Ny319.out] at ho11)); have n0_ := Aside0.mk (Kd.S_elder' (by (with_reducible repeat (first | apply Kd.S_alloc | apply Kd.S_drewN | apply Kd.S_drew)); exact (Kd.S_mono (Kd.S_far (p := ⟨gb318, 4, none⟩) (Kd.S_far (p := ⟨gb318, 3, none⟩) (Kd.S_far (p := ⟨gb318, 2, none⟩) (Kd.S_far (p := ⟨gb318, 1, none⟩) (Kd.S_far (p := ⟨gb318, 0, none⟩) (Kd.S_mono HO_3.out (fun k_ hk => (⟨hk, hk.2⟩ : _ ∧ k_ ≠ gb318))) (fun _ hk => hk.2) (.int .i64 ((rd_T28 l0 x4_1).f0))) (fun _ hk => hk.2) (.slice A317_1 ((rd_T28 l0 x4_1).f1).length c317_1)) (fun _ hk => hk.2) (.bool ((rd_T28 l0 x4_1).f2))) (fun _ hk => hk.2) (.bool ((rd_T28 l0 x4_1).f3))) (fun _ hk => hk.2) (.int .i64 ((rd_T28 l0 x4_1).f4))) (fun _ h_ => h_.1))) (by first | exact Kd.R_base ho11 | exact Kd.S_base ho11) hb); have n1_ := Aside0.mk (Kd.R_lower ho11 (below_size (bG_ GE318.out))); have n2_ := Aside0.mk (blk_below (g := gb318) (o := .cells #[.int .i64 ((rd_T28 l0 x4_1).f0), .slice A317_1 ((rd_T28 l0 x4_1).f1).length c317_1, .bool ((rd_T28 l0 x4_1).f2), .bool ((rd_T28 l0 x4_1).f3), .int .i64 ((rd_T28 l0 x4_1).f4)] 28 (0, 0)) (by (with_reducible repeat (first | refine blk_drewN ?_ _ | refine blk_drew ?_ | refine blk_alloc ?_ _)); refine blk_put (cs := #[.int .i64 ((rd_T28 l0 x4_1).f0), .slice A317_1 ((rd_T28 l0 x4_1).f1).length c317_1, .bool ((rd_T28 l0 x4_1).f2), .bool ((rd_T28 l0 x4_1).f3), .int .i64 0]) ?_ 4 _ rfl; (with_reducible repeat (first | refine blk_drewN ?_ _ | refine blk_drew ?_ | refine blk_alloc ?_ _)); refine blk_put (cs := #[.int .i64 ((rd_T28 l0 x4_1).f0), .slice A317_1 ((rd_T28 l0 x4_1).f1).length c317_1, .bool ((rd_T28 l0 x4_1).f2), .bool false, .int .i64 0]) ?_ 3 _ rfl; (with_reducible repeat (first | refine blk_drewN ?_ _ | refine blk_drew ?_ | refine blk_alloc ?_ _)); refine blk_put (cs := #[.int .i64 ((rd_T28 l0 x4_1).f0), .slice A317_1 ((rd_T28 l0 x4_1).f1).length c317_1, .bool false, .bool false, .int .i64 0]) ?_ 2 _ rfl; (with_reducible repeat (first | refine blk_drewN ?_ _ | refine blk_drew ?_ | refine blk_alloc ?_ _)); refine blk_put (cs := #[.int .i64 ((rd_T28 l0 x4_1).f0), .slice none 0 0, .bool false, .bool false, .int .i64 0]) ?_ 1 _ rfl; (with_reducible repeat (first | refine blk_drewN ?_ _ | refine blk_drew ?_ | refine blk_alloc ?_ _)); refine blk_put (cs := #[.int .i64 0, .slice none 0 0, .bool false, .bool false, .int .i64 0]) ?_ 0 _ rfl; (with_reducible repeat (first | refine blk_drewN ?_ _ | refine blk_drew ?_ | refine blk_alloc ?_ _)); exact BK318.out) hb); have n3_ := Aside0.mk (below_step (bG_ GE318.out) hb); clear HO_3; clear BK318; clear HB; have HO_3 := n0_; have HO321 := n1_; have BK318 := n2_; have HB := n3_; clear n0_ n1_ n2_ n3_; clear hb ho11; have p322 : 0 ≤ (x4_1 : Int) := of_decide_eq_true as_; have q322 : x4_1 < (l0.length : Int) := of_decide_eq_true as_; obtain ⟨ad322, A322_1, c322_1, e322, hx322_0, hx322_1, hx322_2, hx322_3, hx322_4, hl322_1, hi322_1⟩ := at_T28 HR0.out x4_1 p322 q322; obtain rfl : ad317 = ad322 := (by injection e322); replace hx322_0 := bc_ HB.out hx322_0; replace hx322_1 := bc_ HB.out hx322_1; replace hx322_2 := bc_ HB.out hx322_2; replace hx322_3 := bc_ HB.out hx322_3; replace hx322_4 := bc_ HB.out hx322_4; have HR322_1 := Aside0.mk hi322_1; have HC322_1 := Aside0.mk hl322_1; clear hi322_1 hl322_1; replace p322 := eq_true p322; replace q322 := eq_true q322) | ((with_reducible refine gate_builtin (b := .append) (xs := #[.tmp 17, .tmp 22]) rfl ?_); at_builtin; refine Kd.R_append_rows Kd.string (w0 := w) w.heap.size rfl (.tmp 17) (.tmp 22) 22 9 (.string ⟨#[]⟩) 16 rfl Try.underlying22 info9 rfl (by decide) (by omega) v320 y319 ((rd_T28 l0 x4_1).f1) _ _ _ (fun _ => True) (fun _ => False) rfl rfl ?aO ?aR (fun _ _ h => h) (fun _ h => h.elim) ?aF ?aB ?aS ?aL ?_; (case aR => exact cC_ (Kd.C_below HR322_1.out HB.out)); (case aB => exact (bG_ GE318.out)); (case aF => exact (fun _ _ => trivial)); (case aO => exact (vR_ HO321.out)); (case aS => exact (below_size (bG_ GE318.out))); (case aL => have := LMc6.out; omega); intro v324 w12 ho hb hg hat; rw [← Ny323.out] at ho; have n0_ := Aside0.mk (Kd.S_after (ok := (fun k_ => k_ ≠ gb318)) (by (with_reducible repeat (first | apply Kd.S_alloc | apply Kd.S_drewN | apply Kd.S_drew)); exact Kd.S_mono HO_3.out (fun _ hk => ⟨hk.1.2, hk.2⟩)) hg hat); have n1_ := Aside0.mk (blk_grown (g := gb318) (o := .cells #[.int .i64 ((rd_T28 l0 x4_1).f0), .slice A317_1 ((rd_T28 l0 x4_1).f1).length c317_1, .bool ((rd_T28 l0 x4_1).f2), .bool ((rd_T28 l0 x4_1).f3), .int .i64 ((rd_T28 l0 x4_1).f4)] 28 (0, 0)) (vb_ BK318.out) hg (Kd.R_ne HO321.out BK318.out (by decide))); have n2_ := Aside0.mk (hb); have n3_ := Aside0.mk (ho); clear HO_3; clear BK318; clear HB; clear HO321; have HO_3 := n0_; have BK318 := n1_; have HB := n2_; have HO325 := n3_; clear n0_ n1_ n2_ n3_; clear ho hb hg hat; obtain ⟨Ao13, co13, eo13⟩ := Kd.R_slice HO325.out; subst eo13; obtain ⟨hcz14_0, hcz14_1, hcz14_2, hcz14_3, hcz14_4, hfz14_0, hfz14_1, hfz14_2, hfz14_3, hfz14_4⟩ := cz5_ BK318.out) | ((with_reducible refine gate_store (t := 22) (p := 24) rfl ?_); refine store_event (t := 22) (p := 24) (v := ?vo_w15) (w1 := (w12.setCell ⟨gb318, 1, none⟩ (.slice Ao13 y323.length co13))) ?hg ?ho ?hn ?hr ?_; (case ho => rfl); (case hg => rfl); (case hn => rfl); (case hr => first | (go_simp; done) | (go_simp; rfl)); intro w15 hw; have n0_ : Aside0 (Kd.S k28 28 w15 w.heap.size (fun k_ => some k_ ≠ (.slice Ao13 y323.length co13 : Value).ownBlock ∧ k_ ≠ gb318) u3 x3_1) := ⟨(by rw [hw]; exact (by (with_reducible repeat (first | apply Kd.S_alloc | apply Kd.S_drewN | apply Kd.S_drew)); exact Kd.S_mono (Kd.S_far (p := ⟨gb318, 1, none⟩) (Kd.S_mono HO_3.out (fun k_ hk => (⟨hk, hk.1⟩ : _ ∧ k_ ≠ gb318))) (fun _ hk => hk.2) (.slice Ao13 y323.length co13)) (fun _ hk => ⟨hk.1.2, hk.1.1⟩)))⟩; have n1_ : Aside0 (Kd.R Kd.string 9 w15 w.heap.size (fun _ => True) (.slice Ao13 y323.length co13) y323) := ⟨(by rw [hw]; exact (by (with_reducible repeat (first | apply Kd.R_alloc | apply Kd.R_drewN | apply Kd.R_drew)); exact Kd.R_mono (Kd.R_far (p := ⟨gb318, 1, none⟩) (Kd.R_types HO325.out BK318.out (by decide)) (fun _ hk => hk.2) (.slice Ao13 y323.length co13)) (fun _ hk => trivial)))⟩; have n2_ : Aside0 (w15.heap[gb318]? = some (.cells #[.int .i64 ((rd_T28 l0 x4_1).f0), .slice Ao13 y323.length co13, .bool ((rd_T28 l0 x4_1).f2), .bool ((rd_T28 l0 x4_1).f3), .int .i64 ((rd_T28 l0 x4_1).f4)] 28 (0, 0))) := ⟨(by rw [hw]; exact (by (with_reducible repeat (first | refine blk_drewN ?_ _ | refine blk_drew ?_ | refine blk_alloc ?_ _)); refine blk_put (cs := #[.int .i64 ((rd_T28 l0 x4_1).f0), .slice A317_1 ((rd_T28 l0 x4_1).f1).length c317_1, .bool ((rd_T28 l0 x4_1).f2), .bool ((rd_T28 l0 x4_1).f3), .int .i64 ((rd_T28 l0 x4_1).f4)]) ?_ 1 _ rfl; (with_reducible repeat (first | refine blk_drewN ?_ _ | refine blk_drew ?_ | refine blk_alloc ?_ _)); exact BK318.out))⟩; have n3_ : Aside0 (Below w.heap.size w w15) := ⟨(by rw [hw]; exact (bG_ GE318.out))⟩; clear hw; clear HO_3; clear HO325; clear BK318; clear HB; have HO_3 := n0_; have HO325 := n1_; have BK318 := n2_; have HB := n3_; clear n0_ n1_ n2_ n3_; obtain ⟨hcz16_0, hcz16_1, hcz16_2, hcz16_3, hcz16_4, hfz16_0, hfz16_1, hfz16_2, hfz16_3, hfz16_4⟩ := cz5_ BK318.out) | ((with_reducible refine gate_builtin (b := .append) (xs := #[.tmp 25, .tmp 27]) rfl ?_); at_builtin; refine Kd.S_append k28 (w0 := w) w.heap.size rfl (.tmp 25) (.tmp 27) 39 28 (.agg #[(.int .i64 0), (.slice none 0 0), (.bool false), (.bool false), (.int .i64 0)]) 48 rfl Try.underlying39 info28 rfl (by decide) (by omega) u3 x3_1 (⟨(rd_T28 l0 x4_1).f0, y323, (rd_T28 l0 x4_1).f2, (rd_T28 l0 x4_1).f3, (rd_T28 l0 x4_1).f4⟩ : S28) [.int .i64 ((rd_T28 l0 x4_1).f0), .slice Ao13 y323.length co13, .bool ((rd_T28 l0 x4_1).f2), .bool ((rd_T28 l0 x4_1).f3), .int .i64 ((rd_T28 l0 x4_1).f4)] (fun k_ => k_ ≠ gb318) (fun k_ => some k_ = (.slice Ao13 y323.length co13 : Value).ownBlock) rfl rfl ?aP (fun k_ hk_ => ((Kd.R_mono (ok' := fun k_ => ((fun k_ => k_ ≠ gb318)) k_ ∧ some k_ ≠ (u3 : Value).ownBlock) (Kd.R_types (Kd.R_apart' (HO325.out) (Kd.S_typed HO_3.out) (by decide)) BK318.out (by decide)) (fun k_ hk => ⟨hk.2, hk.1.2⟩))).1 k_ hk_.symm) ?aF ?aO ?aB ?aS ?aL ?_; (case aP => exact k28_mkM _ _ _ (⟨(rd_T28 l0 x4_1).f0, y323, (rd_T28 l0 x4_1).f2, (rd_T28 l0 x4_1).f3, (rd_T28 l0 x4_1).f4⟩ : S28) (Kd.R_mono (Kd.R_tight rfl (Kd.R_mono (ok' := fun k_ => ((fun k_ => k_ ≠ gb318)) k_ ∧ some k_ ≠ (u3 : Value).ownBlock) (Kd.R_types (Kd.R_apart' (HO325.out) (Kd.S_typed HO_3.out) (by decide)) BK318.out (by decide)) (fun k_ hk => ⟨hk.2, hk.1.2⟩))) (fun _ h_ => h_))); (case aB => exact (bG_ GE318.out)); (case aF => exact (fun k_ hk => Kd.freshB (g := gb318) (o := .cells #[.int .i64 ((rd_T28 l0 x4_1).f0), .slice Ao13 y323.length co13, .bool ((rd_T28 l0 x4_1).f2), .bool ((rd_T28 l0 x4_1).f3), .int .i64 ((rd_T28 l0 x4_1).f4)] 28 (0, 0)) (vb_ BK318.out) k_ hk)); (case aO => exact (by (with_reducible repeat (first | apply Kd.S_alloc | apply Kd.S_drewN | apply Kd.S_drew)); exact Kd.S_mono HO_3.out (fun k_ hk => ⟨hk.2, fun e_ => hk.1 e_⟩))); (case aS => exact (below_size (bG_ GE318.out))); (case aL => have := LMc7.out; omega); intro v327 w17 ho hb hg hat; rw [← Ny326.out] at ho; have n0_ := Aside0.mk (blk_grown (g := gb318) (o := .cells #[.int .i64 ((rd_T28 l0 x4_1).f0), .slice Ao13 y323.length co13, .bool ((rd_T28 l0 x4_1).f2), .bool ((rd_T28 l0 x4_1).f3), .int .i64 ((rd_T28 l0 x4_1).f4)] 28 (0, 0)) (vb_ BK318.out) hg (Kd.S_away HO_3.out (fun _ hk => hk.2))); have n1_ := Aside0.mk (hb); have n2_ := Aside0.mk (ho); clear BK318; clear HB; clear HO_3; clear HO325; have BK318 := n0_; have HB := n1_; have HO328 := n2_; clear n0_ n1_ n2_; clear ho hb hg hat))
   go_roundg k1
   case measure => have := HK1.out; omega
   case rel => exact ⟨(y326), (wrap64 (x4_1 + 1)), rs_, H', ⟨by have := HK1.out; omega⟩, ⟨by (with_reducible repeat (first | apply Kd.S_alloc | apply Kd.S_drewN | apply Kd.S_drew)); exact Kd.S_mono HO328.out (fun _ hk => trivial)⟩, ⟨bG_ GE318.out⟩⟩
def laws_big.f (l0 : List Int) : Option (Bool) := some (decide ((l0.length : Int) > 1048576))
set_option maxHeartbeats 8000000 in
set_option maxRecDepth 100000 in
theorem laws_big.calls (A0 : Option Addr) (c0 : Nat) (l0 : List Int) (r : Bool) (w : World) (hr0 : Kd.C (Kd.int .u8) w A0 l0.length l0) (hc0 : l0.length ≤ c0) (h : laws_big.f l0 = some r) :
 Calls Try.prog 50 #[.slice A0 l0.length c0] w fun e w' => e = .returned (.bool r) ∧ Drawn0 w w' := by
 have HR0 := Aside0.mk hr0
 have HC0 := Aside0.mk hc0
 clear hr0 hc0
 have H : (some (decide ((l0.length : Int) > 1048576))) = some r := h
 clear h
 obtain rfl := Option.some.inj H
 go_enter Try.func50, Try.ntmps50
 go_wp2
 go_ret
 exact ⟨rs_, dr_⟩
def IsS93 (w0 W : World) (g : Nat) (f0 : List Int) (f1 : Int) (f2 : Int) : Prop := ∃ A0 c0, W.heap[g]? = some (.cells #[.slice A0 f0.length c0, .int .i64 f1, .int .i64 f2] 93 (0, 0)) ∧ w0.heap.size ≤ g ∧ Kd.C (Kd.int .u8) w0 A0 f0.length f0
theorem IsS93.grown {w0 W : World} {g : Nat} {f0 : List Int} {f1 : Int} {f2 : Int} {W1 : World} {row : Option Nat} (h : IsS93 w0 W g f0 f1 f2) (hw : W.grownBy W1 row) (hne : some g ≠ row) : IsS93 w0 W1 g f0 f1 f2 := by
 obtain ⟨A0, c0, hb, hg, hr0⟩ := h
 exact ⟨A0, c0, blk_grown hb hw hne, hg, hr0⟩
theorem IsS93.kept {w0 W : World} {g : Nat} {f0 : List Int} {f1 : Int} {f2 : Int} {W1 : World} {S : Nat → Prop} (h : IsS93 w0 W g f0 f1 f2) (hk : Kept W W1 S) (hne : ¬ S g) : IsS93 w0 W1 g f0 f1 f2 := by
 obtain ⟨A0, c0, hb, hg, hr0⟩ := h
 exact ⟨A0, c0, blk_kept hb hk hne, hg, hr0⟩
theorem IsS93.below {w0 W : World} {g : Nat} {f0 : List Int} {f1 : Int} {f2 : Int} {W1 : World} (h : IsS93 w0 W g f0 f1 f2) (hw : Below W.heap.size W W1) : IsS93 w0 W1 g f0 f1 f2 := h.grown (grown_of_below hw none) (by simp)
theorem IsS93.alloc {w0 W : World} {g : Nat} {f0 : List Int} {f1 : Int} {f2 : Int} (h : IsS93 w0 W g f0 f1 f2) (o : Obj) : IsS93 w0 (W.alloc o) g f0 f1 f2 := h.below (below_alloc (Below.refl _ _) o)
theorem IsS93.drewN {w0 W : World} {g : Nat} {f0 : List Int} {f1 : Int} {f2 : Int} (h : IsS93 w0 W g f0 f1 f2) (m : Nat) : IsS93 w0 (W.drewN m) g f0 f1 f2 := h
theorem IsS93.drew {w0 W : World} {g : Nat} {f0 : List Int} {f1 : Int} {f2 : Int} (h : IsS93 w0 W g f0 f1 f2) : IsS93 w0 W.drew g f0 f1 f2 := h
theorem IsS93.apart {w0 W : World} {g : Nat} {f0 : List Int} {f1 : Int} {f2 : Int} {α : Type} {d : Kd α} {e : Nat} {base : Nat} {ok : Nat → Prop} {v : Value} {xs : List α} (h : IsS93 w0 W g f0 f1 f2) (ho : d.R e W base ok v xs) (ht : ∀ q, q ∈ e :: d.E → q ≠ 93) : d.R e W base (fun k => ok k ∧ k ≠ g) v xs := by
 obtain ⟨A0, c0, hb, hg, hr0⟩ := h
 exact Kd.R_types ho hb ht
theorem IsS93.own_ne {w0 W : World} {g : Nat} {f0 : List Int} {f1 : Int} {f2 : Int} {α : Type} {d : Kd α} {e : Nat} {base : Nat} {ok : Nat → Prop} {v : Value} {xs : List α} (h : IsS93 w0 W g f0 f1 f2) (ho : d.R e W base ok v xs) (ht : e ≠ 93) : some g ≠ v.ownBlock := by
 obtain ⟨A0, c0, hb, hg, hr0⟩ := h
 exact Kd.R_ne ho hb ht
theorem IsS93.apartS {w0 W : World} {g : Nat} {f0 : List Int} {f1 : Int} {f2 : Int} {α : Type} {d : Kd α} {e : Nat} {base : Nat} {ok : Nat → Prop} {v : Value} {xs : List α} (h : IsS93 w0 W g f0 f1 f2) (ho : d.S e W base ok v xs) (ht : ∀ q, q ∈ e :: d.E → q ≠ 93) : d.S e W base (fun k => ok k ∧ k ≠ g) v xs := by
 obtain ⟨A0, c0, hb, hg, hr0⟩ := h
 exact Kd.S_types ho hb ht
theorem IsS93.own_neS {w0 W : World} {g : Nat} {f0 : List Int} {f1 : Int} {f2 : Int} {α : Type} {d : Kd α} {e : Nat} {base : Nat} {ok : Nat → Prop} {v : Value} {xs : List α} (h : IsS93 w0 W g f0 f1 f2) (ho : d.S e W base ok v xs) (ht : e ≠ 93) : some g ≠ v.ownBlock := by
 obtain ⟨A0, c0, hb, hg, hr0⟩ := h
 exact Kd.S_ne ho hb ht
theorem IsS93.lt {w0 W : World} {g : Nat} {f0 : List Int} {f1 : Int} {f2 : Int} (h : IsS93 w0 W g f0 f1 f2) : g < W.heap.size := by
 obtain ⟨A0, c0, hb, hg, hr0⟩ := h
 exact blk_lt hb
theorem IsS93.ge {w0 W : World} {g : Nat} {f0 : List Int} {f1 : Int} {f2 : Int} (h : IsS93 w0 W g f0 f1 f2) : w0.heap.size ≤ g := by
 obtain ⟨A0, c0, hb, hg, hr0⟩ := h
 exact hg
theorem IsS93.far {w0 W : World} {g : Nat} {f0 : List Int} {f1 : Int} {f2 : Int} {p : Addr} (h : IsS93 w0 W g f0 f1 f2) (hne : g ≠ p.block) (u : Value) : IsS93 w0 (W.setCell p u) g f0 f1 f2 := by
 obtain ⟨A0, c0, hb, hg, hr0⟩ := h
 exact ⟨A0, c0, blk_far hb hne u, hg, hr0⟩
theorem cellS93_0 {W : World} {g : Nat} {A0 : Option Addr} {c0 : Nat} {f0 : List Int} {f1 : Int} {f2 : Int} (h : W.heap[g]? = some (.cells #[.slice A0 f0.length c0, .int .i64 f1, .int .i64 f2] 93 (0, 0))) : W.cell? ⟨g, 0, none⟩ = some (.slice A0 f0.length c0) := (blk_cell h 0).trans rfl
theorem cellS93_1 {W : World} {g : Nat} {A0 : Option Addr} {c0 : Nat} {f0 : List Int} {f1 : Int} {f2 : Int} (h : W.heap[g]? = some (.cells #[.slice A0 f0.length c0, .int .i64 f1, .int .i64 f2] 93 (0, 0))) : W.cell? ⟨g, 1, none⟩ = some (.int .i64 f1) := (blk_cell h 1).trans rfl
theorem IsS93.set_1 {w0 W : World} {g : Nat} {f0 : List Int} {f1 : Int} {f2 : Int} (h : IsS93 w0 W g f0 f1 f2) (x : Int) : IsS93 w0 (W.setCell ⟨g, 1, none⟩ (.int .i64 x)) g f0 x f2 := by
 obtain ⟨A0, c0, hb, hg, hr0⟩ := h
 exact ⟨A0, c0, by simpa using blk_set hb 1 (.int .i64 x), hg, hr0⟩
theorem cellS93_2 {W : World} {g : Nat} {A0 : Option Addr} {c0 : Nat} {f0 : List Int} {f1 : Int} {f2 : Int} (h : W.heap[g]? = some (.cells #[.slice A0 f0.length c0, .int .i64 f1, .int .i64 f2] 93 (0, 0))) : W.cell? ⟨g, 2, none⟩ = some (.int .i64 f2) := (blk_cell h 2).trans rfl
theorem IsS93.set_2 {w0 W : World} {g : Nat} {f0 : List Int} {f1 : Int} {f2 : Int} (h : IsS93 w0 W g f0 f1 f2) (x : Int) : IsS93 w0 (W.setCell ⟨g, 2, none⟩ (.int .i64 x)) g f0 f1 x := by
 obtain ⟨A0, c0, hb, hg, hr0⟩ := h
 exact ⟨A0, c0, by simpa using blk_set hb 2 (.int .i64 x), hg, hr0⟩
def spec_l1New.l0 : Nat → List Int → Int → Int → Option (List Int × Int × Int)
 | 0, _, _, _ => none
 | k + 1, x0, x3, x4 => if x4 < (x0.length : Int) then (if x4 < 4000 then (if 0 ≤ x4 then (spec_l1New.l0 k x0 (Go.bits .and .i64 (wrap64 ((wrap64 ((wrap64 (x3 * 137)) + (wrap64 (rd x0 x4)))) + 11)) 1073741823) (wrap64 (x4 + 1))) else (none)) else (some (x0, 0, x3))) else (some (x0, 0, x3))
def spec_l1New.f (k : Nat) (l0 : List Int) : Option (List Int × Int × Int) := spec_l1New.l0 k l0 (wrap64 (774774 + (l0.length : Int))) 0
set_option maxHeartbeats 8000000 in
set_option maxRecDepth 100000 in
theorem spec_l1New.calls (k : Nat) (A0 : Option Addr) (c0 : Nat) (l0 : List Int) (r1 : List Int) (r2 : Int) (r3 : Int) (w0 w : World) (hB : Below w0.heap.size w0 w) (hr0 : Kd.C (Kd.int .u8) w0 A0 l0.length l0) (hc0 : l0.length ≤ c0) (h : spec_l1New.f k l0 = some (r1, r2, r3)) :
 Calls Try.prog 78 #[.slice A0 l0.length c0] w fun e w' => ∃ g_ : Nat, e = .returned (.pointer (some ⟨g_, 0, none⟩)) ∧ IsS93 w0 w' g_ r1 r2 r3 ∧ Below w0.heap.size w0 w' ∧ Below w.heap.size w w' := by
 have hu93 := Try.underlying93
 have HR0 := Aside0.mk hr0
 have HC0 := Aside0.mk hc0
 clear hr0 hc0
 have HBW := Aside0.mk (Below.refl w.heap.size w)
 have HW0 := Aside0.mk hB.size
 have HB := Aside0.mk hB
 clear hB
 have H : (spec_l1New.l0 k l0 (wrap64 (774774 + (l0.length : Int))) 0) = some (r1, r2, r3) := h
 clear h
 have H' := Aside0.mk H
 clear H
 go_enter Try.func78, Try.ntmps78
 go_wp2
 go_loopg [3, 4] k (fun kq v3 v4 w' => ∃ (x3_1 : Int) (x4_1 : Int), v3 = .int .i64 x3_1 ∧ v4 = .int .i64 x4_1 ∧ Aside0 (spec_l1New.l0 kq l0 x3_1 x4_1 = some (r1, r2, r3)) ∧ Aside0 (kq ≤ k) ∧ Aside0 (Below w0.heap.size w0 w') ∧ Aside0 (Below w.heap.size w w'))
 case atStart => exact ⟨(wrap64 (774774 + (l0.length : Int))), (0), rs_, rs_, H', ⟨Nat.le_refl _⟩, ⟨bB_⟩, ⟨by repeat (first | (with_reducible first | exact HBW.out | apply below_alloc | apply pw_below_drewN | apply below_drew1) | exact HBW.out)⟩⟩
 case round =>
  clear H'
  obtain ⟨x3_1, x4_1, rfl, rfl, HA, HK1, HB, HBW⟩ := hrel
  cases gk with
  | zero => exact absurd HA.out (by simp [spec_l1New.l0])
  | succ k1 =>
   have H := HA.out
   clear HA
   simp only [spec_l1New.l0] at H
   by_cases c2 : x4_1 < (l0.length : Int)
   rotate_left
   · rw [if_neg c2] at H
     have c2b0 : decide (x4_1 < (l0.length : Int)) = false := decide_eq_false c2
     clear c2
     simp only [Option.some.injEq, Prod.mk.injEq] at H
     obtain ⟨rfl, rfl, rfl⟩ := H
     go_wp2_with (first | ((with_reducible refine gate_dst (N := 31) rfl ?_); refine bx_ (N := 31) (cs := #[.slice A0 l0.length c0, .int .i64 0, .int .i64 x3_1]) (t := 93) ?_; intro gb640 hg w6 hbox hb; have n0_ := Aside0.mk (below_step HBW.out hb); have n1_ := Aside0.mk (below_step bB_ hb); have n2_ := Aside0.mk (hbox); have n3_ := Aside0.mk ((by rw [hg]; exact (below_size (by repeat (first | (with_reducible first | exact HBW.out | apply below_alloc | apply pw_below_drewN | apply below_drew1) | exact HBW.out))) : w.heap.size ≤ gb640)); have n4_ := Aside0.mk ((Nat.le_trans HW0.out (by rw [hg]; exact (below_size (by repeat (first | (with_reducible first | exact HBW.out | apply below_alloc | apply pw_below_drewN | apply below_drew1) | exact HBW.out))) : w.heap.size ≤ gb640) : w0.heap.size ≤ gb640)); clear HBW; clear HB; have HBW := n0_; have HB := n1_; have BK640 := n2_; have GW640 := n3_; have GE640 := n4_; clear n0_ n1_ n2_ n3_ n4_; clear hb hbox hg))
     go_ret
     exact ⟨_, rfl, (show IsS93 w0 _ gb640 l0 0 x3_1 from ⟨_, _, by (with_reducible repeat (first | refine blk_drewN ?_ _ | refine blk_drew ?_ | refine blk_alloc ?_ _)); exact BK640.out, GE640.out, HR0.out⟩), bG_ GE640.out, by repeat (first | (with_reducible first | exact HBW.out | apply below_alloc | apply pw_below_drewN | apply below_drew1 | refine below_set ?_ GW640.out) | exact HBW.out)⟩
   rw [if_pos c2] at H
   have c2b0 : decide (x4_1 < (l0.length : Int)) = true := decide_eq_true c2
   clear c2
   by_cases c3 : x4_1 < 4000
   · rw [if_pos c3] at H
     have c3b0 : decide (x4_1 < 4000) = true := decide_eq_true c3
     clear c3
     by_cases c4 : 0 ≤ x4_1
     rotate_left
     · exact absurd H (by rw [if_neg c4]; simp)
     rw [if_pos c4] at H
     have c4b0 : decide (0 ≤ x4_1) = true := decide_eq_true c4
     clear c4
     have H' := Aside0.mk H
     clear H
     have p638 : 0 ≤ (x4_1 : Int) := of_decide_eq_true as_
     have q638 : x4_1 < (l0.length : Int) := of_decide_eq_true as_
     obtain ⟨ad638, e638, hx638_0⟩ := Kd.at_int HR0.out x4_1 p638 q638
     cases e638
     replace hx638_0 := pw_cell_below HB.out hx638_0
     replace p638 := eq_true p638
     replace q638 := eq_true q638
     go_wp2
     go_roundg k1
     case measure => have := HK1.out; omega
     case rel => exact ⟨(Go.bits .and .i64 (wrap64 ((wrap64 ((wrap64 (x3_1 * 137)) + (wrap64 (rd l0 x4_1)))) + 11)) 1073741823), (wrap64 (x4_1 + 1)), rs_, rs_, H', ⟨by have := HK1.out; omega⟩, ⟨bB_⟩, ⟨by repeat (first | (with_reducible first | exact HBW.out | apply below_alloc | apply pw_below_drewN | apply below_drew1) | exact HBW.out)⟩⟩
   rw [if_neg c3] at H
   have c3b0 : decide (x4_1 < 4000) = false := decide_eq_false c3
   clear c3
   simp only [Option.some.injEq, Prod.mk.injEq] at H
   obtain ⟨rfl, rfl, rfl⟩ := H
   go_wp2_with (first | ((with_reducible refine gate_dst (N := 31) rfl ?_); refine bx_ (N := 31) (cs := #[.slice A0 l0.length c0, .int .i64 0, .int .i64 x3_1]) (t := 93) ?_; intro gb639 hg w5 hbox hb; have n0_ := Aside0.mk (below_step HBW.out hb); have n1_ := Aside0.mk (below_step bB_ hb); have n2_ := Aside0.mk (hbox); have n3_ := Aside0.mk ((by rw [hg]; exact (below_size (by repeat (first | (with_reducible first | exact HBW.out | apply below_alloc | apply pw_below_drewN | apply below_drew1) | exact HBW.out))) : w.heap.size ≤ gb639)); have n4_ := Aside0.mk ((Nat.le_trans HW0.out (by rw [hg]; exact (below_size (by repeat (first | (with_reducible first | exact HBW.out | apply below_alloc | apply pw_below_drewN | apply below_drew1) | exact HBW.out))) : w.heap.size ≤ gb639) : w0.heap.size ≤ gb639)); clear HBW; clear HB; have HBW := n0_; have HB := n1_; have BK639 := n2_; have GW639 := n3_; have GE639 := n4_; clear n0_ n1_ n2_ n3_ n4_; clear hb hbox hg))
   go_ret
   exact ⟨_, rfl, (show IsS93 w0 _ gb639 l0 0 x3_1 from ⟨_, _, by (with_reducible repeat (first | refine blk_drewN ?_ _ | refine blk_drew ?_ | refine blk_alloc ?_ _)); exact BK639.out, GE639.out, HR0.out⟩), bG_ GE639.out, by repeat (first | (with_reducible first | exact HBW.out | apply below_alloc | apply pw_below_drewN | apply below_drew1 | refine below_set ?_ GW639.out) | exact HBW.out)⟩
end Go.Proofs.Ytiddgglidkbipaa.Q
