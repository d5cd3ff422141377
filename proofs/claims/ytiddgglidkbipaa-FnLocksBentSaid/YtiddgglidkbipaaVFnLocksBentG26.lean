-- PRINTED by print.py (a twelfth state) out of the translation. Not trusted: Lean checks it.
import Derived.Test.YtiddgglidkbipaaVFnLocksBentG12
import Derived.Test.YtiddgglidkbipaaVFnLocksBentG22
import Derived.Test.YtiddgglidkbipaaVFnLocksBentG24
import Derived.Test.YtiddgglidkbipaaVFnLocksBentG23
namespace Go.Proofs.Ytiddgglidkbipaa.Q
open Go.RowKit Go.Proofs.YtiddgglidkbipaaW.PrintWords Go.Proofs.YtiddgglidkbipaaW.PrintLast Go.Proofs.YtiddgglidkbipaaW.PrintMore
attribute [local go_sem] max2_int min2_int max_two min_two max_three min_three max_four min_four   -- for this text's walks alone
set_option linter.unusedVariables false
set_option linter.unusedSimpArgs false
mutual
def spec_LocksOk.l0 : Nat → List (S28) → Int → Option (Bool)
 | 0, _, _ => none
 | k + 1, x0, x3 => if x3 < (x0.length : Int) then (if 0 ≤ x3 then ((spec_LockOk.f k ((rd_T28 x0 x3).f0) ((rd_T28 x0 x3).f1) ((rd_T28 x0 x3).f2) ((rd_T28 x0 x3).f3) ((rd_T28 x0 x3).f4)).bind fun t524 => (if t524 = true then (spec_LocksOk.l1 k x0 x3 0) else (some false))) else (none)) else (some (decide ((x0.length : Int) ≤ 6)))
def spec_LocksOk.l1 : Nat → List (S28) → Int → Int → Option (Bool)
 | 0, _, _, _ => none
 | k + 1, x0, x3, x4 => if x4 < x3 then (if 0 ≤ x4 then (if x4 < (x0.length : Int) then (if 0 ≤ x3 then (if x3 < (x0.length : Int) then (if ((rd_T28 x0 x4).f0) = ((rd_T28 x0 x3).f0) then (some false) else ((spec_LockClash.f k ((rd_T28 x0 x4).f0) ((rd_T28 x0 x4).f1) ((rd_T28 x0 x4).f2) ((rd_T28 x0 x4).f3) ((rd_T28 x0 x4).f4) ((rd_T28 x0 x3).f0) ((rd_T28 x0 x3).f1) ((rd_T28 x0 x3).f2) ((rd_T28 x0 x3).f3) ((rd_T28 x0 x3).f4)).bind fun t529 => (if t529 = true then (some false) else (spec_LocksOk.l1 k x0 x3 (wrap64 (x4 + 1)))))) else (none)) else (none)) else (none)) else (none)) else (spec_LocksOk.l0 k x0 (wrap64 (x3 + 1)))
end
def spec_LocksOk.f (k : Nat) (l0 : List (S28)) : Option (Bool) := spec_LocksOk.l0 k l0 0
def spec_LocksOk.T9 : Bool × List (List Nat × List Nat) := (true, [([], []), ([], []), ([0, 1], [0, 1]), ([2], [2]), ([3], [3]), ([], []), ([], []), ([5, 6], [5, 6]), ([7], [7]), ([8], [8]), ([4, 9], [4, 9]), ([10], [10]), ([11], [11]), ([11], [11]), ([12, 13, 11], [11, 12, 13]), ([14, 11], [11, 14]), ([11], [11]), ([11], [11]), ([16, 17, 11], [11, 16, 17]), ([18, 11], [11, 18]), ([15, 19, 11, 11], [11, 15, 19]), ([11, 20], [11, 20])])
def spec_LocksOk.B9 : List Nat := [0, 0, 3, 7, 15, 0, 0, 96, 224, 480, 1023, 2047, 4095, 4095, 16383, 32767, 4095, 4095, 200703, 462847, 1048575, 2097151]
theorem spec_LocksOk.tab9 : rtab .any (opsOf Try.f45 9) = spec_LocksOk.T9 := by kernel_rfl
theorem spec_LocksOk.bits9 : waitsOk spec_LocksOk.T9.2 spec_LocksOk.B9 = true := by kernel_rfl
set_option maxHeartbeats 8000000 in
set_option maxRecDepth 100000 in
theorem spec_LocksOk.calls (k : Nat) (A0 : Option Addr) (c0 : Nat) (l0 : List (S28)) (r : Bool) (w : World) (hr0 : Kd.C k28 w A0 l0.length l0) (hc0 : l0.length ≤ c0) (h : spec_LocksOk.f k l0 = some r) :
 Calls Try.prog 45 #[.slice A0 l0.length c0] w fun e w' => e = .returned (.bool r) ∧ Below w.heap.size w w' := by
 have hu28 := Try.underlying28
 have HR0 := Aside0.mk hr0
 have HC0 := Aside0.mk hc0
 clear hr0 hc0
 have HB := A_ (Below.refl w.heap.size w)
 have H : (spec_LocksOk.l0 k l0 0) = some r := h
 clear h
 have H' := Aside0.mk H
 clear H
 go_enter Try.func45, Try.ntmps45
 go_wp2
 go_loopg [3] k (fun kq v3 w' => ∃ (x3_1 : Int), v3 = .int .i64 x3_1 ∧ Aside0 (spec_LocksOk.l0 kq l0 x3_1 = some r) ∧ Aside0 (kq ≤ k) ∧ Aside0 (Below w.heap.size w w'))
 case atStart => exact ⟨(0), rs_, H', ⟨Nat.le_refl _⟩, ⟨bB_⟩⟩
 case round =>
  clear H'
  obtain ⟨x3_1, rfl, HA, HK1, HB⟩ := hrel
  cases gk with
  | zero => exact absurd HA.out (by simp [spec_LocksOk.l0])
  | succ k1 =>
   have H := HA.out
   clear HA
   simp only [spec_LocksOk.l0] at H
   by_cases c2 : x3_1 < (l0.length : Int)
   rotate_left
   · rw [if_neg c2] at H
     have c2b0 : decide (x3_1 < (l0.length : Int)) = false := decide_eq_false c2
     clear c2
     obtain rfl := Option.some.inj H
     go_wp2
     go_ret
     exact ⟨rr_, bB_⟩
   rw [if_pos c2] at H
   have c2b0 : decide (x3_1 < (l0.length : Int)) = true := decide_eq_true c2
   clear c2
   by_cases c3 : 0 ≤ x3_1
   rotate_left
   · exact absurd H (by rw [if_neg c3]; simp)
   rw [if_pos c3] at H
   have c3b0 : decide (0 ≤ x3_1) = true := decide_eq_true c3
   clear c3
   obtain ⟨t524, A4, H⟩ := bo_ H
   (try dsimp only at H)
   by_cases c5 : t524 = true
   · subst c5
     rw [if_pos rfl] at H
     have H' := Aside0.mk H
     clear H
     have p523 : 0 ≤ (x3_1 : Int) := of_decide_eq_true as_
     have q523 : x3_1 < (l0.length : Int) := of_decide_eq_true as_
     obtain ⟨ad523, A523_1, c523_1, e523, hx523_0, hx523_1, hx523_2, hx523_3, hx523_4, hl523_1, hi523_1⟩ := at_T28 HR0.out x3_1 p523 q523
     cases e523
     replace hx523_0 := bc_ HB.out hx523_0
     replace hx523_1 := bc_ HB.out hx523_1
     replace hx523_2 := bc_ HB.out hx523_2
     replace hx523_3 := bc_ HB.out hx523_3
     replace hx523_4 := bc_ HB.out hx523_4
     have HR523_1 := Aside0.mk hi523_1
     have HC523_1 := Aside0.mk hl523_1
     clear hi523_1 hl523_1
     replace p523 := eq_true p523
     replace q523 := eq_true q523
     go_wp2_with (first | ((with_reducible refine gate_callee (f := 43) rfl ?_); refine gL_ (some 15) Try.func43 #[.agg #[.int .i64 ((rd_T28 l0 x3_1).f0), .slice A523_1 ((rd_T28 l0 x3_1).f1).length c523_1, .bool ((rd_T28 l0 x3_1).f2), .bool ((rd_T28 l0 x3_1).f3), .int .i64 ((rd_T28 l0 x3_1).f4)]] ?_; (with_reducible refine (spec_LockOk.calls k1 ((rd_T28 l0 x3_1).f0) _ _ ((rd_T28 l0 x3_1).f1) ((rd_T28 l0 x3_1).f2) ((rd_T28 l0 x3_1).f3) ((rd_T28 l0 x3_1).f4) true _ ?s1 ?s2 A4.out).mono ?_); (case s1 => exact cC_ (Kd.C_below HR523_1.out HB.out)); (case s2 => exact HC523_1.out); rintro e w6 ⟨rfl, hb⟩; refine ⟨_, rfl, ?_⟩; replace HB := A_ (below_step bB_ hb); (try clear hb)))
     go_loopg [4] k1 (fun kq v4 w' => ∃ (x4_2 : Int), v4 = .int .i64 x4_2 ∧ Aside0 (spec_LocksOk.l1 kq l0 x3_1 x4_2 = some r) ∧ Aside0 (kq ≤ k1) ∧ Aside0 (Below w.heap.size w w'))
     case atStart => exact ⟨(0), rs_, H', ⟨Nat.le_refl _⟩, ⟨bB_⟩⟩
     case round =>
      clear H'
      try clear c2
      try clear c2b0
      try clear p2
      try clear c3
      try clear c3b0
      try clear c4
      try clear c5
      try clear p5
      try clear q5
      try clear hx5
      try clear hx523_0
      try clear hx523_1
      try clear hx523_2
      try clear hx523_3
      try clear hx523_4
      try clear p523
      try clear q523
      obtain ⟨x4_2, rfl, HA, HK2, HB⟩ := hrel
      cases gk with
      | zero => exact absurd HA.out (by simp [spec_LocksOk.l1])
      | succ k2 =>
       have H := HA.out
       clear HA
       simp only [spec_LocksOk.l1] at H
       by_cases c7 : x4_2 < x3_1
       rotate_left
       · rw [if_neg c7] at H
         have c7b0 : decide (x4_2 < x3_1) = false := decide_eq_false c7
         clear c7
         have H' := Aside0.mk H
         clear H
         go_wp2
         go_roundg k2
         case measure => have := HK1.out; have := HK2.out; omega
         case rel => exact ⟨(wrap64 (x3_1 + 1)), rs_, H', ⟨by have := HK1.out; have := HK2.out; omega⟩, ⟨bB_⟩⟩
       rw [if_pos c7] at H
       have c7b0 : decide (x4_2 < x3_1) = true := decide_eq_true c7
       clear c7
       by_cases c8 : 0 ≤ x4_2
       rotate_left
       · exact absurd H (by rw [if_neg c8]; simp)
       rw [if_pos c8] at H
       have c8b0 : decide (0 ≤ x4_2) = true := decide_eq_true c8
       clear c8
       by_cases c9 : x4_2 < (l0.length : Int)
       rotate_left
       · exact absurd H (by rw [if_neg c9]; simp)
       rw [if_pos c9] at H
       have c9b0 : decide (x4_2 < (l0.length : Int)) = true := decide_eq_true c9
       clear c9
       by_cases c10 : 0 ≤ x3_1
       rotate_left
       · exact absurd H (by rw [if_neg c10]; simp)
       rw [if_pos c10] at H
       have c10b0 : decide (0 ≤ x3_1) = true := decide_eq_true c10
       clear c10
       by_cases c11 : x3_1 < (l0.length : Int)
       rotate_left
       · exact absurd H (by rw [if_neg c11]; simp)
       rw [if_pos c11] at H
       have c11b0 : decide (x3_1 < (l0.length : Int)) = true := decide_eq_true c11
       clear c11
       by_cases c12 : ((rd_T28 l0 x4_2).f0) = ((rd_T28 l0 x3_1).f0)
       · rw [if_pos c12] at H
         have c12b0 : (((rd_T28 l0 x4_2).f0) == ((rd_T28 l0 x3_1).f0)) = true := beq_iff_eq.mpr c12
         have c12b1 : (((rd_T28 l0 x4_2).f0) != ((rd_T28 l0 x3_1).f0)) = false := bne_eq_false_iff_eq.mpr c12
         clear c12
         obtain rfl := Option.some.inj H
         try go_wp2
         replace HB := A_ (below_drew1 HB.out)
         have p525 : 0 ≤ (x4_2 : Int) := of_decide_eq_true as_
         have q525 : x4_2 < (l0.length : Int) := of_decide_eq_true as_
         obtain ⟨ad525, A525_1, c525_1, e525, hx525_0, hx525_1, hx525_2, hx525_3, hx525_4, hl525_1, hi525_1⟩ := at_T28 HR0.out x4_2 p525 q525
         have hw525_4 := hx525_4
         have hw525_3 := hx525_3
         have hw525_2 := hx525_2
         have hw525_1 := hx525_1
         have hw525_0 := hx525_0
         obtain rfl : ad523 = ad525 := (by injection e525)
         replace hx525_0 := bc_ HB.out hx525_0
         replace hx525_1 := bc_ HB.out hx525_1
         replace hx525_2 := bc_ HB.out hx525_2
         replace hx525_3 := bc_ HB.out hx525_3
         replace hx525_4 := bc_ HB.out hx525_4
         have HR525_1 := Aside0.mk hi525_1
         have HC525_1 := Aside0.mk hl525_1
         clear hi525_1 hl525_1
         replace p525 := eq_true p525
         replace q525 := eq_true q525
         have p526 : 0 ≤ (x3_1 : Int) := of_decide_eq_true as_
         have q526 : x3_1 < (l0.length : Int) := of_decide_eq_true as_
         obtain ⟨ad526, A526_1, c526_1, e526, hx526_0, hx526_1, hx526_2, hx526_3, hx526_4, hl526_1, hi526_1⟩ := at_T28 HR0.out x3_1 p526 q526
         have hw526_4 := hx526_4
         have hw526_3 := hx526_3
         have hw526_2 := hx526_2
         have hw526_1 := hx526_1
         have hw526_0 := hx526_0
         obtain rfl : ad523 = ad526 := (by injection e526)
         replace hx526_0 := bc_ HB.out hx526_0
         replace hx526_1 := bc_ HB.out hx526_1
         replace hx526_2 := bc_ HB.out hx526_2
         replace hx526_3 := bc_ HB.out hx526_3
         replace hx526_4 := bc_ HB.out hx526_4
         have HR526_1 := Aside0.mk hi526_1
         have HC526_1 := Aside0.mk hl526_1
         clear hi526_1 hl526_1
         replace p526 := eq_true p526
         replace q526 := eq_true q526
         refine start_ (n := 22) (S := fun w' => w'.cell? (ad523.add ((x4_2).toNat * 5)) = some (.int .i64 ((rd_T28 l0 x4_2).f0)) ∧ w'.cell? ⟨(ad523.add ((x4_2).toNat * 5)).block, (ad523.add ((x4_2).toNat * 5)).off + 1, none⟩ = some (.slice A525_1 ((rd_T28 l0 x4_2).f1).length c525_1) ∧ w'.cell? ⟨(ad523.add ((x4_2).toNat * 5)).block, (ad523.add ((x4_2).toNat * 5)).off + 2, none⟩ = some (.bool ((rd_T28 l0 x4_2).f2)) ∧ w'.cell? ⟨(ad523.add ((x4_2).toNat * 5)).block, (ad523.add ((x4_2).toNat * 5)).off + 3, none⟩ = some (.bool ((rd_T28 l0 x4_2).f3)) ∧ w'.cell? ⟨(ad523.add ((x4_2).toNat * 5)).block, (ad523.add ((x4_2).toNat * 5)).off + 4, none⟩ = some (.int .i64 ((rd_T28 l0 x4_2).f4)) ∧ w'.cell? (ad523.add ((x3_1).toNat * 5)) = some (.int .i64 ((rd_T28 l0 x3_1).f0)) ∧ w'.cell? ⟨(ad523.add ((x3_1).toNat * 5)).block, (ad523.add ((x3_1).toNat * 5)).off + 1, none⟩ = some (.slice A526_1 ((rd_T28 l0 x3_1).f1).length c526_1) ∧ w'.cell? ⟨(ad523.add ((x3_1).toNat * 5)).block, (ad523.add ((x3_1).toNat * 5)).off + 2, none⟩ = some (.bool ((rd_T28 l0 x3_1).f2)) ∧ w'.cell? ⟨(ad523.add ((x3_1).toNat * 5)).block, (ad523.add ((x3_1).toNat * 5)).off + 3, none⟩ = some (.bool ((rd_T28 l0 x3_1).f3)) ∧ w'.cell? ⟨(ad523.add ((x3_1).toNat * 5)).block, (ad523.add ((x3_1).toNat * 5)).off + 4, none⟩ = some (.int .i64 ((rd_T28 l0 x3_1).f4))) (ds := []) #[false, false, false, false, false, false, false, false, false, false, false, false, false, false, false, false, false, false, false, false, false, false] (by kernel_rfl) rfl rfl ⟨((HB.out.cell (World.block_lt_of_cell? w _ hw525_0)).trans hw525_0), ((HB.out.cell (World.block_lt_of_cell? w _ hw525_1)).trans hw525_1), ((HB.out.cell (World.block_lt_of_cell? w _ hw525_2)).trans hw525_2), ((HB.out.cell (World.block_lt_of_cell? w _ hw525_3)).trans hw525_3), ((HB.out.cell (World.block_lt_of_cell? w _ hw525_4)).trans hw525_4), ((HB.out.cell (World.block_lt_of_cell? w _ hw526_0)).trans hw526_0), ((HB.out.cell (World.block_lt_of_cell? w _ hw526_1)).trans hw526_1), ((HB.out.cell (World.block_lt_of_cell? w _ hw526_2)).trans hw526_2), ((HB.out.cell (World.block_lt_of_cell? w _ hw526_3)).trans hw526_3), ((HB.out.cell (World.block_lt_of_cell? w _ hw526_4)).trans hw526_4)⟩ (fun hHeld => ?_); refine with_tabW spec_LocksOk.tab9 spec_LocksOk.bits9 (fun HT_ HW_ => ?_)
         generalize wr.drew = w13 at HB HR525_1 HR526_1 hx525_0 hx525_1 hx525_2 hx525_3 hx525_4 hx526_0 hx526_1 hx526_2 hx526_3 hx526_4 hHeld ⊢
         refine pu_ (i := 0) (N := some 22) ?_
         refine pu_ (i := 1) (N := some 23) ?_
         refine pu_ (i := 2) (N := some 24) ?_
         refine pu_ (i := 3) (N := some 25) ?_
         refine pu_ (i := 5) (N := some 27) ?_
         refine pu_ (i := 6) (N := some 28) ?_
         refine pu_ (i := 7) (N := some 29) ?_
         refine pu_ (i := 8) (N := some 30) ?_
         refine tk_ (i := 4) (N := some 26) hHeld ?_
         refine tk_ (i := 9) (N := some 31) hHeld ?_
         refine pu_ (i := 10) (N := some 32) ?_
         refine pu_ (i := 11) (N := some 33) ?_
         refine pn_ (i := 12) (N := some 34) ?_
         refine pn_ (i := 13) (N := some 35) ?_
         refine pn_ (i := 14) (N := some 36) ?_
         refine pn_ (i := 15) (N := some 37) ?_
         refine pn_ (i := 16) (N := some 38) ?_
         refine pn_ (i := 17) (N := some 39) ?_
         refine pn_ (i := 18) (N := some 40) ?_
         refine pn_ (i := 19) (N := some 41) ?_
         refine pn_ (i := 20) (N := some 42) ?_
         refine pu_ (i := 21) (N := some 43) ?_
         refine done_ (done_of HT_.out (by kernel_rfl)) ?_
         (try clear hHeld)
         try go_wp2
         go_ret
         exact ⟨rr_, bB_⟩
       rw [if_neg c12] at H
       have c12b0 : (((rd_T28 l0 x4_2).f0) == ((rd_T28 l0 x3_1).f0)) = false := beq_eq_false_iff_ne.mpr c12
       have c12b1 : (((rd_T28 l0 x4_2).f0) != ((rd_T28 l0 x3_1).f0)) = true := bne_iff_ne.mpr c12
       obtain ⟨t529, A14, H⟩ := bo_ H
       (try dsimp only at H)
       by_cases c15 : t529 = true
       · subst c15
         rw [if_pos rfl] at H
         obtain rfl := Option.some.inj H
         try go_wp2
         replace HB := A_ (below_drew1 HB.out)
         have p525 : 0 ≤ (x4_2 : Int) := of_decide_eq_true as_
         have q525 : x4_2 < (l0.length : Int) := of_decide_eq_true as_
         obtain ⟨ad525, A525_1, c525_1, e525, hx525_0, hx525_1, hx525_2, hx525_3, hx525_4, hl525_1, hi525_1⟩ := at_T28 HR0.out x4_2 p525 q525
         have hw525_4 := hx525_4
         have hw525_3 := hx525_3
         have hw525_2 := hx525_2
         have hw525_1 := hx525_1
         have hw525_0 := hx525_0
         obtain rfl : ad523 = ad525 := (by injection e525)
         replace hx525_0 := bc_ HB.out hx525_0
         replace hx525_1 := bc_ HB.out hx525_1
         replace hx525_2 := bc_ HB.out hx525_2
         replace hx525_3 := bc_ HB.out hx525_3
         replace hx525_4 := bc_ HB.out hx525_4
         have HR525_1 := Aside0.mk hi525_1
         have HC525_1 := Aside0.mk hl525_1
         clear hi525_1 hl525_1
         replace p525 := eq_true p525
         replace q525 := eq_true q525
         have p526 : 0 ≤ (x3_1 : Int) := of_decide_eq_true as_
         have q526 : x3_1 < (l0.length : Int) := of_decide_eq_true as_
         obtain ⟨ad526, A526_1, c526_1, e526, hx526_0, hx526_1, hx526_2, hx526_3, hx526_4, hl526_1, hi526_1⟩ := at_T28 HR0.out x3_1 p526 q526
         have hw526_4 := hx526_4
         have hw526_3 := hx526_3
         have hw526_2 := hx526_2
         have hw526_1 := hx526_1
         have hw526_0 := hx526_0
         obtain rfl : ad523 = ad526 := (by injection e526)
         replace hx526_0 := bc_ HB.out hx526_0
         replace hx526_1 := bc_ HB.out hx526_1
         replace hx526_2 := bc_ HB.out hx526_2
         replace hx526_3 := bc_ HB.out hx526_3
         replace hx526_4 := bc_ HB.out hx526_4
         have HR526_1 := Aside0.mk hi526_1
         have HC526_1 := Aside0.mk hl526_1
         clear hi526_1 hl526_1
         replace p526 := eq_true p526
         replace q526 := eq_true q526
         have p527 : 0 ≤ (x4_2 : Int) := of_decide_eq_true as_
         have q527 : x4_2 < (l0.length : Int) := of_decide_eq_true as_
         obtain ⟨ad527, A527_1, c527_1, e527, hx527_0, hx527_1, hx527_2, hx527_3, hx527_4, hl527_1, hi527_1⟩ := at_T28 HR0.out x4_2 p527 q527
         have hw527_4 := hx527_4
         have hw527_3 := hx527_3
         have hw527_2 := hx527_2
         have hw527_1 := hx527_1
         have hw527_0 := hx527_0
         obtain rfl : ad523 = ad527 := (by injection e527)
         replace hx527_0 := bc_ HB.out hx527_0
         replace hx527_1 := bc_ HB.out hx527_1
         replace hx527_2 := bc_ HB.out hx527_2
         replace hx527_3 := bc_ HB.out hx527_3
         replace hx527_4 := bc_ HB.out hx527_4
         have HR527_1 := Aside0.mk hi527_1
         have HC527_1 := Aside0.mk hl527_1
         clear hi527_1 hl527_1
         replace p527 := eq_true p527
         replace q527 := eq_true q527
         have ea_ := Option.some.inj (hx525_1.symm.trans hx527_1)
         injection ea_ with ea_ en_ ec_
         subst ea_
         subst ec_
         clear en_
         have p528 : 0 ≤ (x3_1 : Int) := of_decide_eq_true as_
         have q528 : x3_1 < (l0.length : Int) := of_decide_eq_true as_
         obtain ⟨ad528, A528_1, c528_1, e528, hx528_0, hx528_1, hx528_2, hx528_3, hx528_4, hl528_1, hi528_1⟩ := at_T28 HR0.out x3_1 p528 q528
         have hw528_4 := hx528_4
         have hw528_3 := hx528_3
         have hw528_2 := hx528_2
         have hw528_1 := hx528_1
         have hw528_0 := hx528_0
         obtain rfl : ad523 = ad528 := (by injection e528)
         replace hx528_0 := bc_ HB.out hx528_0
         replace hx528_1 := bc_ HB.out hx528_1
         replace hx528_2 := bc_ HB.out hx528_2
         replace hx528_3 := bc_ HB.out hx528_3
         replace hx528_4 := bc_ HB.out hx528_4
         have HR528_1 := Aside0.mk hi528_1
         have HC528_1 := Aside0.mk hl528_1
         clear hi528_1 hl528_1
         replace p528 := eq_true p528
         replace q528 := eq_true q528
         have ea_ := Option.some.inj (hx526_1.symm.trans hx528_1)
         injection ea_ with ea_ en_ ec_
         subst ea_
         subst ec_
         clear en_
         refine start_ (n := 22) (S := fun w' => w'.cell? (ad523.add ((x4_2).toNat * 5)) = some (.int .i64 ((rd_T28 l0 x4_2).f0)) ∧ w'.cell? ⟨(ad523.add ((x4_2).toNat * 5)).block, (ad523.add ((x4_2).toNat * 5)).off + 1, none⟩ = some (.slice A525_1 ((rd_T28 l0 x4_2).f1).length c525_1) ∧ w'.cell? ⟨(ad523.add ((x4_2).toNat * 5)).block, (ad523.add ((x4_2).toNat * 5)).off + 2, none⟩ = some (.bool ((rd_T28 l0 x4_2).f2)) ∧ w'.cell? ⟨(ad523.add ((x4_2).toNat * 5)).block, (ad523.add ((x4_2).toNat * 5)).off + 3, none⟩ = some (.bool ((rd_T28 l0 x4_2).f3)) ∧ w'.cell? ⟨(ad523.add ((x4_2).toNat * 5)).block, (ad523.add ((x4_2).toNat * 5)).off + 4, none⟩ = some (.int .i64 ((rd_T28 l0 x4_2).f4)) ∧ w'.cell? (ad523.add ((x3_1).toNat * 5)) = some (.int .i64 ((rd_T28 l0 x3_1).f0)) ∧ w'.cell? ⟨(ad523.add ((x3_1).toNat * 5)).block, (ad523.add ((x3_1).toNat * 5)).off + 1, none⟩ = some (.slice A526_1 ((rd_T28 l0 x3_1).f1).length c526_1) ∧ w'.cell? ⟨(ad523.add ((x3_1).toNat * 5)).block, (ad523.add ((x3_1).toNat * 5)).off + 2, none⟩ = some (.bool ((rd_T28 l0 x3_1).f2)) ∧ w'.cell? ⟨(ad523.add ((x3_1).toNat * 5)).block, (ad523.add ((x3_1).toNat * 5)).off + 3, none⟩ = some (.bool ((rd_T28 l0 x3_1).f3)) ∧ w'.cell? ⟨(ad523.add ((x3_1).toNat * 5)).block, (ad523.add ((x3_1).toNat * 5)).off + 4, none⟩ = some (.int .i64 ((rd_T28 l0 x3_1).f4)) ∧ w'.cell? (ad523.add ((x4_2).toNat * 5)) = some (.int .i64 ((rd_T28 l0 x4_2).f0)) ∧ w'.cell? ⟨(ad523.add ((x4_2).toNat * 5)).block, (ad523.add ((x4_2).toNat * 5)).off + 1, none⟩ = some (.slice A525_1 ((rd_T28 l0 x4_2).f1).length c525_1) ∧ w'.cell? ⟨(ad523.add ((x4_2).toNat * 5)).block, (ad523.add ((x4_2).toNat * 5)).off + 2, none⟩ = some (.bool ((rd_T28 l0 x4_2).f2)) ∧ w'.cell? ⟨(ad523.add ((x4_2).toNat * 5)).block, (ad523.add ((x4_2).toNat * 5)).off + 3, none⟩ = some (.bool ((rd_T28 l0 x4_2).f3)) ∧ w'.cell? ⟨(ad523.add ((x4_2).toNat * 5)).block, (ad523.add ((x4_2).toNat * 5)).off + 4, none⟩ = some (.int .i64 ((rd_T28 l0 x4_2).f4)) ∧ w'.cell? (ad523.add ((x3_1).toNat * 5)) = some (.int .i64 ((rd_T28 l0 x3_1).f0)) ∧ w'.cell? ⟨(ad523.add ((x3_1).toNat * 5)).block, (ad523.add ((x3_1).toNat * 5)).off + 1, none⟩ = some (.slice A526_1 ((rd_T28 l0 x3_1).f1).length c526_1) ∧ w'.cell? ⟨(ad523.add ((x3_1).toNat * 5)).block, (ad523.add ((x3_1).toNat * 5)).off + 2, none⟩ = some (.bool ((rd_T28 l0 x3_1).f2)) ∧ w'.cell? ⟨(ad523.add ((x3_1).toNat * 5)).block, (ad523.add ((x3_1).toNat * 5)).off + 3, none⟩ = some (.bool ((rd_T28 l0 x3_1).f3)) ∧ w'.cell? ⟨(ad523.add ((x3_1).toNat * 5)).block, (ad523.add ((x3_1).toNat * 5)).off + 4, none⟩ = some (.int .i64 ((rd_T28 l0 x3_1).f4))) (ds := []) #[false, false, false, false, false, false, false, false, false, false, false, false, false, false, false, false, false, false, false, false, false, false] (by kernel_rfl) rfl rfl ⟨((HB.out.cell (World.block_lt_of_cell? w _ hw525_0)).trans hw525_0), ((HB.out.cell (World.block_lt_of_cell? w _ hw525_1)).trans hw525_1), ((HB.out.cell (World.block_lt_of_cell? w _ hw525_2)).trans hw525_2), ((HB.out.cell (World.block_lt_of_cell? w _ hw525_3)).trans hw525_3), ((HB.out.cell (World.block_lt_of_cell? w _ hw525_4)).trans hw525_4), ((HB.out.cell (World.block_lt_of_cell? w _ hw526_0)).trans hw526_0), ((HB.out.cell (World.block_lt_of_cell? w _ hw526_1)).trans hw526_1), ((HB.out.cell (World.block_lt_of_cell? w _ hw526_2)).trans hw526_2), ((HB.out.cell (World.block_lt_of_cell? w _ hw526_3)).trans hw526_3), ((HB.out.cell (World.block_lt_of_cell? w _ hw526_4)).trans hw526_4), ((HB.out.cell (World.block_lt_of_cell? w _ hw527_0)).trans hw527_0), ((HB.out.cell (World.block_lt_of_cell? w _ hw527_1)).trans hw527_1), ((HB.out.cell (World.block_lt_of_cell? w _ hw527_2)).trans hw527_2), ((HB.out.cell (World.block_lt_of_cell? w _ hw527_3)).trans hw527_3), ((HB.out.cell (World.block_lt_of_cell? w _ hw527_4)).trans hw527_4), ((HB.out.cell (World.block_lt_of_cell? w _ hw528_0)).trans hw528_0), ((HB.out.cell (World.block_lt_of_cell? w _ hw528_1)).trans hw528_1), ((HB.out.cell (World.block_lt_of_cell? w _ hw528_2)).trans hw528_2), ((HB.out.cell (World.block_lt_of_cell? w _ hw528_3)).trans hw528_3), ((HB.out.cell (World.block_lt_of_cell? w _ hw528_4)).trans hw528_4)⟩ (fun hHeld => ?_); refine with_tabW spec_LocksOk.tab9 spec_LocksOk.bits9 (fun HT_ HW_ => ?_)
         generalize wr.drew = w16 at HB HR525_1 HR526_1 HR527_1 HR528_1 hx525_0 hx525_1 hx525_2 hx525_3 hx525_4 hx526_0 hx526_1 hx526_2 hx526_3 hx526_4 hx527_0 hx527_1 hx527_2 hx527_3 hx527_4 hx528_0 hx528_1 hx528_2 hx528_3 hx528_4 hHeld ⊢
         refine pu_ (i := 0) (N := some 22) ?_
         refine pu_ (i := 1) (N := some 23) ?_
         refine pu_ (i := 2) (N := some 24) ?_
         refine pu_ (i := 3) (N := some 25) ?_
         refine pu_ (i := 5) (N := some 27) ?_
         refine pu_ (i := 6) (N := some 28) ?_
         refine pu_ (i := 7) (N := some 29) ?_
         refine pu_ (i := 8) (N := some 30) ?_
         refine tk_ (i := 4) (N := some 26) hHeld ?_
         refine tk_ (i := 9) (N := some 31) hHeld ?_
         refine pu_ (i := 10) (N := some 32) ?_
         refine pu_ (i := 11) (N := some 33) ?_
         refine pu_ (i := 12) (N := some 34) ?_
         refine pu_ (i := 13) (N := some 35) ?_
         refine pu_ (i := 14) (N := some 36) ?_
         refine pu_ (i := 16) (N := some 38) ?_
         refine pu_ (i := 17) (N := some 39) ?_
         refine pu_ (i := 18) (N := some 40) ?_
         refine tk_ (i := 15) (N := some 37) hHeld ?_
         refine tk_ (i := 19) (N := some 41) hHeld ?_
         refine on_ (i := 20) (N := some 42) (fun K hK => ?_)
         refine goes_ Try.func23 (by kernel_rfl) rfl #[.agg #[.int .i64 ((rd_T28 l0 x4_2).f0), .slice A525_1 ((rd_T28 l0 x4_2).f1).length c525_1, .bool ((rd_T28 l0 x4_2).f2), .bool ((rd_T28 l0 x4_2).f3), .int .i64 ((rd_T28 l0 x4_2).f4)], .agg #[.int .i64 ((rd_T28 l0 x3_1).f0), .slice A526_1 ((rd_T28 l0 x3_1).f1).length c526_1, .bool ((rd_T28 l0 x3_1).f2), .bool ((rd_T28 l0 x3_1).f3), .int .i64 ((rd_T28 l0 x3_1).f4)]] (by rfl) rfl rfl ml_ ?_
         with_reducible refine (spec_LockClash.calls k2 ((rd_T28 l0 x4_2).f0) _ _ ((rd_T28 l0 x4_2).f1) ((rd_T28 l0 x4_2).f2) ((rd_T28 l0 x4_2).f3) ((rd_T28 l0 x4_2).f4) ((rd_T28 l0 x3_1).f0) _ _ ((rd_T28 l0 x3_1).f1) ((rd_T28 l0 x3_1).f2) ((rd_T28 l0 x3_1).f3) ((rd_T28 l0 x3_1).f4) true _ ?s1 ?s2 ?s3 ?s4 A14.out).mono ?_
         (case s1 => exact cC_ (Kd.C_below HR527_1.out HB.out))
         (case s2 => exact HC527_1.out)
         (case s3 => exact cC_ (Kd.C_below HR528_1.out HB.out))
         (case s4 => exact HC528_1.out)
         rintro e w17 ⟨rfl, hb⟩
         refine ⟨_, rfl, ?_⟩
         replace HB := A_ (below_step bB_ hb)
         (try clear hb)
         (try clear hb2)
         (try clear hk)
         (try clear hi)
         refine hK.out _ _ ⟨((HB.out.cell (World.block_lt_of_cell? w _ hw525_0)).trans hw525_0), ((HB.out.cell (World.block_lt_of_cell? w _ hw525_1)).trans hw525_1), ((HB.out.cell (World.block_lt_of_cell? w _ hw525_2)).trans hw525_2), ((HB.out.cell (World.block_lt_of_cell? w _ hw525_3)).trans hw525_3), ((HB.out.cell (World.block_lt_of_cell? w _ hw525_4)).trans hw525_4), ((HB.out.cell (World.block_lt_of_cell? w _ hw526_0)).trans hw526_0), ((HB.out.cell (World.block_lt_of_cell? w _ hw526_1)).trans hw526_1), ((HB.out.cell (World.block_lt_of_cell? w _ hw526_2)).trans hw526_2), ((HB.out.cell (World.block_lt_of_cell? w _ hw526_3)).trans hw526_3), ((HB.out.cell (World.block_lt_of_cell? w _ hw526_4)).trans hw526_4), ((HB.out.cell (World.block_lt_of_cell? w _ hw527_0)).trans hw527_0), ((HB.out.cell (World.block_lt_of_cell? w _ hw527_1)).trans hw527_1), ((HB.out.cell (World.block_lt_of_cell? w _ hw527_2)).trans hw527_2), ((HB.out.cell (World.block_lt_of_cell? w _ hw527_3)).trans hw527_3), ((HB.out.cell (World.block_lt_of_cell? w _ hw527_4)).trans hw527_4), ((HB.out.cell (World.block_lt_of_cell? w _ hw528_0)).trans hw528_0), ((HB.out.cell (World.block_lt_of_cell? w _ hw528_1)).trans hw528_1), ((HB.out.cell (World.block_lt_of_cell? w _ hw528_2)).trans hw528_2), ((HB.out.cell (World.block_lt_of_cell? w _ hw528_3)).trans hw528_3), ((HB.out.cell (World.block_lt_of_cell? w _ hw528_4)).trans hw528_4)⟩ (fun hHeld => ?_)
         clear hK K
         refine no_ (some 42) ?_
         refine pu_ (i := 21) (N := some 43) ?_
         refine done_ (done_of HT_.out (by kernel_rfl)) ?_
         (try clear hHeld)
         try go_wp2
         go_ret
         exact ⟨rr_, bB_⟩
       · replace c15 := Bool.eq_false_iff.mpr c15
         subst c15
         rw [if_neg nf_] at H
         have H' := Aside0.mk H
         clear H
         try go_wp2
         replace HB := A_ (below_drew1 HB.out)
         have p525 : 0 ≤ (x4_2 : Int) := of_decide_eq_true as_
         have q525 : x4_2 < (l0.length : Int) := of_decide_eq_true as_
         obtain ⟨ad525, A525_1, c525_1, e525, hx525_0, hx525_1, hx525_2, hx525_3, hx525_4, hl525_1, hi525_1⟩ := at_T28 HR0.out x4_2 p525 q525
         have hw525_4 := hx525_4
         have hw525_3 := hx525_3
         have hw525_2 := hx525_2
         have hw525_1 := hx525_1
         have hw525_0 := hx525_0
         obtain rfl : ad523 = ad525 := (by injection e525)
         replace hx525_0 := bc_ HB.out hx525_0
         replace hx525_1 := bc_ HB.out hx525_1
         replace hx525_2 := bc_ HB.out hx525_2
         replace hx525_3 := bc_ HB.out hx525_3
         replace hx525_4 := bc_ HB.out hx525_4
         have HR525_1 := Aside0.mk hi525_1
         have HC525_1 := Aside0.mk hl525_1
         clear hi525_1 hl525_1
         replace p525 := eq_true p525
         replace q525 := eq_true q525
         have p526 : 0 ≤ (x3_1 : Int) := of_decide_eq_true as_
         have q526 : x3_1 < (l0.length : Int) := of_decide_eq_true as_
         obtain ⟨ad526, A526_1, c526_1, e526, hx526_0, hx526_1, hx526_2, hx526_3, hx526_4, hl526_1, hi526_1⟩ := at_T28 HR0.out x3_1 p526 q526
         have hw526_4 := hx526_4
         have hw526_3 := hx526_3
         have hw526_2 := hx526_2
         have hw526_1 := hx526_1
         have hw526_0 := hx526_0
         obtain rfl : ad523 = ad526 := (by injection e526)
         replace hx526_0 := bc_ HB.out hx526_0
         replace hx526_1 := bc_ HB.out hx526_1
         replace hx526_2 := bc_ HB.out hx526_2
         replace hx526_3 := bc_ HB.out hx526_3
         replace hx526_4 := bc_ HB.out hx526_4
         have HR526_1 := Aside0.mk hi526_1
         have HC526_1 := Aside0.mk hl526_1
         clear hi526_1 hl526_1
         replace p526 := eq_true p526
         replace q526 := eq_true q526
         have p527 : 0 ≤ (x4_2 : Int) := of_decide_eq_true as_
         have q527 : x4_2 < (l0.length : Int) := of_decide_eq_true as_
         obtain ⟨ad527, A527_1, c527_1, e527, hx527_0, hx527_1, hx527_2, hx527_3, hx527_4, hl527_1, hi527_1⟩ := at_T28 HR0.out x4_2 p527 q527
         have hw527_4 := hx527_4
         have hw527_3 := hx527_3
         have hw527_2 := hx527_2
         have hw527_1 := hx527_1
         have hw527_0 := hx527_0
         obtain rfl : ad523 = ad527 := (by injection e527)
         replace hx527_0 := bc_ HB.out hx527_0
         replace hx527_1 := bc_ HB.out hx527_1
         replace hx527_2 := bc_ HB.out hx527_2
         replace hx527_3 := bc_ HB.out hx527_3
         replace hx527_4 := bc_ HB.out hx527_4
         have HR527_1 := Aside0.mk hi527_1
         have HC527_1 := Aside0.mk hl527_1
         clear hi527_1 hl527_1
         replace p527 := eq_true p527
         replace q527 := eq_true q527
         have ea_ := Option.some.inj (hx525_1.symm.trans hx527_1)
         injection ea_ with ea_ en_ ec_
         subst ea_
         subst ec_
         clear en_
         have p528 : 0 ≤ (x3_1 : Int) := of_decide_eq_true as_
         have q528 : x3_1 < (l0.length : Int) := of_decide_eq_true as_
         obtain ⟨ad528, A528_1, c528_1, e528, hx528_0, hx528_1, hx528_2, hx528_3, hx528_4, hl528_1, hi528_1⟩ := at_T28 HR0.out x3_1 p528 q528
         have hw528_4 := hx528_4
         have hw528_3 := hx528_3
         have hw528_2 := hx528_2
         have hw528_1 := hx528_1
         have hw528_0 := hx528_0
         obtain rfl : ad523 = ad528 := (by injection e528)
         replace hx528_0 := bc_ HB.out hx528_0
         replace hx528_1 := bc_ HB.out hx528_1
         replace hx528_2 := bc_ HB.out hx528_2
         replace hx528_3 := bc_ HB.out hx528_3
         replace hx528_4 := bc_ HB.out hx528_4
         have HR528_1 := Aside0.mk hi528_1
         have HC528_1 := Aside0.mk hl528_1
         clear hi528_1 hl528_1
         replace p528 := eq_true p528
         replace q528 := eq_true q528
         have ea_ := Option.some.inj (hx526_1.symm.trans hx528_1)
         injection ea_ with ea_ en_ ec_
         subst ea_
         subst ec_
         clear en_
         refine start_ (n := 22) (S := fun w' => w'.cell? (ad523.add ((x4_2).toNat * 5)) = some (.int .i64 ((rd_T28 l0 x4_2).f0)) ∧ w'.cell? ⟨(ad523.add ((x4_2).toNat * 5)).block, (ad523.add ((x4_2).toNat * 5)).off + 1, none⟩ = some (.slice A525_1 ((rd_T28 l0 x4_2).f1).length c525_1) ∧ w'.cell? ⟨(ad523.add ((x4_2).toNat * 5)).block, (ad523.add ((x4_2).toNat * 5)).off + 2, none⟩ = some (.bool ((rd_T28 l0 x4_2).f2)) ∧ w'.cell? ⟨(ad523.add ((x4_2).toNat * 5)).block, (ad523.add ((x4_2).toNat * 5)).off + 3, none⟩ = some (.bool ((rd_T28 l0 x4_2).f3)) ∧ w'.cell? ⟨(ad523.add ((x4_2).toNat * 5)).block, (ad523.add ((x4_2).toNat * 5)).off + 4, none⟩ = some (.int .i64 ((rd_T28 l0 x4_2).f4)) ∧ w'.cell? (ad523.add ((x3_1).toNat * 5)) = some (.int .i64 ((rd_T28 l0 x3_1).f0)) ∧ w'.cell? ⟨(ad523.add ((x3_1).toNat * 5)).block, (ad523.add ((x3_1).toNat * 5)).off + 1, none⟩ = some (.slice A526_1 ((rd_T28 l0 x3_1).f1).length c526_1) ∧ w'.cell? ⟨(ad523.add ((x3_1).toNat * 5)).block, (ad523.add ((x3_1).toNat * 5)).off + 2, none⟩ = some (.bool ((rd_T28 l0 x3_1).f2)) ∧ w'.cell? ⟨(ad523.add ((x3_1).toNat * 5)).block, (ad523.add ((x3_1).toNat * 5)).off + 3, none⟩ = some (.bool ((rd_T28 l0 x3_1).f3)) ∧ w'.cell? ⟨(ad523.add ((x3_1).toNat * 5)).block, (ad523.add ((x3_1).toNat * 5)).off + 4, none⟩ = some (.int .i64 ((rd_T28 l0 x3_1).f4)) ∧ w'.cell? (ad523.add ((x4_2).toNat * 5)) = some (.int .i64 ((rd_T28 l0 x4_2).f0)) ∧ w'.cell? ⟨(ad523.add ((x4_2).toNat * 5)).block, (ad523.add ((x4_2).toNat * 5)).off + 1, none⟩ = some (.slice A525_1 ((rd_T28 l0 x4_2).f1).length c525_1) ∧ w'.cell? ⟨(ad523.add ((x4_2).toNat * 5)).block, (ad523.add ((x4_2).toNat * 5)).off + 2, none⟩ = some (.bool ((rd_T28 l0 x4_2).f2)) ∧ w'.cell? ⟨(ad523.add ((x4_2).toNat * 5)).block, (ad523.add ((x4_2).toNat * 5)).off + 3, none⟩ = some (.bool ((rd_T28 l0 x4_2).f3)) ∧ w'.cell? ⟨(ad523.add ((x4_2).toNat * 5)).block, (ad523.add ((x4_2).toNat * 5)).off + 4, none⟩ = some (.int .i64 ((rd_T28 l0 x4_2).f4)) ∧ w'.cell? (ad523.add ((x3_1).toNat * 5)) = some (.int .i64 ((rd_T28 l0 x3_1).f0)) ∧ w'.cell? ⟨(ad523.add ((x3_1).toNat * 5)).block, (ad523.add ((x3_1).toNat * 5)).off + 1, none⟩ = some (.slice A526_1 ((rd_T28 l0 x3_1).f1).length c526_1) ∧ w'.cell? ⟨(ad523.add ((x3_1).toNat * 5)).block, (ad523.add ((x3_1).toNat * 5)).off + 2, none⟩ = some (.bool ((rd_T28 l0 x3_1).f2)) ∧ w'.cell? ⟨(ad523.add ((x3_1).toNat * 5)).block, (ad523.add ((x3_1).toNat * 5)).off + 3, none⟩ = some (.bool ((rd_T28 l0 x3_1).f3)) ∧ w'.cell? ⟨(ad523.add ((x3_1).toNat * 5)).block, (ad523.add ((x3_1).toNat * 5)).off + 4, none⟩ = some (.int .i64 ((rd_T28 l0 x3_1).f4))) (ds := []) #[false, false, false, false, false, false, false, false, false, false, false, false, false, false, false, false, false, false, false, false, false, false] (by kernel_rfl) rfl rfl ⟨((HB.out.cell (World.block_lt_of_cell? w _ hw525_0)).trans hw525_0), ((HB.out.cell (World.block_lt_of_cell? w _ hw525_1)).trans hw525_1), ((HB.out.cell (World.block_lt_of_cell? w _ hw525_2)).trans hw525_2), ((HB.out.cell (World.block_lt_of_cell? w _ hw525_3)).trans hw525_3), ((HB.out.cell (World.block_lt_of_cell? w _ hw525_4)).trans hw525_4), ((HB.out.cell (World.block_lt_of_cell? w _ hw526_0)).trans hw526_0), ((HB.out.cell (World.block_lt_of_cell? w _ hw526_1)).trans hw526_1), ((HB.out.cell (World.block_lt_of_cell? w _ hw526_2)).trans hw526_2), ((HB.out.cell (World.block_lt_of_cell? w _ hw526_3)).trans hw526_3), ((HB.out.cell (World.block_lt_of_cell? w _ hw526_4)).trans hw526_4), ((HB.out.cell (World.block_lt_of_cell? w _ hw527_0)).trans hw527_0), ((HB.out.cell (World.block_lt_of_cell? w _ hw527_1)).trans hw527_1), ((HB.out.cell (World.block_lt_of_cell? w _ hw527_2)).trans hw527_2), ((HB.out.cell (World.block_lt_of_cell? w _ hw527_3)).trans hw527_3), ((HB.out.cell (World.block_lt_of_cell? w _ hw527_4)).trans hw527_4), ((HB.out.cell (World.block_lt_of_cell? w _ hw528_0)).trans hw528_0), ((HB.out.cell (World.block_lt_of_cell? w _ hw528_1)).trans hw528_1), ((HB.out.cell (World.block_lt_of_cell? w _ hw528_2)).trans hw528_2), ((HB.out.cell (World.block_lt_of_cell? w _ hw528_3)).trans hw528_3), ((HB.out.cell (World.block_lt_of_cell? w _ hw528_4)).trans hw528_4)⟩ (fun hHeld => ?_); refine with_tabW spec_LocksOk.tab9 spec_LocksOk.bits9 (fun HT_ HW_ => ?_)
         generalize wr.drew = w18 at HB HR525_1 HR526_1 HR527_1 HR528_1 hx525_0 hx525_1 hx525_2 hx525_3 hx525_4 hx526_0 hx526_1 hx526_2 hx526_3 hx526_4 hx527_0 hx527_1 hx527_2 hx527_3 hx527_4 hx528_0 hx528_1 hx528_2 hx528_3 hx528_4 hHeld ⊢
         refine pu_ (i := 0) (N := some 22) ?_
         refine pu_ (i := 1) (N := some 23) ?_
         refine pu_ (i := 2) (N := some 24) ?_
         refine pu_ (i := 3) (N := some 25) ?_
         refine pu_ (i := 5) (N := some 27) ?_
         refine pu_ (i := 6) (N := some 28) ?_
         refine pu_ (i := 7) (N := some 29) ?_
         refine pu_ (i := 8) (N := some 30) ?_
         refine tk_ (i := 4) (N := some 26) hHeld ?_
         refine tk_ (i := 9) (N := some 31) hHeld ?_
         refine pu_ (i := 10) (N := some 32) ?_
         refine pu_ (i := 11) (N := some 33) ?_
         refine pu_ (i := 12) (N := some 34) ?_
         refine pu_ (i := 13) (N := some 35) ?_
         refine pu_ (i := 14) (N := some 36) ?_
         refine pu_ (i := 16) (N := some 38) ?_
         refine pu_ (i := 17) (N := some 39) ?_
         refine pu_ (i := 18) (N := some 40) ?_
         refine tk_ (i := 15) (N := some 37) hHeld ?_
         refine tk_ (i := 19) (N := some 41) hHeld ?_
         refine on_ (i := 20) (N := some 42) (fun K hK => ?_)
         refine goes_ Try.func23 (by kernel_rfl) rfl #[.agg #[.int .i64 ((rd_T28 l0 x4_2).f0), .slice A525_1 ((rd_T28 l0 x4_2).f1).length c525_1, .bool ((rd_T28 l0 x4_2).f2), .bool ((rd_T28 l0 x4_2).f3), .int .i64 ((rd_T28 l0 x4_2).f4)], .agg #[.int .i64 ((rd_T28 l0 x3_1).f0), .slice A526_1 ((rd_T28 l0 x3_1).f1).length c526_1, .bool ((rd_T28 l0 x3_1).f2), .bool ((rd_T28 l0 x3_1).f3), .int .i64 ((rd_T28 l0 x3_1).f4)]] (by rfl) rfl rfl ml_ ?_
         with_reducible refine (spec_LockClash.calls k2 ((rd_T28 l0 x4_2).f0) _ _ ((rd_T28 l0 x4_2).f1) ((rd_T28 l0 x4_2).f2) ((rd_T28 l0 x4_2).f3) ((rd_T28 l0 x4_2).f4) ((rd_T28 l0 x3_1).f0) _ _ ((rd_T28 l0 x3_1).f1) ((rd_T28 l0 x3_1).f2) ((rd_T28 l0 x3_1).f3) ((rd_T28 l0 x3_1).f4) false _ ?s1 ?s2 ?s3 ?s4 A14.out).mono ?_
         (case s1 => exact cC_ (Kd.C_below HR527_1.out HB.out))
         (case s2 => exact HC527_1.out)
         (case s3 => exact cC_ (Kd.C_below HR528_1.out HB.out))
         (case s4 => exact HC528_1.out)
         rintro e w19 ⟨rfl, hb⟩
         refine ⟨_, rfl, ?_⟩
         replace HB := A_ (below_step bB_ hb)
         (try clear hb)
         (try clear hb2)
         (try clear hk)
         (try clear hi)
         refine hK.out _ _ ⟨((HB.out.cell (World.block_lt_of_cell? w _ hw525_0)).trans hw525_0), ((HB.out.cell (World.block_lt_of_cell? w _ hw525_1)).trans hw525_1), ((HB.out.cell (World.block_lt_of_cell? w _ hw525_2)).trans hw525_2), ((HB.out.cell (World.block_lt_of_cell? w _ hw525_3)).trans hw525_3), ((HB.out.cell (World.block_lt_of_cell? w _ hw525_4)).trans hw525_4), ((HB.out.cell (World.block_lt_of_cell? w _ hw526_0)).trans hw526_0), ((HB.out.cell (World.block_lt_of_cell? w _ hw526_1)).trans hw526_1), ((HB.out.cell (World.block_lt_of_cell? w _ hw526_2)).trans hw526_2), ((HB.out.cell (World.block_lt_of_cell? w _ hw526_3)).trans hw526_3), ((HB.out.cell (World.block_lt_of_cell? w _ hw526_4)).trans hw526_4), ((HB.out.cell (World.block_lt_of_cell? w _ hw527_0)).trans hw527_0), ((HB.out.cell (World.block_lt_of_cell? w _ hw527_1)).trans hw527_1), ((HB.out.cell (World.block_lt_of_cell? w _ hw527_2)).trans hw527_2), ((HB.out.cell (World.block_lt_of_cell? w _ hw527_3)).trans hw527_3), ((HB.out.cell (World.block_lt_of_cell? w _ hw527_4)).trans hw527_4), ((HB.out.cell (World.block_lt_of_cell? w _ hw528_0)).trans hw528_0), ((HB.out.cell (World.block_lt_of_cell? w _ hw528_1)).trans hw528_1), ((HB.out.cell (World.block_lt_of_cell? w _ hw528_2)).trans hw528_2), ((HB.out.cell (World.block_lt_of_cell? w _ hw528_3)).trans hw528_3), ((HB.out.cell (World.block_lt_of_cell? w _ hw528_4)).trans hw528_4)⟩ (fun hHeld => ?_)
         clear hK K
         refine no_ (some 42) ?_
         refine pu_ (i := 21) (N := some 43) ?_
         refine done_ (done_of HT_.out (by kernel_rfl)) ?_
         (try clear hHeld)
         try go_wp2
         go_roundg k2
         case measure => have := HK1.out; have := HK2.out; omega
         case rel => exact ⟨(wrap64 (x4_2 + 1)), rs_, H', ⟨by have := HK1.out; have := HK2.out; omega⟩, ⟨bB_⟩⟩
   · replace c5 := Bool.eq_false_iff.mpr c5
     subst c5
     rw [if_neg nf_] at H
     obtain rfl := Option.some.inj H
     have p523 : 0 ≤ (x3_1 : Int) := of_decide_eq_true as_
     have q523 : x3_1 < (l0.length : Int) := of_decide_eq_true as_
     obtain ⟨ad523, A523_1, c523_1, e523, hx523_0, hx523_1, hx523_2, hx523_3, hx523_4, hl523_1, hi523_1⟩ := at_T28 HR0.out x3_1 p523 q523
     cases e523
     replace hx523_0 := bc_ HB.out hx523_0
     replace hx523_1 := bc_ HB.out hx523_1
     replace hx523_2 := bc_ HB.out hx523_2
     replace hx523_3 := bc_ HB.out hx523_3
     replace hx523_4 := bc_ HB.out hx523_4
     have HR523_1 := Aside0.mk hi523_1
     have HC523_1 := Aside0.mk hl523_1
     clear hi523_1 hl523_1
     replace p523 := eq_true p523
     replace q523 := eq_true q523
     go_wp2_with (first | ((with_reducible refine gate_callee (f := 43) rfl ?_); refine gL_ (some 15) Try.func43 #[.agg #[.int .i64 ((rd_T28 l0 x3_1).f0), .slice A523_1 ((rd_T28 l0 x3_1).f1).length c523_1, .bool ((rd_T28 l0 x3_1).f2), .bool ((rd_T28 l0 x3_1).f3), .int .i64 ((rd_T28 l0 x3_1).f4)]] ?_; (with_reducible refine (spec_LockOk.calls k1 ((rd_T28 l0 x3_1).f0) _ _ ((rd_T28 l0 x3_1).f1) ((rd_T28 l0 x3_1).f2) ((rd_T28 l0 x3_1).f3) ((rd_T28 l0 x3_1).f4) false _ ?s1 ?s2 A4.out).mono ?_); (case s1 => exact cC_ (Kd.C_below HR523_1.out HB.out)); (case s2 => exact HC523_1.out); rintro e w20 ⟨rfl, hb⟩; refine ⟨_, rfl, ?_⟩; replace HB := A_ (below_step bB_ hb); (try clear hb)))
     go_ret
     exact ⟨rr_, bB_⟩
def laws_big.f (l0 : List Int) : Option (Bool) := some (decide ((l0.length : Int) > 1048576))
set_option maxHeartbeats 8000000 in
set_option maxRecDepth 100000 in
theorem laws_big.calls (A0 : Option Addr) (c0 : Nat) (l0 : List Int) (r : Bool) (w : World) (hr0 : Kd.C (Kd.int .u8) w A0 l0.length l0) (hc0 : l0.length ≤ c0) (h : laws_big.f l0 = some r) :
 Calls Try.prog 50 #[.slice A0 l0.length c0] w fun e w' => e = .returned (.bool r) ∧ Drawn0 w w' := by
 have HR0 := Aside0.mk hr0
 have HC0 := Aside0.mk hc0
 clear hr0 hc0
 have H : (some (decide ((l0.length : Int) > 1048576))) = some r := h
 clear h
 obtain rfl := Option.some.inj H
 go_enter Try.func50, Try.ntmps50
 go_wp2
 go_ret
 exact ⟨rs_, dr_⟩
def IsS93 (w0 W : World) (g : Nat) (f0 : List Int) (f1 : Int) (f2 : Int) : Prop := ∃ A0 c0, W.heap[g]? = some (.cells #[.slice A0 f0.length c0, .int .i64 f1, .int .i64 f2] 93 (0, 0)) ∧ w0.heap.size ≤ g ∧ Kd.C (Kd.int .u8) w0 A0 f0.length f0
theorem IsS93.grown {w0 W : World} {g : Nat} {f0 : List Int} {f1 : Int} {f2 : Int} {W1 : World} {row : Option Nat} (h : IsS93 w0 W g f0 f1 f2) (hw : W.grownBy W1 row) (hne : some g ≠ row) : IsS93 w0 W1 g f0 f1 f2 := by
 obtain ⟨A0, c0, hb, hg, hr0⟩ := h
 exact ⟨A0, c0, blk_grown hb hw hne, hg, hr0⟩
theorem IsS93.kept {w0 W : World} {g : Nat} {f0 : List Int} {f1 : Int} {f2 : Int} {W1 : World} {S : Nat → Prop} (h : IsS93 w0 W g f0 f1 f2) (hk : Kept W W1 S) (hne : ¬ S g) : IsS93 w0 W1 g f0 f1 f2 := by
 obtain ⟨A0, c0, hb, hg, hr0⟩ := h
 exact ⟨A0, c0, blk_kept hb hk hne, hg, hr0⟩
theorem IsS93.below {w0 W : World} {g : Nat} {f0 : List Int} {f1 : Int} {f2 : Int} {W1 : World} (h : IsS93 w0 W g f0 f1 f2) (hw : Below W.heap.size W W1) : IsS93 w0 W1 g f0 f1 f2 := h.grown (grown_of_below hw none) (by simp)
theorem IsS93.alloc {w0 W : World} {g : Nat} {f0 : List Int} {f1 : Int} {f2 : Int} (h : IsS93 w0 W g f0 f1 f2) (o : Obj) : IsS93 w0 (W.alloc o) g f0 f1 f2 := h.below (below_alloc (Below.refl _ _) o)
theorem IsS93.drewN {w0 W : World} {g : Nat} {f0 : List Int} {f1 : Int} {f2 : Int} (h : IsS93 w0 W g f0 f1 f2) (m : Nat) : IsS93 w0 (W.drewN m) g f0 f1 f2 := h
theorem IsS93.drew {w0 W : World} {g : Nat} {f0 : List Int} {f1 : Int} {f2 : Int} (h : IsS93 w0 W g f0 f1 f2) : IsS93 w0 W.drew g f0 f1 f2 := h
theorem IsS93.apart {w0 W : World} {g : Nat} {f0 : List Int} {f1 : Int} {f2 : Int} {α : Type} {d : Kd α} {e : Nat} {base : Nat} {ok : Nat → Prop} {v : Value} {xs : List α} (h : IsS93 w0 W g f0 f1 f2) (ho : d.R e W base ok v xs) (ht : ∀ q, q ∈ e :: d.E → q ≠ 93) : d.R e W base (fun k => ok k ∧ k ≠ g) v xs := by
 obtain ⟨A0, c0, hb, hg, hr0⟩ := h
 exact Kd.R_types ho hb ht
theorem IsS93.own_ne {w0 W : World} {g : Nat} {f0 : List Int} {f1 : Int} {f2 : Int} {α : Type} {d : Kd α} {e : Nat} {base : Nat} {ok : Nat → Prop} {v : Value} {xs : List α} (h : IsS93 w0 W g f0 f1 f2) (ho : d.R e W base ok v xs) (ht : e ≠ 93) : some g ≠ v.ownBlock := by
 obtain ⟨A0, c0, hb, hg, hr0⟩ := h
 exact Kd.R_ne ho hb ht
theorem IsS93.apartS {w0 W : World} {g : Nat} {f0 : List Int} {f1 : Int} {f2 : Int} {α : Type} {d : Kd α} {e : Nat} {base : Nat} {ok : Nat → Prop} {v : Value} {xs : List α} (h : IsS93 w0 W g f0 f1 f2) (ho : d.S e W base ok v xs) (ht : ∀ q, q ∈ e :: d.E → q ≠ 93) : d.S e W base (fun k => ok k ∧ k ≠ g) v xs := by
 obtain ⟨A0, c0, hb, hg, hr0⟩ := h
 exact Kd.S_types ho hb ht
theorem IsS93.own_neS {w0 W : World} {g : Nat} {f0 : List Int} {f1 : Int} {f2 : Int} {α : Type} {d : Kd α} {e : Nat} {base : Nat} {ok : Nat → Prop} {v : Value} {xs : List α} (h : IsS93 w0 W g f0 f1 f2) (ho : d.S e W base ok v xs) (ht : e ≠ 93) : some g ≠ v.ownBlock := by
 obtain ⟨A0, c0, hb, hg, hr0⟩ := h
 exact Kd.S_ne ho hb ht
theorem IsS93.lt {w0 W : World} {g : Nat} {f0 : List Int} {f1 : Int} {f2 : Int} (h : IsS93 w0 W g f0 f1 f2) : g < W.heap.size := by
 obtain ⟨A0, c0, hb, hg, hr0⟩ := h
 exact blk_lt hb
theorem IsS93.ge {w0 W : World} {g : Nat} {f0 : List Int} {f1 : Int} {f2 : Int} (h : IsS93 w0 W g f0 f1 f2) : w0.heap.size ≤ g := by
 obtain ⟨A0, c0, hb, hg, hr0⟩ := h
 exact hg
theorem IsS93.ne_blk {w0 W : World} {g : Nat} {f0 : List Int} {f1 : Int} {f2 : Int} {a : Nat} {cs : Array Value} {t : TypeId} {fr : Nat × Nat} (h : IsS93 w0 W g f0 f1 f2) (hb2 : W.heap[a]? = some (.cells cs t fr)) (ht : t ≠ 93) : g ≠ a := by
 obtain ⟨A0, c0, hb, hg, hr0⟩ := h
 rintro rfl
 rw [hb] at hb2
 injection hb2 with hb2
 injection hb2 with _ ht2
 exact ht ht2.symm
theorem IsS93.far {w0 W : World} {g : Nat} {f0 : List Int} {f1 : Int} {f2 : Int} {p : Addr} (h : IsS93 w0 W g f0 f1 f2) (hne : g ≠ p.block) (u : Value) : IsS93 w0 (W.setCell p u) g f0 f1 f2 := by
 obtain ⟨A0, c0, hb, hg, hr0⟩ := h
 exact ⟨A0, c0, blk_far hb hne u, hg, hr0⟩
theorem cellS93_0 {W : World} {g : Nat} {A0 : Option Addr} {c0 : Nat} {f0 : List Int} {f1 : Int} {f2 : Int} (h : W.heap[g]? = some (.cells #[.slice A0 f0.length c0, .int .i64 f1, .int .i64 f2] 93 (0, 0))) : W.cell? ⟨g, 0, none⟩ = some (.slice A0 f0.length c0) := (blk_cell h 0).trans rfl
theorem cellS93_1 {W : World} {g : Nat} {A0 : Option Addr} {c0 : Nat} {f0 : List Int} {f1 : Int} {f2 : Int} (h : W.heap[g]? = some (.cells #[.slice A0 f0.length c0, .int .i64 f1, .int .i64 f2] 93 (0, 0))) : W.cell? ⟨g, 1, none⟩ = some (.int .i64 f1) := (blk_cell h 1).trans rfl
theorem IsS93.set_1 {w0 W : World} {g : Nat} {f0 : List Int} {f1 : Int} {f2 : Int} (h : IsS93 w0 W g f0 f1 f2) (x : Int) : IsS93 w0 (W.setCell ⟨g, 1, none⟩ (.int .i64 x)) g f0 x f2 := by
 obtain ⟨A0, c0, hb, hg, hr0⟩ := h
 exact ⟨A0, c0, by simpa using blk_set hb 1 (.int .i64 x), hg, hr0⟩
theorem cellS93_2 {W : World} {g : Nat} {A0 : Option Addr} {c0 : Nat} {f0 : List Int} {f1 : Int} {f2 : Int} (h : W.heap[g]? = some (.cells #[.slice A0 f0.length c0, .int .i64 f1, .int .i64 f2] 93 (0, 0))) : W.cell? ⟨g, 2, none⟩ = some (.int .i64 f2) := (blk_cell h 2).trans rfl
theorem IsS93.set_2 {w0 W : World} {g : Nat} {f0 : List Int} {f1 : Int} {f2 : Int} (h : IsS93 w0 W g f0 f1 f2) (x : Int) : IsS93 w0 (W.setCell ⟨g, 2, none⟩ (.int .i64 x)) g f0 f1 x := by
 obtain ⟨A0, c0, hb, hg, hr0⟩ := h
 exact ⟨A0, c0, by simpa using blk_set hb 2 (.int .i64 x), hg, hr0⟩
def spec_l1New.l0 : Nat → List Int → Int → Int → Option (List Int × Int × Int)
 | 0, _, _, _ => none
 | k + 1, x0, x3, x4 => if x4 < (x0.length : Int) then (if x4 < 4000 then (if 0 ≤ x4 then (spec_l1New.l0 k x0 (Go.bits .and .i64 (wrap64 ((wrap64 ((wrap64 (x3 * 137)) + (wrap64 (rd x0 x4)))) + 11)) 1073741823) (wrap64 (x4 + 1))) else (none)) else (some (x0, 0, x3))) else (some (x0, 0, x3))
def spec_l1New.f (k : Nat) (l0 : List Int) : Option (List Int × Int × Int) := spec_l1New.l0 k l0 (wrap64 (774774 + (l0.length : Int))) 0
set_option maxHeartbeats 8000000 in
set_option maxRecDepth 100000 in
theorem spec_l1New.calls (k : Nat) (A0 : Option Addr) (c0 : Nat) (l0 : List Int) (r1 : List Int) (r2 : Int) (r3 : Int) (w0 w : World) (hB : Below w0.heap.size w0 w) (hr0 : Kd.C (Kd.int .u8) w0 A0 l0.length l0) (hc0 : l0.length ≤ c0) (h : spec_l1New.f k l0 = some (r1, r2, r3)) :
 Calls Try.prog 78 #[.slice A0 l0.length c0] w fun e w' => ∃ g_ : Nat, e = .returned (.pointer (some ⟨g_, 0, none⟩)) ∧ IsS93 w0 w' g_ r1 r2 r3 ∧ Below w0.heap.size w0 w' ∧ Below w.heap.size w w' := by
 have hu93 := Try.underlying93
 have HR0 := Aside0.mk hr0
 have HC0 := Aside0.mk hc0
 clear hr0 hc0
 have HBW := A_ (Below.refl w.heap.size w)
 have HW0 := Aside0.mk hB.size
 have HB := Aside0.mk hB
 clear hB
 have H : (spec_l1New.l0 k l0 (wrap64 (774774 + (l0.length : Int))) 0) = some (r1, r2, r3) := h
 clear h
 have H' := Aside0.mk H
 clear H
 go_enter Try.func78, Try.ntmps78
 go_wp2
 go_loopg [3, 4] k (fun kq v3 v4 w' => ∃ (x3_1 : Int) (x4_1 : Int), v3 = .int .i64 x3_1 ∧ v4 = .int .i64 x4_1 ∧ Aside0 (spec_l1New.l0 kq l0 x3_1 x4_1 = some (r1, r2, r3)) ∧ Aside0 (kq ≤ k) ∧ Aside0 (Below w0.heap.size w0 w') ∧ Aside0 (Below w.heap.size w w'))
 case atStart => exact ⟨(wrap64 (774774 + (l0.length : Int))), (0), rs_, rs_, H', ⟨Nat.le_refl _⟩, ⟨bB_⟩, ⟨by repeat (first | (with_reducible first | exact HBW.out | apply below_alloc | apply pw_below_drewN | apply below_drew1) | exact HBW.out)⟩⟩
 case round =>
  clear H'
  obtain ⟨x3_1, x4_1, rfl, rfl, HA, HK1, HB, HBW⟩ := hrel
  cases gk with
  | zero => exact absurd HA.out (by simp [spec_l1New.l0])
  | succ k1 =>
   have H := HA.out
   clear HA
   simp only [spec_l1New.l0] at H
   by_cases c2 : x4_1 < (l0.length : Int)
   rotate_left
   · rw [if_neg c2] at H
     have c2b0 : decide (x4_1 < (l0.length : Int)) = false := decide_eq_false c2
     clear c2
     simp only [Option.some.injEq, Prod.mk.injEq] at H
     obtain ⟨rfl, rfl, rfl⟩ := H
     go_wp2_with (first | ((with_reducible refine gate_dst (N := 31) rfl ?_); refine bx_ (N := 31) (cs := #[.slice A0 l0.length c0, .int .i64 0, .int .i64 x3_1]) (t := 93) ?_; intro gb640 hg w6 hbox hb; replace HB := A_ (below_step bB_ hb); have BK640 := A_ (hbox); have GW640 := A_ ((by rw [hg]; exact (below_size (by repeat (first | (with_reducible first | exact HBW.out | apply below_alloc | apply pw_below_drewN | apply below_drew1) | exact HBW.out))) : w.heap.size ≤ gb640)); have GE640 := A_ ((Nat.le_trans HW0.out (by rw [hg]; exact (below_size (by repeat (first | (with_reducible first | exact HBW.out | apply below_alloc | apply pw_below_drewN | apply below_drew1) | exact HBW.out))) : w.heap.size ≤ gb640) : w0.heap.size ≤ gb640)); replace HBW := A_ (below_step HBW.out hb); clear hb hbox hg))
     go_ret
     exact ⟨_, rfl, (show IsS93 w0 _ gb640 l0 0 x3_1 from ⟨_, _, by (with_reducible repeat (first | refine blk_drewN ?_ _ | refine blk_drew ?_ | refine blk_alloc ?_ _)); exact BK640.out, GE640.out, HR0.out⟩), bG_ GE640.out, by repeat (first | (with_reducible first | exact HBW.out | apply below_alloc | apply pw_below_drewN | apply below_drew1 | refine below_set ?_ GW640.out) | exact HBW.out)⟩
   rw [if_pos c2] at H
   have c2b0 : decide (x4_1 < (l0.length : Int)) = true := decide_eq_true c2
   clear c2
   by_cases c3 : x4_1 < 4000
   · rw [if_pos c3] at H
     have c3b0 : decide (x4_1 < 4000) = true := decide_eq_true c3
     clear c3
     by_cases c4 : 0 ≤ x4_1
     rotate_left
     · exact absurd H (by rw [if_neg c4]; simp)
     rw [if_pos c4] at H
     have c4b0 : decide (0 ≤ x4_1) = true := decide_eq_true c4
     clear c4
     have H' := Aside0.mk H
     clear H
     have p638 : 0 ≤ (x4_1 : Int) := of_decide_eq_true as_
     have q638 : x4_1 < (l0.length : Int) := of_decide_eq_true as_
     obtain ⟨ad638, e638, hx638_0⟩ := Kd.at_int HR0.out x4_1 p638 q638
     cases e638
     replace hx638_0 := pw_cell_below HB.out hx638_0
     replace p638 := eq_true p638
     replace q638 := eq_true q638
     go_wp2
     go_roundg k1
     case measure => have := HK1.out; omega
     case rel => exact ⟨(Go.bits .and .i64 (wrap64 ((wrap64 ((wrap64 (x3_1 * 137)) + (wrap64 (rd l0 x4_1)))) + 11)) 1073741823), (wrap64 (x4_1 + 1)), rs_, rs_, H', ⟨by have := HK1.out; omega⟩, ⟨bB_⟩, ⟨by repeat (first | (with_reducible first | exact HBW.out | apply below_alloc | apply pw_below_drewN | apply below_drew1) | exact HBW.out)⟩⟩
   rw [if_neg c3] at H
   have c3b0 : decide (x4_1 < 4000) = false := decide_eq_false c3
   clear c3
   simp only [Option.some.injEq, Prod.mk.injEq] at H
   obtain ⟨rfl, rfl, rfl⟩ := H
   go_wp2_with (first | ((with_reducible refine gate_dst (N := 31) rfl ?_); refine bx_ (N := 31) (cs := #[.slice A0 l0.length c0, .int .i64 0, .int .i64 x3_1]) (t := 93) ?_; intro gb639 hg w5 hbox hb; replace HB := A_ (below_step bB_ hb); have BK639 := A_ (hbox); have GW639 := A_ ((by rw [hg]; exact (below_size (by repeat (first | (with_reducible first | exact HBW.out | apply below_alloc | apply pw_below_drewN | apply below_drew1) | exact HBW.out))) : w.heap.size ≤ gb639)); have GE639 := A_ ((Nat.le_trans HW0.out (by rw [hg]; exact (below_size (by repeat (first | (with_reducible first | exact HBW.out | apply below_alloc | apply pw_below_drewN | apply below_drew1) | exact HBW.out))) : w.heap.size ≤ gb639) : w0.heap.size ≤ gb639)); replace HBW := A_ (below_step HBW.out hb); clear hb hbox hg))
   go_ret
   exact ⟨_, rfl, (show IsS93 w0 _ gb639 l0 0 x3_1 from ⟨_, _, by (with_reducible repeat (first | refine blk_drewN ?_ _ | refine blk_drew ?_ | refine blk_alloc ?_ _)); exact BK639.out, GE639.out, HR0.out⟩), bG_ GE639.out, by repeat (first | (with_reducible first | exact HBW.out | apply below_alloc | apply pw_below_drewN | apply below_drew1 | refine below_set ?_ GW639.out) | exact HBW.out)⟩
end Go.Proofs.Ytiddgglidkbipaa.Q
