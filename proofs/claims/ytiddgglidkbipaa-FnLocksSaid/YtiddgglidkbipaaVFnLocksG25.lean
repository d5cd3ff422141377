-- PRINTED by print.py (a twelfth state) out of the translation. Not trusted: Lean checks it.
import Derived.Test.YtiddgglidkbipaaVFnLocksG12
import Derived.Test.YtiddgglidkbipaaVFnLocksG22
import Derived.Test.YtiddgglidkbipaaVFnLocksG24
namespace Go.Proofs.Ytiddgglidkbipaa.Q
open Go.RowKit Go.Proofs.YtiddgglidkbipaaW.PrintWords Go.Proofs.YtiddgglidkbipaaW.PrintLast Go.Proofs.YtiddgglidkbipaaW.PrintMore
attribute [local go_sem] max2_int min2_int max_two min_two max_three min_three max_four min_four   -- for this text's walks alone
set_option linter.unusedVariables false
set_option linter.unusedSimpArgs false
mutual
def impl_LocksOk.l0 : Nat → List (S28) → List (S28) → Int → Int → Option (Bool)
 | 0, _, _, _, _ => none
 | k + 1, x0, x7, x8, x9 => if x9 < x8 then (if 0 ≤ x9 then (if x9 < (x7.length : Int) then ((impl_LockOk.f k ((rd_T28 x7 x9).f0) ((rd_T28 x7 x9).f1) ((rd_T28 x7 x9).f2) ((rd_T28 x7 x9).f3) ((rd_T28 x7 x9).f4)).bind fun t532 => (if t532 = true then (if x9 ≤ (x0.length : Int) then ((some (x0.take (x9 : Int).toNat : List (S28))).bind fun y533 => (impl_LocksOk.l1 k x0 x7 x8 x9 y533 (y533.length : Int) 0 ((rd_T28 x7 x9).f0) ((rd_T28 x7 x9).f1) ((rd_T28 x7 x9).f2) ((rd_T28 x7 x9).f3) ((rd_T28 x7 x9).f4))) else (none)) else (some false))) else (none)) else (none)) else (some (decide ((x0.length : Int) ≤ 6)))
def impl_LocksOk.l1 : Nat → List (S28) → List (S28) → Int → Int → List (S28) → Int → Int → Int → List ByteArray → Bool → Bool → Int → Option (Bool)
 | 0, _, _, _, _, _, _, _, _, _, _, _, _ => none
 | k + 1, x0, x7, x8, x9, x19, x20, x21, x532000, x532001, x532002, x532003, x532004 => if x21 < x20 then (if 0 ≤ x21 then (if x21 < (x19.length : Int) then (if x532000 = ((rd_T28 x19 x21).f0) then (some false) else ((impl_LockClash.f k x532000 x532001 x532002 x532003 x532004 ((rd_T28 x19 x21).f0) ((rd_T28 x19 x21).f1) ((rd_T28 x19 x21).f2) ((rd_T28 x19 x21).f3) ((rd_T28 x19 x21).f4)).bind fun t539 => (if t539 = true then (some false) else (impl_LocksOk.l1 k x0 x7 x8 x9 x19 x20 (wrap64 (x21 + 1)) x532000 x532001 x532002 x532003 x532004)))) else (none)) else (none)) else (impl_LocksOk.l0 k x0 x7 x8 (wrap64 (x9 + 1)))
end
def impl_LocksOk.f (k : Nat) (l0 : List (S28)) : Option (Bool) := impl_LocksOk.l0 k l0 l0 (l0.length : Int) 0
set_option maxHeartbeats 8000000 in
set_option maxRecDepth 100000 in
theorem impl_LocksOk.calls (k : Nat) (A0 : Option Addr) (c0 : Nat) (l0 : List (S28)) (r : Bool) (w : World) (hr0 : Kd.C k28 w A0 l0.length l0) (hc0 : l0.length ≤ c0) (h : impl_LocksOk.f k l0 = some r) :
 Calls Try.prog 46 #[.slice A0 l0.length c0] w fun e w' => e = .returned (.bool r) ∧ Below w.heap.size w w' := by
 have hu28 := Try.underlying28
 have HR0 := Aside0.mk hr0
 have HC0 := Aside0.mk hc0
 clear hr0 hc0
 have HB := A_ (Below.refl w.heap.size w)
 have H : (impl_LocksOk.l0 k l0 l0 (l0.length : Int) 0) = some r := h
 clear h
 have H' := Aside0.mk H
 clear H
 go_enter Try.func46, Try.ntmps46
 go_wp2
 go_loopg [9] k (fun kq v9 w' => ∃ (x9_1 : Int), v9 = .int .i64 x9_1 ∧ Aside0 (impl_LocksOk.l0 kq l0 l0 (l0.length : Int) x9_1 = some r) ∧ Aside0 (kq ≤ k) ∧ Aside0 (Below w.heap.size w w'))
 case atStart => exact ⟨(0), rs_, H', ⟨Nat.le_refl _⟩, ⟨bB_⟩⟩
 case round =>
  clear H'
  obtain ⟨x9_1, rfl, HA, HK1, HB⟩ := hrel
  cases gk with
  | zero => exact absurd HA.out (by simp [impl_LocksOk.l0])
  | succ k1 =>
   have H := HA.out
   clear HA
   simp only [impl_LocksOk.l0] at H
   by_cases c2 : x9_1 < (l0.length : Int)
   rotate_left
   · rw [if_neg c2] at H
     have c2b0 : decide (x9_1 < (l0.length : Int)) = false := decide_eq_false c2
     clear c2
     obtain rfl := Option.some.inj H
     go_wp2
     go_ret
     exact ⟨rr_, bB_⟩
   rw [if_pos c2] at H
   have c2b0 : decide (x9_1 < (l0.length : Int)) = true := decide_eq_true c2
   clear c2
   by_cases c3 : 0 ≤ x9_1
   rotate_left
   · exact absurd H (by rw [if_neg c3]; simp)
   rw [if_pos c3] at H
   have c3b0 : decide (0 ≤ x9_1) = true := decide_eq_true c3
   clear c3
   by_cases c4 : x9_1 < (l0.length : Int)
   rotate_left
   · exact absurd H (by rw [if_neg c4]; simp)
   rw [if_pos c4] at H
   have c4b0 : decide (x9_1 < (l0.length : Int)) = true := decide_eq_true c4
   clear c4
   obtain ⟨t532, A5, H⟩ := bo_ H
   (try dsimp only at H)
   by_cases c6 : t532 = true
   · subst c6
     rw [if_pos rfl] at H
     have c7b0 := eq_true (of_decide_eq_true as_ : 0 ≤ x9_1)
     by_cases c8 : x9_1 ≤ (l0.length : Int)
     rotate_left
     · exact absurd H (by rw [if_neg c8]; simp)
     rw [if_pos c8] at H
     have c8b0 := eq_true c8
     have c8b1 : decide (x9_1 ≤ (l0.length : Int)) = true := decide_eq_true c8
     clear c8
     obtain ⟨y533, hy533⟩ : ∃ y_ : List (S28), y_ = (l0.take (x9_1 : Int).toNat) := ⟨_, rfl⟩
     replace H : (impl_LocksOk.l1 k1 l0 l0 (l0.length : Int) x9_1 y533 (y533.length : Int) 0 ((rd_T28 l0 x9_1).f0) ((rd_T28 l0 x9_1).f1) ((rd_T28 l0 x9_1).f2) ((rd_T28 l0 x9_1).f3) ((rd_T28 l0 x9_1).f4)) = some r := hy_ hy533 H
     have Ny533 := Aside0.mk hy533
     clear hy533
     have H' := Aside0.mk H
     clear H
     have p530 : 0 ≤ (x9_1 : Int) := of_decide_eq_true as_
     have q530 : x9_1 < (l0.length : Int) := of_decide_eq_true as_
     obtain ⟨ad530, A530_1, c530_1, e530, hx530_0, hx530_1, hx530_2, hx530_3, hx530_4, hl530_1, hi530_1⟩ := at_T28 HR0.out x9_1 p530 q530
     cases e530
     replace hx530_0 := bc_ HB.out hx530_0
     replace hx530_1 := bc_ HB.out hx530_1
     replace hx530_2 := bc_ HB.out hx530_2
     replace hx530_3 := bc_ HB.out hx530_3
     replace hx530_4 := bc_ HB.out hx530_4
     have HR530_1 := Aside0.mk hi530_1
     have HC530_1 := Aside0.mk hl530_1
     clear hi530_1 hl530_1
     replace p530 := eq_true p530
     replace q530 := eq_true q530
     go_wp2_with (first | ((with_reducible refine gate_dst (N := 4) rfl ?_); refine bx_ (N := 4) (cs := #[.int .i64 0, .slice none 0 0, .bool false, .bool false, .int .i64 0]) (t := 28) ?_; intro gb531 hg w9 hbox hb; have BK531 := A_ (hbox); have GW531 := A_ (ge_ hg bB_ : w.heap.size ≤ gb531); have GE531 := A_ (ge_ hg bB_ : w.heap.size ≤ gb531); replace HB := A_ (below_step bB_ hb); clear hb hbox hg; obtain ⟨hcz10_0, hcz10_1, hcz10_2, hcz10_3, hcz10_4, hfz10_0, hfz10_1, hfz10_2, hfz10_3, hfz10_4⟩ := cz5_ BK531.out) | ((with_reducible refine gate_callee (f := 44) rfl ?_); refine gL_ (some 15) Try.func44 #[.agg #[.int .i64 ((rd_T28 l0 x9_1).f0), .slice A530_1 ((rd_T28 l0 x9_1).f1).length c530_1, .bool ((rd_T28 l0 x9_1).f2), .bool ((rd_T28 l0 x9_1).f3), .int .i64 ((rd_T28 l0 x9_1).f4)]] ?_; (with_reducible refine (impl_LockOk.calls k1 ((rd_T28 l0 x9_1).f0) _ _ ((rd_T28 l0 x9_1).f1) ((rd_T28 l0 x9_1).f2) ((rd_T28 l0 x9_1).f3) ((rd_T28 l0 x9_1).f4) true _ ?s1 ?s2 A5.out).mono ?_); (case s1 => exact Kd.C_below HR530_1.out (bG_ GE531.out)); (case s2 => exact HC530_1.out); rintro e w11 ⟨rfl, hb⟩; refine ⟨_, rfl, ?_⟩; replace BK531 := A_ (blk_below (g := gb531) (o := .cells #[.int .i64 ((rd_T28 l0 x9_1).f0), .slice A530_1 ((rd_T28 l0 x9_1).f1).length c530_1, .bool ((rd_T28 l0 x9_1).f2), .bool ((rd_T28 l0 x9_1).f3), .int .i64 ((rd_T28 l0 x9_1).f4)] 28 (0, 0)) (by (with_reducible repeat (first | refine blk_drewN ?_ _ | refine blk_drew ?_ | refine blk_alloc ?_ _)); refine blk_put (cs := #[.int .i64 ((rd_T28 l0 x9_1).f0), .slice A530_1 ((rd_T28 l0 x9_1).f1).length c530_1, .bool ((rd_T28 l0 x9_1).f2), .bool ((rd_T28 l0 x9_1).f3), .int .i64 0]) ?_ 4 _ rfl; (with_reducible repeat (first | refine blk_drewN ?_ _ | refine blk_drew ?_ | refine blk_alloc ?_ _)); refine blk_put (cs := #[.int .i64 ((rd_T28 l0 x9_1).f0), .slice A530_1 ((rd_T28 l0 x9_1).f1).length c530_1, .bool ((rd_T28 l0 x9_1).f2), .bool false, .int .i64 0]) ?_ 3 _ rfl; (with_reducible repeat (first | refine blk_drewN ?_ _ | refine blk_drew ?_ | refine blk_alloc ?_ _)); refine blk_put (cs := #[.int .i64 ((rd_T28 l0 x9_1).f0), .slice A530_1 ((rd_T28 l0 x9_1).f1).length c530_1, .bool false, .bool false, .int .i64 0]) ?_ 2 _ rfl; (with_reducible repeat (first | refine blk_drewN ?_ _ | refine blk_drew ?_ | refine blk_alloc ?_ _)); refine blk_put (cs := #[.int .i64 ((rd_T28 l0 x9_1).f0), .slice none 0 0, .bool false, .bool false, .int .i64 0]) ?_ 1 _ rfl; (with_reducible repeat (first | refine blk_drewN ?_ _ | refine blk_drew ?_ | refine blk_alloc ?_ _)); refine blk_put (cs := #[.int .i64 0, .slice none 0 0, .bool false, .bool false, .int .i64 0]) ?_ 0 _ rfl; (with_reducible repeat (first | refine blk_drewN ?_ _ | refine blk_drew ?_ | refine blk_alloc ?_ _)); exact BK531.out) hb); replace HB := A_ (below_step (bG_ GE531.out) hb); (try clear hb); have q12 : (x9_1 : Int) ≤ ((l0.length : Int) : Int) := of_decide_eq_true as_; obtain ⟨i012, hi012, _, hsz12, _⟩ := info_parts info28; have hroom12 : l0.length ≤ c0 := HC0.out; have hC12 : Kd.C k28 _ (some ad530) l0.length l0 := HR0.out; have hcut12 := cut_to (P := Try.prog) 39 28 .i64 Try.underlying39 hi012 (some ad530) l0.length c0 x9_1 (of_decide_eq_true as_) q12 hroom12; have hr12 := Kd.C_take (m := (x9_1 : Int).toNat) hC12 (by omega); have hy12 : y533.length = (x9_1 : Int).toNat := (by rw [Ny533.out, List.length_take]; omega); rw [← Ny533.out] at hr12; rw [← hy12] at hcut12; have HR536 := Aside0.mk hr12; have HC536 := A_ (show y533.length ≤ c0 from by omega); clear hr12 hC12 hroom12 hi012 hsz12; have KY12 := Aside0.mk hy12; clear hy12; replace q12 := eq_true q12))
     go_loopg [21] k1 (fun kq v21 w' => ∃ (x21_2 : Int), v21 = .int .i64 x21_2 ∧ Aside0 (impl_LocksOk.l1 kq l0 l0 (l0.length : Int) x9_1 y533 (y533.length : Int) x21_2 ((rd_T28 l0 x9_1).f0) ((rd_T28 l0 x9_1).f1) ((rd_T28 l0 x9_1).f2) ((rd_T28 l0 x9_1).f3) ((rd_T28 l0 x9_1).f4) = some r) ∧ Aside0 (kq ≤ k1) ∧ Aside0 (w'.heap[gb531]? = some (.cells #[.int .i64 ((rd_T28 l0 x9_1).f0), (.slice A530_1 ((rd_T28 l0 x9_1).f1).length c530_1), .bool ((rd_T28 l0 x9_1).f2), .bool ((rd_T28 l0 x9_1).f3), .int .i64 ((rd_T28 l0 x9_1).f4)] 28 (0, 0))) ∧ Aside0 (Below w.heap.size w w'))
     case atStart => exact ⟨(0), rs_, H', ⟨Nat.le_refl _⟩, ⟨vb_ BK531.out⟩, ⟨bG_ GE531.out⟩⟩
     case round =>
      clear H'
      try clear q1
      try clear c2
      try clear c2b0
      try clear p2
      try clear c3
      try clear c3b0
      try clear c4
      try clear c4b0
      try clear c5
      try clear p5
      try clear q5
      try clear hx5
      try clear c6
      try clear c7
      try clear c7b0
      try clear c8
      try clear c8b0
      try clear c8b1
      try clear q12
      try clear hcz10_0
      try clear hcz10_1
      try clear hcz10_2
      try clear hcz10_3
      try clear hcz10_4
      try clear hfz10_0
      try clear hfz10_1
      try clear hfz10_2
      try clear hfz10_3
      try clear hfz10_4
      try clear hx530_0
      try clear hx530_1
      try clear hx530_2
      try clear hx530_3
      try clear hx530_4
      try clear p530
      try clear q12
      try clear q530
      obtain ⟨x21_2, rfl, HA, HK2, BK531, HB⟩ := hrel
      cases gk with
      | zero => exact absurd HA.out (by simp [impl_LocksOk.l1])
      | succ k2 =>
       have H := HA.out
       clear HA
       simp only [impl_LocksOk.l1] at H
       by_cases c13 : x21_2 < (y533.length : Int)
       rotate_left
       · rw [if_neg c13] at H
         have c13b0 : decide (x21_2 < (y533.length : Int)) = false := decide_eq_false c13
         clear c13
         have H' := Aside0.mk H
         clear H
         go_wp2
         go_roundg k2
         case measure => have := HK1.out; have := HK2.out; omega
         case rel => exact ⟨(wrap64 (x9_1 + 1)), rs_, H', ⟨by have := HK1.out; have := HK2.out; omega⟩, ⟨bG_ GE531.out⟩⟩
       rw [if_pos c13] at H
       have c13b0 : decide (x21_2 < (y533.length : Int)) = true := decide_eq_true c13
       clear c13
       by_cases c14 : 0 ≤ x21_2
       rotate_left
       · exact absurd H (by rw [if_neg c14]; simp)
       rw [if_pos c14] at H
       have c14b0 : decide (0 ≤ x21_2) = true := decide_eq_true c14
       clear c14
       by_cases c15 : x21_2 < (y533.length : Int)
       rotate_left
       · exact absurd H (by rw [if_neg c15]; simp)
       rw [if_pos c15] at H
       have c15b0 : decide (x21_2 < (y533.length : Int)) = true := decide_eq_true c15
       clear c15
       by_cases c16 : ((rd_T28 l0 x9_1).f0) = ((rd_T28 y533 x21_2).f0)
       · rw [if_pos c16] at H
         have c16b0 : (((rd_T28 l0 x9_1).f0) == ((rd_T28 y533 x21_2).f0)) = true := beq_iff_eq.mpr c16
         have c16b1 : (((rd_T28 l0 x9_1).f0) != ((rd_T28 y533 x21_2).f0)) = false := bne_eq_false_iff_eq.mpr c16
         clear c16
         obtain rfl := Option.some.inj H
         have p537 : 0 ≤ (x21_2 : Int) := of_decide_eq_true as_
         have q537 : x21_2 < (y533.length : Int) := of_decide_eq_true as_
         obtain ⟨ad537, A537_1, c537_1, e537, hx537_0, hx537_1, hx537_2, hx537_3, hx537_4, hl537_1, hi537_1⟩ := at_T28 HR536.out x21_2 p537 q537
         obtain rfl : ad530 = ad537 := (by injection e537)
         replace hx537_0 := bc_ HB.out hx537_0
         replace hx537_1 := bc_ HB.out hx537_1
         replace hx537_2 := bc_ HB.out hx537_2
         replace hx537_3 := bc_ HB.out hx537_3
         replace hx537_4 := bc_ HB.out hx537_4
         have HR537_1 := Aside0.mk hi537_1
         have HC537_1 := Aside0.mk hl537_1
         clear hi537_1 hl537_1
         replace p537 := eq_true p537
         replace q537 := eq_true q537
         go_wp2_with (first | ((with_reducible refine gate_dst (N := 6) rfl ?_); refine bx_ (N := 6) (cs := #[.int .i64 0, .slice none 0 0, .bool false, .bool false, .int .i64 0]) (t := 28) ?_; intro gb538 hg w17 hbox hb; have BK538 := A_ (hbox); have GW538 := A_ (ge_ hg (bG_ GE531.out) : w.heap.size ≤ gb538); have GE538 := A_ (ge_ hg (bG_ GE531.out) : w.heap.size ≤ gb538); replace HB := A_ (below_step (bG_ GE531.out) hb); have NB531_538 := A_ (gm_ hg BK531.out); have NB538_531 := A_ (gn_ hg BK531.out); replace BK531 := A_ (bw_ BK531.out hb); clear hb hbox hg; have hnb18 := NB538_531.out; have hnc18 := NB531_538.out; obtain ⟨hcz19_0, hcz19_1, hcz19_2, hcz19_3, hcz19_4, hfz19_0, hfz19_1, hfz19_2, hfz19_3, hfz19_4⟩ := cz5_ BK538.out; obtain ⟨hcz20_0, hcz20_1, hcz20_2, hcz20_3, hcz20_4, hfz20_0, hfz20_1, hfz20_2, hfz20_3, hfz20_4⟩ := cz5_ BK531.out))
         go_ret
         exact ⟨rr_, by repeat (first | (with_reducible first | exact HB.out | apply below_alloc | apply pw_below_drewN | apply below_drew1 | refine below_set ?_ GE531.out | refine below_set ?_ GE538.out) | exact HB.out)⟩
       rw [if_neg c16] at H
       have c16b0 : (((rd_T28 l0 x9_1).f0) == ((rd_T28 y533 x21_2).f0)) = false := beq_eq_false_iff_ne.mpr c16
       have c16b1 : (((rd_T28 l0 x9_1).f0) != ((rd_T28 y533 x21_2).f0)) = true := bne_iff_ne.mpr c16
       obtain ⟨t539, A21, H⟩ := bo_ H
       (try dsimp only at H)
       by_cases c22 : t539 = true
       · subst c22
         rw [if_pos rfl] at H
         obtain rfl := Option.some.inj H
         have p537 : 0 ≤ (x21_2 : Int) := of_decide_eq_true as_
         have q537 : x21_2 < (y533.length : Int) := of_decide_eq_true as_
         obtain ⟨ad537, A537_1, c537_1, e537, hx537_0, hx537_1, hx537_2, hx537_3, hx537_4, hl537_1, hi537_1⟩ := at_T28 HR536.out x21_2 p537 q537
         obtain rfl : ad530 = ad537 := (by injection e537)
         replace hx537_0 := bc_ HB.out hx537_0
         replace hx537_1 := bc_ HB.out hx537_1
         replace hx537_2 := bc_ HB.out hx537_2
         replace hx537_3 := bc_ HB.out hx537_3
         replace hx537_4 := bc_ HB.out hx537_4
         have HR537_1 := Aside0.mk hi537_1
         have HC537_1 := Aside0.mk hl537_1
         clear hi537_1 hl537_1
         replace p537 := eq_true p537
         replace q537 := eq_true q537
         go_wp2_with (first | ((with_reducible refine gate_dst (N := 6) rfl ?_); refine bx_ (N := 6) (cs := #[.int .i64 0, .slice none 0 0, .bool false, .bool false, .int .i64 0]) (t := 28) ?_; intro gb538 hg w23 hbox hb; have BK538 := A_ (hbox); have GW538 := A_ (ge_ hg (bG_ GE531.out) : w.heap.size ≤ gb538); have GE538 := A_ (ge_ hg (bG_ GE531.out) : w.heap.size ≤ gb538); replace HB := A_ (below_step (bG_ GE531.out) hb); have NB531_538 := A_ (gm_ hg BK531.out); have NB538_531 := A_ (gn_ hg BK531.out); replace BK531 := A_ (bw_ BK531.out hb); clear hb hbox hg; have hnb24 := NB538_531.out; have hnc24 := NB531_538.out; obtain ⟨hcz25_0, hcz25_1, hcz25_2, hcz25_3, hcz25_4, hfz25_0, hfz25_1, hfz25_2, hfz25_3, hfz25_4⟩ := cz5_ BK538.out; obtain ⟨hcz26_0, hcz26_1, hcz26_2, hcz26_3, hcz26_4, hfz26_0, hfz26_1, hfz26_2, hfz26_3, hfz26_4⟩ := cz5_ BK531.out) | (go_at_call 24; (with_reducible refine (impl_LockClash.calls k2 ((rd_T28 l0 x9_1).f0) _ _ ((rd_T28 l0 x9_1).f1) ((rd_T28 l0 x9_1).f2) ((rd_T28 l0 x9_1).f3) ((rd_T28 l0 x9_1).f4) ((rd_T28 y533 x21_2).f0) _ _ ((rd_T28 y533 x21_2).f1) ((rd_T28 y533 x21_2).f2) ((rd_T28 y533 x21_2).f3) ((rd_T28 y533 x21_2).f4) true _ ?s1 ?s2 ?s3 ?s4 A21.out).mono ?_); (case s1 => exact Kd.C_below HR530_1.out (by repeat (first | (with_reducible first | exact HB.out | apply below_alloc | apply pw_below_drewN | apply below_drew1 | refine below_set ?_ GE531.out | refine below_set ?_ GE538.out) | exact HB.out))); (case s2 => exact HC530_1.out); (case s3 => exact Kd.C_below HR537_1.out (by repeat (first | (with_reducible first | exact HB.out | apply below_alloc | apply pw_below_drewN | apply below_drew1 | refine below_set ?_ GE531.out | refine below_set ?_ GE538.out) | exact HB.out))); (case s4 => exact HC537_1.out); rintro e w27 ⟨rfl, hb⟩; replace BK531 := A_ (blk_below (g := gb531) (o := .cells #[.int .i64 ((rd_T28 l0 x9_1).f0), .slice A530_1 ((rd_T28 l0 x9_1).f1).length c530_1, .bool ((rd_T28 l0 x9_1).f2), .bool ((rd_T28 l0 x9_1).f3), .int .i64 ((rd_T28 l0 x9_1).f4)] 28 (0, 0)) (by (with_reducible repeat (first | refine blk_drewN ?_ _ | refine blk_drew ?_ | refine blk_alloc ?_ _)); refine blk_far ?_ NB531_538.out _; (with_reducible repeat (first | refine blk_drewN ?_ _ | refine blk_drew ?_ | refine blk_alloc ?_ _)); refine blk_far ?_ NB531_538.out _; (with_reducible repeat (first | refine blk_drewN ?_ _ | refine blk_drew ?_ | refine blk_alloc ?_ _)); refine blk_far ?_ NB531_538.out _; (with_reducible repeat (first | refine blk_drewN ?_ _ | refine blk_drew ?_ | refine blk_alloc ?_ _)); refine blk_far ?_ NB531_538.out _; (with_reducible repeat (first | refine blk_drewN ?_ _ | refine blk_drew ?_ | refine blk_alloc ?_ _)); refine blk_far ?_ NB531_538.out _; (with_reducible repeat (first | refine blk_drewN ?_ _ | refine blk_drew ?_ | refine blk_alloc ?_ _)); exact BK531.out) hb); replace BK538 := A_ (blk_below (g := gb538) (o := .cells #[.int .i64 ((rd_T28 y533 x21_2).f0), .slice A537_1 ((rd_T28 y533 x21_2).f1).length c537_1, .bool ((rd_T28 y533 x21_2).f2), .bool ((rd_T28 y533 x21_2).f3), .int .i64 ((rd_T28 y533 x21_2).f4)] 28 (0, 0)) (by (with_reducible repeat (first | refine blk_drewN ?_ _ | refine blk_drew ?_ | refine blk_alloc ?_ _)); refine blk_put (cs := #[.int .i64 ((rd_T28 y533 x21_2).f0), .slice A537_1 ((rd_T28 y533 x21_2).f1).length c537_1, .bool ((rd_T28 y533 x21_2).f2), .bool ((rd_T28 y533 x21_2).f3), .int .i64 0]) ?_ 4 _ rfl; (with_reducible repeat (first | refine blk_drewN ?_ _ | refine blk_drew ?_ | refine blk_alloc ?_ _)); refine blk_put (cs := #[.int .i64 ((rd_T28 y533 x21_2).f0), .slice A537_1 ((rd_T28 y533 x21_2).f1).length c537_1, .bool ((rd_T28 y533 x21_2).f2), .bool false, .int .i64 0]) ?_ 3 _ rfl; (with_reducible repeat (first | refine blk_drewN ?_ _ | refine blk_drew ?_ | refine blk_alloc ?_ _)); refine blk_put (cs := #[.int .i64 ((rd_T28 y533 x21_2).f0), .slice A537_1 ((rd_T28 y533 x21_2).f1).length c537_1, .bool false, .bool false, .int .i64 0]) ?_ 2 _ rfl; (with_reducible repeat (first | refine blk_drewN ?_ _ | refine blk_drew ?_ | refine blk_alloc ?_ _)); refine blk_put (cs := #[.int .i64 ((rd_T28 y533 x21_2).f0), .slice none 0 0, .bool false, .bool false, .int .i64 0]) ?_ 1 _ rfl; (with_reducible repeat (first | refine blk_drewN ?_ _ | refine blk_drew ?_ | refine blk_alloc ?_ _)); refine blk_put (cs := #[.int .i64 0, .slice none 0 0, .bool false, .bool false, .int .i64 0]) ?_ 0 _ rfl; (with_reducible repeat (first | refine blk_drewN ?_ _ | refine blk_drew ?_ | refine blk_alloc ?_ _)); exact BK538.out) hb); replace HB := A_ (below_step (by repeat (first | (with_reducible first | exact HB.out | apply below_alloc | apply pw_below_drewN | apply below_drew1 | refine below_set ?_ GE531.out | refine below_set ?_ GE538.out) | exact HB.out)) hb); (try clear hb)))
         go_ret
         exact ⟨rr_, by repeat (first | (with_reducible first | exact HB.out | apply below_alloc | apply pw_below_drewN | apply below_drew1 | refine below_set ?_ GE531.out | refine below_set ?_ GE538.out) | exact HB.out)⟩
       · replace c22 := Bool.eq_false_iff.mpr c22
         subst c22
         rw [if_neg nf_] at H
         have H' := Aside0.mk H
         clear H
         have p537 : 0 ≤ (x21_2 : Int) := of_decide_eq_true as_
         have q537 : x21_2 < (y533.length : Int) := of_decide_eq_true as_
         obtain ⟨ad537, A537_1, c537_1, e537, hx537_0, hx537_1, hx537_2, hx537_3, hx537_4, hl537_1, hi537_1⟩ := at_T28 HR536.out x21_2 p537 q537
         obtain rfl : ad530 = ad537 := (by injection e537)
         replace hx537_0 := bc_ HB.out hx537_0
         replace hx537_1 := bc_ HB.out hx537_1
         replace hx537_2 := bc_ HB.out hx537_2
         replace hx537_3 := bc_ HB.out hx537_3
         replace hx537_4 := bc_ HB.out hx537_4
         have HR537_1 := Aside0.mk hi537_1
         have HC537_1 := Aside0.mk hl537_1
         clear hi537_1 hl537_1
         replace p537 := eq_true p537
         replace q537 := eq_true q537
         go_wp2_with (first | ((with_reducible refine gate_dst (N := 6) rfl ?_); refine bx_ (N := 6) (cs := #[.int .i64 0, .slice none 0 0, .bool false, .bool false, .int .i64 0]) (t := 28) ?_; intro gb538 hg w28 hbox hb; have BK538 := A_ (hbox); have GW538 := A_ (ge_ hg (bG_ GE531.out) : w.heap.size ≤ gb538); have GE538 := A_ (ge_ hg (bG_ GE531.out) : w.heap.size ≤ gb538); replace HB := A_ (below_step (bG_ GE531.out) hb); have NB531_538 := A_ (gm_ hg BK531.out); have NB538_531 := A_ (gn_ hg BK531.out); replace BK531 := A_ (bw_ BK531.out hb); clear hb hbox hg; have hnb29 := NB538_531.out; have hnc29 := NB531_538.out; obtain ⟨hcz30_0, hcz30_1, hcz30_2, hcz30_3, hcz30_4, hfz30_0, hfz30_1, hfz30_2, hfz30_3, hfz30_4⟩ := cz5_ BK538.out; obtain ⟨hcz31_0, hcz31_1, hcz31_2, hcz31_3, hcz31_4, hfz31_0, hfz31_1, hfz31_2, hfz31_3, hfz31_4⟩ := cz5_ BK531.out) | (go_at_call 24; (with_reducible refine (impl_LockClash.calls k2 ((rd_T28 l0 x9_1).f0) _ _ ((rd_T28 l0 x9_1).f1) ((rd_T28 l0 x9_1).f2) ((rd_T28 l0 x9_1).f3) ((rd_T28 l0 x9_1).f4) ((rd_T28 y533 x21_2).f0) _ _ ((rd_T28 y533 x21_2).f1) ((rd_T28 y533 x21_2).f2) ((rd_T28 y533 x21_2).f3) ((rd_T28 y533 x21_2).f4) false _ ?s1 ?s2 ?s3 ?s4 A21.out).mono ?_); (case s1 => exact Kd.C_below HR530_1.out (by repeat (first | (with_reducible first | exact HB.out | apply below_alloc | apply pw_below_drewN | apply below_drew1 | refine below_set ?_ GE531.out | refine below_set ?_ GE538.out) | exact HB.out))); (case s2 => exact HC530_1.out); (case s3 => exact Kd.C_below HR537_1.out (by repeat (first | (with_reducible first | exact HB.out | apply below_alloc | apply pw_below_drewN | apply below_drew1 | refine below_set ?_ GE531.out | refine below_set ?_ GE538.out) | exact HB.out))); (case s4 => exact HC537_1.out); rintro e w32 ⟨rfl, hb⟩; replace BK531 := A_ (blk_below (g := gb531) (o := .cells #[.int .i64 ((rd_T28 l0 x9_1).f0), .slice A530_1 ((rd_T28 l0 x9_1).f1).length c530_1, .bool ((rd_T28 l0 x9_1).f2), .bool ((rd_T28 l0 x9_1).f3), .int .i64 ((rd_T28 l0 x9_1).f4)] 28 (0, 0)) (by (with_reducible repeat (first | refine blk_drewN ?_ _ | refine blk_drew ?_ | refine blk_alloc ?_ _)); refine blk_far ?_ NB531_538.out _; (with_reducible repeat (first | refine blk_drewN ?_ _ | refine blk_drew ?_ | refine blk_alloc ?_ _)); refine blk_far ?_ NB531_538.out _; (with_reducible repeat (first | refine blk_drewN ?_ _ | refine blk_drew ?_ | refine blk_alloc ?_ _)); refine blk_far ?_ NB531_538.out _; (with_reducible repeat (first | refine blk_drewN ?_ _ | refine blk_drew ?_ | refine blk_alloc ?_ _)); refine blk_far ?_ NB531_538.out _; (with_reducible repeat (first | refine blk_drewN ?_ _ | refine blk_drew ?_ | refine blk_alloc ?_ _)); refine blk_far ?_ NB531_538.out _; (with_reducible repeat (first | refine blk_drewN ?_ _ | refine blk_drew ?_ | refine blk_alloc ?_ _)); exact BK531.out) hb); replace BK538 := A_ (blk_below (g := gb538) (o := .cells #[.int .i64 ((rd_T28 y533 x21_2).f0), .slice A537_1 ((rd_T28 y533 x21_2).f1).length c537_1, .bool ((rd_T28 y533 x21_2).f2), .bool ((rd_T28 y533 x21_2).f3), .int .i64 ((rd_T28 y533 x21_2).f4)] 28 (0, 0)) (by (with_reducible repeat (first | refine blk_drewN ?_ _ | refine blk_drew ?_ | refine blk_alloc ?_ _)); refine blk_put (cs := #[.int .i64 ((rd_T28 y533 x21_2).f0), .slice A537_1 ((rd_T28 y533 x21_2).f1).length c537_1, .bool ((rd_T28 y533 x21_2).f2), .bool ((rd_T28 y533 x21_2).f3), .int .i64 0]) ?_ 4 _ rfl; (with_reducible repeat (first | refine blk_drewN ?_ _ | refine blk_drew ?_ | refine blk_alloc ?_ _)); refine blk_put (cs := #[.int .i64 ((rd_T28 y533 x21_2).f0), .slice A537_1 ((rd_T28 y533 x21_2).f1).length c537_1, .bool ((rd_T28 y533 x21_2).f2), .bool false, .int .i64 0]) ?_ 3 _ rfl; (with_reducible repeat (first | refine blk_drewN ?_ _ | refine blk_drew ?_ | refine blk_alloc ?_ _)); refine blk_put (cs := #[.int .i64 ((rd_T28 y533 x21_2).f0), .slice A537_1 ((rd_T28 y533 x21_2).f1).length c537_1, .bool false, .bool false, .int .i64 0]) ?_ 2 _ rfl; (with_reducible repeat (first | refine blk_drewN ?_ _ | refine blk_drew ?_ | refine blk_alloc ?_ _)); refine blk_put (cs := #[.int .i64 ((rd_T28 y533 x21_2).f0), .slice none 0 0, .bool false, .bool false, .int .i64 0]) ?_ 1 _ rfl; (with_reducible repeat (first | refine blk_drewN ?_ _ | refine blk_drew ?_ | refine blk_alloc ?_ _)); refine blk_put (cs := #[.int .i64 0, .slice none 0 0, .bool false, .bool false, .int .i64 0]) ?_ 0 _ rfl; (with_reducible repeat (first | refine blk_drewN ?_ _ | refine blk_drew ?_ | refine blk_alloc ?_ _)); exact BK538.out) hb); replace HB := A_ (below_step (by repeat (first | (with_reducible first | exact HB.out | apply below_alloc | apply pw_below_drewN | apply below_drew1 | refine below_set ?_ GE531.out | refine below_set ?_ GE538.out) | exact HB.out)) hb); (try clear hb)))
         go_roundg k2
         case measure => have := HK1.out; have := HK2.out; omega
         case rel => exact ⟨(wrap64 (x21_2 + 1)), rs_, H', ⟨by have := HK1.out; have := HK2.out; omega⟩, ⟨vb_ BK531.out⟩, ⟨by repeat (first | (with_reducible first | exact HB.out | apply below_alloc | apply pw_below_drewN | apply below_drew1 | refine below_set ?_ GE531.out | refine below_set ?_ GE538.out) | exact HB.out)⟩⟩
   · replace c6 := Bool.eq_false_iff.mpr c6
     subst c6
     rw [if_neg nf_] at H
     obtain rfl := Option.some.inj H
     have p530 : 0 ≤ (x9_1 : Int) := of_decide_eq_true as_
     have q530 : x9_1 < (l0.length : Int) := of_decide_eq_true as_
     obtain ⟨ad530, A530_1, c530_1, e530, hx530_0, hx530_1, hx530_2, hx530_3, hx530_4, hl530_1, hi530_1⟩ := at_T28 HR0.out x9_1 p530 q530
     cases e530
     replace hx530_0 := bc_ HB.out hx530_0
     replace hx530_1 := bc_ HB.out hx530_1
     replace hx530_2 := bc_ HB.out hx530_2
     replace hx530_3 := bc_ HB.out hx530_3
     replace hx530_4 := bc_ HB.out hx530_4
     have HR530_1 := Aside0.mk hi530_1
     have HC530_1 := Aside0.mk hl530_1
     clear hi530_1 hl530_1
     replace p530 := eq_true p530
     replace q530 := eq_true q530
     go_wp2_with (first | ((with_reducible refine gate_dst (N := 4) rfl ?_); refine bx_ (N := 4) (cs := #[.int .i64 0, .slice none 0 0, .bool false, .bool false, .int .i64 0]) (t := 28) ?_; intro gb531 hg w33 hbox hb; have BK531 := A_ (hbox); have GW531 := A_ (ge_ hg bB_ : w.heap.size ≤ gb531); have GE531 := A_ (ge_ hg bB_ : w.heap.size ≤ gb531); replace HB := A_ (below_step bB_ hb); clear hb hbox hg; obtain ⟨hcz34_0, hcz34_1, hcz34_2, hcz34_3, hcz34_4, hfz34_0, hfz34_1, hfz34_2, hfz34_3, hfz34_4⟩ := cz5_ BK531.out) | ((with_reducible refine gate_callee (f := 44) rfl ?_); refine gL_ (some 15) Try.func44 #[.agg #[.int .i64 ((rd_T28 l0 x9_1).f0), .slice A530_1 ((rd_T28 l0 x9_1).f1).length c530_1, .bool ((rd_T28 l0 x9_1).f2), .bool ((rd_T28 l0 x9_1).f3), .int .i64 ((rd_T28 l0 x9_1).f4)]] ?_; (with_reducible refine (impl_LockOk.calls k1 ((rd_T28 l0 x9_1).f0) _ _ ((rd_T28 l0 x9_1).f1) ((rd_T28 l0 x9_1).f2) ((rd_T28 l0 x9_1).f3) ((rd_T28 l0 x9_1).f4) false _ ?s1 ?s2 A5.out).mono ?_); (case s1 => exact Kd.C_below HR530_1.out (bG_ GE531.out)); (case s2 => exact HC530_1.out); rintro e w35 ⟨rfl, hb⟩; refine ⟨_, rfl, ?_⟩; replace BK531 := A_ (blk_below (g := gb531) (o := .cells #[.int .i64 ((rd_T28 l0 x9_1).f0), .slice A530_1 ((rd_T28 l0 x9_1).f1).length c530_1, .bool ((rd_T28 l0 x9_1).f2), .bool ((rd_T28 l0 x9_1).f3), .int .i64 ((rd_T28 l0 x9_1).f4)] 28 (0, 0)) (by (with_reducible repeat (first | refine blk_drewN ?_ _ | refine blk_drew ?_ | refine blk_alloc ?_ _)); refine blk_put (cs := #[.int .i64 ((rd_T28 l0 x9_1).f0), .slice A530_1 ((rd_T28 l0 x9_1).f1).length c530_1, .bool ((rd_T28 l0 x9_1).f2), .bool ((rd_T28 l0 x9_1).f3), .int .i64 0]) ?_ 4 _ rfl; (with_reducible repeat (first | refine blk_drewN ?_ _ | refine blk_drew ?_ | refine blk_alloc ?_ _)); refine blk_put (cs := #[.int .i64 ((rd_T28 l0 x9_1).f0), .slice A530_1 ((rd_T28 l0 x9_1).f1).length c530_1, .bool ((rd_T28 l0 x9_1).f2), .bool false, .int .i64 0]) ?_ 3 _ rfl; (with_reducible repeat (first | refine blk_drewN ?_ _ | refine blk_drew ?_ | refine blk_alloc ?_ _)); refine blk_put (cs := #[.int .i64 ((rd_T28 l0 x9_1).f0), .slice A530_1 ((rd_T28 l0 x9_1).f1).length c530_1, .bool false, .bool false, .int .i64 0]) ?_ 2 _ rfl; (with_reducible repeat (first | refine blk_drewN ?_ _ | refine blk_drew ?_ | refine blk_alloc ?_ _)); refine blk_put (cs := #[.int .i64 ((rd_T28 l0 x9_1).f0), .slice none 0 0, .bool false, .bool false, .int .i64 0]) ?_ 1 _ rfl; (with_reducible repeat (first | refine blk_drewN ?_ _ | refine blk_drew ?_ | refine blk_alloc ?_ _)); refine blk_put (cs := #[.int .i64 0, .slice none 0 0, .bool false, .bool false, .int .i64 0]) ?_ 0 _ rfl; (with_reducible repeat (first | refine blk_drewN ?_ _ | refine blk_drew ?_ | refine blk_alloc ?_ _)); exact BK531.out) hb); replace HB := A_ (below_step (bG_ GE531.out) hb); (try clear hb)))
     go_ret
     exact ⟨rr_, bG_ GE531.out⟩
end Go.Proofs.Ytiddgglidkbipaa.Q
