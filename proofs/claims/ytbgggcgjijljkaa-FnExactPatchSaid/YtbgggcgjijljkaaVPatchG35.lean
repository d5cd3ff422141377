-- PRINTED by print.py (a twelfth state) out of the translation. Not trusted: Lean checks it.
import Derived.Test.YtbgggcgjijljkaaVPatchG12
import Derived.Test.YtbgggcgjijljkaaVPatchG22
import Derived.Test.YtbgggcgjijljkaaVPatchG25
import Derived.Test.YtbgggcgjijljkaaVPatchG30
import Derived.Test.YtbgggcgjijljkaaVPatchG34
import Derived.Test.YtbgggcgjijljkaaVPatchG29
import Derived.Test.YtbgggcgjijljkaaVPatchG31
import Derived.Test.YtbgggcgjijljkaaVPatchG33
import Derived.Test.YtbgggcgjijljkaaVPatchG26
import Derived.Test.YtbgggcgjijljkaaVPatchWWords
import Derived.Test.YtbgggcgjijljkaaVPatchWApart
import Derived.Deep.Slices
import Derived.WideShapes
namespace Go.Proofs.Ytbgggcgjijljkaa.Q
open Go.RowKit Go.Proofs.YtbgggcgjijljkaaW.PrintWords Go.Proofs.YtbgggcgjijljkaaW.PrintLast Go.Proofs.YtbgggcgjijljkaaW.PrintMore
attribute [local go_sem] max2_int min2_int max_two min_two max_three min_three max_four min_four   -- for this text's walks alone
set_option linter.unusedVariables false
set_option linter.unusedSimpArgs false
def laws_eqSetS.l0 : Nat → List (S74) → List (S74) → Int → Option (Bool)
 | 0, _, _, _ => none
 | k + 1, x0, x1, x5 => if x5 < (x0.length : Int) then (if 0 ≤ x5 then (if x5 < (x1.length : Int) then ((laws_eqSet.f ((rd_T74 x0 x5).f0) ((rd_T74 x0 x5).f1.f0) ((rd_T74 x0 x5).f1.f1) ((rd_T74 x0 x5).f1.f2) ((rd_T74 x1 x5).f0) ((rd_T74 x1 x5).f1.f0) ((rd_T74 x1 x5).f1.f1) ((rd_T74 x1 x5).f1.f2)).bind fun t824 => (if t824 = true then (laws_eqSetS.l0 k x0 x1 (wrap64 (x5 + 1))) else (some false))) else (none)) else (none)) else (some true)
def laws_eqSetS.f (k : Nat) (l0 : List (S74)) (l1 : List (S74)) : Option (Bool) := if (l0.length : Int) = (l1.length : Int) then (laws_eqSetS.l0 k l0 l1 0) else (some false)
def laws_eqSetS.T6 : Bool × List (List Nat × List Nat) := (true, [([], []), ([], []), ([0, 1], [0, 1]), ([2], [2]), ([], []), ([], []), ([4, 5], [4, 5]), ([6], [6]), ([3, 7], [3, 7]), ([8], [8])])
def laws_eqSetS.B6 : List Nat := [0, 0, 3, 7, 0, 0, 48, 112, 255, 511]
theorem laws_eqSetS.tab6 : rtab .any (opsOf Try.f32 6) = laws_eqSetS.T6 := by kernel_rfl
theorem laws_eqSetS.bits6 : waitsOk laws_eqSetS.T6.2 laws_eqSetS.B6 = true := by kernel_rfl
set_option maxHeartbeats 8000000 in
set_option maxRecDepth 100000 in
theorem laws_eqSetS.calls (k : Nat) (A0 : Option Addr) (c0 : Nat) (l0 : List (S74)) (A1 : Option Addr) (c1 : Nat) (l1 : List (S74)) (r : Bool) (w : World) (hr0 : Kd.C k74 w A0 l0.length l0) (hc0 : l0.length ≤ c0) (hr1 : Kd.C k74 w A1 l1.length l1) (hc1 : l1.length ≤ c1) (h : laws_eqSetS.f k l0 l1 = some r) :
 Calls Try.prog 32 #[.slice A0 l0.length c0, .slice A1 l1.length c1] w fun e w' => e = .returned (.bool r) ∧ Below w.heap.size w w' := by
 have hu74 := Try.underlying74
 have HR0 := Aside0.mk hr0
 have HC0 := Aside0.mk hc0
 clear hr0 hc0
 have HR1 := Aside0.mk hr1
 have HC1 := Aside0.mk hc1
 clear hr1 hc1
 have HB := Aside0.mk (Below.refl w.heap.size w)
 have H : (if (l0.length : Int) = (l1.length : Int) then (laws_eqSetS.l0 k l0 l1 0) else (some false)) = some r := h
 clear h
 by_cases c3 : (l0.length : Int) = (l1.length : Int)
 · rw [if_pos c3] at H
   have c3b0 : ((l0.length : Int) == (l1.length : Int)) = true := beq_iff_eq.mpr c3
   have c3b1 : ((l0.length : Int) != (l1.length : Int)) = false := bne_eq_false_iff_eq.mpr c3
   have c3b2 : (l0.length == l1.length) = true := by first | simpa using c3 | (simp at c3 ⊢; omega)
   clear c3
   have H' := Aside0.mk H
   clear H
   go_enter Try.func32, Try.ntmps32
   go_wp2
   go_loopg [5] k (fun kq v5 w' => ∃ (x5_1 : Int), v5 = .int .i64 x5_1 ∧ Aside0 (laws_eqSetS.l0 kq l0 l1 x5_1 = some r) ∧ Aside0 (kq ≤ k) ∧ Aside0 (Below w.heap.size w w'))
   case atStart => exact ⟨(0), rs_, H', ⟨Nat.le_refl _⟩, ⟨bB_⟩⟩
   case round =>
    clear H'
    try clear c1
    try clear p2
    try clear c3
    try clear c3b0
    try clear c3b1
    try clear c3b2
    obtain ⟨x5_1, rfl, HA, HK1, HB⟩ := hrel
    cases gk with
    | zero => exact absurd HA.out (by simp [laws_eqSetS.l0])
    | succ k1 =>
     have H := HA.out
     clear HA
     simp only [laws_eqSetS.l0] at H
     by_cases c4 : x5_1 < (l0.length : Int)
     · rw [if_pos c4] at H
       have c4b0 : decide (x5_1 < (l0.length : Int)) = true := decide_eq_true c4
       clear c4
       by_cases c5 : 0 ≤ x5_1
       rotate_left
       · exact absurd H (by rw [if_neg c5]; simp)
       rw [if_pos c5] at H
       have c5b0 : decide (0 ≤ x5_1) = true := decide_eq_true c5
       clear c5
       by_cases c6 : x5_1 < (l1.length : Int)
       rotate_left
       · exact absurd H (by rw [if_neg c6]; simp)
       rw [if_pos c6] at H
       have c6b0 : decide (x5_1 < (l1.length : Int)) = true := decide_eq_true c6
       clear c6
       obtain ⟨t824, A7, H⟩ := bo_ H
       (try dsimp only at H)
       by_cases c8 : t824 = true
       · subst c8
         rw [if_pos rfl] at H
         have H' := Aside0.mk H
         clear H
         try go_wp2
         have n0_ := Aside0.mk (below_drew1 HB.out)
         clear HB
         have HB := n0_
         clear n0_
         have p822 : 0 ≤ (x5_1 : Int) := of_decide_eq_true as_
         have q822 : x5_1 < (l0.length : Int) := of_decide_eq_true as_
         obtain ⟨ad822, e822, hx822_0, hx822_1, hx822_2, hx822_3⟩ := at_T74 HR0.out x5_1 p822 q822
         have hw822_3 := hx822_3
         have hw822_2 := hx822_2
         have hw822_1 := hx822_1
         have hw822_0 := hx822_0
         cases e822
         replace hx822_0 := bc_ HB.out hx822_0
         replace hx822_1 := bc_ HB.out hx822_1
         replace hx822_2 := bc_ HB.out hx822_2
         replace hx822_3 := bc_ HB.out hx822_3
         replace p822 := eq_true p822
         replace q822 := eq_true q822
         have p823 : 0 ≤ (x5_1 : Int) := of_decide_eq_true as_
         have q823 : x5_1 < (l1.length : Int) := of_decide_eq_true as_
         obtain ⟨ad823, e823, hx823_0, hx823_1, hx823_2, hx823_3⟩ := at_T74 HR1.out x5_1 p823 q823
         have hw823_3 := hx823_3
         have hw823_2 := hx823_2
         have hw823_1 := hx823_1
         have hw823_0 := hx823_0
         cases e823
         replace hx823_0 := bc_ HB.out hx823_0
         replace hx823_1 := bc_ HB.out hx823_1
         replace hx823_2 := bc_ HB.out hx823_2
         replace hx823_3 := bc_ HB.out hx823_3
         replace p823 := eq_true p823
         replace q823 := eq_true q823
         refine start_ (n := 10) (S := fun w' => w'.cell? (ad822.add ((x5_1).toNat * 4)) = some (.bool ((rd_T74 l0 x5_1).f0)) ∧ w'.cell? ⟨(ad822.add ((x5_1).toNat * 4)).block, (ad822.add ((x5_1).toNat * 4)).off + 1, none⟩ = some (.string ((rd_T74 l0 x5_1).f1.f0)) ∧ w'.cell? ⟨(ad822.add ((x5_1).toNat * 4)).block, (ad822.add ((x5_1).toNat * 4)).off + 2, none⟩ = some (.string ((rd_T74 l0 x5_1).f1.f1)) ∧ w'.cell? ⟨(ad822.add ((x5_1).toNat * 4)).block, (ad822.add ((x5_1).toNat * 4)).off + 3, none⟩ = some (.string ((rd_T74 l0 x5_1).f1.f2)) ∧ w'.cell? (ad823.add ((x5_1).toNat * 4)) = some (.bool ((rd_T74 l1 x5_1).f0)) ∧ w'.cell? ⟨(ad823.add ((x5_1).toNat * 4)).block, (ad823.add ((x5_1).toNat * 4)).off + 1, none⟩ = some (.string ((rd_T74 l1 x5_1).f1.f0)) ∧ w'.cell? ⟨(ad823.add ((x5_1).toNat * 4)).block, (ad823.add ((x5_1).toNat * 4)).off + 2, none⟩ = some (.string ((rd_T74 l1 x5_1).f1.f1)) ∧ w'.cell? ⟨(ad823.add ((x5_1).toNat * 4)).block, (ad823.add ((x5_1).toNat * 4)).off + 3, none⟩ = some (.string ((rd_T74 l1 x5_1).f1.f2))) (ds := []) #[false, false, false, false, false, false, false, false, false, false] (by kernel_rfl) rfl rfl ⟨((HB.out.cell (World.block_lt_of_cell? w _ hw822_0)).trans hw822_0), ((HB.out.cell (World.block_lt_of_cell? w _ hw822_1)).trans hw822_1), ((HB.out.cell (World.block_lt_of_cell? w _ hw822_2)).trans hw822_2), ((HB.out.cell (World.block_lt_of_cell? w _ hw822_3)).trans hw822_3), ((HB.out.cell (World.block_lt_of_cell? w _ hw823_0)).trans hw823_0), ((HB.out.cell (World.block_lt_of_cell? w _ hw823_1)).trans hw823_1), ((HB.out.cell (World.block_lt_of_cell? w _ hw823_2)).trans hw823_2), ((HB.out.cell (World.block_lt_of_cell? w _ hw823_3)).trans hw823_3)⟩ (fun hHeld => ?_); refine with_tabW laws_eqSetS.tab6 laws_eqSetS.bits6 (fun HT_ HW_ => ?_)
         generalize wr.drew = w9 at HB hx822_0 hx822_1 hx822_2 hx822_3 hx823_0 hx823_1 hx823_2 hx823_3 hHeld ⊢
         refine pu_ (i := 0) (N := some 17) ?_
         refine pu_ (i := 1) (N := some 18) ?_
         refine pu_ (i := 2) (N := some 19) ?_
         refine pu_ (i := 4) (N := some 21) ?_
         refine pu_ (i := 5) (N := some 22) ?_
         refine pu_ (i := 6) (N := some 23) ?_
         refine tk_ (i := 3) (N := some 20) hHeld ?_
         refine tk_ (i := 7) (N := some 24) hHeld ?_
         refine on_ (i := 8) (N := some 25) (fun K hK => ?_)
         refine goes_ Try.func81 (by kernel_rfl) rfl #[.agg #[.bool ((rd_T74 l0 x5_1).f0), .string ((rd_T74 l0 x5_1).f1.f0), .string ((rd_T74 l0 x5_1).f1.f1), .string ((rd_T74 l0 x5_1).f1.f2)], .agg #[.bool ((rd_T74 l1 x5_1).f0), .string ((rd_T74 l1 x5_1).f1.f0), .string ((rd_T74 l1 x5_1).f1.f1), .string ((rd_T74 l1 x5_1).f1.f2)]] (by rfl) rfl rfl ml_ ?_
         with_reducible refine (laws_eqSet.calls ((rd_T74 l0 x5_1).f0) ((rd_T74 l0 x5_1).f1.f0) ((rd_T74 l0 x5_1).f1.f1) ((rd_T74 l0 x5_1).f1.f2) ((rd_T74 l1 x5_1).f0) ((rd_T74 l1 x5_1).f1.f0) ((rd_T74 l1 x5_1).f1.f1) ((rd_T74 l1 x5_1).f1.f2) true _ A7.out).mono ?_
         rintro e w10 ⟨rfl, hb⟩
         refine ⟨_, rfl, ?_⟩
         have n0_ := Aside0.mk (below_step bB_ hb)
         clear HB
         have HB := n0_
         clear n0_
         (try clear hb)
         (try clear hb2)
         (try clear hk)
         (try clear hi)
         refine hK.out _ _ ⟨((HB.out.cell (World.block_lt_of_cell? w _ hw822_0)).trans hw822_0), ((HB.out.cell (World.block_lt_of_cell? w _ hw822_1)).trans hw822_1), ((HB.out.cell (World.block_lt_of_cell? w _ hw822_2)).trans hw822_2), ((HB.out.cell (World.block_lt_of_cell? w _ hw822_3)).trans hw822_3), ((HB.out.cell (World.block_lt_of_cell? w _ hw823_0)).trans hw823_0), ((HB.out.cell (World.block_lt_of_cell? w _ hw823_1)).trans hw823_1), ((HB.out.cell (World.block_lt_of_cell? w _ hw823_2)).trans hw823_2), ((HB.out.cell (World.block_lt_of_cell? w _ hw823_3)).trans hw823_3)⟩ (fun hHeld => ?_)
         clear hK K
         refine no_ (some 25) ?_
         refine pu_ (i := 9) (N := some 26) ?_
         refine done_ (done_of HT_.out (by kernel_rfl)) ?_
         (try clear hHeld)
         try go_wp2
         go_roundg k1
         case measure => have := HK1.out; omega
         case rel => exact ⟨(wrap64 (x5_1 + 1)), rs_, H', ⟨by have := HK1.out; omega⟩, ⟨bB_⟩⟩
       · replace c8 := Bool.eq_false_iff.mpr c8
         subst c8
         rw [if_neg (show ¬ (false = true) by decide)] at H
         obtain rfl := Option.some.inj H
         try go_wp2
         have n0_ := Aside0.mk (below_drew1 HB.out)
         clear HB
         have HB := n0_
         clear n0_
         have p822 : 0 ≤ (x5_1 : Int) := of_decide_eq_true as_
         have q822 : x5_1 < (l0.length : Int) := of_decide_eq_true as_
         obtain ⟨ad822, e822, hx822_0, hx822_1, hx822_2, hx822_3⟩ := at_T74 HR0.out x5_1 p822 q822
         have hw822_3 := hx822_3
         have hw822_2 := hx822_2
         have hw822_1 := hx822_1
         have hw822_0 := hx822_0
         cases e822
         replace hx822_0 := bc_ HB.out hx822_0
         replace hx822_1 := bc_ HB.out hx822_1
         replace hx822_2 := bc_ HB.out hx822_2
         replace hx822_3 := bc_ HB.out hx822_3
         replace p822 := eq_true p822
         replace q822 := eq_true q822
         have p823 : 0 ≤ (x5_1 : Int) := of_decide_eq_true as_
         have q823 : x5_1 < (l1.length : Int) := of_decide_eq_true as_
         obtain ⟨ad823, e823, hx823_0, hx823_1, hx823_2, hx823_3⟩ := at_T74 HR1.out x5_1 p823 q823
         have hw823_3 := hx823_3
         have hw823_2 := hx823_2
         have hw823_1 := hx823_1
         have hw823_0 := hx823_0
         cases e823
         replace hx823_0 := bc_ HB.out hx823_0
         replace hx823_1 := bc_ HB.out hx823_1
         replace hx823_2 := bc_ HB.out hx823_2
         replace hx823_3 := bc_ HB.out hx823_3
         replace p823 := eq_true p823
         replace q823 := eq_true q823
         refine start_ (n := 10) (S := fun w' => w'.cell? (ad822.add ((x5_1).toNat * 4)) = some (.bool ((rd_T74 l0 x5_1).f0)) ∧ w'.cell? ⟨(ad822.add ((x5_1).toNat * 4)).block, (ad822.add ((x5_1).toNat * 4)).off + 1, none⟩ = some (.string ((rd_T74 l0 x5_1).f1.f0)) ∧ w'.cell? ⟨(ad822.add ((x5_1).toNat * 4)).block, (ad822.add ((x5_1).toNat * 4)).off + 2, none⟩ = some (.string ((rd_T74 l0 x5_1).f1.f1)) ∧ w'.cell? ⟨(ad822.add ((x5_1).toNat * 4)).block, (ad822.add ((x5_1).toNat * 4)).off + 3, none⟩ = some (.string ((rd_T74 l0 x5_1).f1.f2)) ∧ w'.cell? (ad823.add ((x5_1).toNat * 4)) = some (.bool ((rd_T74 l1 x5_1).f0)) ∧ w'.cell? ⟨(ad823.add ((x5_1).toNat * 4)).block, (ad823.add ((x5_1).toNat * 4)).off + 1, none⟩ = some (.string ((rd_T74 l1 x5_1).f1.f0)) ∧ w'.cell? ⟨(ad823.add ((x5_1).toNat * 4)).block, (ad823.add ((x5_1).toNat * 4)).off + 2, none⟩ = some (.string ((rd_T74 l1 x5_1).f1.f1)) ∧ w'.cell? ⟨(ad823.add ((x5_1).toNat * 4)).block, (ad823.add ((x5_1).toNat * 4)).off + 3, none⟩ = some (.string ((rd_T74 l1 x5_1).f1.f2))) (ds := []) #[false, false, false, false, false, false, false, false, false, false] (by kernel_rfl) rfl rfl ⟨((HB.out.cell (World.block_lt_of_cell? w _ hw822_0)).trans hw822_0), ((HB.out.cell (World.block_lt_of_cell? w _ hw822_1)).trans hw822_1), ((HB.out.cell (World.block_lt_of_cell? w _ hw822_2)).trans hw822_2), ((HB.out.cell (World.block_lt_of_cell? w _ hw822_3)).trans hw822_3), ((HB.out.cell (World.block_lt_of_cell? w _ hw823_0)).trans hw823_0), ((HB.out.cell (World.block_lt_of_cell? w _ hw823_1)).trans hw823_1), ((HB.out.cell (World.block_lt_of_cell? w _ hw823_2)).trans hw823_2), ((HB.out.cell (World.block_lt_of_cell? w _ hw823_3)).trans hw823_3)⟩ (fun hHeld => ?_); refine with_tabW laws_eqSetS.tab6 laws_eqSetS.bits6 (fun HT_ HW_ => ?_)
         generalize wr.drew = w11 at HB hx822_0 hx822_1 hx822_2 hx822_3 hx823_0 hx823_1 hx823_2 hx823_3 hHeld ⊢
         refine pu_ (i := 0) (N := some 17) ?_
         refine pu_ (i := 1) (N := some 18) ?_
         refine pu_ (i := 2) (N := some 19) ?_
         refine pu_ (i := 4) (N := some 21) ?_
         refine pu_ (i := 5) (N := some 22) ?_
         refine pu_ (i := 6) (N := some 23) ?_
         refine tk_ (i := 3) (N := some 20) hHeld ?_
         refine tk_ (i := 7) (N := some 24) hHeld ?_
         refine on_ (i := 8) (N := some 25) (fun K hK => ?_)
         refine goes_ Try.func81 (by kernel_rfl) rfl #[.agg #[.bool ((rd_T74 l0 x5_1).f0), .string ((rd_T74 l0 x5_1).f1.f0), .string ((rd_T74 l0 x5_1).f1.f1), .string ((rd_T74 l0 x5_1).f1.f2)], .agg #[.bool ((rd_T74 l1 x5_1).f0), .string ((rd_T74 l1 x5_1).f1.f0), .string ((rd_T74 l1 x5_1).f1.f1), .string ((rd_T74 l1 x5_1).f1.f2)]] (by rfl) rfl rfl ml_ ?_
         with_reducible refine (laws_eqSet.calls ((rd_T74 l0 x5_1).f0) ((rd_T74 l0 x5_1).f1.f0) ((rd_T74 l0 x5_1).f1.f1) ((rd_T74 l0 x5_1).f1.f2) ((rd_T74 l1 x5_1).f0) ((rd_T74 l1 x5_1).f1.f0) ((rd_T74 l1 x5_1).f1.f1) ((rd_T74 l1 x5_1).f1.f2) false _ A7.out).mono ?_
         rintro e w12 ⟨rfl, hb⟩
         refine ⟨_, rfl, ?_⟩
         have n0_ := Aside0.mk (below_step bB_ hb)
         clear HB
         have HB := n0_
         clear n0_
         (try clear hb)
         (try clear hb2)
         (try clear hk)
         (try clear hi)
         refine hK.out _ _ ⟨((HB.out.cell (World.block_lt_of_cell? w _ hw822_0)).trans hw822_0), ((HB.out.cell (World.block_lt_of_cell? w _ hw822_1)).trans hw822_1), ((HB.out.cell (World.block_lt_of_cell? w _ hw822_2)).trans hw822_2), ((HB.out.cell (World.block_lt_of_cell? w _ hw822_3)).trans hw822_3), ((HB.out.cell (World.block_lt_of_cell? w _ hw823_0)).trans hw823_0), ((HB.out.cell (World.block_lt_of_cell? w _ hw823_1)).trans hw823_1), ((HB.out.cell (World.block_lt_of_cell? w _ hw823_2)).trans hw823_2), ((HB.out.cell (World.block_lt_of_cell? w _ hw823_3)).trans hw823_3)⟩ (fun hHeld => ?_)
         clear hK K
         refine no_ (some 25) ?_
         refine pu_ (i := 9) (N := some 26) ?_
         refine done_ (done_of HT_.out (by kernel_rfl)) ?_
         (try clear hHeld)
         try go_wp2
         go_ret
         exact ⟨rr_, bB_⟩
     · rw [if_neg c4] at H
       have c4b0 : decide (x5_1 < (l0.length : Int)) = false := decide_eq_false c4
       clear c4
       obtain rfl := Option.some.inj H
       go_wp2
       go_ret
       exact ⟨rr_, bB_⟩
 · rw [if_neg c3] at H
   have c3b0 : ((l0.length : Int) == (l1.length : Int)) = false := beq_eq_false_iff_ne.mpr c3
   have c3b1 : ((l0.length : Int) != (l1.length : Int)) = true := bne_iff_ne.mpr c3
   have c3b2 : (l0.length == l1.length) = false := by first | simpa using c3 | (simp at c3 ⊢; omega)
   obtain rfl := Option.some.inj H
   go_enter Try.func32, Try.ntmps32
   go_wp2
   go_ret
   exact ⟨rr_, bB_⟩
def laws_markSetS.l0 : Nat → List (S74) → Int → Int → Option (Int × (List (S74)))
 | 0, _, _, _ => none
 | k + 1, x0, x1, x5 => if x5 < (x0.length : Int) then (if 0 ≤ x5 then ((some (x0.set (x5 : Int).toNat (⟨((Int.tmod x1 3) == 0), (⟨(rd_T74 x0 x5).f1.f0, (rd_T74 x0 x5).f1.f1, (rd_T74 x0 x5).f1.f2⟩ : S72)⟩ : S74) : List (S74))).bind fun y825 => ((laws_markText.f k (wrap64 (x1 + 1))).bind fun t826 => ((some (y825.set (x5 : Int).toNat (⟨(rd_T74 y825 x5).f0, (⟨t826, (rd_T74 y825 x5).f1.f1, (rd_T74 y825 x5).f1.f2⟩ : S72)⟩ : S74) : List (S74))).bind fun y827 => ((laws_markText.f k (wrap64 ((wrap64 (x1 + 1)) + 1))).bind fun t828 => ((some (y827.set (x5 : Int).toNat (⟨(rd_T74 y827 x5).f0, (⟨(rd_T74 y827 x5).f1.f0, t828, (rd_T74 y827 x5).f1.f2⟩ : S72)⟩ : S74) : List (S74))).bind fun y829 => ((laws_markText.f k (wrap64 ((wrap64 ((wrap64 (x1 + 1)) + 1)) + 1))).bind fun t830 => (laws_markSetS.l0 k (y829.set (x5 : Int).toNat (⟨(rd_T74 y829 x5).f0, (⟨(rd_T74 y829 x5).f1.f0, (rd_T74 y829 x5).f1.f1, t830⟩ : S72)⟩ : S74)) (wrap64 ((wrap64 ((wrap64 ((wrap64 (x1 + 1)) + 1)) + 1)) + 1)) (wrap64 (x5 + 1))))))))) else (none)) else (some (x1, x0))
def laws_markSetS.f (k : Nat) (l0 : List (S74)) (a1 : Int) : Option (Int × (List (S74))) := laws_markSetS.l0 k l0 a1 0
set_option maxHeartbeats 8000000 in
set_option maxRecDepth 100000 in
theorem laws_markSetS.calls (k : Nat) (P0_ : Nat → Prop) (u9000_ : Value) (l0 : List (S74)) (a1 : Int) (r1 : Int) (r2 : List (S74)) (w0 w : World) (hB : Below w0.heap.size w0 w) (ho0 : Kd.R k74 74 w w0.heap.size P0_ u9000_ l0) (h : laws_markSetS.f k l0 a1 = some (r1, r2)) :
 Calls Try.prog 33 #[u9000_, .int .i64 a1] w fun e w' => e = .returned (.int .i64 r1) ∧ Kd.R k74 74 w' w0.heap.size (fun k_ => (P0_ k_ ∨ w.heap.size ≤ k_)) u9000_ r2 ∧ Below w0.heap.size w0 w' ∧ Kept w w' (fun k_ => P0_ k_) := by
 have HO0 := Aside0.mk (show Kd.R k74 74 w w0.heap.size (fun k_ => (P0_ k_ ∨ w.heap.size ≤ k_)) u9000_ l0 from Kd.R_mono ho0 (fun k_ hk => (.inl hk)))
 have HK := Aside0.mk (Kept.refl w (fun k_ => P0_ k_))
 have HW0 := Aside0.mk hB.size
 have HB := Aside0.mk hB
 clear hB
 have H : (laws_markSetS.l0 k l0 a1 0) = some (r1, r2) := h
 clear h
 have H' := Aside0.mk H
 clear H
 go_enter Try.func33, Try.ntmps33
 go_wp2
 go_loopg [1, 5] k (fun kq v1 v5 w' => ∃ (x0_1 : List (S74)) (x1_1 : Int) (x5_1 : Int), v1 = .int .i64 x1_1 ∧ v5 = .int .i64 x5_1 ∧ Aside0 (laws_markSetS.l0 kq x0_1 x1_1 x5_1 = some (r1, r2)) ∧ Aside0 (kq ≤ k) ∧ Aside0 (Kd.R k74 74 w' w0.heap.size (fun k_ => (P0_ k_ ∨ w.heap.size ≤ k_)) u9000_ x0_1) ∧ Aside0 (Kept w w' (fun k_ => P0_ k_)) ∧ Aside0 (Below w0.heap.size w0 w'))
 case atStart => exact ⟨(l0), (a1), (0), rs_, rs_, H', ⟨Nat.le_refl _⟩, ⟨by (with_reducible repeat (first | apply Kd.R_alloc | apply Kd.R_drewN | apply Kd.R_drew)); exact HO0.out⟩, ⟨by repeat (first | (with_reducible first | exact HK.out | apply Kept.alloc | apply Kept.drewN | apply Kept.drew) | exact HK.out)⟩, ⟨bB_⟩⟩
 case round =>
  clear H'
  try clear p2
  obtain ⟨x0_1, x1_1, x5_1, rfl, rfl, HA, HK1, HO_0, HK, HB⟩ := hrel
  cases gk with
  | zero => exact absurd HA.out (by simp [laws_markSetS.l0])
  | succ k1 =>
   have H := HA.out
   clear HA
   simp only [laws_markSetS.l0] at H
   by_cases c3 : x5_1 < (x0_1.length : Int)
   · rw [if_pos c3] at H
     have c3b0 : decide (x5_1 < (x0_1.length : Int)) = true := decide_eq_true c3
     clear c3
     by_cases c4 : 0 ≤ x5_1
     rotate_left
     · exact absurd H (by rw [if_neg c4]; simp)
     rw [if_pos c4] at H
     have c4b0 : decide (0 ≤ x5_1) = true := decide_eq_true c4
     clear c4
     obtain ⟨y825, hy825⟩ : ∃ y_ : List (S74), y_ = (x0_1.set (x5_1 : Int).toNat (⟨((Int.tmod x1_1 3) == 0), (⟨(rd_T74 x0_1 x5_1).f1.f0, (rd_T74 x0_1 x5_1).f1.f1, (rd_T74 x0_1 x5_1).f1.f2⟩ : S72)⟩ : S74)) := ⟨_, rfl⟩
     replace H : ((laws_markText.f k1 (wrap64 (x1_1 + 1))).bind fun t826 => ((some (y825.set (x5_1 : Int).toNat (⟨(rd_T74 y825 x5_1).f0, (⟨t826, (rd_T74 y825 x5_1).f1.f1, (rd_T74 y825 x5_1).f1.f2⟩ : S72)⟩ : S74) : List (S74))).bind fun y827 => ((laws_markText.f k1 (wrap64 ((wrap64 (x1_1 + 1)) + 1))).bind fun t828 => ((some (y827.set (x5_1 : Int).toNat (⟨(rd_T74 y827 x5_1).f0, (⟨(rd_T74 y827 x5_1).f1.f0, t828, (rd_T74 y827 x5_1).f1.f2⟩ : S72)⟩ : S74) : List (S74))).bind fun y829 => ((laws_markText.f k1 (wrap64 ((wrap64 ((wrap64 (x1_1 + 1)) + 1)) + 1))).bind fun t830 => (laws_markSetS.l0 k1 (y829.set (x5_1 : Int).toNat (⟨(rd_T74 y829 x5_1).f0, (⟨(rd_T74 y829 x5_1).f1.f0, (rd_T74 y829 x5_1).f1.f1, t830⟩ : S72)⟩ : S74)) (wrap64 ((wrap64 ((wrap64 ((wrap64 (x1_1 + 1)) + 1)) + 1)) + 1)) (wrap64 (x5_1 + 1)))))))) = some (r1, r2) := by first | (rw [hy825]; with_reducible exact H) | (have H2_ := (Option.bind_some _ _).symm.trans H; rw [hy825]; with_reducible exact H2_) | (have H2_ := (Option.bind_some _ _).symm.trans H; with_reducible exact H2_) | with_reducible exact H | (rw [hy825]; exact H) | exact H
     have Ny825 := Aside0.mk hy825
     clear hy825
     obtain ⟨t826, A6, H⟩ := bo_ H
     (try dsimp only at H)
     obtain ⟨y827, hy827⟩ : ∃ y_ : List (S74), y_ = (y825.set (x5_1 : Int).toNat (⟨(rd_T74 y825 x5_1).f0, (⟨t826, (rd_T74 y825 x5_1).f1.f1, (rd_T74 y825 x5_1).f1.f2⟩ : S72)⟩ : S74)) := ⟨_, rfl⟩
     replace H : ((laws_markText.f k1 (wrap64 ((wrap64 (x1_1 + 1)) + 1))).bind fun t828 => ((some (y827.set (x5_1 : Int).toNat (⟨(rd_T74 y827 x5_1).f0, (⟨(rd_T74 y827 x5_1).f1.f0, t828, (rd_T74 y827 x5_1).f1.f2⟩ : S72)⟩ : S74) : List (S74))).bind fun y829 => ((laws_markText.f k1 (wrap64 ((wrap64 ((wrap64 (x1_1 + 1)) + 1)) + 1))).bind fun t830 => (laws_markSetS.l0 k1 (y829.set (x5_1 : Int).toNat (⟨(rd_T74 y829 x5_1).f0, (⟨(rd_T74 y829 x5_1).f1.f0, (rd_T74 y829 x5_1).f1.f1, t830⟩ : S72)⟩ : S74)) (wrap64 ((wrap64 ((wrap64 ((wrap64 (x1_1 + 1)) + 1)) + 1)) + 1)) (wrap64 (x5_1 + 1)))))) = some (r1, r2) := by first | (rw [hy827]; with_reducible exact H) | (have H2_ := (Option.bind_some _ _).symm.trans H; rw [hy827]; with_reducible exact H2_) | (have H2_ := (Option.bind_some _ _).symm.trans H; with_reducible exact H2_) | with_reducible exact H | (rw [hy827]; exact H) | exact H
     have Ny827 := Aside0.mk hy827
     clear hy827
     obtain ⟨t828, A8, H⟩ := bo_ H
     (try dsimp only at H)
     obtain ⟨y829, hy829⟩ : ∃ y_ : List (S74), y_ = (y827.set (x5_1 : Int).toNat (⟨(rd_T74 y827 x5_1).f0, (⟨(rd_T74 y827 x5_1).f1.f0, t828, (rd_T74 y827 x5_1).f1.f2⟩ : S72)⟩ : S74)) := ⟨_, rfl⟩
     replace H : ((laws_markText.f k1 (wrap64 ((wrap64 ((wrap64 (x1_1 + 1)) + 1)) + 1))).bind fun t830 => (laws_markSetS.l0 k1 (y829.set (x5_1 : Int).toNat (⟨(rd_T74 y829 x5_1).f0, (⟨(rd_T74 y829 x5_1).f1.f0, (rd_T74 y829 x5_1).f1.f1, t830⟩ : S72)⟩ : S74)) (wrap64 ((wrap64 ((wrap64 ((wrap64 (x1_1 + 1)) + 1)) + 1)) + 1)) (wrap64 (x5_1 + 1)))) = some (r1, r2) := by first | (rw [hy829]; with_reducible exact H) | (have H2_ := (Option.bind_some _ _).symm.trans H; rw [hy829]; with_reducible exact H2_) | (have H2_ := (Option.bind_some _ _).symm.trans H; with_reducible exact H2_) | with_reducible exact H | (rw [hy829]; exact H) | exact H
     have Ny829 := Aside0.mk hy829
     clear hy829
     obtain ⟨t830, A10, H⟩ := bo_ H
     (try dsimp only at H)
     obtain ⟨y831, hy831⟩ : ∃ y_ : List (S74), y_ = (y829.set (x5_1 : Int).toNat (⟨(rd_T74 y829 x5_1).f0, (⟨(rd_T74 y829 x5_1).f1.f0, (rd_T74 y829 x5_1).f1.f1, t830⟩ : S72)⟩ : S74)) := ⟨_, rfl⟩
     replace H : (laws_markSetS.l0 k1 y831 (wrap64 ((wrap64 ((wrap64 ((wrap64 (x1_1 + 1)) + 1)) + 1)) + 1)) (wrap64 (x5_1 + 1))) = some (r1, r2) := by first | (rw [hy831]; with_reducible exact H) | (have H2_ := (Option.bind_some _ _).symm.trans H; rw [hy831]; with_reducible exact H2_) | (have H2_ := (Option.bind_some _ _).symm.trans H; with_reducible exact H2_) | with_reducible exact H | (rw [hy831]; exact H) | exact H
     have Ny831 := Aside0.mk hy831
     clear hy831
     have H' := Aside0.mk H
     clear H
     obtain ⟨Ao12, co12, eo12⟩ := Kd.R_slice HO_0.out
     subst eo12
     have p5 : 0 ≤ (x5_1 : Int) := of_decide_eq_true as_
     have q5 : (x5_1 : Int) < ((x0_1.length : Int) : Int) := of_decide_eq_true as_
     obtain ⟨go5, co5, eo5, gb5, gl5, cl5, HG5⟩ := Kd.R_form HO_0.out (by omega)
     (first | cases eo5 | (injection eo5 with ea_ en_ ec_; (first | subst ea_ | (injection ea_ with ea_; subst ea_)); subst ec_; clear en_))
     have GB5 := Aside0.mk gb5
     have GG5 := Aside0.mk HG5
     clear gb5 gl5 HG5
     have HMgo5 := Aside0.mk (show (P0_ go5 ∨ w.heap.size ≤ go5) from (HO_0.out.1 _ rfl))
     obtain ⟨ce5, hcl5, hM5, hcc5, hfr5⟩ := Kd.R_elem HO_0.out z74 (x5_1 : Int) p5 q5
     obtain rfl := k74_openM hM5
     have hx5_0 : wr.cell? ⟨go5, (x5_1 : Int).toNat * 4, none⟩ = some (.bool ((rd_T74 x0_1 x5_1).f0)) := hcc5 0 _ rfl
     have hx5_1 : wr.cell? ⟨go5, (x5_1 : Int).toNat * 4 + 1, none⟩ = some (.string ((rd_T74 x0_1 x5_1).f1.f0)) := hcc5 1 _ rfl
     have hx5_2 : wr.cell? ⟨go5, (x5_1 : Int).toNat * 4 + 2, none⟩ = some (.string ((rd_T74 x0_1 x5_1).f1.f1)) := hcc5 2 _ rfl
     have hx5_3 : wr.cell? ⟨go5, (x5_1 : Int).toNat * 4 + 3, none⟩ = some (.string ((rd_T74 x0_1 x5_1).f1.f2)) := hcc5 3 _ rfl
     have hf5_0 : wr.frozen? ⟨go5, (x5_1 : Int).toNat * 4, none⟩ = false := hfr5 0
     have hf5_1 : wr.frozen? ⟨go5, (x5_1 : Int).toNat * 4 + 1, none⟩ = false := hfr5 1
     have hf5_2 : wr.frozen? ⟨go5, (x5_1 : Int).toNat * 4 + 2, none⟩ = false := hfr5 2
     have hf5_3 : wr.frozen? ⟨go5, (x5_1 : Int).toNat * 4 + 3, none⟩ = false := hfr5 3
     (try clear hcl5); (try clear hcc5); (try clear hfr5); (try clear hM5)
     replace p5 := eq_true p5
     replace q5 := eq_true q5
     have HX13 := Aside0.mk (show Kd.R k74 74 wr w0.heap.size (fun k_ => (P0_ k_ ∨ w.heap.size ≤ k_)) (.slice (some ⟨go5, 0, none⟩) x0_1.length co12) x0_1 from (vR_ HO_0.out))
     obtain ⟨ce13, hcl13, hM13, hcc13, hfr13⟩ := Kd.R_elem HX13.out z74 (x5_1 : Int) (of_decide_eq_true as_) (by have h_ : (x5_1 : Int) < ((x0_1.length : Int) : Int) := of_decide_eq_true as_; first | exact h_ | (have e_ := (Kd.R_reads' HO_0.out).1; omega) | simpa using h_)
     obtain rfl := k74_openM hM13
     have HP13 := Kd.R_seg HX13.out (x5_1 : Int) (of_decide_eq_true as_) (by have h_ : (x5_1 : Int) < ((x0_1.length : Int) : Int) := of_decide_eq_true as_; first | exact h_ | (have e_ := (Kd.R_reads' HO_0.out).1; omega) | simpa using h_) (seg := [.bool ((Int.tmod x1_1 3) == 0)]) (j := 0) hcl13 hcc13 (show 1 ≤ 4 from by decide) (x' := (⟨((Int.tmod x1_1 3) == 0), (⟨(rd_T74 x0_1 x5_1).f1.f0, (rd_T74 x0_1 x5_1).f1.f1, (rd_T74 x0_1 x5_1).f1.f2⟩ : S72)⟩ : S74)) (k74_mkM _ _ _ (⟨((Int.tmod x1_1 3) == 0), (⟨(rd_T74 x0_1 x5_1).f1.f0, (rd_T74 x0_1 x5_1).f1.f1, (rd_T74 x0_1 x5_1).f1.f2⟩ : S72)⟩ : S74) ) (fun _ hk => hk)
     have hx13_0 := hcc13 0 _ rfl
     (try simp only [show (k74).sz = 4 from rfl, Nat.mul_one, Nat.add_zero] at hx13_0)
     have hf13_0 := hfr13 0
     (try simp only [show (k74).sz = 4 from rfl, Nat.mul_one, Nat.add_zero] at hf13_0)
     (try clear hcl13); (try clear hcc13); (try clear hfr13); (try clear hM13)
     go_wp2_with (first | ((with_reducible refine gate_store (t := 4) (p := 18) rfl ?_); refine store_event (t := 4) (p := 18) (v := ?vo_w14) (w1 := (wr.setCell ⟨go5, (x5_1 : Int).toNat * 4, none⟩ (.bool ((Int.tmod x1_1 3) == 0)))) ?hg ?ho ?hn ?hr ?_; (case ho => rfl); (case hg => rfl); (case hn => rfl); (case hr => first | (go_simp; done) | (go_simp; rfl)); intro w14 hw; have hg : wr.grownBy w14 (some go5) := (by rw [hw]; exact HP13.2); have hp_ : Kd.R k74 74 w14 w0.heap.size (fun k_ => (P0_ k_ ∨ w.heap.size ≤ k_)) (.slice (some ⟨go5, 0, none⟩) x0_1.length co12) y825 := (by rw [hw, Ny825.out]; exact HP13.1); clear HP13; have n0_ := Aside0.mk (hp_); have n1_ := Aside0.mk ((by rw [hw]; exact below_set (HB.out) GB5.out : Below w0.heap.size w0 w14)); have n2_ := Aside0.mk (Kept.of_grown (S := (fun k_ => P0_ k_)) hg (by repeat (first | (with_reducible first | exact HK.out | apply Kept.alloc | apply Kept.drewN | apply Kept.drew) | exact HK.out)) (fun k_ e_ => (HO_0.out.1 k_ e_))); clear HO_0; clear HB; clear HK; have HO_0 := n0_; have HB := n1_; have HK := n2_; clear n0_ n1_ n2_; clear hg hw hp_) | ((with_reducible refine gate_callee (f := 69) rfl ?_); refine gL_ (some 24) Try.func69 #[.int .i64 (wrap64 (x1_1 + 1))] ?_; (with_reducible refine (laws_markText.calls k1 (wrap64 (x1_1 + 1)) t826 _ A6.out).mono ?_); rintro e w15 ⟨rfl, hb⟩; refine ⟨_, rfl, ?_⟩; have n0_ := Aside0.mk (Kd.R_below (vR_ HO_0.out) hb); have n1_ := Aside0.mk (Kept.below (S := (fun k_ => P0_ k_)) (by repeat (first | (with_reducible first | exact HK.out | apply Kept.alloc | apply Kept.drewN | apply Kept.drew) | exact HK.out)) hb); have n2_ := Aside0.mk (below_step bB_ hb); clear HO_0; clear HK; clear HB; have HO_0 := n0_; have HK := n1_; have HB := n2_; clear n0_ n1_ n2_; (try clear hb); have p7 : 0 ≤ (x5_1 : Int) := of_decide_eq_true as_; have q7 : (x5_1 : Int) < ((x0_1.length : Int) : Int) := of_decide_eq_true as_; obtain ⟨ce7, hcl7, hM7, hcc7, hfr7⟩ := Kd.R_elem HO_0.out z74 (x5_1 : Int) p7 q7; obtain rfl := k74_openM hM7; have hx7_0 : w15.cell? ⟨go5, (x5_1 : Int).toNat * 4, none⟩ = some (.bool ((rd_T74 y825 x5_1).f0)) := hcc7 0 _ rfl; have hx7_1 : w15.cell? ⟨go5, (x5_1 : Int).toNat * 4 + 1, none⟩ = some (.string ((rd_T74 y825 x5_1).f1.f0)) := hcc7 1 _ rfl; have hx7_2 : w15.cell? ⟨go5, (x5_1 : Int).toNat * 4 + 2, none⟩ = some (.string ((rd_T74 y825 x5_1).f1.f1)) := hcc7 2 _ rfl; have hx7_3 : w15.cell? ⟨go5, (x5_1 : Int).toNat * 4 + 3, none⟩ = some (.string ((rd_T74 y825 x5_1).f1.f2)) := hcc7 3 _ rfl; have hf7_0 : w15.frozen? ⟨go5, (x5_1 : Int).toNat * 4, none⟩ = false := hfr7 0; have hf7_1 : w15.frozen? ⟨go5, (x5_1 : Int).toNat * 4 + 1, none⟩ = false := hfr7 1; have hf7_2 : w15.frozen? ⟨go5, (x5_1 : Int).toNat * 4 + 2, none⟩ = false := hfr7 2; have hf7_3 : w15.frozen? ⟨go5, (x5_1 : Int).toNat * 4 + 3, none⟩ = false := hfr7 3; (try clear hcl7); (try clear hcc7); (try clear hfr7); (try clear hM7); replace p7 := eq_true p7; replace q7 := eq_true q7; have HX16 := Aside0.mk (show Kd.R k74 74 w15 w0.heap.size (fun k_ => (P0_ k_ ∨ w.heap.size ≤ k_)) (.slice (some ⟨go5, 0, none⟩) x0_1.length co12) y825 from (vR_ HO_0.out)); obtain ⟨ce16, hcl16, hM16, hcc16, hfr16⟩ := Kd.R_elem HX16.out z74 (x5_1 : Int) (of_decide_eq_true as_) (by have h_ : (x5_1 : Int) < ((x0_1.length : Int) : Int) := of_decide_eq_true as_; first | exact h_ | (have e_ := (Kd.R_reads' HO_0.out).1; omega) | simpa using h_); obtain rfl := k74_openM hM16; have HP16 := Kd.R_seg HX16.out (x5_1 : Int) (of_decide_eq_true as_) (by have h_ : (x5_1 : Int) < ((x0_1.length : Int) : Int) := of_decide_eq_true as_; first | exact h_ | (have e_ := (Kd.R_reads' HO_0.out).1; omega) | simpa using h_) (seg := [.string t826]) (j := 1) hcl16 hcc16 (show 2 ≤ 4 from by decide) (x' := (⟨(rd_T74 y825 x5_1).f0, (⟨t826, (rd_T74 y825 x5_1).f1.f1, (rd_T74 y825 x5_1).f1.f2⟩ : S72)⟩ : S74)) (k74_mkM _ _ _ (⟨(rd_T74 y825 x5_1).f0, (⟨t826, (rd_T74 y825 x5_1).f1.f1, (rd_T74 y825 x5_1).f1.f2⟩ : S72)⟩ : S74) ) (fun _ hk => hk); have hx16_1 := hcc16 1 _ rfl; (try simp only [show (k74).sz = 4 from rfl, Nat.mul_one, Nat.add_zero] at hx16_1); have hf16_1 := hfr16 1; (try simp only [show (k74).sz = 4 from rfl, Nat.mul_one, Nat.add_zero] at hf16_1); (try clear hcl16); (try clear hcc16); (try clear hfr16); (try clear hM16)) | ((with_reducible refine gate_store (t := 9) (p := 27) rfl ?_); refine store_event (t := 9) (p := 27) (v := ?vo_w17) (w1 := (w15.setCell ⟨go5, (x5_1 : Int).toNat * 4 + 1, none⟩ (.string t826))) ?hg ?ho ?hn ?hr ?_; (case ho => rfl); (case hg => rfl); (case hn => rfl); (case hr => first | (go_simp; done) | (go_simp; rfl)); intro w17 hw; have hg : w15.grownBy w17 (some go5) := (by rw [hw]; exact HP16.2); have hp_ : Kd.R k74 74 w17 w0.heap.size (fun k_ => (P0_ k_ ∨ w.heap.size ≤ k_)) (.slice (some ⟨go5, 0, none⟩) x0_1.length co12) y827 := (by rw [hw, Ny827.out]; exact HP16.1); clear HP16; have n0_ := Aside0.mk (hp_); have n1_ := Aside0.mk ((by rw [hw]; exact below_set (HB.out) GB5.out : Below w0.heap.size w0 w17)); have n2_ := Aside0.mk (Kept.of_grown (S := (fun k_ => P0_ k_)) hg (by repeat (first | (with_reducible first | exact HK.out | apply Kept.alloc | apply Kept.drewN | apply Kept.drew) | exact HK.out)) (fun k_ e_ => (HO_0.out.1 k_ e_))); clear HO_0; clear HB; clear HK; have HO_0 := n0_; have HB := n1_; have HK := n2_; clear n0_ n1_ n2_; clear hg hw hp_) | ((with_reducible refine gate_callee (f := 69) rfl ?_); refine gL_ (some 33) Try.func69 #[.int .i64 (wrap64 ((wrap64 (x1_1 + 1)) + 1))] ?_; (with_reducible refine (laws_markText.calls k1 (wrap64 ((wrap64 (x1_1 + 1)) + 1)) t828 _ A8.out).mono ?_); rintro e w18 ⟨rfl, hb⟩; refine ⟨_, rfl, ?_⟩; have n0_ := Aside0.mk (Kd.R_below (vR_ HO_0.out) hb); have n1_ := Aside0.mk (Kept.below (S := (fun k_ => P0_ k_)) (by repeat (first | (with_reducible first | exact HK.out | apply Kept.alloc | apply Kept.drewN | apply Kept.drew) | exact HK.out)) hb); have n2_ := Aside0.mk (below_step bB_ hb); clear HO_0; clear HK; clear HB; have HO_0 := n0_; have HK := n1_; have HB := n2_; clear n0_ n1_ n2_; (try clear hb); have p9 : 0 ≤ (x5_1 : Int) := of_decide_eq_true as_; have q9 : (x5_1 : Int) < ((x0_1.length : Int) : Int) := of_decide_eq_true as_; obtain ⟨ce9, hcl9, hM9, hcc9, hfr9⟩ := Kd.R_elem HO_0.out z74 (x5_1 : Int) p9 q9; obtain rfl := k74_openM hM9; have hx9_0 : w18.cell? ⟨go5, (x5_1 : Int).toNat * 4, none⟩ = some (.bool ((rd_T74 y827 x5_1).f0)) := hcc9 0 _ rfl; have hx9_1 : w18.cell? ⟨go5, (x5_1 : Int).toNat * 4 + 1, none⟩ = some (.string ((rd_T74 y827 x5_1).f1.f0)) := hcc9 1 _ rfl; have hx9_2 : w18.cell? ⟨go5, (x5_1 : Int).toNat * 4 + 2, none⟩ = some (.string ((rd_T74 y827 x5_1).f1.f1)) := hcc9 2 _ rfl; have hx9_3 : w18.cell? ⟨go5, (x5_1 : Int).toNat * 4 + 3, none⟩ = some (.string ((rd_T74 y827 x5_1).f1.f2)) := hcc9 3 _ rfl; have hf9_0 : w18.frozen? ⟨go5, (x5_1 : Int).toNat * 4, none⟩ = false := hfr9 0; have hf9_1 : w18.frozen? ⟨go5, (x5_1 : Int).toNat * 4 + 1, none⟩ = false := hfr9 1; have hf9_2 : w18.frozen? ⟨go5, (x5_1 : Int).toNat * 4 + 2, none⟩ = false := hfr9 2; have hf9_3 : w18.frozen? ⟨go5, (x5_1 : Int).toNat * 4 + 3, none⟩ = false := hfr9 3; (try clear hcl9); (try clear hcc9); (try clear hfr9); (try clear hM9); replace p9 := eq_true p9; replace q9 := eq_true q9; have HX19 := Aside0.mk (show Kd.R k74 74 w18 w0.heap.size (fun k_ => (P0_ k_ ∨ w.heap.size ≤ k_)) (.slice (some ⟨go5, 0, none⟩) x0_1.length co12) y827 from (vR_ HO_0.out)); obtain ⟨ce19, hcl19, hM19, hcc19, hfr19⟩ := Kd.R_elem HX19.out z74 (x5_1 : Int) (of_decide_eq_true as_) (by have h_ : (x5_1 : Int) < ((x0_1.length : Int) : Int) := of_decide_eq_true as_; first | exact h_ | (have e_ := (Kd.R_reads' HO_0.out).1; omega) | simpa using h_); obtain rfl := k74_openM hM19; have HP19 := Kd.R_seg HX19.out (x5_1 : Int) (of_decide_eq_true as_) (by have h_ : (x5_1 : Int) < ((x0_1.length : Int) : Int) := of_decide_eq_true as_; first | exact h_ | (have e_ := (Kd.R_reads' HO_0.out).1; omega) | simpa using h_) (seg := [.string t828]) (j := 2) hcl19 hcc19 (show 3 ≤ 4 from by decide) (x' := (⟨(rd_T74 y827 x5_1).f0, (⟨(rd_T74 y827 x5_1).f1.f0, t828, (rd_T74 y827 x5_1).f1.f2⟩ : S72)⟩ : S74)) (k74_mkM _ _ _ (⟨(rd_T74 y827 x5_1).f0, (⟨(rd_T74 y827 x5_1).f1.f0, t828, (rd_T74 y827 x5_1).f1.f2⟩ : S72)⟩ : S74) ) (fun _ hk => hk); have hx19_2 := hcc19 2 _ rfl; (try simp only [show (k74).sz = 4 from rfl, Nat.mul_one, Nat.add_zero] at hx19_2); have hf19_2 := hfr19 2; (try simp only [show (k74).sz = 4 from rfl, Nat.mul_one, Nat.add_zero] at hf19_2); (try clear hcl19); (try clear hcc19); (try clear hfr19); (try clear hM19)) | ((with_reducible refine gate_store (t := 9) (p := 36) rfl ?_); refine store_event (t := 9) (p := 36) (v := ?vo_w20) (w1 := (w18.setCell ⟨go5, (x5_1 : Int).toNat * 4 + 2, none⟩ (.string t828))) ?hg ?ho ?hn ?hr ?_; (case ho => rfl); (case hg => rfl); (case hn => rfl); (case hr => first | (go_simp; done) | (go_simp; rfl)); intro w20 hw; have hg : w18.grownBy w20 (some go5) := (by rw [hw]; exact HP19.2); have hp_ : Kd.R k74 74 w20 w0.heap.size (fun k_ => (P0_ k_ ∨ w.heap.size ≤ k_)) (.slice (some ⟨go5, 0, none⟩) x0_1.length co12) y829 := (by rw [hw, Ny829.out]; exact HP19.1); clear HP19; have n0_ := Aside0.mk (hp_); have n1_ := Aside0.mk ((by rw [hw]; exact below_set (HB.out) GB5.out : Below w0.heap.size w0 w20)); have n2_ := Aside0.mk (Kept.of_grown (S := (fun k_ => P0_ k_)) hg (by repeat (first | (with_reducible first | exact HK.out | apply Kept.alloc | apply Kept.drewN | apply Kept.drew) | exact HK.out)) (fun k_ e_ => (HO_0.out.1 k_ e_))); clear HO_0; clear HB; clear HK; have HO_0 := n0_; have HB := n1_; have HK := n2_; clear n0_ n1_ n2_; clear hg hw hp_) | ((with_reducible refine gate_callee (f := 69) rfl ?_); refine gL_ (some 42) Try.func69 #[.int .i64 (wrap64 ((wrap64 ((wrap64 (x1_1 + 1)) + 1)) + 1))] ?_; (with_reducible refine (laws_markText.calls k1 (wrap64 ((wrap64 ((wrap64 (x1_1 + 1)) + 1)) + 1)) t830 _ A10.out).mono ?_); rintro e w21 ⟨rfl, hb⟩; refine ⟨_, rfl, ?_⟩; have n0_ := Aside0.mk (Kd.R_below (vR_ HO_0.out) hb); have n1_ := Aside0.mk (Kept.below (S := (fun k_ => P0_ k_)) (by repeat (first | (with_reducible first | exact HK.out | apply Kept.alloc | apply Kept.drewN | apply Kept.drew) | exact HK.out)) hb); have n2_ := Aside0.mk (below_step bB_ hb); clear HO_0; clear HK; clear HB; have HO_0 := n0_; have HK := n1_; have HB := n2_; clear n0_ n1_ n2_; (try clear hb); have p11 : 0 ≤ (x5_1 : Int) := of_decide_eq_true as_; have q11 : (x5_1 : Int) < ((x0_1.length : Int) : Int) := of_decide_eq_true as_; obtain ⟨ce11, hcl11, hM11, hcc11, hfr11⟩ := Kd.R_elem HO_0.out z74 (x5_1 : Int) p11 q11; obtain rfl := k74_openM hM11; have hx11_0 : w21.cell? ⟨go5, (x5_1 : Int).toNat * 4, none⟩ = some (.bool ((rd_T74 y829 x5_1).f0)) := hcc11 0 _ rfl; have hx11_1 : w21.cell? ⟨go5, (x5_1 : Int).toNat * 4 + 1, none⟩ = some (.string ((rd_T74 y829 x5_1).f1.f0)) := hcc11 1 _ rfl; have hx11_2 : w21.cell? ⟨go5, (x5_1 : Int).toNat * 4 + 2, none⟩ = some (.string ((rd_T74 y829 x5_1).f1.f1)) := hcc11 2 _ rfl; have hx11_3 : w21.cell? ⟨go5, (x5_1 : Int).toNat * 4 + 3, none⟩ = some (.string ((rd_T74 y829 x5_1).f1.f2)) := hcc11 3 _ rfl; have hf11_0 : w21.frozen? ⟨go5, (x5_1 : Int).toNat * 4, none⟩ = false := hfr11 0; have hf11_1 : w21.frozen? ⟨go5, (x5_1 : Int).toNat * 4 + 1, none⟩ = false := hfr11 1; have hf11_2 : w21.frozen? ⟨go5, (x5_1 : Int).toNat * 4 + 2, none⟩ = false := hfr11 2; have hf11_3 : w21.frozen? ⟨go5, (x5_1 : Int).toNat * 4 + 3, none⟩ = false := hfr11 3; (try clear hcl11); (try clear hcc11); (try clear hfr11); (try clear hM11); replace p11 := eq_true p11; replace q11 := eq_true q11; have HX22 := Aside0.mk (show Kd.R k74 74 w21 w0.heap.size (fun k_ => (P0_ k_ ∨ w.heap.size ≤ k_)) (.slice (some ⟨go5, 0, none⟩) x0_1.length co12) y829 from (vR_ HO_0.out)); obtain ⟨ce22, hcl22, hM22, hcc22, hfr22⟩ := Kd.R_elem HX22.out z74 (x5_1 : Int) (of_decide_eq_true as_) (by have h_ : (x5_1 : Int) < ((x0_1.length : Int) : Int) := of_decide_eq_true as_; first | exact h_ | (have e_ := (Kd.R_reads' HO_0.out).1; omega) | simpa using h_); obtain rfl := k74_openM hM22; have HP22 := Kd.R_seg HX22.out (x5_1 : Int) (of_decide_eq_true as_) (by have h_ : (x5_1 : Int) < ((x0_1.length : Int) : Int) := of_decide_eq_true as_; first | exact h_ | (have e_ := (Kd.R_reads' HO_0.out).1; omega) | simpa using h_) (seg := [.string t830]) (j := 3) hcl22 hcc22 (show 4 ≤ 4 from by decide) (x' := (⟨(rd_T74 y829 x5_1).f0, (⟨(rd_T74 y829 x5_1).f1.f0, (rd_T74 y829 x5_1).f1.f1, t830⟩ : S72)⟩ : S74)) (k74_mkM _ _ _ (⟨(rd_T74 y829 x5_1).f0, (⟨(rd_T74 y829 x5_1).f1.f0, (rd_T74 y829 x5_1).f1.f1, t830⟩ : S72)⟩ : S74) ) (fun _ hk => hk); have hx22_3 := hcc22 3 _ rfl; (try simp only [show (k74).sz = 4 from rfl, Nat.mul_one, Nat.add_zero] at hx22_3); have hf22_3 := hfr22 3; (try simp only [show (k74).sz = 4 from rfl, Nat.mul_one, Nat.add_zero] at hf22_3); (try clear hcl22); (try clear hcc22); (try clear hfr22); (try clear hM22)) | ((with_reducible refine gate_store (t := 9) (p := 45) rfl ?_); refine store_event (t := 9) (p := 45) (v := ?vo_w23) (w1 := (w21.setCell ⟨go5, (x5_1 : Int).toNat * 4 + 3, none⟩ (.string t830))) ?hg ?ho ?hn ?hr ?_; (case ho => rfl); (case hg => rfl); (case hn => rfl); (case hr => first | (go_simp; done) | (go_simp; rfl)); intro w23 hw; have hg : w21.grownBy w23 (some go5) := (by rw [hw]; exact HP22.2); have hp_ : Kd.R k74 74 w23 w0.heap.size (fun k_ => (P0_ k_ ∨ w.heap.size ≤ k_)) (.slice (some ⟨go5, 0, none⟩) x0_1.length co12) y831 := (by rw [hw, Ny831.out]; exact HP22.1); clear HP22; have n0_ := Aside0.mk (hp_); have n1_ := Aside0.mk ((by rw [hw]; exact below_set (HB.out) GB5.out : Below w0.heap.size w0 w23)); have n2_ := Aside0.mk (Kept.of_grown (S := (fun k_ => P0_ k_)) hg (by repeat (first | (with_reducible first | exact HK.out | apply Kept.alloc | apply Kept.drewN | apply Kept.drew) | exact HK.out)) (fun k_ e_ => (HO_0.out.1 k_ e_))); clear HO_0; clear HB; clear HK; have HO_0 := n0_; have HB := n1_; have HK := n2_; clear n0_ n1_ n2_; clear hg hw hp_))
     go_roundg k1
     case measure => have := HK1.out; omega
     case rel => exact ⟨(y831), (wrap64 ((wrap64 ((wrap64 ((wrap64 (x1_1 + 1)) + 1)) + 1)) + 1)), (wrap64 (x5_1 + 1)), rs_, rs_, H', ⟨by have := HK1.out; omega⟩, ⟨by (with_reducible repeat (first | apply Kd.R_alloc | apply Kd.R_drewN | apply Kd.R_drew)); exact HO_0.out⟩, ⟨by repeat (first | (with_reducible first | exact HK.out | apply Kept.alloc | apply Kept.drewN | apply Kept.drew) | exact HK.out)⟩, ⟨bB_⟩⟩
   · rw [if_neg c3] at H
     have c3b0 : decide (x5_1 < (x0_1.length : Int)) = false := decide_eq_false c3
     clear c3
     simp only [Option.some.injEq, Prod.mk.injEq] at H
     obtain ⟨rfl, rfl⟩ := H
     obtain ⟨Ao24, co24, eo24⟩ := Kd.R_slice HO_0.out
     subst eo24
     go_wp2
     go_ret
     exact ⟨rr_, by (with_reducible repeat (first | apply Kd.R_alloc | apply Kd.R_drewN | apply Kd.R_drew)); exact HO_0.out, bB_, by repeat (first | (with_reducible first | exact HK.out | apply Kept.alloc | apply Kept.drewN | apply Kept.drew) | exact HK.out)⟩
end Go.Proofs.Ytbgggcgjijljkaa.Q

/- The law FnExactPatch: its way to 'true', and the walk over it. No condition. -/
set_option linter.unusedVariables false
set_option linter.unusedSimpArgs false
namespace Go.Proofs.Ytbgggcgjijljkaa.Q
open Go.RowKit Go.Proofs.YtbgggcgjijljkaaW.PrintWords Go.Proofs.YtbgggcgjijljkaaW.PrintLast
theorem below_drawn_FnExactPatch {w w1 : World} {n : Nat} (h : w1 = w.drewN n) : Below w.heap.size w w1 := h ▸ pw_below_drewN (Below.refl _ _) n
def laws_FnExactPatch.f (k : Nat) (l0 : List (S79)) (l1 : List ByteArray) (l2 : List (S90)) : Option Bool := ((laws_szResS.f k l0 1048576).bind fun t1 => (if t1 < 0 then (some true) else ((laws_szStringS.f k l1 t1).bind fun t3 => (if t3 < 0 then (some true) else ((laws_szSetS.f k l2 t3).bind fun t5 => (if t5 < 0 then (some true) else ((laws_toResS.f k l0).bind fun t7 => ((laws_toStringS.f k l1).bind fun t10 => ((laws_toSetS.f k l2).bind fun t13 => ((spec_Patch.f k t7 t10 t13).bind fun bt16 => ((laws_toResS.f k l0).bind fun t20 => ((laws_toStringS.f k l1).bind fun t23 => ((laws_toSetS.f k l2).bind fun t26 => ((impl_Patch.f k t20 t23 t26).bind fun bt29 => ((laws_eqResS.f k bt29.1 bt16.1).bind fun t33 => (if t33 = true then (if bt29.2 = bt16.2 then ((laws_toResS.f k l0).bind fun t35 => ((laws_eqResS.f k t20 t35).bind fun t38 => (if t38 = true then ((laws_toStringS.f k l1).bind fun t40 => ((laws_eqStringS.f k t23 t40).bind fun t43 => (if t43 = true then ((laws_toSetS.f k l2).bind fun t45 => ((laws_eqSetS.f k t26 t45).bind fun t48 => (if t48 = true then ((laws_markResS.f k t20 1).bind fun bt50 => ((laws_markStringS.f k t23 bt50.1).bind fun bt54 => ((laws_markSetS.f k t26 bt54.1).bind fun bt58 => (if bt58.1 < 0 then none else ((laws_eqResS.f k bt29.1 bt16.1).bind fun t62 => (if t62 = true then (if bt29.2 = bt16.2 then ((laws_markResS.f k bt29.1 1).bind fun bt64 => ((laws_heldResS.f k bt64.2 1).bind fun t68 => (if t68 < 0 then none else (if t68 = bt64.1 then ((laws_toResS.f k l0).bind fun t70 => ((laws_toStringS.f k l1).bind fun t73 => ((laws_toSetS.f k l2).bind fun t76 => ((impl_Patch.f k t70 t73 t76).bind fun bt79 => ((laws_eqResS.f k bt79.1 bt16.1).bind fun t83 => (if t83 = true then (if bt79.2 = bt16.2 then ((laws_heldResS.f k bt64.2 1).bind fun t85 => (if t85 < 0 then none else (if t85 = bt64.1 then (some true) else none))) else none) else none)))))) else none)))) else none) else none)))))) else none))) else none))) else none))) else none) else none))))))))))))))))
set_option maxHeartbeats 16000000 in
set_option maxRecDepth 100000 in
theorem laws_FnExactPatch.calls (k : Nat) (A0 : Option Addr) (c0 : Nat) (l0 : List (S79)) (A1 : Option Addr) (c1 : Nat) (l1 : List ByteArray) (A2 : Option Addr) (c2 : Nat) (l2 : List (S90)) (r : Bool) (w : World) (hr0 : Kd.C k79 w A0 l0.length l0) (hc0 : l0.length ≤ c0) (hr1 : Kd.C Kd.string w A1 l1.length l1) (hc1 : l1.length ≤ c1) (hr2 : Kd.C k90 w A2 l2.length l2) (hc2 : l2.length ≤ c2) (h : laws_FnExactPatch.f k l0 l1 l2 = some r) :
 Calls Try.prog 6 #[.slice A0 l0.length c0, .slice A1 l1.length c1, .slice A2 l2.length c2] w fun e w' => e = .returned (.bool r) ∧ Below w.heap.size w w' := by
 have HR0 := Aside0.mk hr0
 have HC0 := Aside0.mk hc0
 have HR1 := Aside0.mk hr1
 have HC1 := Aside0.mk hc1
 have HR2 := Aside0.mk hr2
 have HC2 := Aside0.mk hc2
 clear hr0 hc0 hr1 hc1 hr2 hc2
 have HB := Aside0.mk (Below.refl w.heap.size w)
 have H : ((laws_szResS.f k l0 1048576).bind fun t1 => (if t1 < 0 then (some true) else ((laws_szStringS.f k l1 t1).bind fun t3 => (if t3 < 0 then (some true) else ((laws_szSetS.f k l2 t3).bind fun t5 => (if t5 < 0 then (some true) else ((laws_toResS.f k l0).bind fun t7 => ((laws_toStringS.f k l1).bind fun t10 => ((laws_toSetS.f k l2).bind fun t13 => ((spec_Patch.f k t7 t10 t13).bind fun bt16 => ((laws_toResS.f k l0).bind fun t20 => ((laws_toStringS.f k l1).bind fun t23 => ((laws_toSetS.f k l2).bind fun t26 => ((impl_Patch.f k t20 t23 t26).bind fun bt29 => ((laws_eqResS.f k bt29.1 bt16.1).bind fun t33 => (if t33 = true then (if bt29.2 = bt16.2 then ((laws_toResS.f k l0).bind fun t35 => ((laws_eqResS.f k t20 t35).bind fun t38 => (if t38 = true then ((laws_toStringS.f k l1).bind fun t40 => ((laws_eqStringS.f k t23 t40).bind fun t43 => (if t43 = true then ((laws_toSetS.f k l2).bind fun t45 => ((laws_eqSetS.f k t26 t45).bind fun t48 => (if t48 = true then ((laws_markResS.f k t20 1).bind fun bt50 => ((laws_markStringS.f k t23 bt50.1).bind fun bt54 => ((laws_markSetS.f k t26 bt54.1).bind fun bt58 => (if bt58.1 < 0 then none else ((laws_eqResS.f k bt29.1 bt16.1).bind fun t62 => (if t62 = true then (if bt29.2 = bt16.2 then ((laws_markResS.f k bt29.1 1).bind fun bt64 => ((laws_heldResS.f k bt64.2 1).bind fun t68 => (if t68 < 0 then none else (if t68 = bt64.1 then ((laws_toResS.f k l0).bind fun t70 => ((laws_toStringS.f k l1).bind fun t73 => ((laws_toSetS.f k l2).bind fun t76 => ((impl_Patch.f k t70 t73 t76).bind fun bt79 => ((laws_eqResS.f k bt79.1 bt16.1).bind fun t83 => (if t83 = true then (if bt79.2 = bt16.2 then ((laws_heldResS.f k bt64.2 1).bind fun t85 => (if t85 < 0 then none else (if t85 = bt64.1 then (some true) else none))) else none) else none)))))) else none)))) else none) else none)))))) else none))) else none))) else none))) else none) else none)))))))))))))))) = some r := h
 clear h
 replace H := Option.bind_eq_some_iff.mp H
 obtain ⟨t1, A0_, H⟩ := H
 (try dsimp only at H)
 have FA2 := Aside0.mk A0_
 clear A0_
 by_cases c87 : t1 < 0
 · rw [if_pos c87] at H
   have c87b0 : decide (t1 < 0) = true := decide_eq_true c87
   clear c87
   obtain rfl := Option.some.inj H
   go_enter Try.func6, Try.ntmps6
   go_wp2_with (first | ((with_reducible refine gate_callee (f := 13) rfl ?_); refine gL_ (some 22) Try.func13 #[.slice A0 l0.length c0, .int .i64 1048576] ?_; (with_reducible refine (laws_szResS.calls k A0 c0 l0 1048576 t1 _ ?side1 ?side2 FA2.out).mono ?_); (case side1 => exact cC_ (Kd.C_below HR0.out HB.out)); (case side2 => exact HC0.out); rintro e w_1 ⟨rfl, hb_⟩; refine ⟨_, rfl, ?_⟩; have n0_ : Aside0 (w.heap.size ≤ w_1.heap.size) := ⟨Nat.le_trans (below_size bR_) (below_size hb_)⟩; have m0_ := Aside0.mk (below_step bB_ hb_); clear HB; have HZ1 := n0_; have HB := m0_; clear n0_ m0_; (try clear hb_); (try clear hk_); (try clear hw_); (try clear hg_); (try clear hbox_); (try clear ho0_)))
   go_ret
   exact ⟨rfl, bB_⟩
 rw [if_neg c87] at H
 have c87b0 : decide (t1 < 0) = false := decide_eq_false c87
 clear c87
 replace H := Option.bind_eq_some_iff.mp H
 obtain ⟨t3, A0_, H⟩ := H
 (try dsimp only at H)
 have FA4 := Aside0.mk A0_
 clear A0_
 by_cases c88 : t3 < 0
 · rw [if_pos c88] at H
   have c88b0 : decide (t3 < 0) = true := decide_eq_true c88
   clear c88
   obtain rfl := Option.some.inj H
   go_enter Try.func6, Try.ntmps6
   go_wp2_with (first | ((with_reducible refine gate_callee (f := 13) rfl ?_); refine gL_ (some 22) Try.func13 #[.slice A0 l0.length c0, .int .i64 1048576] ?_; (with_reducible refine (laws_szResS.calls k A0 c0 l0 1048576 t1 _ ?side1 ?side2 FA2.out).mono ?_); (case side1 => exact cC_ (Kd.C_below HR0.out HB.out)); (case side2 => exact HC0.out); rintro e w_1 ⟨rfl, hb_⟩; refine ⟨_, rfl, ?_⟩; have n0_ : Aside0 (w.heap.size ≤ w_1.heap.size) := ⟨Nat.le_trans (below_size bR_) (below_size hb_)⟩; have m0_ := Aside0.mk (below_step bB_ hb_); clear HB; have HZ1 := n0_; have HB := m0_; clear n0_ m0_; (try clear hb_); (try clear hk_); (try clear hw_); (try clear hg_); (try clear hbox_); (try clear ho0_)) | ((with_reducible refine gate_callee (f := 14) rfl ?_); refine gL_ (some 27) Try.func14 #[.slice A1 l1.length c1, .int .i64 t1] ?_; (with_reducible refine (laws_szStringS.calls k A1 c1 l1 t1 t3 _ ?side1 ?side2 FA4.out).mono ?_); (case side1 => exact cC_ (Kd.C_below HR1.out HB.out)); (case side2 => exact HC1.out); rintro e w_2 ⟨rfl, ⟨nd_, hw_⟩⟩; refine ⟨_, rfl, ?_⟩; have hb_ := below_drawn_FnExactPatch hw_; clear hw_; have n0_ : Aside0 (w_1.heap.size ≤ w_2.heap.size) := ⟨Nat.le_trans (below_size bR_) (below_size hb_)⟩; have m0_ := Aside0.mk (below_step bB_ hb_); clear HB; have HZ2 := n0_; have HB := m0_; clear n0_ m0_; (try clear hb_); (try clear hk_); (try clear hw_); (try clear hg_); (try clear hbox_); (try clear ho0_)))
   go_ret
   exact ⟨rfl, bB_⟩
 rw [if_neg c88] at H
 have c88b0 : decide (t3 < 0) = false := decide_eq_false c88
 clear c88
 replace H := Option.bind_eq_some_iff.mp H
 obtain ⟨t5, A0_, H⟩ := H
 (try dsimp only at H)
 have FA6 := Aside0.mk A0_
 clear A0_
 by_cases c89 : t5 < 0
 · rw [if_pos c89] at H
   have c89b0 : decide (t5 < 0) = true := decide_eq_true c89
   clear c89
   obtain rfl := Option.some.inj H
   go_enter Try.func6, Try.ntmps6
   go_wp2_with (first | ((with_reducible refine gate_callee (f := 13) rfl ?_); refine gL_ (some 22) Try.func13 #[.slice A0 l0.length c0, .int .i64 1048576] ?_; (with_reducible refine (laws_szResS.calls k A0 c0 l0 1048576 t1 _ ?side1 ?side2 FA2.out).mono ?_); (case side1 => exact cC_ (Kd.C_below HR0.out HB.out)); (case side2 => exact HC0.out); rintro e w_1 ⟨rfl, hb_⟩; refine ⟨_, rfl, ?_⟩; have n0_ : Aside0 (w.heap.size ≤ w_1.heap.size) := ⟨Nat.le_trans (below_size bR_) (below_size hb_)⟩; have m0_ := Aside0.mk (below_step bB_ hb_); clear HB; have HZ1 := n0_; have HB := m0_; clear n0_ m0_; (try clear hb_); (try clear hk_); (try clear hw_); (try clear hg_); (try clear hbox_); (try clear ho0_)) | ((with_reducible refine gate_callee (f := 14) rfl ?_); refine gL_ (some 27) Try.func14 #[.slice A1 l1.length c1, .int .i64 t1] ?_; (with_reducible refine (laws_szStringS.calls k A1 c1 l1 t1 t3 _ ?side1 ?side2 FA4.out).mono ?_); (case side1 => exact cC_ (Kd.C_below HR1.out HB.out)); (case side2 => exact HC1.out); rintro e w_2 ⟨rfl, ⟨nd_, hw_⟩⟩; refine ⟨_, rfl, ?_⟩; have hb_ := below_drawn_FnExactPatch hw_; clear hw_; have n0_ : Aside0 (w_1.heap.size ≤ w_2.heap.size) := ⟨Nat.le_trans (below_size bR_) (below_size hb_)⟩; have m0_ := Aside0.mk (below_step bB_ hb_); clear HB; have HZ2 := n0_; have HB := m0_; clear n0_ m0_; (try clear hb_); (try clear hk_); (try clear hw_); (try clear hg_); (try clear hbox_); (try clear ho0_)) | ((with_reducible refine gate_callee (f := 28) rfl ?_); refine gL_ (some 32) Try.func28 #[.slice A2 l2.length c2, .int .i64 t3] ?_; (with_reducible refine (laws_szSetS.calls k A2 c2 l2 t3 t5 _ ?side1 ?side2 FA6.out).mono ?_); (case side1 => exact cC_ (Kd.C_below HR2.out HB.out)); (case side2 => exact HC2.out); rintro e w_3 ⟨rfl, hb_⟩; refine ⟨_, rfl, ?_⟩; have n0_ : Aside0 (w_2.heap.size ≤ w_3.heap.size) := ⟨Nat.le_trans (below_size bR_) (below_size hb_)⟩; have m0_ := Aside0.mk (below_step bB_ hb_); clear HB; have HZ3 := n0_; have HB := m0_; clear n0_ m0_; (try clear hb_); (try clear hk_); (try clear hw_); (try clear hg_); (try clear hbox_); (try clear ho0_)))
   go_ret
   exact ⟨rfl, bB_⟩
 rw [if_neg c89] at H
 have c89b0 : decide (t5 < 0) = false := decide_eq_false c89
 clear c89
 replace H := Option.bind_eq_some_iff.mp H
 obtain ⟨t7, A0_, H⟩ := H
 (try dsimp only at H)
 have FA8 := Aside0.mk A0_
 clear A0_
 replace H := Option.bind_eq_some_iff.mp H
 obtain ⟨t10, A0_, H⟩ := H
 (try dsimp only at H)
 have FA11 := Aside0.mk A0_
 clear A0_
 replace H := Option.bind_eq_some_iff.mp H
 obtain ⟨t13, A0_, H⟩ := H
 (try dsimp only at H)
 have FA14 := Aside0.mk A0_
 clear A0_
 replace H := Option.bind_eq_some_iff.mp H
 obtain ⟨⟨t16, t17⟩, A0_, H⟩ := H
 (try dsimp only at H)
 have FA18 := Aside0.mk A0_
 clear A0_
 replace H := Option.bind_eq_some_iff.mp H
 obtain ⟨t20, A0_, H⟩ := H
 (try dsimp only at H)
 have FA21 := Aside0.mk A0_
 clear A0_
 replace H := Option.bind_eq_some_iff.mp H
 obtain ⟨t23, A0_, H⟩ := H
 (try dsimp only at H)
 have FA24 := Aside0.mk A0_
 clear A0_
 replace H := Option.bind_eq_some_iff.mp H
 obtain ⟨t26, A0_, H⟩ := H
 (try dsimp only at H)
 have FA27 := Aside0.mk A0_
 clear A0_
 replace H := Option.bind_eq_some_iff.mp H
 obtain ⟨⟨t29, t30⟩, A0_, H⟩ := H
 (try dsimp only at H)
 have FA31 := Aside0.mk A0_
 clear A0_
 replace H := Option.bind_eq_some_iff.mp H
 obtain ⟨t33, A0_, H⟩ := H
 (try dsimp only at H)
 have FA34 := Aside0.mk A0_
 clear A0_
 by_cases c90 : t33 = true
 rotate_left
 · rw [if_neg c90] at H
   exact absurd H (by simp)
 subst c90
 rw [if_pos rfl] at H
 by_cases c91 : t30 = t17
 rotate_left
 · rw [if_neg c91] at H
   exact absurd H (by simp)
 rw [if_pos c91] at H
 have c91b0 : (t30 == t17) = true := beq_iff_eq.mpr c91
 have c91b1 : (t30 != t17) = false := bne_eq_false_iff_eq.mpr c91
 clear c91
 replace H := Option.bind_eq_some_iff.mp H
 obtain ⟨t35, A0_, H⟩ := H
 (try dsimp only at H)
 have FA36 := Aside0.mk A0_
 clear A0_
 replace H := Option.bind_eq_some_iff.mp H
 obtain ⟨t38, A0_, H⟩ := H
 (try dsimp only at H)
 have FA39 := Aside0.mk A0_
 clear A0_
 by_cases c92 : t38 = true
 rotate_left
 · rw [if_neg c92] at H
   exact absurd H (by simp)
 subst c92
 rw [if_pos rfl] at H
 replace H := Option.bind_eq_some_iff.mp H
 obtain ⟨t40, A0_, H⟩ := H
 (try dsimp only at H)
 have FA41 := Aside0.mk A0_
 clear A0_
 replace H := Option.bind_eq_some_iff.mp H
 obtain ⟨t43, A0_, H⟩ := H
 (try dsimp only at H)
 have FA44 := Aside0.mk A0_
 clear A0_
 by_cases c93 : t43 = true
 rotate_left
 · rw [if_neg c93] at H
   exact absurd H (by simp)
 subst c93
 rw [if_pos rfl] at H
 replace H := Option.bind_eq_some_iff.mp H
 obtain ⟨t45, A0_, H⟩ := H
 (try dsimp only at H)
 have FA46 := Aside0.mk A0_
 clear A0_
 replace H := Option.bind_eq_some_iff.mp H
 obtain ⟨t48, A0_, H⟩ := H
 (try dsimp only at H)
 have FA49 := Aside0.mk A0_
 clear A0_
 by_cases c94 : t48 = true
 rotate_left
 · rw [if_neg c94] at H
   exact absurd H (by simp)
 subst c94
 rw [if_pos rfl] at H
 replace H := Option.bind_eq_some_iff.mp H
 obtain ⟨⟨t50, t51⟩, A0_, H⟩ := H
 (try dsimp only at H)
 have FA52 := Aside0.mk A0_
 clear A0_
 replace H := Option.bind_eq_some_iff.mp H
 obtain ⟨⟨t54, t55⟩, A0_, H⟩ := H
 (try dsimp only at H)
 have FA56 := Aside0.mk A0_
 clear A0_
 replace H := Option.bind_eq_some_iff.mp H
 obtain ⟨⟨t58, t59⟩, A0_, H⟩ := H
 (try dsimp only at H)
 have FA60 := Aside0.mk A0_
 clear A0_
 by_cases c95 : t58 < 0
 · rw [if_pos c95] at H
   exact absurd H (by simp)
 rw [if_neg c95] at H
 have c95b0 : decide (t58 < 0) = false := decide_eq_false c95
 clear c95
 replace H := Option.bind_eq_some_iff.mp H
 obtain ⟨t62, A0_, H⟩ := H
 (try dsimp only at H)
 have FA63 := Aside0.mk A0_
 clear A0_
 by_cases c96 : t62 = true
 rotate_left
 · rw [if_neg c96] at H
   exact absurd H (by simp)
 subst c96
 rw [if_pos rfl] at H
 by_cases c97 : t30 = t17
 rotate_left
 · rw [if_neg c97] at H
   exact absurd H (by simp)
 rw [if_pos c97] at H
 have c97b0 : (t30 == t17) = true := beq_iff_eq.mpr c97
 have c97b1 : (t30 != t17) = false := bne_eq_false_iff_eq.mpr c97
 clear c97
 replace H := Option.bind_eq_some_iff.mp H
 obtain ⟨⟨t64, t65⟩, A0_, H⟩ := H
 (try dsimp only at H)
 have FA66 := Aside0.mk A0_
 clear A0_
 replace H := Option.bind_eq_some_iff.mp H
 obtain ⟨t68, A0_, H⟩ := H
 (try dsimp only at H)
 have FA69 := Aside0.mk A0_
 clear A0_
 by_cases c98 : t68 < 0
 · rw [if_pos c98] at H
   exact absurd H (by simp)
 rw [if_neg c98] at H
 have c98b0 : decide (t68 < 0) = false := decide_eq_false c98
 clear c98
 by_cases c99 : t68 = t64
 rotate_left
 · rw [if_neg c99] at H
   exact absurd H (by simp)
 rw [if_pos c99] at H
 have c99b0 : (t68 == t64) = true := beq_iff_eq.mpr c99
 have c99b1 : (t68 != t64) = false := bne_eq_false_iff_eq.mpr c99
 clear c99
 replace H := Option.bind_eq_some_iff.mp H
 obtain ⟨t70, A0_, H⟩ := H
 (try dsimp only at H)
 have FA71 := Aside0.mk A0_
 clear A0_
 replace H := Option.bind_eq_some_iff.mp H
 obtain ⟨t73, A0_, H⟩ := H
 (try dsimp only at H)
 have FA74 := Aside0.mk A0_
 clear A0_
 replace H := Option.bind_eq_some_iff.mp H
 obtain ⟨t76, A0_, H⟩ := H
 (try dsimp only at H)
 have FA77 := Aside0.mk A0_
 clear A0_
 replace H := Option.bind_eq_some_iff.mp H
 obtain ⟨⟨t79, t80⟩, A0_, H⟩ := H
 (try dsimp only at H)
 have FA81 := Aside0.mk A0_
 clear A0_
 replace H := Option.bind_eq_some_iff.mp H
 obtain ⟨t83, A0_, H⟩ := H
 (try dsimp only at H)
 have FA84 := Aside0.mk A0_
 clear A0_
 by_cases c100 : t83 = true
 rotate_left
 · rw [if_neg c100] at H
   exact absurd H (by simp)
 subst c100
 rw [if_pos rfl] at H
 by_cases c101 : t80 = t17
 rotate_left
 · rw [if_neg c101] at H
   exact absurd H (by simp)
 rw [if_pos c101] at H
 have c101b0 : (t80 == t17) = true := beq_iff_eq.mpr c101
 have c101b1 : (t80 != t17) = false := bne_eq_false_iff_eq.mpr c101
 clear c101
 replace H := Option.bind_eq_some_iff.mp H
 obtain ⟨t85, A0_, H⟩ := H
 (try dsimp only at H)
 have FA86 := Aside0.mk A0_
 clear A0_
 by_cases c102 : t85 < 0
 · rw [if_pos c102] at H
   exact absurd H (by simp)
 rw [if_neg c102] at H
 have c102b0 : decide (t85 < 0) = false := decide_eq_false c102
 clear c102
 by_cases c103 : t85 = t64
 rotate_left
 · rw [if_neg c103] at H
   exact absurd H (by simp)
 rw [if_pos c103] at H
 have c103b0 : (t85 == t64) = true := beq_iff_eq.mpr c103
 have c103b1 : (t85 != t64) = false := bne_eq_false_iff_eq.mpr c103
 clear c103
 obtain rfl := Option.some.inj H
 go_enter Try.func6, Try.ntmps6
 go_wp2_with (first | ((with_reducible refine gate_callee (f := 13) rfl ?_); refine gL_ (some 22) Try.func13 #[.slice A0 l0.length c0, .int .i64 1048576] ?_; (with_reducible refine (laws_szResS.calls k A0 c0 l0 1048576 t1 _ ?side1 ?side2 FA2.out).mono ?_); (case side1 => exact cC_ (Kd.C_below HR0.out HB.out)); (case side2 => exact HC0.out); rintro e w_1 ⟨rfl, hb_⟩; refine ⟨_, rfl, ?_⟩; have n0_ : Aside0 (w.heap.size ≤ w_1.heap.size) := ⟨Nat.le_trans (below_size bR_) (below_size hb_)⟩; have m0_ := Aside0.mk (below_step bB_ hb_); clear HB; have HZ1 := n0_; have HB := m0_; clear n0_ m0_; (try clear hb_); (try clear hk_); (try clear hw_); (try clear hg_); (try clear hbox_); (try clear ho0_)) | ((with_reducible refine gate_callee (f := 14) rfl ?_); refine gL_ (some 27) Try.func14 #[.slice A1 l1.length c1, .int .i64 t1] ?_; (with_reducible refine (laws_szStringS.calls k A1 c1 l1 t1 t3 _ ?side1 ?side2 FA4.out).mono ?_); (case side1 => exact cC_ (Kd.C_below HR1.out HB.out)); (case side2 => exact HC1.out); rintro e w_2 ⟨rfl, ⟨nd_, hw_⟩⟩; refine ⟨_, rfl, ?_⟩; have hb_ := below_drawn_FnExactPatch hw_; clear hw_; have n0_ : Aside0 (w_1.heap.size ≤ w_2.heap.size) := ⟨Nat.le_trans (below_size bR_) (below_size hb_)⟩; have m0_ := Aside0.mk (below_step bB_ hb_); clear HB; have HZ2 := n0_; have HB := m0_; clear n0_ m0_; (try clear hb_); (try clear hk_); (try clear hw_); (try clear hg_); (try clear hbox_); (try clear ho0_)) | ((with_reducible refine gate_callee (f := 28) rfl ?_); refine gL_ (some 32) Try.func28 #[.slice A2 l2.length c2, .int .i64 t3] ?_; (with_reducible refine (laws_szSetS.calls k A2 c2 l2 t3 t5 _ ?side1 ?side2 FA6.out).mono ?_); (case side1 => exact cC_ (Kd.C_below HR2.out HB.out)); (case side2 => exact HC2.out); rintro e w_3 ⟨rfl, hb_⟩; refine ⟨_, rfl, ?_⟩; have n0_ : Aside0 (w_2.heap.size ≤ w_3.heap.size) := ⟨Nat.le_trans (below_size bR_) (below_size hb_)⟩; have m0_ := Aside0.mk (below_step bB_ hb_); clear HB; have HZ3 := n0_; have HB := m0_; clear n0_ m0_; (try clear hb_); (try clear hk_); (try clear hw_); (try clear hg_); (try clear hbox_); (try clear ho0_)) | ((with_reducible refine gate_callee (f := 16) rfl ?_); refine gL_ (some 37) Try.func16 #[.slice A0 l0.length c0] ?_; (with_reducible refine (laws_toResS.calls k A0 c0 l0 t7 _ ?side1 ?side2 FA8.out).mono ?_); (case side1 => exact cC_ (Kd.C_below HR0.out HB.out)); (case side2 => exact HC0.out); rintro e w_4 ⟨v104, rfl, ho0_, hb_⟩; refine ⟨_, rfl, ?_⟩; have n0_ : Aside0 (w_3.heap.size ≤ w_4.heap.size) := ⟨Nat.le_trans (below_size bR_) (below_size hb_)⟩; have m0_ := Aside0.mk (below_step bB_ hb_); have m1_ := Aside0.mk (show Kd.S k57 57 w_4 w.heap.size (fun k_ => w_3.heap.size ≤ k_ ∧ k_ < w_4.heap.size) v104 t7 from Kd.S_mono (Kd.S_lower (Kd.S_bound ho0_) (below_size bB_)) (fun k_ h_ => ⟨Nat.le_trans (below_size bR_) h_.2.1, h_.2.2.1⟩)); clear HB; have HZ4 := n0_; have HB := m0_; have HO9 := m1_; clear n0_ m0_ m1_; (try clear hb_); (try clear hk_); (try clear hw_); (try clear hg_); (try clear hbox_); (try clear ho0_); (try clear ho1_); obtain ⟨Ao9, co9, eo_⟩ := Kd.S_slice HO9.out; subst eo_) | ((with_reducible refine gate_callee (f := 17) rfl ?_); refine gL_ (some 39) Try.func17 #[.slice A1 l1.length c1] ?_; (with_reducible refine (laws_toStringS.calls k A1 c1 l1 t10 _ ?side1 ?side2 FA11.out).mono ?_); (case side1 => exact cC_ (Kd.C_below HR1.out HB.out)); (case side2 => exact HC1.out); rintro e w_5 ⟨v105, rfl, ho0_, hb_⟩; refine ⟨_, rfl, ?_⟩; have n0_ : Aside0 (w_4.heap.size ≤ w_5.heap.size) := ⟨Nat.le_trans (below_size bR_) (below_size hb_)⟩; have m0_ := Aside0.mk (Kd.S_below (vS_ HO9.out) hb_); have m1_ := Aside0.mk (below_step bB_ hb_); have m2_ := Aside0.mk (show Kd.R Kd.string 9 w_5 w.heap.size (fun k_ => w_4.heap.size ≤ k_ ∧ k_ < w_5.heap.size) v105 t10 from Kd.R_mono (Kd.R_lower (Kd.R_bound ho0_) (below_size bB_)) (fun k_ h_ => ⟨Nat.le_trans (below_size bR_) h_.2.1, h_.2.2.1⟩)); clear HO9 HB; have HZ5 := n0_; have HO9 := m0_; have HB := m1_; have HO12 := m2_; clear n0_ m0_ m1_ m2_; (try clear hb_); (try clear hk_); (try clear hw_); (try clear hg_); (try clear hbox_); (try clear ho0_); (try clear ho1_); obtain ⟨Ao12, co12, eo_⟩ := Kd.R_slice HO12.out; subst eo_) | ((with_reducible refine gate_callee (f := 30) rfl ?_); refine gL_ (some 41) Try.func30 #[.slice A2 l2.length c2] ?_; (with_reducible refine (laws_toSetS.calls k A2 c2 l2 t13 _ ?side1 ?side2 FA14.out).mono ?_); (case side1 => exact cC_ (Kd.C_below HR2.out HB.out)); (case side2 => exact HC2.out); rintro e w_6 ⟨v106, rfl, ho0_, hb_⟩; refine ⟨_, rfl, ?_⟩; have n0_ : Aside0 (w_5.heap.size ≤ w_6.heap.size) := ⟨Nat.le_trans (below_size bR_) (below_size hb_)⟩; have m0_ := Aside0.mk (Kd.S_below (vS_ HO9.out) hb_); have m1_ := Aside0.mk (Kd.R_below (vR_ HO12.out) hb_); have m2_ := Aside0.mk (below_step bB_ hb_); have m3_ := Aside0.mk (show Kd.R k74 74 w_6 w.heap.size (fun k_ => w_5.heap.size ≤ k_ ∧ k_ < w_6.heap.size) v106 t13 from Kd.R_mono (Kd.R_lower (Kd.R_bound ho0_) (below_size bB_)) (fun k_ h_ => ⟨Nat.le_trans (below_size bR_) h_.2.1, h_.2.2.1⟩)); clear HO9 HO12 HB; have HZ6 := n0_; have HO9 := m0_; have HO12 := m1_; have HB := m2_; have HO15 := m3_; clear n0_ m0_ m1_ m2_ m3_; (try clear hb_); (try clear hk_); (try clear hw_); (try clear hg_); (try clear hbox_); (try clear ho0_); (try clear ho1_); obtain ⟨Ao15, co15, eo_⟩ := Kd.R_slice HO15.out; subst eo_) | ((with_reducible refine gate_callee (f := 29) rfl ?_); refine gL_ (some 42) Try.func29 #[.slice Ao9 t7.length co9, .slice Ao12 t10.length co12, .slice Ao15 t13.length co15] ?_; (with_reducible refine (spec_Patch.calls k Ao9 co9 t7 Ao12 co12 t10 Ao15 co15 t13 t16 t17 _ ?side1 ?side2 ?side3 ?side4 ?side5 ?side6 FA18.out).mono ?_); (case side1 => exact cC_ (Kd.S_reads' HO9.out).2.2); (case side2 => exact (Kd.S_reads' HO9.out).2.1); (case side3 => exact cC_ (Kd.R_reads' HO12.out).2.2); (case side4 => exact (Kd.R_reads' HO12.out).2.1); (case side5 => exact cC_ (Kd.R_reads' HO15.out).2.2); (case side6 => exact (Kd.R_reads' HO15.out).2.1); rintro e w_7 ⟨v107, rfl, ho0_, hb_⟩; refine ⟨_, rfl, ?_⟩; have n0_ : Aside0 (w_6.heap.size ≤ w_7.heap.size) := ⟨Nat.le_trans (below_size bR_) (below_size hb_)⟩; have m0_ := Aside0.mk (Kd.S_below (vS_ HO9.out) hb_); have m1_ := Aside0.mk (Kd.R_below (vR_ HO12.out) hb_); have m2_ := Aside0.mk (Kd.R_below (vR_ HO15.out) hb_); have m3_ := Aside0.mk (below_step bB_ hb_); have m4_ := Aside0.mk (show Kd.S k57 57 w_7 w.heap.size (fun k_ => w_6.heap.size ≤ k_ ∧ k_ < w_7.heap.size) v107 t16 from Kd.S_mono (Kd.S_lower (Kd.S_bound ho0_) (below_size bB_)) (fun k_ h_ => ⟨Nat.le_trans (below_size bR_) h_.2.1, h_.2.2.1⟩)); clear HO9 HO12 HO15 HB; have HZ7 := n0_; have HO9 := m0_; have HO12 := m1_; have HO15 := m2_; have HB := m3_; have HO19 := m4_; clear n0_ m0_ m1_ m2_ m3_ m4_; (try clear hb_); (try clear hk_); (try clear hw_); (try clear hg_); (try clear hbox_); (try clear ho0_); (try clear ho1_); obtain ⟨Ao19, co19, eo_⟩ := Kd.S_slice HO19.out; subst eo_) | ((with_reducible refine gate_callee (f := 16) rfl ?_); refine gL_ (some 46) Try.func16 #[.slice A0 l0.length c0] ?_; (with_reducible refine (laws_toResS.calls k A0 c0 l0 t20 _ ?side1 ?side2 FA21.out).mono ?_); (case side1 => exact cC_ (Kd.C_below HR0.out HB.out)); (case side2 => exact HC0.out); rintro e w_8 ⟨v108, rfl, ho0_, hb_⟩; refine ⟨_, rfl, ?_⟩; have n0_ : Aside0 (w_7.heap.size ≤ w_8.heap.size) := ⟨Nat.le_trans (below_size bR_) (below_size hb_)⟩; have m0_ := Aside0.mk (Kd.S_below (vS_ HO19.out) hb_); have m1_ := Aside0.mk (below_step bB_ hb_); have m2_ := Aside0.mk (show Kd.S k57 57 w_8 w.heap.size (fun k_ => w_7.heap.size ≤ k_ ∧ k_ < w_8.heap.size) v108 t20 from Kd.S_mono (Kd.S_lower (Kd.S_bound ho0_) (below_size bB_)) (fun k_ h_ => ⟨Nat.le_trans (below_size bR_) h_.2.1, h_.2.2.1⟩)); clear HO19 HB; have HZ8 := n0_; have HO19 := m0_; have HB := m1_; have HO22 := m2_; clear n0_ m0_ m1_ m2_; (try clear hb_); (try clear hk_); (try clear hw_); (try clear hg_); (try clear hbox_); (try clear ho0_); (try clear ho1_); obtain ⟨Ao22, co22, eo_⟩ := Kd.S_slice HO22.out; subst eo_) | ((with_reducible refine gate_callee (f := 17) rfl ?_); refine gL_ (some 48) Try.func17 #[.slice A1 l1.length c1] ?_; (with_reducible refine (laws_toStringS.calls k A1 c1 l1 t23 _ ?side1 ?side2 FA24.out).mono ?_); (case side1 => exact cC_ (Kd.C_below HR1.out HB.out)); (case side2 => exact HC1.out); rintro e w_9 ⟨v109, rfl, ho0_, hb_⟩; refine ⟨_, rfl, ?_⟩; have n0_ : Aside0 (w_8.heap.size ≤ w_9.heap.size) := ⟨Nat.le_trans (below_size bR_) (below_size hb_)⟩; have m0_ := Aside0.mk (Kd.S_below (vS_ HO19.out) hb_); have m1_ := Aside0.mk (Kd.S_below (vS_ HO22.out) hb_); have m2_ := Aside0.mk (below_step bB_ hb_); have m3_ := Aside0.mk (show Kd.R Kd.string 9 w_9 w.heap.size (fun k_ => w_8.heap.size ≤ k_ ∧ k_ < w_9.heap.size) v109 t23 from Kd.R_mono (Kd.R_lower (Kd.R_bound ho0_) (below_size bB_)) (fun k_ h_ => ⟨Nat.le_trans (below_size bR_) h_.2.1, h_.2.2.1⟩)); clear HO19 HO22 HB; have HZ9 := n0_; have HO19 := m0_; have HO22 := m1_; have HB := m2_; have HO25 := m3_; clear n0_ m0_ m1_ m2_ m3_; (try clear hb_); (try clear hk_); (try clear hw_); (try clear hg_); (try clear hbox_); (try clear ho0_); (try clear ho1_); obtain ⟨Ao25, co25, eo_⟩ := Kd.R_slice HO25.out; subst eo_) | ((with_reducible refine gate_callee (f := 30) rfl ?_); refine gL_ (some 50) Try.func30 #[.slice A2 l2.length c2] ?_; (with_reducible refine (laws_toSetS.calls k A2 c2 l2 t26 _ ?side1 ?side2 FA27.out).mono ?_); (case side1 => exact cC_ (Kd.C_below HR2.out HB.out)); (case side2 => exact HC2.out); rintro e w_10 ⟨v110, rfl, ho0_, hb_⟩; refine ⟨_, rfl, ?_⟩; have n0_ : Aside0 (w_9.heap.size ≤ w_10.heap.size) := ⟨Nat.le_trans (below_size bR_) (below_size hb_)⟩; have m0_ := Aside0.mk (Kd.S_below (vS_ HO19.out) hb_); have m1_ := Aside0.mk (Kd.S_below (vS_ HO22.out) hb_); have m2_ := Aside0.mk (Kd.R_below (vR_ HO25.out) hb_); have m3_ := Aside0.mk (below_step bB_ hb_); have m4_ := Aside0.mk (show Kd.R k74 74 w_10 w.heap.size (fun k_ => w_9.heap.size ≤ k_ ∧ k_ < w_10.heap.size) v110 t26 from Kd.R_mono (Kd.R_lower (Kd.R_bound ho0_) (below_size bB_)) (fun k_ h_ => ⟨Nat.le_trans (below_size bR_) h_.2.1, h_.2.2.1⟩)); clear HO19 HO22 HO25 HB; have HZ10 := n0_; have HO19 := m0_; have HO22 := m1_; have HO25 := m2_; have HB := m3_; have HO28 := m4_; clear n0_ m0_ m1_ m2_ m3_ m4_; (try clear hb_); (try clear hk_); (try clear hw_); (try clear hg_); (try clear hbox_); (try clear ho0_); (try clear ho1_); obtain ⟨Ao28, co28, eo_⟩ := Kd.R_slice HO28.out; subst eo_) | ((with_reducible refine gate_callee (f := 31) rfl ?_); refine gL_ (some 55) Try.func31 #[.slice Ao22 t20.length co22, .slice Ao25 t23.length co25, .slice Ao28 t26.length co28] ?_; (with_reducible refine (impl_Patch.calls k Ao22 co22 t20 Ao25 co25 t23 Ao28 co28 t26 t29 t30 _ ?side1 ?side2 ?side3 ?side4 ?side5 ?side6 FA31.out).mono ?_); (case side1 => exact cC_ (Kd.S_reads' HO22.out).2.2); (case side2 => exact (Kd.S_reads' HO22.out).2.1); (case side3 => exact cC_ (Kd.R_reads' HO25.out).2.2); (case side4 => exact (Kd.R_reads' HO25.out).2.1); (case side5 => exact cC_ (Kd.R_reads' HO28.out).2.2); (case side6 => exact (Kd.R_reads' HO28.out).2.1); rintro e w_11 ⟨v111, rfl, ho0_, hb_⟩; refine ⟨_, rfl, ?_⟩; have n0_ : Aside0 (w_10.heap.size ≤ w_11.heap.size) := ⟨Nat.le_trans (below_size bR_) (below_size hb_)⟩; have m0_ := Aside0.mk (Kd.S_below (vS_ HO19.out) hb_); have m1_ := Aside0.mk (Kd.S_below (vS_ HO22.out) hb_); have m2_ := Aside0.mk (Kd.R_below (vR_ HO25.out) hb_); have m3_ := Aside0.mk (Kd.R_below (vR_ HO28.out) hb_); have m4_ := Aside0.mk (below_step bB_ hb_); have m5_ := Aside0.mk (show Kd.S k57 57 w_11 w.heap.size (fun k_ => w_10.heap.size ≤ k_ ∧ k_ < w_11.heap.size) v111 t29 from Kd.S_mono (Kd.S_lower (Kd.S_bound ho0_) (below_size bB_)) (fun k_ h_ => ⟨Nat.le_trans (below_size bR_) h_.2.1, h_.2.2.1⟩)); clear HO19 HO22 HO25 HO28 HB; have HZ11 := n0_; have HO19 := m0_; have HO22 := m1_; have HO25 := m2_; have HO28 := m3_; have HB := m4_; have HO32 := m5_; clear n0_ m0_ m1_ m2_ m3_ m4_ m5_; (try clear hb_); (try clear hk_); (try clear hw_); (try clear hg_); (try clear hbox_); (try clear ho0_); (try clear ho1_); obtain ⟨Ao32, co32, eo_⟩ := Kd.S_slice HO32.out; subst eo_) | ((with_reducible refine gate_callee (f := 19) rfl ?_); refine gL_ (some 60) Try.func19 #[.slice Ao32 t29.length co32, .slice Ao19 t16.length co19] ?_; (with_reducible refine (laws_eqResS.calls k Ao32 co32 t29 Ao19 co19 t16 true _ ?side1 ?side2 ?side3 ?side4 FA34.out).mono ?_); (case side1 => exact cC_ (Kd.S_reads' HO32.out).2.2); (case side2 => exact (Kd.S_reads' HO32.out).2.1); (case side3 => exact cC_ (Kd.S_reads' HO19.out).2.2); (case side4 => exact (Kd.S_reads' HO19.out).2.1); rintro e w_12 ⟨rfl, hb_⟩; refine ⟨_, rfl, ?_⟩; have n0_ : Aside0 (w_11.heap.size ≤ w_12.heap.size) := ⟨Nat.le_trans (below_size bR_) (below_size hb_)⟩; have m0_ := Aside0.mk (Kd.S_below (vS_ HO19.out) hb_); have m1_ := Aside0.mk (Kd.S_below (vS_ HO22.out) hb_); have m2_ := Aside0.mk (Kd.R_below (vR_ HO25.out) hb_); have m3_ := Aside0.mk (Kd.R_below (vR_ HO28.out) hb_); have m4_ := Aside0.mk (Kd.S_below (vS_ HO32.out) hb_); have m5_ := Aside0.mk (below_step bB_ hb_); clear HO19 HO22 HO25 HO28 HO32 HB; have HZ12 := n0_; have HO19 := m0_; have HO22 := m1_; have HO25 := m2_; have HO28 := m3_; have HO32 := m4_; have HB := m5_; clear n0_ m0_ m1_ m2_ m3_ m4_ m5_; (try clear hb_); (try clear hk_); (try clear hw_); (try clear hg_); (try clear hbox_); (try clear ho0_)) | ((with_reducible refine gate_callee (f := 16) rfl ?_); refine gL_ (some 69) Try.func16 #[.slice A0 l0.length c0] ?_; (with_reducible refine (laws_toResS.calls k A0 c0 l0 t35 _ ?side1 ?side2 FA36.out).mono ?_); (case side1 => exact cC_ (Kd.C_below HR0.out HB.out)); (case side2 => exact HC0.out); rintro e w_13 ⟨v112, rfl, ho0_, hb_⟩; refine ⟨_, rfl, ?_⟩; have n0_ : Aside0 (w_12.heap.size ≤ w_13.heap.size) := ⟨Nat.le_trans (below_size bR_) (below_size hb_)⟩; have m0_ := Aside0.mk (Kd.S_below (vS_ HO19.out) hb_); have m1_ := Aside0.mk (Kd.S_below (vS_ HO22.out) hb_); have m2_ := Aside0.mk (Kd.R_below (vR_ HO25.out) hb_); have m3_ := Aside0.mk (Kd.R_below (vR_ HO28.out) hb_); have m4_ := Aside0.mk (Kd.S_below (vS_ HO32.out) hb_); have m5_ := Aside0.mk (below_step bB_ hb_); have m6_ := Aside0.mk (show Kd.S k57 57 w_13 w.heap.size (fun k_ => w_12.heap.size ≤ k_ ∧ k_ < w_13.heap.size) v112 t35 from Kd.S_mono (Kd.S_lower (Kd.S_bound ho0_) (below_size bB_)) (fun k_ h_ => ⟨Nat.le_trans (below_size bR_) h_.2.1, h_.2.2.1⟩)); clear HO19 HO22 HO25 HO28 HO32 HB; have HZ13 := n0_; have HO19 := m0_; have HO22 := m1_; have HO25 := m2_; have HO28 := m3_; have HO32 := m4_; have HB := m5_; have HO37 := m6_; clear n0_ m0_ m1_ m2_ m3_ m4_ m5_ m6_; (try clear hb_); (try clear hk_); (try clear hw_); (try clear hg_); (try clear hbox_); (try clear ho0_); (try clear ho1_); obtain ⟨Ao37, co37, eo_⟩ := Kd.S_slice HO37.out; subst eo_) | ((with_reducible refine gate_callee (f := 19) rfl ?_); refine gL_ (some 70) Try.func19 #[.slice Ao22 t20.length co22, .slice Ao37 t35.length co37] ?_; (with_reducible refine (laws_eqResS.calls k Ao22 co22 t20 Ao37 co37 t35 true _ ?side1 ?side2 ?side3 ?side4 FA39.out).mono ?_); (case side1 => exact cC_ (Kd.S_reads' HO22.out).2.2); (case side2 => exact (Kd.S_reads' HO22.out).2.1); (case side3 => exact cC_ (Kd.S_reads' HO37.out).2.2); (case side4 => exact (Kd.S_reads' HO37.out).2.1); rintro e w_14 ⟨rfl, hb_⟩; refine ⟨_, rfl, ?_⟩; have n0_ : Aside0 (w_13.heap.size ≤ w_14.heap.size) := ⟨Nat.le_trans (below_size bR_) (below_size hb_)⟩; have m0_ := Aside0.mk (Kd.S_below (vS_ HO19.out) hb_); have m1_ := Aside0.mk (Kd.S_below (vS_ HO22.out) hb_); have m2_ := Aside0.mk (Kd.R_below (vR_ HO25.out) hb_); have m3_ := Aside0.mk (Kd.R_below (vR_ HO28.out) hb_); have m4_ := Aside0.mk (Kd.S_below (vS_ HO32.out) hb_); have m5_ := Aside0.mk (Kd.S_below (vS_ HO37.out) hb_); have m6_ := Aside0.mk (below_step bB_ hb_); clear HO19 HO22 HO25 HO28 HO32 HO37 HB; have HZ14 := n0_; have HO19 := m0_; have HO22 := m1_; have HO25 := m2_; have HO28 := m3_; have HO32 := m4_; have HO37 := m5_; have HB := m6_; clear n0_ m0_ m1_ m2_ m3_ m4_ m5_ m6_; (try clear hb_); (try clear hk_); (try clear hw_); (try clear hg_); (try clear hbox_); (try clear ho0_)) | ((with_reducible refine gate_callee (f := 17) rfl ?_); refine gL_ (some 74) Try.func17 #[.slice A1 l1.length c1] ?_; (with_reducible refine (laws_toStringS.calls k A1 c1 l1 t40 _ ?side1 ?side2 FA41.out).mono ?_); (case side1 => exact cC_ (Kd.C_below HR1.out HB.out)); (case side2 => exact HC1.out); rintro e w_15 ⟨v113, rfl, ho0_, hb_⟩; refine ⟨_, rfl, ?_⟩; have n0_ : Aside0 (w_14.heap.size ≤ w_15.heap.size) := ⟨Nat.le_trans (below_size bR_) (below_size hb_)⟩; have m0_ := Aside0.mk (Kd.S_below (vS_ HO19.out) hb_); have m1_ := Aside0.mk (Kd.S_below (vS_ HO22.out) hb_); have m2_ := Aside0.mk (Kd.R_below (vR_ HO25.out) hb_); have m3_ := Aside0.mk (Kd.R_below (vR_ HO28.out) hb_); have m4_ := Aside0.mk (Kd.S_below (vS_ HO32.out) hb_); have m5_ := Aside0.mk (below_step bB_ hb_); have m6_ := Aside0.mk (show Kd.R Kd.string 9 w_15 w.heap.size (fun k_ => w_14.heap.size ≤ k_ ∧ k_ < w_15.heap.size) v113 t40 from Kd.R_mono (Kd.R_lower (Kd.R_bound ho0_) (below_size bB_)) (fun k_ h_ => ⟨Nat.le_trans (below_size bR_) h_.2.1, h_.2.2.1⟩)); clear HO19 HO22 HO25 HO28 HO32 HB; have HZ15 := n0_; have HO19 := m0_; have HO22 := m1_; have HO25 := m2_; have HO28 := m3_; have HO32 := m4_; have HB := m5_; have HO42 := m6_; clear n0_ m0_ m1_ m2_ m3_ m4_ m5_ m6_; (try clear hb_); (try clear hk_); (try clear hw_); (try clear hg_); (try clear hbox_); (try clear ho0_); (try clear ho1_); obtain ⟨Ao42, co42, eo_⟩ := Kd.R_slice HO42.out; subst eo_) | ((with_reducible refine gate_callee (f := 20) rfl ?_); refine gL_ (some 75) Try.func20 #[.slice Ao25 t23.length co25, .slice Ao42 t40.length co42] ?_; (with_reducible refine (laws_eqStringS.calls k Ao25 co25 t23 Ao42 co42 t40 true _ ?side1 ?side2 ?side3 ?side4 FA44.out).mono ?_); (case side1 => exact cC_ (Kd.R_reads' HO25.out).2.2); (case side2 => exact (Kd.R_reads' HO25.out).2.1); (case side3 => exact cC_ (Kd.R_reads' HO42.out).2.2); (case side4 => exact (Kd.R_reads' HO42.out).2.1); rintro e w_16 ⟨rfl, ⟨nd_, hw_⟩⟩; refine ⟨_, rfl, ?_⟩; have hb_ := below_drawn_FnExactPatch hw_; clear hw_; have n0_ : Aside0 (w_15.heap.size ≤ w_16.heap.size) := ⟨Nat.le_trans (below_size bR_) (below_size hb_)⟩; have m0_ := Aside0.mk (Kd.S_below (vS_ HO19.out) hb_); have m1_ := Aside0.mk (Kd.S_below (vS_ HO22.out) hb_); have m2_ := Aside0.mk (Kd.R_below (vR_ HO25.out) hb_); have m3_ := Aside0.mk (Kd.R_below (vR_ HO28.out) hb_); have m4_ := Aside0.mk (Kd.S_below (vS_ HO32.out) hb_); have m5_ := Aside0.mk (Kd.R_below (vR_ HO42.out) hb_); have m6_ := Aside0.mk (below_step bB_ hb_); clear HO19 HO22 HO25 HO28 HO32 HO42 HB; have HZ16 := n0_; have HO19 := m0_; have HO22 := m1_; have HO25 := m2_; have HO28 := m3_; have HO32 := m4_; have HO42 := m5_; have HB := m6_; clear n0_ m0_ m1_ m2_ m3_ m4_ m5_ m6_; (try clear hb_); (try clear hk_); (try clear hw_); (try clear hg_); (try clear hbox_); (try clear ho0_)) | ((with_reducible refine gate_callee (f := 30) rfl ?_); refine gL_ (some 79) Try.func30 #[.slice A2 l2.length c2] ?_; (with_reducible refine (laws_toSetS.calls k A2 c2 l2 t45 _ ?side1 ?side2 FA46.out).mono ?_); (case side1 => exact cC_ (Kd.C_below HR2.out HB.out)); (case side2 => exact HC2.out); rintro e w_17 ⟨v114, rfl, ho0_, hb_⟩; refine ⟨_, rfl, ?_⟩; have n0_ : Aside0 (w_16.heap.size ≤ w_17.heap.size) := ⟨Nat.le_trans (below_size bR_) (below_size hb_)⟩; have m0_ := Aside0.mk (Kd.S_below (vS_ HO19.out) hb_); have m1_ := Aside0.mk (Kd.S_below (vS_ HO22.out) hb_); have m2_ := Aside0.mk (Kd.R_below (vR_ HO25.out) hb_); have m3_ := Aside0.mk (Kd.R_below (vR_ HO28.out) hb_); have m4_ := Aside0.mk (Kd.S_below (vS_ HO32.out) hb_); have m5_ := Aside0.mk (below_step bB_ hb_); have m6_ := Aside0.mk (show Kd.R k74 74 w_17 w.heap.size (fun k_ => w_16.heap.size ≤ k_ ∧ k_ < w_17.heap.size) v114 t45 from Kd.R_mono (Kd.R_lower (Kd.R_bound ho0_) (below_size bB_)) (fun k_ h_ => ⟨Nat.le_trans (below_size bR_) h_.2.1, h_.2.2.1⟩)); clear HO19 HO22 HO25 HO28 HO32 HB; have HZ17 := n0_; have HO19 := m0_; have HO22 := m1_; have HO25 := m2_; have HO28 := m3_; have HO32 := m4_; have HB := m5_; have HO47 := m6_; clear n0_ m0_ m1_ m2_ m3_ m4_ m5_ m6_; (try clear hb_); (try clear hk_); (try clear hw_); (try clear hg_); (try clear hbox_); (try clear ho0_); (try clear ho1_); obtain ⟨Ao47, co47, eo_⟩ := Kd.R_slice HO47.out; subst eo_) | ((with_reducible refine gate_callee (f := 32) rfl ?_); refine gL_ (some 80) Try.func32 #[.slice Ao28 t26.length co28, .slice Ao47 t45.length co47] ?_; (with_reducible refine (laws_eqSetS.calls k Ao28 co28 t26 Ao47 co47 t45 true _ ?side1 ?side2 ?side3 ?side4 FA49.out).mono ?_); (case side1 => exact cC_ (Kd.R_reads' HO28.out).2.2); (case side2 => exact (Kd.R_reads' HO28.out).2.1); (case side3 => exact cC_ (Kd.R_reads' HO47.out).2.2); (case side4 => exact (Kd.R_reads' HO47.out).2.1); rintro e w_18 ⟨rfl, hb_⟩; refine ⟨_, rfl, ?_⟩; have n0_ : Aside0 (w_17.heap.size ≤ w_18.heap.size) := ⟨Nat.le_trans (below_size bR_) (below_size hb_)⟩; have m0_ := Aside0.mk (Kd.S_below (vS_ HO19.out) hb_); have m1_ := Aside0.mk (Kd.S_below (vS_ HO22.out) hb_); have m2_ := Aside0.mk (Kd.R_below (vR_ HO25.out) hb_); have m3_ := Aside0.mk (Kd.R_below (vR_ HO28.out) hb_); have m4_ := Aside0.mk (Kd.S_below (vS_ HO32.out) hb_); have m5_ := Aside0.mk (Kd.R_below (vR_ HO47.out) hb_); have m6_ := Aside0.mk (below_step bB_ hb_); clear HO19 HO22 HO25 HO28 HO32 HO47 HB; have HZ18 := n0_; have HO19 := m0_; have HO22 := m1_; have HO25 := m2_; have HO28 := m3_; have HO32 := m4_; have HO47 := m5_; have HB := m6_; clear n0_ m0_ m1_ m2_ m3_ m4_ m5_ m6_; (try clear hb_); (try clear hk_); (try clear hw_); (try clear hg_); (try clear hbox_); (try clear ho0_)) | ((with_reducible refine gate_callee (f := 21) rfl ?_); refine gL_ (some 84) Try.func21 #[(.slice Ao22 t20.length co22), .int .i64 1] ?_; (with_reducible refine (laws_markResS.calls k (fun k_ => w_7.heap.size ≤ k_ ∧ k_ < w_8.heap.size) (.slice Ao22 t20.length co22) t20 1 t50 t51 w _ ?side1 ?side2 FA52.out).mono ?_); (case side1 => exact bB_); (case side2 => exact (vS_ HO22.out)); rintro e w_19 ⟨rfl, ho0_, hb_, hk_⟩; refine ⟨_, rfl, ?_⟩; have n0_ : Aside0 (w_18.heap.size ≤ w_19.heap.size) := ⟨Nat.le_trans (below_size bR_) (hk_.1)⟩; have m0_ := Aside0.mk (Kd.S_step (vS_ HO19.out) (fun k_ h1_ h2_ => hk_.2 k_ h2_ (fun h3_ => by have := HZ1.out; have := HZ2.out; have := HZ3.out; have := HZ4.out; have := HZ5.out; have := HZ6.out; have := HZ7.out; have := HZ8.out; have := HZ9.out; have := HZ10.out; have := HZ11.out; have := HZ12.out; have := HZ13.out; have := HZ14.out; have := HZ15.out; have := HZ16.out; have := HZ17.out; have := HZ18.out; omega))); have m1_ := Aside0.mk (Kd.R_step (vR_ HO25.out) (fun k_ h1_ h2_ => hk_.2 k_ h2_ (fun h3_ => by have := HZ1.out; have := HZ2.out; have := HZ3.out; have := HZ4.out; have := HZ5.out; have := HZ6.out; have := HZ7.out; have := HZ8.out; have := HZ9.out; have := HZ10.out; have := HZ11.out; have := HZ12.out; have := HZ13.out; have := HZ14.out; have := HZ15.out; have := HZ16.out; have := HZ17.out; have := HZ18.out; omega))); have m2_ := Aside0.mk (Kd.R_step (vR_ HO28.out) (fun k_ h1_ h2_ => hk_.2 k_ h2_ (fun h3_ => by have := HZ1.out; have := HZ2.out; have := HZ3.out; have := HZ4.out; have := HZ5.out; have := HZ6.out; have := HZ7.out; have := HZ8.out; have := HZ9.out; have := HZ10.out; have := HZ11.out; have := HZ12.out; have := HZ13.out; have := HZ14.out; have := HZ15.out; have := HZ16.out; have := HZ17.out; have := HZ18.out; omega))); have m3_ := Aside0.mk (Kd.S_step (vS_ HO32.out) (fun k_ h1_ h2_ => hk_.2 k_ h2_ (fun h3_ => by have := HZ1.out; have := HZ2.out; have := HZ3.out; have := HZ4.out; have := HZ5.out; have := HZ6.out; have := HZ7.out; have := HZ8.out; have := HZ9.out; have := HZ10.out; have := HZ11.out; have := HZ12.out; have := HZ13.out; have := HZ14.out; have := HZ15.out; have := HZ16.out; have := HZ17.out; have := HZ18.out; omega))); have m4_ := Aside0.mk (Kd.S_mono ho0_ (fun _ h_ => h_)); have m5_ := Aside0.mk hb_; have m6_ := Aside0.mk (Kd.S_reads' ho0_).1; clear HO19 HO25 HO28 HO32 HO22 HB; have HZ19 := n0_; have HO19 := m0_; have HO25 := m1_; have HO28 := m2_; have HO32 := m3_; have HO22 := m4_; have HB := m5_; have HE53 := m6_; clear n0_ m0_ m1_ m2_ m3_ m4_ m5_ m6_; (try clear hb_); (try clear hk_); (try clear hw_); (try clear hg_); (try clear hbox_); (try clear ho0_); (try clear ho1_); (try clear ho2_)) | ((with_reducible refine gate_callee (f := 22) rfl ?_); refine gL_ (some 87) Try.func22 #[(.slice Ao25 t23.length co25), .int .i64 t50] ?_; (with_reducible refine (laws_markStringS.calls k (fun k_ => w_8.heap.size ≤ k_ ∧ k_ < w_9.heap.size) (.slice Ao25 t23.length co25) t23 t50 t54 t55 w _ ?side1 ?side2 FA56.out).mono ?_); (case side1 => exact bB_); (case side2 => exact (vR_ HO25.out)); rintro e w_20 ⟨rfl, ho0_, hb_, hk_⟩; refine ⟨_, rfl, ?_⟩; have n0_ : Aside0 (w_19.heap.size ≤ w_20.heap.size) := ⟨Nat.le_trans (below_size bR_) (hk_.1)⟩; have m0_ := Aside0.mk (Kd.S_step (vS_ HO19.out) (fun k_ h1_ h2_ => hk_.2 k_ h2_ (fun h3_ => by have := HZ1.out; have := HZ2.out; have := HZ3.out; have := HZ4.out; have := HZ5.out; have := HZ6.out; have := HZ7.out; have := HZ8.out; have := HZ9.out; have := HZ10.out; have := HZ11.out; have := HZ12.out; have := HZ13.out; have := HZ14.out; have := HZ15.out; have := HZ16.out; have := HZ17.out; have := HZ18.out; have := HZ19.out; omega))); have m1_ := Aside0.mk (Kd.R_step (vR_ HO28.out) (fun k_ h1_ h2_ => hk_.2 k_ h2_ (fun h3_ => by have := HZ1.out; have := HZ2.out; have := HZ3.out; have := HZ4.out; have := HZ5.out; have := HZ6.out; have := HZ7.out; have := HZ8.out; have := HZ9.out; have := HZ10.out; have := HZ11.out; have := HZ12.out; have := HZ13.out; have := HZ14.out; have := HZ15.out; have := HZ16.out; have := HZ17.out; have := HZ18.out; have := HZ19.out; omega))); have m2_ := Aside0.mk (Kd.S_step (vS_ HO32.out) (fun k_ h1_ h2_ => hk_.2 k_ h2_ (fun h3_ => by have := HZ1.out; have := HZ2.out; have := HZ3.out; have := HZ4.out; have := HZ5.out; have := HZ6.out; have := HZ7.out; have := HZ8.out; have := HZ9.out; have := HZ10.out; have := HZ11.out; have := HZ12.out; have := HZ13.out; have := HZ14.out; have := HZ15.out; have := HZ16.out; have := HZ17.out; have := HZ18.out; have := HZ19.out; omega))); have m3_ := Aside0.mk (Kd.R_mono (ok' := fun k_ => w_8.heap.size ≤ k_ ∧ k_ < w_9.heap.size) (Kd.R_tight rfl ho0_) (fun k_ h_ => HO25.out.1 k_ h_.symm)); have m4_ := Aside0.mk hb_; have m5_ := Aside0.mk (Kd.R_reads' ho0_).1; clear HO19 HO28 HO32 HO25 HB; have HZ20 := n0_; have HO19 := m0_; have HO28 := m1_; have HO32 := m2_; have HO25 := m3_; have HB := m4_; have HE57 := m5_; clear n0_ m0_ m1_ m2_ m3_ m4_ m5_; (try clear hb_); (try clear hk_); (try clear hw_); (try clear hg_); (try clear hbox_); (try clear ho0_); (try clear ho1_); (try clear ho2_)) | ((with_reducible refine gate_callee (f := 33) rfl ?_); refine gL_ (some 90) Try.func33 #[(.slice Ao28 t26.length co28), .int .i64 t54] ?_; (with_reducible refine (laws_markSetS.calls k (fun k_ => w_9.heap.size ≤ k_ ∧ k_ < w_10.heap.size) (.slice Ao28 t26.length co28) t26 t54 t58 t59 w _ ?side1 ?side2 FA60.out).mono ?_); (case side1 => exact bB_); (case side2 => exact (vR_ HO28.out)); rintro e w_21 ⟨rfl, ho0_, hb_, hk_⟩; refine ⟨_, rfl, ?_⟩; have n0_ : Aside0 (w_20.heap.size ≤ w_21.heap.size) := ⟨Nat.le_trans (below_size bR_) (hk_.1)⟩; have m0_ := Aside0.mk (Kd.S_step (vS_ HO19.out) (fun k_ h1_ h2_ => hk_.2 k_ h2_ (fun h3_ => by have := HZ1.out; have := HZ2.out; have := HZ3.out; have := HZ4.out; have := HZ5.out; have := HZ6.out; have := HZ7.out; have := HZ8.out; have := HZ9.out; have := HZ10.out; have := HZ11.out; have := HZ12.out; have := HZ13.out; have := HZ14.out; have := HZ15.out; have := HZ16.out; have := HZ17.out; have := HZ18.out; have := HZ19.out; have := HZ20.out; omega))); have m1_ := Aside0.mk (Kd.S_step (vS_ HO32.out) (fun k_ h1_ h2_ => hk_.2 k_ h2_ (fun h3_ => by have := HZ1.out; have := HZ2.out; have := HZ3.out; have := HZ4.out; have := HZ5.out; have := HZ6.out; have := HZ7.out; have := HZ8.out; have := HZ9.out; have := HZ10.out; have := HZ11.out; have := HZ12.out; have := HZ13.out; have := HZ14.out; have := HZ15.out; have := HZ16.out; have := HZ17.out; have := HZ18.out; have := HZ19.out; have := HZ20.out; omega))); have m2_ := Aside0.mk (Kd.R_mono (ok' := fun k_ => w_9.heap.size ≤ k_ ∧ k_ < w_10.heap.size) (Kd.R_tight rfl ho0_) (fun k_ h_ => HO28.out.1 k_ h_.symm)); have m3_ := Aside0.mk hb_; have m4_ := Aside0.mk (Kd.R_reads' ho0_).1; clear HO19 HO32 HO28 HB; have HZ21 := n0_; have HO19 := m0_; have HO32 := m1_; have HO28 := m2_; have HB := m3_; have HE61 := m4_; clear n0_ m0_ m1_ m2_ m3_ m4_; (try clear hb_); (try clear hk_); (try clear hw_); (try clear hg_); (try clear hbox_); (try clear ho0_); (try clear ho1_); (try clear ho2_)) | (go_at_call 19; (with_reducible refine (laws_eqResS.calls k Ao32 co32 t29 Ao19 co19 t16 true _ ?side1 ?side2 ?side3 ?side4 FA63.out).mono ?_); (case side1 => exact cC_ (Kd.S_reads' HO32.out).2.2); (case side2 => exact (Kd.S_reads' HO32.out).2.1); (case side3 => exact cC_ (Kd.S_reads' HO19.out).2.2); (case side4 => exact (Kd.S_reads' HO19.out).2.1); rintro e w_22 ⟨rfl, hb_⟩; have n0_ : Aside0 (w_21.heap.size ≤ w_22.heap.size) := ⟨Nat.le_trans (below_size bR_) (below_size hb_)⟩; have m0_ := Aside0.mk (Kd.S_below (vS_ HO19.out) hb_); have m1_ := Aside0.mk (Kd.S_below (vS_ HO32.out) hb_); have m2_ := Aside0.mk (below_step bB_ hb_); clear HO19 HO32 HB; have HZ22 := n0_; have HO19 := m0_; have HO32 := m1_; have HB := m2_; clear n0_ m0_ m1_ m2_; (try clear hb_); (try clear hk_); (try clear hw_); (try clear hg_); (try clear hbox_); (try clear ho0_)) | ((with_reducible refine gate_callee (f := 21) rfl ?_); refine gL_ (some 106) Try.func21 #[(.slice Ao32 t29.length co32), .int .i64 1] ?_; (with_reducible refine (laws_markResS.calls k (fun k_ => w_10.heap.size ≤ k_ ∧ k_ < w_11.heap.size) (.slice Ao32 t29.length co32) t29 1 t64 t65 w _ ?side1 ?side2 FA66.out).mono ?_); (case side1 => exact bB_); (case side2 => exact (vS_ HO32.out)); rintro e w_23 ⟨rfl, ho0_, hb_, hk_⟩; refine ⟨_, rfl, ?_⟩; have n0_ : Aside0 (w_22.heap.size ≤ w_23.heap.size) := ⟨Nat.le_trans (below_size bR_) (hk_.1)⟩; have m0_ := Aside0.mk (Kd.S_step (vS_ HO19.out) (fun k_ h1_ h2_ => hk_.2 k_ h2_ (fun h3_ => by have := HZ1.out; have := HZ2.out; have := HZ3.out; have := HZ4.out; have := HZ5.out; have := HZ6.out; have := HZ7.out; have := HZ8.out; have := HZ9.out; have := HZ10.out; have := HZ11.out; have := HZ12.out; have := HZ13.out; have := HZ14.out; have := HZ15.out; have := HZ16.out; have := HZ17.out; have := HZ18.out; have := HZ19.out; have := HZ20.out; have := HZ21.out; have := HZ22.out; omega))); have m1_ := Aside0.mk (Kd.S_mono ho0_ (fun _ h_ => h_)); have m2_ := Aside0.mk hb_; have m3_ := Aside0.mk (Kd.S_reads' ho0_).1; clear HO19 HO32 HB; have HZ23 := n0_; have HO19 := m0_; have HO32 := m1_; have HB := m2_; have HE67 := m3_; clear n0_ m0_ m1_ m2_ m3_; (try clear hb_); (try clear hk_); (try clear hw_); (try clear hg_); (try clear hbox_); (try clear ho0_); (try clear ho1_); (try clear ho2_)) | ((with_reducible refine gate_callee (f := 23) rfl ?_); refine gL_ (some 109) Try.func23 #[.slice Ao32 t29.length co32, .int .i64 1] ?_; refine calls_of_args (args' := #[.slice Ao32 t65.length co32, .int .i64 1]) (by simp only [HE67.out]) ?_; (with_reducible refine (laws_heldResS.calls k Ao32 co32 t65 1 t68 _ ?side1 ?side2 FA69.out).mono ?_); (case side1 => repeat (first | (have h_ := Kd.S_reads' HO32.out; rw [HE67.out] at h_; exact h_.2.2) | (with_reducible refine Kd.C_alloc ?_ _) | (with_reducible refine Kd.C_drewN ?_ _) | (with_reducible refine Kd.C_drew ?_))); (case side2 => have h_ := Kd.S_reads' HO32.out; rw [HE67.out] at h_; exact h_.2.1); rintro e w_24 ⟨rfl, hb_⟩; refine ⟨_, rfl, ?_⟩; have n0_ : Aside0 (w_23.heap.size ≤ w_24.heap.size) := ⟨Nat.le_trans (below_size bR_) (below_size hb_)⟩; have m0_ := Aside0.mk (Kd.S_below (vS_ HO19.out) hb_); have m1_ := Aside0.mk (Kd.S_below (vS_ HO32.out) hb_); have m2_ := Aside0.mk (below_step bB_ hb_); clear HO19 HO32 HB; have HZ24 := n0_; have HO19 := m0_; have HO32 := m1_; have HB := m2_; clear n0_ m0_ m1_ m2_; (try clear hb_); (try clear hk_); (try clear hw_); (try clear hg_); (try clear hbox_); (try clear ho0_)) | ((with_reducible refine gate_callee (f := 16) rfl ?_); refine gL_ (some 117) Try.func16 #[.slice A0 l0.length c0] ?_; (with_reducible refine (laws_toResS.calls k A0 c0 l0 t70 _ ?side1 ?side2 FA71.out).mono ?_); (case side1 => exact cC_ (Kd.C_below HR0.out HB.out)); (case side2 => exact HC0.out); rintro e w_25 ⟨v115, rfl, ho0_, hb_⟩; refine ⟨_, rfl, ?_⟩; have n0_ : Aside0 (w_24.heap.size ≤ w_25.heap.size) := ⟨Nat.le_trans (below_size bR_) (below_size hb_)⟩; have m0_ := Aside0.mk (Kd.S_below (vS_ HO19.out) hb_); have m1_ := Aside0.mk (Kd.S_below (vS_ HO32.out) hb_); have m2_ := Aside0.mk (below_step bB_ hb_); have m3_ := Aside0.mk (show Kd.S k57 57 w_25 w.heap.size (fun k_ => w_24.heap.size ≤ k_ ∧ k_ < w_25.heap.size) v115 t70 from Kd.S_mono (Kd.S_lower (Kd.S_bound ho0_) (below_size bB_)) (fun k_ h_ => ⟨Nat.le_trans (below_size bR_) h_.2.1, h_.2.2.1⟩)); clear HO19 HO32 HB; have HZ25 := n0_; have HO19 := m0_; have HO32 := m1_; have HB := m2_; have HO72 := m3_; clear n0_ m0_ m1_ m2_ m3_; (try clear hb_); (try clear hk_); (try clear hw_); (try clear hg_); (try clear hbox_); (try clear ho0_); (try clear ho1_); obtain ⟨Ao72, co72, eo_⟩ := Kd.S_slice HO72.out; subst eo_) | ((with_reducible refine gate_callee (f := 17) rfl ?_); refine gL_ (some 119) Try.func17 #[.slice A1 l1.length c1] ?_; (with_reducible refine (laws_toStringS.calls k A1 c1 l1 t73 _ ?side1 ?side2 FA74.out).mono ?_); (case side1 => exact cC_ (Kd.C_below HR1.out HB.out)); (case side2 => exact HC1.out); rintro e w_26 ⟨v116, rfl, ho0_, hb_⟩; refine ⟨_, rfl, ?_⟩; have n0_ : Aside0 (w_25.heap.size ≤ w_26.heap.size) := ⟨Nat.le_trans (below_size bR_) (below_size hb_)⟩; have m0_ := Aside0.mk (Kd.S_below (vS_ HO19.out) hb_); have m1_ := Aside0.mk (Kd.S_below (vS_ HO32.out) hb_); have m2_ := Aside0.mk (Kd.S_below (vS_ HO72.out) hb_); have m3_ := Aside0.mk (below_step bB_ hb_); have m4_ := Aside0.mk (show Kd.R Kd.string 9 w_26 w.heap.size (fun k_ => w_25.heap.size ≤ k_ ∧ k_ < w_26.heap.size) v116 t73 from Kd.R_mono (Kd.R_lower (Kd.R_bound ho0_) (below_size bB_)) (fun k_ h_ => ⟨Nat.le_trans (below_size bR_) h_.2.1, h_.2.2.1⟩)); clear HO19 HO32 HO72 HB; have HZ26 := n0_; have HO19 := m0_; have HO32 := m1_; have HO72 := m2_; have HB := m3_; have HO75 := m4_; clear n0_ m0_ m1_ m2_ m3_ m4_; (try clear hb_); (try clear hk_); (try clear hw_); (try clear hg_); (try clear hbox_); (try clear ho0_); (try clear ho1_); obtain ⟨Ao75, co75, eo_⟩ := Kd.R_slice HO75.out; subst eo_) | ((with_reducible refine gate_callee (f := 30) rfl ?_); refine gL_ (some 121) Try.func30 #[.slice A2 l2.length c2] ?_; (with_reducible refine (laws_toSetS.calls k A2 c2 l2 t76 _ ?side1 ?side2 FA77.out).mono ?_); (case side1 => exact cC_ (Kd.C_below HR2.out HB.out)); (case side2 => exact HC2.out); rintro e w_27 ⟨v117, rfl, ho0_, hb_⟩; refine ⟨_, rfl, ?_⟩; have n0_ : Aside0 (w_26.heap.size ≤ w_27.heap.size) := ⟨Nat.le_trans (below_size bR_) (below_size hb_)⟩; have m0_ := Aside0.mk (Kd.S_below (vS_ HO19.out) hb_); have m1_ := Aside0.mk (Kd.S_below (vS_ HO32.out) hb_); have m2_ := Aside0.mk (Kd.S_below (vS_ HO72.out) hb_); have m3_ := Aside0.mk (Kd.R_below (vR_ HO75.out) hb_); have m4_ := Aside0.mk (below_step bB_ hb_); have m5_ := Aside0.mk (show Kd.R k74 74 w_27 w.heap.size (fun k_ => w_26.heap.size ≤ k_ ∧ k_ < w_27.heap.size) v117 t76 from Kd.R_mono (Kd.R_lower (Kd.R_bound ho0_) (below_size bB_)) (fun k_ h_ => ⟨Nat.le_trans (below_size bR_) h_.2.1, h_.2.2.1⟩)); clear HO19 HO32 HO72 HO75 HB; have HZ27 := n0_; have HO19 := m0_; have HO32 := m1_; have HO72 := m2_; have HO75 := m3_; have HB := m4_; have HO78 := m5_; clear n0_ m0_ m1_ m2_ m3_ m4_ m5_; (try clear hb_); (try clear hk_); (try clear hw_); (try clear hg_); (try clear hbox_); (try clear ho0_); (try clear ho1_); obtain ⟨Ao78, co78, eo_⟩ := Kd.R_slice HO78.out; subst eo_) | ((with_reducible refine gate_callee (f := 31) rfl ?_); refine gL_ (some 122) Try.func31 #[.slice Ao72 t70.length co72, .slice Ao75 t73.length co75, .slice Ao78 t76.length co78] ?_; (with_reducible refine (impl_Patch.calls k Ao72 co72 t70 Ao75 co75 t73 Ao78 co78 t76 t79 t80 _ ?side1 ?side2 ?side3 ?side4 ?side5 ?side6 FA81.out).mono ?_); (case side1 => exact cC_ (Kd.S_reads' HO72.out).2.2); (case side2 => exact (Kd.S_reads' HO72.out).2.1); (case side3 => exact cC_ (Kd.R_reads' HO75.out).2.2); (case side4 => exact (Kd.R_reads' HO75.out).2.1); (case side5 => exact cC_ (Kd.R_reads' HO78.out).2.2); (case side6 => exact (Kd.R_reads' HO78.out).2.1); rintro e w_28 ⟨v118, rfl, ho0_, hb_⟩; refine ⟨_, rfl, ?_⟩; have n0_ : Aside0 (w_27.heap.size ≤ w_28.heap.size) := ⟨Nat.le_trans (below_size bR_) (below_size hb_)⟩; have m0_ := Aside0.mk (Kd.S_below (vS_ HO19.out) hb_); have m1_ := Aside0.mk (Kd.S_below (vS_ HO32.out) hb_); have m2_ := Aside0.mk (Kd.S_below (vS_ HO72.out) hb_); have m3_ := Aside0.mk (Kd.R_below (vR_ HO75.out) hb_); have m4_ := Aside0.mk (Kd.R_below (vR_ HO78.out) hb_); have m5_ := Aside0.mk (below_step bB_ hb_); have m6_ := Aside0.mk (show Kd.S k57 57 w_28 w.heap.size (fun k_ => w_27.heap.size ≤ k_ ∧ k_ < w_28.heap.size) v118 t79 from Kd.S_mono (Kd.S_lower (Kd.S_bound ho0_) (below_size bB_)) (fun k_ h_ => ⟨Nat.le_trans (below_size bR_) h_.2.1, h_.2.2.1⟩)); clear HO19 HO32 HO72 HO75 HO78 HB; have HZ28 := n0_; have HO19 := m0_; have HO32 := m1_; have HO72 := m2_; have HO75 := m3_; have HO78 := m4_; have HB := m5_; have HO82 := m6_; clear n0_ m0_ m1_ m2_ m3_ m4_ m5_ m6_; (try clear hb_); (try clear hk_); (try clear hw_); (try clear hg_); (try clear hbox_); (try clear ho0_); (try clear ho1_); obtain ⟨Ao82, co82, eo_⟩ := Kd.S_slice HO82.out; subst eo_) | ((with_reducible refine gate_callee (f := 19) rfl ?_); refine gL_ (some 127) Try.func19 #[.slice Ao82 t79.length co82, .slice Ao19 t16.length co19] ?_; (with_reducible refine (laws_eqResS.calls k Ao82 co82 t79 Ao19 co19 t16 true _ ?side1 ?side2 ?side3 ?side4 FA84.out).mono ?_); (case side1 => exact cC_ (Kd.S_reads' HO82.out).2.2); (case side2 => exact (Kd.S_reads' HO82.out).2.1); (case side3 => exact cC_ (Kd.S_reads' HO19.out).2.2); (case side4 => exact (Kd.S_reads' HO19.out).2.1); rintro e w_29 ⟨rfl, hb_⟩; refine ⟨_, rfl, ?_⟩; have n0_ : Aside0 (w_28.heap.size ≤ w_29.heap.size) := ⟨Nat.le_trans (below_size bR_) (below_size hb_)⟩; have m0_ := Aside0.mk (Kd.S_below (vS_ HO19.out) hb_); have m1_ := Aside0.mk (Kd.S_below (vS_ HO32.out) hb_); have m2_ := Aside0.mk (Kd.S_below (vS_ HO82.out) hb_); have m3_ := Aside0.mk (below_step bB_ hb_); clear HO19 HO32 HO82 HB; have HZ29 := n0_; have HO19 := m0_; have HO32 := m1_; have HO82 := m2_; have HB := m3_; clear n0_ m0_ m1_ m2_ m3_; (try clear hb_); (try clear hk_); (try clear hw_); (try clear hg_); (try clear hbox_); (try clear ho0_)) | ((with_reducible refine gate_callee (f := 23) rfl ?_); refine gL_ (some 136) Try.func23 #[.slice Ao32 t29.length co32, .int .i64 1] ?_; refine calls_of_args (args' := #[.slice Ao32 t65.length co32, .int .i64 1]) (by simp only [HE67.out]) ?_; (with_reducible refine (laws_heldResS.calls k Ao32 co32 t65 1 t85 _ ?side1 ?side2 FA86.out).mono ?_); (case side1 => repeat (first | (have h_ := Kd.S_reads' HO32.out; rw [HE67.out] at h_; exact h_.2.2) | (with_reducible refine Kd.C_alloc ?_ _) | (with_reducible refine Kd.C_drewN ?_ _) | (with_reducible refine Kd.C_drew ?_))); (case side2 => have h_ := Kd.S_reads' HO32.out; rw [HE67.out] at h_; exact h_.2.1); rintro e w_30 ⟨rfl, hb_⟩; refine ⟨_, rfl, ?_⟩; have n0_ : Aside0 (w_29.heap.size ≤ w_30.heap.size) := ⟨Nat.le_trans (below_size bR_) (below_size hb_)⟩; have m0_ := Aside0.mk (Kd.S_below (vS_ HO32.out) hb_); have m1_ := Aside0.mk (below_step bB_ hb_); clear HO32 HB; have HZ30 := n0_; have HO32 := m0_; have HB := m1_; clear n0_ m0_ m1_; (try clear hb_); (try clear hk_); (try clear hw_); (try clear hg_); (try clear hbox_); (try clear ho0_)))
 go_ret
 exact ⟨rfl, bB_⟩
end Go.Proofs.Ytbgggcgjijljkaa.Q

/- What a reading of a parameter says of its cells, kind by kind: for the rows of laws whose parameters are slices and structs. No condition. -/
namespace Go.Proofs.Ytbgggcgjijljkaa.Op
open Go.RowKit Go.ChangeShapes Go.WideShapes Go.Proofs.YtbgggcgjijljkaaW.PrintWords
def Opens {α H : Type} (enc : TypeId × Value → H) (P : Program) (w : World) (t : TypeId) (d : Kd α) (G : α → Prop) : Prop :=
  ∀ fuel cs x, DataW.trod enc P w 0 (fun _ => true) true fuel t cs = some x → ∃ a, d.K w a cs ∧ G a
section
variable {H : Type} {enc : TypeId × Value → H} {P : Program} {w : World} {t : TypeId}
theorem opens_string (ht : P.underlying t = some .string) : Opens enc P w t Kd.string (fun s => s.size ≤ maxLen) := by
  intro fuel cs x h
  obtain ⟨s, rfl, _, hs⟩ := DataW.trod_string ht h
  exact ⟨s, rfl, hs⟩
theorem opens_bool (ht : P.underlying t = some .bool) : Opens enc P w t Kd.bool (fun _ => True) := by
  intro fuel cs x h
  obtain ⟨s, rfl, _⟩ := DataW.trod_bool ht h
  exact ⟨s, rfl, trivial⟩
theorem opens_int {k : IntKind} (ht : P.underlying t = some (.int k)) : Opens enc P w t (Kd.int k) (fun n => (Lit.int k n).wf = true) := by
  intro fuel cs x h
  obtain ⟨n, rfl, _, hn⟩ := DataW.trod_int ht h
  exact ⟨n, rfl, hn⟩
theorem opens_slice {α : Type} [Inhabited α] {e : TypeId} {d : Kd α} {G : α → Prop} (ht : P.underlying t = some (.slice e)) (hc : P.cellsOf e = d.sz) (he : Opens enc P w e d G) :
    Opens enc P w t (Kd.slice e d) (fun l => l.length ≤ maxLen ∧ ∀ a ∈ l, G a) := by
  intro fuel cs x h
  rcases Go.Deep.open_slice ht h with ⟨rfl, _⟩ | ⟨a, len, cap, m, n, D, Pl, rfl, _, hl, hm, hmm, _, hx⟩
  · exact ⟨[], ⟨none, 0, rfl, Nat.le_refl _, Kd.C_nil d w⟩, by simp, by simp⟩
  · have hm' : m = cap := by simpa using hmm
    have each : ∀ i, i < len → ∃ y : α, G y ∧ ∃ c, d.K w y c ∧ ∀ j u, c[j]? = some u → w.cell? (a.add (i * d.sz + j)) = some u := fun i hi => by
      obtain ⟨cs', h1, h2⟩ := hx i (by omega)
      obtain ⟨y, hK, hG⟩ := he _ _ _ h2
      obtain ⟨_, h3, h4⟩ := World.cells?_some h1
      refine ⟨y, hG, cs', hK, fun j u hu => ?_⟩
      have hj : j < P.cellsOf e := by
        have := (List.getElem?_eq_some_iff.1 hu).1
        omega
      have h5 := h4 j hj
      rw [Go.Deep.add_add, hc, hu] at h5
      exact h5
    obtain ⟨f, hf⟩ := Go.Deep.choose_lt each
    have hmax : maxLen = 9223372036854775807 := by decide
    refine ⟨(List.range len).map f, ⟨some a, cap, by simp, by simpa using hl, ?_⟩, by simp; omega, ?_⟩
    · refine ⟨rfl, by simp; omega, fun _ => ⟨a, rfl, fun j p hj => ?_⟩⟩
      have hjl : j < len := by
        have := (List.getElem?_eq_some_iff.1 hj).1
        simpa using this
      have hp : f j = p := by
        rw [List.getElem?_map, List.getElem?_range hjl] at hj
        simpa using hj
      obtain ⟨_, c, hK, hcell⟩ := hf j hjl
      exact ⟨c, d.K_len hK, hp ▸ hK, hcell⟩
    · intro y hy
      obtain ⟨j, hj, rfl⟩ := List.mem_map.1 hy
      exact (hf j (List.mem_range.1 hj)).1
end
end Go.Proofs.Ytbgggcgjijljkaa.Op
