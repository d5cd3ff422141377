-- PRINTED by print.py (a twelfth state) out of the translation. Not trusted: Lean checks it.
import Derived.Test.YtigoeooelfeopaaDoorVTagAtG25
set_option maxHeartbeats 8000000
set_option maxRecDepth 100000
namespace Go.Proofs.YtigoeooelfeopaaDoor.Q
open Go.RowKit Go.Proofs.YtigoeooelfeopaaDoorW.PrintWords Go.Proofs.YtigoeooelfeopaaDoorW.PrintLast Go.Proofs.YtigoeooelfeopaaDoorW.PrintMore
attribute [local go_sem] max2_int min2_int max_two min_two max_three min_three max_four min_four   -- for this text's walks alone
set_option linter.unusedVariables false
set_option linter.unusedSimpArgs false
def laws_eqLockS.l0 : Nat → List (S98) → List (S98) → Int → Option (Bool)
 | 0, _, _, _ => none
 | k + 1, x0, x1, x5 => if x5 < (x0.length : Int) then (if 0 ≤ x5 then (if x5 < (x1.length : Int) then ((laws_eqLock.f k ((rd_T98 x0 x5).f0) ((rd_T98 x0 x5).f1) ((rd_T98 x0 x5).f2) ((rd_T98 x0 x5).f3) ((rd_T98 x0 x5).f4) ((rd_T98 x1 x5).f0) ((rd_T98 x1 x5).f1) ((rd_T98 x1 x5).f2) ((rd_T98 x1 x5).f3) ((rd_T98 x1 x5).f4)).bind fun t329 => (if t329 = true then (laws_eqLockS.l0 k x0 x1 (wrap64 (x5 + 1))) else (some false))) else (none)) else (none)) else (some true)
def laws_eqLockS.f (k : Nat) (l0 : List (S98)) (l1 : List (S98)) : Option (Bool) := if (l0.length : Int) = (l1.length : Int) then (laws_eqLockS.l0 k l0 l1 0) else (some false)
def laws_eqLockS.T6 : Bool × List (List Nat × List Nat) := (true, [([], []), ([], []), ([0, 1], [0, 1]), ([2], [2]), ([], []), ([], []), ([4, 5], [4, 5]), ([6], [6]), ([3, 7], [3, 7]), ([8], [8])])
def laws_eqLockS.B6 : List Nat := [0, 0, 3, 7, 0, 0, 48, 112, 255, 511]
theorem laws_eqLockS.tab6 : rtab .any (opsOf Tryd.f47 6) = laws_eqLockS.T6 := by kernel_rfl
theorem laws_eqLockS.bits6 : waitsOk laws_eqLockS.T6.2 laws_eqLockS.B6 = true := by kernel_rfl
theorem laws_eqLockS.calls (k : Nat) (A0 : Option Addr) (c0 : Nat) (l0 : List (S98)) (A1 : Option Addr) (c1 : Nat) (l1 : List (S98)) (r : Bool) (w : World) (hr0 : Kd.C k98 w A0 l0.length l0) (hc0 : l0.length ≤ c0) (hr1 : Kd.C k98 w A1 l1.length l1) (hc1 : l1.length ≤ c1) (h : laws_eqLockS.f k l0 l1 = some r) :
 Calls Tryd.prog 47 #[.slice A0 l0.length c0, .slice A1 l1.length c1] w fun e w' => e = .returned (.bool r) ∧ Below w.heap.size w w' := by
 have hu98 := Tryd.underlying98
 have HR0 := A_ hr0
 have HC0 := A_ hc0
 clear hr0 hc0
 have HR1 := A_ hr1
 have HC1 := A_ hc1
 clear hr1 hc1
 have HB := A_ (Below.refl w.heap.size w)
 have H : (if (l0.length : Int) = (l1.length : Int) then (laws_eqLockS.l0 k l0 l1 0) else (some false)) = some r := h
 clear h
 by_cases c3 : (l0.length : Int) = (l1.length : Int)
 rotate_left
 · rw [if_neg c3] at H
   have c3b0 : ((l0.length : Int) == (l1.length : Int)) = false := beq_eq_false_iff_ne.mpr c3
   have c3b1 : ((l0.length : Int) != (l1.length : Int)) = true := bne_iff_ne.mpr c3
   have c3b2 : (l0.length == l1.length) = false := by first | simpa using c3 | (simp at c3 ⊢; omega)
   obtain rfl := si_ H
   go_enter Tryd.func47, Tryd.ntmps47
   go_wp2
   go_ret
   exact ⟨rr_, bB_⟩
 rw [if_pos c3] at H
 have c3b0 : ((l0.length : Int) == (l1.length : Int)) = true := beq_iff_eq.mpr c3
 have c3b1 : ((l0.length : Int) != (l1.length : Int)) = false := bne_eq_false_iff_eq.mpr c3
 have c3b2 : (l0.length == l1.length) = true := by first | simpa using c3 | (simp at c3 ⊢; omega)
 clear c3
 have H' := A_ H
 clear H
 go_enter Tryd.func47, Tryd.ntmps47
 go_wp2
 go_loopg [5] k (fun kq v5 w' => ∃ (x5_1 : Int), v5 = .int .i64 x5_1 ∧ Aside0 (laws_eqLockS.l0 kq l0 l1 x5_1 = some r) ∧ Aside0 (kq ≤ k) ∧ Aside0 (Below w.heap.size w w'))
 case atStart => exact ⟨(0), rs_, H', ⟨Nat.le_refl _⟩, ⟨bB_⟩⟩
 case round =>
  clear H'
  try clear c1
  try clear p2
  try clear c3
  try clear c3b0
  try clear c3b1
  try clear c3b2
  obtain ⟨x5_1, rfl, HA, HK1, HB⟩ := hrel
  cases gk with
  | zero => exact absurd HA.out (by simp [laws_eqLockS.l0])
  | succ k1 =>
   have H := HA.out
   clear HA
   simp only [laws_eqLockS.l0] at H
   by_cases c4 : x5_1 < (l0.length : Int)
   rotate_left
   · rw [if_neg c4] at H
     have c4b0 : decide (x5_1 < (l0.length : Int)) = false := decide_eq_false c4
     clear c4
     obtain rfl := si_ H
     go_wp2
     go_ret
     exact ⟨rr_, bB_⟩
   rw [if_pos c4] at H
   have c4b0 : decide (x5_1 < (l0.length : Int)) = true := decide_eq_true c4
   clear c4
   by_cases c5 : 0 ≤ x5_1
   rotate_left
   · exact absurd H (by rw [if_neg c5]; simp)
   rw [if_pos c5] at H
   have c5b0 : decide (0 ≤ x5_1) = true := decide_eq_true c5
   clear c5
   by_cases c6 : x5_1 < (l1.length : Int)
   rotate_left
   · exact absurd H (by rw [if_neg c6]; simp)
   rw [if_pos c6] at H
   have c6b0 : decide (x5_1 < (l1.length : Int)) = true := decide_eq_true c6
   clear c6
   obtain ⟨t329, A7, H⟩ := bo_ H
   (try dsimp only at H)
   by_cases c8 : t329 = true
   · subst c8
     rw [if_pos rfl] at H
     have H' := A_ H
     clear H
     try go_wp2
     replace HB := A_ (below_drew1 HB.out)
     have p327 : 0 ≤ (x5_1 : Int) := od_
     have q327 : x5_1 < (l0.length : Int) := od_
     obtain ⟨ad327, A327_1, c327_1, e327, hx327_0, hx327_1, hx327_2, hx327_3, hx327_4, hl327_1, hi327_1⟩ := at_T98 HR0.out x5_1 p327 q327
     have hw327_4 := hx327_4
     have hw327_3 := hx327_3
     have hw327_2 := hx327_2
     have hw327_1 := hx327_1
     have hw327_0 := hx327_0
     cases e327
     replace hx327_0 := bc_ HB.out hx327_0
     replace hx327_1 := bc_ HB.out hx327_1
     replace hx327_2 := bc_ HB.out hx327_2
     replace hx327_3 := bc_ HB.out hx327_3
     replace hx327_4 := bc_ HB.out hx327_4
     have HR327_1 := A_ hi327_1
     have HC327_1 := A_ hl327_1
     clear hi327_1 hl327_1
     replace p327 := eq_true p327
     replace q327 := eq_true q327
     have p328 : 0 ≤ (x5_1 : Int) := od_
     have q328 : x5_1 < (l1.length : Int) := od_
     obtain ⟨ad328, A328_1, c328_1, e328, hx328_0, hx328_1, hx328_2, hx328_3, hx328_4, hl328_1, hi328_1⟩ := at_T98 HR1.out x5_1 p328 q328
     have hw328_4 := hx328_4
     have hw328_3 := hx328_3
     have hw328_2 := hx328_2
     have hw328_1 := hx328_1
     have hw328_0 := hx328_0
     cases e328
     replace hx328_0 := bc_ HB.out hx328_0
     replace hx328_1 := bc_ HB.out hx328_1
     replace hx328_2 := bc_ HB.out hx328_2
     replace hx328_3 := bc_ HB.out hx328_3
     replace hx328_4 := bc_ HB.out hx328_4
     have HR328_1 := A_ hi328_1
     have HC328_1 := A_ hl328_1
     clear hi328_1 hl328_1
     replace p328 := eq_true p328
     replace q328 := eq_true q328
     refine start_ (n := 10) (S := fun w' => w'.cell? (ad327.add ((x5_1).toNat * 5)) = some (.int .i64 ((rd_T98 l0 x5_1).f0)) ∧ w'.cell? ⟨(ad327.add ((x5_1).toNat * 5)).block, (ad327.add ((x5_1).toNat * 5)).off + 1, none⟩ = some (.slice A327_1 ((rd_T98 l0 x5_1).f1).length c327_1) ∧ w'.cell? ⟨(ad327.add ((x5_1).toNat * 5)).block, (ad327.add ((x5_1).toNat * 5)).off + 2, none⟩ = some (.bool ((rd_T98 l0 x5_1).f2)) ∧ w'.cell? ⟨(ad327.add ((x5_1).toNat * 5)).block, (ad327.add ((x5_1).toNat * 5)).off + 3, none⟩ = some (.bool ((rd_T98 l0 x5_1).f3)) ∧ w'.cell? ⟨(ad327.add ((x5_1).toNat * 5)).block, (ad327.add ((x5_1).toNat * 5)).off + 4, none⟩ = some (.int .i64 ((rd_T98 l0 x5_1).f4)) ∧ w'.cell? (ad328.add ((x5_1).toNat * 5)) = some (.int .i64 ((rd_T98 l1 x5_1).f0)) ∧ w'.cell? ⟨(ad328.add ((x5_1).toNat * 5)).block, (ad328.add ((x5_1).toNat * 5)).off + 1, none⟩ = some (.slice A328_1 ((rd_T98 l1 x5_1).f1).length c328_1) ∧ w'.cell? ⟨(ad328.add ((x5_1).toNat * 5)).block, (ad328.add ((x5_1).toNat * 5)).off + 2, none⟩ = some (.bool ((rd_T98 l1 x5_1).f2)) ∧ w'.cell? ⟨(ad328.add ((x5_1).toNat * 5)).block, (ad328.add ((x5_1).toNat * 5)).off + 3, none⟩ = some (.bool ((rd_T98 l1 x5_1).f3)) ∧ w'.cell? ⟨(ad328.add ((x5_1).toNat * 5)).block, (ad328.add ((x5_1).toNat * 5)).off + 4, none⟩ = some (.int .i64 ((rd_T98 l1 x5_1).f4))) (ds := []) #[false, false, false, false, false, false, false, false, false, false] (by kernel_rfl) rfl rfl ⟨(be_ hw327_0), (be_ hw327_1), (be_ hw327_2), (be_ hw327_3), (be_ hw327_4), (be_ hw328_0), (be_ hw328_1), (be_ hw328_2), (be_ hw328_3), (be_ hw328_4)⟩ (fun hHeld => ?_); refine with_tabW laws_eqLockS.tab6 laws_eqLockS.bits6 (fun HT_ HW_ => ?_)
     generalize wr.drew = w9 at HB HR327_1 HR328_1 hx327_0 hx327_1 hx327_2 hx327_3 hx327_4 hx328_0 hx328_1 hx328_2 hx328_3 hx328_4 hHeld ⊢
     refine pu_ (i := 0) (N := some 17) ?_
     refine pu_ (i := 1) (N := some 18) ?_
     refine pu_ (i := 2) (N := some 19) ?_
     refine pu_ (i := 4) (N := some 21) ?_
     refine pu_ (i := 5) (N := some 22) ?_
     refine pu_ (i := 6) (N := some 23) ?_
     refine tk_ (i := 3) (N := some 20) hHeld ?_
     refine tk_ (i := 7) (N := some 24) hHeld ?_
     refine on_ (i := 8) (N := some 25) (fun K hK => ?_)
     refine goes_ Tryd.func73 (by kernel_rfl) rfl #[.agg #[.int .i64 ((rd_T98 l0 x5_1).f0), .slice A327_1 ((rd_T98 l0 x5_1).f1).length c327_1, .bool ((rd_T98 l0 x5_1).f2), .bool ((rd_T98 l0 x5_1).f3), .int .i64 ((rd_T98 l0 x5_1).f4)], .agg #[.int .i64 ((rd_T98 l1 x5_1).f0), .slice A328_1 ((rd_T98 l1 x5_1).f1).length c328_1, .bool ((rd_T98 l1 x5_1).f2), .bool ((rd_T98 l1 x5_1).f3), .int .i64 ((rd_T98 l1 x5_1).f4)]] (by rfl) rfl rfl ml_ ?_
     with_reducible refine (laws_eqLock.calls k1 ((rd_T98 l0 x5_1).f0) _ _ ((rd_T98 l0 x5_1).f1) ((rd_T98 l0 x5_1).f2) ((rd_T98 l0 x5_1).f3) ((rd_T98 l0 x5_1).f4) ((rd_T98 l1 x5_1).f0) _ _ ((rd_T98 l1 x5_1).f1) ((rd_T98 l1 x5_1).f2) ((rd_T98 l1 x5_1).f3) ((rd_T98 l1 x5_1).f4) true _ ?s1 ?s2 ?s3 ?s4 A7.out).mono ?_
     (case s1 => exact cC_ (Kd.C_below HR327_1.out HB.out))
     (case s2 => exact HC327_1.out)
     (case s3 => exact cC_ (Kd.C_below HR328_1.out HB.out))
     (case s4 => exact HC328_1.out)
     rintro e w10 ⟨rfl, hb⟩
     refine ⟨_, rfl, ?_⟩
     replace HB := A_ (below_step bB_ hb)
     (try clear hb)
     (try clear hb2)
     (try clear hk)
     (try clear hi)
     refine hK.out _ _ ⟨(be_ hw327_0), (be_ hw327_1), (be_ hw327_2), (be_ hw327_3), (be_ hw327_4), (be_ hw328_0), (be_ hw328_1), (be_ hw328_2), (be_ hw328_3), (be_ hw328_4)⟩ (fun hHeld => ?_)
     clear hK K
     refine no_ (some 25) ?_
     refine pu_ (i := 9) (N := some 26) ?_
     refine done_ (done_of HT_.out (by kernel_rfl)) ?_
     (try clear hHeld)
     try go_wp2
     go_roundg k1
     case measure => have := HK1.out; omega
     case rel => exact ⟨(wrap64 (x5_1 + 1)), rs_, H', ⟨by have := HK1.out; omega⟩, ⟨bB_⟩⟩
   · replace c8 := Bool.eq_false_iff.mpr c8
     subst c8
     rw [if_neg nf_] at H
     obtain rfl := si_ H
     try go_wp2
     replace HB := A_ (below_drew1 HB.out)
     have p327 : 0 ≤ (x5_1 : Int) := od_
     have q327 : x5_1 < (l0.length : Int) := od_
     obtain ⟨ad327, A327_1, c327_1, e327, hx327_0, hx327_1, hx327_2, hx327_3, hx327_4, hl327_1, hi327_1⟩ := at_T98 HR0.out x5_1 p327 q327
     have hw327_4 := hx327_4
     have hw327_3 := hx327_3
     have hw327_2 := hx327_2
     have hw327_1 := hx327_1
     have hw327_0 := hx327_0
     cases e327
     replace hx327_0 := bc_ HB.out hx327_0
     replace hx327_1 := bc_ HB.out hx327_1
     replace hx327_2 := bc_ HB.out hx327_2
     replace hx327_3 := bc_ HB.out hx327_3
     replace hx327_4 := bc_ HB.out hx327_4
     have HR327_1 := A_ hi327_1
     have HC327_1 := A_ hl327_1
     clear hi327_1 hl327_1
     replace p327 := eq_true p327
     replace q327 := eq_true q327
     have p328 : 0 ≤ (x5_1 : Int) := od_
     have q328 : x5_1 < (l1.length : Int) := od_
     obtain ⟨ad328, A328_1, c328_1, e328, hx328_0, hx328_1, hx328_2, hx328_3, hx328_4, hl328_1, hi328_1⟩ := at_T98 HR1.out x5_1 p328 q328
     have hw328_4 := hx328_4
     have hw328_3 := hx328_3
     have hw328_2 := hx328_2
     have hw328_1 := hx328_1
     have hw328_0 := hx328_0
     cases e328
     replace hx328_0 := bc_ HB.out hx328_0
     replace hx328_1 := bc_ HB.out hx328_1
     replace hx328_2 := bc_ HB.out hx328_2
     replace hx328_3 := bc_ HB.out hx328_3
     replace hx328_4 := bc_ HB.out hx328_4
     have HR328_1 := A_ hi328_1
     have HC328_1 := A_ hl328_1
     clear hi328_1 hl328_1
     replace p328 := eq_true p328
     replace q328 := eq_true q328
     refine start_ (n := 10) (S := fun w' => w'.cell? (ad327.add ((x5_1).toNat * 5)) = some (.int .i64 ((rd_T98 l0 x5_1).f0)) ∧ w'.cell? ⟨(ad327.add ((x5_1).toNat * 5)).block, (ad327.add ((x5_1).toNat * 5)).off + 1, none⟩ = some (.slice A327_1 ((rd_T98 l0 x5_1).f1).length c327_1) ∧ w'.cell? ⟨(ad327.add ((x5_1).toNat * 5)).block, (ad327.add ((x5_1).toNat * 5)).off + 2, none⟩ = some (.bool ((rd_T98 l0 x5_1).f2)) ∧ w'.cell? ⟨(ad327.add ((x5_1).toNat * 5)).block, (ad327.add ((x5_1).toNat * 5)).off + 3, none⟩ = some (.bool ((rd_T98 l0 x5_1).f3)) ∧ w'.cell? ⟨(ad327.add ((x5_1).toNat * 5)).block, (ad327.add ((x5_1).toNat * 5)).off + 4, none⟩ = some (.int .i64 ((rd_T98 l0 x5_1).f4)) ∧ w'.cell? (ad328.add ((x5_1).toNat * 5)) = some (.int .i64 ((rd_T98 l1 x5_1).f0)) ∧ w'.cell? ⟨(ad328.add ((x5_1).toNat * 5)).block, (ad328.add ((x5_1).toNat * 5)).off + 1, none⟩ = some (.slice A328_1 ((rd_T98 l1 x5_1).f1).length c328_1) ∧ w'.cell? ⟨(ad328.add ((x5_1).toNat * 5)).block, (ad328.add ((x5_1).toNat * 5)).off + 2, none⟩ = some (.bool ((rd_T98 l1 x5_1).f2)) ∧ w'.cell? ⟨(ad328.add ((x5_1).toNat * 5)).block, (ad328.add ((x5_1).toNat * 5)).off + 3, none⟩ = some (.bool ((rd_T98 l1 x5_1).f3)) ∧ w'.cell? ⟨(ad328.add ((x5_1).toNat * 5)).block, (ad328.add ((x5_1).toNat * 5)).off + 4, none⟩ = some (.int .i64 ((rd_T98 l1 x5_1).f4))) (ds := []) #[false, false, false, false, false, false, false, false, false, false] (by kernel_rfl) rfl rfl ⟨(be_ hw327_0), (be_ hw327_1), (be_ hw327_2), (be_ hw327_3), (be_ hw327_4), (be_ hw328_0), (be_ hw328_1), (be_ hw328_2), (be_ hw328_3), (be_ hw328_4)⟩ (fun hHeld => ?_); refine with_tabW laws_eqLockS.tab6 laws_eqLockS.bits6 (fun HT_ HW_ => ?_)
     generalize wr.drew = w11 at HB HR327_1 HR328_1 hx327_0 hx327_1 hx327_2 hx327_3 hx327_4 hx328_0 hx328_1 hx328_2 hx328_3 hx328_4 hHeld ⊢
     refine pu_ (i := 0) (N := some 17) ?_
     refine pu_ (i := 1) (N := some 18) ?_
     refine pu_ (i := 2) (N := some 19) ?_
     refine pu_ (i := 4) (N := some 21) ?_
     refine pu_ (i := 5) (N := some 22) ?_
     refine pu_ (i := 6) (N := some 23) ?_
     refine tk_ (i := 3) (N := some 20) hHeld ?_
     refine tk_ (i := 7) (N := some 24) hHeld ?_
     refine on_ (i := 8) (N := some 25) (fun K hK => ?_)
     refine goes_ Tryd.func73 (by kernel_rfl) rfl #[.agg #[.int .i64 ((rd_T98 l0 x5_1).f0), .slice A327_1 ((rd_T98 l0 x5_1).f1).length c327_1, .bool ((rd_T98 l0 x5_1).f2), .bool ((rd_T98 l0 x5_1).f3), .int .i64 ((rd_T98 l0 x5_1).f4)], .agg #[.int .i64 ((rd_T98 l1 x5_1).f0), .slice A328_1 ((rd_T98 l1 x5_1).f1).length c328_1, .bool ((rd_T98 l1 x5_1).f2), .bool ((rd_T98 l1 x5_1).f3), .int .i64 ((rd_T98 l1 x5_1).f4)]] (by rfl) rfl rfl ml_ ?_
     with_reducible refine (laws_eqLock.calls k1 ((rd_T98 l0 x5_1).f0) _ _ ((rd_T98 l0 x5_1).f1) ((rd_T98 l0 x5_1).f2) ((rd_T98 l0 x5_1).f3) ((rd_T98 l0 x5_1).f4) ((rd_T98 l1 x5_1).f0) _ _ ((rd_T98 l1 x5_1).f1) ((rd_T98 l1 x5_1).f2) ((rd_T98 l1 x5_1).f3) ((rd_T98 l1 x5_1).f4) false _ ?s1 ?s2 ?s3 ?s4 A7.out).mono ?_
     (case s1 => exact cC_ (Kd.C_below HR327_1.out HB.out))
     (case s2 => exact HC327_1.out)
     (case s3 => exact cC_ (Kd.C_below HR328_1.out HB.out))
     (case s4 => exact HC328_1.out)
     rintro e w12 ⟨rfl, hb⟩
     refine ⟨_, rfl, ?_⟩
     replace HB := A_ (below_step bB_ hb)
     (try clear hb)
     (try clear hb2)
     (try clear hk)
     (try clear hi)
     refine hK.out _ _ ⟨(be_ hw327_0), (be_ hw327_1), (be_ hw327_2), (be_ hw327_3), (be_ hw327_4), (be_ hw328_0), (be_ hw328_1), (be_ hw328_2), (be_ hw328_3), (be_ hw328_4)⟩ (fun hHeld => ?_)
     clear hK K
     refine no_ (some 25) ?_
     refine pu_ (i := 9) (N := some 26) ?_
     refine done_ (done_of HT_.out (by kernel_rfl)) ?_
     (try clear hHeld)
     try go_wp2
     go_ret
     exact ⟨rr_, bB_⟩
def laws_eqIntS.l0 : Nat → List Int → List Int → Int → Option (Bool)
 | 0, _, _, _ => none
 | k + 1, x0, x1, x5 => if x5 < (x0.length : Int) then (if 0 ≤ x5 then (if x5 < (x1.length : Int) then (if (rd x0 x5) = (rd x1 x5) then (laws_eqIntS.l0 k x0 x1 (wrap64 (x5 + 1))) else (some false)) else (none)) else (none)) else (some true)
def laws_eqIntS.f (k : Nat) (l0 : List Int) (l1 : List Int) : Option (Bool) := if (l0.length : Int) = (l1.length : Int) then (laws_eqIntS.l0 k l0 l1 0) else (some false)
theorem laws_eqIntS.calls (k : Nat) (A0 : Option Addr) (c0 : Nat) (l0 : List Int) (A1 : Option Addr) (c1 : Nat) (l1 : List Int) (r : Bool) (w : World) (hr0 : Kd.C (Kd.int .i64) w A0 l0.length l0) (hc0 : l0.length ≤ c0) (hr1 : Kd.C (Kd.int .i64) w A1 l1.length l1) (hc1 : l1.length ≤ c1) (h : laws_eqIntS.f k l0 l1 = some r) :
 Calls Tryd.prog 48 #[.slice A0 l0.length c0, .slice A1 l1.length c1] w fun e w' => e = .returned (.bool r) ∧ Drawn0 w w' := by
 have HR0 := A_ hr0
 have HC0 := A_ hc0
 clear hr0 hc0
 have HR1 := A_ hr1
 have HC1 := A_ hc1
 clear hr1 hc1
 have H : (if (l0.length : Int) = (l1.length : Int) then (laws_eqIntS.l0 k l0 l1 0) else (some false)) = some r := h
 clear h
 by_cases c3 : (l0.length : Int) = (l1.length : Int)
 rotate_left
 · rw [if_neg c3] at H
   have c3b0 : ((l0.length : Int) == (l1.length : Int)) = false := beq_eq_false_iff_ne.mpr c3
   have c3b1 : ((l0.length : Int) != (l1.length : Int)) = true := bne_iff_ne.mpr c3
   have c3b2 : (l0.length == l1.length) = false := by first | simpa using c3 | (simp at c3 ⊢; omega)
   obtain rfl := si_ H
   go_enter Tryd.func48, Tryd.ntmps48
   go_wp2
   repeat (go_quiet (fail); try go_wp2)
   go_ret
   exact ⟨rs_, dr_⟩
 rw [if_pos c3] at H
 have c3b0 : ((l0.length : Int) == (l1.length : Int)) = true := beq_iff_eq.mpr c3
 have c3b1 : ((l0.length : Int) != (l1.length : Int)) = false := bne_eq_false_iff_eq.mpr c3
 have c3b2 : (l0.length == l1.length) = true := by first | simpa using c3 | (simp at c3 ⊢; omega)
 clear c3
 have H' := A_ H
 clear H
 go_enter Tryd.func48, Tryd.ntmps48
 go_wp2
 repeat (go_quiet (fail); try go_wp2)
 go_loopg [5] k (fun kq v5 w' => ∃ (x5_1 : Int), v5 = .int .i64 x5_1 ∧ Aside0 (laws_eqIntS.l0 kq l0 l1 x5_1 = some r) ∧ Aside0 (kq ≤ k) ∧ Drawn0 w w')
 case atStart => exact ⟨(0), rs_, H', ⟨Nat.le_refl _⟩, dr_⟩
 case round =>
  clear H'
  try clear c1
  try clear p2
  try clear c3
  try clear c3b0
  try clear c3b1
  try clear c3b2
  obtain ⟨x5_1, rfl, HA, HK1, ⟨m1, rfl⟩⟩ := hrel
  cases gk with
  | zero => exact absurd HA.out (by simp [laws_eqIntS.l0])
  | succ k1 =>
   have H := HA.out
   clear HA
   simp only [laws_eqIntS.l0] at H
   by_cases c4 : x5_1 < (l0.length : Int)
   rotate_left
   · rw [if_neg c4] at H
     have c4b0 : decide (x5_1 < (l0.length : Int)) = false := decide_eq_false c4
     clear c4
     obtain rfl := si_ H
     go_wp2
     repeat (go_quiet (fail); try go_wp2)
     go_ret
     exact ⟨rs_, dr_⟩
   rw [if_pos c4] at H
   have c4b0 : decide (x5_1 < (l0.length : Int)) = true := decide_eq_true c4
   clear c4
   by_cases c5 : 0 ≤ x5_1
   rotate_left
   · exact absurd H (by rw [if_neg c5]; simp)
   rw [if_pos c5] at H
   have c5b0 : decide (0 ≤ x5_1) = true := decide_eq_true c5
   clear c5
   by_cases c6 : x5_1 < (l1.length : Int)
   rotate_left
   · exact absurd H (by rw [if_neg c6]; simp)
   rw [if_pos c6] at H
   have c6b0 : decide (x5_1 < (l1.length : Int)) = true := decide_eq_true c6
   clear c6
   by_cases c7 : (rd l0 x5_1) = (rd l1 x5_1)
   rotate_left
   · rw [if_neg c7] at H
     have c7b0 : ((rd l0 x5_1) == (rd l1 x5_1)) = false := beq_eq_false_iff_ne.mpr c7
     have c7b1 : ((rd l0 x5_1) != (rd l1 x5_1)) = true := bne_iff_ne.mpr c7
     obtain rfl := si_ H
     have p330 : 0 ≤ (x5_1 : Int) := od_
     have q330 : x5_1 < (l0.length : Int) := od_
     obtain ⟨ad330, e330, hx330_0⟩ := Kd.at_int HR0.out x5_1 p330 q330
     cases e330
     replace p330 := eq_true p330
     replace q330 := eq_true q330
     have p331 : 0 ≤ (x5_1 : Int) := od_
     have q331 : x5_1 < (l1.length : Int) := od_
     obtain ⟨ad331, e331, hx331_0⟩ := Kd.at_int HR1.out x5_1 p331 q331
     cases e331
     replace p331 := eq_true p331
     replace q331 := eq_true q331
     go_wp2
     repeat (go_quiet (fail); try go_wp2)
     go_ret
     exact ⟨rs_, dr_⟩
   rw [if_pos c7] at H
   have c7b0 : ((rd l0 x5_1) == (rd l1 x5_1)) = true := beq_iff_eq.mpr c7
   have c7b1 : ((rd l0 x5_1) != (rd l1 x5_1)) = false := bne_eq_false_iff_eq.mpr c7
   clear c7
   have H' := A_ H
   clear H
   have p330 : 0 ≤ (x5_1 : Int) := od_
   have q330 : x5_1 < (l0.length : Int) := od_
   obtain ⟨ad330, e330, hx330_0⟩ := Kd.at_int HR0.out x5_1 p330 q330
   cases e330
   replace p330 := eq_true p330
   replace q330 := eq_true q330
   have p331 : 0 ≤ (x5_1 : Int) := od_
   have q331 : x5_1 < (l1.length : Int) := od_
   obtain ⟨ad331, e331, hx331_0⟩ := Kd.at_int HR1.out x5_1 p331 q331
   cases e331
   replace p331 := eq_true p331
   replace q331 := eq_true q331
   go_wp2
   repeat (go_quiet (fail); try go_wp2)
   go_roundg k1
   case measure => have := HK1.out; omega
   case rel => exact ⟨(wrap64 (x5_1 + 1)), rs_, H', ⟨by have := HK1.out; omega⟩, dr_⟩
def laws_eqSrv.f (k : Nat) (l0_0 : List (S67)) (l0_1 : List (S98)) (a0_2 : Int) (a0_3 : Int) (l0_4 : List Int) (l0_5 : List Int) (l1_0 : List (S67)) (l1_1 : List (S98)) (a1_2 : Int) (a1_3 : Int) (l1_4 : List Int) (l1_5 : List Int) : Option (Bool) := (laws_eqResS.f k l0_0 l1_0).bind fun t334 => (if t334 = true then ((laws_eqLockS.f k l0_1 l1_1).bind fun t335 => (if t335 = true then (if a0_2 = a1_2 then (if a0_3 = a1_3 then ((laws_eqIntS.f k l0_4 l1_4).bind fun t336 => (if t336 = true then ((laws_eqIntS.f k l0_5 l1_5).bind fun t337 => (if t337 = true then (some true) else (some false))) else (some false))) else (some false)) else (some false)) else (some false))) else (some false))
theorem laws_eqSrv.calls (k : Nat) (A0_0 : Option Addr) (c0_0 : Nat) (l0_0 : List (S67)) (A0_1 : Option Addr) (c0_1 : Nat) (l0_1 : List (S98)) (a0_2 : Int) (a0_3 : Int) (A0_4 : Option Addr) (c0_4 : Nat) (l0_4 : List Int) (A0_5 : Option Addr) (c0_5 : Nat) (l0_5 : List Int) (A1_0 : Option Addr) (c1_0 : Nat) (l1_0 : List (S67)) (A1_1 : Option Addr) (c1_1 : Nat) (l1_1 : List (S98)) (a1_2 : Int) (a1_3 : Int) (A1_4 : Option Addr) (c1_4 : Nat) (l1_4 : List Int) (A1_5 : Option Addr) (c1_5 : Nat) (l1_5 : List Int) (r : Bool) (w : World) (hr0_0 : Kd.C k67 w A0_0 l0_0.length l0_0) (hc0_0 : l0_0.length ≤ c0_0) (hr0_1 : Kd.C k98 w A0_1 l0_1.length l0_1) (hc0_1 : l0_1.length ≤ c0_1) (hr0_4 : Kd.C (Kd.int .i64) w A0_4 l0_4.length l0_4) (hc0_4 : l0_4.length ≤ c0_4) (hr0_5 : Kd.C (Kd.int .i64) w A0_5 l0_5.length l0_5) (hc0_5 : l0_5.length ≤ c0_5) (hr1_0 : Kd.C k67 w A1_0 l1_0.length l1_0) (hc1_0 : l1_0.length ≤ c1_0) (hr1_1 : Kd.C k98 w A1_1 l1_1.length l1_1) (hc1_1 : l1_1.length ≤ c1_1) (hr1_4 : Kd.C (Kd.int .i64) w A1_4 l1_4.length l1_4) (hc1_4 : l1_4.length ≤ c1_4) (hr1_5 : Kd.C (Kd.int .i64) w A1_5 l1_5.length l1_5) (hc1_5 : l1_5.length ≤ c1_5) (h : laws_eqSrv.f k l0_0 l0_1 a0_2 a0_3 l0_4 l0_5 l1_0 l1_1 a1_2 a1_3 l1_4 l1_5 = some r) :
 Calls Tryd.prog 23 #[.agg #[.slice A0_0 l0_0.length c0_0, .slice A0_1 l0_1.length c0_1, .int .i64 a0_2, .int .i64 a0_3, .slice A0_4 l0_4.length c0_4, .slice A0_5 l0_5.length c0_5], .agg #[.slice A1_0 l1_0.length c1_0, .slice A1_1 l1_1.length c1_1, .int .i64 a1_2, .int .i64 a1_3, .slice A1_4 l1_4.length c1_4, .slice A1_5 l1_5.length c1_5]] w fun e w' => e = .returned (.bool r) ∧ Below w.heap.size w w' := by
 have hu42 := Tryd.underlying42
 have HR0_0 := A_ hr0_0
 have HC0_0 := A_ hc0_0
 clear hr0_0 hc0_0
 have HR0_1 := A_ hr0_1
 have HC0_1 := A_ hc0_1
 clear hr0_1 hc0_1
 have HR0_4 := A_ hr0_4
 have HC0_4 := A_ hc0_4
 clear hr0_4 hc0_4
 have HR0_5 := A_ hr0_5
 have HC0_5 := A_ hc0_5
 clear hr0_5 hc0_5
 have HR1_0 := A_ hr1_0
 have HC1_0 := A_ hc1_0
 clear hr1_0 hc1_0
 have HR1_1 := A_ hr1_1
 have HC1_1 := A_ hc1_1
 clear hr1_1 hc1_1
 have HR1_4 := A_ hr1_4
 have HC1_4 := A_ hc1_4
 clear hr1_4 hc1_4
 have HR1_5 := A_ hr1_5
 have HC1_5 := A_ hc1_5
 clear hr1_5 hc1_5
 have HB := A_ (Below.refl w.heap.size w)
 have H : ((laws_eqResS.f k l0_0 l1_0).bind fun t334 => (if t334 = true then ((laws_eqLockS.f k l0_1 l1_1).bind fun t335 => (if t335 = true then (if a0_2 = a1_2 then (if a0_3 = a1_3 then ((laws_eqIntS.f k l0_4 l1_4).bind fun t336 => (if t336 = true then ((laws_eqIntS.f k l0_5 l1_5).bind fun t337 => (if t337 = true then (some true) else (some false))) else (some false))) else (some false)) else (some false)) else (some false))) else (some false))) = some r := h
 clear h
 obtain ⟨t334, A3, H⟩ := bo_ H
 (try dsimp only at H)
 by_cases c4 : t334 = true
 · subst c4
   rw [if_pos rfl] at H
   obtain ⟨t335, A5, H⟩ := bo_ H
   (try dsimp only at H)
   by_cases c6 : t335 = true
   · subst c6
     rw [if_pos rfl] at H
     by_cases c7 : a0_2 = a1_2
     rotate_left
     · rw [if_neg c7] at H
       have c7b0 : (a0_2 == a1_2) = false := beq_eq_false_iff_ne.mpr c7
       have c7b1 : (a0_2 != a1_2) = true := bne_iff_ne.mpr c7
       obtain rfl := si_ H
       go_enter Tryd.func23, Tryd.ntmps23
       go_wp2_with (first | ((with_reducible refine gd_ (N := 2) rfl ?_); refine bx_ (N := 2) (cs := #[.slice A0_0 l0_0.length c0_0, .slice A0_1 l0_1.length c0_1, .int .i64 a0_2, .int .i64 a0_3, .slice A0_4 l0_4.length c0_4, .slice A0_5 l0_5.length c0_5]) (t := 42) ?_; intro gb332 hg w57 hbox hb; have BK332 := A_ (hbox); have GW332 := A_ (ge_ hg bB_ : w.heap.size ≤ gb332); have GE332 := A_ (ge_ hg bB_ : w.heap.size ≤ gb332); replace HB := A_ (below_step bB_ hb); clear hb hbox hg) | ((with_reducible refine gd_ (N := 3) rfl ?_); refine bx_ (N := 3) (cs := #[.slice A1_0 l1_0.length c1_0, .slice A1_1 l1_1.length c1_1, .int .i64 a1_2, .int .i64 a1_3, .slice A1_4 l1_4.length c1_4, .slice A1_5 l1_5.length c1_5]) (t := 42) ?_; intro gb333 hg w58 hbox hb; have BK333 := A_ (hbox); have GW333 := A_ (ge_ hg (bG_ GE332.out) : w.heap.size ≤ gb333); have GE333 := A_ (ge_ hg (bG_ GE332.out) : w.heap.size ≤ gb333); replace HB := A_ (below_step (bG_ GE332.out) hb); have NB332_333 := A_ (gm_ hg BK332.out); have NB333_332 := A_ (gn_ hg BK332.out); replace BK332 := A_ (bw_ BK332.out hb); clear hb hbox hg; have hnb59 := NB332_333.out; have hnc59 := NB333_332.out; obtain ⟨hcz60_0, hcz60_1, hcz60_2, hcz60_3, hcz60_4, hcz60_5, hfz60_0, hfz60_1, hfz60_2, hfz60_3, hfz60_4, hfz60_5⟩ := cz6_ BK332.out; obtain ⟨hcz61_0, hcz61_1, hcz61_2, hcz61_3, hcz61_4, hcz61_5, hfz61_0, hfz61_1, hfz61_2, hfz61_3, hfz61_4, hfz61_5⟩ := cz6_ BK333.out) | ((with_reducible refine gc_ (f := 46) rfl ?_); refine gL_ (some 9) Tryd.func46 #[.slice A0_0 l0_0.length c0_0, .slice A1_0 l1_0.length c1_0] ?_; (with_reducible refine (laws_eqResS.calls k _ _ l0_0 _ _ l1_0 true _ ?s1 ?s2 ?s3 ?s4 A3.out).mono ?_); (case s1 => exact cC_ (Kd.C_below HR0_0.out HB.out)); (case s2 => exact HC0_0.out); (case s3 => exact cC_ (Kd.C_below HR1_0.out HB.out)); (case s4 => exact HC1_0.out); rintro e w62 ⟨rfl, hb⟩; refine ⟨_, rfl, ?_⟩; replace BK332 := A_ (bw_ BK332.out hb); replace BK333 := A_ (bw_ BK333.out hb); replace HB := A_ (below_step (by repeat (first | (with_reducible first | exact HB.out | apply below_alloc | apply pw_below_drewN | apply below_drew1 | refine below_set ?_ GE332.out | refine below_set ?_ GE333.out) | exact HB.out)) hb); (try clear hb); obtain ⟨hcz63_0, hcz63_1, hcz63_2, hcz63_3, hcz63_4, hcz63_5, hfz63_0, hfz63_1, hfz63_2, hfz63_3, hfz63_4, hfz63_5⟩ := cz6_ BK332.out; obtain ⟨hcz64_0, hcz64_1, hcz64_2, hcz64_3, hcz64_4, hcz64_5, hfz64_0, hfz64_1, hfz64_2, hfz64_3, hfz64_4, hfz64_5⟩ := cz6_ BK333.out) | ((with_reducible refine gc_ (f := 47) rfl ?_); refine gL_ (some 15) Tryd.func47 #[.slice A0_1 l0_1.length c0_1, .slice A1_1 l1_1.length c1_1] ?_; (with_reducible refine (laws_eqLockS.calls k _ _ l0_1 _ _ l1_1 true _ ?s1 ?s2 ?s3 ?s4 A5.out).mono ?_); (case s1 => exact cC_ (Kd.C_below HR0_1.out HB.out)); (case s2 => exact HC0_1.out); (case s3 => exact cC_ (Kd.C_below HR1_1.out HB.out)); (case s4 => exact HC1_1.out); rintro e w65 ⟨rfl, hb⟩; refine ⟨_, rfl, ?_⟩; replace BK332 := A_ (bw_ BK332.out hb); replace BK333 := A_ (bw_ BK333.out hb); replace HB := A_ (below_step (by repeat (first | (with_reducible first | exact HB.out | apply below_alloc | apply pw_below_drewN | apply below_drew1 | refine below_set ?_ GE332.out | refine below_set ?_ GE333.out) | exact HB.out)) hb); (try clear hb); obtain ⟨hcz66_0, hcz66_1, hcz66_2, hcz66_3, hcz66_4, hcz66_5, hfz66_0, hfz66_1, hfz66_2, hfz66_3, hfz66_4, hfz66_5⟩ := cz6_ BK332.out; obtain ⟨hcz67_0, hcz67_1, hcz67_2, hcz67_3, hcz67_4, hcz67_5, hfz67_0, hfz67_1, hfz67_2, hfz67_3, hfz67_4, hfz67_5⟩ := cz6_ BK333.out))
       go_ret
       exact ⟨rr_, by repeat (first | (with_reducible first | exact HB.out | apply below_alloc | apply pw_below_drewN | apply below_drew1 | refine below_set ?_ GE332.out | refine below_set ?_ GE333.out) | exact HB.out)⟩
     rw [if_pos c7] at H
     have c7b0 : (a0_2 == a1_2) = true := beq_iff_eq.mpr c7
     have c7b1 : (a0_2 != a1_2) = false := bne_eq_false_iff_eq.mpr c7
     clear c7
     by_cases c8 : a0_3 = a1_3
     rotate_left
     · rw [if_neg c8] at H
       have c8b0 : (a0_3 == a1_3) = false := beq_eq_false_iff_ne.mpr c8
       have c8b1 : (a0_3 != a1_3) = true := bne_iff_ne.mpr c8
       obtain rfl := si_ H
       go_enter Tryd.func23, Tryd.ntmps23
       go_wp2_with (first | ((with_reducible refine gd_ (N := 2) rfl ?_); refine bx_ (N := 2) (cs := #[.slice A0_0 l0_0.length c0_0, .slice A0_1 l0_1.length c0_1, .int .i64 a0_2, .int .i64 a0_3, .slice A0_4 l0_4.length c0_4, .slice A0_5 l0_5.length c0_5]) (t := 42) ?_; intro gb332 hg w46 hbox hb; have BK332 := A_ (hbox); have GW332 := A_ (ge_ hg bB_ : w.heap.size ≤ gb332); have GE332 := A_ (ge_ hg bB_ : w.heap.size ≤ gb332); replace HB := A_ (below_step bB_ hb); clear hb hbox hg) | ((with_reducible refine gd_ (N := 3) rfl ?_); refine bx_ (N := 3) (cs := #[.slice A1_0 l1_0.length c1_0, .slice A1_1 l1_1.length c1_1, .int .i64 a1_2, .int .i64 a1_3, .slice A1_4 l1_4.length c1_4, .slice A1_5 l1_5.length c1_5]) (t := 42) ?_; intro gb333 hg w47 hbox hb; have BK333 := A_ (hbox); have GW333 := A_ (ge_ hg (bG_ GE332.out) : w.heap.size ≤ gb333); have GE333 := A_ (ge_ hg (bG_ GE332.out) : w.heap.size ≤ gb333); replace HB := A_ (below_step (bG_ GE332.out) hb); have NB332_333 := A_ (gm_ hg BK332.out); have NB333_332 := A_ (gn_ hg BK332.out); replace BK332 := A_ (bw_ BK332.out hb); clear hb hbox hg; have hnb48 := NB332_333.out; have hnc48 := NB333_332.out; obtain ⟨hcz49_0, hcz49_1, hcz49_2, hcz49_3, hcz49_4, hcz49_5, hfz49_0, hfz49_1, hfz49_2, hfz49_3, hfz49_4, hfz49_5⟩ := cz6_ BK332.out; obtain ⟨hcz50_0, hcz50_1, hcz50_2, hcz50_3, hcz50_4, hcz50_5, hfz50_0, hfz50_1, hfz50_2, hfz50_3, hfz50_4, hfz50_5⟩ := cz6_ BK333.out) | ((with_reducible refine gc_ (f := 46) rfl ?_); refine gL_ (some 9) Tryd.func46 #[.slice A0_0 l0_0.length c0_0, .slice A1_0 l1_0.length c1_0] ?_; (with_reducible refine (laws_eqResS.calls k _ _ l0_0 _ _ l1_0 true _ ?s1 ?s2 ?s3 ?s4 A3.out).mono ?_); (case s1 => exact cC_ (Kd.C_below HR0_0.out HB.out)); (case s2 => exact HC0_0.out); (case s3 => exact cC_ (Kd.C_below HR1_0.out HB.out)); (case s4 => exact HC1_0.out); rintro e w51 ⟨rfl, hb⟩; refine ⟨_, rfl, ?_⟩; replace BK332 := A_ (bw_ BK332.out hb); replace BK333 := A_ (bw_ BK333.out hb); replace HB := A_ (below_step (by repeat (first | (with_reducible first | exact HB.out | apply below_alloc | apply pw_below_drewN | apply below_drew1 | refine below_set ?_ GE332.out | refine below_set ?_ GE333.out) | exact HB.out)) hb); (try clear hb); obtain ⟨hcz52_0, hcz52_1, hcz52_2, hcz52_3, hcz52_4, hcz52_5, hfz52_0, hfz52_1, hfz52_2, hfz52_3, hfz52_4, hfz52_5⟩ := cz6_ BK332.out; obtain ⟨hcz53_0, hcz53_1, hcz53_2, hcz53_3, hcz53_4, hcz53_5, hfz53_0, hfz53_1, hfz53_2, hfz53_3, hfz53_4, hfz53_5⟩ := cz6_ BK333.out) | ((with_reducible refine gc_ (f := 47) rfl ?_); refine gL_ (some 15) Tryd.func47 #[.slice A0_1 l0_1.length c0_1, .slice A1_1 l1_1.length c1_1] ?_; (with_reducible refine (laws_eqLockS.calls k _ _ l0_1 _ _ l1_1 true _ ?s1 ?s2 ?s3 ?s4 A5.out).mono ?_); (case s1 => exact cC_ (Kd.C_below HR0_1.out HB.out)); (case s2 => exact HC0_1.out); (case s3 => exact cC_ (Kd.C_below HR1_1.out HB.out)); (case s4 => exact HC1_1.out); rintro e w54 ⟨rfl, hb⟩; refine ⟨_, rfl, ?_⟩; replace BK332 := A_ (bw_ BK332.out hb); replace BK333 := A_ (bw_ BK333.out hb); replace HB := A_ (below_step (by repeat (first | (with_reducible first | exact HB.out | apply below_alloc | apply pw_below_drewN | apply below_drew1 | refine below_set ?_ GE332.out | refine below_set ?_ GE333.out) | exact HB.out)) hb); (try clear hb); obtain ⟨hcz55_0, hcz55_1, hcz55_2, hcz55_3, hcz55_4, hcz55_5, hfz55_0, hfz55_1, hfz55_2, hfz55_3, hfz55_4, hfz55_5⟩ := cz6_ BK332.out; obtain ⟨hcz56_0, hcz56_1, hcz56_2, hcz56_3, hcz56_4, hcz56_5, hfz56_0, hfz56_1, hfz56_2, hfz56_3, hfz56_4, hfz56_5⟩ := cz6_ BK333.out))
       go_ret
       exact ⟨rr_, by repeat (first | (with_reducible first | exact HB.out | apply below_alloc | apply pw_below_drewN | apply below_drew1 | refine below_set ?_ GE332.out | refine below_set ?_ GE333.out) | exact HB.out)⟩
     rw [if_pos c8] at H
     have c8b0 : (a0_3 == a1_3) = true := beq_iff_eq.mpr c8
     have c8b1 : (a0_3 != a1_3) = false := bne_eq_false_iff_eq.mpr c8
     clear c8
     obtain ⟨t336, A9, H⟩ := bo_ H
     (try dsimp only at H)
     by_cases c10 : t336 = true
     · subst c10
       rw [if_pos rfl] at H
       obtain ⟨t337, A11, H⟩ := bo_ H
       (try dsimp only at H)
       by_cases c12 : t337 = true
       · subst c12
         rw [if_pos rfl] at H
         obtain rfl := si_ H
         go_enter Tryd.func23, Tryd.ntmps23
         go_wp2_with (first | ((with_reducible refine gd_ (N := 2) rfl ?_); refine bx_ (N := 2) (cs := #[.slice A0_0 l0_0.length c0_0, .slice A0_1 l0_1.length c0_1, .int .i64 a0_2, .int .i64 a0_3, .slice A0_4 l0_4.length c0_4, .slice A0_5 l0_5.length c0_5]) (t := 42) ?_; intro gb332 hg w13 hbox hb; have BK332 := A_ (hbox); have GW332 := A_ (ge_ hg bB_ : w.heap.size ≤ gb332); have GE332 := A_ (ge_ hg bB_ : w.heap.size ≤ gb332); replace HB := A_ (below_step bB_ hb); clear hb hbox hg) | ((with_reducible refine gd_ (N := 3) rfl ?_); refine bx_ (N := 3) (cs := #[.slice A1_0 l1_0.length c1_0, .slice A1_1 l1_1.length c1_1, .int .i64 a1_2, .int .i64 a1_3, .slice A1_4 l1_4.length c1_4, .slice A1_5 l1_5.length c1_5]) (t := 42) ?_; intro gb333 hg w14 hbox hb; have BK333 := A_ (hbox); have GW333 := A_ (ge_ hg (bG_ GE332.out) : w.heap.size ≤ gb333); have GE333 := A_ (ge_ hg (bG_ GE332.out) : w.heap.size ≤ gb333); replace HB := A_ (below_step (bG_ GE332.out) hb); have NB332_333 := A_ (gm_ hg BK332.out); have NB333_332 := A_ (gn_ hg BK332.out); replace BK332 := A_ (bw_ BK332.out hb); clear hb hbox hg; have hnb15 := NB332_333.out; have hnc15 := NB333_332.out; obtain ⟨hcz16_0, hcz16_1, hcz16_2, hcz16_3, hcz16_4, hcz16_5, hfz16_0, hfz16_1, hfz16_2, hfz16_3, hfz16_4, hfz16_5⟩ := cz6_ BK332.out; obtain ⟨hcz17_0, hcz17_1, hcz17_2, hcz17_3, hcz17_4, hcz17_5, hfz17_0, hfz17_1, hfz17_2, hfz17_3, hfz17_4, hfz17_5⟩ := cz6_ BK333.out) | ((with_reducible refine gc_ (f := 46) rfl ?_); refine gL_ (some 9) Tryd.func46 #[.slice A0_0 l0_0.length c0_0, .slice A1_0 l1_0.length c1_0] ?_; (with_reducible refine (laws_eqResS.calls k _ _ l0_0 _ _ l1_0 true _ ?s1 ?s2 ?s3 ?s4 A3.out).mono ?_); (case s1 => exact cC_ (Kd.C_below HR0_0.out HB.out)); (case s2 => exact HC0_0.out); (case s3 => exact cC_ (Kd.C_below HR1_0.out HB.out)); (case s4 => exact HC1_0.out); rintro e w18 ⟨rfl, hb⟩; refine ⟨_, rfl, ?_⟩; replace BK332 := A_ (bw_ BK332.out hb); replace BK333 := A_ (bw_ BK333.out hb); replace HB := A_ (below_step (by repeat (first | (with_reducible first | exact HB.out | apply below_alloc | apply pw_below_drewN | apply below_drew1 | refine below_set ?_ GE332.out | refine below_set ?_ GE333.out) | exact HB.out)) hb); (try clear hb); obtain ⟨hcz19_0, hcz19_1, hcz19_2, hcz19_3, hcz19_4, hcz19_5, hfz19_0, hfz19_1, hfz19_2, hfz19_3, hfz19_4, hfz19_5⟩ := cz6_ BK332.out; obtain ⟨hcz20_0, hcz20_1, hcz20_2, hcz20_3, hcz20_4, hcz20_5, hfz20_0, hfz20_1, hfz20_2, hfz20_3, hfz20_4, hfz20_5⟩ := cz6_ BK333.out) | ((with_reducible refine gc_ (f := 47) rfl ?_); refine gL_ (some 15) Tryd.func47 #[.slice A0_1 l0_1.length c0_1, .slice A1_1 l1_1.length c1_1] ?_; (with_reducible refine (laws_eqLockS.calls k _ _ l0_1 _ _ l1_1 true _ ?s1 ?s2 ?s3 ?s4 A5.out).mono ?_); (case s1 => exact cC_ (Kd.C_below HR0_1.out HB.out)); (case s2 => exact HC0_1.out); (case s3 => exact cC_ (Kd.C_below HR1_1.out HB.out)); (case s4 => exact HC1_1.out); rintro e w21 ⟨rfl, hb⟩; refine ⟨_, rfl, ?_⟩; replace BK332 := A_ (bw_ BK332.out hb); replace BK333 := A_ (bw_ BK333.out hb); replace HB := A_ (below_step (by repeat (first | (with_reducible first | exact HB.out | apply below_alloc | apply pw_below_drewN | apply below_drew1 | refine below_set ?_ GE332.out | refine below_set ?_ GE333.out) | exact HB.out)) hb); (try clear hb); obtain ⟨hcz22_0, hcz22_1, hcz22_2, hcz22_3, hcz22_4, hcz22_5, hfz22_0, hfz22_1, hfz22_2, hfz22_3, hfz22_4, hfz22_5⟩ := cz6_ BK332.out; obtain ⟨hcz23_0, hcz23_1, hcz23_2, hcz23_3, hcz23_4, hcz23_5, hfz23_0, hfz23_1, hfz23_2, hfz23_3, hfz23_4, hfz23_5⟩ := cz6_ BK333.out) | ((with_reducible refine gc_ (f := 48) rfl ?_); refine gL_ (some 31) Tryd.func48 #[.slice A0_4 l0_4.length c0_4, .slice A1_4 l1_4.length c1_4] ?_; (with_reducible refine (laws_eqIntS.calls k _ _ l0_4 _ _ l1_4 true _ ?s1 ?s2 ?s3 ?s4 A9.out).mono ?_); (case s1 => exact cC_ (Kd.C_below HR0_4.out HB.out)); (case s2 => exact HC0_4.out); (case s3 => exact cC_ (Kd.C_below HR1_4.out HB.out)); (case s4 => exact HC1_4.out); rintro e w' ⟨rfl, ⟨nd, rfl⟩⟩; refine ⟨_, rfl, ?_⟩) | ((with_reducible refine gc_ (f := 48) rfl ?_); refine gL_ (some 37) Tryd.func48 #[.slice A0_5 l0_5.length c0_5, .slice A1_5 l1_5.length c1_5] ?_; (with_reducible refine (laws_eqIntS.calls k _ _ l0_5 _ _ l1_5 true _ ?s1 ?s2 ?s3 ?s4 A11.out).mono ?_); (case s1 => repeat (first | exact (Kd.C_below HR0_5.out (by repeat (first | (with_reducible first | exact HB.out | apply below_alloc | apply pw_below_drewN | apply below_drew1 | refine below_set ?_ GE332.out | refine below_set ?_ GE333.out) | exact HB.out))) | (with_reducible refine Kd.C_alloc ?_ _) | (with_reducible refine Kd.C_drewN ?_ _) | (with_reducible refine Kd.C_drew ?_))); (case s2 => exact HC0_5.out); (case s3 => repeat (first | exact (Kd.C_below HR1_5.out (by repeat (first | (with_reducible first | exact HB.out | apply below_alloc | apply pw_below_drewN | apply below_drew1 | refine below_set ?_ GE332.out | refine below_set ?_ GE333.out) | exact HB.out))) | (with_reducible refine Kd.C_alloc ?_ _) | (with_reducible refine Kd.C_drewN ?_ _) | (with_reducible refine Kd.C_drew ?_))); (case s4 => exact HC1_5.out); rintro e w' ⟨rfl, ⟨nd, rfl⟩⟩; refine ⟨_, rfl, ?_⟩))
         go_ret
         exact ⟨rr_, by repeat (first | (with_reducible first | exact HB.out | apply below_alloc | apply pw_below_drewN | apply below_drew1 | refine below_set ?_ GE332.out | refine below_set ?_ GE333.out) | exact HB.out)⟩
       · replace c12 := Bool.eq_false_iff.mpr c12
         subst c12
         rw [if_neg nf_] at H
         obtain rfl := si_ H
         go_enter Tryd.func23, Tryd.ntmps23
         go_wp2_with (first | ((with_reducible refine gd_ (N := 2) rfl ?_); refine bx_ (N := 2) (cs := #[.slice A0_0 l0_0.length c0_0, .slice A0_1 l0_1.length c0_1, .int .i64 a0_2, .int .i64 a0_3, .slice A0_4 l0_4.length c0_4, .slice A0_5 l0_5.length c0_5]) (t := 42) ?_; intro gb332 hg w24 hbox hb; have BK332 := A_ (hbox); have GW332 := A_ (ge_ hg bB_ : w.heap.size ≤ gb332); have GE332 := A_ (ge_ hg bB_ : w.heap.size ≤ gb332); replace HB := A_ (below_step bB_ hb); clear hb hbox hg) | ((with_reducible refine gd_ (N := 3) rfl ?_); refine bx_ (N := 3) (cs := #[.slice A1_0 l1_0.length c1_0, .slice A1_1 l1_1.length c1_1, .int .i64 a1_2, .int .i64 a1_3, .slice A1_4 l1_4.length c1_4, .slice A1_5 l1_5.length c1_5]) (t := 42) ?_; intro gb333 hg w25 hbox hb; have BK333 := A_ (hbox); have GW333 := A_ (ge_ hg (bG_ GE332.out) : w.heap.size ≤ gb333); have GE333 := A_ (ge_ hg (bG_ GE332.out) : w.heap.size ≤ gb333); replace HB := A_ (below_step (bG_ GE332.out) hb); have NB332_333 := A_ (gm_ hg BK332.out); have NB333_332 := A_ (gn_ hg BK332.out); replace BK332 := A_ (bw_ BK332.out hb); clear hb hbox hg; have hnb26 := NB332_333.out; have hnc26 := NB333_332.out; obtain ⟨hcz27_0, hcz27_1, hcz27_2, hcz27_3, hcz27_4, hcz27_5, hfz27_0, hfz27_1, hfz27_2, hfz27_3, hfz27_4, hfz27_5⟩ := cz6_ BK332.out; obtain ⟨hcz28_0, hcz28_1, hcz28_2, hcz28_3, hcz28_4, hcz28_5, hfz28_0, hfz28_1, hfz28_2, hfz28_3, hfz28_4, hfz28_5⟩ := cz6_ BK333.out) | ((with_reducible refine gc_ (f := 46) rfl ?_); refine gL_ (some 9) Tryd.func46 #[.slice A0_0 l0_0.length c0_0, .slice A1_0 l1_0.length c1_0] ?_; (with_reducible refine (laws_eqResS.calls k _ _ l0_0 _ _ l1_0 true _ ?s1 ?s2 ?s3 ?s4 A3.out).mono ?_); (case s1 => exact cC_ (Kd.C_below HR0_0.out HB.out)); (case s2 => exact HC0_0.out); (case s3 => exact cC_ (Kd.C_below HR1_0.out HB.out)); (case s4 => exact HC1_0.out); rintro e w29 ⟨rfl, hb⟩; refine ⟨_, rfl, ?_⟩; replace BK332 := A_ (bw_ BK332.out hb); replace BK333 := A_ (bw_ BK333.out hb); replace HB := A_ (below_step (by repeat (first | (with_reducible first | exact HB.out | apply below_alloc | apply pw_below_drewN | apply below_drew1 | refine below_set ?_ GE332.out | refine below_set ?_ GE333.out) | exact HB.out)) hb); (try clear hb); obtain ⟨hcz30_0, hcz30_1, hcz30_2, hcz30_3, hcz30_4, hcz30_5, hfz30_0, hfz30_1, hfz30_2, hfz30_3, hfz30_4, hfz30_5⟩ := cz6_ BK332.out; obtain ⟨hcz31_0, hcz31_1, hcz31_2, hcz31_3, hcz31_4, hcz31_5, hfz31_0, hfz31_1, hfz31_2, hfz31_3, hfz31_4, hfz31_5⟩ := cz6_ BK333.out) | ((with_reducible refine gc_ (f := 47) rfl ?_); refine gL_ (some 15) Tryd.func47 #[.slice A0_1 l0_1.length c0_1, .slice A1_1 l1_1.length c1_1] ?_; (with_reducible refine (laws_eqLockS.calls k _ _ l0_1 _ _ l1_1 true _ ?s1 ?s2 ?s3 ?s4 A5.out).mono ?_); (case s1 => exact cC_ (Kd.C_below HR0_1.out HB.out)); (case s2 => exact HC0_1.out); (case s3 => exact cC_ (Kd.C_below HR1_1.out HB.out)); (case s4 => exact HC1_1.out); rintro e w32 ⟨rfl, hb⟩; refine ⟨_, rfl, ?_⟩; replace BK332 := A_ (bw_ BK332.out hb); replace BK333 := A_ (bw_ BK333.out hb); replace HB := A_ (below_step (by repeat (first | (with_reducible first | exact HB.out | apply below_alloc | apply pw_below_drewN | apply below_drew1 | refine below_set ?_ GE332.out | refine below_set ?_ GE333.out) | exact HB.out)) hb); (try clear hb); obtain ⟨hcz33_0, hcz33_1, hcz33_2, hcz33_3, hcz33_4, hcz33_5, hfz33_0, hfz33_1, hfz33_2, hfz33_3, hfz33_4, hfz33_5⟩ := cz6_ BK332.out; obtain ⟨hcz34_0, hcz34_1, hcz34_2, hcz34_3, hcz34_4, hcz34_5, hfz34_0, hfz34_1, hfz34_2, hfz34_3, hfz34_4, hfz34_5⟩ := cz6_ BK333.out) | ((with_reducible refine gc_ (f := 48) rfl ?_); refine gL_ (some 31) Tryd.func48 #[.slice A0_4 l0_4.length c0_4, .slice A1_4 l1_4.length c1_4] ?_; (with_reducible refine (laws_eqIntS.calls k _ _ l0_4 _ _ l1_4 true _ ?s1 ?s2 ?s3 ?s4 A9.out).mono ?_); (case s1 => exact cC_ (Kd.C_below HR0_4.out HB.out)); (case s2 => exact HC0_4.out); (case s3 => exact cC_ (Kd.C_below HR1_4.out HB.out)); (case s4 => exact HC1_4.out); rintro e w' ⟨rfl, ⟨nd, rfl⟩⟩; refine ⟨_, rfl, ?_⟩) | ((with_reducible refine gc_ (f := 48) rfl ?_); refine gL_ (some 37) Tryd.func48 #[.slice A0_5 l0_5.length c0_5, .slice A1_5 l1_5.length c1_5] ?_; (with_reducible refine (laws_eqIntS.calls k _ _ l0_5 _ _ l1_5 false _ ?s1 ?s2 ?s3 ?s4 A11.out).mono ?_); (case s1 => repeat (first | exact (Kd.C_below HR0_5.out (by repeat (first | (with_reducible first | exact HB.out | apply below_alloc | apply pw_below_drewN | apply below_drew1 | refine below_set ?_ GE332.out | refine below_set ?_ GE333.out) | exact HB.out))) | (with_reducible refine Kd.C_alloc ?_ _) | (with_reducible refine Kd.C_drewN ?_ _) | (with_reducible refine Kd.C_drew ?_))); (case s2 => exact HC0_5.out); (case s3 => repeat (first | exact (Kd.C_below HR1_5.out (by repeat (first | (with_reducible first | exact HB.out | apply below_alloc | apply pw_below_drewN | apply below_drew1 | refine below_set ?_ GE332.out | refine below_set ?_ GE333.out) | exact HB.out))) | (with_reducible refine Kd.C_alloc ?_ _) | (with_reducible refine Kd.C_drewN ?_ _) | (with_reducible refine Kd.C_drew ?_))); (case s4 => exact HC1_5.out); rintro e w' ⟨rfl, ⟨nd, rfl⟩⟩; refine ⟨_, rfl, ?_⟩))
         go_ret
         exact ⟨rr_, by repeat (first | (with_reducible first | exact HB.out | apply below_alloc | apply pw_below_drewN | apply below_drew1 | refine below_set ?_ GE332.out | refine below_set ?_ GE333.out) | exact HB.out)⟩
     · replace c10 := Bool.eq_false_iff.mpr c10
       subst c10
       rw [if_neg nf_] at H
       obtain rfl := si_ H
       go_enter Tryd.func23, Tryd.ntmps23
       go_wp2_with (first | ((with_reducible refine gd_ (N := 2) rfl ?_); refine bx_ (N := 2) (cs := #[.slice A0_0 l0_0.length c0_0, .slice A0_1 l0_1.length c0_1, .int .i64 a0_2, .int .i64 a0_3, .slice A0_4 l0_4.length c0_4, .slice A0_5 l0_5.length c0_5]) (t := 42) ?_; intro gb332 hg w35 hbox hb; have BK332 := A_ (hbox); have GW332 := A_ (ge_ hg bB_ : w.heap.size ≤ gb332); have GE332 := A_ (ge_ hg bB_ : w.heap.size ≤ gb332); replace HB := A_ (below_step bB_ hb); clear hb hbox hg) | ((with_reducible refine gd_ (N := 3) rfl ?_); refine bx_ (N := 3) (cs := #[.slice A1_0 l1_0.length c1_0, .slice A1_1 l1_1.length c1_1, .int .i64 a1_2, .int .i64 a1_3, .slice A1_4 l1_4.length c1_4, .slice A1_5 l1_5.length c1_5]) (t := 42) ?_; intro gb333 hg w36 hbox hb; have BK333 := A_ (hbox); have GW333 := A_ (ge_ hg (bG_ GE332.out) : w.heap.size ≤ gb333); have GE333 := A_ (ge_ hg (bG_ GE332.out) : w.heap.size ≤ gb333); replace HB := A_ (below_step (bG_ GE332.out) hb); have NB332_333 := A_ (gm_ hg BK332.out); have NB333_332 := A_ (gn_ hg BK332.out); replace BK332 := A_ (bw_ BK332.out hb); clear hb hbox hg; have hnb37 := NB332_333.out; have hnc37 := NB333_332.out; obtain ⟨hcz38_0, hcz38_1, hcz38_2, hcz38_3, hcz38_4, hcz38_5, hfz38_0, hfz38_1, hfz38_2, hfz38_3, hfz38_4, hfz38_5⟩ := cz6_ BK332.out; obtain ⟨hcz39_0, hcz39_1, hcz39_2, hcz39_3, hcz39_4, hcz39_5, hfz39_0, hfz39_1, hfz39_2, hfz39_3, hfz39_4, hfz39_5⟩ := cz6_ BK333.out) | ((with_reducible refine gc_ (f := 46) rfl ?_); refine gL_ (some 9) Tryd.func46 #[.slice A0_0 l0_0.length c0_0, .slice A1_0 l1_0.length c1_0] ?_; (with_reducible refine (laws_eqResS.calls k _ _ l0_0 _ _ l1_0 true _ ?s1 ?s2 ?s3 ?s4 A3.out).mono ?_); (case s1 => exact cC_ (Kd.C_below HR0_0.out HB.out)); (case s2 => exact HC0_0.out); (case s3 => exact cC_ (Kd.C_below HR1_0.out HB.out)); (case s4 => exact HC1_0.out); rintro e w40 ⟨rfl, hb⟩; refine ⟨_, rfl, ?_⟩; replace BK332 := A_ (bw_ BK332.out hb); replace BK333 := A_ (bw_ BK333.out hb); replace HB := A_ (below_step (by repeat (first | (with_reducible first | exact HB.out | apply below_alloc | apply pw_below_drewN | apply below_drew1 | refine below_set ?_ GE332.out | refine below_set ?_ GE333.out) | exact HB.out)) hb); (try clear hb); obtain ⟨hcz41_0, hcz41_1, hcz41_2, hcz41_3, hcz41_4, hcz41_5, hfz41_0, hfz41_1, hfz41_2, hfz41_3, hfz41_4, hfz41_5⟩ := cz6_ BK332.out; obtain ⟨hcz42_0, hcz42_1, hcz42_2, hcz42_3, hcz42_4, hcz42_5, hfz42_0, hfz42_1, hfz42_2, hfz42_3, hfz42_4, hfz42_5⟩ := cz6_ BK333.out) | ((with_reducible refine gc_ (f := 47) rfl ?_); refine gL_ (some 15) Tryd.func47 #[.slice A0_1 l0_1.length c0_1, .slice A1_1 l1_1.length c1_1] ?_; (with_reducible refine (laws_eqLockS.calls k _ _ l0_1 _ _ l1_1 true _ ?s1 ?s2 ?s3 ?s4 A5.out).mono ?_); (case s1 => exact cC_ (Kd.C_below HR0_1.out HB.out)); (case s2 => exact HC0_1.out); (case s3 => exact cC_ (Kd.C_below HR1_1.out HB.out)); (case s4 => exact HC1_1.out); rintro e w43 ⟨rfl, hb⟩; refine ⟨_, rfl, ?_⟩; replace BK332 := A_ (bw_ BK332.out hb); replace BK333 := A_ (bw_ BK333.out hb); replace HB := A_ (below_step (by repeat (first | (with_reducible first | exact HB.out | apply below_alloc | apply pw_below_drewN | apply below_drew1 | refine below_set ?_ GE332.out | refine below_set ?_ GE333.out) | exact HB.out)) hb); (try clear hb); obtain ⟨hcz44_0, hcz44_1, hcz44_2, hcz44_3, hcz44_4, hcz44_5, hfz44_0, hfz44_1, hfz44_2, hfz44_3, hfz44_4, hfz44_5⟩ := cz6_ BK332.out; obtain ⟨hcz45_0, hcz45_1, hcz45_2, hcz45_3, hcz45_4, hcz45_5, hfz45_0, hfz45_1, hfz45_2, hfz45_3, hfz45_4, hfz45_5⟩ := cz6_ BK333.out) | ((with_reducible refine gc_ (f := 48) rfl ?_); refine gL_ (some 31) Tryd.func48 #[.slice A0_4 l0_4.length c0_4, .slice A1_4 l1_4.length c1_4] ?_; (with_reducible refine (laws_eqIntS.calls k _ _ l0_4 _ _ l1_4 false _ ?s1 ?s2 ?s3 ?s4 A9.out).mono ?_); (case s1 => exact cC_ (Kd.C_below HR0_4.out HB.out)); (case s2 => exact HC0_4.out); (case s3 => exact cC_ (Kd.C_below HR1_4.out HB.out)); (case s4 => exact HC1_4.out); rintro e w' ⟨rfl, ⟨nd, rfl⟩⟩; refine ⟨_, rfl, ?_⟩))
       go_ret
       exact ⟨rr_, by repeat (first | (with_reducible first | exact HB.out | apply below_alloc | apply pw_below_drewN | apply below_drew1 | refine below_set ?_ GE332.out | refine below_set ?_ GE333.out) | exact HB.out)⟩
   · replace c6 := Bool.eq_false_iff.mpr c6
     subst c6
     rw [if_neg nf_] at H
     obtain rfl := si_ H
     go_enter Tryd.func23, Tryd.ntmps23
     go_wp2_with (first | ((with_reducible refine gd_ (N := 2) rfl ?_); refine bx_ (N := 2) (cs := #[.slice A0_0 l0_0.length c0_0, .slice A0_1 l0_1.length c0_1, .int .i64 a0_2, .int .i64 a0_3, .slice A0_4 l0_4.length c0_4, .slice A0_5 l0_5.length c0_5]) (t := 42) ?_; intro gb332 hg w68 hbox hb; have BK332 := A_ (hbox); have GW332 := A_ (ge_ hg bB_ : w.heap.size ≤ gb332); have GE332 := A_ (ge_ hg bB_ : w.heap.size ≤ gb332); replace HB := A_ (below_step bB_ hb); clear hb hbox hg) | ((with_reducible refine gd_ (N := 3) rfl ?_); refine bx_ (N := 3) (cs := #[.slice A1_0 l1_0.length c1_0, .slice A1_1 l1_1.length c1_1, .int .i64 a1_2, .int .i64 a1_3, .slice A1_4 l1_4.length c1_4, .slice A1_5 l1_5.length c1_5]) (t := 42) ?_; intro gb333 hg w69 hbox hb; have BK333 := A_ (hbox); have GW333 := A_ (ge_ hg (bG_ GE332.out) : w.heap.size ≤ gb333); have GE333 := A_ (ge_ hg (bG_ GE332.out) : w.heap.size ≤ gb333); replace HB := A_ (below_step (bG_ GE332.out) hb); have NB332_333 := A_ (gm_ hg BK332.out); have NB333_332 := A_ (gn_ hg BK332.out); replace BK332 := A_ (bw_ BK332.out hb); clear hb hbox hg; have hnb70 := NB332_333.out; have hnc70 := NB333_332.out; obtain ⟨hcz71_0, hcz71_1, hcz71_2, hcz71_3, hcz71_4, hcz71_5, hfz71_0, hfz71_1, hfz71_2, hfz71_3, hfz71_4, hfz71_5⟩ := cz6_ BK332.out; obtain ⟨hcz72_0, hcz72_1, hcz72_2, hcz72_3, hcz72_4, hcz72_5, hfz72_0, hfz72_1, hfz72_2, hfz72_3, hfz72_4, hfz72_5⟩ := cz6_ BK333.out) | ((with_reducible refine gc_ (f := 46) rfl ?_); refine gL_ (some 9) Tryd.func46 #[.slice A0_0 l0_0.length c0_0, .slice A1_0 l1_0.length c1_0] ?_; (with_reducible refine (laws_eqResS.calls k _ _ l0_0 _ _ l1_0 true _ ?s1 ?s2 ?s3 ?s4 A3.out).mono ?_); (case s1 => exact cC_ (Kd.C_below HR0_0.out HB.out)); (case s2 => exact HC0_0.out); (case s3 => exact cC_ (Kd.C_below HR1_0.out HB.out)); (case s4 => exact HC1_0.out); rintro e w73 ⟨rfl, hb⟩; refine ⟨_, rfl, ?_⟩; replace BK332 := A_ (bw_ BK332.out hb); replace BK333 := A_ (bw_ BK333.out hb); replace HB := A_ (below_step (by repeat (first | (with_reducible first | exact HB.out | apply below_alloc | apply pw_below_drewN | apply below_drew1 | refine below_set ?_ GE332.out | refine below_set ?_ GE333.out) | exact HB.out)) hb); (try clear hb); obtain ⟨hcz74_0, hcz74_1, hcz74_2, hcz74_3, hcz74_4, hcz74_5, hfz74_0, hfz74_1, hfz74_2, hfz74_3, hfz74_4, hfz74_5⟩ := cz6_ BK332.out; obtain ⟨hcz75_0, hcz75_1, hcz75_2, hcz75_3, hcz75_4, hcz75_5, hfz75_0, hfz75_1, hfz75_2, hfz75_3, hfz75_4, hfz75_5⟩ := cz6_ BK333.out) | ((with_reducible refine gc_ (f := 47) rfl ?_); refine gL_ (some 15) Tryd.func47 #[.slice A0_1 l0_1.length c0_1, .slice A1_1 l1_1.length c1_1] ?_; (with_reducible refine (laws_eqLockS.calls k _ _ l0_1 _ _ l1_1 false _ ?s1 ?s2 ?s3 ?s4 A5.out).mono ?_); (case s1 => exact cC_ (Kd.C_below HR0_1.out HB.out)); (case s2 => exact HC0_1.out); (case s3 => exact cC_ (Kd.C_below HR1_1.out HB.out)); (case s4 => exact HC1_1.out); rintro e w76 ⟨rfl, hb⟩; refine ⟨_, rfl, ?_⟩; replace BK332 := A_ (bw_ BK332.out hb); replace BK333 := A_ (bw_ BK333.out hb); replace HB := A_ (below_step (by repeat (first | (with_reducible first | exact HB.out | apply below_alloc | apply pw_below_drewN | apply below_drew1 | refine below_set ?_ GE332.out | refine below_set ?_ GE333.out) | exact HB.out)) hb); (try clear hb)))
     go_ret
     exact ⟨rr_, by repeat (first | (with_reducible first | exact HB.out | apply below_alloc | apply pw_below_drewN | apply below_drew1 | refine below_set ?_ GE332.out | refine below_set ?_ GE333.out) | exact HB.out)⟩
 · replace c4 := Bool.eq_false_iff.mpr c4
   subst c4
   rw [if_neg nf_] at H
   obtain rfl := si_ H
   go_enter Tryd.func23, Tryd.ntmps23
   go_wp2_with (first | ((with_reducible refine gd_ (N := 2) rfl ?_); refine bx_ (N := 2) (cs := #[.slice A0_0 l0_0.length c0_0, .slice A0_1 l0_1.length c0_1, .int .i64 a0_2, .int .i64 a0_3, .slice A0_4 l0_4.length c0_4, .slice A0_5 l0_5.length c0_5]) (t := 42) ?_; intro gb332 hg w77 hbox hb; have BK332 := A_ (hbox); have GW332 := A_ (ge_ hg bB_ : w.heap.size ≤ gb332); have GE332 := A_ (ge_ hg bB_ : w.heap.size ≤ gb332); replace HB := A_ (below_step bB_ hb); clear hb hbox hg) | ((with_reducible refine gd_ (N := 3) rfl ?_); refine bx_ (N := 3) (cs := #[.slice A1_0 l1_0.length c1_0, .slice A1_1 l1_1.length c1_1, .int .i64 a1_2, .int .i64 a1_3, .slice A1_4 l1_4.length c1_4, .slice A1_5 l1_5.length c1_5]) (t := 42) ?_; intro gb333 hg w78 hbox hb; have BK333 := A_ (hbox); have GW333 := A_ (ge_ hg (bG_ GE332.out) : w.heap.size ≤ gb333); have GE333 := A_ (ge_ hg (bG_ GE332.out) : w.heap.size ≤ gb333); replace HB := A_ (below_step (bG_ GE332.out) hb); have NB332_333 := A_ (gm_ hg BK332.out); have NB333_332 := A_ (gn_ hg BK332.out); replace BK332 := A_ (bw_ BK332.out hb); clear hb hbox hg; have hnb79 := NB332_333.out; have hnc79 := NB333_332.out; obtain ⟨hcz80_0, hcz80_1, hcz80_2, hcz80_3, hcz80_4, hcz80_5, hfz80_0, hfz80_1, hfz80_2, hfz80_3, hfz80_4, hfz80_5⟩ := cz6_ BK332.out; obtain ⟨hcz81_0, hcz81_1, hcz81_2, hcz81_3, hcz81_4, hcz81_5, hfz81_0, hfz81_1, hfz81_2, hfz81_3, hfz81_4, hfz81_5⟩ := cz6_ BK333.out) | ((with_reducible refine gc_ (f := 46) rfl ?_); refine gL_ (some 9) Tryd.func46 #[.slice A0_0 l0_0.length c0_0, .slice A1_0 l1_0.length c1_0] ?_; (with_reducible refine (laws_eqResS.calls k _ _ l0_0 _ _ l1_0 false _ ?s1 ?s2 ?s3 ?s4 A3.out).mono ?_); (case s1 => exact cC_ (Kd.C_below HR0_0.out HB.out)); (case s2 => exact HC0_0.out); (case s3 => exact cC_ (Kd.C_below HR1_0.out HB.out)); (case s4 => exact HC1_0.out); rintro e w82 ⟨rfl, hb⟩; refine ⟨_, rfl, ?_⟩; replace BK332 := A_ (bw_ BK332.out hb); replace BK333 := A_ (bw_ BK333.out hb); replace HB := A_ (below_step (by repeat (first | (with_reducible first | exact HB.out | apply below_alloc | apply pw_below_drewN | apply below_drew1 | refine below_set ?_ GE332.out | refine below_set ?_ GE333.out) | exact HB.out)) hb); (try clear hb)))
   go_ret
   exact ⟨rr_, by repeat (first | (with_reducible first | exact HB.out | apply below_alloc | apply pw_below_drewN | apply below_drew1 | refine below_set ?_ GE332.out | refine below_set ?_ GE333.out) | exact HB.out)⟩
end Go.Proofs.YtigoeooelfeopaaDoor.Q
