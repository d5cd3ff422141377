-- PRINTED by print.py (a twelfth state) out of the translation. Not trusted: Lean checks it.
import Derived.Test.YtigoeooelfeopaaDoorVTagAtG24
set_option maxHeartbeats 8000000
set_option maxRecDepth 100000
namespace Go.Proofs.YtigoeooelfeopaaDoor.Q
open Go.RowKit Go.Proofs.YtigoeooelfeopaaDoorW.PrintWords Go.Proofs.YtigoeooelfeopaaDoorW.PrintLast Go.Proofs.YtigoeooelfeopaaDoorW.PrintMore
attribute [local go_sem] max2_int min2_int max_two min_two max_three min_three max_four min_four   -- for this text's walks alone
set_option linter.unusedVariables false
set_option linter.unusedSimpArgs false
def laws_eqPropS.l0 : Nat → List (S148) → List (S148) → Int → Option (Bool)
 | 0, _, _, _ => none
 | k + 1, x0, x1, x5 => if x5 < (x0.length : Int) then (if 0 ≤ x5 then (if x5 < (x1.length : Int) then ((laws_eqProp.f ((rd_T148 x0 x5).f0) ((rd_T148 x0 x5).f1) ((rd_T148 x0 x5).f2) ((rd_T148 x1 x5).f0) ((rd_T148 x1 x5).f1) ((rd_T148 x1 x5).f2)).bind fun t316 => (if t316 = true then (laws_eqPropS.l0 k x0 x1 (wrap64 (x5 + 1))) else (some false))) else (none)) else (none)) else (some true)
def laws_eqPropS.f (k : Nat) (l0 : List (S148)) (l1 : List (S148)) : Option (Bool) := if (l0.length : Int) = (l1.length : Int) then (laws_eqPropS.l0 k l0 l1 0) else (some false)
def laws_eqPropS.T6 : Bool × List (List Nat × List Nat) := (true, [([], []), ([], []), ([0, 1], [0, 1]), ([2], [2]), ([], []), ([], []), ([4, 5], [4, 5]), ([6], [6]), ([3, 7], [3, 7]), ([8], [8])])
def laws_eqPropS.B6 : List Nat := [0, 0, 3, 7, 0, 0, 48, 112, 255, 511]
theorem laws_eqPropS.tab6 : rtab .any (opsOf Tryd.f99 6) = laws_eqPropS.T6 := by kernel_rfl
theorem laws_eqPropS.bits6 : waitsOk laws_eqPropS.T6.2 laws_eqPropS.B6 = true := by kernel_rfl
theorem laws_eqPropS.calls (k : Nat) (A0 : Option Addr) (c0 : Nat) (l0 : List (S148)) (A1 : Option Addr) (c1 : Nat) (l1 : List (S148)) (r : Bool) (w : World) (hr0 : Kd.C k148 w A0 l0.length l0) (hc0 : l0.length ≤ c0) (hr1 : Kd.C k148 w A1 l1.length l1) (hc1 : l1.length ≤ c1) (h : laws_eqPropS.f k l0 l1 = some r) :
 Calls Tryd.prog 99 #[.slice A0 l0.length c0, .slice A1 l1.length c1] w fun e w' => e = .returned (.bool r) ∧ Below w.heap.size w w' := by
 have hu148 := Tryd.underlying148
 have HR0 := A_ hr0
 have HC0 := A_ hc0
 clear hr0 hc0
 have HR1 := A_ hr1
 have HC1 := A_ hc1
 clear hr1 hc1
 have HB := A_ (Below.refl w.heap.size w)
 have H : (if (l0.length : Int) = (l1.length : Int) then (laws_eqPropS.l0 k l0 l1 0) else (some false)) = some r := h
 clear h
 by_cases c3 : (l0.length : Int) = (l1.length : Int)
 rotate_left
 · rw [if_neg c3] at H
   have c3b0 : ((l0.length : Int) == (l1.length : Int)) = false := beq_eq_false_iff_ne.mpr c3
   have c3b1 : ((l0.length : Int) != (l1.length : Int)) = true := bne_iff_ne.mpr c3
   have c3b2 : (l0.length == l1.length) = false := by first | simpa using c3 | (simp at c3 ⊢; omega)
   obtain rfl := si_ H
   go_enter Tryd.func99, Tryd.ntmps99
   go_wp2
   go_ret
   exact ⟨rr_, bB_⟩
 rw [if_pos c3] at H
 have c3b0 : ((l0.length : Int) == (l1.length : Int)) = true := beq_iff_eq.mpr c3
 have c3b1 : ((l0.length : Int) != (l1.length : Int)) = false := bne_eq_false_iff_eq.mpr c3
 have c3b2 : (l0.length == l1.length) = true := by first | simpa using c3 | (simp at c3 ⊢; omega)
 clear c3
 have H' := A_ H
 clear H
 go_enter Tryd.func99, Tryd.ntmps99
 go_wp2
 go_loopg [5] k (fun kq v5 w' => ∃ (x5_1 : Int), v5 = .int .i64 x5_1 ∧ Aside0 (laws_eqPropS.l0 kq l0 l1 x5_1 = some r) ∧ Aside0 (kq ≤ k) ∧ Aside0 (Below w.heap.size w w'))
 case atStart => exact ⟨(0), rs_, H', ⟨Nat.le_refl _⟩, ⟨bB_⟩⟩
 case round =>
  clear H'
  try clear c1
  try clear p2
  try clear c3
  try clear c3b0
  try clear c3b1
  try clear c3b2
  obtain ⟨x5_1, rfl, HA, HK1, HB⟩ := hrel
  cases gk with
  | zero => exact absurd HA.out (by simp [laws_eqPropS.l0])
  | succ k1 =>
   have H := HA.out
   clear HA
   simp only [laws_eqPropS.l0] at H
   by_cases c4 : x5_1 < (l0.length : Int)
   rotate_left
   · rw [if_neg c4] at H
     have c4b0 : decide (x5_1 < (l0.length : Int)) = false := decide_eq_false c4
     clear c4
     obtain rfl := si_ H
     go_wp2
     go_ret
     exact ⟨rr_, bB_⟩
   rw [if_pos c4] at H
   have c4b0 : decide (x5_1 < (l0.length : Int)) = true := decide_eq_true c4
   clear c4
   by_cases c5 : 0 ≤ x5_1
   rotate_left
   · exact absurd H (by rw [if_neg c5]; simp)
   rw [if_pos c5] at H
   have c5b0 : decide (0 ≤ x5_1) = true := decide_eq_true c5
   clear c5
   by_cases c6 : x5_1 < (l1.length : Int)
   rotate_left
   · exact absurd H (by rw [if_neg c6]; simp)
   rw [if_pos c6] at H
   have c6b0 : decide (x5_1 < (l1.length : Int)) = true := decide_eq_true c6
   clear c6
   obtain ⟨t316, A7, H⟩ := bo_ H
   (try dsimp only at H)
   by_cases c8 : t316 = true
   · subst c8
     rw [if_pos rfl] at H
     have H' := A_ H
     clear H
     try go_wp2
     replace HB := A_ (below_drew1 HB.out)
     have p314 : 0 ≤ (x5_1 : Int) := od_
     have q314 : x5_1 < (l0.length : Int) := od_
     obtain ⟨ad314, e314, hx314_0, hx314_1, hx314_2⟩ := at_T148 HR0.out x5_1 p314 q314
     have hw314_2 := hx314_2
     have hw314_1 := hx314_1
     have hw314_0 := hx314_0
     cases e314
     replace hx314_0 := bc_ HB.out hx314_0
     replace hx314_1 := bc_ HB.out hx314_1
     replace hx314_2 := bc_ HB.out hx314_2
     replace p314 := eq_true p314
     replace q314 := eq_true q314
     have p315 : 0 ≤ (x5_1 : Int) := od_
     have q315 : x5_1 < (l1.length : Int) := od_
     obtain ⟨ad315, e315, hx315_0, hx315_1, hx315_2⟩ := at_T148 HR1.out x5_1 p315 q315
     have hw315_2 := hx315_2
     have hw315_1 := hx315_1
     have hw315_0 := hx315_0
     cases e315
     replace hx315_0 := bc_ HB.out hx315_0
     replace hx315_1 := bc_ HB.out hx315_1
     replace hx315_2 := bc_ HB.out hx315_2
     replace p315 := eq_true p315
     replace q315 := eq_true q315
     refine start_ (n := 10) (S := fun w' => w'.cell? (ad314.add ((x5_1).toNat * 3)) = some (.string ((rd_T148 l0 x5_1).f0)) ∧ w'.cell? ⟨(ad314.add ((x5_1).toNat * 3)).block, (ad314.add ((x5_1).toNat * 3)).off + 1, none⟩ = some (.string ((rd_T148 l0 x5_1).f1)) ∧ w'.cell? ⟨(ad314.add ((x5_1).toNat * 3)).block, (ad314.add ((x5_1).toNat * 3)).off + 2, none⟩ = some (.string ((rd_T148 l0 x5_1).f2)) ∧ w'.cell? (ad315.add ((x5_1).toNat * 3)) = some (.string ((rd_T148 l1 x5_1).f0)) ∧ w'.cell? ⟨(ad315.add ((x5_1).toNat * 3)).block, (ad315.add ((x5_1).toNat * 3)).off + 1, none⟩ = some (.string ((rd_T148 l1 x5_1).f1)) ∧ w'.cell? ⟨(ad315.add ((x5_1).toNat * 3)).block, (ad315.add ((x5_1).toNat * 3)).off + 2, none⟩ = some (.string ((rd_T148 l1 x5_1).f2))) (ds := []) #[false, false, false, false, false, false, false, false, false, false] (by kernel_rfl) rfl rfl ⟨(be_ hw314_0), (be_ hw314_1), (be_ hw314_2), (be_ hw315_0), (be_ hw315_1), (be_ hw315_2)⟩ (fun hHeld => ?_); refine with_tabW laws_eqPropS.tab6 laws_eqPropS.bits6 (fun HT_ HW_ => ?_)
     generalize wr.drew = w9 at HB hx314_0 hx314_1 hx314_2 hx315_0 hx315_1 hx315_2 hHeld ⊢
     refine pu_ (i := 0) (N := some 17) ?_
     refine pu_ (i := 1) (N := some 18) ?_
     refine pu_ (i := 2) (N := some 19) ?_
     refine pu_ (i := 4) (N := some 21) ?_
     refine pu_ (i := 5) (N := some 22) ?_
     refine pu_ (i := 6) (N := some 23) ?_
     refine tk_ (i := 3) (N := some 20) hHeld ?_
     refine tk_ (i := 7) (N := some 24) hHeld ?_
     refine on_ (i := 8) (N := some 25) (fun K hK => ?_)
     refine goes_ Tryd.func115 (by kernel_rfl) rfl #[.agg #[.string ((rd_T148 l0 x5_1).f0), .string ((rd_T148 l0 x5_1).f1), .string ((rd_T148 l0 x5_1).f2)], .agg #[.string ((rd_T148 l1 x5_1).f0), .string ((rd_T148 l1 x5_1).f1), .string ((rd_T148 l1 x5_1).f2)]] (by rfl) rfl rfl ml_ ?_
     with_reducible refine (laws_eqProp.calls ((rd_T148 l0 x5_1).f0) ((rd_T148 l0 x5_1).f1) ((rd_T148 l0 x5_1).f2) ((rd_T148 l1 x5_1).f0) ((rd_T148 l1 x5_1).f1) ((rd_T148 l1 x5_1).f2) true _ A7.out).mono ?_
     rintro e w10 ⟨rfl, hb⟩
     refine ⟨_, rfl, ?_⟩
     replace HB := A_ (below_step bB_ hb)
     (try clear hb)
     (try clear hb2)
     (try clear hk)
     (try clear hi)
     refine hK.out _ _ ⟨(be_ hw314_0), (be_ hw314_1), (be_ hw314_2), (be_ hw315_0), (be_ hw315_1), (be_ hw315_2)⟩ (fun hHeld => ?_)
     clear hK K
     refine no_ (some 25) ?_
     refine pu_ (i := 9) (N := some 26) ?_
     refine done_ (done_of HT_.out (by kernel_rfl)) ?_
     (try clear hHeld)
     try go_wp2
     go_roundg k1
     case measure => have := HK1.out; omega
     case rel => exact ⟨(wrap64 (x5_1 + 1)), rs_, H', ⟨by have := HK1.out; omega⟩, ⟨bB_⟩⟩
   · replace c8 := Bool.eq_false_iff.mpr c8
     subst c8
     rw [if_neg nf_] at H
     obtain rfl := si_ H
     try go_wp2
     replace HB := A_ (below_drew1 HB.out)
     have p314 : 0 ≤ (x5_1 : Int) := od_
     have q314 : x5_1 < (l0.length : Int) := od_
     obtain ⟨ad314, e314, hx314_0, hx314_1, hx314_2⟩ := at_T148 HR0.out x5_1 p314 q314
     have hw314_2 := hx314_2
     have hw314_1 := hx314_1
     have hw314_0 := hx314_0
     cases e314
     replace hx314_0 := bc_ HB.out hx314_0
     replace hx314_1 := bc_ HB.out hx314_1
     replace hx314_2 := bc_ HB.out hx314_2
     replace p314 := eq_true p314
     replace q314 := eq_true q314
     have p315 : 0 ≤ (x5_1 : Int) := od_
     have q315 : x5_1 < (l1.length : Int) := od_
     obtain ⟨ad315, e315, hx315_0, hx315_1, hx315_2⟩ := at_T148 HR1.out x5_1 p315 q315
     have hw315_2 := hx315_2
     have hw315_1 := hx315_1
     have hw315_0 := hx315_0
     cases e315
     replace hx315_0 := bc_ HB.out hx315_0
     replace hx315_1 := bc_ HB.out hx315_1
     replace hx315_2 := bc_ HB.out hx315_2
     replace p315 := eq_true p315
     replace q315 := eq_true q315
     refine start_ (n := 10) (S := fun w' => w'.cell? (ad314.add ((x5_1).toNat * 3)) = some (.string ((rd_T148 l0 x5_1).f0)) ∧ w'.cell? ⟨(ad314.add ((x5_1).toNat * 3)).block, (ad314.add ((x5_1).toNat * 3)).off + 1, none⟩ = some (.string ((rd_T148 l0 x5_1).f1)) ∧ w'.cell? ⟨(ad314.add ((x5_1).toNat * 3)).block, (ad314.add ((x5_1).toNat * 3)).off + 2, none⟩ = some (.string ((rd_T148 l0 x5_1).f2)) ∧ w'.cell? (ad315.add ((x5_1).toNat * 3)) = some (.string ((rd_T148 l1 x5_1).f0)) ∧ w'.cell? ⟨(ad315.add ((x5_1).toNat * 3)).block, (ad315.add ((x5_1).toNat * 3)).off + 1, none⟩ = some (.string ((rd_T148 l1 x5_1).f1)) ∧ w'.cell? ⟨(ad315.add ((x5_1).toNat * 3)).block, (ad315.add ((x5_1).toNat * 3)).off + 2, none⟩ = some (.string ((rd_T148 l1 x5_1).f2))) (ds := []) #[false, false, false, false, false, false, false, false, false, false] (by kernel_rfl) rfl rfl ⟨(be_ hw314_0), (be_ hw314_1), (be_ hw314_2), (be_ hw315_0), (be_ hw315_1), (be_ hw315_2)⟩ (fun hHeld => ?_); refine with_tabW laws_eqPropS.tab6 laws_eqPropS.bits6 (fun HT_ HW_ => ?_)
     generalize wr.drew = w11 at HB hx314_0 hx314_1 hx314_2 hx315_0 hx315_1 hx315_2 hHeld ⊢
     refine pu_ (i := 0) (N := some 17) ?_
     refine pu_ (i := 1) (N := some 18) ?_
     refine pu_ (i := 2) (N := some 19) ?_
     refine pu_ (i := 4) (N := some 21) ?_
     refine pu_ (i := 5) (N := some 22) ?_
     refine pu_ (i := 6) (N := some 23) ?_
     refine tk_ (i := 3) (N := some 20) hHeld ?_
     refine tk_ (i := 7) (N := some 24) hHeld ?_
     refine on_ (i := 8) (N := some 25) (fun K hK => ?_)
     refine goes_ Tryd.func115 (by kernel_rfl) rfl #[.agg #[.string ((rd_T148 l0 x5_1).f0), .string ((rd_T148 l0 x5_1).f1), .string ((rd_T148 l0 x5_1).f2)], .agg #[.string ((rd_T148 l1 x5_1).f0), .string ((rd_T148 l1 x5_1).f1), .string ((rd_T148 l1 x5_1).f2)]] (by rfl) rfl rfl ml_ ?_
     with_reducible refine (laws_eqProp.calls ((rd_T148 l0 x5_1).f0) ((rd_T148 l0 x5_1).f1) ((rd_T148 l0 x5_1).f2) ((rd_T148 l1 x5_1).f0) ((rd_T148 l1 x5_1).f1) ((rd_T148 l1 x5_1).f2) false _ A7.out).mono ?_
     rintro e w12 ⟨rfl, hb⟩
     refine ⟨_, rfl, ?_⟩
     replace HB := A_ (below_step bB_ hb)
     (try clear hb)
     (try clear hb2)
     (try clear hk)
     (try clear hi)
     refine hK.out _ _ ⟨(be_ hw314_0), (be_ hw314_1), (be_ hw314_2), (be_ hw315_0), (be_ hw315_1), (be_ hw315_2)⟩ (fun hHeld => ?_)
     clear hK K
     refine no_ (some 25) ?_
     refine pu_ (i := 9) (N := some 26) ?_
     refine done_ (done_of HT_.out (by kernel_rfl)) ?_
     (try clear hHeld)
     try go_wp2
     go_ret
     exact ⟨rr_, bB_⟩
def laws_eqRes.f (k : Nat) (l0_0 : List ByteArray) (a0_1 : Bool) (a0_2 : ByteArray) (a0_3 : Int) (l0_4 : List (S148)) (l1_0 : List ByteArray) (a1_1 : Bool) (a1_2 : ByteArray) (a1_3 : Int) (l1_4 : List (S148)) : Option (Bool) := (laws_eqStringS.f k l0_0 l1_0).bind fun t319 => (if t319 = true then (if (a0_1 != a1_1) = true then (some false) else (if a0_2.toList = a1_2.toList then (if a0_3 = a1_3 then ((laws_eqPropS.f k l0_4 l1_4).bind fun t320 => (if t320 = true then (some true) else (some false))) else (some false)) else (some false))) else (some false))
theorem laws_eqRes.calls (k : Nat) (A0_0 : Option Addr) (c0_0 : Nat) (l0_0 : List ByteArray) (a0_1 : Bool) (a0_2 : ByteArray) (a0_3 : Int) (A0_4 : Option Addr) (c0_4 : Nat) (l0_4 : List (S148)) (A1_0 : Option Addr) (c1_0 : Nat) (l1_0 : List ByteArray) (a1_1 : Bool) (a1_2 : ByteArray) (a1_3 : Int) (A1_4 : Option Addr) (c1_4 : Nat) (l1_4 : List (S148)) (r : Bool) (w : World) (hr0_0 : Kd.C Kd.string w A0_0 l0_0.length l0_0) (hc0_0 : l0_0.length ≤ c0_0) (hr0_4 : Kd.C k148 w A0_4 l0_4.length l0_4) (hc0_4 : l0_4.length ≤ c0_4) (hr1_0 : Kd.C Kd.string w A1_0 l1_0.length l1_0) (hc1_0 : l1_0.length ≤ c1_0) (hr1_4 : Kd.C k148 w A1_4 l1_4.length l1_4) (hc1_4 : l1_4.length ≤ c1_4) (h : laws_eqRes.f k l0_0 a0_1 a0_2 a0_3 l0_4 l1_0 a1_1 a1_2 a1_3 l1_4 = some r) :
 Calls Tryd.prog 72 #[.agg #[.slice A0_0 l0_0.length c0_0, .bool a0_1, .string a0_2, .int .i64 a0_3, .slice A0_4 l0_4.length c0_4], .agg #[.slice A1_0 l1_0.length c1_0, .bool a1_1, .string a1_2, .int .i64 a1_3, .slice A1_4 l1_4.length c1_4]] w fun e w' => e = .returned (.bool r) ∧ Below w.heap.size w w' := by
 have hu67 := Tryd.underlying67
 have HR0_0 := A_ hr0_0
 have HC0_0 := A_ hc0_0
 clear hr0_0 hc0_0
 have HR0_4 := A_ hr0_4
 have HC0_4 := A_ hc0_4
 clear hr0_4 hc0_4
 have HR1_0 := A_ hr1_0
 have HC1_0 := A_ hc1_0
 clear hr1_0 hc1_0
 have HR1_4 := A_ hr1_4
 have HC1_4 := A_ hc1_4
 clear hr1_4 hc1_4
 have HB := A_ (Below.refl w.heap.size w)
 have H : ((laws_eqStringS.f k l0_0 l1_0).bind fun t319 => (if t319 = true then (if (a0_1 != a1_1) = true then (some false) else (if a0_2.toList = a1_2.toList then (if a0_3 = a1_3 then ((laws_eqPropS.f k l0_4 l1_4).bind fun t320 => (if t320 = true then (some true) else (some false))) else (some false)) else (some false))) else (some false))) = some r := h
 clear h
 obtain ⟨t319, A3, H⟩ := bo_ H
 (try dsimp only at H)
 by_cases c4 : t319 = true
 · subst c4
   rw [if_pos rfl] at H
   by_cases c5 : (a0_1 != a1_1) = true
   · rw [if_pos c5] at H
     have c5b0 : (a0_1 != a1_1) = true := c5
     (try (have c5b1 : decide (a0_1 = a1_1) = false := by simpa using c5))
     (try (have c5b2 : (a0_1 == a1_1) = false := by simpa using c5))
     (try (have c5b3 : ¬ (a0_1 = a1_1) := by simpa using c5))
     clear c5
     obtain rfl := si_ H
     go_enter Tryd.func72, Tryd.ntmps72
     go_wp2_with (first | ((with_reducible refine gd_ (N := 2) rfl ?_); refine bx_ (N := 2) (cs := #[.slice A0_0 l0_0.length c0_0, .bool a0_1, .string a0_2, .int .i64 a0_3, .slice A0_4 l0_4.length c0_4]) (t := 67) ?_; intro gb317 hg w6 hbox hb; have BK317 := A_ (hbox); have GW317 := A_ (ge_ hg bB_ : w.heap.size ≤ gb317); have GE317 := A_ (ge_ hg bB_ : w.heap.size ≤ gb317); replace HB := A_ (below_step bB_ hb); clear hb hbox hg) | ((with_reducible refine gd_ (N := 3) rfl ?_); refine bx_ (N := 3) (cs := #[.slice A1_0 l1_0.length c1_0, .bool a1_1, .string a1_2, .int .i64 a1_3, .slice A1_4 l1_4.length c1_4]) (t := 67) ?_; intro gb318 hg w7 hbox hb; have BK318 := A_ (hbox); have GW318 := A_ (ge_ hg (bG_ GE317.out) : w.heap.size ≤ gb318); have GE318 := A_ (ge_ hg (bG_ GE317.out) : w.heap.size ≤ gb318); replace HB := A_ (below_step (bG_ GE317.out) hb); have NB317_318 := A_ (gm_ hg BK317.out); have NB318_317 := A_ (gn_ hg BK317.out); replace BK317 := A_ (bw_ BK317.out hb); clear hb hbox hg; have hnb8 := NB317_318.out; have hnc8 := NB318_317.out; obtain ⟨hcz9_0, hcz9_1, hcz9_2, hcz9_3, hcz9_4, hfz9_0, hfz9_1, hfz9_2, hfz9_3, hfz9_4⟩ := cz5_ BK317.out; obtain ⟨hcz10_0, hcz10_1, hcz10_2, hcz10_3, hcz10_4, hfz10_0, hfz10_1, hfz10_2, hfz10_3, hfz10_4⟩ := cz5_ BK318.out) | ((with_reducible refine gc_ (f := 14) rfl ?_); refine gL_ (some 9) Tryd.func14 #[.slice A0_0 l0_0.length c0_0, .slice A1_0 l1_0.length c1_0] ?_; (with_reducible refine (laws_eqStringS.calls k _ _ l0_0 _ _ l1_0 true _ ?s1 ?s2 ?s3 ?s4 A3.out).mono ?_); (case s1 => exact cC_ (Kd.C_below HR0_0.out HB.out)); (case s2 => exact HC0_0.out); (case s3 => exact cC_ (Kd.C_below HR1_0.out HB.out)); (case s4 => exact HC1_0.out); rintro e w' ⟨rfl, ⟨nd, rfl⟩⟩; refine ⟨_, rfl, ?_⟩))
     go_ret
     exact ⟨rr_, by repeat (first | (with_reducible first | exact HB.out | apply below_alloc | apply pw_below_drewN | apply below_drew1 | refine below_set ?_ GE317.out | refine below_set ?_ GE318.out) | exact HB.out)⟩
   rw [if_neg c5] at H
   have c5b0 : (a0_1 != a1_1) = false := by simpa using c5
   (try (have c5b1 : decide (a0_1 = a1_1) = true := by simpa using c5))
   (try (have c5b2 : (a0_1 == a1_1) = true := by simpa using c5))
   clear c5
   by_cases c11 : a0_2.toList = a1_2.toList
   rotate_left
   · rw [if_neg c11] at H
     have c11b0 : (a0_2.toList == a1_2.toList) = false := beq_eq_false_iff_ne.mpr c11
     have c11b1 : (a0_2.toList != a1_2.toList) = true := bne_iff_ne.mpr c11
     obtain rfl := si_ H
     go_enter Tryd.func72, Tryd.ntmps72
     go_wp2_with (first | ((with_reducible refine gd_ (N := 2) rfl ?_); refine bx_ (N := 2) (cs := #[.slice A0_0 l0_0.length c0_0, .bool a0_1, .string a0_2, .int .i64 a0_3, .slice A0_4 l0_4.length c0_4]) (t := 67) ?_; intro gb317 hg w32 hbox hb; have BK317 := A_ (hbox); have GW317 := A_ (ge_ hg bB_ : w.heap.size ≤ gb317); have GE317 := A_ (ge_ hg bB_ : w.heap.size ≤ gb317); replace HB := A_ (below_step bB_ hb); clear hb hbox hg) | ((with_reducible refine gd_ (N := 3) rfl ?_); refine bx_ (N := 3) (cs := #[.slice A1_0 l1_0.length c1_0, .bool a1_1, .string a1_2, .int .i64 a1_3, .slice A1_4 l1_4.length c1_4]) (t := 67) ?_; intro gb318 hg w33 hbox hb; have BK318 := A_ (hbox); have GW318 := A_ (ge_ hg (bG_ GE317.out) : w.heap.size ≤ gb318); have GE318 := A_ (ge_ hg (bG_ GE317.out) : w.heap.size ≤ gb318); replace HB := A_ (below_step (bG_ GE317.out) hb); have NB317_318 := A_ (gm_ hg BK317.out); have NB318_317 := A_ (gn_ hg BK317.out); replace BK317 := A_ (bw_ BK317.out hb); clear hb hbox hg; have hnb34 := NB317_318.out; have hnc34 := NB318_317.out; obtain ⟨hcz35_0, hcz35_1, hcz35_2, hcz35_3, hcz35_4, hfz35_0, hfz35_1, hfz35_2, hfz35_3, hfz35_4⟩ := cz5_ BK317.out; obtain ⟨hcz36_0, hcz36_1, hcz36_2, hcz36_3, hcz36_4, hfz36_0, hfz36_1, hfz36_2, hfz36_3, hfz36_4⟩ := cz5_ BK318.out) | ((with_reducible refine gc_ (f := 14) rfl ?_); refine gL_ (some 9) Tryd.func14 #[.slice A0_0 l0_0.length c0_0, .slice A1_0 l1_0.length c1_0] ?_; (with_reducible refine (laws_eqStringS.calls k _ _ l0_0 _ _ l1_0 true _ ?s1 ?s2 ?s3 ?s4 A3.out).mono ?_); (case s1 => exact cC_ (Kd.C_below HR0_0.out HB.out)); (case s2 => exact HC0_0.out); (case s3 => exact cC_ (Kd.C_below HR1_0.out HB.out)); (case s4 => exact HC1_0.out); rintro e w' ⟨rfl, ⟨nd, rfl⟩⟩; refine ⟨_, rfl, ?_⟩))
     go_ret
     exact ⟨rr_, by repeat (first | (with_reducible first | exact HB.out | apply below_alloc | apply pw_below_drewN | apply below_drew1 | refine below_set ?_ GE317.out | refine below_set ?_ GE318.out) | exact HB.out)⟩
   rw [if_pos c11] at H
   have c11b0 : (a0_2.toList == a1_2.toList) = true := beq_iff_eq.mpr c11
   have c11b1 : (a0_2.toList != a1_2.toList) = false := bne_eq_false_iff_eq.mpr c11
   clear c11
   by_cases c12 : a0_3 = a1_3
   rotate_left
   · rw [if_neg c12] at H
     have c12b0 : (a0_3 == a1_3) = false := beq_eq_false_iff_ne.mpr c12
     have c12b1 : (a0_3 != a1_3) = true := bne_iff_ne.mpr c12
     obtain rfl := si_ H
     go_enter Tryd.func72, Tryd.ntmps72
     go_wp2_with (first | ((with_reducible refine gd_ (N := 2) rfl ?_); refine bx_ (N := 2) (cs := #[.slice A0_0 l0_0.length c0_0, .bool a0_1, .string a0_2, .int .i64 a0_3, .slice A0_4 l0_4.length c0_4]) (t := 67) ?_; intro gb317 hg w27 hbox hb; have BK317 := A_ (hbox); have GW317 := A_ (ge_ hg bB_ : w.heap.size ≤ gb317); have GE317 := A_ (ge_ hg bB_ : w.heap.size ≤ gb317); replace HB := A_ (below_step bB_ hb); clear hb hbox hg) | ((with_reducible refine gd_ (N := 3) rfl ?_); refine bx_ (N := 3) (cs := #[.slice A1_0 l1_0.length c1_0, .bool a1_1, .string a1_2, .int .i64 a1_3, .slice A1_4 l1_4.length c1_4]) (t := 67) ?_; intro gb318 hg w28 hbox hb; have BK318 := A_ (hbox); have GW318 := A_ (ge_ hg (bG_ GE317.out) : w.heap.size ≤ gb318); have GE318 := A_ (ge_ hg (bG_ GE317.out) : w.heap.size ≤ gb318); replace HB := A_ (below_step (bG_ GE317.out) hb); have NB317_318 := A_ (gm_ hg BK317.out); have NB318_317 := A_ (gn_ hg BK317.out); replace BK317 := A_ (bw_ BK317.out hb); clear hb hbox hg; have hnb29 := NB317_318.out; have hnc29 := NB318_317.out; obtain ⟨hcz30_0, hcz30_1, hcz30_2, hcz30_3, hcz30_4, hfz30_0, hfz30_1, hfz30_2, hfz30_3, hfz30_4⟩ := cz5_ BK317.out; obtain ⟨hcz31_0, hcz31_1, hcz31_2, hcz31_3, hcz31_4, hfz31_0, hfz31_1, hfz31_2, hfz31_3, hfz31_4⟩ := cz5_ BK318.out) | ((with_reducible refine gc_ (f := 14) rfl ?_); refine gL_ (some 9) Tryd.func14 #[.slice A0_0 l0_0.length c0_0, .slice A1_0 l1_0.length c1_0] ?_; (with_reducible refine (laws_eqStringS.calls k _ _ l0_0 _ _ l1_0 true _ ?s1 ?s2 ?s3 ?s4 A3.out).mono ?_); (case s1 => exact cC_ (Kd.C_below HR0_0.out HB.out)); (case s2 => exact HC0_0.out); (case s3 => exact cC_ (Kd.C_below HR1_0.out HB.out)); (case s4 => exact HC1_0.out); rintro e w' ⟨rfl, ⟨nd, rfl⟩⟩; refine ⟨_, rfl, ?_⟩))
     go_ret
     exact ⟨rr_, by repeat (first | (with_reducible first | exact HB.out | apply below_alloc | apply pw_below_drewN | apply below_drew1 | refine below_set ?_ GE317.out | refine below_set ?_ GE318.out) | exact HB.out)⟩
   rw [if_pos c12] at H
   have c12b0 : (a0_3 == a1_3) = true := beq_iff_eq.mpr c12
   have c12b1 : (a0_3 != a1_3) = false := bne_eq_false_iff_eq.mpr c12
   clear c12
   obtain ⟨t320, A13, H⟩ := bo_ H
   (try dsimp only at H)
   by_cases c14 : t320 = true
   · subst c14
     rw [if_pos rfl] at H
     obtain rfl := si_ H
     go_enter Tryd.func72, Tryd.ntmps72
     go_wp2_with (first | ((with_reducible refine gd_ (N := 2) rfl ?_); refine bx_ (N := 2) (cs := #[.slice A0_0 l0_0.length c0_0, .bool a0_1, .string a0_2, .int .i64 a0_3, .slice A0_4 l0_4.length c0_4]) (t := 67) ?_; intro gb317 hg w15 hbox hb; have BK317 := A_ (hbox); have GW317 := A_ (ge_ hg bB_ : w.heap.size ≤ gb317); have GE317 := A_ (ge_ hg bB_ : w.heap.size ≤ gb317); replace HB := A_ (below_step bB_ hb); clear hb hbox hg) | ((with_reducible refine gd_ (N := 3) rfl ?_); refine bx_ (N := 3) (cs := #[.slice A1_0 l1_0.length c1_0, .bool a1_1, .string a1_2, .int .i64 a1_3, .slice A1_4 l1_4.length c1_4]) (t := 67) ?_; intro gb318 hg w16 hbox hb; have BK318 := A_ (hbox); have GW318 := A_ (ge_ hg (bG_ GE317.out) : w.heap.size ≤ gb318); have GE318 := A_ (ge_ hg (bG_ GE317.out) : w.heap.size ≤ gb318); replace HB := A_ (below_step (bG_ GE317.out) hb); have NB317_318 := A_ (gm_ hg BK317.out); have NB318_317 := A_ (gn_ hg BK317.out); replace BK317 := A_ (bw_ BK317.out hb); clear hb hbox hg; have hnb17 := NB317_318.out; have hnc17 := NB318_317.out; obtain ⟨hcz18_0, hcz18_1, hcz18_2, hcz18_3, hcz18_4, hfz18_0, hfz18_1, hfz18_2, hfz18_3, hfz18_4⟩ := cz5_ BK317.out; obtain ⟨hcz19_0, hcz19_1, hcz19_2, hcz19_3, hcz19_4, hfz19_0, hfz19_1, hfz19_2, hfz19_3, hfz19_4⟩ := cz5_ BK318.out) | ((with_reducible refine gc_ (f := 14) rfl ?_); refine gL_ (some 9) Tryd.func14 #[.slice A0_0 l0_0.length c0_0, .slice A1_0 l1_0.length c1_0] ?_; (with_reducible refine (laws_eqStringS.calls k _ _ l0_0 _ _ l1_0 true _ ?s1 ?s2 ?s3 ?s4 A3.out).mono ?_); (case s1 => exact cC_ (Kd.C_below HR0_0.out HB.out)); (case s2 => exact HC0_0.out); (case s3 => exact cC_ (Kd.C_below HR1_0.out HB.out)); (case s4 => exact HC1_0.out); rintro e w' ⟨rfl, ⟨nd, rfl⟩⟩; refine ⟨_, rfl, ?_⟩) | ((with_reducible refine gc_ (f := 99) rfl ?_); refine gL_ (some 30) Tryd.func99 #[.slice A0_4 l0_4.length c0_4, .slice A1_4 l1_4.length c1_4] ?_; (with_reducible refine (laws_eqPropS.calls k _ _ l0_4 _ _ l1_4 true _ ?s1 ?s2 ?s3 ?s4 A13.out).mono ?_); (case s1 => repeat (first | exact (Kd.C_below HR0_4.out (by repeat (first | (with_reducible first | exact HB.out | apply below_alloc | apply pw_below_drewN | apply below_drew1 | refine below_set ?_ GE317.out | refine below_set ?_ GE318.out) | exact HB.out))) | (with_reducible refine Kd.C_alloc ?_ _) | (with_reducible refine Kd.C_drewN ?_ _) | (with_reducible refine Kd.C_drew ?_))); (case s2 => exact HC0_4.out); (case s3 => repeat (first | exact (Kd.C_below HR1_4.out (by repeat (first | (with_reducible first | exact HB.out | apply below_alloc | apply pw_below_drewN | apply below_drew1 | refine below_set ?_ GE317.out | refine below_set ?_ GE318.out) | exact HB.out))) | (with_reducible refine Kd.C_alloc ?_ _) | (with_reducible refine Kd.C_drewN ?_ _) | (with_reducible refine Kd.C_drew ?_))); (case s4 => exact HC1_4.out); rintro e w20 ⟨rfl, hb⟩; refine ⟨_, rfl, ?_⟩; replace BK317 := A_ (bw_ BK317.out hb); replace BK318 := A_ (bw_ BK318.out hb); replace HB := A_ (below_step (by repeat (first | (with_reducible first | exact HB.out | apply below_alloc | apply pw_below_drewN | apply below_drew1 | refine below_set ?_ GE317.out | refine below_set ?_ GE318.out) | exact HB.out)) hb); (try clear hb)))
     go_ret
     exact ⟨rr_, by repeat (first | (with_reducible first | exact HB.out | apply below_alloc | apply pw_below_drewN | apply below_drew1 | refine below_set ?_ GE317.out | refine below_set ?_ GE318.out) | exact HB.out)⟩
   · replace c14 := Bool.eq_false_iff.mpr c14
     subst c14
     rw [if_neg nf_] at H
     obtain rfl := si_ H
     go_enter Tryd.func72, Tryd.ntmps72
     go_wp2_with (first | ((with_reducible refine gd_ (N := 2) rfl ?_); refine bx_ (N := 2) (cs := #[.slice A0_0 l0_0.length c0_0, .bool a0_1, .string a0_2, .int .i64 a0_3, .slice A0_4 l0_4.length c0_4]) (t := 67) ?_; intro gb317 hg w21 hbox hb; have BK317 := A_ (hbox); have GW317 := A_ (ge_ hg bB_ : w.heap.size ≤ gb317); have GE317 := A_ (ge_ hg bB_ : w.heap.size ≤ gb317); replace HB := A_ (below_step bB_ hb); clear hb hbox hg) | ((with_reducible refine gd_ (N := 3) rfl ?_); refine bx_ (N := 3) (cs := #[.slice A1_0 l1_0.length c1_0, .bool a1_1, .string a1_2, .int .i64 a1_3, .slice A1_4 l1_4.length c1_4]) (t := 67) ?_; intro gb318 hg w22 hbox hb; have BK318 := A_ (hbox); have GW318 := A_ (ge_ hg (bG_ GE317.out) : w.heap.size ≤ gb318); have GE318 := A_ (ge_ hg (bG_ GE317.out) : w.heap.size ≤ gb318); replace HB := A_ (below_step (bG_ GE317.out) hb); have NB317_318 := A_ (gm_ hg BK317.out); have NB318_317 := A_ (gn_ hg BK317.out); replace BK317 := A_ (bw_ BK317.out hb); clear hb hbox hg; have hnb23 := NB317_318.out; have hnc23 := NB318_317.out; obtain ⟨hcz24_0, hcz24_1, hcz24_2, hcz24_3, hcz24_4, hfz24_0, hfz24_1, hfz24_2, hfz24_3, hfz24_4⟩ := cz5_ BK317.out; obtain ⟨hcz25_0, hcz25_1, hcz25_2, hcz25_3, hcz25_4, hfz25_0, hfz25_1, hfz25_2, hfz25_3, hfz25_4⟩ := cz5_ BK318.out) | ((with_reducible refine gc_ (f := 14) rfl ?_); refine gL_ (some 9) Tryd.func14 #[.slice A0_0 l0_0.length c0_0, .slice A1_0 l1_0.length c1_0] ?_; (with_reducible refine (laws_eqStringS.calls k _ _ l0_0 _ _ l1_0 true _ ?s1 ?s2 ?s3 ?s4 A3.out).mono ?_); (case s1 => exact cC_ (Kd.C_below HR0_0.out HB.out)); (case s2 => exact HC0_0.out); (case s3 => exact cC_ (Kd.C_below HR1_0.out HB.out)); (case s4 => exact HC1_0.out); rintro e w' ⟨rfl, ⟨nd, rfl⟩⟩; refine ⟨_, rfl, ?_⟩) | ((with_reducible refine gc_ (f := 99) rfl ?_); refine gL_ (some 30) Tryd.func99 #[.slice A0_4 l0_4.length c0_4, .slice A1_4 l1_4.length c1_4] ?_; (with_reducible refine (laws_eqPropS.calls k _ _ l0_4 _ _ l1_4 false _ ?s1 ?s2 ?s3 ?s4 A13.out).mono ?_); (case s1 => repeat (first | exact (Kd.C_below HR0_4.out (by repeat (first | (with_reducible first | exact HB.out | apply below_alloc | apply pw_below_drewN | apply below_drew1 | refine below_set ?_ GE317.out | refine below_set ?_ GE318.out) | exact HB.out))) | (with_reducible refine Kd.C_alloc ?_ _) | (with_reducible refine Kd.C_drewN ?_ _) | (with_reducible refine Kd.C_drew ?_))); (case s2 => exact HC0_4.out); (case s3 => repeat (first | exact (Kd.C_below HR1_4.out (by repeat (first | (with_reducible first | exact HB.out | apply below_alloc | apply pw_below_drewN | apply below_drew1 | refine below_set ?_ GE317.out | refine below_set ?_ GE318.out) | exact HB.out))) | (with_reducible refine Kd.C_alloc ?_ _) | (with_reducible refine Kd.C_drewN ?_ _) | (with_reducible refine Kd.C_drew ?_))); (case s4 => exact HC1_4.out); rintro e w26 ⟨rfl, hb⟩; refine ⟨_, rfl, ?_⟩; replace BK317 := A_ (bw_ BK317.out hb); replace BK318 := A_ (bw_ BK318.out hb); replace HB := A_ (below_step (by repeat (first | (with_reducible first | exact HB.out | apply below_alloc | apply pw_below_drewN | apply below_drew1 | refine below_set ?_ GE317.out | refine below_set ?_ GE318.out) | exact HB.out)) hb); (try clear hb)))
     go_ret
     exact ⟨rr_, by repeat (first | (with_reducible first | exact HB.out | apply below_alloc | apply pw_below_drewN | apply below_drew1 | refine below_set ?_ GE317.out | refine below_set ?_ GE318.out) | exact HB.out)⟩
 · replace c4 := Bool.eq_false_iff.mpr c4
   subst c4
   rw [if_neg nf_] at H
   obtain rfl := si_ H
   go_enter Tryd.func72, Tryd.ntmps72
   go_wp2_with (first | ((with_reducible refine gd_ (N := 2) rfl ?_); refine bx_ (N := 2) (cs := #[.slice A0_0 l0_0.length c0_0, .bool a0_1, .string a0_2, .int .i64 a0_3, .slice A0_4 l0_4.length c0_4]) (t := 67) ?_; intro gb317 hg w37 hbox hb; have BK317 := A_ (hbox); have GW317 := A_ (ge_ hg bB_ : w.heap.size ≤ gb317); have GE317 := A_ (ge_ hg bB_ : w.heap.size ≤ gb317); replace HB := A_ (below_step bB_ hb); clear hb hbox hg) | ((with_reducible refine gd_ (N := 3) rfl ?_); refine bx_ (N := 3) (cs := #[.slice A1_0 l1_0.length c1_0, .bool a1_1, .string a1_2, .int .i64 a1_3, .slice A1_4 l1_4.length c1_4]) (t := 67) ?_; intro gb318 hg w38 hbox hb; have BK318 := A_ (hbox); have GW318 := A_ (ge_ hg (bG_ GE317.out) : w.heap.size ≤ gb318); have GE318 := A_ (ge_ hg (bG_ GE317.out) : w.heap.size ≤ gb318); replace HB := A_ (below_step (bG_ GE317.out) hb); have NB317_318 := A_ (gm_ hg BK317.out); have NB318_317 := A_ (gn_ hg BK317.out); replace BK317 := A_ (bw_ BK317.out hb); clear hb hbox hg; have hnb39 := NB317_318.out; have hnc39 := NB318_317.out; obtain ⟨hcz40_0, hcz40_1, hcz40_2, hcz40_3, hcz40_4, hfz40_0, hfz40_1, hfz40_2, hfz40_3, hfz40_4⟩ := cz5_ BK317.out; obtain ⟨hcz41_0, hcz41_1, hcz41_2, hcz41_3, hcz41_4, hfz41_0, hfz41_1, hfz41_2, hfz41_3, hfz41_4⟩ := cz5_ BK318.out) | ((with_reducible refine gc_ (f := 14) rfl ?_); refine gL_ (some 9) Tryd.func14 #[.slice A0_0 l0_0.length c0_0, .slice A1_0 l1_0.length c1_0] ?_; (with_reducible refine (laws_eqStringS.calls k _ _ l0_0 _ _ l1_0 false _ ?s1 ?s2 ?s3 ?s4 A3.out).mono ?_); (case s1 => exact cC_ (Kd.C_below HR0_0.out HB.out)); (case s2 => exact HC0_0.out); (case s3 => exact cC_ (Kd.C_below HR1_0.out HB.out)); (case s4 => exact HC1_0.out); rintro e w' ⟨rfl, ⟨nd, rfl⟩⟩; refine ⟨_, rfl, ?_⟩))
   go_ret
   exact ⟨rr_, by repeat (first | (with_reducible first | exact HB.out | apply below_alloc | apply pw_below_drewN | apply below_drew1 | refine below_set ?_ GE317.out | refine below_set ?_ GE318.out) | exact HB.out)⟩
set_option maxHeartbeats 8000000
set_option maxRecDepth 100000
def laws_eqResS.l0 : Nat → List (S67) → List (S67) → Int → Option (Bool)
 | 0, _, _, _ => none
 | k + 1, x0, x1, x5 => if x5 < (x0.length : Int) then (if 0 ≤ x5 then (if x5 < (x1.length : Int) then ((laws_eqRes.f k ((rd_T67 x0 x5).f0) ((rd_T67 x0 x5).f1) ((rd_T67 x0 x5).f2) ((rd_T67 x0 x5).f3) ((rd_T67 x0 x5).f4) ((rd_T67 x1 x5).f0) ((rd_T67 x1 x5).f1) ((rd_T67 x1 x5).f2) ((rd_T67 x1 x5).f3) ((rd_T67 x1 x5).f4)).bind fun t323 => (if t323 = true then (laws_eqResS.l0 k x0 x1 (wrap64 (x5 + 1))) else (some false))) else (none)) else (none)) else (some true)
def laws_eqResS.f (k : Nat) (l0 : List (S67)) (l1 : List (S67)) : Option (Bool) := if (l0.length : Int) = (l1.length : Int) then (laws_eqResS.l0 k l0 l1 0) else (some false)
def laws_eqResS.T6 : Bool × List (List Nat × List Nat) := (true, [([], []), ([], []), ([0, 1], [0, 1]), ([2], [2]), ([], []), ([], []), ([4, 5], [4, 5]), ([6], [6]), ([3, 7], [3, 7]), ([8], [8])])
def laws_eqResS.B6 : List Nat := [0, 0, 3, 7, 0, 0, 48, 112, 255, 511]
theorem laws_eqResS.tab6 : rtab .any (opsOf Tryd.f46 6) = laws_eqResS.T6 := by kernel_rfl
theorem laws_eqResS.bits6 : waitsOk laws_eqResS.T6.2 laws_eqResS.B6 = true := by kernel_rfl
theorem laws_eqResS.calls (k : Nat) (A0 : Option Addr) (c0 : Nat) (l0 : List (S67)) (A1 : Option Addr) (c1 : Nat) (l1 : List (S67)) (r : Bool) (w : World) (hr0 : Kd.C k67 w A0 l0.length l0) (hc0 : l0.length ≤ c0) (hr1 : Kd.C k67 w A1 l1.length l1) (hc1 : l1.length ≤ c1) (h : laws_eqResS.f k l0 l1 = some r) :
 Calls Tryd.prog 46 #[.slice A0 l0.length c0, .slice A1 l1.length c1] w fun e w' => e = .returned (.bool r) ∧ Below w.heap.size w w' := by
 have hu67 := Tryd.underlying67
 have HR0 := A_ hr0
 have HC0 := A_ hc0
 clear hr0 hc0
 have HR1 := A_ hr1
 have HC1 := A_ hc1
 clear hr1 hc1
 have HB := A_ (Below.refl w.heap.size w)
 have H : (if (l0.length : Int) = (l1.length : Int) then (laws_eqResS.l0 k l0 l1 0) else (some false)) = some r := h
 clear h
 by_cases c3 : (l0.length : Int) = (l1.length : Int)
 rotate_left
 · rw [if_neg c3] at H
   have c3b0 : ((l0.length : Int) == (l1.length : Int)) = false := beq_eq_false_iff_ne.mpr c3
   have c3b1 : ((l0.length : Int) != (l1.length : Int)) = true := bne_iff_ne.mpr c3
   have c3b2 : (l0.length == l1.length) = false := by first | simpa using c3 | (simp at c3 ⊢; omega)
   obtain rfl := si_ H
   go_enter Tryd.func46, Tryd.ntmps46
   go_wp2
   go_ret
   exact ⟨rr_, bB_⟩
 rw [if_pos c3] at H
 have c3b0 : ((l0.length : Int) == (l1.length : Int)) = true := beq_iff_eq.mpr c3
 have c3b1 : ((l0.length : Int) != (l1.length : Int)) = false := bne_eq_false_iff_eq.mpr c3
 have c3b2 : (l0.length == l1.length) = true := by first | simpa using c3 | (simp at c3 ⊢; omega)
 clear c3
 have H' := A_ H
 clear H
 go_enter Tryd.func46, Tryd.ntmps46
 go_wp2
 go_loopg [5] k (fun kq v5 w' => ∃ (x5_1 : Int), v5 = .int .i64 x5_1 ∧ Aside0 (laws_eqResS.l0 kq l0 l1 x5_1 = some r) ∧ Aside0 (kq ≤ k) ∧ Aside0 (Below w.heap.size w w'))
 case atStart => exact ⟨(0), rs_, H', ⟨Nat.le_refl _⟩, ⟨bB_⟩⟩
 case round =>
  clear H'
  try clear c1
  try clear p2
  try clear c3
  try clear c3b0
  try clear c3b1
  try clear c3b2
  obtain ⟨x5_1, rfl, HA, HK1, HB⟩ := hrel
  cases gk with
  | zero => exact absurd HA.out (by simp [laws_eqResS.l0])
  | succ k1 =>
   have H := HA.out
   clear HA
   simp only [laws_eqResS.l0] at H
   by_cases c4 : x5_1 < (l0.length : Int)
   rotate_left
   · rw [if_neg c4] at H
     have c4b0 : decide (x5_1 < (l0.length : Int)) = false := decide_eq_false c4
     clear c4
     obtain rfl := si_ H
     go_wp2
     go_ret
     exact ⟨rr_, bB_⟩
   rw [if_pos c4] at H
   have c4b0 : decide (x5_1 < (l0.length : Int)) = true := decide_eq_true c4
   clear c4
   by_cases c5 : 0 ≤ x5_1
   rotate_left
   · exact absurd H (by rw [if_neg c5]; simp)
   rw [if_pos c5] at H
   have c5b0 : decide (0 ≤ x5_1) = true := decide_eq_true c5
   clear c5
   by_cases c6 : x5_1 < (l1.length : Int)
   rotate_left
   · exact absurd H (by rw [if_neg c6]; simp)
   rw [if_pos c6] at H
   have c6b0 : decide (x5_1 < (l1.length : Int)) = true := decide_eq_true c6
   clear c6
   obtain ⟨t323, A7, H⟩ := bo_ H
   (try dsimp only at H)
   by_cases c8 : t323 = true
   · subst c8
     rw [if_pos rfl] at H
     have H' := A_ H
     clear H
     try go_wp2
     replace HB := A_ (below_drew1 HB.out)
     have p321 : 0 ≤ (x5_1 : Int) := od_
     have q321 : x5_1 < (l0.length : Int) := od_
     obtain ⟨ad321, A321_0, c321_0, A321_4, c321_4, e321, hx321_0, hx321_1, hx321_2, hx321_3, hx321_4, hl321_0, hi321_0, hl321_4, hi321_4⟩ := at_T67 HR0.out x5_1 p321 q321
     have hw321_4 := hx321_4
     have hw321_3 := hx321_3
     have hw321_2 := hx321_2
     have hw321_1 := hx321_1
     have hw321_0 := hx321_0
     cases e321
     replace hx321_0 := bc_ HB.out hx321_0
     replace hx321_1 := bc_ HB.out hx321_1
     replace hx321_2 := bc_ HB.out hx321_2
     replace hx321_3 := bc_ HB.out hx321_3
     replace hx321_4 := bc_ HB.out hx321_4
     have HR321_0 := A_ hi321_0
     have HC321_0 := A_ hl321_0
     clear hi321_0 hl321_0
     have HR321_4 := A_ hi321_4
     have HC321_4 := A_ hl321_4
     clear hi321_4 hl321_4
     replace p321 := eq_true p321
     replace q321 := eq_true q321
     have p322 : 0 ≤ (x5_1 : Int) := od_
     have q322 : x5_1 < (l1.length : Int) := od_
     obtain ⟨ad322, A322_0, c322_0, A322_4, c322_4, e322, hx322_0, hx322_1, hx322_2, hx322_3, hx322_4, hl322_0, hi322_0, hl322_4, hi322_4⟩ := at_T67 HR1.out x5_1 p322 q322
     have hw322_4 := hx322_4
     have hw322_3 := hx322_3
     have hw322_2 := hx322_2
     have hw322_1 := hx322_1
     have hw322_0 := hx322_0
     cases e322
     replace hx322_0 := bc_ HB.out hx322_0
     replace hx322_1 := bc_ HB.out hx322_1
     replace hx322_2 := bc_ HB.out hx322_2
     replace hx322_3 := bc_ HB.out hx322_3
     replace hx322_4 := bc_ HB.out hx322_4
     have HR322_0 := A_ hi322_0
     have HC322_0 := A_ hl322_0
     clear hi322_0 hl322_0
     have HR322_4 := A_ hi322_4
     have HC322_4 := A_ hl322_4
     clear hi322_4 hl322_4
     replace p322 := eq_true p322
     replace q322 := eq_true q322
     refine start_ (n := 10) (S := fun w' => w'.cell? (ad321.add ((x5_1).toNat * 5)) = some (.slice A321_0 ((rd_T67 l0 x5_1).f0).length c321_0) ∧ w'.cell? ⟨(ad321.add ((x5_1).toNat * 5)).block, (ad321.add ((x5_1).toNat * 5)).off + 1, none⟩ = some (.bool ((rd_T67 l0 x5_1).f1)) ∧ w'.cell? ⟨(ad321.add ((x5_1).toNat * 5)).block, (ad321.add ((x5_1).toNat * 5)).off + 2, none⟩ = some (.string ((rd_T67 l0 x5_1).f2)) ∧ w'.cell? ⟨(ad321.add ((x5_1).toNat * 5)).block, (ad321.add ((x5_1).toNat * 5)).off + 3, none⟩ = some (.int .i64 ((rd_T67 l0 x5_1).f3)) ∧ w'.cell? ⟨(ad321.add ((x5_1).toNat * 5)).block, (ad321.add ((x5_1).toNat * 5)).off + 4, none⟩ = some (.slice A321_4 ((rd_T67 l0 x5_1).f4).length c321_4) ∧ w'.cell? (ad322.add ((x5_1).toNat * 5)) = some (.slice A322_0 ((rd_T67 l1 x5_1).f0).length c322_0) ∧ w'.cell? ⟨(ad322.add ((x5_1).toNat * 5)).block, (ad322.add ((x5_1).toNat * 5)).off + 1, none⟩ = some (.bool ((rd_T67 l1 x5_1).f1)) ∧ w'.cell? ⟨(ad322.add ((x5_1).toNat * 5)).block, (ad322.add ((x5_1).toNat * 5)).off + 2, none⟩ = some (.string ((rd_T67 l1 x5_1).f2)) ∧ w'.cell? ⟨(ad322.add ((x5_1).toNat * 5)).block, (ad322.add ((x5_1).toNat * 5)).off + 3, none⟩ = some (.int .i64 ((rd_T67 l1 x5_1).f3)) ∧ w'.cell? ⟨(ad322.add ((x5_1).toNat * 5)).block, (ad322.add ((x5_1).toNat * 5)).off + 4, none⟩ = some (.slice A322_4 ((rd_T67 l1 x5_1).f4).length c322_4)) (ds := []) #[false, false, false, false, false, false, false, false, false, false] (by kernel_rfl) rfl rfl ⟨(be_ hw321_0), (be_ hw321_1), (be_ hw321_2), (be_ hw321_3), (be_ hw321_4), (be_ hw322_0), (be_ hw322_1), (be_ hw322_2), (be_ hw322_3), (be_ hw322_4)⟩ (fun hHeld => ?_); refine with_tabW laws_eqResS.tab6 laws_eqResS.bits6 (fun HT_ HW_ => ?_)
     generalize wr.drew = w9 at HB HR321_0 HR321_4 HR322_0 HR322_4 hx321_0 hx321_1 hx321_2 hx321_3 hx321_4 hx322_0 hx322_1 hx322_2 hx322_3 hx322_4 hHeld ⊢
     refine pu_ (i := 0) (N := some 17) ?_
     refine pu_ (i := 1) (N := some 18) ?_
     refine pu_ (i := 2) (N := some 19) ?_
     refine pu_ (i := 4) (N := some 21) ?_
     refine pu_ (i := 5) (N := some 22) ?_
     refine pu_ (i := 6) (N := some 23) ?_
     refine tk_ (i := 3) (N := some 20) hHeld ?_
     refine tk_ (i := 7) (N := some 24) hHeld ?_
     refine on_ (i := 8) (N := some 25) (fun K hK => ?_)
     refine goes_ Tryd.func72 (by kernel_rfl) rfl #[.agg #[.slice A321_0 ((rd_T67 l0 x5_1).f0).length c321_0, .bool ((rd_T67 l0 x5_1).f1), .string ((rd_T67 l0 x5_1).f2), .int .i64 ((rd_T67 l0 x5_1).f3), .slice A321_4 ((rd_T67 l0 x5_1).f4).length c321_4], .agg #[.slice A322_0 ((rd_T67 l1 x5_1).f0).length c322_0, .bool ((rd_T67 l1 x5_1).f1), .string ((rd_T67 l1 x5_1).f2), .int .i64 ((rd_T67 l1 x5_1).f3), .slice A322_4 ((rd_T67 l1 x5_1).f4).length c322_4]] (by rfl) rfl rfl ml_ ?_
     with_reducible refine (laws_eqRes.calls k1 _ _ ((rd_T67 l0 x5_1).f0) ((rd_T67 l0 x5_1).f1) ((rd_T67 l0 x5_1).f2) ((rd_T67 l0 x5_1).f3) _ _ ((rd_T67 l0 x5_1).f4) _ _ ((rd_T67 l1 x5_1).f0) ((rd_T67 l1 x5_1).f1) ((rd_T67 l1 x5_1).f2) ((rd_T67 l1 x5_1).f3) _ _ ((rd_T67 l1 x5_1).f4) true _ ?s1 ?s2 ?s3 ?s4 ?s5 ?s6 ?s7 ?s8 A7.out).mono ?_
     (case s1 => exact cC_ (Kd.C_below HR321_0.out HB.out))
     (case s2 => exact HC321_0.out)
     (case s3 => exact cC_ (Kd.C_below HR321_4.out HB.out))
     (case s4 => exact HC321_4.out)
     (case s5 => exact cC_ (Kd.C_below HR322_0.out HB.out))
     (case s6 => exact HC322_0.out)
     (case s7 => exact cC_ (Kd.C_below HR322_4.out HB.out))
     (case s8 => exact HC322_4.out)
     rintro e w10 ⟨rfl, hb⟩
     refine ⟨_, rfl, ?_⟩
     replace HB := A_ (below_step bB_ hb)
     (try clear hb)
     (try clear hb2)
     (try clear hk)
     (try clear hi)
     refine hK.out _ _ ⟨(be_ hw321_0), (be_ hw321_1), (be_ hw321_2), (be_ hw321_3), (be_ hw321_4), (be_ hw322_0), (be_ hw322_1), (be_ hw322_2), (be_ hw322_3), (be_ hw322_4)⟩ (fun hHeld => ?_)
     clear hK K
     refine no_ (some 25) ?_
     refine pu_ (i := 9) (N := some 26) ?_
     refine done_ (done_of HT_.out (by kernel_rfl)) ?_
     (try clear hHeld)
     try go_wp2
     go_roundg k1
     case measure => have := HK1.out; omega
     case rel => exact ⟨(wrap64 (x5_1 + 1)), rs_, H', ⟨by have := HK1.out; omega⟩, ⟨bB_⟩⟩
   · replace c8 := Bool.eq_false_iff.mpr c8
     subst c8
     rw [if_neg nf_] at H
     obtain rfl := si_ H
     try go_wp2
     replace HB := A_ (below_drew1 HB.out)
     have p321 : 0 ≤ (x5_1 : Int) := od_
     have q321 : x5_1 < (l0.length : Int) := od_
     obtain ⟨ad321, A321_0, c321_0, A321_4, c321_4, e321, hx321_0, hx321_1, hx321_2, hx321_3, hx321_4, hl321_0, hi321_0, hl321_4, hi321_4⟩ := at_T67 HR0.out x5_1 p321 q321
     have hw321_4 := hx321_4
     have hw321_3 := hx321_3
     have hw321_2 := hx321_2
     have hw321_1 := hx321_1
     have hw321_0 := hx321_0
     cases e321
     replace hx321_0 := bc_ HB.out hx321_0
     replace hx321_1 := bc_ HB.out hx321_1
     replace hx321_2 := bc_ HB.out hx321_2
     replace hx321_3 := bc_ HB.out hx321_3
     replace hx321_4 := bc_ HB.out hx321_4
     have HR321_0 := A_ hi321_0
     have HC321_0 := A_ hl321_0
     clear hi321_0 hl321_0
     have HR321_4 := A_ hi321_4
     have HC321_4 := A_ hl321_4
     clear hi321_4 hl321_4
     replace p321 := eq_true p321
     replace q321 := eq_true q321
     have p322 : 0 ≤ (x5_1 : Int) := od_
     have q322 : x5_1 < (l1.length : Int) := od_
     obtain ⟨ad322, A322_0, c322_0, A322_4, c322_4, e322, hx322_0, hx322_1, hx322_2, hx322_3, hx322_4, hl322_0, hi322_0, hl322_4, hi322_4⟩ := at_T67 HR1.out x5_1 p322 q322
     have hw322_4 := hx322_4
     have hw322_3 := hx322_3
     have hw322_2 := hx322_2
     have hw322_1 := hx322_1
     have hw322_0 := hx322_0
     cases e322
     replace hx322_0 := bc_ HB.out hx322_0
     replace hx322_1 := bc_ HB.out hx322_1
     replace hx322_2 := bc_ HB.out hx322_2
     replace hx322_3 := bc_ HB.out hx322_3
     replace hx322_4 := bc_ HB.out hx322_4
     have HR322_0 := A_ hi322_0
     have HC322_0 := A_ hl322_0
     clear hi322_0 hl322_0
     have HR322_4 := A_ hi322_4
     have HC322_4 := A_ hl322_4
     clear hi322_4 hl322_4
     replace p322 := eq_true p322
     replace q322 := eq_true q322
     refine start_ (n := 10) (S := fun w' => w'.cell? (ad321.add ((x5_1).toNat * 5)) = some (.slice A321_0 ((rd_T67 l0 x5_1).f0).length c321_0) ∧ w'.cell? ⟨(ad321.add ((x5_1).toNat * 5)).block, (ad321.add ((x5_1).toNat * 5)).off + 1, none⟩ = some (.bool ((rd_T67 l0 x5_1).f1)) ∧ w'.cell? ⟨(ad321.add ((x5_1).toNat * 5)).block, (ad321.add ((x5_1).toNat * 5)).off + 2, none⟩ = some (.string ((rd_T67 l0 x5_1).f2)) ∧ w'.cell? ⟨(ad321.add ((x5_1).toNat * 5)).block, (ad321.add ((x5_1).toNat * 5)).off + 3, none⟩ = some (.int .i64 ((rd_T67 l0 x5_1).f3)) ∧ w'.cell? ⟨(ad321.add ((x5_1).toNat * 5)).block, (ad321.add ((x5_1).toNat * 5)).off + 4, none⟩ = some (.slice A321_4 ((rd_T67 l0 x5_1).f4).length c321_4) ∧ w'.cell? (ad322.add ((x5_1).toNat * 5)) = some (.slice A322_0 ((rd_T67 l1 x5_1).f0).length c322_0) ∧ w'.cell? ⟨(ad322.add ((x5_1).toNat * 5)).block, (ad322.add ((x5_1).toNat * 5)).off + 1, none⟩ = some (.bool ((rd_T67 l1 x5_1).f1)) ∧ w'.cell? ⟨(ad322.add ((x5_1).toNat * 5)).block, (ad322.add ((x5_1).toNat * 5)).off + 2, none⟩ = some (.string ((rd_T67 l1 x5_1).f2)) ∧ w'.cell? ⟨(ad322.add ((x5_1).toNat * 5)).block, (ad322.add ((x5_1).toNat * 5)).off + 3, none⟩ = some (.int .i64 ((rd_T67 l1 x5_1).f3)) ∧ w'.cell? ⟨(ad322.add ((x5_1).toNat * 5)).block, (ad322.add ((x5_1).toNat * 5)).off + 4, none⟩ = some (.slice A322_4 ((rd_T67 l1 x5_1).f4).length c322_4)) (ds := []) #[false, false, false, false, false, false, false, false, false, false] (by kernel_rfl) rfl rfl ⟨(be_ hw321_0), (be_ hw321_1), (be_ hw321_2), (be_ hw321_3), (be_ hw321_4), (be_ hw322_0), (be_ hw322_1), (be_ hw322_2), (be_ hw322_3), (be_ hw322_4)⟩ (fun hHeld => ?_); refine with_tabW laws_eqResS.tab6 laws_eqResS.bits6 (fun HT_ HW_ => ?_)
     generalize wr.drew = w11 at HB HR321_0 HR321_4 HR322_0 HR322_4 hx321_0 hx321_1 hx321_2 hx321_3 hx321_4 hx322_0 hx322_1 hx322_2 hx322_3 hx322_4 hHeld ⊢
     refine pu_ (i := 0) (N := some 17) ?_
     refine pu_ (i := 1) (N := some 18) ?_
     refine pu_ (i := 2) (N := some 19) ?_
     refine pu_ (i := 4) (N := some 21) ?_
     refine pu_ (i := 5) (N := some 22) ?_
     refine pu_ (i := 6) (N := some 23) ?_
     refine tk_ (i := 3) (N := some 20) hHeld ?_
     refine tk_ (i := 7) (N := some 24) hHeld ?_
     refine on_ (i := 8) (N := some 25) (fun K hK => ?_)
     refine goes_ Tryd.func72 (by kernel_rfl) rfl #[.agg #[.slice A321_0 ((rd_T67 l0 x5_1).f0).length c321_0, .bool ((rd_T67 l0 x5_1).f1), .string ((rd_T67 l0 x5_1).f2), .int .i64 ((rd_T67 l0 x5_1).f3), .slice A321_4 ((rd_T67 l0 x5_1).f4).length c321_4], .agg #[.slice A322_0 ((rd_T67 l1 x5_1).f0).length c322_0, .bool ((rd_T67 l1 x5_1).f1), .string ((rd_T67 l1 x5_1).f2), .int .i64 ((rd_T67 l1 x5_1).f3), .slice A322_4 ((rd_T67 l1 x5_1).f4).length c322_4]] (by rfl) rfl rfl ml_ ?_
     with_reducible refine (laws_eqRes.calls k1 _ _ ((rd_T67 l0 x5_1).f0) ((rd_T67 l0 x5_1).f1) ((rd_T67 l0 x5_1).f2) ((rd_T67 l0 x5_1).f3) _ _ ((rd_T67 l0 x5_1).f4) _ _ ((rd_T67 l1 x5_1).f0) ((rd_T67 l1 x5_1).f1) ((rd_T67 l1 x5_1).f2) ((rd_T67 l1 x5_1).f3) _ _ ((rd_T67 l1 x5_1).f4) false _ ?s1 ?s2 ?s3 ?s4 ?s5 ?s6 ?s7 ?s8 A7.out).mono ?_
     (case s1 => exact cC_ (Kd.C_below HR321_0.out HB.out))
     (case s2 => exact HC321_0.out)
     (case s3 => exact cC_ (Kd.C_below HR321_4.out HB.out))
     (case s4 => exact HC321_4.out)
     (case s5 => exact cC_ (Kd.C_below HR322_0.out HB.out))
     (case s6 => exact HC322_0.out)
     (case s7 => exact cC_ (Kd.C_below HR322_4.out HB.out))
     (case s8 => exact HC322_4.out)
     rintro e w12 ⟨rfl, hb⟩
     refine ⟨_, rfl, ?_⟩
     replace HB := A_ (below_step bB_ hb)
     (try clear hb)
     (try clear hb2)
     (try clear hk)
     (try clear hi)
     refine hK.out _ _ ⟨(be_ hw321_0), (be_ hw321_1), (be_ hw321_2), (be_ hw321_3), (be_ hw321_4), (be_ hw322_0), (be_ hw322_1), (be_ hw322_2), (be_ hw322_3), (be_ hw322_4)⟩ (fun hHeld => ?_)
     clear hK K
     refine no_ (some 25) ?_
     refine pu_ (i := 9) (N := some 26) ?_
     refine done_ (done_of HT_.out (by kernel_rfl)) ?_
     (try clear hHeld)
     try go_wp2
     go_ret
     exact ⟨rr_, bB_⟩
def laws_eqLock.f (k : Nat) (a0_0 : Int) (l0_1 : List ByteArray) (a0_2 : Bool) (a0_3 : Bool) (a0_4 : Int) (a1_0 : Int) (l1_1 : List ByteArray) (a1_2 : Bool) (a1_3 : Bool) (a1_4 : Int) : Option (Bool) := if a0_0 = a1_0 then ((laws_eqStringS.f k l0_1 l1_1).bind fun t326 => (if t326 = true then (if (a0_2 != a1_2) = true then (some false) else (if (a0_3 != a1_3) = true then (some false) else (if a0_4 = a1_4 then (some true) else (some false)))) else (some false))) else (some false)
theorem laws_eqLock.calls (k : Nat) (a0_0 : Int) (A0_1 : Option Addr) (c0_1 : Nat) (l0_1 : List ByteArray) (a0_2 : Bool) (a0_3 : Bool) (a0_4 : Int) (a1_0 : Int) (A1_1 : Option Addr) (c1_1 : Nat) (l1_1 : List ByteArray) (a1_2 : Bool) (a1_3 : Bool) (a1_4 : Int) (r : Bool) (w : World) (hr0_1 : Kd.C Kd.string w A0_1 l0_1.length l0_1) (hc0_1 : l0_1.length ≤ c0_1) (hr1_1 : Kd.C Kd.string w A1_1 l1_1.length l1_1) (hc1_1 : l1_1.length ≤ c1_1) (h : laws_eqLock.f k a0_0 l0_1 a0_2 a0_3 a0_4 a1_0 l1_1 a1_2 a1_3 a1_4 = some r) :
 Calls Tryd.prog 73 #[.agg #[.int .i64 a0_0, .slice A0_1 l0_1.length c0_1, .bool a0_2, .bool a0_3, .int .i64 a0_4], .agg #[.int .i64 a1_0, .slice A1_1 l1_1.length c1_1, .bool a1_2, .bool a1_3, .int .i64 a1_4]] w fun e w' => e = .returned (.bool r) ∧ Below w.heap.size w w' := by
 have hu98 := Tryd.underlying98
 have HR0_1 := A_ hr0_1
 have HC0_1 := A_ hc0_1
 clear hr0_1 hc0_1
 have HR1_1 := A_ hr1_1
 have HC1_1 := A_ hc1_1
 clear hr1_1 hc1_1
 have HB := A_ (Below.refl w.heap.size w)
 have H : (if a0_0 = a1_0 then ((laws_eqStringS.f k l0_1 l1_1).bind fun t326 => (if t326 = true then (if (a0_2 != a1_2) = true then (some false) else (if (a0_3 != a1_3) = true then (some false) else (if a0_4 = a1_4 then (some true) else (some false)))) else (some false))) else (some false)) = some r := h
 clear h
 by_cases c3 : a0_0 = a1_0
 rotate_left
 · rw [if_neg c3] at H
   have c3b0 : (a0_0 == a1_0) = false := beq_eq_false_iff_ne.mpr c3
   have c3b1 : (a0_0 != a1_0) = true := bne_iff_ne.mpr c3
   obtain rfl := si_ H
   go_enter Tryd.func73, Tryd.ntmps73
   go_wp2_with (first | ((with_reducible refine gd_ (N := 2) rfl ?_); refine bx_ (N := 2) (cs := #[.int .i64 a0_0, .slice A0_1 l0_1.length c0_1, .bool a0_2, .bool a0_3, .int .i64 a0_4]) (t := 98) ?_; intro gb324 hg w34 hbox hb; have BK324 := A_ (hbox); have GW324 := A_ (ge_ hg bB_ : w.heap.size ≤ gb324); have GE324 := A_ (ge_ hg bB_ : w.heap.size ≤ gb324); replace HB := A_ (below_step bB_ hb); clear hb hbox hg) | ((with_reducible refine gd_ (N := 3) rfl ?_); refine bx_ (N := 3) (cs := #[.int .i64 a1_0, .slice A1_1 l1_1.length c1_1, .bool a1_2, .bool a1_3, .int .i64 a1_4]) (t := 98) ?_; intro gb325 hg w35 hbox hb; have BK325 := A_ (hbox); have GW325 := A_ (ge_ hg (bG_ GE324.out) : w.heap.size ≤ gb325); have GE325 := A_ (ge_ hg (bG_ GE324.out) : w.heap.size ≤ gb325); replace HB := A_ (below_step (bG_ GE324.out) hb); have NB324_325 := A_ (gm_ hg BK324.out); have NB325_324 := A_ (gn_ hg BK324.out); replace BK324 := A_ (bw_ BK324.out hb); clear hb hbox hg; have hnb36 := NB324_325.out; have hnc36 := NB325_324.out; obtain ⟨hcz37_0, hcz37_1, hcz37_2, hcz37_3, hcz37_4, hfz37_0, hfz37_1, hfz37_2, hfz37_3, hfz37_4⟩ := cz5_ BK324.out; obtain ⟨hcz38_0, hcz38_1, hcz38_2, hcz38_3, hcz38_4, hfz38_0, hfz38_1, hfz38_2, hfz38_3, hfz38_4⟩ := cz5_ BK325.out))
   go_ret
   exact ⟨rr_, by repeat (first | (with_reducible first | exact HB.out | apply below_alloc | apply pw_below_drewN | apply below_drew1 | refine below_set ?_ GE324.out | refine below_set ?_ GE325.out) | exact HB.out)⟩
 rw [if_pos c3] at H
 have c3b0 : (a0_0 == a1_0) = true := beq_iff_eq.mpr c3
 have c3b1 : (a0_0 != a1_0) = false := bne_eq_false_iff_eq.mpr c3
 clear c3
 obtain ⟨t326, A4, H⟩ := bo_ H
 (try dsimp only at H)
 by_cases c5 : t326 = true
 · subst c5
   rw [if_pos rfl] at H
   by_cases c6 : (a0_2 != a1_2) = true
   · rw [if_pos c6] at H
     have c6b0 : (a0_2 != a1_2) = true := c6
     (try (have c6b1 : decide (a0_2 = a1_2) = false := by simpa using c6))
     (try (have c6b2 : (a0_2 == a1_2) = false := by simpa using c6))
     (try (have c6b3 : ¬ (a0_2 = a1_2) := by simpa using c6))
     clear c6
     obtain rfl := si_ H
     go_enter Tryd.func73, Tryd.ntmps73
     go_wp2_with (first | ((with_reducible refine gd_ (N := 2) rfl ?_); refine bx_ (N := 2) (cs := #[.int .i64 a0_0, .slice A0_1 l0_1.length c0_1, .bool a0_2, .bool a0_3, .int .i64 a0_4]) (t := 98) ?_; intro gb324 hg w7 hbox hb; have BK324 := A_ (hbox); have GW324 := A_ (ge_ hg bB_ : w.heap.size ≤ gb324); have GE324 := A_ (ge_ hg bB_ : w.heap.size ≤ gb324); replace HB := A_ (below_step bB_ hb); clear hb hbox hg) | ((with_reducible refine gd_ (N := 3) rfl ?_); refine bx_ (N := 3) (cs := #[.int .i64 a1_0, .slice A1_1 l1_1.length c1_1, .bool a1_2, .bool a1_3, .int .i64 a1_4]) (t := 98) ?_; intro gb325 hg w8 hbox hb; have BK325 := A_ (hbox); have GW325 := A_ (ge_ hg (bG_ GE324.out) : w.heap.size ≤ gb325); have GE325 := A_ (ge_ hg (bG_ GE324.out) : w.heap.size ≤ gb325); replace HB := A_ (below_step (bG_ GE324.out) hb); have NB324_325 := A_ (gm_ hg BK324.out); have NB325_324 := A_ (gn_ hg BK324.out); replace BK324 := A_ (bw_ BK324.out hb); clear hb hbox hg; have hnb9 := NB324_325.out; have hnc9 := NB325_324.out; obtain ⟨hcz10_0, hcz10_1, hcz10_2, hcz10_3, hcz10_4, hfz10_0, hfz10_1, hfz10_2, hfz10_3, hfz10_4⟩ := cz5_ BK324.out; obtain ⟨hcz11_0, hcz11_1, hcz11_2, hcz11_3, hcz11_4, hfz11_0, hfz11_1, hfz11_2, hfz11_3, hfz11_4⟩ := cz5_ BK325.out) | ((with_reducible refine gc_ (f := 14) rfl ?_); refine gL_ (some 14) Tryd.func14 #[.slice A0_1 l0_1.length c0_1, .slice A1_1 l1_1.length c1_1] ?_; (with_reducible refine (laws_eqStringS.calls k _ _ l0_1 _ _ l1_1 true _ ?s1 ?s2 ?s3 ?s4 A4.out).mono ?_); (case s1 => exact cC_ (Kd.C_below HR0_1.out HB.out)); (case s2 => exact HC0_1.out); (case s3 => exact cC_ (Kd.C_below HR1_1.out HB.out)); (case s4 => exact HC1_1.out); rintro e w' ⟨rfl, ⟨nd, rfl⟩⟩; refine ⟨_, rfl, ?_⟩))
     go_ret
     exact ⟨rr_, by repeat (first | (with_reducible first | exact HB.out | apply below_alloc | apply pw_below_drewN | apply below_drew1 | refine below_set ?_ GE324.out | refine below_set ?_ GE325.out) | exact HB.out)⟩
   rw [if_neg c6] at H
   have c6b0 : (a0_2 != a1_2) = false := by simpa using c6
   (try (have c6b1 : decide (a0_2 = a1_2) = true := by simpa using c6))
   (try (have c6b2 : (a0_2 == a1_2) = true := by simpa using c6))
   clear c6
   by_cases c12 : (a0_3 != a1_3) = true
   · rw [if_pos c12] at H
     have c12b0 : (a0_3 != a1_3) = true := c12
     (try (have c12b1 : decide (a0_3 = a1_3) = false := by simpa using c12))
     (try (have c12b2 : (a0_3 == a1_3) = false := by simpa using c12))
     (try (have c12b3 : ¬ (a0_3 = a1_3) := by simpa using c12))
     clear c12
     obtain rfl := si_ H
     go_enter Tryd.func73, Tryd.ntmps73
     go_wp2_with (first | ((with_reducible refine gd_ (N := 2) rfl ?_); refine bx_ (N := 2) (cs := #[.int .i64 a0_0, .slice A0_1 l0_1.length c0_1, .bool a0_2, .bool a0_3, .int .i64 a0_4]) (t := 98) ?_; intro gb324 hg w13 hbox hb; have BK324 := A_ (hbox); have GW324 := A_ (ge_ hg bB_ : w.heap.size ≤ gb324); have GE324 := A_ (ge_ hg bB_ : w.heap.size ≤ gb324); replace HB := A_ (below_step bB_ hb); clear hb hbox hg) | ((with_reducible refine gd_ (N := 3) rfl ?_); refine bx_ (N := 3) (cs := #[.int .i64 a1_0, .slice A1_1 l1_1.length c1_1, .bool a1_2, .bool a1_3, .int .i64 a1_4]) (t := 98) ?_; intro gb325 hg w14 hbox hb; have BK325 := A_ (hbox); have GW325 := A_ (ge_ hg (bG_ GE324.out) : w.heap.size ≤ gb325); have GE325 := A_ (ge_ hg (bG_ GE324.out) : w.heap.size ≤ gb325); replace HB := A_ (below_step (bG_ GE324.out) hb); have NB324_325 := A_ (gm_ hg BK324.out); have NB325_324 := A_ (gn_ hg BK324.out); replace BK324 := A_ (bw_ BK324.out hb); clear hb hbox hg; have hnb15 := NB324_325.out; have hnc15 := NB325_324.out; obtain ⟨hcz16_0, hcz16_1, hcz16_2, hcz16_3, hcz16_4, hfz16_0, hfz16_1, hfz16_2, hfz16_3, hfz16_4⟩ := cz5_ BK324.out; obtain ⟨hcz17_0, hcz17_1, hcz17_2, hcz17_3, hcz17_4, hfz17_0, hfz17_1, hfz17_2, hfz17_3, hfz17_4⟩ := cz5_ BK325.out) | ((with_reducible refine gc_ (f := 14) rfl ?_); refine gL_ (some 14) Tryd.func14 #[.slice A0_1 l0_1.length c0_1, .slice A1_1 l1_1.length c1_1] ?_; (with_reducible refine (laws_eqStringS.calls k _ _ l0_1 _ _ l1_1 true _ ?s1 ?s2 ?s3 ?s4 A4.out).mono ?_); (case s1 => exact cC_ (Kd.C_below HR0_1.out HB.out)); (case s2 => exact HC0_1.out); (case s3 => exact cC_ (Kd.C_below HR1_1.out HB.out)); (case s4 => exact HC1_1.out); rintro e w' ⟨rfl, ⟨nd, rfl⟩⟩; refine ⟨_, rfl, ?_⟩))
     go_ret
     exact ⟨rr_, by repeat (first | (with_reducible first | exact HB.out | apply below_alloc | apply pw_below_drewN | apply below_drew1 | refine below_set ?_ GE324.out | refine below_set ?_ GE325.out) | exact HB.out)⟩
   rw [if_neg c12] at H
   have c12b0 : (a0_3 != a1_3) = false := by simpa using c12
   (try (have c12b1 : decide (a0_3 = a1_3) = true := by simpa using c12))
   (try (have c12b2 : (a0_3 == a1_3) = true := by simpa using c12))
   clear c12
   by_cases c18 : a0_4 = a1_4
   rotate_left
   · rw [if_neg c18] at H
     have c18b0 : (a0_4 == a1_4) = false := beq_eq_false_iff_ne.mpr c18
     have c18b1 : (a0_4 != a1_4) = true := bne_iff_ne.mpr c18
     obtain rfl := si_ H
     go_enter Tryd.func73, Tryd.ntmps73
     go_wp2_with (first | ((with_reducible refine gd_ (N := 2) rfl ?_); refine bx_ (N := 2) (cs := #[.int .i64 a0_0, .slice A0_1 l0_1.length c0_1, .bool a0_2, .bool a0_3, .int .i64 a0_4]) (t := 98) ?_; intro gb324 hg w24 hbox hb; have BK324 := A_ (hbox); have GW324 := A_ (ge_ hg bB_ : w.heap.size ≤ gb324); have GE324 := A_ (ge_ hg bB_ : w.heap.size ≤ gb324); replace HB := A_ (below_step bB_ hb); clear hb hbox hg) | ((with_reducible refine gd_ (N := 3) rfl ?_); refine bx_ (N := 3) (cs := #[.int .i64 a1_0, .slice A1_1 l1_1.length c1_1, .bool a1_2, .bool a1_3, .int .i64 a1_4]) (t := 98) ?_; intro gb325 hg w25 hbox hb; have BK325 := A_ (hbox); have GW325 := A_ (ge_ hg (bG_ GE324.out) : w.heap.size ≤ gb325); have GE325 := A_ (ge_ hg (bG_ GE324.out) : w.heap.size ≤ gb325); replace HB := A_ (below_step (bG_ GE324.out) hb); have NB324_325 := A_ (gm_ hg BK324.out); have NB325_324 := A_ (gn_ hg BK324.out); replace BK324 := A_ (bw_ BK324.out hb); clear hb hbox hg; have hnb26 := NB324_325.out; have hnc26 := NB325_324.out; obtain ⟨hcz27_0, hcz27_1, hcz27_2, hcz27_3, hcz27_4, hfz27_0, hfz27_1, hfz27_2, hfz27_3, hfz27_4⟩ := cz5_ BK324.out; obtain ⟨hcz28_0, hcz28_1, hcz28_2, hcz28_3, hcz28_4, hfz28_0, hfz28_1, hfz28_2, hfz28_3, hfz28_4⟩ := cz5_ BK325.out) | ((with_reducible refine gc_ (f := 14) rfl ?_); refine gL_ (some 14) Tryd.func14 #[.slice A0_1 l0_1.length c0_1, .slice A1_1 l1_1.length c1_1] ?_; (with_reducible refine (laws_eqStringS.calls k _ _ l0_1 _ _ l1_1 true _ ?s1 ?s2 ?s3 ?s4 A4.out).mono ?_); (case s1 => exact cC_ (Kd.C_below HR0_1.out HB.out)); (case s2 => exact HC0_1.out); (case s3 => exact cC_ (Kd.C_below HR1_1.out HB.out)); (case s4 => exact HC1_1.out); rintro e w' ⟨rfl, ⟨nd, rfl⟩⟩; refine ⟨_, rfl, ?_⟩))
     go_ret
     exact ⟨rr_, by repeat (first | (with_reducible first | exact HB.out | apply below_alloc | apply pw_below_drewN | apply below_drew1 | refine below_set ?_ GE324.out | refine below_set ?_ GE325.out) | exact HB.out)⟩
   rw [if_pos c18] at H
   have c18b0 : (a0_4 == a1_4) = true := beq_iff_eq.mpr c18
   have c18b1 : (a0_4 != a1_4) = false := bne_eq_false_iff_eq.mpr c18
   clear c18
   obtain rfl := si_ H
   go_enter Tryd.func73, Tryd.ntmps73
   go_wp2_with (first | ((with_reducible refine gd_ (N := 2) rfl ?_); refine bx_ (N := 2) (cs := #[.int .i64 a0_0, .slice A0_1 l0_1.length c0_1, .bool a0_2, .bool a0_3, .int .i64 a0_4]) (t := 98) ?_; intro gb324 hg w19 hbox hb; have BK324 := A_ (hbox); have GW324 := A_ (ge_ hg bB_ : w.heap.size ≤ gb324); have GE324 := A_ (ge_ hg bB_ : w.heap.size ≤ gb324); replace HB := A_ (below_step bB_ hb); clear hb hbox hg) | ((with_reducible refine gd_ (N := 3) rfl ?_); refine bx_ (N := 3) (cs := #[.int .i64 a1_0, .slice A1_1 l1_1.length c1_1, .bool a1_2, .bool a1_3, .int .i64 a1_4]) (t := 98) ?_; intro gb325 hg w20 hbox hb; have BK325 := A_ (hbox); have GW325 := A_ (ge_ hg (bG_ GE324.out) : w.heap.size ≤ gb325); have GE325 := A_ (ge_ hg (bG_ GE324.out) : w.heap.size ≤ gb325); replace HB := A_ (below_step (bG_ GE324.out) hb); have NB324_325 := A_ (gm_ hg BK324.out); have NB325_324 := A_ (gn_ hg BK324.out); replace BK324 := A_ (bw_ BK324.out hb); clear hb hbox hg; have hnb21 := NB324_325.out; have hnc21 := NB325_324.out; obtain ⟨hcz22_0, hcz22_1, hcz22_2, hcz22_3, hcz22_4, hfz22_0, hfz22_1, hfz22_2, hfz22_3, hfz22_4⟩ := cz5_ BK324.out; obtain ⟨hcz23_0, hcz23_1, hcz23_2, hcz23_3, hcz23_4, hfz23_0, hfz23_1, hfz23_2, hfz23_3, hfz23_4⟩ := cz5_ BK325.out) | ((with_reducible refine gc_ (f := 14) rfl ?_); refine gL_ (some 14) Tryd.func14 #[.slice A0_1 l0_1.length c0_1, .slice A1_1 l1_1.length c1_1] ?_; (with_reducible refine (laws_eqStringS.calls k _ _ l0_1 _ _ l1_1 true _ ?s1 ?s2 ?s3 ?s4 A4.out).mono ?_); (case s1 => exact cC_ (Kd.C_below HR0_1.out HB.out)); (case s2 => exact HC0_1.out); (case s3 => exact cC_ (Kd.C_below HR1_1.out HB.out)); (case s4 => exact HC1_1.out); rintro e w' ⟨rfl, ⟨nd, rfl⟩⟩; refine ⟨_, rfl, ?_⟩))
   go_ret
   exact ⟨rr_, by repeat (first | (with_reducible first | exact HB.out | apply below_alloc | apply pw_below_drewN | apply below_drew1 | refine below_set ?_ GE324.out | refine below_set ?_ GE325.out) | exact HB.out)⟩
 · replace c5 := Bool.eq_false_iff.mpr c5
   subst c5
   rw [if_neg nf_] at H
   obtain rfl := si_ H
   go_enter Tryd.func73, Tryd.ntmps73
   go_wp2_with (first | ((with_reducible refine gd_ (N := 2) rfl ?_); refine bx_ (N := 2) (cs := #[.int .i64 a0_0, .slice A0_1 l0_1.length c0_1, .bool a0_2, .bool a0_3, .int .i64 a0_4]) (t := 98) ?_; intro gb324 hg w29 hbox hb; have BK324 := A_ (hbox); have GW324 := A_ (ge_ hg bB_ : w.heap.size ≤ gb324); have GE324 := A_ (ge_ hg bB_ : w.heap.size ≤ gb324); replace HB := A_ (below_step bB_ hb); clear hb hbox hg) | ((with_reducible refine gd_ (N := 3) rfl ?_); refine bx_ (N := 3) (cs := #[.int .i64 a1_0, .slice A1_1 l1_1.length c1_1, .bool a1_2, .bool a1_3, .int .i64 a1_4]) (t := 98) ?_; intro gb325 hg w30 hbox hb; have BK325 := A_ (hbox); have GW325 := A_ (ge_ hg (bG_ GE324.out) : w.heap.size ≤ gb325); have GE325 := A_ (ge_ hg (bG_ GE324.out) : w.heap.size ≤ gb325); replace HB := A_ (below_step (bG_ GE324.out) hb); have NB324_325 := A_ (gm_ hg BK324.out); have NB325_324 := A_ (gn_ hg BK324.out); replace BK324 := A_ (bw_ BK324.out hb); clear hb hbox hg; have hnb31 := NB324_325.out; have hnc31 := NB325_324.out; obtain ⟨hcz32_0, hcz32_1, hcz32_2, hcz32_3, hcz32_4, hfz32_0, hfz32_1, hfz32_2, hfz32_3, hfz32_4⟩ := cz5_ BK324.out; obtain ⟨hcz33_0, hcz33_1, hcz33_2, hcz33_3, hcz33_4, hfz33_0, hfz33_1, hfz33_2, hfz33_3, hfz33_4⟩ := cz5_ BK325.out) | ((with_reducible refine gc_ (f := 14) rfl ?_); refine gL_ (some 14) Tryd.func14 #[.slice A0_1 l0_1.length c0_1, .slice A1_1 l1_1.length c1_1] ?_; (with_reducible refine (laws_eqStringS.calls k _ _ l0_1 _ _ l1_1 false _ ?s1 ?s2 ?s3 ?s4 A4.out).mono ?_); (case s1 => exact cC_ (Kd.C_below HR0_1.out HB.out)); (case s2 => exact HC0_1.out); (case s3 => exact cC_ (Kd.C_below HR1_1.out HB.out)); (case s4 => exact HC1_1.out); rintro e w' ⟨rfl, ⟨nd, rfl⟩⟩; refine ⟨_, rfl, ?_⟩))
   go_ret
   exact ⟨rr_, by repeat (first | (with_reducible first | exact HB.out | apply below_alloc | apply pw_below_drewN | apply below_drew1 | refine below_set ?_ GE324.out | refine below_set ?_ GE325.out) | exact HB.out)⟩
end Go.Proofs.YtigoeooelfeopaaDoor.Q
