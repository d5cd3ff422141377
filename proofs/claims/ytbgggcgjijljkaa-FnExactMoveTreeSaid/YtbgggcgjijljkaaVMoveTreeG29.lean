import Derived.Test.YtbgggcgjijljkaaVMoveTreeG28
set_option maxHeartbeats 8000000
set_option maxRecDepth 100000
namespace Go.Proofs.Ytbgggcgjijljkaa.Q
open Go.RowKit Go.Proofs.YtbgggcgjijljkaaW.PrintWords Go.Proofs.YtbgggcgjijljkaaW.PrintLast Go.Proofs.YtbgggcgjijljkaaW.PrintMore
attribute [local go_sem] max2_int min2_int max_two min_two max_three min_three max_four min_four
set_option linter.unusedVariables false
set_option linter.unusedSimpArgs false
def laws_eqResS.l0 : Nat -> List (S57) -> List (S57) -> Int -> Option (Bool)
 | 0, _, _, _ => none
 | k + 1, x0, x1, x5 => if x5 < (x0.length : Int) then (if 0 <= x5 then (if x5 < (x1.length : Int) then ((laws_eqRes.f k ((rd_T57 x0 x5).f0) ((rd_T57 x0 x5).f1) ((rd_T57 x0 x5).f2) ((rd_T57 x0 x5).f3) ((rd_T57 x0 x5).f4) ((rd_T57 x1 x5).f0) ((rd_T57 x1 x5).f1) ((rd_T57 x1 x5).f2) ((rd_T57 x1 x5).f3) ((rd_T57 x1 x5).f4)).bind fun t403 => (if t403 = true then (laws_eqResS.l0 k x0 x1 (wrap64 (x5 + 1))) else (some false))) else (none)) else (none)) else (some true)
def laws_eqResS.f (k : Nat) (l0 : List (S57)) (l1 : List (S57)) : Option (Bool) := if (l0.length : Int) = (l1.length : Int) then (laws_eqResS.l0 k l0 l1 0) else (some false)
def laws_eqResS.T6 : Bool × List (List Nat × List Nat) := (true, [([], []), ([], []), ([0, 1], [0, 1]), ([2], [2]), ([], []), ([], []), ([4, 5], [4, 5]), ([6], [6]), ([3, 7], [3, 7]), ([8], [8])])
def laws_eqResS.B6 : List Nat := [0, 0, 3, 7, 0, 0, 48, 112, 255, 511]
theorem laws_eqResS.tab6 : rtab .any (opsOf Try.f19 6) = laws_eqResS.T6 := by kernel_rfl
theorem laws_eqResS.bits6 : waitsOk laws_eqResS.T6.2 laws_eqResS.B6 = true := by kernel_rfl
theorem laws_eqResS.calls (k : Nat) (A0 : Option Addr) (c0 : Nat) (l0 : List (S57)) (A1 : Option Addr) (c1 : Nat) (l1 : List (S57)) (r : Bool) (w : World) (hr0 : Kd.C k57 w A0 l0.length l0) (hc0 : l0.length <= c0) (hr1 : Kd.C k57 w A1 l1.length l1) (hc1 : l1.length <= c1) (h : laws_eqResS.f k l0 l1 = some r) :
 Calls Try.prog 19 #[.slice A0 l0.length c0, .slice A1 l1.length c1] w fun e w' => e = .returned (.bool r) /\ Below w.heap.size w w' := by
 have hu57 := Try.underlying57
 have HR0 := A_ hr0
 clear hr0 hc0
 have HR1 := A_ hr1
 clear hr1 hc1
 have HB := A_ (Below.refl w.heap.size w)
 have H : (if (l0.length : Int) = (l1.length : Int) then (laws_eqResS.l0 k l0 l1 0) else (some false)) = some r := h
 clear h
 by_cases c3 : (l0.length : Int) = (l1.length : Int)
 rotate_left
 . rw [if_neg c3] at H
   obtain ⟨c3b0, c3b1⟩ := eF_ c3
   have c3b2 : (l0.length == l1.length) = false := by first | simpa using c3 | (simp at c3 ⊢; omega)
   obtain rfl := si_ H
   go_enter Try.func19, Try.ntmps19
   go_wp2
   go_ret
   exact ⟨rr_, bB_⟩
 rw [if_pos c3] at H
 obtain ⟨c3b0, c3b1⟩ := eT_ c3
 have c3b2 : (l0.length == l1.length) = true := by first | simpa using c3 | (simp at c3 ⊢; omega)
 clear c3
 have H' := A_ H
 clear H
 go_enter Try.func19, Try.ntmps19
 go_wp2
 go_loopg [5] k (fun kq v5 w' => ∃ (x5_1 : Int), v5 = .int .i64 x5_1 /\ Aside0 (laws_eqResS.l0 kq l0 l1 x5_1 = some r) /\ Aside0 (kq <= k) /\ Aside0 (Below w.heap.size w w'))
 case atStart => exact ⟨(0), rs_, H', ⟨Nat.le_refl _⟩, ⟨bB_⟩⟩
 case round =>
  clear H'
  try clear c3
  try clear c3b0
  try clear c3b1
  try clear c3b2
  obtain ⟨x5_1, rfl, HA, HK1, HB⟩ := hrel
  cases gk with
  | zero => exact absurd HA.out (by simp [laws_eqResS.l0])
  | succ k1 =>
   have H := HA.out
   clear HA
   simp only [laws_eqResS.l0] at H
   by_cases c4 : x5_1 < (l0.length : Int)
   rotate_left
   . rw [if_neg c4] at H
     have c4b0 := decide_eq_false c4
     clear c4
     obtain rfl := si_ H
     go_wp2
     go_ret
     exact ⟨rr_, bB_⟩
   rw [if_pos c4] at H
   have c4b0 := decide_eq_true c4
   clear c4
   by_cases c5 : 0 <= x5_1
   rotate_left
   . exact absurd H (by rw [if_neg c5]; simp)
   rw [if_pos c5] at H
   have c5b0 := decide_eq_true c5
   clear c5
   by_cases c6 : x5_1 < (l1.length : Int)
   rotate_left
   . exact absurd H (by rw [if_neg c6]; simp)
   rw [if_pos c6] at H
   have c6b0 := decide_eq_true c6
   clear c6
   obtain ⟨t15, A7, H⟩ := bo_ H
   (try dsimp only at H)
   by_cases c8 : t15 = true
   . subst c8
     rw [if_pos rfl] at H
     have H' := A_ H
     clear H
     try go_wp2
     replace HB := A_ (below_drew1 HB.out)
     have p13 : 0 <= (x5_1 : Int) := od_
     have q13 : x5_1 < (l0.length : Int) := od_
     obtain ⟨ad13, A13_0, c13_0, A13_4, c13_4, e13, hx13_0, hx13_1, hx13_2, hx13_3, hx13_4, hl13_0, hi13_0, hl13_4, hi13_4⟩ := at_T57 HR0.out x5_1 p13 q13
     have hw13_4 := hx13_4
     have hw13_3 := hx13_3
     have hw13_2 := hx13_2
     have hw13_1 := hx13_1
     have hw13_0 := hx13_0
     cases e13
     replace hx13_0 := bc_ HB.out hx13_0
     replace hx13_1 := bc_ HB.out hx13_1
     replace hx13_2 := bc_ HB.out hx13_2
     replace hx13_3 := bc_ HB.out hx13_3
     replace hx13_4 := bc_ HB.out hx13_4
     have HR13_0 := A_ hi13_0
     have HC13_0 := A_ hl13_0
     clear hi13_0 hl13_0
     have HR13_4 := A_ hi13_4
     have HC13_4 := A_ hl13_4
     clear hi13_4 hl13_4
     replace p13 := eq_true p13
     replace q13 := eq_true q13
     have p14 : 0 <= (x5_1 : Int) := od_
     have q14 : x5_1 < (l1.length : Int) := od_
     obtain ⟨ad14, A14_0, c14_0, A14_4, c14_4, e14, hx14_0, hx14_1, hx14_2, hx14_3, hx14_4, hl14_0, hi14_0, hl14_4, hi14_4⟩ := at_T57 HR1.out x5_1 p14 q14
     have hw14_4 := hx14_4
     have hw14_3 := hx14_3
     have hw14_2 := hx14_2
     have hw14_1 := hx14_1
     have hw14_0 := hx14_0
     cases e14
     replace hx14_0 := bc_ HB.out hx14_0
     replace hx14_1 := bc_ HB.out hx14_1
     replace hx14_2 := bc_ HB.out hx14_2
     replace hx14_3 := bc_ HB.out hx14_3
     replace hx14_4 := bc_ HB.out hx14_4
     have HR14_0 := A_ hi14_0
     have HC14_0 := A_ hl14_0
     clear hi14_0 hl14_0
     have HR14_4 := A_ hi14_4
     have HC14_4 := A_ hl14_4
     clear hi14_4 hl14_4
     replace p14 := eq_true p14
     replace q14 := eq_true q14
     refine st10_ (n := 10) (ds := []) (be_ hw13_0) (be_ hw13_1) (be_ hw13_2) (be_ hw13_3) (be_ hw13_4) (be_ hw14_0) (be_ hw14_1) (be_ hw14_2) (be_ hw14_3) (be_ hw14_4) (fun hHeld => ?_); refine with_tabW laws_eqResS.tab6 laws_eqResS.bits6 (fun HT_ HW_ => ?_)
     generalize wr.drew = w9 at HB HR13_0 HR13_4 HR14_0 HR14_4 hx13_0 hx13_1 hx13_2 hx13_3 hx13_4 hx14_0 hx14_1 hx14_2 hx14_3 hx14_4 hHeld ⊢
     refine pu_ (i := 0) (N := some 17) ?_
     refine pu_ (i := 1) (N := some 18) ?_
     refine pu_ (i := 2) (N := some 19) ?_
     refine pu_ (i := 4) (N := some 21) ?_
     refine pu_ (i := 5) (N := some 22) ?_
     refine pu_ (i := 6) (N := some 23) ?_
     refine tk_ (i := 3) (N := some 20) hHeld ?_
     refine tk_ (i := 7) (N := some 24) hHeld ?_
     refine on_ (i := 8) (N := some 25) (fun K hK => ?_)
     refine goes_ Try.func68 (by kernel_rfl) rfl #[.agg #[.slice A13_0 ((rd_T57 l0 x5_1).f0).length c13_0, .bool ((rd_T57 l0 x5_1).f1), .string ((rd_T57 l0 x5_1).f2), .int .i64 ((rd_T57 l0 x5_1).f3), .slice A13_4 ((rd_T57 l0 x5_1).f4).length c13_4], .agg #[.slice A14_0 ((rd_T57 l1 x5_1).f0).length c14_0, .bool ((rd_T57 l1 x5_1).f1), .string ((rd_T57 l1 x5_1).f2), .int .i64 ((rd_T57 l1 x5_1).f3), .slice A14_4 ((rd_T57 l1 x5_1).f4).length c14_4]] (by rfl) rfl rfl ml_ ?_
     with_reducible refine (laws_eqRes.calls k1 _ _ ((rd_T57 l0 x5_1).f0) ((rd_T57 l0 x5_1).f1) ((rd_T57 l0 x5_1).f2) ((rd_T57 l0 x5_1).f3) _ _ ((rd_T57 l0 x5_1).f4) _ _ ((rd_T57 l1 x5_1).f0) ((rd_T57 l1 x5_1).f1) ((rd_T57 l1 x5_1).f2) ((rd_T57 l1 x5_1).f3) _ _ ((rd_T57 l1 x5_1).f4) true _ ?s1 ?s2 ?s3 ?s4 ?s5 ?s6 ?s7 ?s8 A7.out).mono ?_
     (case s1 => exact cC_ (Kd.C_below HR13_0.out HB.out))
     (case s2 => exact HC13_0.out)
     (case s3 => exact cC_ (Kd.C_below HR13_4.out HB.out))
     (case s4 => exact HC13_4.out)
     (case s5 => exact cC_ (Kd.C_below HR14_0.out HB.out))
     (case s6 => exact HC14_0.out)
     (case s7 => exact cC_ (Kd.C_below HR14_4.out HB.out))
     (case s8 => exact HC14_4.out)
     rintro e w10 ⟨rfl, hb⟩
     refine ⟨_, rfl, ?_⟩
     replace HB := A_ (below_step bB_ hb)
     clear hb
     refine hK.out _ _ ⟨(be_ hw13_0), (be_ hw13_1), (be_ hw13_2), (be_ hw13_3), (be_ hw13_4), (be_ hw14_0), (be_ hw14_1), (be_ hw14_2), (be_ hw14_3), (be_ hw14_4)⟩ (fun hHeld => ?_)
     clear hK K
     refine no_ (some 25) ?_
     refine pu_ (i := 9) (N := some 26) ?_
     refine done_ (done_of HT_.out (by kernel_rfl)) ?_
     (try clear hHeld)
     try go_wp2
     go_roundg k1
     case measure => have := HK1.out; omega
     case rel => exact ⟨(wrap64 (x5_1 + 1)), rs_, H', ⟨by have := HK1.out; omega⟩, ⟨bB_⟩⟩
   . replace c8 := Bool.eq_false_iff.mpr c8
     subst c8
     rw [if_neg nf_] at H
     obtain rfl := si_ H
     try go_wp2
     replace HB := A_ (below_drew1 HB.out)
     have p13 : 0 <= (x5_1 : Int) := od_
     have q13 : x5_1 < (l0.length : Int) := od_
     obtain ⟨ad13, A13_0, c13_0, A13_4, c13_4, e13, hx13_0, hx13_1, hx13_2, hx13_3, hx13_4, hl13_0, hi13_0, hl13_4, hi13_4⟩ := at_T57 HR0.out x5_1 p13 q13
     have hw13_4 := hx13_4
     have hw13_3 := hx13_3
     have hw13_2 := hx13_2
     have hw13_1 := hx13_1
     have hw13_0 := hx13_0
     cases e13
     replace hx13_0 := bc_ HB.out hx13_0
     replace hx13_1 := bc_ HB.out hx13_1
     replace hx13_2 := bc_ HB.out hx13_2
     replace hx13_3 := bc_ HB.out hx13_3
     replace hx13_4 := bc_ HB.out hx13_4
     have HR13_0 := A_ hi13_0
     have HC13_0 := A_ hl13_0
     clear hi13_0 hl13_0
     have HR13_4 := A_ hi13_4
     have HC13_4 := A_ hl13_4
     clear hi13_4 hl13_4
     replace p13 := eq_true p13
     replace q13 := eq_true q13
     have p14 : 0 <= (x5_1 : Int) := od_
     have q14 : x5_1 < (l1.length : Int) := od_
     obtain ⟨ad14, A14_0, c14_0, A14_4, c14_4, e14, hx14_0, hx14_1, hx14_2, hx14_3, hx14_4, hl14_0, hi14_0, hl14_4, hi14_4⟩ := at_T57 HR1.out x5_1 p14 q14
     have hw14_4 := hx14_4
     have hw14_3 := hx14_3
     have hw14_2 := hx14_2
     have hw14_1 := hx14_1
     have hw14_0 := hx14_0
     cases e14
     replace hx14_0 := bc_ HB.out hx14_0
     replace hx14_1 := bc_ HB.out hx14_1
     replace hx14_2 := bc_ HB.out hx14_2
     replace hx14_3 := bc_ HB.out hx14_3
     replace hx14_4 := bc_ HB.out hx14_4
     have HR14_0 := A_ hi14_0
     have HC14_0 := A_ hl14_0
     clear hi14_0 hl14_0
     have HR14_4 := A_ hi14_4
     have HC14_4 := A_ hl14_4
     clear hi14_4 hl14_4
     replace p14 := eq_true p14
     replace q14 := eq_true q14
     refine st10_ (n := 10) (ds := []) (be_ hw13_0) (be_ hw13_1) (be_ hw13_2) (be_ hw13_3) (be_ hw13_4) (be_ hw14_0) (be_ hw14_1) (be_ hw14_2) (be_ hw14_3) (be_ hw14_4) (fun hHeld => ?_); refine with_tabW laws_eqResS.tab6 laws_eqResS.bits6 (fun HT_ HW_ => ?_)
     generalize wr.drew = w11 at HB HR13_0 HR13_4 HR14_0 HR14_4 hx13_0 hx13_1 hx13_2 hx13_3 hx13_4 hx14_0 hx14_1 hx14_2 hx14_3 hx14_4 hHeld ⊢
     refine pu_ (i := 0) (N := some 17) ?_
     refine pu_ (i := 1) (N := some 18) ?_
     refine pu_ (i := 2) (N := some 19) ?_
     refine pu_ (i := 4) (N := some 21) ?_
     refine pu_ (i := 5) (N := some 22) ?_
     refine pu_ (i := 6) (N := some 23) ?_
     refine tk_ (i := 3) (N := some 20) hHeld ?_
     refine tk_ (i := 7) (N := some 24) hHeld ?_
     refine on_ (i := 8) (N := some 25) (fun K hK => ?_)
     refine goes_ Try.func68 (by kernel_rfl) rfl #[.agg #[.slice A13_0 ((rd_T57 l0 x5_1).f0).length c13_0, .bool ((rd_T57 l0 x5_1).f1), .string ((rd_T57 l0 x5_1).f2), .int .i64 ((rd_T57 l0 x5_1).f3), .slice A13_4 ((rd_T57 l0 x5_1).f4).length c13_4], .agg #[.slice A14_0 ((rd_T57 l1 x5_1).f0).length c14_0, .bool ((rd_T57 l1 x5_1).f1), .string ((rd_T57 l1 x5_1).f2), .int .i64 ((rd_T57 l1 x5_1).f3), .slice A14_4 ((rd_T57 l1 x5_1).f4).length c14_4]] (by rfl) rfl rfl ml_ ?_
     with_reducible refine (laws_eqRes.calls k1 _ _ ((rd_T57 l0 x5_1).f0) ((rd_T57 l0 x5_1).f1) ((rd_T57 l0 x5_1).f2) ((rd_T57 l0 x5_1).f3) _ _ ((rd_T57 l0 x5_1).f4) _ _ ((rd_T57 l1 x5_1).f0) ((rd_T57 l1 x5_1).f1) ((rd_T57 l1 x5_1).f2) ((rd_T57 l1 x5_1).f3) _ _ ((rd_T57 l1 x5_1).f4) false _ ?s1 ?s2 ?s3 ?s4 ?s5 ?s6 ?s7 ?s8 A7.out).mono ?_
     (case s1 => exact cC_ (Kd.C_below HR13_0.out HB.out))
     (case s2 => exact HC13_0.out)
     (case s3 => exact cC_ (Kd.C_below HR13_4.out HB.out))
     (case s4 => exact HC13_4.out)
     (case s5 => exact cC_ (Kd.C_below HR14_0.out HB.out))
     (case s6 => exact HC14_0.out)
     (case s7 => exact cC_ (Kd.C_below HR14_4.out HB.out))
     (case s8 => exact HC14_4.out)
     rintro e w12 ⟨rfl, hb⟩
     refine ⟨_, rfl, ?_⟩
     replace HB := A_ (below_step bB_ hb)
     clear hb
     refine hK.out _ _ ⟨(be_ hw13_0), (be_ hw13_1), (be_ hw13_2), (be_ hw13_3), (be_ hw13_4), (be_ hw14_0), (be_ hw14_1), (be_ hw14_2), (be_ hw14_3), (be_ hw14_4)⟩ (fun hHeld => ?_)
     clear hK K
     refine no_ (some 25) ?_
     refine pu_ (i := 9) (N := some 26) ?_
     refine done_ (done_of HT_.out (by kernel_rfl)) ?_
     (try clear hHeld)
     try go_wp2
     go_ret
     exact ⟨rr_, bB_⟩
def laws_markText.l0 : Nat -> Int -> ByteArray -> Option (ByteArray)
 | 0, _, _ => none
 | k + 1, x0, x3 => if x0 > 0 then ((some (([(wrap64 (48 + (Int.tmod x0 10))) % 256] : List Int) : List Int)).bind fun y404 => (if (strOfNums y404).size + x3.size <= 9223372036854775807 then (laws_markText.l0 k (wrap64 (Int.tdiv x0 10)) ((strOfNums y404) ++ x3)) else (none))) else (if 1 + x3.size <= 9223372036854775807 then (some ((⟨#[109]⟩ : ByteArray) ++ x3)) else (none))
def laws_markText.f (k : Nat) (a0 : Int) : Option (ByteArray) := if a0 <= 0 then (some (⟨#[109, 48]⟩ : ByteArray)) else (laws_markText.l0 k a0 (⟨#[]⟩ : ByteArray))
theorem laws_markText.mono_l : ∀ k, (∀ y0 y1, LeO (laws_markText.l0 k y0 y1) (laws_markText.l0 (k + 1) y0 y1))
 | 0 => fun _ _ r h => by simp [laws_markText.l0] at h
 | k + 1 => by
  have ih0 := laws_markText.mono_l k
  . intro y0 y1
    unfold laws_markText.l0
    repeat' first
    | (with_reducible exact ih0 _ _)
    | (with_reducible exact LeO.refl _)
    | (with_reducible exact LeO.none _)
    | (with_reducible refine LeO.ite ?_ ?_)
    | (with_reducible refine LeO.bind ?_ (fun _ => ?_))
    | exact ih0 _ _
    | exact LeO.none _
    | refine LeO.ite ?_ ?_
    | refine LeO.bind ?_ (fun _ => ?_)
theorem laws_markText.mono : ∀ a0 k, LeO (laws_markText.f k a0) (laws_markText.f (k + 1) a0) := by
 intro a0 k
 have ih0 := laws_markText.mono_l k
 unfold laws_markText.f
 repeat' first
  | (with_reducible exact ih0 _ _)
  | (with_reducible exact LeO.refl _)
  | (with_reducible exact LeO.none _)
  | (with_reducible refine LeO.ite ?_ ?_)
  | (with_reducible refine LeO.bind ?_ (fun _ => ?_))
  | exact ih0 _ _
  | exact LeO.none _
  | refine LeO.ite ?_ ?_
  | refine LeO.bind ?_ (fun _ => ?_)
theorem laws_markText.calls (k : Nat) (a0 : Int) (r : ByteArray) (w : World) (h : laws_markText.f k a0 = some r) :
 Calls Try.prog 69 #[.int .i64 a0] w fun e w' => e = .returned (.string r) /\ Below w.heap.size w w' := by
 have HB := A_ (Below.refl w.heap.size w)
 have H : (if a0 <= 0 then (some (⟨#[109, 48]⟩ : ByteArray)) else (laws_markText.l0 k a0 (⟨#[]⟩ : ByteArray))) = some r := h
 clear h
 by_cases c2 : a0 <= 0
 . rw [if_pos c2] at H
   have c2b0 := decide_eq_true c2
   clear c2
   obtain rfl := si_ H
   go_enter Try.func69, Try.ntmps69
   go_wp2
   go_ret
   exact ⟨rr_, bB_⟩
 rw [if_neg c2] at H
 have c2b0 := decide_eq_false c2
 clear c2
 have H' := A_ H
 clear H
 go_enter Try.func69, Try.ntmps69
 go_wp2
 go_loopg [0, 3] k (fun kq v0 v3 w' => ∃ (x0_1 : Int) (x3_1 : ByteArray), v0 = .int .i64 x0_1 /\ v3 = .string x3_1 /\ Aside0 (laws_markText.l0 kq x0_1 x3_1 = some r) /\ Aside0 (kq <= k) /\ Aside0 (Below w.heap.size w w'))
 case atStart => exact ⟨(a0), ((⟨#[]⟩ : ByteArray)), rs_, rs_, H', ⟨Nat.le_refl _⟩, ⟨bB_⟩⟩
 case round =>
  clear H'
  try clear c2
  try clear c2b0
  obtain ⟨x0_1, x3_1, rfl, rfl, HA, HK1, HB⟩ := hrel
  cases gk with
  | zero => exact absurd HA.out (by simp [laws_markText.l0])
  | succ k1 =>
   have H := HA.out
   clear HA
   simp only [laws_markText.l0] at H
   by_cases c3 : x0_1 > 0
   rotate_left
   . rw [if_neg c3] at H
     have c3b0 : decide (0 < x0_1) = false := decide_eq_false c3
     clear c3
     by_cases c8 : 1 + x3_1.size <= 9223372036854775807
     rotate_left
     . exact absurd H (by rw [if_neg c8]; simp)
     rw [if_pos c8] at H
     have c8b0 := eq_true c8
     have c8b1 := decide_eq_true c8
     try have c8b2 : (9223372036854775807 < 1 + x3_1.size) = False := eq_false (Nat.not_lt.2 c8)
     obtain rfl := si_ H
     go_wp2
     go_ret
     exact ⟨rr_, bB_⟩
   rw [if_pos c3] at H
   have c3b0 : decide (0 < x0_1) = true := decide_eq_true c3
   clear c3
   obtain ⟨y9, hy9⟩ : ∃ y_ : List Int, y_ = (([(wrap64 (48 + (Int.tmod x0_1 10))) % 256] : List Int)) := ⟨_, rfl⟩
   replace H : (if (strOfNums y9).size + x3_1.size <= 9223372036854775807 then (laws_markText.l0 k1 (wrap64 (Int.tdiv x0_1 10)) ((strOfNums y9) ++ x3_1)) else (none)) = some r := hy_ hy9 H
   have Ny9 := A_ hy9
   clear hy9
   by_cases c4 : (strOfNums y9).size + x3_1.size <= 9223372036854775807
   rotate_left
   . exact absurd H (by rw [if_neg c4]; simp)
   rw [if_pos c4] at H
   have c4b0 := eq_true c4
   have c4b1 := decide_eq_true c4
   try have c4b2 : (9223372036854775807 < (strOfNums y9).size + x3_1.size) = False := eq_false (Nat.not_lt.2 c4)
   have H' := A_ H
   clear H
   go_wp2_with (first | ((with_reducible refine gd_ (N := 12) rfl ?_); refine Kd.R_lit (Kd.int .u8) _ 5 ?hg (N := 12) ?hd (xs := ([(wrap64 (48 + (Int.tmod x0_1 10))) % 256] : List Int)) (inner := [.int .u8 ((wrap64 (48 + (Int.tmod x0_1 10))) % 256)]) (ok := fun _ => True) (okp := fun _ => True) ?hr ?hp (fun _ hk => hk) trivial (Below.refl _ _) (Nat.le_refl _) (by simp) ?_; (case hd => rfl); (case hg => rfl); (case hr => first | (go_simp; done) | (go_simp; rfl)); (case hp => exact (Reps.one (show Kd.M (Kd.int .u8) _ _ _ ((wrap64 (48 + (Int.tmod x0_1 10))) % 256) [.int .u8 ((wrap64 (48 + (Int.tmod x0_1 10))) % 256)] from rfl) (Reps.none _ _))); intro v11 w5 ho6 hb hg_ hnew_; clear hg_ hnew_; (first | rw [← Ny9.out] at ho6 | (simp only [Int.reduceToNat] at ho6; rw [← Ny9.out] at ho6)); have HO10 := A_ (Kd.R_lower ho6 (below_size bB_)); replace HB := A_ (below_step bB_ hb); clear hb ho6; have hcv7 := own_string (P := Try.prog) Try.underlying49 Try.underlying5 Try.underlying9 (Kd.own_of_R HO10.out)))
   go_roundg k1
   case measure => have := HK1.out; omega
   case rel => exact ⟨(wrap64 (Int.tdiv x0_1 10)), ((strOfNums y9) ++ x3_1), rs_, rs_, H', ⟨by have := HK1.out; omega⟩, ⟨bB_⟩⟩
def laws_markStringS.l0 : Nat -> List ByteArray -> Int -> Int -> Option (Int × List ByteArray)
 | 0, _, _, _ => none
 | k + 1, x0, x1, x5 => if x5 < (x0.length : Int) then ((laws_markText.f k x1).bind fun t407 => (if 0 <= x5 then (laws_markStringS.l0 k (x0.set (x5 : Int).toNat t407) (wrap64 (x1 + 1)) (wrap64 (x5 + 1))) else (none))) else (some (x1, x0))
def laws_markStringS.f (k : Nat) (l0 : List ByteArray) (a1 : Int) : Option (Int × List ByteArray) := laws_markStringS.l0 k l0 a1 0
theorem laws_markStringS.calls (k : Nat) (P0_ : Nat -> Prop) (u9000_ : Value) (l0 : List ByteArray) (a1 : Int) (r1 : Int) (r2 : List ByteArray) (w0 w : World) (hB : Below w0.heap.size w0 w) (ho0 : Kd.R Kd.string 9 w w0.heap.size P0_ u9000_ l0) (h : laws_markStringS.f k l0 a1 = some (r1, r2)) :
 Calls Try.prog 22 #[u9000_, .int .i64 a1] w fun e w' => e = .returned (.int .i64 r1) /\ Kd.R Kd.string 9 w' w0.heap.size (fun k_ => (P0_ k_ \/ w.heap.size <= k_)) u9000_ r2 /\ Below w0.heap.size w0 w' /\ Kept w w' (fun k_ => P0_ k_) := by
 have HO0 := A_ (show Kd.R Kd.string 9 w w0.heap.size (fun k_ => (P0_ k_ \/ w.heap.size <= k_)) u9000_ l0 from Kd.R_mono ho0 (fun k_ hk => (.inl hk)))
 have HK := A_ (Kept.refl w (fun k_ => P0_ k_))
 have HW0 := A_ hB.size
 have HB := A_ hB
 clear hB
 have H : (laws_markStringS.l0 k l0 a1 0) = some (r1, r2) := h
 clear h
 have H' := A_ H
 clear H
 go_enter Try.func22, Try.ntmps22
 go_wp2
 go_loopg [1, 5] k (fun kq v1 v5 w' => ∃ (x0_1 : List ByteArray) (x1_1 : Int) (x5_1 : Int), v1 = .int .i64 x1_1 /\ v5 = .int .i64 x5_1 /\ Aside0 (laws_markStringS.l0 kq x0_1 x1_1 x5_1 = some (r1, r2)) /\ Aside0 (kq <= k) /\ Aside0 (Kd.R Kd.string 9 w' w0.heap.size (fun k_ => (P0_ k_ \/ w.heap.size <= k_)) u9000_ x0_1) /\ Aside0 (Kept w w' (fun k_ => P0_ k_)) /\ Aside0 (Below w0.heap.size w0 w'))
 case atStart => exact ⟨(l0), (a1), (0), rs_, rs_, H', ⟨Nat.le_refl _⟩, ⟨vR_ HO0.out⟩, ⟨by repeat (first | (with_reducible first | exact HK.out | apply Kept.alloc | apply Kept.drewN | apply Kept.drew) | exact HK.out)⟩, ⟨bB_⟩⟩
 case round =>
  clear H'
  obtain ⟨x0_1, x1_1, x5_1, rfl, rfl, HA, HK1, HO_0, HK, HB⟩ := hrel
  cases gk with
  | zero => exact absurd HA.out (by simp [laws_markStringS.l0])
  | succ k1 =>
   have H := HA.out
   clear HA
   simp only [laws_markStringS.l0] at H
   by_cases c3 : x5_1 < (x0_1.length : Int)
   rotate_left
   . rw [if_neg c3] at H
     have c3b0 := decide_eq_false c3
     clear c3
     simp only [Option.some.injEq, Prod.mk.injEq] at H
     obtain ⟨rfl, rfl⟩ := H
     obtain ⟨Ao11, co11, eo11⟩ := Kd.R_slice HO_0.out
     subst eo11
     go_wp2
     go_ret
     exact ⟨rr_, vR_ HO_0.out, bB_, by repeat (first | (with_reducible first | exact HK.out | apply Kept.alloc | apply Kept.drewN | apply Kept.drew) | exact HK.out)⟩
   rw [if_pos c3] at H
   have c3b0 := decide_eq_true c3
   clear c3
   obtain ⟨t13, A4, H⟩ := bo_ H
   (try dsimp only at H)
   by_cases c5 : 0 <= x5_1
   rotate_left
   . exact absurd H (by rw [if_neg c5]; simp)
   rw [if_pos c5] at H
   have c5b0 := decide_eq_true c5
   clear c5
   obtain ⟨y12, hy12⟩ : ∃ y_ : List ByteArray, y_ = (x0_1.set (x5_1 : Int).toNat t13) := ⟨_, rfl⟩
   replace H : (laws_markStringS.l0 k1 y12 (wrap64 (x1_1 + 1)) (wrap64 (x5_1 + 1))) = some (r1, r2) := hy_ hy12 H
   have Ny12 := A_ hy12
   clear hy12
   have H' := A_ H
   clear H
   obtain ⟨Ao7, co7, eo7⟩ := Kd.R_slice HO_0.out
   subst eo7
   go_wp2_with (first | ((with_reducible refine gc_ (f := 69) rfl ?_); refine gL_ (some 15) Try.func69 #[.int .i64 x1_1] ?_; (with_reducible refine (laws_markText.calls k1 x1_1 t13 _ A4.out).mono ?_); rintro e w8 ⟨rfl, hb⟩; refine ⟨_, rfl, ?_⟩; replace HO_0 := A_ (Kd.R_below (vR_ HO_0.out) hb); replace HK := A_ (Kept.below (S := (fun k_ => P0_ k_)) (by repeat (first | (with_reducible first | exact HK.out | apply Kept.alloc | apply Kept.drewN | apply Kept.drew) | exact HK.out)) hb); replace HB := A_ (below_step bB_ hb); clear hb; have p6 : 0 <= (x5_1 : Int) := od_; have q6 : (x5_1 : Int) < ((x0_1.length : Int) : Int) := od_; obtain ⟨go6, co6, eo6, gb6, gl6, cl6, HG6⟩ := Kd.R_form HO_0.out (by omega); (first | cases eo6 | (injection eo6 with ea_ en_ ec_; (first | subst ea_ | (injection ea_ with ea_; subst ea_)); subst ec_; clear en_)); have GB6 := A_ gb6; have GG6 := A_ HG6; clear gb6 gl6 HG6; have HMgo6 := A_ (show (P0_ go6 \/ w.heap.size <= go6) from (HO_0.out.1 _ rfl)); obtain ⟨hx6_0, hf6_0⟩ := Kd.R_celln (⟨#[]⟩ : ByteArray) HO_0.out (x5_1 : Int) p6 q6; replace p6 := eq_true p6; replace q6 := eq_true q6; obtain ⟨hy9_, hz9_⟩ := Kd.R_celln (⟨#[]⟩ : ByteArray) HO_0.out (x5_1 : Int) od_ od_; have HP9 := Kd.R_putg HO_0.out (x5_1 : Int) t13) | ((with_reducible refine gate_store (t := 9) (p := 16) rfl ?_); refine store_event (t := 9) (p := 16) (v := ?vo_w10) (w1 := (w8.setCell ⟨go6, (x5_1 : Int).toNat, none⟩ (.string t13))) ?hg ?ho ?hn ?hr ?_; (case ho => rfl); (case hg => rfl); (case hn => rfl); (case hr => first | (go_simp; done) | (go_simp; rfl)); intro w10 hw; have hg : w8.grownBy w10 (some go6) := (by rw [hw]; exact HP9.2); have hp_ : Kd.R Kd.string 9 w10 w0.heap.size (fun k_ => (P0_ k_ \/ w.heap.size <= k_)) (.slice (some ⟨go6, 0, none⟩) x0_1.length co7) y12 := (by rw [hw, Ny12.out]; exact HP9.1); clear HP9; replace HB := A_ ((by rw [hw]; exact below_set (HB.out) GB6.out : Below w0.heap.size w0 w10)); replace HK := A_ (Kept.of_grown (S := (fun k_ => P0_ k_)) hg (by repeat (first | (with_reducible first | exact HK.out | apply Kept.alloc | apply Kept.drewN | apply Kept.drew) | exact HK.out)) (fun k_ e_ => (HO_0.out.1 k_ e_))); replace HO_0 := A_ (hp_); clear hg hw hp_))
   go_roundg k1
   case measure => have := HK1.out; omega
   case rel => exact ⟨(y12), (wrap64 (x1_1 + 1)), (wrap64 (x5_1 + 1)), rs_, rs_, H', ⟨by have := HK1.out; omega⟩, ⟨vR_ HO_0.out⟩, ⟨by repeat (first | (with_reducible first | exact HK.out | apply Kept.alloc | apply Kept.drewN | apply Kept.drew) | exact HK.out)⟩, ⟨bB_⟩⟩
def laws_markPropS.l0 : Nat -> List (S72) -> Int -> Int -> Option (Int × (List (S72)))
 | 0, _, _, _ => none
 | k + 1, x0, x1, x5 => if x5 < (x0.length : Int) then ((laws_markText.f k x1).bind fun t409 => (if 0 <= x5 then ((some (x0.set (x5 : Int).toNat (⟨t409, (rd_T72 x0 x5).f1, (rd_T72 x0 x5).f2⟩ : S72) : List (S72))).bind fun y410 => ((laws_markText.f k (wrap64 (x1 + 1))).bind fun t411 => ((some (y410.set (x5 : Int).toNat (⟨(rd_T72 y410 x5).f0, t411, (rd_T72 y410 x5).f2⟩ : S72) : List (S72))).bind fun y412 => ((laws_markText.f k (wrap64 ((wrap64 (x1 + 1)) + 1))).bind fun t413 => (laws_markPropS.l0 k (y412.set (x5 : Int).toNat (⟨(rd_T72 y412 x5).f0, (rd_T72 y412 x5).f1, t413⟩ : S72)) (wrap64 ((wrap64 ((wrap64 (x1 + 1)) + 1)) + 1)) (wrap64 (x5 + 1))))))) else (none))) else (some (x1, x0))
def laws_markPropS.f (k : Nat) (l0 : List (S72)) (a1 : Int) : Option (Int × (List (S72))) := laws_markPropS.l0 k l0 a1 0
theorem laws_markPropS.calls (k : Nat) (P0_ : Nat -> Prop) (u9000_ : Value) (l0 : List (S72)) (a1 : Int) (r1 : Int) (r2 : List (S72)) (w0 w : World) (hB : Below w0.heap.size w0 w) (ho0 : Kd.R k72 72 w w0.heap.size P0_ u9000_ l0) (h : laws_markPropS.f k l0 a1 = some (r1, r2)) :
 Calls Try.prog 70 #[u9000_, .int .i64 a1] w fun e w' => e = .returned (.int .i64 r1) /\ Kd.R k72 72 w' w0.heap.size (fun k_ => (P0_ k_ \/ w.heap.size <= k_)) u9000_ r2 /\ Below w0.heap.size w0 w' /\ Kept w w' (fun k_ => P0_ k_) := by
 have HO0 := A_ (show Kd.R k72 72 w w0.heap.size (fun k_ => (P0_ k_ \/ w.heap.size <= k_)) u9000_ l0 from Kd.R_mono ho0 (fun k_ hk => (.inl hk)))
 have HK := A_ (Kept.refl w (fun k_ => P0_ k_))
 have HW0 := A_ hB.size
 have HB := A_ hB
 clear hB
 have H : (laws_markPropS.l0 k l0 a1 0) = some (r1, r2) := h
 clear h
 have H' := A_ H
 clear H
 go_enter Try.func70, Try.ntmps70
 go_wp2
 go_loopg [1, 5] k (fun kq v1 v5 w' => ∃ (x0_1 : List (S72)) (x1_1 : Int) (x5_1 : Int), v1 = .int .i64 x1_1 /\ v5 = .int .i64 x5_1 /\ Aside0 (laws_markPropS.l0 kq x0_1 x1_1 x5_1 = some (r1, r2)) /\ Aside0 (kq <= k) /\ Aside0 (Kd.R k72 72 w' w0.heap.size (fun k_ => (P0_ k_ \/ w.heap.size <= k_)) u9000_ x0_1) /\ Aside0 (Kept w w' (fun k_ => P0_ k_)) /\ Aside0 (Below w0.heap.size w0 w'))
 case atStart => exact ⟨(l0), (a1), (0), rs_, rs_, H', ⟨Nat.le_refl _⟩, ⟨vR_ HO0.out⟩, ⟨by repeat (first | (with_reducible first | exact HK.out | apply Kept.alloc | apply Kept.drewN | apply Kept.drew) | exact HK.out)⟩, ⟨bB_⟩⟩
 case round =>
  clear H'
  obtain ⟨x0_1, x1_1, x5_1, rfl, rfl, HA, HK1, HO_0, HK, HB⟩ := hrel
  cases gk with
  | zero => exact absurd HA.out (by simp [laws_markPropS.l0])
  | succ k1 =>
   have H := HA.out
   clear HA
   simp only [laws_markPropS.l0] at H
   by_cases c3 : x5_1 < (x0_1.length : Int)
   rotate_left
   . rw [if_neg c3] at H
     have c3b0 := decide_eq_false c3
     clear c3
     simp only [Option.some.injEq, Prod.mk.injEq] at H
     obtain ⟨rfl, rfl⟩ := H
     obtain ⟨Ao21, co21, eo21⟩ := Kd.R_slice HO_0.out
     subst eo21
     go_wp2
     go_ret
     exact ⟨rr_, vR_ HO_0.out, bB_, by repeat (first | (with_reducible first | exact HK.out | apply Kept.alloc | apply Kept.drewN | apply Kept.drew) | exact HK.out)⟩
   rw [if_pos c3] at H
   have c3b0 := decide_eq_true c3
   clear c3
   obtain ⟨t27, A4, H⟩ := bo_ H
   (try dsimp only at H)
   by_cases c5 : 0 <= x5_1
   rotate_left
   . exact absurd H (by rw [if_neg c5]; simp)
   rw [if_pos c5] at H
   have c5b0 := decide_eq_true c5
   clear c5
   obtain ⟨y23, hy23⟩ : ∃ y_ : List (S72), y_ = (x0_1.set (x5_1 : Int).toNat (⟨t27, (rd_T72 x0_1 x5_1).f1, (rd_T72 x0_1 x5_1).f2⟩ : S72)) := ⟨_, rfl⟩
   replace H : ((laws_markText.f k1 (wrap64 (x1_1 + 1))).bind fun t26 => ((some (y23.set (x5_1 : Int).toNat (⟨(rd_T72 y23 x5_1).f0, t26, (rd_T72 y23 x5_1).f2⟩ : S72) : List (S72))).bind fun y22 => ((laws_markText.f k1 (wrap64 ((wrap64 (x1_1 + 1)) + 1))).bind fun t24 => (laws_markPropS.l0 k1 (y22.set (x5_1 : Int).toNat (⟨(rd_T72 y22 x5_1).f0, (rd_T72 y22 x5_1).f1, t24⟩ : S72)) (wrap64 ((wrap64 ((wrap64 (x1_1 + 1)) + 1)) + 1)) (wrap64 (x5_1 + 1)))))) = some (r1, r2) := hy_ hy23 H
   have Ny23 := A_ hy23
   clear hy23
   obtain ⟨t26, A7, H⟩ := bo_ H
   (try dsimp only at H)
   obtain ⟨y22, hy22⟩ : ∃ y_ : List (S72), y_ = (y23.set (x5_1 : Int).toNat (⟨(rd_T72 y23 x5_1).f0, t26, (rd_T72 y23 x5_1).f2⟩ : S72)) := ⟨_, rfl⟩
   replace H : ((laws_markText.f k1 (wrap64 ((wrap64 (x1_1 + 1)) + 1))).bind fun t24 => (laws_markPropS.l0 k1 (y22.set (x5_1 : Int).toNat (⟨(rd_T72 y22 x5_1).f0, (rd_T72 y22 x5_1).f1, t24⟩ : S72)) (wrap64 ((wrap64 ((wrap64 (x1_1 + 1)) + 1)) + 1)) (wrap64 (x5_1 + 1)))) = some (r1, r2) := hy_ hy22 H
   have Ny22 := A_ hy22
   clear hy22
   obtain ⟨t24, A9, H⟩ := bo_ H
   (try dsimp only at H)
   obtain ⟨y25, hy25⟩ : ∃ y_ : List (S72), y_ = (y22.set (x5_1 : Int).toNat (⟨(rd_T72 y22 x5_1).f0, (rd_T72 y22 x5_1).f1, t24⟩ : S72)) := ⟨_, rfl⟩
   replace H : (laws_markPropS.l0 k1 y25 (wrap64 ((wrap64 ((wrap64 (x1_1 + 1)) + 1)) + 1)) (wrap64 (x5_1 + 1))) = some (r1, r2) := hy_ hy25 H
   have Ny25 := A_ hy25
   clear hy25
   have H' := A_ H
   clear H
   obtain ⟨Ao11, co11, eo11⟩ := Kd.R_slice HO_0.out
   subst eo11
   go_wp2_with (first | ((with_reducible refine gc_ (f := 69) rfl ?_); refine gL_ (some 15) Try.func69 #[.int .i64 x1_1] ?_; (with_reducible refine (laws_markText.calls k1 x1_1 t27 _ A4.out).mono ?_); rintro e w12 ⟨rfl, hb⟩; refine ⟨_, rfl, ?_⟩; replace HO_0 := A_ (Kd.R_below (vR_ HO_0.out) hb); replace HK := A_ (Kept.below (S := (fun k_ => P0_ k_)) (by repeat (first | (with_reducible first | exact HK.out | apply Kept.alloc | apply Kept.drewN | apply Kept.drew) | exact HK.out)) hb); replace HB := A_ (below_step bB_ hb); clear hb; have p6 : 0 <= (x5_1 : Int) := od_; have q6 : (x5_1 : Int) < ((x0_1.length : Int) : Int) := od_; obtain ⟨go6, co6, eo6, gb6, gl6, cl6, HG6⟩ := Kd.R_form HO_0.out (by omega); (first | cases eo6 | (injection eo6 with ea_ en_ ec_; (first | subst ea_ | (injection ea_ with ea_; subst ea_)); subst ec_; clear en_)); have GB6 := A_ gb6; have GG6 := A_ HG6; clear gb6 gl6 HG6; have HMgo6 := A_ (show (P0_ go6 \/ w.heap.size <= go6) from (HO_0.out.1 _ rfl)); obtain ⟨ce6, hcl6, hM6, hcc6, hfr6⟩ := Kd.R_elem HO_0.out z72 (x5_1 : Int) p6 q6; obtain rfl := k72_openM hM6; have hx6_0 : w12.cell? ⟨go6, (x5_1 : Int).toNat * 3, none⟩ = some (.string ((rd_T72 x0_1 x5_1).f0)) := hcc6 0 _ rfl; have hx6_1 : w12.cell? ⟨go6, (x5_1 : Int).toNat * 3 + 1, none⟩ = some (.string ((rd_T72 x0_1 x5_1).f1)) := hcc6 1 _ rfl; have hx6_2 : w12.cell? ⟨go6, (x5_1 : Int).toNat * 3 + 2, none⟩ = some (.string ((rd_T72 x0_1 x5_1).f2)) := hcc6 2 _ rfl; have hf6_0 : w12.frozen? ⟨go6, (x5_1 : Int).toNat * 3, none⟩ = false := hfr6 0; have hf6_1 : w12.frozen? ⟨go6, (x5_1 : Int).toNat * 3 + 1, none⟩ = false := hfr6 1; have hf6_2 : w12.frozen? ⟨go6, (x5_1 : Int).toNat * 3 + 2, none⟩ = false := hfr6 2; (try clear hcl6); (try clear hcc6); (try clear hfr6); (try clear hM6); replace p6 := eq_true p6; replace q6 := eq_true q6; have HX13 := A_ (show Kd.R k72 72 w12 w0.heap.size (fun k_ => (P0_ k_ \/ w.heap.size <= k_)) (.slice (some ⟨go6, 0, none⟩) x0_1.length co11) x0_1 from (vR_ HO_0.out)); obtain ⟨ce13, hcl13, hM13, hcc13, hfr13⟩ := Kd.R_elem HX13.out z72 (x5_1 : Int) od_ (by have h_ : (x5_1 : Int) < ((x0_1.length : Int) : Int) := od_; first | exact h_ | (have e_ := (Kd.R_reads' HO_0.out).1; omega) | simpa using h_); obtain rfl := k72_openM hM13; have HP13 := Kd.R_seg HX13.out (x5_1 : Int) od_ (by have h_ : (x5_1 : Int) < ((x0_1.length : Int) : Int) := od_; first | exact h_ | (have e_ := (Kd.R_reads' HO_0.out).1; omega) | simpa using h_) (seg := [.string t27]) (j := 0) hcl13 hcc13 (show 1 <= 3 from by decide) (x' := (⟨t27, (rd_T72 x0_1 x5_1).f1, (rd_T72 x0_1 x5_1).f2⟩ : S72)) (k72_mkM _ _ _ (⟨t27, (rd_T72 x0_1 x5_1).f1, (rd_T72 x0_1 x5_1).f2⟩ : S72) ) (fun _ hk => hk); have hx13_0 := hcc13 0 _ rfl; (try simp only [show (k72).sz = 3 from rfl, Nat.mul_one, Nat.add_zero] at hx13_0); have hf13_0 := hfr13 0; (try simp only [show (k72).sz = 3 from rfl, Nat.mul_one, Nat.add_zero] at hf13_0); (try clear hcl13); (try clear hcc13); (try clear hfr13); (try clear hM13)) | ((with_reducible refine gate_store (t := 9) (p := 17) rfl ?_); refine store_event (t := 9) (p := 17) (v := ?vo_w14) (w1 := (w12.setCell ⟨go6, (x5_1 : Int).toNat * 3, none⟩ (.string t27))) ?hg ?ho ?hn ?hr ?_; (case ho => rfl); (case hg => rfl); (case hn => rfl); (case hr => first | (go_simp; done) | (go_simp; rfl)); intro w14 hw; have hg : w12.grownBy w14 (some go6) := (by rw [hw]; exact HP13.2); have hp_ : Kd.R k72 72 w14 w0.heap.size (fun k_ => (P0_ k_ \/ w.heap.size <= k_)) (.slice (some ⟨go6, 0, none⟩) x0_1.length co11) y23 := (by rw [hw, Ny23.out]; exact HP13.1); clear HP13; replace HB := A_ ((by rw [hw]; exact below_set (HB.out) GB6.out : Below w0.heap.size w0 w14)); replace HK := A_ (Kept.of_grown (S := (fun k_ => P0_ k_)) hg (by repeat (first | (with_reducible first | exact HK.out | apply Kept.alloc | apply Kept.drewN | apply Kept.drew) | exact HK.out)) (fun k_ e_ => (HO_0.out.1 k_ e_))); replace HO_0 := A_ (hp_); clear hg hw hp_) | ((with_reducible refine gc_ (f := 69) rfl ?_); refine gL_ (some 23) Try.func69 #[.int .i64 (wrap64 (x1_1 + 1))] ?_; (with_reducible refine (laws_markText.calls k1 (wrap64 (x1_1 + 1)) t26 _ A7.out).mono ?_); rintro e w15 ⟨rfl, hb⟩; refine ⟨_, rfl, ?_⟩; replace HO_0 := A_ (Kd.R_below (vR_ HO_0.out) hb); replace HK := A_ (Kept.below (S := (fun k_ => P0_ k_)) (by repeat (first | (with_reducible first | exact HK.out | apply Kept.alloc | apply Kept.drewN | apply Kept.drew) | exact HK.out)) hb); replace HB := A_ (below_step bB_ hb); clear hb; have p8 : 0 <= (x5_1 : Int) := od_; have q8 : (x5_1 : Int) < ((x0_1.length : Int) : Int) := od_; obtain ⟨ce8, hcl8, hM8, hcc8, hfr8⟩ := Kd.R_elem HO_0.out z72 (x5_1 : Int) p8 q8; obtain rfl := k72_openM hM8; have hx8_0 : w15.cell? ⟨go6, (x5_1 : Int).toNat * 3, none⟩ = some (.string ((rd_T72 y23 x5_1).f0)) := hcc8 0 _ rfl; have hx8_1 : w15.cell? ⟨go6, (x5_1 : Int).toNat * 3 + 1, none⟩ = some (.string ((rd_T72 y23 x5_1).f1)) := hcc8 1 _ rfl; have hx8_2 : w15.cell? ⟨go6, (x5_1 : Int).toNat * 3 + 2, none⟩ = some (.string ((rd_T72 y23 x5_1).f2)) := hcc8 2 _ rfl; have hf8_0 : w15.frozen? ⟨go6, (x5_1 : Int).toNat * 3, none⟩ = false := hfr8 0; have hf8_1 : w15.frozen? ⟨go6, (x5_1 : Int).toNat * 3 + 1, none⟩ = false := hfr8 1; have hf8_2 : w15.frozen? ⟨go6, (x5_1 : Int).toNat * 3 + 2, none⟩ = false := hfr8 2; (try clear hcl8); (try clear hcc8); (try clear hfr8); (try clear hM8); replace p8 := eq_true p8; replace q8 := eq_true q8; have HX16 := A_ (show Kd.R k72 72 w15 w0.heap.size (fun k_ => (P0_ k_ \/ w.heap.size <= k_)) (.slice (some ⟨go6, 0, none⟩) x0_1.length co11) y23 from (vR_ HO_0.out)); obtain ⟨ce16, hcl16, hM16, hcc16, hfr16⟩ := Kd.R_elem HX16.out z72 (x5_1 : Int) od_ (by have h_ : (x5_1 : Int) < ((x0_1.length : Int) : Int) := od_; first | exact h_ | (have e_ := (Kd.R_reads' HO_0.out).1; omega) | simpa using h_); obtain rfl := k72_openM hM16; have HP16 := Kd.R_seg HX16.out (x5_1 : Int) od_ (by have h_ : (x5_1 : Int) < ((x0_1.length : Int) : Int) := od_; first | exact h_ | (have e_ := (Kd.R_reads' HO_0.out).1; omega) | simpa using h_) (seg := [.string t26]) (j := 1) hcl16 hcc16 (show 2 <= 3 from by decide) (x' := (⟨(rd_T72 y23 x5_1).f0, t26, (rd_T72 y23 x5_1).f2⟩ : S72)) (k72_mkM _ _ _ (⟨(rd_T72 y23 x5_1).f0, t26, (rd_T72 y23 x5_1).f2⟩ : S72) ) (fun _ hk => hk); have hx16_1 := hcc16 1 _ rfl; (try simp only [show (k72).sz = 3 from rfl, Nat.mul_one, Nat.add_zero] at hx16_1); have hf16_1 := hfr16 1; (try simp only [show (k72).sz = 3 from rfl, Nat.mul_one, Nat.add_zero] at hf16_1); (try clear hcl16); (try clear hcc16); (try clear hfr16); (try clear hM16)) | ((with_reducible refine gate_store (t := 9) (p := 25) rfl ?_); refine store_event (t := 9) (p := 25) (v := ?vo_w17) (w1 := (w15.setCell ⟨go6, (x5_1 : Int).toNat * 3 + 1, none⟩ (.string t26))) ?hg ?ho ?hn ?hr ?_; (case ho => rfl); (case hg => rfl); (case hn => rfl); (case hr => first | (go_simp; done) | (go_simp; rfl)); intro w17 hw; have hg : w15.grownBy w17 (some go6) := (by rw [hw]; exact HP16.2); have hp_ : Kd.R k72 72 w17 w0.heap.size (fun k_ => (P0_ k_ \/ w.heap.size <= k_)) (.slice (some ⟨go6, 0, none⟩) x0_1.length co11) y22 := (by rw [hw, Ny22.out]; exact HP16.1); clear HP16; replace HB := A_ ((by rw [hw]; exact below_set (HB.out) GB6.out : Below w0.heap.size w0 w17)); replace HK := A_ (Kept.of_grown (S := (fun k_ => P0_ k_)) hg (by repeat (first | (with_reducible first | exact HK.out | apply Kept.alloc | apply Kept.drewN | apply Kept.drew) | exact HK.out)) (fun k_ e_ => (HO_0.out.1 k_ e_))); replace HO_0 := A_ (hp_); clear hg hw hp_) | ((with_reducible refine gc_ (f := 69) rfl ?_); refine gL_ (some 31) Try.func69 #[.int .i64 (wrap64 ((wrap64 (x1_1 + 1)) + 1))] ?_; (with_reducible refine (laws_markText.calls k1 (wrap64 ((wrap64 (x1_1 + 1)) + 1)) t24 _ A9.out).mono ?_); rintro e w18 ⟨rfl, hb⟩; refine ⟨_, rfl, ?_⟩; replace HO_0 := A_ (Kd.R_below (vR_ HO_0.out) hb); replace HK := A_ (Kept.below (S := (fun k_ => P0_ k_)) (by repeat (first | (with_reducible first | exact HK.out | apply Kept.alloc | apply Kept.drewN | apply Kept.drew) | exact HK.out)) hb); replace HB := A_ (below_step bB_ hb); clear hb; have p10 : 0 <= (x5_1 : Int) := od_; have q10 : (x5_1 : Int) < ((x0_1.length : Int) : Int) := od_; obtain ⟨ce10, hcl10, hM10, hcc10, hfr10⟩ := Kd.R_elem HO_0.out z72 (x5_1 : Int) p10 q10; obtain rfl := k72_openM hM10; have hx10_0 : w18.cell? ⟨go6, (x5_1 : Int).toNat * 3, none⟩ = some (.string ((rd_T72 y22 x5_1).f0)) := hcc10 0 _ rfl; have hx10_1 : w18.cell? ⟨go6, (x5_1 : Int).toNat * 3 + 1, none⟩ = some (.string ((rd_T72 y22 x5_1).f1)) := hcc10 1 _ rfl; have hx10_2 : w18.cell? ⟨go6, (x5_1 : Int).toNat * 3 + 2, none⟩ = some (.string ((rd_T72 y22 x5_1).f2)) := hcc10 2 _ rfl; have hf10_0 : w18.frozen? ⟨go6, (x5_1 : Int).toNat * 3, none⟩ = false := hfr10 0; have hf10_1 : w18.frozen? ⟨go6, (x5_1 : Int).toNat * 3 + 1, none⟩ = false := hfr10 1; have hf10_2 : w18.frozen? ⟨go6, (x5_1 : Int).toNat * 3 + 2, none⟩ = false := hfr10 2; (try clear hcl10); (try clear hcc10); (try clear hfr10); (try clear hM10); replace p10 := eq_true p10; replace q10 := eq_true q10; have HX19 := A_ (show Kd.R k72 72 w18 w0.heap.size (fun k_ => (P0_ k_ \/ w.heap.size <= k_)) (.slice (some ⟨go6, 0, none⟩) x0_1.length co11) y22 from (vR_ HO_0.out)); obtain ⟨ce19, hcl19, hM19, hcc19, hfr19⟩ := Kd.R_elem HX19.out z72 (x5_1 : Int) od_ (by have h_ : (x5_1 : Int) < ((x0_1.length : Int) : Int) := od_; first | exact h_ | (have e_ := (Kd.R_reads' HO_0.out).1; omega) | simpa using h_); obtain rfl := k72_openM hM19; have HP19 := Kd.R_seg HX19.out (x5_1 : Int) od_ (by have h_ : (x5_1 : Int) < ((x0_1.length : Int) : Int) := od_; first | exact h_ | (have e_ := (Kd.R_reads' HO_0.out).1; omega) | simpa using h_) (seg := [.string t24]) (j := 2) hcl19 hcc19 (show 3 <= 3 from by decide) (x' := (⟨(rd_T72 y22 x5_1).f0, (rd_T72 y22 x5_1).f1, t24⟩ : S72)) (k72_mkM _ _ _ (⟨(rd_T72 y22 x5_1).f0, (rd_T72 y22 x5_1).f1, t24⟩ : S72) ) (fun _ hk => hk); have hx19_2 := hcc19 2 _ rfl; (try simp only [show (k72).sz = 3 from rfl, Nat.mul_one, Nat.add_zero] at hx19_2); have hf19_2 := hfr19 2; (try simp only [show (k72).sz = 3 from rfl, Nat.mul_one, Nat.add_zero] at hf19_2); (try clear hcl19); (try clear hcc19); (try clear hfr19); (try clear hM19)) | ((with_reducible refine gate_store (t := 9) (p := 33) rfl ?_); refine store_event (t := 9) (p := 33) (v := ?vo_w20) (w1 := (w18.setCell ⟨go6, (x5_1 : Int).toNat * 3 + 2, none⟩ (.string t24))) ?hg ?ho ?hn ?hr ?_; (case ho => rfl); (case hg => rfl); (case hn => rfl); (case hr => first | (go_simp; done) | (go_simp; rfl)); intro w20 hw; have hg : w18.grownBy w20 (some go6) := (by rw [hw]; exact HP19.2); have hp_ : Kd.R k72 72 w20 w0.heap.size (fun k_ => (P0_ k_ \/ w.heap.size <= k_)) (.slice (some ⟨go6, 0, none⟩) x0_1.length co11) y25 := (by rw [hw, Ny25.out]; exact HP19.1); clear HP19; replace HB := A_ ((by rw [hw]; exact below_set (HB.out) GB6.out : Below w0.heap.size w0 w20)); replace HK := A_ (Kept.of_grown (S := (fun k_ => P0_ k_)) hg (by repeat (first | (with_reducible first | exact HK.out | apply Kept.alloc | apply Kept.drewN | apply Kept.drew) | exact HK.out)) (fun k_ e_ => (HO_0.out.1 k_ e_))); replace HO_0 := A_ (hp_); clear hg hw hp_))
   go_roundg k1
   case measure => have := HK1.out; omega
   case rel => exact ⟨(y25), (wrap64 ((wrap64 ((wrap64 (x1_1 + 1)) + 1)) + 1)), (wrap64 (x5_1 + 1)), rs_, rs_, H', ⟨by have := HK1.out; omega⟩, ⟨vR_ HO_0.out⟩, ⟨by repeat (first | (with_reducible first | exact HK.out | apply Kept.alloc | apply Kept.drewN | apply Kept.drew) | exact HK.out)⟩, ⟨bB_⟩⟩
set_option maxHeartbeats 8000000
set_option maxRecDepth 100000
def spec_DeepOf.l0 : Nat -> List (S57) -> List ByteArray -> List (S57) -> Int -> Option ((List (S57)))
 | 0, _, _, _, _ => none
 | k + 1, x0, x1, x5, x6 => if x6 < (x0.length : Int) then (if 0 <= x6 then ((spec_SamePath.f k ((rd_T57 x0 x6).f0) x1).bind fun t878 => (if t878 = true then ((spec_l10Copy.f ((rd_T57 x0 x6).f0) ((rd_T57 x0 x6).f1) ((rd_T57 x0 x6).f2) ((rd_T57 x0 x6).f3) ((rd_T57 x0 x6).f4)).bind fun bt880 => (if x5.length < 1759218604441 then (spec_DeepOf.l0 k x0 x1 (x5 ++ [(⟨bt880.1, bt880.2.1, bt880.2.2.1, bt880.2.2.2.1, bt880.2.2.2.2⟩ : S57)]) (wrap64 (x6 + 1))) else (none))) else ((spec_Under.f k ((rd_T57 x0 x6).f0) x1).bind fun t893 => (if t893 = true then ((spec_l10Copy.f ((rd_T57 x0 x6).f0) ((rd_T57 x0 x6).f1) ((rd_T57 x0 x6).f2) ((rd_T57 x0 x6).f3) ((rd_T57 x0 x6).f4)).bind fun bt895 => (if x5.length < 1759218604441 then (spec_DeepOf.l0 k x0 x1 (x5 ++ [(⟨bt895.1, bt895.2.1, bt895.2.2.1, bt895.2.2.2.1, bt895.2.2.2.2⟩ : S57)]) (wrap64 (x6 + 1))) else (none))) else (spec_DeepOf.l0 k x0 x1 x5 (wrap64 (x6 + 1))))))) else (none)) else (some x5)
def spec_DeepOf.f (k : Nat) (l0 : List (S57)) (l1 : List ByteArray) : Option ((List (S57))) := spec_DeepOf.l0 k l0 l1 (([] : List (S57))) 0
theorem spec_DeepOf.calls (k : Nat) (A0 : Option Addr) (c0 : Nat) (l0 : List (S57)) (A1 : Option Addr) (c1 : Nat) (l1 : List ByteArray) (r : List (S57)) (w : World) (hr0 : Kd.C k57 w A0 l0.length l0) (hc0 : l0.length <= c0) (hr1 : Kd.C Kd.string w A1 l1.length l1) (hc1 : l1.length <= c1) (h : spec_DeepOf.f k l0 l1 = some r) :
 Calls Try.prog 115 #[.slice A0 l0.length c0, .slice A1 l1.length c1] w fun e w' => ∃ v0_ : Value, e = .returned (v0_) /\ Kd.S k57 57 w' w.heap.size (fun _ => True) v0_ r /\ Below w.heap.size w w' := by
 have hu57 := Try.underlying57
 have HR0 := A_ hr0
 clear hr0 hc0
 have HR1 := A_ hr1
 have HC1 := A_ hc1
 clear hr1 hc1
 have HB := A_ (Below.refl w.heap.size w)
 have H : (spec_DeepOf.l0 k l0 l1 (([] : List (S57))) 0) = some r := h
 clear h
 obtain ⟨y27, hy27⟩ : ∃ y_ : List (S57), y_ = (([] : List (S57))) := ⟨_, rfl⟩
 replace H : (spec_DeepOf.l0 k l0 l1 y27 0) = some r := hy_ hy27 H
 have Ny27 := A_ hy27
 clear hy27
 have H' := A_ H
 clear H
 go_enter Try.func115, Try.ntmps115
 go_wp2_with (first | ((with_reducible refine gd_ (N := 7) rfl ?_); refine Kd.S_lit k57 _ 57 ?hg (N := 7) ?hd (xs := ([] : List (S57))) (inner := []) (ok := fun _ => True) (okp := fun _ => True) ?hr ?hp (fun _ hk => hk) trivial (Below.refl _ _) (Nat.le_refl _) (by simp) ?_; (case hd => rfl); (case hg => rfl); (case hr => first | (go_simp; done) | (go_simp; rfl)); (case hp => exact (Reps.none _ _)); intro v49 w3 ho4 hb hg_ hnew_; clear hg_ hnew_; (first | rw [← Ny27.out] at ho4 | (simp only [Int.reduceToNat] at ho4; rw [← Ny27.out] at ho4)); have HO44 := A_ (Kd.S_lower ho4 (below_size bB_)); replace HB := A_ (below_step bB_ hb); clear hb ho4))
 go_loopg [5, 6] k (fun kq v5 v6 w' => ∃ (x5_1 : List (S57)) (x6_1 : Int), v6 = .int .i64 x6_1 /\ Aside0 (spec_DeepOf.l0 kq l0 l1 x5_1 x6_1 = some r) /\ Aside0 (kq <= k) /\ Aside0 (Kd.S k57 57 w' w.heap.size (fun _ => True) v5 x5_1) /\ Aside0 (Below w.heap.size w w'))
 case atStart => exact ⟨(y27), (0), rs_, H', ⟨Nat.le_refl _⟩, ⟨vS_ HO44.out⟩, ⟨bB_⟩⟩
 case round =>
  clear H'
  obtain ⟨x5_1, x6_1, rfl, HA, HK1, HO_5, HB⟩ := hrel
  cases gk with
  | zero => exact absurd HA.out (by simp [spec_DeepOf.l0])
  | succ k1 =>
   have H := HA.out
   clear HA
   simp only [spec_DeepOf.l0] at H
   by_cases c5 : x6_1 < (l0.length : Int)
   rotate_left
   . rw [if_neg c5] at H
     have c5b0 := decide_eq_false c5
     clear c5
     obtain rfl := si_ H
     go_wp2
     go_ret
     exact ⟨_, rr_, vS_ HO_5.out, bB_⟩
   rw [if_pos c5] at H
   have c5b0 := decide_eq_true c5
   clear c5
   by_cases c6 : 0 <= x6_1
   rotate_left
   . exact absurd H (by rw [if_neg c6]; simp)
   rw [if_pos c6] at H
   have c6b0 := decide_eq_true c6
   clear c6
   obtain ⟨t45, A7, H⟩ := bo_ H
   (try dsimp only at H)
   by_cases c8 : t45 = true
   . subst c8
     rw [if_pos rfl] at H
     obtain ⟨⟨t30, t34, t35, t36, t31⟩, A9, H⟩ := bo_ H
     (try dsimp only at H)
     by_cases c10 : x5_1.length < 1759218604441
     rotate_left
     . exact absurd H (by rw [if_neg c10]; simp)
     rw [if_pos c10] at H
     have LMc10 := A_ c10
     clear c10
     obtain ⟨y28, hy28⟩ : ∃ y_ : List (S57), y_ = (x5_1 ++ [(⟨t30, t34, t35, t36, t31⟩ : S57)]) := ⟨_, rfl⟩
     replace H : (spec_DeepOf.l0 k1 l0 l1 y28 (wrap64 (x6_1 + 1))) = some r := hy_ hy28 H
     have Ny28 := A_ hy28
     clear hy28
     have H' := A_ H
     clear H
     have p23 : 0 <= (x6_1 : Int) := od_
     have q23 : x6_1 < (l0.length : Int) := od_
     obtain ⟨ad23, A23_0, c23_0, A23_4, c23_4, e23, hx23_0, hx23_1, hx23_2, hx23_3, hx23_4, hl23_0, hi23_0, hl23_4, hi23_4⟩ := at_T57 HR0.out x6_1 p23 q23
     cases e23
     replace hx23_0 := bc_ HB.out hx23_0
     replace hx23_1 := bc_ HB.out hx23_1
     replace hx23_2 := bc_ HB.out hx23_2
     replace hx23_3 := bc_ HB.out hx23_3
     replace hx23_4 := bc_ HB.out hx23_4
     have HR23_0 := A_ hi23_0
     have HC23_0 := A_ hl23_0
     clear hi23_0 hl23_0
     clear hi23_4 hl23_4
     replace p23 := eq_true p23
     replace q23 := eq_true q23
     go_wp2_with (first | ((with_reducible refine gc_ (f := 104) rfl ?_); refine gL_ (some 20) Try.func104 #[.slice A23_0 ((rd_T57 l0 x6_1).f0).length c23_0, .slice A1 l1.length c1] ?_; (with_reducible refine (spec_SamePath.calls k1 _ _ ((rd_T57 l0 x6_1).f0) _ _ l1 true _ ?s1 ?s2 ?s3 ?s4 A7.out).mono ?_); (case s1 => exact cC_ (Kd.C_below HR23_0.out HB.out)); (case s2 => exact HC23_0.out); (case s3 => exact cC_ (Kd.C_below HR1.out HB.out)); (case s4 => exact HC1.out); rintro e w' ⟨rfl, ⟨nd, rfl⟩⟩; refine ⟨_, rfl, ?_⟩; have p25 : 0 <= (x6_1 : Int) := od_; have q25 : x6_1 < (l0.length : Int) := od_; obtain ⟨ad25, A25_0, c25_0, A25_4, c25_4, e25, hx25_0, hx25_1, hx25_2, hx25_3, hx25_4, hl25_0, hi25_0, hl25_4, hi25_4⟩ := at_T57 HR0.out x6_1 p25 q25; obtain rfl : ad23 = ad25 := (by injection e25); replace hx25_0 := bc_ HB.out hx25_0; replace hx25_1 := bc_ HB.out hx25_1; replace hx25_2 := bc_ HB.out hx25_2; replace hx25_3 := bc_ HB.out hx25_3; replace hx25_4 := bc_ HB.out hx25_4; have HR25_0 := A_ hi25_0; have HC25_0 := A_ hl25_0; clear hi25_0 hl25_0; have HR25_4 := A_ hi25_4; have HC25_4 := A_ hl25_4; clear hi25_4 hl25_4; replace p25 := eq_true p25; replace q25 := eq_true q25; have ea_ := Option.some.inj (hx23_0.symm.trans hx25_0); injection ea_ with ea_ en_ ec_; subst ea_; subst ec_; clear en_; have ea_ := Option.some.inj (hx23_4.symm.trans hx25_4); injection ea_ with ea_ en_ ec_; subst ea_; subst ec_; clear en_) | ((with_reducible refine gc_ (f := 105) rfl ?_); refine gL_ (some 35) Try.func105 #[.agg #[.slice A23_0 ((rd_T57 l0 x6_1).f0).length c23_0, .bool ((rd_T57 l0 x6_1).f1), .string ((rd_T57 l0 x6_1).f2), .int .i64 ((rd_T57 l0 x6_1).f3), .slice A23_4 ((rd_T57 l0 x6_1).f4).length c23_4]] ?_; (with_reducible refine (spec_l10Copy.calls _ _ ((rd_T57 l0 x6_1).f0) ((rd_T57 l0 x6_1).f1) ((rd_T57 l0 x6_1).f2) ((rd_T57 l0 x6_1).f3) _ _ ((rd_T57 l0 x6_1).f4) t30 t34 t35 t36 t31 _ ?s1 ?s2 ?s3 ?s4 A9.out).mono ?_); (case s1 => exact cC_ (Kd.C_below HR25_0.out bB_)); (case s2 => exact HC25_0.out); (case s3 => exact cC_ (Kd.C_below HR25_4.out bB_)); (case s4 => exact HC25_4.out); rintro e w11 ⟨v50, v51, rfl, ho0, ho1, hb⟩; refine ⟨_, rfl, ?_⟩; replace HO_5 := A_ (Kd.S_mono (Kd.S_told (Kd.S_told (Kd.S_old (vS_ HO_5.out) hb) (kb_ ho0)) (kb_ ho1)) (fun _ h_ => h_.1)); have HO40 := A_ (Kd.R_lower ho0 (below_size bB_)); have HO41 := A_ (Kd.R_lower ho1 (below_size bB_)); replace HB := A_ (below_step bB_ hb); clear hb ho0 ho1; obtain ⟨Ao13, co13, eo13⟩ := Kd.R_slice HO40.out; subst eo13; obtain ⟨Ao14, co14, eo14⟩ := Kd.R_slice HO41.out; subst eo14) | ((with_reducible refine gate_builtin (b := .append) (xs := #[.tmp 30, .tmp 36]) rfl ?_); at_builtin; refine Kd.S_append k57 (w0 := w) w.heap.size rfl (.tmp 30) (.tmp 36) 26 57 (.agg #[(.slice none 0 0), (.bool false), (.string ⟨#[]⟩), (.int .i64 0), (.slice none 0 0)]) 80 rfl Try.underlying26 info57 rfl (by decide) (by omega) u5 x5_1 (⟨t30, t34, t35, t36, t31⟩ : S57) [.slice Ao13 t30.length co13, .bool t34, .string t35, .int .i64 t36, .slice Ao14 t31.length co14] (fun _ => True) (fun k_ => some k_ = (.slice Ao13 t30.length co13 : Value).ownBlock \/ some k_ = (.slice Ao14 t31.length co14 : Value).ownBlock) rfl rfl ?aP (fun k_ hk_ => hk_.elim (fun h_ => ((Kd.R_mono (ok' := fun k_ => ((fun _ => True)) k_ /\ some k_ ≠ (u5 : Value).ownBlock) (Kd.R_apart' (HO40.out) (Kd.S_typed HO_5.out) (by decide)) (fun k_ hk => ⟨trivial, hk.2⟩))).1 k_ h_.symm) (fun h_ => ((Kd.R_mono (ok' := fun k_ => ((fun _ => True)) k_ /\ some k_ ≠ (u5 : Value).ownBlock) (Kd.R_apart' (HO41.out) (Kd.S_typed HO_5.out) (by decide)) (fun k_ hk => ⟨trivial, hk.2⟩))).1 k_ h_.symm)) ?aF ?aO ?aB ?aS ?aL ?_; (case aP => exact k57_mkM _ _ _ (⟨t30, t34, t35, t36, t31⟩ : S57) (Kd.R_mono (Kd.R_tight rfl (Kd.R_mono (ok' := fun k_ => ((fun _ => True)) k_ /\ some k_ ≠ (u5 : Value).ownBlock) (Kd.R_apart' (HO40.out) (Kd.S_typed HO_5.out) (by decide)) (fun k_ hk => ⟨trivial, hk.2⟩))) (fun _ h_ => Or.inl h_)) (Kd.R_mono (Kd.R_tight rfl (Kd.R_mono (ok' := fun k_ => ((fun _ => True)) k_ /\ some k_ ≠ (u5 : Value).ownBlock) (Kd.R_apart' (HO41.out) (Kd.S_typed HO_5.out) (by decide)) (fun k_ hk => ⟨trivial, hk.2⟩))) (fun _ h_ => Or.inr (h_)))); (case aB => exact bB_); (case aF => exact (fun _ _ => trivial)); (case aO => exact (by (with_reducible repeat (first | apply Kd.S_alloc | apply Kd.S_drewN | apply Kd.S_drew)); exact Kd.S_mono HO_5.out (fun k_ hk => ⟨trivial, fun e_ => e_.elim (fun h_ => hk.1.2 h_) (fun h_ => hk.2 h_)⟩))); (case aS => exact (below_size bB_)); (case aL => have := LMc10.out; omega); intro v52 w12 ho hb hg hat; rw [← Ny28.out] at ho; replace HB := A_ (hb); have HO46 := A_ (ho); clear HO_5 HO40 HO41; clear ho hb hg hat))
     go_roundg k1
     case measure => have := HK1.out; omega
     case rel => exact ⟨(y28), (wrap64 (x6_1 + 1)), rs_, H', ⟨by have := HK1.out; omega⟩, ⟨vS_ HO46.out⟩, ⟨bB_⟩⟩
   . replace c8 := Bool.eq_false_iff.mpr c8
     subst c8
     rw [if_neg nf_] at H
     obtain ⟨t47, A15, H⟩ := bo_ H
     (try dsimp only at H)
     by_cases c16 : t47 = true
     . subst c16
       rw [if_pos rfl] at H
       obtain ⟨⟨t32, t37, t38, t39, t33⟩, A17, H⟩ := bo_ H
       (try dsimp only at H)
       by_cases c18 : x5_1.length < 1759218604441
       rotate_left
       . exact absurd H (by rw [if_neg c18]; simp)
       rw [if_pos c18] at H
       have LMc18 := A_ c18
       clear c18
       obtain ⟨y29, hy29⟩ : ∃ y_ : List (S57), y_ = (x5_1 ++ [(⟨t32, t37, t38, t39, t33⟩ : S57)]) := ⟨_, rfl⟩
       replace H : (spec_DeepOf.l0 k1 l0 l1 y29 (wrap64 (x6_1 + 1))) = some r := hy_ hy29 H
       have Ny29 := A_ hy29
       clear hy29
       have H' := A_ H
       clear H
       have p23 : 0 <= (x6_1 : Int) := od_
       have q23 : x6_1 < (l0.length : Int) := od_
       obtain ⟨ad23, A23_0, c23_0, A23_4, c23_4, e23, hx23_0, hx23_1, hx23_2, hx23_3, hx23_4, hl23_0, hi23_0, hl23_4, hi23_4⟩ := at_T57 HR0.out x6_1 p23 q23
       cases e23
       replace hx23_0 := bc_ HB.out hx23_0
       replace hx23_1 := bc_ HB.out hx23_1
       replace hx23_2 := bc_ HB.out hx23_2
       replace hx23_3 := bc_ HB.out hx23_3
       replace hx23_4 := bc_ HB.out hx23_4
       have HR23_0 := A_ hi23_0
       have HC23_0 := A_ hl23_0
       clear hi23_0 hl23_0
       clear hi23_4 hl23_4
       replace p23 := eq_true p23
       replace q23 := eq_true q23
       go_wp2_with (first | ((with_reducible refine gc_ (f := 104) rfl ?_); refine gL_ (some 20) Try.func104 #[.slice A23_0 ((rd_T57 l0 x6_1).f0).length c23_0, .slice A1 l1.length c1] ?_; (with_reducible refine (spec_SamePath.calls k1 _ _ ((rd_T57 l0 x6_1).f0) _ _ l1 false _ ?s1 ?s2 ?s3 ?s4 A7.out).mono ?_); (case s1 => exact cC_ (Kd.C_below HR23_0.out HB.out)); (case s2 => exact HC23_0.out); (case s3 => exact cC_ (Kd.C_below HR1.out HB.out)); (case s4 => exact HC1.out); rintro e w' ⟨rfl, ⟨nd, rfl⟩⟩; refine ⟨_, rfl, ?_⟩; have p24 : 0 <= (x6_1 : Int) := od_; have q24 : x6_1 < (l0.length : Int) := od_; obtain ⟨ad24, A24_0, c24_0, A24_4, c24_4, e24, hx24_0, hx24_1, hx24_2, hx24_3, hx24_4, hl24_0, hi24_0, hl24_4, hi24_4⟩ := at_T57 HR0.out x6_1 p24 q24; obtain rfl : ad23 = ad24 := (by injection e24); replace hx24_0 := bc_ HB.out hx24_0; replace hx24_1 := bc_ HB.out hx24_1; replace hx24_2 := bc_ HB.out hx24_2; replace hx24_3 := bc_ HB.out hx24_3; replace hx24_4 := bc_ HB.out hx24_4; have HR24_0 := A_ hi24_0; have HC24_0 := A_ hl24_0; clear hi24_0 hl24_0; clear hi24_4 hl24_4; replace p24 := eq_true p24; replace q24 := eq_true q24; have ea_ := Option.some.inj (hx23_0.symm.trans hx24_0); injection ea_ with ea_ en_ ec_; subst ea_; subst ec_; clear en_; have ea_ := Option.some.inj (hx23_4.symm.trans hx24_4); injection ea_ with ea_ en_ ec_; subst ea_; subst ec_; clear en_) | (go_at_call 106; (with_reducible refine (spec_Under.calls k1 _ _ ((rd_T57 l0 x6_1).f0) _ _ l1 true _ ?s1 ?s2 ?s3 ?s4 A15.out).mono ?_); (case s1 => exact cC_ (Kd.C_below HR24_0.out bB_)); (case s2 => exact HC24_0.out); (case s3 => exact cC_ (Kd.C_below HR1.out bB_)); (case s4 => exact HC1.out); rintro e w' ⟨rfl, ⟨nd, rfl⟩⟩; have p26 : 0 <= (x6_1 : Int) := od_; have q26 : x6_1 < (l0.length : Int) := od_; obtain ⟨ad26, A26_0, c26_0, A26_4, c26_4, e26, hx26_0, hx26_1, hx26_2, hx26_3, hx26_4, hl26_0, hi26_0, hl26_4, hi26_4⟩ := at_T57 HR0.out x6_1 p26 q26; obtain rfl : ad23 = ad26 := (by injection e26); replace hx26_0 := bc_ HB.out hx26_0; replace hx26_1 := bc_ HB.out hx26_1; replace hx26_2 := bc_ HB.out hx26_2; replace hx26_3 := bc_ HB.out hx26_3; replace hx26_4 := bc_ HB.out hx26_4; have HR26_0 := A_ hi26_0; have HC26_0 := A_ hl26_0; clear hi26_0 hl26_0; have HR26_4 := A_ hi26_4; have HC26_4 := A_ hl26_4; clear hi26_4 hl26_4; replace p26 := eq_true p26; replace q26 := eq_true q26; have ea_ := Option.some.inj (hx23_0.symm.trans hx26_0); injection ea_ with ea_ en_ ec_; subst ea_; subst ec_; clear en_; have ea_ := Option.some.inj (hx23_4.symm.trans hx26_4); injection ea_ with ea_ en_ ec_; subst ea_; subst ec_; clear en_) | ((with_reducible refine gc_ (f := 105) rfl ?_); refine gL_ (some 35) Try.func105 #[.agg #[.slice A23_0 ((rd_T57 l0 x6_1).f0).length c23_0, .bool ((rd_T57 l0 x6_1).f1), .string ((rd_T57 l0 x6_1).f2), .int .i64 ((rd_T57 l0 x6_1).f3), .slice A23_4 ((rd_T57 l0 x6_1).f4).length c23_4]] ?_; (with_reducible refine (spec_l10Copy.calls _ _ ((rd_T57 l0 x6_1).f0) ((rd_T57 l0 x6_1).f1) ((rd_T57 l0 x6_1).f2) ((rd_T57 l0 x6_1).f3) _ _ ((rd_T57 l0 x6_1).f4) t32 t37 t38 t39 t33 _ ?s1 ?s2 ?s3 ?s4 A17.out).mono ?_); (case s1 => exact cC_ (Kd.C_below HR26_0.out bB_)); (case s2 => exact HC26_0.out); (case s3 => exact cC_ (Kd.C_below HR26_4.out bB_)); (case s4 => exact HC26_4.out); rintro e w19 ⟨v53, v54, rfl, ho0, ho1, hb⟩; refine ⟨_, rfl, ?_⟩; replace HO_5 := A_ (Kd.S_mono (Kd.S_told (Kd.S_told (Kd.S_old (vS_ HO_5.out) hb) (kb_ ho0)) (kb_ ho1)) (fun _ h_ => h_.1)); have HO42 := A_ (Kd.R_lower ho0 (below_size bB_)); have HO43 := A_ (Kd.R_lower ho1 (below_size bB_)); replace HB := A_ (below_step bB_ hb); clear hb ho0 ho1; obtain ⟨Ao21, co21, eo21⟩ := Kd.R_slice HO42.out; subst eo21; obtain ⟨Ao22, co22, eo22⟩ := Kd.R_slice HO43.out; subst eo22) | ((with_reducible refine gate_builtin (b := .append) (xs := #[.tmp 30, .tmp 36]) rfl ?_); at_builtin; refine Kd.S_append k57 (w0 := w) w.heap.size rfl (.tmp 30) (.tmp 36) 26 57 (.agg #[(.slice none 0 0), (.bool false), (.string ⟨#[]⟩), (.int .i64 0), (.slice none 0 0)]) 80 rfl Try.underlying26 info57 rfl (by decide) (by omega) u5 x5_1 (⟨t32, t37, t38, t39, t33⟩ : S57) [.slice Ao21 t32.length co21, .bool t37, .string t38, .int .i64 t39, .slice Ao22 t33.length co22] (fun _ => True) (fun k_ => some k_ = (.slice Ao21 t32.length co21 : Value).ownBlock \/ some k_ = (.slice Ao22 t33.length co22 : Value).ownBlock) rfl rfl ?aP (fun k_ hk_ => hk_.elim (fun h_ => ((Kd.R_mono (ok' := fun k_ => ((fun _ => True)) k_ /\ some k_ ≠ (u5 : Value).ownBlock) (Kd.R_apart' (HO42.out) (Kd.S_typed HO_5.out) (by decide)) (fun k_ hk => ⟨trivial, hk.2⟩))).1 k_ h_.symm) (fun h_ => ((Kd.R_mono (ok' := fun k_ => ((fun _ => True)) k_ /\ some k_ ≠ (u5 : Value).ownBlock) (Kd.R_apart' (HO43.out) (Kd.S_typed HO_5.out) (by decide)) (fun k_ hk => ⟨trivial, hk.2⟩))).1 k_ h_.symm)) ?aF ?aO ?aB ?aS ?aL ?_; (case aP => exact k57_mkM _ _ _ (⟨t32, t37, t38, t39, t33⟩ : S57) (Kd.R_mono (Kd.R_tight rfl (Kd.R_mono (ok' := fun k_ => ((fun _ => True)) k_ /\ some k_ ≠ (u5 : Value).ownBlock) (Kd.R_apart' (HO42.out) (Kd.S_typed HO_5.out) (by decide)) (fun k_ hk => ⟨trivial, hk.2⟩))) (fun _ h_ => Or.inl h_)) (Kd.R_mono (Kd.R_tight rfl (Kd.R_mono (ok' := fun k_ => ((fun _ => True)) k_ /\ some k_ ≠ (u5 : Value).ownBlock) (Kd.R_apart' (HO43.out) (Kd.S_typed HO_5.out) (by decide)) (fun k_ hk => ⟨trivial, hk.2⟩))) (fun _ h_ => Or.inr (h_)))); (case aB => exact bB_); (case aF => exact (fun _ _ => trivial)); (case aO => exact (by (with_reducible repeat (first | apply Kd.S_alloc | apply Kd.S_drewN | apply Kd.S_drew)); exact Kd.S_mono HO_5.out (fun k_ hk => ⟨trivial, fun e_ => e_.elim (fun h_ => hk.1.2 h_) (fun h_ => hk.2 h_)⟩))); (case aS => exact (below_size bB_)); (case aL => have := LMc18.out; omega); intro v55 w20 ho hb hg hat; rw [← Ny29.out] at ho; replace HB := A_ (hb); have HO48 := A_ (ho); clear HO_5 HO42 HO43; clear ho hb hg hat))
       go_roundg k1
       case measure => have := HK1.out; omega
       case rel => exact ⟨(y29), (wrap64 (x6_1 + 1)), rs_, H', ⟨by have := HK1.out; omega⟩, ⟨vS_ HO48.out⟩, ⟨bB_⟩⟩
     . replace c16 := Bool.eq_false_iff.mpr c16
       subst c16
       rw [if_neg nf_] at H
       have H' := A_ H
       clear H
       have p23 : 0 <= (x6_1 : Int) := od_
       have q23 : x6_1 < (l0.length : Int) := od_
       obtain ⟨ad23, A23_0, c23_0, A23_4, c23_4, e23, hx23_0, hx23_1, hx23_2, hx23_3, hx23_4, hl23_0, hi23_0, hl23_4, hi23_4⟩ := at_T57 HR0.out x6_1 p23 q23
       cases e23
       replace hx23_0 := bc_ HB.out hx23_0
       replace hx23_1 := bc_ HB.out hx23_1
       replace hx23_2 := bc_ HB.out hx23_2
       replace hx23_3 := bc_ HB.out hx23_3
       replace hx23_4 := bc_ HB.out hx23_4
       have HR23_0 := A_ hi23_0
       have HC23_0 := A_ hl23_0
       clear hi23_0 hl23_0
       clear hi23_4 hl23_4
       replace p23 := eq_true p23
       replace q23 := eq_true q23
       go_wp2_with (first | ((with_reducible refine gc_ (f := 104) rfl ?_); refine gL_ (some 20) Try.func104 #[.slice A23_0 ((rd_T57 l0 x6_1).f0).length c23_0, .slice A1 l1.length c1] ?_; (with_reducible refine (spec_SamePath.calls k1 _ _ ((rd_T57 l0 x6_1).f0) _ _ l1 false _ ?s1 ?s2 ?s3 ?s4 A7.out).mono ?_); (case s1 => exact cC_ (Kd.C_below HR23_0.out HB.out)); (case s2 => exact HC23_0.out); (case s3 => exact cC_ (Kd.C_below HR1.out HB.out)); (case s4 => exact HC1.out); rintro e w' ⟨rfl, ⟨nd, rfl⟩⟩; refine ⟨_, rfl, ?_⟩; have p24 : 0 <= (x6_1 : Int) := od_; have q24 : x6_1 < (l0.length : Int) := od_; obtain ⟨ad24, A24_0, c24_0, A24_4, c24_4, e24, hx24_0, hx24_1, hx24_2, hx24_3, hx24_4, hl24_0, hi24_0, hl24_4, hi24_4⟩ := at_T57 HR0.out x6_1 p24 q24; obtain rfl : ad23 = ad24 := (by injection e24); replace hx24_0 := bc_ HB.out hx24_0; replace hx24_1 := bc_ HB.out hx24_1; replace hx24_2 := bc_ HB.out hx24_2; replace hx24_3 := bc_ HB.out hx24_3; replace hx24_4 := bc_ HB.out hx24_4; have HR24_0 := A_ hi24_0; have HC24_0 := A_ hl24_0; clear hi24_0 hl24_0; clear hi24_4 hl24_4; replace p24 := eq_true p24; replace q24 := eq_true q24; have ea_ := Option.some.inj (hx23_0.symm.trans hx24_0); injection ea_ with ea_ en_ ec_; subst ea_; subst ec_; clear en_; have ea_ := Option.some.inj (hx23_4.symm.trans hx24_4); injection ea_ with ea_ en_ ec_; subst ea_; subst ec_; clear en_) | (go_at_call 106; (with_reducible refine (spec_Under.calls k1 _ _ ((rd_T57 l0 x6_1).f0) _ _ l1 false _ ?s1 ?s2 ?s3 ?s4 A15.out).mono ?_); (case s1 => exact cC_ (Kd.C_below HR24_0.out bB_)); (case s2 => exact HC24_0.out); (case s3 => exact cC_ (Kd.C_below HR1.out bB_)); (case s4 => exact HC1.out); rintro e w' ⟨rfl, ⟨nd, rfl⟩⟩))
       go_roundg k1
       case measure => have := HK1.out; omega
       case rel => exact ⟨(x5_1), (wrap64 (x6_1 + 1)), rs_, H', ⟨by have := HK1.out; omega⟩, ⟨vS_ HO_5.out⟩, ⟨bB_⟩⟩
end Go.Proofs.Ytbgggcgjijljkaa.Q
