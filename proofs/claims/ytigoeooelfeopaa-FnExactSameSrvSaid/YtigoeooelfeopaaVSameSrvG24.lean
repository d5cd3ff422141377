-- PRINTED by print.py (a twelfth state) out of the translation. Not trusted: Lean checks it.
import Derived.Test.YtigoeooelfeopaaVSameSrvG23
namespace Go.Proofs.Ytigoeooelfeopaa.Q
open Go.RowKit Go.Proofs.YtigoeooelfeopaaW.PrintWords Go.Proofs.YtigoeooelfeopaaW.PrintLast Go.Proofs.YtigoeooelfeopaaW.PrintMore
attribute [local go_sem] max2_int min2_int max_two min_two max_three min_three max_four min_four   -- for this text's walks alone
set_option linter.unusedVariables false
set_option linter.unusedSimpArgs false
theorem eqA97 (d : Nat) (w : World) (x0 y0 : ByteArray) (x1 y1 : ByteArray) (x2 y2 : ByteArray) :
    (Op.equalIn (d + 2) 97 (.agg #[.string x0, .string x1, .string x2]) (.agg #[.string y0, .string y1, .string y2])).run Try.prog w = .ok (x0.toList == y0.toList && (x1.toList == y1.toList && (x2.toList == y2.toList))) w := by
  refine eqA_of Try.underlying97 (by kernel_rfl) ?_
  refine eqf_cons (by rfl) (by go_simp; rfl) (by go_simp; rfl) (by go_simp) ?_
  refine eqf_cons (by rfl) (by go_simp; rfl) (by go_simp; rfl) (by go_simp) ?_
  exact eqf_last (by rfl) (by go_simp; rfl) (by go_simp; rfl) (by go_simp)
attribute [local go_sem high] eqA97
mutual
def spec_l15SameRes.j0 : Nat → Bool → List ByteArray → Bool → ByteArray → Int → List (S97) → List ByteArray → Bool → ByteArray → Int → List (S97) → Option (Bool)
 | 0, _, _, _, _, _, _, _, _, _, _, _ => none
 | k + 1, x41, x150000, x150001, x150002, x150003, x150004, x151000, x151001, x151002, x151003, x151004 => if x41 = true then (some false) else (spec_l15SameRes.l0 k 0 x150000 x150001 x150002 x150003 x150004 x151000 x151001 x151002 x151003 x151004)
def spec_l15SameRes.l0 : Nat → Int → List ByteArray → Bool → ByteArray → Int → List (S97) → List ByteArray → Bool → ByteArray → Int → List (S97) → Option (Bool)
 | 0, _, _, _, _, _, _, _, _, _, _, _ => none
 | k + 1, x5, x150000, x150001, x150002, x150003, x150004, x151000, x151001, x151002, x151003, x151004 => if x5 < (x150004.length : Int) then (if 0 ≤ x5 then (if x5 < (x151004.length : Int) then (if (!((((rd_T97 x150004 x5).f0).toList) == (((rd_T97 x151004 x5).f0).toList)) || (!((((rd_T97 x150004 x5).f1).toList) == (((rd_T97 x151004 x5).f1).toList)) || (!((((rd_T97 x150004 x5).f2).toList) == (((rd_T97 x151004 x5).f2).toList))))) = true then (some false) else (spec_l15SameRes.l0 k (wrap64 (x5 + 1)) x150000 x150001 x150002 x150003 x150004 x151000 x151001 x151002 x151003 x151004)) else (none)) else (none)) else (some true)
end
def spec_l15SameRes.f (k : Nat) (l0_0 : List ByteArray) (a0_1 : Bool) (a0_2 : ByteArray) (a0_3 : Int) (l0_4 : List (S97)) (l1_0 : List ByteArray) (a1_1 : Bool) (a1_2 : ByteArray) (a1_3 : Int) (l1_4 : List (S97)) : Option (Bool) := (spec_SamePath.f k l0_0 l1_0).bind fun t151 => (if t151 = true then (if (a0_1 != a1_1) = true then (spec_l15SameRes.j0 k true l0_0 a0_1 a0_2 a0_3 l0_4 l1_0 a1_1 a1_2 a1_3 l1_4) else (if a0_2.toList = a1_2.toList then (if a0_3 = a1_3 then (spec_l15SameRes.j0 k ((l0_4.length : Int) != (l1_4.length : Int)) l0_0 a0_1 a0_2 a0_3 l0_4 l1_0 a1_1 a1_2 a1_3 l1_4) else (spec_l15SameRes.j0 k true l0_0 a0_1 a0_2 a0_3 l0_4 l1_0 a1_1 a1_2 a1_3 l1_4)) else (spec_l15SameRes.j0 k true l0_0 a0_1 a0_2 a0_3 l0_4 l1_0 a1_1 a1_2 a1_3 l1_4))) else (spec_l15SameRes.j0 k true l0_0 a0_1 a0_2 a0_3 l0_4 l1_0 a1_1 a1_2 a1_3 l1_4))
set_option maxHeartbeats 8000000 in
set_option maxRecDepth 100000 in
theorem spec_l15SameRes.calls (k : Nat) (A0_0 : Option Addr) (c0_0 : Nat) (l0_0 : List ByteArray) (a0_1 : Bool) (a0_2 : ByteArray) (a0_3 : Int) (A0_4 : Option Addr) (c0_4 : Nat) (l0_4 : List (S97)) (A1_0 : Option Addr) (c1_0 : Nat) (l1_0 : List ByteArray) (a1_1 : Bool) (a1_2 : ByteArray) (a1_3 : Int) (A1_4 : Option Addr) (c1_4 : Nat) (l1_4 : List (S97)) (r : Bool) (w : World) (hr0_0 : Kd.C Kd.string w A0_0 l0_0.length l0_0) (hc0_0 : l0_0.length ≤ c0_0) (hr0_4 : Kd.C k97 w A0_4 l0_4.length l0_4) (hc0_4 : l0_4.length ≤ c0_4) (hr1_0 : Kd.C Kd.string w A1_0 l1_0.length l1_0) (hc1_0 : l1_0.length ≤ c1_0) (hr1_4 : Kd.C k97 w A1_4 l1_4.length l1_4) (hc1_4 : l1_4.length ≤ c1_4) (h : spec_l15SameRes.f k l0_0 a0_1 a0_2 a0_3 l0_4 l1_0 a1_1 a1_2 a1_3 l1_4 = some r) :
 Calls Try.prog 67 #[.agg #[.slice A0_0 l0_0.length c0_0, .bool a0_1, .string a0_2, .int .i64 a0_3, .slice A0_4 l0_4.length c0_4], .agg #[.slice A1_0 l1_0.length c1_0, .bool a1_1, .string a1_2, .int .i64 a1_3, .slice A1_4 l1_4.length c1_4]] w fun e w' => e = .returned (.bool r) ∧ Below w.heap.size w w' := by
 have hu79 := Try.underlying79
 have hu97 := Try.underlying97
 have HR0_0 := A_ hr0_0
 have HC0_0 := A_ hc0_0
 clear hr0_0 hc0_0
 have HR0_4 := A_ hr0_4
 have HC0_4 := A_ hc0_4
 clear hr0_4 hc0_4
 have HR1_0 := A_ hr1_0
 have HC1_0 := A_ hc1_0
 clear hr1_0 hc1_0
 have HR1_4 := A_ hr1_4
 have HC1_4 := A_ hc1_4
 clear hr1_4 hc1_4
 have HB := A_ (Below.refl w.heap.size w)
 have H : ((spec_SamePath.f k l0_0 l1_0).bind fun t151 => (if t151 = true then (if (a0_1 != a1_1) = true then (spec_l15SameRes.j0 k true l0_0 a0_1 a0_2 a0_3 l0_4 l1_0 a1_1 a1_2 a1_3 l1_4) else (if a0_2.toList = a1_2.toList then (if a0_3 = a1_3 then (spec_l15SameRes.j0 k ((l0_4.length : Int) != (l1_4.length : Int)) l0_0 a0_1 a0_2 a0_3 l0_4 l1_0 a1_1 a1_2 a1_3 l1_4) else (spec_l15SameRes.j0 k true l0_0 a0_1 a0_2 a0_3 l0_4 l1_0 a1_1 a1_2 a1_3 l1_4)) else (spec_l15SameRes.j0 k true l0_0 a0_1 a0_2 a0_3 l0_4 l1_0 a1_1 a1_2 a1_3 l1_4))) else (spec_l15SameRes.j0 k true l0_0 a0_1 a0_2 a0_3 l0_4 l1_0 a1_1 a1_2 a1_3 l1_4))) = some r := h
 clear h
 have HC3 := A_ H
 clear H
 go_enter Try.func67, Try.ntmps67
 go_upto_region 1 with (first | ((with_reducible refine gd_ (N := 2) rfl ?_); (try (refine gate_guard (by rfl) ?_; dsimp only)); refine bx_ (N := 2) (cs := #[.slice A0_0 l0_0.length c0_0, .bool a0_1, .string a0_2, .int .i64 a0_3, .slice A0_4 l0_4.length c0_4]) (t := 79) ?_; intro gb149 hg w4 hbox hb; have BK149 := A_ (hbox); have GW149 := A_ (ge_ hg bB_ : w.heap.size ≤ gb149); have GE149 := A_ (ge_ hg bB_ : w.heap.size ≤ gb149); replace HB := A_ (below_step bB_ hb); clear hb hbox hg) | ((with_reducible refine gd_ (N := 3) rfl ?_); (try (refine gate_guard (by rfl) ?_; dsimp only)); refine bx_ (N := 3) (cs := #[.slice A1_0 l1_0.length c1_0, .bool a1_1, .string a1_2, .int .i64 a1_3, .slice A1_4 l1_4.length c1_4]) (t := 79) ?_; intro gb150 hg w5 hbox hb; have BK150 := A_ (hbox); have GW150 := A_ (ge_ hg (bG_ GE149.out) : w.heap.size ≤ gb150); have GE150 := A_ (ge_ hg (bG_ GE149.out) : w.heap.size ≤ gb150); replace HB := A_ (below_step (bG_ GE149.out) hb); have NB149_150 := A_ (gm_ hg BK149.out); have NB150_149 := A_ (gn_ hg BK149.out); replace BK149 := A_ (bw_ BK149.out hb); clear hb hbox hg))
 repeat (go_quiet (first | ((with_reducible refine gd_ (N := 2) rfl ?_); (try (refine gate_guard (by rfl) ?_; dsimp only)); refine bx_ (N := 2) (cs := #[.slice A0_0 l0_0.length c0_0, .bool a0_1, .string a0_2, .int .i64 a0_3, .slice A0_4 l0_4.length c0_4]) (t := 79) ?_; intro gb149 hg w4 hbox hb; have BK149 := A_ (hbox); have GW149 := A_ (ge_ hg bB_ : w.heap.size ≤ gb149); have GE149 := A_ (ge_ hg bB_ : w.heap.size ≤ gb149); replace HB := A_ (below_step bB_ hb); clear hb hbox hg) | ((with_reducible refine gd_ (N := 3) rfl ?_); (try (refine gate_guard (by rfl) ?_; dsimp only)); refine bx_ (N := 3) (cs := #[.slice A1_0 l1_0.length c1_0, .bool a1_1, .string a1_2, .int .i64 a1_3, .slice A1_4 l1_4.length c1_4]) (t := 79) ?_; intro gb150 hg w5 hbox hb; have BK150 := A_ (hbox); have GW150 := A_ (ge_ hg (bG_ GE149.out) : w.heap.size ≤ gb150); have GE150 := A_ (ge_ hg (bG_ GE149.out) : w.heap.size ≤ gb150); replace HB := A_ (below_step (bG_ GE149.out) hb); have NB149_150 := A_ (gm_ hg BK149.out); have NB150_149 := A_ (gn_ hg BK149.out); replace BK149 := A_ (bw_ BK149.out hb); clear hb hbox hg)); go_upto_region 1 with (first | ((with_reducible refine gd_ (N := 2) rfl ?_); (try (refine gate_guard (by rfl) ?_; dsimp only)); refine bx_ (N := 2) (cs := #[.slice A0_0 l0_0.length c0_0, .bool a0_1, .string a0_2, .int .i64 a0_3, .slice A0_4 l0_4.length c0_4]) (t := 79) ?_; intro gb149 hg w4 hbox hb; have BK149 := A_ (hbox); have GW149 := A_ (ge_ hg bB_ : w.heap.size ≤ gb149); have GE149 := A_ (ge_ hg bB_ : w.heap.size ≤ gb149); replace HB := A_ (below_step bB_ hb); clear hb hbox hg) | ((with_reducible refine gd_ (N := 3) rfl ?_); (try (refine gate_guard (by rfl) ?_; dsimp only)); refine bx_ (N := 3) (cs := #[.slice A1_0 l1_0.length c1_0, .bool a1_1, .string a1_2, .int .i64 a1_3, .slice A1_4 l1_4.length c1_4]) (t := 79) ?_; intro gb150 hg w5 hbox hb; have BK150 := A_ (hbox); have GW150 := A_ (ge_ hg (bG_ GE149.out) : w.heap.size ≤ gb150); have GE150 := A_ (ge_ hg (bG_ GE149.out) : w.heap.size ≤ gb150); replace HB := A_ (below_step (bG_ GE149.out) hb); have NB149_150 := A_ (gm_ hg BK149.out); have NB150_149 := A_ (gn_ hg BK149.out); replace BK149 := A_ (bw_ BK149.out hb); clear hb hbox hg)))
 (try simp only [Act.put, List.setIfInBounds_toArray, List.set_cons_zero, List.set_cons_succ])
 go_cut [41] (fun v41 wc => ∃ (kq : Nat) (x41_2 : Bool), v41 = .bool x41_2 ∧ Aside0 (spec_l15SameRes.j0 kq x41_2 l0_0 a0_1 a0_2 a0_3 l0_4 l1_0 a1_1 a1_2 a1_3 l1_4 = some r) ∧ Aside0 (kq ≤ k) ∧ Aside0 (wc.heap[gb149]? = some (.cells #[(.slice A0_0 l0_0.length c0_0), .bool a0_1, .string a0_2, .int .i64 a0_3, (.slice A0_4 l0_4.length c0_4)] 79 (0, 0))) ∧ Aside0 (wc.heap[gb150]? = some (.cells #[(.slice A1_0 l1_0.length c1_0), .bool a1_1, .string a1_2, .int .i64 a1_3, (.slice A1_4 l1_4.length c1_4)] 79 (0, 0))) ∧ Aside0 (Below w.heap.size w wc))
 case first =>
  have H := HC3.out
  clear HC3
  obtain ⟨t151, A6, H⟩ := bo_ H
  (try dsimp only at H)
  by_cases c7 : t151 = true
  · subst c7
    rw [if_pos rfl] at H
    by_cases c8 : (a0_1 != a1_1) = true
    · rw [if_pos c8] at H
      have c8b0 : (a0_1 != a1_1) = true := c8
      (try (have c8b1 : decide (a0_1 = a1_1) = false := by simpa using c8))
      (try (have c8b2 : (a0_1 == a1_1) = false := by simpa using c8))
      (try (have c8b3 : ¬ (a0_1 = a1_1) := by simpa using c8))
      clear c8
      (first | rw [c8b0] | (simp only [i64_w, i32_w]; rw [c8b0]) | skip)
      have H' := A_ H
      clear H
      have hnb9 := NB149_150.out
      have hnc9 := NB150_149.out
      obtain ⟨hcz10_0, hcz10_1, hcz10_2, hcz10_3, hcz10_4, hfz10_0, hfz10_1, hfz10_2, hfz10_3, hfz10_4⟩ := cz5_ BK149.out
      obtain ⟨hcz11_0, hcz11_1, hcz11_2, hcz11_3, hcz11_4, hfz11_0, hfz11_1, hfz11_2, hfz11_3, hfz11_4⟩ := cz5_ BK150.out
      go_wp2_with (first | (go_at_call 68; (with_reducible refine (spec_SamePath.calls k _ _ l0_0 _ _ l1_0 true _ ?s1 ?s2 ?s3 ?s4 A6.out).mono ?_); (case s1 => exact cC_ (Kd.C_below HR0_0.out HB.out)); (case s2 => exact HC0_0.out); (case s3 => exact cC_ (Kd.C_below HR1_0.out HB.out)); (case s4 => exact HC1_0.out); rintro e w' ⟨rfl, ⟨nd, rfl⟩⟩; (try first | exact ⟨rfl, _, World.drewN_drewN _ _ _⟩ | exact ⟨rfl, _, Eq.trans (World.drewN_drewN _ _ _) (congrArg (World.drewN _) (Nat.add_assoc _ _ _))⟩)))
      repeat (go_quiet (first | (go_at_call 68; (with_reducible refine (spec_SamePath.calls k _ _ l0_0 _ _ l1_0 true _ ?s1 ?s2 ?s3 ?s4 A6.out).mono ?_); (case s1 => exact cC_ (Kd.C_below HR0_0.out HB.out)); (case s2 => exact HC0_0.out); (case s3 => exact cC_ (Kd.C_below HR1_0.out HB.out)); (case s4 => exact HC1_0.out); rintro e w' ⟨rfl, ⟨nd, rfl⟩⟩; (try first | exact ⟨rfl, _, World.drewN_drewN _ _ _⟩ | exact ⟨rfl, _, Eq.trans (World.drewN_drewN _ _ _) (congrArg (World.drewN _) (Nat.add_assoc _ _ _))⟩))); try go_wp2_with (first | (go_at_call 68; (with_reducible refine (spec_SamePath.calls k _ _ l0_0 _ _ l1_0 true _ ?s1 ?s2 ?s3 ?s4 A6.out).mono ?_); (case s1 => exact cC_ (Kd.C_below HR0_0.out HB.out)); (case s2 => exact HC0_0.out); (case s3 => exact cC_ (Kd.C_below HR1_0.out HB.out)); (case s4 => exact HC1_0.out); rintro e w' ⟨rfl, ⟨nd, rfl⟩⟩; (try first | exact ⟨rfl, _, World.drewN_drewN _ _ _⟩ | exact ⟨rfl, _, Eq.trans (World.drewN_drewN _ _ _) (congrArg (World.drewN _) (Nat.add_assoc _ _ _))⟩))))
      go_meet
      case rel => exact ⟨_, (true), rs_, H', ⟨by first | omega | exact Nat.le_refl _⟩, ⟨vb_ BK149.out⟩, ⟨vb_ BK150.out⟩, ⟨by repeat (first | (with_reducible first | exact HB.out | apply below_alloc | apply pw_below_drewN | apply below_drew1 | refine below_set ?_ GE149.out | refine below_set ?_ GE150.out) | exact HB.out)⟩⟩
    rw [if_neg c8] at H
    have c8b0 : (a0_1 != a1_1) = false := by simpa using c8
    (try (have c8b1 : decide (a0_1 = a1_1) = true := by simpa using c8))
    (try (have c8b2 : (a0_1 == a1_1) = true := by simpa using c8))
    clear c8
    (first | rw [c8b0] | (simp only [i64_w, i32_w]; rw [c8b0]) | skip)
    by_cases c12 : a0_2.toList = a1_2.toList
    rotate_left
    · rw [if_neg c12] at H
      have c12b0 : (a0_2.toList == a1_2.toList) = false := beq_eq_false_iff_ne.mpr c12
      have c12b1 : (a0_2.toList != a1_2.toList) = true := bne_iff_ne.mpr c12
      have H' := A_ H
      clear H
      have hnb20 := NB149_150.out
      have hnc20 := NB150_149.out
      obtain ⟨hcz21_0, hcz21_1, hcz21_2, hcz21_3, hcz21_4, hfz21_0, hfz21_1, hfz21_2, hfz21_3, hfz21_4⟩ := cz5_ BK149.out
      obtain ⟨hcz22_0, hcz22_1, hcz22_2, hcz22_3, hcz22_4, hfz22_0, hfz22_1, hfz22_2, hfz22_3, hfz22_4⟩ := cz5_ BK150.out
      go_wp2_with (first | (go_at_call 68; (with_reducible refine (spec_SamePath.calls k _ _ l0_0 _ _ l1_0 true _ ?s1 ?s2 ?s3 ?s4 A6.out).mono ?_); (case s1 => exact cC_ (Kd.C_below HR0_0.out HB.out)); (case s2 => exact HC0_0.out); (case s3 => exact cC_ (Kd.C_below HR1_0.out HB.out)); (case s4 => exact HC1_0.out); rintro e w' ⟨rfl, ⟨nd, rfl⟩⟩; (try first | exact ⟨rfl, _, World.drewN_drewN _ _ _⟩ | exact ⟨rfl, _, Eq.trans (World.drewN_drewN _ _ _) (congrArg (World.drewN _) (Nat.add_assoc _ _ _))⟩)))
      repeat (go_quiet (first | (go_at_call 68; (with_reducible refine (spec_SamePath.calls k _ _ l0_0 _ _ l1_0 true _ ?s1 ?s2 ?s3 ?s4 A6.out).mono ?_); (case s1 => exact cC_ (Kd.C_below HR0_0.out HB.out)); (case s2 => exact HC0_0.out); (case s3 => exact cC_ (Kd.C_below HR1_0.out HB.out)); (case s4 => exact HC1_0.out); rintro e w' ⟨rfl, ⟨nd, rfl⟩⟩; (try first | exact ⟨rfl, _, World.drewN_drewN _ _ _⟩ | exact ⟨rfl, _, Eq.trans (World.drewN_drewN _ _ _) (congrArg (World.drewN _) (Nat.add_assoc _ _ _))⟩))); try go_wp2_with (first | (go_at_call 68; (with_reducible refine (spec_SamePath.calls k _ _ l0_0 _ _ l1_0 true _ ?s1 ?s2 ?s3 ?s4 A6.out).mono ?_); (case s1 => exact cC_ (Kd.C_below HR0_0.out HB.out)); (case s2 => exact HC0_0.out); (case s3 => exact cC_ (Kd.C_below HR1_0.out HB.out)); (case s4 => exact HC1_0.out); rintro e w' ⟨rfl, ⟨nd, rfl⟩⟩; (try first | exact ⟨rfl, _, World.drewN_drewN _ _ _⟩ | exact ⟨rfl, _, Eq.trans (World.drewN_drewN _ _ _) (congrArg (World.drewN _) (Nat.add_assoc _ _ _))⟩))))
      go_meet
      case rel => exact ⟨_, (true), rs_, H', ⟨by first | omega | exact Nat.le_refl _⟩, ⟨vb_ BK149.out⟩, ⟨vb_ BK150.out⟩, ⟨by repeat (first | (with_reducible first | exact HB.out | apply below_alloc | apply pw_below_drewN | apply below_drew1 | refine below_set ?_ GE149.out | refine below_set ?_ GE150.out) | exact HB.out)⟩⟩
    rw [if_pos c12] at H
    have c12b0 : (a0_2.toList == a1_2.toList) = true := beq_iff_eq.mpr c12
    have c12b1 : (a0_2.toList != a1_2.toList) = false := bne_eq_false_iff_eq.mpr c12
    clear c12
    by_cases c13 : a0_3 = a1_3
    rotate_left
    · rw [if_neg c13] at H
      have c13b0 : (a0_3 == a1_3) = false := beq_eq_false_iff_ne.mpr c13
      have c13b1 : (a0_3 != a1_3) = true := bne_iff_ne.mpr c13
      have H' := A_ H
      clear H
      have hnb17 := NB149_150.out
      have hnc17 := NB150_149.out
      obtain ⟨hcz18_0, hcz18_1, hcz18_2, hcz18_3, hcz18_4, hfz18_0, hfz18_1, hfz18_2, hfz18_3, hfz18_4⟩ := cz5_ BK149.out
      obtain ⟨hcz19_0, hcz19_1, hcz19_2, hcz19_3, hcz19_4, hfz19_0, hfz19_1, hfz19_2, hfz19_3, hfz19_4⟩ := cz5_ BK150.out
      go_wp2_with (first | (go_at_call 68; (with_reducible refine (spec_SamePath.calls k _ _ l0_0 _ _ l1_0 true _ ?s1 ?s2 ?s3 ?s4 A6.out).mono ?_); (case s1 => exact cC_ (Kd.C_below HR0_0.out HB.out)); (case s2 => exact HC0_0.out); (case s3 => exact cC_ (Kd.C_below HR1_0.out HB.out)); (case s4 => exact HC1_0.out); rintro e w' ⟨rfl, ⟨nd, rfl⟩⟩; (try first | exact ⟨rfl, _, World.drewN_drewN _ _ _⟩ | exact ⟨rfl, _, Eq.trans (World.drewN_drewN _ _ _) (congrArg (World.drewN _) (Nat.add_assoc _ _ _))⟩)))
      repeat (go_quiet (first | (go_at_call 68; (with_reducible refine (spec_SamePath.calls k _ _ l0_0 _ _ l1_0 true _ ?s1 ?s2 ?s3 ?s4 A6.out).mono ?_); (case s1 => exact cC_ (Kd.C_below HR0_0.out HB.out)); (case s2 => exact HC0_0.out); (case s3 => exact cC_ (Kd.C_below HR1_0.out HB.out)); (case s4 => exact HC1_0.out); rintro e w' ⟨rfl, ⟨nd, rfl⟩⟩; (try first | exact ⟨rfl, _, World.drewN_drewN _ _ _⟩ | exact ⟨rfl, _, Eq.trans (World.drewN_drewN _ _ _) (congrArg (World.drewN _) (Nat.add_assoc _ _ _))⟩))); try go_wp2_with (first | (go_at_call 68; (with_reducible refine (spec_SamePath.calls k _ _ l0_0 _ _ l1_0 true _ ?s1 ?s2 ?s3 ?s4 A6.out).mono ?_); (case s1 => exact cC_ (Kd.C_below HR0_0.out HB.out)); (case s2 => exact HC0_0.out); (case s3 => exact cC_ (Kd.C_below HR1_0.out HB.out)); (case s4 => exact HC1_0.out); rintro e w' ⟨rfl, ⟨nd, rfl⟩⟩; (try first | exact ⟨rfl, _, World.drewN_drewN _ _ _⟩ | exact ⟨rfl, _, Eq.trans (World.drewN_drewN _ _ _) (congrArg (World.drewN _) (Nat.add_assoc _ _ _))⟩))))
      go_meet
      case rel => exact ⟨_, (true), rs_, H', ⟨by first | omega | exact Nat.le_refl _⟩, ⟨vb_ BK149.out⟩, ⟨vb_ BK150.out⟩, ⟨by repeat (first | (with_reducible first | exact HB.out | apply below_alloc | apply pw_below_drewN | apply below_drew1 | refine below_set ?_ GE149.out | refine below_set ?_ GE150.out) | exact HB.out)⟩⟩
    rw [if_pos c13] at H
    have c13b0 : (a0_3 == a1_3) = true := beq_iff_eq.mpr c13
    have c13b1 : (a0_3 != a1_3) = false := bne_eq_false_iff_eq.mpr c13
    clear c13
    have H' := A_ H
    clear H
    have hnb14 := NB149_150.out
    have hnc14 := NB150_149.out
    obtain ⟨hcz15_0, hcz15_1, hcz15_2, hcz15_3, hcz15_4, hfz15_0, hfz15_1, hfz15_2, hfz15_3, hfz15_4⟩ := cz5_ BK149.out
    obtain ⟨hcz16_0, hcz16_1, hcz16_2, hcz16_3, hcz16_4, hfz16_0, hfz16_1, hfz16_2, hfz16_3, hfz16_4⟩ := cz5_ BK150.out
    go_wp2_with (first | (go_at_call 68; (with_reducible refine (spec_SamePath.calls k _ _ l0_0 _ _ l1_0 true _ ?s1 ?s2 ?s3 ?s4 A6.out).mono ?_); (case s1 => exact cC_ (Kd.C_below HR0_0.out HB.out)); (case s2 => exact HC0_0.out); (case s3 => exact cC_ (Kd.C_below HR1_0.out HB.out)); (case s4 => exact HC1_0.out); rintro e w' ⟨rfl, ⟨nd, rfl⟩⟩; (try first | exact ⟨rfl, _, World.drewN_drewN _ _ _⟩ | exact ⟨rfl, _, Eq.trans (World.drewN_drewN _ _ _) (congrArg (World.drewN _) (Nat.add_assoc _ _ _))⟩)))
    repeat (go_quiet (first | (go_at_call 68; (with_reducible refine (spec_SamePath.calls k _ _ l0_0 _ _ l1_0 true _ ?s1 ?s2 ?s3 ?s4 A6.out).mono ?_); (case s1 => exact cC_ (Kd.C_below HR0_0.out HB.out)); (case s2 => exact HC0_0.out); (case s3 => exact cC_ (Kd.C_below HR1_0.out HB.out)); (case s4 => exact HC1_0.out); rintro e w' ⟨rfl, ⟨nd, rfl⟩⟩; (try first | exact ⟨rfl, _, World.drewN_drewN _ _ _⟩ | exact ⟨rfl, _, Eq.trans (World.drewN_drewN _ _ _) (congrArg (World.drewN _) (Nat.add_assoc _ _ _))⟩))); try go_wp2_with (first | (go_at_call 68; (with_reducible refine (spec_SamePath.calls k _ _ l0_0 _ _ l1_0 true _ ?s1 ?s2 ?s3 ?s4 A6.out).mono ?_); (case s1 => exact cC_ (Kd.C_below HR0_0.out HB.out)); (case s2 => exact HC0_0.out); (case s3 => exact cC_ (Kd.C_below HR1_0.out HB.out)); (case s4 => exact HC1_0.out); rintro e w' ⟨rfl, ⟨nd, rfl⟩⟩; (try first | exact ⟨rfl, _, World.drewN_drewN _ _ _⟩ | exact ⟨rfl, _, Eq.trans (World.drewN_drewN _ _ _) (congrArg (World.drewN _) (Nat.add_assoc _ _ _))⟩))))
    go_meet
    case rel => exact ⟨_, (((l0_4.length : Int) != (l1_4.length : Int))), rs_, H', ⟨by first | omega | exact Nat.le_refl _⟩, ⟨vb_ BK149.out⟩, ⟨vb_ BK150.out⟩, ⟨by repeat (first | (with_reducible first | exact HB.out | apply below_alloc | apply pw_below_drewN | apply below_drew1 | refine below_set ?_ GE149.out | refine below_set ?_ GE150.out) | exact HB.out)⟩⟩
  · replace c7 := Bool.eq_false_iff.mpr c7
    subst c7
    rw [if_neg nf_] at H
    have H' := A_ H
    clear H
    have hnb23 := NB149_150.out
    have hnc23 := NB150_149.out
    obtain ⟨hcz24_0, hcz24_1, hcz24_2, hcz24_3, hcz24_4, hfz24_0, hfz24_1, hfz24_2, hfz24_3, hfz24_4⟩ := cz5_ BK149.out
    obtain ⟨hcz25_0, hcz25_1, hcz25_2, hcz25_3, hcz25_4, hfz25_0, hfz25_1, hfz25_2, hfz25_3, hfz25_4⟩ := cz5_ BK150.out
    go_wp2_with (first | (go_at_call 68; (with_reducible refine (spec_SamePath.calls k _ _ l0_0 _ _ l1_0 false _ ?s1 ?s2 ?s3 ?s4 A6.out).mono ?_); (case s1 => exact cC_ (Kd.C_below HR0_0.out HB.out)); (case s2 => exact HC0_0.out); (case s3 => exact cC_ (Kd.C_below HR1_0.out HB.out)); (case s4 => exact HC1_0.out); rintro e w' ⟨rfl, ⟨nd, rfl⟩⟩; (try first | exact ⟨rfl, _, World.drewN_drewN _ _ _⟩ | exact ⟨rfl, _, Eq.trans (World.drewN_drewN _ _ _) (congrArg (World.drewN _) (Nat.add_assoc _ _ _))⟩)))
    repeat (go_quiet (first | (go_at_call 68; (with_reducible refine (spec_SamePath.calls k _ _ l0_0 _ _ l1_0 false _ ?s1 ?s2 ?s3 ?s4 A6.out).mono ?_); (case s1 => exact cC_ (Kd.C_below HR0_0.out HB.out)); (case s2 => exact HC0_0.out); (case s3 => exact cC_ (Kd.C_below HR1_0.out HB.out)); (case s4 => exact HC1_0.out); rintro e w' ⟨rfl, ⟨nd, rfl⟩⟩; (try first | exact ⟨rfl, _, World.drewN_drewN _ _ _⟩ | exact ⟨rfl, _, Eq.trans (World.drewN_drewN _ _ _) (congrArg (World.drewN _) (Nat.add_assoc _ _ _))⟩))); try go_wp2_with (first | (go_at_call 68; (with_reducible refine (spec_SamePath.calls k _ _ l0_0 _ _ l1_0 false _ ?s1 ?s2 ?s3 ?s4 A6.out).mono ?_); (case s1 => exact cC_ (Kd.C_below HR0_0.out HB.out)); (case s2 => exact HC0_0.out); (case s3 => exact cC_ (Kd.C_below HR1_0.out HB.out)); (case s4 => exact HC1_0.out); rintro e w' ⟨rfl, ⟨nd, rfl⟩⟩; (try first | exact ⟨rfl, _, World.drewN_drewN _ _ _⟩ | exact ⟨rfl, _, Eq.trans (World.drewN_drewN _ _ _) (congrArg (World.drewN _) (Nat.add_assoc _ _ _))⟩))))
    go_meet
    case rel => exact ⟨_, (true), rs_, H', ⟨by first | omega | exact Nat.le_refl _⟩, ⟨vb_ BK149.out⟩, ⟨vb_ BK150.out⟩, ⟨by repeat (first | (with_reducible first | exact HB.out | apply below_alloc | apply pw_below_drewN | apply below_drew1 | refine below_set ?_ GE149.out | refine below_set ?_ GE150.out) | exact HB.out)⟩⟩
 case rest =>
  clear HC3
  try clear c1
  try clear c2
  try clear p2
  try clear c6
  try clear c7
  try clear c8
  try clear c8b0
  try clear c8b1
  try clear c8b2
  try clear c9
  try clear c12
  try clear c12b0
  try clear c12b1
  try clear c13
  try clear c13b0
  try clear c13b1
  try clear c14
  try clear c17
  try clear c20
  try clear c23
  try clear hcz10_0
  try clear hcz10_1
  try clear hcz10_2
  try clear hcz10_3
  try clear hcz10_4
  try clear hcz11_0
  try clear hcz11_1
  try clear hcz11_2
  try clear hcz11_3
  try clear hcz11_4
  try clear hcz15_0
  try clear hcz15_1
  try clear hcz15_2
  try clear hcz15_3
  try clear hcz15_4
  try clear hcz16_0
  try clear hcz16_1
  try clear hcz16_2
  try clear hcz16_3
  try clear hcz16_4
  try clear hcz18_0
  try clear hcz18_1
  try clear hcz18_2
  try clear hcz18_3
  try clear hcz18_4
  try clear hcz19_0
  try clear hcz19_1
  try clear hcz19_2
  try clear hcz19_3
  try clear hcz19_4
  try clear hcz21_0
  try clear hcz21_1
  try clear hcz21_2
  try clear hcz21_3
  try clear hcz21_4
  try clear hcz22_0
  try clear hcz22_1
  try clear hcz22_2
  try clear hcz22_3
  try clear hcz22_4
  try clear hcz24_0
  try clear hcz24_1
  try clear hcz24_2
  try clear hcz24_3
  try clear hcz24_4
  try clear hcz25_0
  try clear hcz25_1
  try clear hcz25_2
  try clear hcz25_3
  try clear hcz25_4
  try clear hfz10_0
  try clear hfz10_1
  try clear hfz10_2
  try clear hfz10_3
  try clear hfz10_4
  try clear hfz11_0
  try clear hfz11_1
  try clear hfz11_2
  try clear hfz11_3
  try clear hfz11_4
  try clear hfz15_0
  try clear hfz15_1
  try clear hfz15_2
  try clear hfz15_3
  try clear hfz15_4
  try clear hfz16_0
  try clear hfz16_1
  try clear hfz16_2
  try clear hfz16_3
  try clear hfz16_4
  try clear hfz18_0
  try clear hfz18_1
  try clear hfz18_2
  try clear hfz18_3
  try clear hfz18_4
  try clear hfz19_0
  try clear hfz19_1
  try clear hfz19_2
  try clear hfz19_3
  try clear hfz19_4
  try clear hfz21_0
  try clear hfz21_1
  try clear hfz21_2
  try clear hfz21_3
  try clear hfz21_4
  try clear hfz22_0
  try clear hfz22_1
  try clear hfz22_2
  try clear hfz22_3
  try clear hfz22_4
  try clear hfz24_0
  try clear hfz24_1
  try clear hfz24_2
  try clear hfz24_3
  try clear hfz24_4
  try clear hfz25_0
  try clear hfz25_1
  try clear hfz25_2
  try clear hfz25_3
  try clear hfz25_4
  obtain ⟨kq, x41_2, rfl, HA, HJ2, BK149, BK150, HB⟩ := hcut
  cases kq with
  | zero => exact absurd HA.out (by simp [spec_l15SameRes.j0])
  | succ kj2 =>
   have H := HA.out
   clear HA
   simp only [spec_l15SameRes.j0] at H
   by_cases c26 : x41_2 = true
   · subst c26
     rw [if_pos rfl] at H
     obtain rfl := si_ H
     go_wp2
     repeat (go_quiet (fail); try go_wp2)
     go_ret
     exact ⟨rr_, by repeat (first | (with_reducible first | exact HB.out | apply below_alloc | apply pw_below_drewN | apply below_drew1 | refine below_set ?_ GE149.out | refine below_set ?_ GE150.out) | exact HB.out)⟩
   · replace c26 := Bool.eq_false_iff.mpr c26
     subst c26
     rw [if_neg nf_] at H
     have H' := A_ H
     clear H
     go_wp2
     repeat (go_quiet (fail); try go_wp2)
     go_loopg [5] kj2 (fun kq v5 w' => ∃ (x5_2 : Int), v5 = .int .i64 x5_2 ∧ Aside0 (spec_l15SameRes.l0 kq x5_2 l0_0 a0_1 a0_2 a0_3 l0_4 l1_0 a1_1 a1_2 a1_3 l1_4 = some r) ∧ Aside0 (kq ≤ kj2) ∧ Aside0 (w'.heap[gb149]? = some (.cells #[(.slice A0_0 l0_0.length c0_0), .bool a0_1, .string a0_2, .int .i64 a0_3, (.slice A0_4 l0_4.length c0_4)] 79 (0, 0))) ∧ Aside0 (w'.heap[gb150]? = some (.cells #[(.slice A1_0 l1_0.length c1_0), .bool a1_1, .string a1_2, .int .i64 a1_3, (.slice A1_4 l1_4.length c1_4)] 79 (0, 0))) ∧ Aside0 (Below w.heap.size w w'))
     case atStart => exact ⟨(0), rs_, H', ⟨Nat.le_refl _⟩, ⟨vb_ BK149.out⟩, ⟨vb_ BK150.out⟩, ⟨by repeat (first | (with_reducible first | exact HB.out | apply below_alloc | apply pw_below_drewN | apply below_drew1 | refine below_set ?_ GE149.out | refine below_set ?_ GE150.out) | exact HB.out)⟩⟩
     case round =>
      clear H'
      try clear c1
      try clear c2
      try clear p2
      try clear c6
      try clear c7
      try clear c8
      try clear c8b0
      try clear c8b1
      try clear c8b2
      try clear c9
      try clear c12
      try clear c12b0
      try clear c12b1
      try clear c13
      try clear c13b0
      try clear c13b1
      try clear c14
      try clear c17
      try clear c20
      try clear c23
      try clear c26
      try clear hcz10_0
      try clear hcz10_1
      try clear hcz10_2
      try clear hcz10_3
      try clear hcz10_4
      try clear hcz11_0
      try clear hcz11_1
      try clear hcz11_2
      try clear hcz11_3
      try clear hcz11_4
      try clear hcz15_0
      try clear hcz15_1
      try clear hcz15_2
      try clear hcz15_3
      try clear hcz15_4
      try clear hcz16_0
      try clear hcz16_1
      try clear hcz16_2
      try clear hcz16_3
      try clear hcz16_4
      try clear hcz18_0
      try clear hcz18_1
      try clear hcz18_2
      try clear hcz18_3
      try clear hcz18_4
      try clear hcz19_0
      try clear hcz19_1
      try clear hcz19_2
      try clear hcz19_3
      try clear hcz19_4
      try clear hcz21_0
      try clear hcz21_1
      try clear hcz21_2
      try clear hcz21_3
      try clear hcz21_4
      try clear hcz22_0
      try clear hcz22_1
      try clear hcz22_2
      try clear hcz22_3
      try clear hcz22_4
      try clear hcz24_0
      try clear hcz24_1
      try clear hcz24_2
      try clear hcz24_3
      try clear hcz24_4
      try clear hcz25_0
      try clear hcz25_1
      try clear hcz25_2
      try clear hcz25_3
      try clear hcz25_4
      try clear hfz10_0
      try clear hfz10_1
      try clear hfz10_2
      try clear hfz10_3
      try clear hfz10_4
      try clear hfz11_0
      try clear hfz11_1
      try clear hfz11_2
      try clear hfz11_3
      try clear hfz11_4
      try clear hfz15_0
      try clear hfz15_1
      try clear hfz15_2
      try clear hfz15_3
      try clear hfz15_4
      try clear hfz16_0
      try clear hfz16_1
      try clear hfz16_2
      try clear hfz16_3
      try clear hfz16_4
      try clear hfz18_0
      try clear hfz18_1
      try clear hfz18_2
      try clear hfz18_3
      try clear hfz18_4
      try clear hfz19_0
      try clear hfz19_1
      try clear hfz19_2
      try clear hfz19_3
      try clear hfz19_4
      try clear hfz21_0
      try clear hfz21_1
      try clear hfz21_2
      try clear hfz21_3
      try clear hfz21_4
      try clear hfz22_0
      try clear hfz22_1
      try clear hfz22_2
      try clear hfz22_3
      try clear hfz22_4
      try clear hfz24_0
      try clear hfz24_1
      try clear hfz24_2
      try clear hfz24_3
      try clear hfz24_4
      try clear hfz25_0
      try clear hfz25_1
      try clear hfz25_2
      try clear hfz25_3
      try clear hfz25_4
      try clear p2
      obtain ⟨x5_2, rfl, HA, HK2, BK149, BK150, HB⟩ := hrel
      cases gk with
      | zero => exact absurd HA.out (by simp [spec_l15SameRes.l0])
      | succ k2 =>
       have H := HA.out
       clear HA
       simp only [spec_l15SameRes.l0] at H
       by_cases c27 : x5_2 < (l0_4.length : Int)
       rotate_left
       · rw [if_neg c27] at H
         have c27b0 : decide (x5_2 < (l0_4.length : Int)) = false := decide_eq_false c27
         clear c27
         obtain rfl := si_ H
         have hnb37 := NB149_150.out
         have hnc37 := NB150_149.out
         have hcz38_0 : wr.cell? ⟨gb149, 0, none⟩ = some (.slice A0_0 l0_0.length c0_0) := bl_ BK149.out 0
         have hcz38_1 : wr.cell? ⟨gb149, 1, none⟩ = some (.bool a0_1) := bl_ BK149.out 1
         have hcz38_2 : wr.cell? ⟨gb149, 2, none⟩ = some (.string a0_2) := bl_ BK149.out 2
         have hcz38_3 : wr.cell? ⟨gb149, 3, none⟩ = some (.int .i64 a0_3) := bl_ BK149.out 3
         have hcz38_4 : wr.cell? ⟨gb149, 4, none⟩ = some (.slice A0_4 l0_4.length c0_4) := bl_ BK149.out 4
         have hfz38_0 := blk_frozen BK149.out 0
         have hfz38_1 := blk_frozen BK149.out 1
         have hfz38_2 := blk_frozen BK149.out 2
         have hfz38_3 := blk_frozen BK149.out 3
         have hfz38_4 := blk_frozen BK149.out 4
         go_wp2
         repeat (go_quiet (fail); try go_wp2)
         go_ret
         exact ⟨rr_, by repeat (first | (with_reducible first | exact HB.out | apply below_alloc | apply pw_below_drewN | apply below_drew1 | refine below_set ?_ GE149.out | refine below_set ?_ GE150.out) | exact HB.out)⟩
       rw [if_pos c27] at H
       have c27b0 : decide (x5_2 < (l0_4.length : Int)) = true := decide_eq_true c27
       clear c27
       by_cases c28 : 0 ≤ x5_2
       rotate_left
       · exact absurd H (by rw [if_neg c28]; simp)
       rw [if_pos c28] at H
       have c28b0 : decide (0 ≤ x5_2) = true := decide_eq_true c28
       clear c28
       by_cases c29 : x5_2 < (l1_4.length : Int)
       rotate_left
       · exact absurd H (by rw [if_neg c29]; simp)
       rw [if_pos c29] at H
       have c29b0 : decide (x5_2 < (l1_4.length : Int)) = true := decide_eq_true c29
       clear c29
       by_cases c30 : (!((((rd_T97 l0_4 x5_2).f0).toList) == (((rd_T97 l1_4 x5_2).f0).toList)) || (!((((rd_T97 l0_4 x5_2).f1).toList) == (((rd_T97 l1_4 x5_2).f1).toList)) || (!((((rd_T97 l0_4 x5_2).f2).toList) == (((rd_T97 l1_4 x5_2).f2).toList))))) = true
       · rw [if_pos c30] at H
         have c30b0 : (!((((rd_T97 l0_4 x5_2).f0).toList) == (((rd_T97 l1_4 x5_2).f0).toList)) || (!((((rd_T97 l0_4 x5_2).f1).toList) == (((rd_T97 l1_4 x5_2).f1).toList)) || (!((((rd_T97 l0_4 x5_2).f2).toList) == (((rd_T97 l1_4 x5_2).f2).toList))))) = true := c30
         clear c30
         obtain rfl := si_ H
         have hnb31 := NB149_150.out
         have hnc31 := NB150_149.out
         have hcz32_0 : wr.cell? ⟨gb149, 0, none⟩ = some (.slice A0_0 l0_0.length c0_0) := bl_ BK149.out 0
         have hcz32_1 : wr.cell? ⟨gb149, 1, none⟩ = some (.bool a0_1) := bl_ BK149.out 1
         have hcz32_2 : wr.cell? ⟨gb149, 2, none⟩ = some (.string a0_2) := bl_ BK149.out 2
         have hcz32_3 : wr.cell? ⟨gb149, 3, none⟩ = some (.int .i64 a0_3) := bl_ BK149.out 3
         have hcz32_4 : wr.cell? ⟨gb149, 4, none⟩ = some (.slice A0_4 l0_4.length c0_4) := bl_ BK149.out 4
         have hfz32_0 := blk_frozen BK149.out 0
         have hfz32_1 := blk_frozen BK149.out 1
         have hfz32_2 := blk_frozen BK149.out 2
         have hfz32_3 := blk_frozen BK149.out 3
         have hfz32_4 := blk_frozen BK149.out 4
         have p152 : 0 ≤ (x5_2 : Int) := od_
         have q152 : x5_2 < (l0_4.length : Int) := od_
         obtain ⟨ad152, e152, hx152_0, hx152_1, hx152_2⟩ := at_T97 HR0_4.out x5_2 p152 q152
         cases e152
         replace hx152_0 := bc_ HB.out hx152_0
         replace hx152_1 := bc_ HB.out hx152_1
         replace hx152_2 := bc_ HB.out hx152_2
         replace p152 := eq_true p152
         replace q152 := eq_true q152
         have hcz33_0 : wr.cell? ⟨gb150, 0, none⟩ = some (.slice A1_0 l1_0.length c1_0) := bl_ BK150.out 0
         have hcz33_1 : wr.cell? ⟨gb150, 1, none⟩ = some (.bool a1_1) := bl_ BK150.out 1
         have hcz33_2 : wr.cell? ⟨gb150, 2, none⟩ = some (.string a1_2) := bl_ BK150.out 2
         have hcz33_3 : wr.cell? ⟨gb150, 3, none⟩ = some (.int .i64 a1_3) := bl_ BK150.out 3
         have hcz33_4 : wr.cell? ⟨gb150, 4, none⟩ = some (.slice A1_4 l1_4.length c1_4) := bl_ BK150.out 4
         have hfz33_0 := blk_frozen BK150.out 0
         have hfz33_1 := blk_frozen BK150.out 1
         have hfz33_2 := blk_frozen BK150.out 2
         have hfz33_3 := blk_frozen BK150.out 3
         have hfz33_4 := blk_frozen BK150.out 4
         have p153 : 0 ≤ (x5_2 : Int) := od_
         have q153 : x5_2 < (l1_4.length : Int) := od_
         obtain ⟨ad153, e153, hx153_0, hx153_1, hx153_2⟩ := at_T97 HR1_4.out x5_2 p153 q153
         cases e153
         replace hx153_0 := bc_ HB.out hx153_0
         replace hx153_1 := bc_ HB.out hx153_1
         replace hx153_2 := bc_ HB.out hx153_2
         replace p153 := eq_true p153
         replace q153 := eq_true q153
         go_wp2
         repeat (go_quiet (fail); try go_wp2)
         go_ret
         exact ⟨rr_, by repeat (first | (with_reducible first | exact HB.out | apply below_alloc | apply pw_below_drewN | apply below_drew1 | refine below_set ?_ GE149.out | refine below_set ?_ GE150.out) | exact HB.out)⟩
       rw [if_neg c30] at H
       have c30b0 : (!((((rd_T97 l0_4 x5_2).f0).toList) == (((rd_T97 l1_4 x5_2).f0).toList)) || (!((((rd_T97 l0_4 x5_2).f1).toList) == (((rd_T97 l1_4 x5_2).f1).toList)) || (!((((rd_T97 l0_4 x5_2).f2).toList) == (((rd_T97 l1_4 x5_2).f2).toList))))) = false := by simpa using c30
       clear c30
       have H' := A_ H
       clear H
       have hnb34 := NB149_150.out
       have hnc34 := NB150_149.out
       have hcz35_0 : wr.cell? ⟨gb149, 0, none⟩ = some (.slice A0_0 l0_0.length c0_0) := bl_ BK149.out 0
       have hcz35_1 : wr.cell? ⟨gb149, 1, none⟩ = some (.bool a0_1) := bl_ BK149.out 1
       have hcz35_2 : wr.cell? ⟨gb149, 2, none⟩ = some (.string a0_2) := bl_ BK149.out 2
       have hcz35_3 : wr.cell? ⟨gb149, 3, none⟩ = some (.int .i64 a0_3) := bl_ BK149.out 3
       have hcz35_4 : wr.cell? ⟨gb149, 4, none⟩ = some (.slice A0_4 l0_4.length c0_4) := bl_ BK149.out 4
       have hfz35_0 := blk_frozen BK149.out 0
       have hfz35_1 := blk_frozen BK149.out 1
       have hfz35_2 := blk_frozen BK149.out 2
       have hfz35_3 := blk_frozen BK149.out 3
       have hfz35_4 := blk_frozen BK149.out 4
       have p152 : 0 ≤ (x5_2 : Int) := od_
       have q152 : x5_2 < (l0_4.length : Int) := od_
       obtain ⟨ad152, e152, hx152_0, hx152_1, hx152_2⟩ := at_T97 HR0_4.out x5_2 p152 q152
       cases e152
       replace hx152_0 := bc_ HB.out hx152_0
       replace hx152_1 := bc_ HB.out hx152_1
       replace hx152_2 := bc_ HB.out hx152_2
       replace p152 := eq_true p152
       replace q152 := eq_true q152
       have hcz36_0 : wr.cell? ⟨gb150, 0, none⟩ = some (.slice A1_0 l1_0.length c1_0) := bl_ BK150.out 0
       have hcz36_1 : wr.cell? ⟨gb150, 1, none⟩ = some (.bool a1_1) := bl_ BK150.out 1
       have hcz36_2 : wr.cell? ⟨gb150, 2, none⟩ = some (.string a1_2) := bl_ BK150.out 2
       have hcz36_3 : wr.cell? ⟨gb150, 3, none⟩ = some (.int .i64 a1_3) := bl_ BK150.out 3
       have hcz36_4 : wr.cell? ⟨gb150, 4, none⟩ = some (.slice A1_4 l1_4.length c1_4) := bl_ BK150.out 4
       have hfz36_0 := blk_frozen BK150.out 0
       have hfz36_1 := blk_frozen BK150.out 1
       have hfz36_2 := blk_frozen BK150.out 2
       have hfz36_3 := blk_frozen BK150.out 3
       have hfz36_4 := blk_frozen BK150.out 4
       have p153 : 0 ≤ (x5_2 : Int) := od_
       have q153 : x5_2 < (l1_4.length : Int) := od_
       obtain ⟨ad153, e153, hx153_0, hx153_1, hx153_2⟩ := at_T97 HR1_4.out x5_2 p153 q153
       cases e153
       replace hx153_0 := bc_ HB.out hx153_0
       replace hx153_1 := bc_ HB.out hx153_1
       replace hx153_2 := bc_ HB.out hx153_2
       replace p153 := eq_true p153
       replace q153 := eq_true q153
       go_wp2
       repeat (go_quiet (fail); try go_wp2)
       go_roundg k2
       case measure => have := HJ2.out; have := HK2.out; omega
       case rel => exact ⟨(wrap64 (x5_2 + 1)), rs_, H', ⟨by have := HJ2.out; have := HK2.out; omega⟩, ⟨vb_ BK149.out⟩, ⟨vb_ BK150.out⟩, ⟨by repeat (first | (with_reducible first | exact HB.out | apply below_alloc | apply pw_below_drewN | apply below_drew1 | refine below_set ?_ GE149.out | refine below_set ?_ GE150.out) | exact HB.out)⟩⟩
end Go.Proofs.Ytigoeooelfeopaa.Q
