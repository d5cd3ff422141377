-- PRINTED by print.py (a twelfth state) out of the translation. Not trusted: Lean checks it.
import Derived.Test.YtegkokdncakadaaGreatDoorVParseNodeG22
namespace Go.Proofs.YtegkokdncakadaaGreatDoor.Q
open Go.RowKit Go.Proofs.YtegkokdncakadaaGreatDoorW.PrintWords Go.Proofs.YtegkokdncakadaaGreatDoorW.PrintLast Go.Proofs.YtegkokdncakadaaGreatDoorW.PrintMore
attribute [local go_sem] max2_int min2_int max_two min_two max_three min_three max_four min_four   -- for this text's walks alone
set_option linter.unusedVariables false
set_option linter.unusedSimpArgs false
mutual
def spec_l7Mark.j1 : Nat → ByteArray → Int → Int → ByteArray → ByteArray → Bool → ByteArray → Option (Int × ByteArray × ByteArray × Bool × ByteArray × Int)
 | 0, _, _, _, _, _, _, _ => none
 | k + 1, x0, x7, x139000, x139001, x139002, x139003, x139004 => (spec_l7At.f x0 x7 (⟨#[62]⟩ : ByteArray)).bind fun t145 => (if t145 = true then (some (x139000, x139001, x139002, x139003, x139004, wrap64 (x7 + 1))) else ((spec_l7At.f x0 x7 (⟨#[47, 62]⟩ : ByteArray)).bind fun t146 => (if t146 = true then (some (3, x139001, x139002, x139003, x139004, wrap64 (x7 + 2))) else (some (0, (⟨#[]⟩ : ByteArray), (⟨#[]⟩ : ByteArray), false, (⟨#[]⟩ : ByteArray), (-1))))))
def spec_l7Mark.l0 : Nat → ByteArray → Int → Int → Int → ByteArray → ByteArray → Bool → ByteArray → Option (Int × ByteArray × ByteArray × Bool × ByteArray × Int)
 | 0, _, _, _, _, _, _, _, _ => none
 | k + 1, x0, x7, x9, x139000, x139001, x139002, x139003, x139004 => if x7 < (x0.size : Int) then (if 0 ≤ x7 then (if (bt x0 x7) = 34 then (if 0 ≤ x9 then (if x9 ≤ x7 then (if x7 ≤ (x0.size : Int) then ((spec_Unescape.f k (x0.extract (x9 : Int).toNat (x7 : Int).toNat)).bind fun bt141 => (if bt141.2 = true then (if x7 = (x0.size : Int) then (some (0, (⟨#[]⟩ : ByteArray), (⟨#[]⟩ : ByteArray), false, (⟨#[]⟩ : ByteArray), (-1))) else (if (bt141.1.size : Int) > 20 then (some (0, (⟨#[]⟩ : ByteArray), (⟨#[]⟩ : ByteArray), false, (⟨#[]⟩ : ByteArray), (-1))) else (spec_l7Mark.j1 k x0 (wrap64 (x7 + 1)) x139000 x139001 bt141.1 true x139004))) else (some (0, (⟨#[]⟩ : ByteArray), (⟨#[]⟩ : ByteArray), false, (⟨#[]⟩ : ByteArray), (-1))))) else (none)) else (none)) else (none)) else (spec_l7Mark.l0 k x0 (wrap64 (x7 + 1)) x9 x139000 x139001 x139002 x139003 x139004)) else (none)) else (if 0 ≤ x9 then (if x9 ≤ x7 then (if x7 ≤ (x0.size : Int) then ((spec_Unescape.f k (x0.extract (x9 : Int).toNat (x7 : Int).toNat)).bind fun bt143 => (if bt143.2 = true then (if x7 = (x0.size : Int) then (some (0, (⟨#[]⟩ : ByteArray), (⟨#[]⟩ : ByteArray), false, (⟨#[]⟩ : ByteArray), (-1))) else (if (bt143.1.size : Int) > 20 then (some (0, (⟨#[]⟩ : ByteArray), (⟨#[]⟩ : ByteArray), false, (⟨#[]⟩ : ByteArray), (-1))) else (spec_l7Mark.j1 k x0 (wrap64 (x7 + 1)) x139000 x139001 bt143.1 true x139004))) else (some (0, (⟨#[]⟩ : ByteArray), (⟨#[]⟩ : ByteArray), false, (⟨#[]⟩ : ByteArray), (-1))))) else (none)) else (none)) else (none))
end
def spec_l7Mark.f (k : Nat) (a0 : ByteArray) (a1 : Int) : Option (Int × ByteArray × ByteArray × Bool × ByteArray × Int) := (spec_l7At.f a0 a1 (⟨#[60, 47]⟩ : ByteArray)).bind fun t133 => (if t133 = true then ((spec_l7Name.f k a0 (wrap64 (a1 + 2))).bind fun t134 => ((spec_l7At.f a0 t134 (⟨#[62]⟩ : ByteArray)).bind fun t135 => (if t135 = true then (if 0 ≤ (wrap64 (a1 + 2)) then (if (wrap64 (a1 + 2)) ≤ t134 then (if t134 ≤ (a0.size : Int) then ((spec_SmallName.f k (a0.extract ((wrap64 (a1 + 2)) : Int).toNat (t134 : Int).toNat)).bind fun t136 => (if t136 = true then (some (2, a0.extract ((wrap64 (a1 + 2)) : Int).toNat (t134 : Int).toNat, (⟨#[]⟩ : ByteArray), false, (⟨#[]⟩ : ByteArray), wrap64 (t134 + 1))) else (some (0, (⟨#[]⟩ : ByteArray), (⟨#[]⟩ : ByteArray), false, (⟨#[]⟩ : ByteArray), (-1))))) else (none)) else (none)) else (none)) else (some (0, (⟨#[]⟩ : ByteArray), (⟨#[]⟩ : ByteArray), false, (⟨#[]⟩ : ByteArray), (-1)))))) else ((spec_l7Name.f k a0 (wrap64 (a1 + 1))).bind fun t137 => (if 0 ≤ (wrap64 (a1 + 1)) then (if (wrap64 (a1 + 1)) ≤ t137 then (if t137 ≤ (a0.size : Int) then ((spec_SmallName.f k (a0.extract ((wrap64 (a1 + 1)) : Int).toNat (t137 : Int).toNat)).bind fun t139 => (if t139 = true then ((spec_l7At.f a0 t137 (⟨#[32, 120, 109, 108, 110, 115, 61, 34]⟩ : ByteArray)).bind fun t140 => (if t140 = true then (spec_l7Mark.l0 k a0 (wrap64 (t137 + 8)) (wrap64 (t137 + 8)) 1 (a0.extract ((wrap64 (a1 + 1)) : Int).toNat (t137 : Int).toNat) (⟨#[]⟩ : ByteArray) false (⟨#[]⟩ : ByteArray)) else (spec_l7Mark.j1 k a0 t137 1 (a0.extract ((wrap64 (a1 + 1)) : Int).toNat (t137 : Int).toNat) (⟨#[]⟩ : ByteArray) false (⟨#[]⟩ : ByteArray)))) else (some (0, (⟨#[]⟩ : ByteArray), (⟨#[]⟩ : ByteArray), false, (⟨#[]⟩ : ByteArray), (-1))))) else (none)) else (none)) else (none))))
set_option maxHeartbeats 8000000 in
set_option maxRecDepth 100000 in
theorem spec_l7Mark.calls (k : Nat) (a0 : ByteArray) (a1 : Int) (r1 : Int) (r2 : ByteArray) (r3 : ByteArray) (r4 : Bool) (r5 : ByteArray) (r6 : Int) (w : World) (h : spec_l7Mark.f k a0 a1 = some (r1, r2, r3, r4, r5, r6)) :
 Calls Tryz.prog 57 #[.string a0, .int .i64 a1] w fun e w' => e = .returned (.tuple #[.agg #[.int .i64 r1, .string r2, .string r3, .bool r4, .string r5], .int .i64 r6]) ∧ Below w.heap.size w w' := by
 have hu82 := Tryz.underlying82
 have HB := A_ (Below.refl w.heap.size w)
 have H : ((spec_l7At.f a0 a1 (⟨#[60, 47]⟩ : ByteArray)).bind fun t8d => (if t8d = true then ((spec_l7Name.f k a0 (wrap64 (a1 + 2))).bind fun t2d => ((spec_l7At.f a0 t2d (⟨#[62]⟩ : ByteArray)).bind fun t9d => (if t9d = true then (if 0 ≤ (wrap64 (a1 + 2)) then (if (wrap64 (a1 + 2)) ≤ t2d then (if t2d ≤ (a0.size : Int) then ((spec_SmallName.f k (a0.extract ((wrap64 (a1 + 2)) : Int).toNat (t2d : Int).toNat)).bind fun t6d => (if t6d = true then (some (2, a0.extract ((wrap64 (a1 + 2)) : Int).toNat (t2d : Int).toNat, (⟨#[]⟩ : ByteArray), false, (⟨#[]⟩ : ByteArray), wrap64 (t2d + 1))) else (some (0, (⟨#[]⟩ : ByteArray), (⟨#[]⟩ : ByteArray), false, (⟨#[]⟩ : ByteArray), (-1))))) else (none)) else (none)) else (none)) else (some (0, (⟨#[]⟩ : ByteArray), (⟨#[]⟩ : ByteArray), false, (⟨#[]⟩ : ByteArray), (-1)))))) else ((spec_l7Name.f k a0 (wrap64 (a1 + 1))).bind fun t1d => (if 0 ≤ (wrap64 (a1 + 1)) then (if (wrap64 (a1 + 1)) ≤ t1d then (if t1d ≤ (a0.size : Int) then ((spec_SmallName.f k (a0.extract ((wrap64 (a1 + 1)) : Int).toNat (t1d : Int).toNat)).bind fun t7d => (if t7d = true then ((spec_l7At.f a0 t1d (⟨#[32, 120, 109, 108, 110, 115, 61, 34]⟩ : ByteArray)).bind fun t5d => (if t5d = true then (spec_l7Mark.l0 k a0 (wrap64 (t1d + 8)) (wrap64 (t1d + 8)) 1 (a0.extract ((wrap64 (a1 + 1)) : Int).toNat (t1d : Int).toNat) (⟨#[]⟩ : ByteArray) false (⟨#[]⟩ : ByteArray)) else (spec_l7Mark.j1 k a0 t1d 1 (a0.extract ((wrap64 (a1 + 1)) : Int).toNat (t1d : Int).toNat) (⟨#[]⟩ : ByteArray) false (⟨#[]⟩ : ByteArray)))) else (some (0, (⟨#[]⟩ : ByteArray), (⟨#[]⟩ : ByteArray), false, (⟨#[]⟩ : ByteArray), (-1))))) else (none)) else (none)) else (none))))) = some (r1, r2, r3, r4, r5, r6) := h
 clear h
 obtain ⟨t8d, A3, H⟩ := bo_ H
 (try dsimp only at H)
 by_cases c4 : t8d = true
 · subst c4
   rw [if_pos rfl] at H
   obtain ⟨t2d, A5, H⟩ := bo_ H
   (try dsimp only at H)
   obtain ⟨t9d, A6, H⟩ := bo_ H
   (try dsimp only at H)
   by_cases c7 : t9d = true
   · subst c7
     rw [if_pos rfl] at H
     obtain ⟨ji8, hji8⟩ : ∃ j_ : Int, (wrap64 (a1 + 2)) = j_ := ⟨_, rfl⟩
     replace H : (if 0 ≤ (ji8) then (if (ji8) ≤ t2d then (if t2d ≤ (a0.size : Int) then ((spec_SmallName.f k (a0.extract ((ji8) : Int).toNat (t2d : Int).toNat)).bind fun t6d => (if t6d = true then (some (2, a0.extract ((ji8) : Int).toNat (t2d : Int).toNat, (⟨#[]⟩ : ByteArray), false, (⟨#[]⟩ : ByteArray), wrap64 (t2d + 1))) else (some (0, (⟨#[]⟩ : ByteArray), (⟨#[]⟩ : ByteArray), false, (⟨#[]⟩ : ByteArray), (-1))))) else (none)) else (none)) else (none)) = some (r1, r2, r3, r4, r5, r6) := by first | (rw [hji8] at H; exact H) | (simp only [hji8] at H ⊢; exact H)
     (try rw [hji8] at A3)
     (try rw [hji8] at A5)
     (try rw [hji8] at A6)
     have hji8w : (IntKind.i64.wrap (a1 + 2)) = ji8 := (i64_w _).trans hji8
     by_cases c9 : 0 ≤ (ji8)
     rotate_left
     · exact absurd H (by rw [if_neg c9]; simp)
     rw [if_pos c9] at H
     have c9b0 := eq_true c9
     have c9b1 := decide_eq_true c9
     clear c9
     by_cases c10 : (ji8) ≤ t2d
     rotate_left
     · exact absurd H (by rw [if_neg c10]; simp)
     rw [if_pos c10] at H
     have c10b0 := eq_true c10
     have c10b1 := decide_eq_true c10
     clear c10
     by_cases c11 : t2d ≤ (a0.size : Int)
     rotate_left
     · exact absurd H (by rw [if_neg c11]; simp)
     rw [if_pos c11] at H
     have c11b0 := eq_true c11
     have c11b1 := decide_eq_true c11
     clear c11
     obtain ⟨t6d, A12, H⟩ := bo_ H
     (try dsimp only at H)
     by_cases c13 : t6d = true
     · subst c13
       rw [if_pos rfl] at H
       have c14b0 := eq_true (od_ : 0 ≤ (ji8))
       have c15b0 := eq_true (od_ : (ji8) ≤ t2d)
       have c16b0 := eq_true (od_ : t2d ≤ (a0.size : Int))
       simp only [Option.some.injEq, Prod.mk.injEq] at H
       obtain ⟨rfl, rfl, rfl, rfl, rfl, rfl⟩ := H
       go_enter Tryz.func57, Tryz.ntmps57
       go_wp2_with (first | ((with_reducible refine gd_ (N := 4) rfl ?_); (try (refine gate_guard (by rfl) ?_; dsimp only)); refine bx_ (N := 4) (cs := #[.int .i64 0, .string (⟨#[]⟩ : ByteArray), .string (⟨#[]⟩ : ByteArray), .bool false, .string (⟨#[]⟩ : ByteArray)]) (t := 82) ?_; intro gb98 hg w17 hbox hb; have BK98 := A_ (hbox); have GW98 := A_ (ge_ hg bB_ : w.heap.size ≤ gb98); have GE98 := A_ (ge_ hg bB_ : w.heap.size ≤ gb98); replace HB := A_ (below_step bB_ hb); clear hb hbox hg) | ((with_reducible refine gc_ (f := 77) rfl ?_); refine gL_ (some 14) Tryz.func77 #[.string a0, .int .i64 a1, .string (⟨#[60, 47]⟩ : ByteArray)] ?_; (with_reducible refine (spec_l7At.calls a0 a1 (⟨#[60, 47]⟩ : ByteArray) true _ A3.out).mono ?_); rintro e w' ⟨rfl, ⟨nd, rfl⟩⟩; refine ⟨_, rfl, ?_⟩; (try (rw [drewN_self w17]; generalize hq_ : World.drewN w17 _ = w17; have n0_ : Aside0 (w17.heap[gb98]? = some (.cells #[.int .i64 0, .string (⟨#[]⟩ : ByteArray), .string (⟨#[]⟩ : ByteArray), .bool false, .string (⟨#[]⟩ : ByteArray)] 82 (0, 0))) := ⟨by rw [← hq_]; exact (vb_ BK98.out)⟩; have n1_ : Aside0 (Below w.heap.size w w17) := ⟨by rw [← hq_]; exact (bG_ GE98.out)⟩; clear BK98 HB hq_; have BK98 := n0_; have HB := n1_; clear n0_ n1_))) | ((with_reducible refine gc_ (f := 78) rfl ?_); refine goesL_ (some 18) rfl rfl Tryz.func78 (by kernel_rfl) rfl #[.string a0, .int .i64 ji8] rfl (by (try simp only [List.map_toArray, List.map_cons, List.map_nil]); first | done | (simp only [hji8]; rfl) | rfl | (simp only [List.length_drop, List.length_take]; rfl)) ?_; (with_reducible refine (spec_l7Name.calls k a0 ji8 t2d _ A5.out).mono ?_); rintro e w' ⟨rfl, ⟨nd, rfl⟩⟩; refine ⟨_, rfl, ?_⟩; (try (rw [drewN_self w17]; generalize hq_ : World.drewN w17 _ = w17; have n0_ : Aside0 (w17.heap[gb98]? = some (.cells #[.int .i64 0, .string (⟨#[]⟩ : ByteArray), .string (⟨#[]⟩ : ByteArray), .bool false, .string (⟨#[]⟩ : ByteArray)] 82 (0, 0))) := ⟨by rw [← hq_]; exact (vb_ BK98.out)⟩; have n1_ : Aside0 (Below w.heap.size w w17) := ⟨by rw [← hq_]; exact (bG_ GE98.out)⟩; clear BK98 HB hq_; have BK98 := n0_; have HB := n1_; clear n0_ n1_))) | ((with_reducible refine gc_ (f := 77) rfl ?_); refine gL_ (some 21) Tryz.func77 #[.string a0, .int .i64 t2d, .string (⟨#[62]⟩ : ByteArray)] ?_; (with_reducible refine (spec_l7At.calls a0 t2d (⟨#[62]⟩ : ByteArray) true _ A6.out).mono ?_); rintro e w' ⟨rfl, ⟨nd, rfl⟩⟩; refine ⟨_, rfl, ?_⟩; (try (rw [drewN_self w17]; generalize hq_ : World.drewN w17 _ = w17; have n0_ : Aside0 (w17.heap[gb98]? = some (.cells #[.int .i64 0, .string (⟨#[]⟩ : ByteArray), .string (⟨#[]⟩ : ByteArray), .bool false, .string (⟨#[]⟩ : ByteArray)] 82 (0, 0))) := ⟨by rw [← hq_]; exact (vb_ BK98.out)⟩; have n1_ : Aside0 (Below w.heap.size w w17) := ⟨by rw [← hq_]; exact (bG_ GE98.out)⟩; clear BK98 HB hq_; have BK98 := n0_; have HB := n1_; clear n0_ n1_))) | (go_at_call 71; (with_reducible refine (spec_SmallName.calls k (a0.extract ((ji8) : Int).toNat (t2d : Int).toNat) true _ A12.out).mono ?_); rintro e w' ⟨rfl, ⟨nd, rfl⟩⟩; (try (rw [drewN_self w17]; generalize hq_ : World.drewN w17 _ = w17; have n0_ : Aside0 (w17.heap[gb98]? = some (.cells #[.int .i64 0, .string (⟨#[]⟩ : ByteArray), .string (⟨#[]⟩ : ByteArray), .bool false, .string (⟨#[]⟩ : ByteArray)] 82 (0, 0))) := ⟨by rw [← hq_]; exact (vb_ BK98.out)⟩; have n1_ : Aside0 (Below w.heap.size w w17) := ⟨by rw [← hq_]; exact (bG_ GE98.out)⟩; clear BK98 HB hq_; have BK98 := n0_; have HB := n1_; clear n0_ n1_)); obtain ⟨hcz18_0, hcz18_1, hcz18_2, hcz18_3, hcz18_4, hfz18_0, hfz18_1, hfz18_2, hfz18_3, hfz18_4⟩ := cz5_ BK98.out))
       refine bodyPost_ret (results_ct rfl _ _ gb98 82 #[.int .i64 2, .string (a0.extract ((ji8) : Int).toNat (t2d : Int).toNat), .string (⟨#[]⟩ : ByteArray), .bool false, .string (⟨#[]⟩ : ByteArray)] (0, 0) _ rfl (by (with_reducible repeat (first | refine blk_drewN ?_ _ | refine blk_drew ?_ | refine blk_alloc ?_ _)); with_reducible exact p5_01234_ (vb_ BK98.out)) Tryz.underlying82 rfl (by kernel_rfl)) rfl ?_
       exact ⟨by first | rfl | (simp [errW_none, errW_some] <;> rfl) | (simp only [← hji8]; first | rfl | (simp [errW_none, errW_some] <;> rfl)) | (simp [*, errW_none, errW_some] <;> rfl), bG_ GE98.out⟩
     · replace c13 := Bool.eq_false_iff.mpr c13
       subst c13
       rw [if_neg nf_] at H
       simp only [Option.some.injEq, Prod.mk.injEq] at H
       obtain ⟨rfl, rfl, rfl, rfl, rfl, rfl⟩ := H
       go_enter Tryz.func57, Tryz.ntmps57
       go_wp2_with (first | ((with_reducible refine gd_ (N := 4) rfl ?_); (try (refine gate_guard (by rfl) ?_; dsimp only)); refine bx_ (N := 4) (cs := #[.int .i64 0, .string (⟨#[]⟩ : ByteArray), .string (⟨#[]⟩ : ByteArray), .bool false, .string (⟨#[]⟩ : ByteArray)]) (t := 82) ?_; intro gb98 hg w19 hbox hb; have BK98 := A_ (hbox); have GW98 := A_ (ge_ hg bB_ : w.heap.size ≤ gb98); have GE98 := A_ (ge_ hg bB_ : w.heap.size ≤ gb98); replace HB := A_ (below_step bB_ hb); clear hb hbox hg) | ((with_reducible refine gc_ (f := 77) rfl ?_); refine gL_ (some 14) Tryz.func77 #[.string a0, .int .i64 a1, .string (⟨#[60, 47]⟩ : ByteArray)] ?_; (with_reducible refine (spec_l7At.calls a0 a1 (⟨#[60, 47]⟩ : ByteArray) true _ A3.out).mono ?_); rintro e w' ⟨rfl, ⟨nd, rfl⟩⟩; refine ⟨_, rfl, ?_⟩; (try (rw [drewN_self w19]; generalize hq_ : World.drewN w19 _ = w19; have n0_ : Aside0 (w19.heap[gb98]? = some (.cells #[.int .i64 0, .string (⟨#[]⟩ : ByteArray), .string (⟨#[]⟩ : ByteArray), .bool false, .string (⟨#[]⟩ : ByteArray)] 82 (0, 0))) := ⟨by rw [← hq_]; exact (vb_ BK98.out)⟩; have n1_ : Aside0 (Below w.heap.size w w19) := ⟨by rw [← hq_]; exact (bG_ GE98.out)⟩; clear BK98 HB hq_; have BK98 := n0_; have HB := n1_; clear n0_ n1_))) | ((with_reducible refine gc_ (f := 78) rfl ?_); refine goesL_ (some 18) rfl rfl Tryz.func78 (by kernel_rfl) rfl #[.string a0, .int .i64 ji8] rfl (by (try simp only [List.map_toArray, List.map_cons, List.map_nil]); first | done | (simp only [hji8]; rfl) | rfl | (simp only [List.length_drop, List.length_take]; rfl)) ?_; (with_reducible refine (spec_l7Name.calls k a0 ji8 t2d _ A5.out).mono ?_); rintro e w' ⟨rfl, ⟨nd, rfl⟩⟩; refine ⟨_, rfl, ?_⟩; (try (rw [drewN_self w19]; generalize hq_ : World.drewN w19 _ = w19; have n0_ : Aside0 (w19.heap[gb98]? = some (.cells #[.int .i64 0, .string (⟨#[]⟩ : ByteArray), .string (⟨#[]⟩ : ByteArray), .bool false, .string (⟨#[]⟩ : ByteArray)] 82 (0, 0))) := ⟨by rw [← hq_]; exact (vb_ BK98.out)⟩; have n1_ : Aside0 (Below w.heap.size w w19) := ⟨by rw [← hq_]; exact (bG_ GE98.out)⟩; clear BK98 HB hq_; have BK98 := n0_; have HB := n1_; clear n0_ n1_))) | ((with_reducible refine gc_ (f := 77) rfl ?_); refine gL_ (some 21) Tryz.func77 #[.string a0, .int .i64 t2d, .string (⟨#[62]⟩ : ByteArray)] ?_; (with_reducible refine (spec_l7At.calls a0 t2d (⟨#[62]⟩ : ByteArray) true _ A6.out).mono ?_); rintro e w' ⟨rfl, ⟨nd, rfl⟩⟩; refine ⟨_, rfl, ?_⟩; (try (rw [drewN_self w19]; generalize hq_ : World.drewN w19 _ = w19; have n0_ : Aside0 (w19.heap[gb98]? = some (.cells #[.int .i64 0, .string (⟨#[]⟩ : ByteArray), .string (⟨#[]⟩ : ByteArray), .bool false, .string (⟨#[]⟩ : ByteArray)] 82 (0, 0))) := ⟨by rw [← hq_]; exact (vb_ BK98.out)⟩; have n1_ : Aside0 (Below w.heap.size w w19) := ⟨by rw [← hq_]; exact (bG_ GE98.out)⟩; clear BK98 HB hq_; have BK98 := n0_; have HB := n1_; clear n0_ n1_))) | (go_at_call 71; (with_reducible refine (spec_SmallName.calls k (a0.extract ((ji8) : Int).toNat (t2d : Int).toNat) false _ A12.out).mono ?_); rintro e w' ⟨rfl, ⟨nd, rfl⟩⟩; (try (rw [drewN_self w19]; generalize hq_ : World.drewN w19 _ = w19; have n0_ : Aside0 (w19.heap[gb98]? = some (.cells #[.int .i64 0, .string (⟨#[]⟩ : ByteArray), .string (⟨#[]⟩ : ByteArray), .bool false, .string (⟨#[]⟩ : ByteArray)] 82 (0, 0))) := ⟨by rw [← hq_]; exact (vb_ BK98.out)⟩; have n1_ : Aside0 (Below w.heap.size w w19) := ⟨by rw [← hq_]; exact (bG_ GE98.out)⟩; clear BK98 HB hq_; have BK98 := n0_; have HB := n1_; clear n0_ n1_)); obtain ⟨hcz20_0, hcz20_1, hcz20_2, hcz20_3, hcz20_4, hfz20_0, hfz20_1, hfz20_2, hfz20_3, hfz20_4⟩ := cz5_ BK98.out))
       refine bodyPost_ret (results_ct rfl _ _ gb98 82 #[.int .i64 0, .string (⟨#[]⟩ : ByteArray), .string (⟨#[]⟩ : ByteArray), .bool false, .string (⟨#[]⟩ : ByteArray)] (0, 0) _ rfl (by (with_reducible repeat (first | refine blk_drewN ?_ _ | refine blk_drew ?_ | refine blk_alloc ?_ _)); with_reducible exact p5_01234_ (vb_ BK98.out)) Tryz.underlying82 rfl (by kernel_rfl)) rfl ?_
       exact ⟨by first | rfl | (simp [errW_none, errW_some] <;> rfl) | (simp only [← hji8]; first | rfl | (simp [errW_none, errW_some] <;> rfl)) | (simp [*, errW_none, errW_some] <;> rfl), bG_ GE98.out⟩
   · replace c7 := Bool.eq_false_iff.mpr c7
     subst c7
     rw [if_neg nf_] at H
     simp only [Option.some.injEq, Prod.mk.injEq] at H
     obtain ⟨rfl, rfl, rfl, rfl, rfl, rfl⟩ := H
     go_enter Tryz.func57, Tryz.ntmps57
     go_wp2_with (first | ((with_reducible refine gd_ (N := 4) rfl ?_); (try (refine gate_guard (by rfl) ?_; dsimp only)); refine bx_ (N := 4) (cs := #[.int .i64 0, .string (⟨#[]⟩ : ByteArray), .string (⟨#[]⟩ : ByteArray), .bool false, .string (⟨#[]⟩ : ByteArray)]) (t := 82) ?_; intro gb98 hg w21 hbox hb; have BK98 := A_ (hbox); have GW98 := A_ (ge_ hg bB_ : w.heap.size ≤ gb98); have GE98 := A_ (ge_ hg bB_ : w.heap.size ≤ gb98); replace HB := A_ (below_step bB_ hb); clear hb hbox hg) | ((with_reducible refine gc_ (f := 77) rfl ?_); refine gL_ (some 14) Tryz.func77 #[.string a0, .int .i64 a1, .string (⟨#[60, 47]⟩ : ByteArray)] ?_; (with_reducible refine (spec_l7At.calls a0 a1 (⟨#[60, 47]⟩ : ByteArray) true _ A3.out).mono ?_); rintro e w' ⟨rfl, ⟨nd, rfl⟩⟩; refine ⟨_, rfl, ?_⟩; (try (rw [drewN_self w21]; generalize hq_ : World.drewN w21 _ = w21; have n0_ : Aside0 (w21.heap[gb98]? = some (.cells #[.int .i64 0, .string (⟨#[]⟩ : ByteArray), .string (⟨#[]⟩ : ByteArray), .bool false, .string (⟨#[]⟩ : ByteArray)] 82 (0, 0))) := ⟨by rw [← hq_]; exact (vb_ BK98.out)⟩; have n1_ : Aside0 (Below w.heap.size w w21) := ⟨by rw [← hq_]; exact (bG_ GE98.out)⟩; clear BK98 HB hq_; have BK98 := n0_; have HB := n1_; clear n0_ n1_))) | ((with_reducible refine gc_ (f := 78) rfl ?_); refine gL_ (some 18) Tryz.func78 #[.string a0, .int .i64 (wrap64 (a1 + 2))] ?_; (with_reducible refine (spec_l7Name.calls k a0 (wrap64 (a1 + 2)) t2d _ A5.out).mono ?_); rintro e w' ⟨rfl, ⟨nd, rfl⟩⟩; refine ⟨_, rfl, ?_⟩; (try (rw [drewN_self w21]; generalize hq_ : World.drewN w21 _ = w21; have n0_ : Aside0 (w21.heap[gb98]? = some (.cells #[.int .i64 0, .string (⟨#[]⟩ : ByteArray), .string (⟨#[]⟩ : ByteArray), .bool false, .string (⟨#[]⟩ : ByteArray)] 82 (0, 0))) := ⟨by rw [← hq_]; exact (vb_ BK98.out)⟩; have n1_ : Aside0 (Below w.heap.size w w21) := ⟨by rw [← hq_]; exact (bG_ GE98.out)⟩; clear BK98 HB hq_; have BK98 := n0_; have HB := n1_; clear n0_ n1_))) | ((with_reducible refine gc_ (f := 77) rfl ?_); refine gL_ (some 21) Tryz.func77 #[.string a0, .int .i64 t2d, .string (⟨#[62]⟩ : ByteArray)] ?_; (with_reducible refine (spec_l7At.calls a0 t2d (⟨#[62]⟩ : ByteArray) false _ A6.out).mono ?_); rintro e w' ⟨rfl, ⟨nd, rfl⟩⟩; refine ⟨_, rfl, ?_⟩; (try (rw [drewN_self w21]; generalize hq_ : World.drewN w21 _ = w21; have n0_ : Aside0 (w21.heap[gb98]? = some (.cells #[.int .i64 0, .string (⟨#[]⟩ : ByteArray), .string (⟨#[]⟩ : ByteArray), .bool false, .string (⟨#[]⟩ : ByteArray)] 82 (0, 0))) := ⟨by rw [← hq_]; exact (vb_ BK98.out)⟩; have n1_ : Aside0 (Below w.heap.size w w21) := ⟨by rw [← hq_]; exact (bG_ GE98.out)⟩; clear BK98 HB hq_; have BK98 := n0_; have HB := n1_; clear n0_ n1_)); obtain ⟨hcz22_0, hcz22_1, hcz22_2, hcz22_3, hcz22_4, hfz22_0, hfz22_1, hfz22_2, hfz22_3, hfz22_4⟩ := cz5_ BK98.out))
     refine bodyPost_ret (results_ct rfl _ _ gb98 82 #[.int .i64 0, .string (⟨#[]⟩ : ByteArray), .string (⟨#[]⟩ : ByteArray), .bool false, .string (⟨#[]⟩ : ByteArray)] (0, 0) _ rfl (by (with_reducible repeat (first | refine blk_drewN ?_ _ | refine blk_drew ?_ | refine blk_alloc ?_ _)); with_reducible exact p5_01234_ (vb_ BK98.out)) Tryz.underlying82 rfl (by kernel_rfl)) rfl ?_
     exact ⟨rr_, bG_ GE98.out⟩
 · replace c4 := Bool.eq_false_iff.mpr c4
   subst c4
   rw [if_neg nf_] at H
   obtain ⟨t1d, A23, H⟩ := bo_ H
   (try dsimp only at H)
   obtain ⟨ji24, hji24⟩ : ∃ j_ : Int, (wrap64 (a1 + 1)) = j_ := ⟨_, rfl⟩
   replace H : (if 0 ≤ (ji24) then (if (ji24) ≤ t1d then (if t1d ≤ (a0.size : Int) then ((spec_SmallName.f k (a0.extract ((ji24) : Int).toNat (t1d : Int).toNat)).bind fun t7d => (if t7d = true then ((spec_l7At.f a0 t1d (⟨#[32, 120, 109, 108, 110, 115, 61, 34]⟩ : ByteArray)).bind fun t5d => (if t5d = true then (spec_l7Mark.l0 k a0 (wrap64 (t1d + 8)) (wrap64 (t1d + 8)) 1 (a0.extract ((ji24) : Int).toNat (t1d : Int).toNat) (⟨#[]⟩ : ByteArray) false (⟨#[]⟩ : ByteArray)) else (spec_l7Mark.j1 k a0 t1d 1 (a0.extract ((ji24) : Int).toNat (t1d : Int).toNat) (⟨#[]⟩ : ByteArray) false (⟨#[]⟩ : ByteArray)))) else (some (0, (⟨#[]⟩ : ByteArray), (⟨#[]⟩ : ByteArray), false, (⟨#[]⟩ : ByteArray), (-1))))) else (none)) else (none)) else (none)) = some (r1, r2, r3, r4, r5, r6) := by first | (rw [hji24] at H; exact H) | (simp only [hji24] at H ⊢; exact H)
   (try rw [hji24] at A3)
   (try rw [hji24] at A23)
   have hji24w : (IntKind.i64.wrap (a1 + 1)) = ji24 := (i64_w _).trans hji24
   by_cases c25 : 0 ≤ (ji24)
   rotate_left
   · exact absurd H (by rw [if_neg c25]; simp)
   rw [if_pos c25] at H
   have c25b0 := eq_true c25
   have c25b1 := decide_eq_true c25
   clear c25
   by_cases c26 : (ji24) ≤ t1d
   rotate_left
   · exact absurd H (by rw [if_neg c26]; simp)
   rw [if_pos c26] at H
   have c26b0 := eq_true c26
   have c26b1 := decide_eq_true c26
   clear c26
   by_cases c27 : t1d ≤ (a0.size : Int)
   rotate_left
   · exact absurd H (by rw [if_neg c27]; simp)
   rw [if_pos c27] at H
   have c27b0 := eq_true c27
   have c27b1 := decide_eq_true c27
   clear c27
   obtain ⟨t7d, A28, H⟩ := bo_ H
   (try dsimp only at H)
   by_cases c29 : t7d = true
   · subst c29
     rw [if_pos rfl] at H
     obtain ⟨t5d, A30, H⟩ := bo_ H
     (try dsimp only at H)
     have HC31 := A_ H
     clear H
     go_enter Tryz.func57, Tryz.ntmps57
     go_upto_if 58 with (first | ((with_reducible refine gd_ (N := 4) rfl ?_); (try (refine gate_guard (by rfl) ?_; dsimp only)); refine bx_ (N := 4) (cs := #[.int .i64 0, .string (⟨#[]⟩ : ByteArray), .string (⟨#[]⟩ : ByteArray), .bool false, .string (⟨#[]⟩ : ByteArray)]) (t := 82) ?_; intro gb98 hg w32 hbox hb; have BK98 := A_ (hbox); have GW98 := A_ (ge_ hg bB_ : w.heap.size ≤ gb98); have GE98 := A_ (ge_ hg bB_ : w.heap.size ≤ gb98); replace HB := A_ (below_step bB_ hb); clear hb hbox hg) | ((with_reducible refine gc_ (f := 77) rfl ?_); refine gL_ (some 14) Tryz.func77 #[.string a0, .int .i64 a1, .string (⟨#[60, 47]⟩ : ByteArray)] ?_; (with_reducible refine (spec_l7At.calls a0 a1 (⟨#[60, 47]⟩ : ByteArray) false _ A3.out).mono ?_); rintro e w' ⟨rfl, ⟨nd, rfl⟩⟩; refine ⟨_, rfl, ?_⟩; (try (rw [drewN_self w32]; generalize hq_ : World.drewN w32 _ = w32; have n0_ : Aside0 (w32.heap[gb98]? = some (.cells #[.int .i64 0, .string (⟨#[]⟩ : ByteArray), .string (⟨#[]⟩ : ByteArray), .bool false, .string (⟨#[]⟩ : ByteArray)] 82 (0, 0))) := ⟨by rw [← hq_]; exact (vb_ BK98.out)⟩; have n1_ : Aside0 (Below w.heap.size w w32) := ⟨by rw [← hq_]; exact (bG_ GE98.out)⟩; clear BK98 HB hq_; have BK98 := n0_; have HB := n1_; clear n0_ n1_))) | ((with_reducible refine gc_ (f := 78) rfl ?_); refine goesL_ (some 44) rfl rfl Tryz.func78 (by kernel_rfl) rfl #[.string a0, .int .i64 ji24] rfl (by (try simp only [List.map_toArray, List.map_cons, List.map_nil]); first | done | (simp only [hji24]; rfl) | rfl | (simp only [List.length_drop, List.length_take]; rfl)) ?_; (with_reducible refine (spec_l7Name.calls k a0 ji24 t1d _ A23.out).mono ?_); rintro e w' ⟨rfl, ⟨nd, rfl⟩⟩; refine ⟨_, rfl, ?_⟩; (try (rw [drewN_self w32]; generalize hq_ : World.drewN w32 _ = w32; have n0_ : Aside0 (w32.heap[gb98]? = some (.cells #[.int .i64 0, .string (⟨#[]⟩ : ByteArray), .string (⟨#[]⟩ : ByteArray), .bool false, .string (⟨#[]⟩ : ByteArray)] 82 (0, 0))) := ⟨by rw [← hq_]; exact (vb_ BK98.out)⟩; have n1_ : Aside0 (Below w.heap.size w w32) := ⟨by rw [← hq_]; exact (bG_ GE98.out)⟩; clear BK98 HB hq_; have BK98 := n0_; have HB := n1_; clear n0_ n1_))) | ((with_reducible refine gd_ (N := 8) rfl ?_); (try (refine gate_guard (by rfl) ?_; dsimp only)); refine bx_ (N := 8) (cs := #[.int .i64 0, .string (⟨#[]⟩ : ByteArray), .string (⟨#[]⟩ : ByteArray), .bool false, .string (⟨#[]⟩ : ByteArray)]) (t := 82) ?_; intro gb99 hg w33 hbox hb; have BK99 := A_ (hbox); have GW99 := A_ (ge_ hg (bG_ GE98.out) : w.heap.size ≤ gb99); have GE99 := A_ (ge_ hg (bG_ GE98.out) : w.heap.size ≤ gb99); replace HB := A_ (below_step (bG_ GE98.out) hb); have NB132_138 := A_ (gm_ hg BK98.out); have NB138_132 := A_ (gn_ hg BK98.out); replace BK98 := A_ (bw_ BK98.out hb); clear hb hbox hg; have hnb34 := NB138_132.out; have hnc34 := NB132_138.out; obtain ⟨hcz35_0, hcz35_1, hcz35_2, hcz35_3, hcz35_4, hfz35_0, hfz35_1, hfz35_2, hfz35_3, hfz35_4⟩ := cz5_ BK99.out) | ((with_reducible refine gc_ (f := 71) rfl ?_); refine goesL_ (some 53) rfl rfl Tryz.func71 (by kernel_rfl) rfl #[.string (a0.extract ((ji24) : Int).toNat (t1d : Int).toNat)] rfl (by (try simp only [List.map_toArray, List.map_cons, List.map_nil]); first | done | (simp only [hji24]; rfl) | rfl | (simp only [List.length_drop, List.length_take]; rfl)) ?_; (with_reducible refine (spec_SmallName.calls k (a0.extract ((ji24) : Int).toNat (t1d : Int).toNat) true _ A28.out).mono ?_); rintro e w' ⟨rfl, ⟨nd, rfl⟩⟩; refine ⟨_, rfl, ?_⟩) | ((with_reducible refine gc_ (f := 77) rfl ?_); refine gL_ (some 58) Tryz.func77 #[.string a0, .int .i64 t1d, .string (⟨#[32, 120, 109, 108, 110, 115, 61, 34]⟩ : ByteArray)] ?_; (with_reducible refine (spec_l7At.calls a0 t1d (⟨#[32, 120, 109, 108, 110, 115, 61, 34]⟩ : ByteArray) t5d _ A30.out).mono ?_); rintro e w' ⟨rfl, ⟨nd, rfl⟩⟩; refine ⟨_, rfl, ?_⟩))
     (try simp only [Act.put, List.setIfInBounds_toArray, List.set_cons_zero, List.set_cons_succ])
     go_cut [7] (fun v7 wc => ∃ (kq : Nat) (x7_30 : Int) (x133000_30 : Int) (x133001_30 : ByteArray) (x133002_30 : ByteArray) (x133003_30 : Bool) (x133004_30 : ByteArray) (x139002_30 : ByteArray) (x139003_30 : Bool), v7 = .int .i64 x7_30 ∧ Aside0 (spec_l7Mark.j1 kq a0 x7_30 1 (a0.extract ((ji24) : Int).toNat (t1d : Int).toNat) x139002_30 x139003_30 (⟨#[]⟩ : ByteArray) = some (r1, r2, r3, r4, r5, r6)) ∧ Aside0 (kq ≤ k) ∧ Aside0 (wc.heap[gb98]? = some (.cells #[.int .i64 x133000_30, .string x133001_30, .string x133002_30, .bool x133003_30, .string x133004_30] 82 (0, 0))) ∧ Aside0 (wc.heap[gb99]? = some (.cells #[.int .i64 1, .string (a0.extract ((ji24) : Int).toNat (t1d : Int).toNat), .string x139002_30, .bool x139003_30, .string (⟨#[]⟩ : ByteArray)] 82 (0, 0))) ∧ Aside0 (Below w.heap.size w wc))
     case first =>
      have H := HC31.out
      clear HC31
      by_cases c36 : t5d = true
      · subst c36
        rw [if_pos rfl] at H
        have H' := A_ H
        clear H
        go_wp2
        go_loopg [7] k (fun kq v7 w' => ∃ (x7_1 : Int), v7 = .int .i64 x7_1 ∧ Aside0 (spec_l7Mark.l0 kq a0 x7_1 (wrap64 (t1d + 8)) 1 (a0.extract ((ji24) : Int).toNat (t1d : Int).toNat) (⟨#[]⟩ : ByteArray) false (⟨#[]⟩ : ByteArray) = some (r1, r2, r3, r4, r5, r6)) ∧ Aside0 (kq ≤ k) ∧ Aside0 (w'.heap[gb98]? = some (.cells #[.int .i64 0, .string (⟨#[]⟩ : ByteArray), .string (⟨#[]⟩ : ByteArray), .bool false, .string (⟨#[]⟩ : ByteArray)] 82 (0, 0))) ∧ Aside0 (w'.heap[gb99]? = some (.cells #[.int .i64 1, .string (a0.extract ((ji24) : Int).toNat (t1d : Int).toNat), .string (⟨#[]⟩ : ByteArray), .bool false, .string (⟨#[]⟩ : ByteArray)] 82 (0, 0))) ∧ Aside0 (Below w.heap.size w w'))
        case atStart => exact ⟨(wrap64 (t1d + 8)), rs_, H', ⟨Nat.le_refl _⟩, ⟨by (with_reducible repeat (first | refine blk_drewN ?_ _ | refine blk_drew ?_ | refine blk_alloc ?_ _)); refine blk_far ?_ NB132_138.out _; (with_reducible repeat (first | refine blk_drewN ?_ _ | refine blk_drew ?_ | refine blk_alloc ?_ _)); refine blk_far ?_ NB132_138.out _; (with_reducible repeat (first | refine blk_drewN ?_ _ | refine blk_drew ?_ | refine blk_alloc ?_ _)); refine blk_far ?_ NB132_138.out _; (with_reducible repeat (first | refine blk_drewN ?_ _ | refine blk_drew ?_ | refine blk_alloc ?_ _)); refine blk_far ?_ NB132_138.out _; (with_reducible repeat (first | refine blk_drewN ?_ _ | refine blk_drew ?_ | refine blk_alloc ?_ _)); refine blk_far ?_ NB132_138.out _; (with_reducible repeat (first | refine blk_drewN ?_ _ | refine blk_drew ?_ | refine blk_alloc ?_ _)); exact BK98.out⟩, ⟨by (with_reducible repeat (first | refine blk_drewN ?_ _ | refine blk_drew ?_ | refine blk_alloc ?_ _)); with_reducible exact p5_01234_ (vb_ BK99.out)⟩, ⟨by repeat (first | (with_reducible first | exact HB.out | apply below_alloc | apply pw_below_drewN | apply below_drew1 | refine below_set ?_ GE98.out | refine below_set ?_ GE99.out) | exact HB.out)⟩⟩
        case round =>
         clear H'
         try clear c4
         try clear c25
         try clear c25b0
         try clear c25b1
         try clear c26
         try clear c26b0
         try clear c26b1
         try clear c27
         try clear c27b0
         try clear c27b1
         try clear c29
         try clear c36
         try clear hcz35_0
         try clear hcz35_1
         try clear hcz35_2
         try clear hcz35_3
         try clear hcz35_4
         try clear hfz35_0
         try clear hfz35_1
         try clear hfz35_2
         try clear hfz35_3
         try clear hfz35_4
         obtain ⟨x7_1, rfl, HA, HK1, BK98, BK99, HB⟩ := hrel
         cases gk with
         | zero => exact absurd HA.out (by simp [spec_l7Mark.l0])
         | succ k1 =>
          have H := HA.out
          clear HA
          simp only [spec_l7Mark.l0] at H
          by_cases c37 : x7_1 < (a0.size : Int)
          rotate_left
          · rw [if_neg c37] at H
            have c37b0 := decide_eq_false c37
            clear c37
            (first | rw [c37b0] | (simp only [i64_w, i32_w]; rw [c37b0]) | skip)
            obtain ⟨ji61, hji61⟩ : ∃ j_ : Int, (wrap64 (t1d + 8)) = j_ := ⟨_, rfl⟩
            replace H : (if 0 ≤ (ji61) then (if (ji61) ≤ x7_1 then (if x7_1 ≤ (a0.size : Int) then ((spec_Unescape.f k1 (a0.extract ((ji61) : Int).toNat (x7_1 : Int).toNat)).bind fun bt3d => (if bt3d.2 = true then (if x7_1 = (a0.size : Int) then (some (0, (⟨#[]⟩ : ByteArray), (⟨#[]⟩ : ByteArray), false, (⟨#[]⟩ : ByteArray), (-1))) else (if (bt3d.1.size : Int) > 20 then (some (0, (⟨#[]⟩ : ByteArray), (⟨#[]⟩ : ByteArray), false, (⟨#[]⟩ : ByteArray), (-1))) else (spec_l7Mark.j1 k1 a0 (wrap64 (x7_1 + 1)) 1 (a0.extract ((ji24) : Int).toNat (t1d : Int).toNat) bt3d.1 true (⟨#[]⟩ : ByteArray)))) else (some (0, (⟨#[]⟩ : ByteArray), (⟨#[]⟩ : ByteArray), false, (⟨#[]⟩ : ByteArray), (-1))))) else (none)) else (none)) else (none)) = some (r1, r2, r3, r4, r5, r6) := by first | (rw [hji61] at H; exact H) | (simp only [hji61] at H ⊢; exact H)
            have hji61w : (IntKind.i64.wrap (t1d + 8)) = ji61 := (i64_w _).trans hji61
            by_cases c62 : 0 ≤ (ji61)
            rotate_left
            · exact absurd H (by rw [if_neg c62]; simp)
            rw [if_pos c62] at H
            have c62b0 := eq_true c62
            have c62b1 := decide_eq_true c62
            clear c62
            by_cases c63 : (ji61) ≤ x7_1
            rotate_left
            · exact absurd H (by rw [if_neg c63]; simp)
            rw [if_pos c63] at H
            have c63b0 := eq_true c63
            have c63b1 := decide_eq_true c63
            clear c63
            by_cases c64 : x7_1 ≤ (a0.size : Int)
            rotate_left
            · exact absurd H (by rw [if_neg c64]; simp)
            rw [if_pos c64] at H
            have c64b0 := eq_true c64
            have c64b1 := decide_eq_true c64
            clear c64
            obtain ⟨⟨t3d, t1e⟩, A65, H⟩ := bo_ H
            (try dsimp only at H)
            by_cases c66 : t1e = true
            · subst c66
              rw [if_pos rfl] at H
              by_cases c67 : x7_1 = (a0.size : Int)
              · rw [if_pos c67] at H
                obtain ⟨c67b0, c67b1⟩ := eT_ c67
                clear c67
                simp only [Option.some.injEq, Prod.mk.injEq] at H
                obtain ⟨rfl, rfl, rfl, rfl, rfl, rfl⟩ := H
                go_wp2_with (first | ((with_reducible refine gc_ (f := 58) rfl ?_); refine goesL_ (some 79) rfl rfl Tryz.func58 (by kernel_rfl) rfl #[.string (a0.extract ((ji61) : Int).toNat (x7_1 : Int).toNat)] rfl (by (try simp only [List.map_toArray, List.map_cons, List.map_nil]); first | done | (simp only [hji61]; rfl) | rfl | (simp only [List.length_drop, List.length_take]; rfl)) ?_; (with_reducible refine (spec_Unescape.calls k1 (a0.extract ((ji61) : Int).toNat (x7_1 : Int).toNat) t3d true _ A65.out).mono ?_); rintro e w68 ⟨rfl, hb⟩; refine ⟨_, rfl, ?_⟩; replace BK98 := A_ (bw_ BK98.out hb); replace HB := A_ (below_step (by repeat (first | (with_reducible first | exact HB.out | apply below_alloc | apply pw_below_drewN | apply below_drew1 | refine below_set ?_ GE98.out | refine below_set ?_ GE99.out) | exact HB.out)) hb); clear hb; have hnb69 := NB132_138.out; have hnc69 := NB138_132.out; obtain ⟨hcz70_0, hcz70_1, hcz70_2, hcz70_3, hcz70_4, hfz70_0, hfz70_1, hfz70_2, hfz70_3, hfz70_4⟩ := cz5_ BK98.out))
                refine bodyPost_ret (results_ct rfl _ _ gb98 82 #[.int .i64 0, .string (⟨#[]⟩ : ByteArray), .string (⟨#[]⟩ : ByteArray), .bool false, .string (⟨#[]⟩ : ByteArray)] (0, 0) _ rfl (by (with_reducible repeat (first | refine blk_drewN ?_ _ | refine blk_drew ?_ | refine blk_alloc ?_ _)); with_reducible exact p5_01234_ (vb_ BK98.out)) Tryz.underlying82 rfl (by kernel_rfl)) rfl ?_
                exact ⟨by first | rfl | (simp [errW_none, errW_some] <;> rfl) | (simp only [← hji24, ← hji61]; first | rfl | (simp [errW_none, errW_some] <;> rfl)) | (simp [*, errW_none, errW_some] <;> rfl), by repeat (first | (with_reducible first | exact HB.out | apply below_alloc | apply pw_below_drewN | apply below_drew1 | refine below_set ?_ GE98.out | refine below_set ?_ GE99.out) | exact HB.out)⟩
              rw [if_neg c67] at H
              obtain ⟨c67b0, c67b1⟩ := eF_ c67
              by_cases c71 : (t3d.size : Int) > 20
              rotate_left
              · rw [if_neg c71] at H
                have c71b0 : decide (20 < (t3d.size : Int)) = false := decide_eq_false c71
                have c71b1 : decide (20 < t3d.size) = false := decide_eq_false (by omega)
                clear c71
                have H' := A_ H
                clear H
                go_wp2_with (first | ((with_reducible refine gc_ (f := 58) rfl ?_); refine goesL_ (some 79) rfl rfl Tryz.func58 (by kernel_rfl) rfl #[.string (a0.extract ((ji61) : Int).toNat (x7_1 : Int).toNat)] rfl (by (try simp only [List.map_toArray, List.map_cons, List.map_nil]); first | done | (simp only [hji61]; rfl) | rfl | (simp only [List.length_drop, List.length_take]; rfl)) ?_; (with_reducible refine (spec_Unescape.calls k1 (a0.extract ((ji61) : Int).toNat (x7_1 : Int).toNat) t3d true _ A65.out).mono ?_); rintro e w75 ⟨rfl, hb⟩; refine ⟨_, rfl, ?_⟩; replace BK98 := A_ (bw_ BK98.out hb); replace BK99 := A_ (bw_ BK99.out hb); replace HB := A_ (below_step (by repeat (first | (with_reducible first | exact HB.out | apply below_alloc | apply pw_below_drewN | apply below_drew1 | refine below_set ?_ GE98.out | refine below_set ?_ GE99.out) | exact HB.out)) hb); clear hb; have hnb76 := NB138_132.out; have hnc76 := NB132_138.out; obtain ⟨hcz77_0, hcz77_1, hcz77_2, hcz77_3, hcz77_4, hfz77_0, hfz77_1, hfz77_2, hfz77_3, hfz77_4⟩ := cz5_ BK99.out))
                go_meet
                case rel => exact ⟨_, (wrap64 (x7_1 + 1)), (0), ((⟨#[]⟩ : ByteArray)), ((⟨#[]⟩ : ByteArray)), (false), ((⟨#[]⟩ : ByteArray)), (t3d), (true), rs_, H', ⟨by have := HK1.out; first | omega | exact Nat.le_refl _⟩, ⟨by (with_reducible repeat (first | refine blk_drewN ?_ _ | refine blk_drew ?_ | refine blk_alloc ?_ _)); refine blk_far ?_ NB132_138.out _; (with_reducible repeat (first | refine blk_drewN ?_ _ | refine blk_drew ?_ | refine blk_alloc ?_ _)); refine blk_far ?_ NB132_138.out _; (with_reducible repeat (first | refine blk_drewN ?_ _ | refine blk_drew ?_ | refine blk_alloc ?_ _)); exact BK98.out⟩, ⟨by (with_reducible repeat (first | refine blk_drewN ?_ _ | refine blk_drew ?_ | refine blk_alloc ?_ _)); with_reducible exact p5_23_ (vb_ BK99.out)⟩, ⟨by repeat (first | (with_reducible first | exact HB.out | apply below_alloc | apply pw_below_drewN | apply below_drew1 | refine below_set ?_ GE98.out | refine below_set ?_ GE99.out) | exact HB.out)⟩⟩
              rw [if_pos c71] at H
              have c71b0 : decide (20 < (t3d.size : Int)) = true := decide_eq_true c71
              have c71b1 : decide (20 < t3d.size) = true := decide_eq_true (by omega)
              clear c71
              simp only [Option.some.injEq, Prod.mk.injEq] at H
              obtain ⟨rfl, rfl, rfl, rfl, rfl, rfl⟩ := H
              go_wp2_with (first | ((with_reducible refine gc_ (f := 58) rfl ?_); refine goesL_ (some 79) rfl rfl Tryz.func58 (by kernel_rfl) rfl #[.string (a0.extract ((ji61) : Int).toNat (x7_1 : Int).toNat)] rfl (by (try simp only [List.map_toArray, List.map_cons, List.map_nil]); first | done | (simp only [hji61]; rfl) | rfl | (simp only [List.length_drop, List.length_take]; rfl)) ?_; (with_reducible refine (spec_Unescape.calls k1 (a0.extract ((ji61) : Int).toNat (x7_1 : Int).toNat) t3d true _ A65.out).mono ?_); rintro e w72 ⟨rfl, hb⟩; refine ⟨_, rfl, ?_⟩; replace BK98 := A_ (bw_ BK98.out hb); replace HB := A_ (below_step (by repeat (first | (with_reducible first | exact HB.out | apply below_alloc | apply pw_below_drewN | apply below_drew1 | refine below_set ?_ GE98.out | refine below_set ?_ GE99.out) | exact HB.out)) hb); clear hb; have hnb73 := NB132_138.out; have hnc73 := NB138_132.out; obtain ⟨hcz74_0, hcz74_1, hcz74_2, hcz74_3, hcz74_4, hfz74_0, hfz74_1, hfz74_2, hfz74_3, hfz74_4⟩ := cz5_ BK98.out))
              refine bodyPost_ret (results_ct rfl _ _ gb98 82 #[.int .i64 0, .string (⟨#[]⟩ : ByteArray), .string (⟨#[]⟩ : ByteArray), .bool false, .string (⟨#[]⟩ : ByteArray)] (0, 0) _ rfl (by (with_reducible repeat (first | refine blk_drewN ?_ _ | refine blk_drew ?_ | refine blk_alloc ?_ _)); with_reducible exact p5_01234_ (vb_ BK98.out)) Tryz.underlying82 rfl (by kernel_rfl)) rfl ?_
              exact ⟨by first | rfl | (simp [errW_none, errW_some] <;> rfl) | (simp only [← hji24, ← hji61]; first | rfl | (simp [errW_none, errW_some] <;> rfl)) | (simp [*, errW_none, errW_some] <;> rfl), by repeat (first | (with_reducible first | exact HB.out | apply below_alloc | apply pw_below_drewN | apply below_drew1 | refine below_set ?_ GE98.out | refine below_set ?_ GE99.out) | exact HB.out)⟩
            · replace c66 := Bool.eq_false_iff.mpr c66
              subst c66
              rw [if_neg nf_] at H
              simp only [Option.some.injEq, Prod.mk.injEq] at H
              obtain ⟨rfl, rfl, rfl, rfl, rfl, rfl⟩ := H
              go_wp2_with (first | ((with_reducible refine gc_ (f := 58) rfl ?_); refine goesL_ (some 79) rfl rfl Tryz.func58 (by kernel_rfl) rfl #[.string (a0.extract ((ji61) : Int).toNat (x7_1 : Int).toNat)] rfl (by (try simp only [List.map_toArray, List.map_cons, List.map_nil]); first | done | (simp only [hji61]; rfl) | rfl | (simp only [List.length_drop, List.length_take]; rfl)) ?_; (with_reducible refine (spec_Unescape.calls k1 (a0.extract ((ji61) : Int).toNat (x7_1 : Int).toNat) t3d false _ A65.out).mono ?_); rintro e w78 ⟨rfl, hb⟩; refine ⟨_, rfl, ?_⟩; replace BK98 := A_ (bw_ BK98.out hb); replace HB := A_ (below_step (by repeat (first | (with_reducible first | exact HB.out | apply below_alloc | apply pw_below_drewN | apply below_drew1 | refine below_set ?_ GE98.out | refine below_set ?_ GE99.out) | exact HB.out)) hb); clear hb; have hnb79 := NB132_138.out; have hnc79 := NB138_132.out; obtain ⟨hcz80_0, hcz80_1, hcz80_2, hcz80_3, hcz80_4, hfz80_0, hfz80_1, hfz80_2, hfz80_3, hfz80_4⟩ := cz5_ BK98.out))
              refine bodyPost_ret (results_ct rfl _ _ gb98 82 #[.int .i64 0, .string (⟨#[]⟩ : ByteArray), .string (⟨#[]⟩ : ByteArray), .bool false, .string (⟨#[]⟩ : ByteArray)] (0, 0) _ rfl (by (with_reducible repeat (first | refine blk_drewN ?_ _ | refine blk_drew ?_ | refine blk_alloc ?_ _)); with_reducible exact p5_01234_ (vb_ BK98.out)) Tryz.underlying82 rfl (by kernel_rfl)) rfl ?_
              exact ⟨by first | rfl | (simp [errW_none, errW_some] <;> rfl) | (simp only [← hji24, ← hji61]; first | rfl | (simp [errW_none, errW_some] <;> rfl)) | (simp [*, errW_none, errW_some] <;> rfl), by repeat (first | (with_reducible first | exact HB.out | apply below_alloc | apply pw_below_drewN | apply below_drew1 | refine below_set ?_ GE98.out | refine below_set ?_ GE99.out) | exact HB.out)⟩
          rw [if_pos c37] at H
          have c37b0 := decide_eq_true c37
          clear c37
          (first | rw [c37b0] | (simp only [i64_w, i32_w]; rw [c37b0]) | skip)
          by_cases c38 : 0 ≤ x7_1
          rotate_left
          · exact absurd H (by rw [if_neg c38]; simp)
          rw [if_pos c38] at H
          have c38b0 := decide_eq_true c38
          clear c38
          by_cases c40 : (bt a0 x7_1) = 34
          rotate_left
          · rw [if_neg c40] at H
            obtain ⟨c40b0, c40b1⟩ := eF_ c40
            have H' := A_ H
            clear H
            have p39 : 0 ≤ (x7_1 : Int) := od_
            have q39 : x7_1 < (a0.size : Int) := od_
            have hx39 := bt_at a0 x7_1
            replace p39 := eq_true p39
            replace q39 := eq_true q39
            go_wp2
            go_roundg k1
            case measure => have := HK1.out; omega
            case rel => exact ⟨(wrap64 (x7_1 + 1)), rs_, H', ⟨by have := HK1.out; omega⟩, ⟨vb_ BK98.out⟩, ⟨vb_ BK99.out⟩, ⟨by repeat (first | (with_reducible first | exact HB.out | apply below_alloc | apply pw_below_drewN | apply below_drew1 | refine below_set ?_ GE98.out | refine below_set ?_ GE99.out) | exact HB.out)⟩⟩
          rw [if_pos c40] at H
          obtain ⟨c40b0, c40b1⟩ := eT_ c40
          clear c40
          obtain ⟨ji41, hji41⟩ : ∃ j_ : Int, (wrap64 (t1d + 8)) = j_ := ⟨_, rfl⟩
          replace H : (if 0 ≤ (ji41) then (if (ji41) ≤ x7_1 then (if x7_1 ≤ (a0.size : Int) then ((spec_Unescape.f k1 (a0.extract ((ji41) : Int).toNat (x7_1 : Int).toNat)).bind fun bt4d => (if bt4d.2 = true then (if x7_1 = (a0.size : Int) then (some (0, (⟨#[]⟩ : ByteArray), (⟨#[]⟩ : ByteArray), false, (⟨#[]⟩ : ByteArray), (-1))) else (if (bt4d.1.size : Int) > 20 then (some (0, (⟨#[]⟩ : ByteArray), (⟨#[]⟩ : ByteArray), false, (⟨#[]⟩ : ByteArray), (-1))) else (spec_l7Mark.j1 k1 a0 (wrap64 (x7_1 + 1)) 1 (a0.extract ((ji24) : Int).toNat (t1d : Int).toNat) bt4d.1 true (⟨#[]⟩ : ByteArray)))) else (some (0, (⟨#[]⟩ : ByteArray), (⟨#[]⟩ : ByteArray), false, (⟨#[]⟩ : ByteArray), (-1))))) else (none)) else (none)) else (none)) = some (r1, r2, r3, r4, r5, r6) := by first | (rw [hji41] at H; exact H) | (simp only [hji41] at H ⊢; exact H)
          have hji41w : (IntKind.i64.wrap (t1d + 8)) = ji41 := (i64_w _).trans hji41
          by_cases c42 : 0 ≤ (ji41)
          rotate_left
          · exact absurd H (by rw [if_neg c42]; simp)
          rw [if_pos c42] at H
          have c42b0 := eq_true c42
          have c42b1 := decide_eq_true c42
          clear c42
          by_cases c43 : (ji41) ≤ x7_1
          rotate_left
          · exact absurd H (by rw [if_neg c43]; simp)
          rw [if_pos c43] at H
          have c43b0 := eq_true c43
          have c43b1 := decide_eq_true c43
          clear c43
          by_cases c44 : x7_1 ≤ (a0.size : Int)
          rotate_left
          · exact absurd H (by rw [if_neg c44]; simp)
          rw [if_pos c44] at H
          have c44b0 := eq_true c44
          have c44b1 := decide_eq_true c44
          clear c44
          obtain ⟨⟨t4d, t2e⟩, A45, H⟩ := bo_ H
          (try dsimp only at H)
          by_cases c46 : t2e = true
          · subst c46
            rw [if_pos rfl] at H
            by_cases c47 : x7_1 = (a0.size : Int)
            · rw [if_pos c47] at H
              obtain ⟨c47b0, c47b1⟩ := eT_ c47
              clear c47
              simp only [Option.some.injEq, Prod.mk.injEq] at H
              obtain ⟨rfl, rfl, rfl, rfl, rfl, rfl⟩ := H
              have p39 : 0 ≤ (x7_1 : Int) := od_
              have q39 : x7_1 < (a0.size : Int) := od_
              have hx39 := bt_at a0 x7_1
              replace p39 := eq_true p39
              replace q39 := eq_true q39
              go_wp2_with (first | ((with_reducible refine gc_ (f := 58) rfl ?_); refine goesL_ (some 79) rfl rfl Tryz.func58 (by kernel_rfl) rfl #[.string (a0.extract ((ji41) : Int).toNat (x7_1 : Int).toNat)] rfl (by (try simp only [List.map_toArray, List.map_cons, List.map_nil]); first | done | (simp only [hji41]; rfl) | rfl | (simp only [List.length_drop, List.length_take]; rfl)) ?_; (with_reducible refine (spec_Unescape.calls k1 (a0.extract ((ji41) : Int).toNat (x7_1 : Int).toNat) t4d true _ A45.out).mono ?_); rintro e w48 ⟨rfl, hb⟩; refine ⟨_, rfl, ?_⟩; replace BK98 := A_ (bw_ BK98.out hb); replace HB := A_ (below_step (by repeat (first | (with_reducible first | exact HB.out | apply below_alloc | apply pw_below_drewN | apply below_drew1 | refine below_set ?_ GE98.out | refine below_set ?_ GE99.out) | exact HB.out)) hb); clear hb; have hnb49 := NB132_138.out; have hnc49 := NB138_132.out; obtain ⟨hcz50_0, hcz50_1, hcz50_2, hcz50_3, hcz50_4, hfz50_0, hfz50_1, hfz50_2, hfz50_3, hfz50_4⟩ := cz5_ BK98.out))
              refine bodyPost_ret (results_ct rfl _ _ gb98 82 #[.int .i64 0, .string (⟨#[]⟩ : ByteArray), .string (⟨#[]⟩ : ByteArray), .bool false, .string (⟨#[]⟩ : ByteArray)] (0, 0) _ rfl (by (with_reducible repeat (first | refine blk_drewN ?_ _ | refine blk_drew ?_ | refine blk_alloc ?_ _)); with_reducible exact p5_01234_ (vb_ BK98.out)) Tryz.underlying82 rfl (by kernel_rfl)) rfl ?_
              exact ⟨by first | rfl | (simp [errW_none, errW_some] <;> rfl) | (simp only [← hji24, ← hji41]; first | rfl | (simp [errW_none, errW_some] <;> rfl)) | (simp [*, errW_none, errW_some] <;> rfl), by repeat (first | (with_reducible first | exact HB.out | apply below_alloc | apply pw_below_drewN | apply below_drew1 | refine below_set ?_ GE98.out | refine below_set ?_ GE99.out) | exact HB.out)⟩
            rw [if_neg c47] at H
            obtain ⟨c47b0, c47b1⟩ := eF_ c47
            by_cases c51 : (t4d.size : Int) > 20
            rotate_left
            · rw [if_neg c51] at H
              have c51b0 : decide (20 < (t4d.size : Int)) = false := decide_eq_false c51
              have c51b1 : decide (20 < t4d.size) = false := decide_eq_false (by omega)
              clear c51
              have H' := A_ H
              clear H
              have p39 : 0 ≤ (x7_1 : Int) := od_
              have q39 : x7_1 < (a0.size : Int) := od_
              have hx39 := bt_at a0 x7_1
              replace p39 := eq_true p39
              replace q39 := eq_true q39
              go_wp2_with (first | ((with_reducible refine gc_ (f := 58) rfl ?_); refine goesL_ (some 79) rfl rfl Tryz.func58 (by kernel_rfl) rfl #[.string (a0.extract ((ji41) : Int).toNat (x7_1 : Int).toNat)] rfl (by (try simp only [List.map_toArray, List.map_cons, List.map_nil]); first | done | (simp only [hji41]; rfl) | rfl | (simp only [List.length_drop, List.length_take]; rfl)) ?_; (with_reducible refine (spec_Unescape.calls k1 (a0.extract ((ji41) : Int).toNat (x7_1 : Int).toNat) t4d true _ A45.out).mono ?_); rintro e w55 ⟨rfl, hb⟩; refine ⟨_, rfl, ?_⟩; replace BK98 := A_ (bw_ BK98.out hb); replace BK99 := A_ (bw_ BK99.out hb); replace HB := A_ (below_step (by repeat (first | (with_reducible first | exact HB.out | apply below_alloc | apply pw_below_drewN | apply below_drew1 | refine below_set ?_ GE98.out | refine below_set ?_ GE99.out) | exact HB.out)) hb); clear hb; have hnb56 := NB138_132.out; have hnc56 := NB132_138.out; obtain ⟨hcz57_0, hcz57_1, hcz57_2, hcz57_3, hcz57_4, hfz57_0, hfz57_1, hfz57_2, hfz57_3, hfz57_4⟩ := cz5_ BK99.out))
              go_meet
              case rel => exact ⟨_, (wrap64 (x7_1 + 1)), (0), ((⟨#[]⟩ : ByteArray)), ((⟨#[]⟩ : ByteArray)), (false), ((⟨#[]⟩ : ByteArray)), (t4d), (true), rs_, H', ⟨by have := HK1.out; first | omega | exact Nat.le_refl _⟩, ⟨by (with_reducible repeat (first | refine blk_drewN ?_ _ | refine blk_drew ?_ | refine blk_alloc ?_ _)); refine blk_far ?_ NB132_138.out _; (with_reducible repeat (first | refine blk_drewN ?_ _ | refine blk_drew ?_ | refine blk_alloc ?_ _)); refine blk_far ?_ NB132_138.out _; (with_reducible repeat (first | refine blk_drewN ?_ _ | refine blk_drew ?_ | refine blk_alloc ?_ _)); exact BK98.out⟩, ⟨by (with_reducible repeat (first | refine blk_drewN ?_ _ | refine blk_drew ?_ | refine blk_alloc ?_ _)); with_reducible exact p5_23_ (vb_ BK99.out)⟩, ⟨by repeat (first | (with_reducible first | exact HB.out | apply below_alloc | apply pw_below_drewN | apply below_drew1 | refine below_set ?_ GE98.out | refine below_set ?_ GE99.out) | exact HB.out)⟩⟩
            rw [if_pos c51] at H
            have c51b0 : decide (20 < (t4d.size : Int)) = true := decide_eq_true c51
            have c51b1 : decide (20 < t4d.size) = true := decide_eq_true (by omega)
            clear c51
            simp only [Option.some.injEq, Prod.mk.injEq] at H
            obtain ⟨rfl, rfl, rfl, rfl, rfl, rfl⟩ := H
            have p39 : 0 ≤ (x7_1 : Int) := od_
            have q39 : x7_1 < (a0.size : Int) := od_
            have hx39 := bt_at a0 x7_1
            replace p39 := eq_true p39
            replace q39 := eq_true q39
            go_wp2_with (first | ((with_reducible refine gc_ (f := 58) rfl ?_); refine goesL_ (some 79) rfl rfl Tryz.func58 (by kernel_rfl) rfl #[.string (a0.extract ((ji41) : Int).toNat (x7_1 : Int).toNat)] rfl (by (try simp only [List.map_toArray, List.map_cons, List.map_nil]); first | done | (simp only [hji41]; rfl) | rfl | (simp only [List.length_drop, List.length_take]; rfl)) ?_; (with_reducible refine (spec_Unescape.calls k1 (a0.extract ((ji41) : Int).toNat (x7_1 : Int).toNat) t4d true _ A45.out).mono ?_); rintro e w52 ⟨rfl, hb⟩; refine ⟨_, rfl, ?_⟩; replace BK98 := A_ (bw_ BK98.out hb); replace HB := A_ (below_step (by repeat (first | (with_reducible first | exact HB.out | apply below_alloc | apply pw_below_drewN | apply below_drew1 | refine below_set ?_ GE98.out | refine below_set ?_ GE99.out) | exact HB.out)) hb); clear hb; have hnb53 := NB132_138.out; have hnc53 := NB138_132.out; obtain ⟨hcz54_0, hcz54_1, hcz54_2, hcz54_3, hcz54_4, hfz54_0, hfz54_1, hfz54_2, hfz54_3, hfz54_4⟩ := cz5_ BK98.out))
            refine bodyPost_ret (results_ct rfl _ _ gb98 82 #[.int .i64 0, .string (⟨#[]⟩ : ByteArray), .string (⟨#[]⟩ : ByteArray), .bool false, .string (⟨#[]⟩ : ByteArray)] (0, 0) _ rfl (by (with_reducible repeat (first | refine blk_drewN ?_ _ | refine blk_drew ?_ | refine blk_alloc ?_ _)); with_reducible exact p5_01234_ (vb_ BK98.out)) Tryz.underlying82 rfl (by kernel_rfl)) rfl ?_
            exact ⟨by first | rfl | (simp [errW_none, errW_some] <;> rfl) | (simp only [← hji24, ← hji41]; first | rfl | (simp [errW_none, errW_some] <;> rfl)) | (simp [*, errW_none, errW_some] <;> rfl), by repeat (first | (with_reducible first | exact HB.out | apply below_alloc | apply pw_below_drewN | apply below_drew1 | refine below_set ?_ GE98.out | refine below_set ?_ GE99.out) | exact HB.out)⟩
          · replace c46 := Bool.eq_false_iff.mpr c46
            subst c46
            rw [if_neg nf_] at H
            simp only [Option.some.injEq, Prod.mk.injEq] at H
            obtain ⟨rfl, rfl, rfl, rfl, rfl, rfl⟩ := H
            have p39 : 0 ≤ (x7_1 : Int) := od_
            have q39 : x7_1 < (a0.size : Int) := od_
            have hx39 := bt_at a0 x7_1
            replace p39 := eq_true p39
            replace q39 := eq_true q39
            go_wp2_with (first | ((with_reducible refine gc_ (f := 58) rfl ?_); refine goesL_ (some 79) rfl rfl Tryz.func58 (by kernel_rfl) rfl #[.string (a0.extract ((ji41) : Int).toNat (x7_1 : Int).toNat)] rfl (by (try simp only [List.map_toArray, List.map_cons, List.map_nil]); first | done | (simp only [hji41]; rfl) | rfl | (simp only [List.length_drop, List.length_take]; rfl)) ?_; (with_reducible refine (spec_Unescape.calls k1 (a0.extract ((ji41) : Int).toNat (x7_1 : Int).toNat) t4d false _ A45.out).mono ?_); rintro e w58 ⟨rfl, hb⟩; refine ⟨_, rfl, ?_⟩; replace BK98 := A_ (bw_ BK98.out hb); replace HB := A_ (below_step (by repeat (first | (with_reducible first | exact HB.out | apply below_alloc | apply pw_below_drewN | apply below_drew1 | refine below_set ?_ GE98.out | refine below_set ?_ GE99.out) | exact HB.out)) hb); clear hb; have hnb59 := NB132_138.out; have hnc59 := NB138_132.out; obtain ⟨hcz60_0, hcz60_1, hcz60_2, hcz60_3, hcz60_4, hfz60_0, hfz60_1, hfz60_2, hfz60_3, hfz60_4⟩ := cz5_ BK98.out))
            refine bodyPost_ret (results_ct rfl _ _ gb98 82 #[.int .i64 0, .string (⟨#[]⟩ : ByteArray), .string (⟨#[]⟩ : ByteArray), .bool false, .string (⟨#[]⟩ : ByteArray)] (0, 0) _ rfl (by (with_reducible repeat (first | refine blk_drewN ?_ _ | refine blk_drew ?_ | refine blk_alloc ?_ _)); with_reducible exact p5_01234_ (vb_ BK98.out)) Tryz.underlying82 rfl (by kernel_rfl)) rfl ?_
            exact ⟨by first | rfl | (simp [errW_none, errW_some] <;> rfl) | (simp only [← hji24, ← hji41]; first | rfl | (simp [errW_none, errW_some] <;> rfl)) | (simp [*, errW_none, errW_some] <;> rfl), by repeat (first | (with_reducible first | exact HB.out | apply below_alloc | apply pw_below_drewN | apply below_drew1 | refine below_set ?_ GE98.out | refine below_set ?_ GE99.out) | exact HB.out)⟩
      · replace c36 := Bool.eq_false_iff.mpr c36
        subst c36
        rw [if_neg nf_] at H
        have H' := A_ H
        clear H
        go_wp2
        go_meet
        case rel => exact ⟨_, (t1d), (0), ((⟨#[]⟩ : ByteArray)), ((⟨#[]⟩ : ByteArray)), (false), ((⟨#[]⟩ : ByteArray)), ((⟨#[]⟩ : ByteArray)), (false), rs_, H', ⟨by first | omega | exact Nat.le_refl _⟩, ⟨by (with_reducible repeat (first | refine blk_drewN ?_ _ | refine blk_drew ?_ | refine blk_alloc ?_ _)); refine blk_far ?_ NB132_138.out _; (with_reducible repeat (first | refine blk_drewN ?_ _ | refine blk_drew ?_ | refine blk_alloc ?_ _)); refine blk_far ?_ NB132_138.out _; (with_reducible repeat (first | refine blk_drewN ?_ _ | refine blk_drew ?_ | refine blk_alloc ?_ _)); refine blk_far ?_ NB132_138.out _; (with_reducible repeat (first | refine blk_drewN ?_ _ | refine blk_drew ?_ | refine blk_alloc ?_ _)); refine blk_far ?_ NB132_138.out _; (with_reducible repeat (first | refine blk_drewN ?_ _ | refine blk_drew ?_ | refine blk_alloc ?_ _)); refine blk_far ?_ NB132_138.out _; (with_reducible repeat (first | refine blk_drewN ?_ _ | refine blk_drew ?_ | refine blk_alloc ?_ _)); exact BK98.out⟩, ⟨by (with_reducible repeat (first | refine blk_drewN ?_ _ | refine blk_drew ?_ | refine blk_alloc ?_ _)); with_reducible exact p5_01234_ (vb_ BK99.out)⟩, ⟨by repeat (first | (with_reducible first | exact HB.out | apply below_alloc | apply pw_below_drewN | apply below_drew1 | refine below_set ?_ GE98.out | refine below_set ?_ GE99.out) | exact HB.out)⟩⟩
     case rest =>
      clear HC31
      try clear c4
      try clear c25
      try clear c25b0
      try clear c25b1
      try clear c26
      try clear c26b0
      try clear c26b1
      try clear c27
      try clear c27b0
      try clear c27b1
      try clear c29
      try clear hcz35_0
      try clear hcz35_1
      try clear hcz35_2
      try clear hcz35_3
      try clear hcz35_4
      try clear hfz35_0
      try clear hfz35_1
      try clear hfz35_2
      try clear hfz35_3
      try clear hfz35_4
      obtain ⟨kq, x7_30, x133000_30, x133001_30, x133002_30, x133003_30, x133004_30, x139002_30, x139003_30, rfl, HA, HJ30, BK98, BK99, HB⟩ := hcut
      cases kq with
      | zero => exact absurd HA.out (by simp [spec_l7Mark.j1])
      | succ kj30 =>
       have H := HA.out
       clear HA
       simp only [spec_l7Mark.j1] at H
       obtain ⟨t3e, A81, H⟩ := bo_ H
       (try dsimp only at H)
       by_cases c82 : t3e = true
       · subst c82
         rw [if_pos rfl] at H
         simp only [Option.some.injEq, Prod.mk.injEq] at H
         obtain ⟨rfl, rfl, rfl, rfl, rfl, rfl⟩ := H
         go_wp2_with (first | ((with_reducible refine gc_ (f := 77) rfl ?_); refine gL_ (some 104) Tryz.func77 #[.string a0, .int .i64 x7_30, .string (⟨#[62]⟩ : ByteArray)] ?_; (with_reducible refine (spec_l7At.calls a0 x7_30 (⟨#[62]⟩ : ByteArray) true _ A81.out).mono ?_); rintro e w' ⟨rfl, ⟨nd, rfl⟩⟩; refine ⟨_, rfl, ?_⟩; (try (rw [drewN_self wc]; generalize hq_ : World.drewN wc _ = wc; have n0_ : Aside0 (wc.heap[gb98]? = some (.cells #[.int .i64 x133000_30, .string x133001_30, .string x133002_30, .bool x133003_30, .string x133004_30] 82 (0, 0))) := ⟨by rw [← hq_]; exact (vb_ BK98.out)⟩; have n1_ : Aside0 (wc.heap[gb99]? = some (.cells #[.int .i64 1, .string (a0.extract ((ji24) : Int).toNat (t1d : Int).toNat), .string x139002_30, .bool x139003_30, .string (⟨#[]⟩ : ByteArray)] 82 (0, 0))) := ⟨by rw [← hq_]; exact (vb_ BK99.out)⟩; have n2_ : Aside0 (Below w.heap.size w wc) := ⟨by rw [← hq_]; exact (by repeat (first | (with_reducible first | exact HB.out | apply below_alloc | apply pw_below_drewN | apply below_drew1 | refine below_set ?_ GE98.out | refine below_set ?_ GE99.out) | exact HB.out))⟩; clear BK98 BK99 HB hq_; have BK98 := n0_; have BK99 := n1_; have HB := n2_; clear n0_ n1_ n2_)); have hnb83 := NB138_132.out; have hnc83 := NB132_138.out; have hcz84_0 : wc.cell? ⟨gb99, 0, none⟩ = some (.int .i64 1) := bl_ BK99.out 0; have hcz84_1 : wc.cell? ⟨gb99, 1, none⟩ = some (.string (a0.extract ((ji24) : Int).toNat (t1d : Int).toNat)) := bl_ BK99.out 1; have hcz84_2 : wc.cell? ⟨gb99, 2, none⟩ = some (.string x139002_30) := bl_ BK99.out 2; have hcz84_3 : wc.cell? ⟨gb99, 3, none⟩ = some (.bool x139003_30) := bl_ BK99.out 3; have hcz84_4 : wc.cell? ⟨gb99, 4, none⟩ = some (.string (⟨#[]⟩ : ByteArray)) := bl_ BK99.out 4; have hfz84_0 := blk_frozen BK99.out 0; have hfz84_1 := blk_frozen BK99.out 1; have hfz84_2 := blk_frozen BK99.out 2; have hfz84_3 := blk_frozen BK99.out 3; have hfz84_4 := blk_frozen BK99.out 4; have hcz85_0 : wc.cell? ⟨gb98, 0, none⟩ = some (.int .i64 x133000_30) := bl_ BK98.out 0; have hcz85_1 : wc.cell? ⟨gb98, 1, none⟩ = some (.string x133001_30) := bl_ BK98.out 1; have hcz85_2 : wc.cell? ⟨gb98, 2, none⟩ = some (.string x133002_30) := bl_ BK98.out 2; have hcz85_3 : wc.cell? ⟨gb98, 3, none⟩ = some (.bool x133003_30) := bl_ BK98.out 3; have hcz85_4 : wc.cell? ⟨gb98, 4, none⟩ = some (.string x133004_30) := bl_ BK98.out 4; have hfz85_0 := blk_frozen BK98.out 0; have hfz85_1 := blk_frozen BK98.out 1; have hfz85_2 := blk_frozen BK98.out 2; have hfz85_3 := blk_frozen BK98.out 3; have hfz85_4 := blk_frozen BK98.out 4))
         refine bodyPost_ret (results_ct rfl _ _ gb98 82 #[.int .i64 1, .string (a0.extract ((ji24) : Int).toNat (t1d : Int).toNat), .string x139002_30, .bool x139003_30, .string (⟨#[]⟩ : ByteArray)] (0, 0) _ rfl (by (with_reducible repeat (first | refine blk_drewN ?_ _ | refine blk_drew ?_ | refine blk_alloc ?_ _)); with_reducible exact p5_01234_ (vb_ BK98.out)) Tryz.underlying82 rfl (by kernel_rfl)) rfl ?_
         exact ⟨by first | rfl | (simp [errW_none, errW_some] <;> rfl) | (simp only [← hji24]; first | rfl | (simp [errW_none, errW_some] <;> rfl)) | (simp [*, errW_none, errW_some] <;> rfl), by repeat (first | (with_reducible first | exact HB.out | apply below_alloc | apply pw_below_drewN | apply below_drew1 | refine below_set ?_ GE98.out | refine below_set ?_ GE99.out) | exact HB.out)⟩
       · replace c82 := Bool.eq_false_iff.mpr c82
         subst c82
         rw [if_neg nf_] at H
         obtain ⟨t4e, A86, H⟩ := bo_ H
         (try dsimp only at H)
         by_cases c87 : t4e = true
         · subst c87
           rw [if_pos rfl] at H
           simp only [Option.some.injEq, Prod.mk.injEq] at H
           obtain ⟨rfl, rfl, rfl, rfl, rfl, rfl⟩ := H
           go_wp2_with (first | ((with_reducible refine gc_ (f := 77) rfl ?_); refine gL_ (some 104) Tryz.func77 #[.string a0, .int .i64 x7_30, .string (⟨#[62]⟩ : ByteArray)] ?_; (with_reducible refine (spec_l7At.calls a0 x7_30 (⟨#[62]⟩ : ByteArray) false _ A81.out).mono ?_); rintro e w' ⟨rfl, ⟨nd, rfl⟩⟩; refine ⟨_, rfl, ?_⟩; (try (rw [drewN_self wc]; generalize hq_ : World.drewN wc _ = wc; have n0_ : Aside0 (wc.heap[gb98]? = some (.cells #[.int .i64 x133000_30, .string x133001_30, .string x133002_30, .bool x133003_30, .string x133004_30] 82 (0, 0))) := ⟨by rw [← hq_]; exact (vb_ BK98.out)⟩; have n1_ : Aside0 (wc.heap[gb99]? = some (.cells #[.int .i64 1, .string (a0.extract ((ji24) : Int).toNat (t1d : Int).toNat), .string x139002_30, .bool x139003_30, .string (⟨#[]⟩ : ByteArray)] 82 (0, 0))) := ⟨by rw [← hq_]; exact (vb_ BK99.out)⟩; have n2_ : Aside0 (Below w.heap.size w wc) := ⟨by rw [← hq_]; exact (by repeat (first | (with_reducible first | exact HB.out | apply below_alloc | apply pw_below_drewN | apply below_drew1 | refine below_set ?_ GE98.out | refine below_set ?_ GE99.out) | exact HB.out))⟩; clear BK98 BK99 HB hq_; have BK98 := n0_; have BK99 := n1_; have HB := n2_; clear n0_ n1_ n2_))) | ((with_reducible refine gc_ (f := 77) rfl ?_); refine gL_ (some 111) Tryz.func77 #[.string a0, .int .i64 x7_30, .string (⟨#[47, 62]⟩ : ByteArray)] ?_; (with_reducible refine (spec_l7At.calls a0 x7_30 (⟨#[47, 62]⟩ : ByteArray) true _ A86.out).mono ?_); rintro e w' ⟨rfl, ⟨nd, rfl⟩⟩; refine ⟨_, rfl, ?_⟩; (try (rw [drewN_self wc]; generalize hq_ : World.drewN wc _ = wc; have n0_ : Aside0 (wc.heap[gb98]? = some (.cells #[.int .i64 x133000_30, .string x133001_30, .string x133002_30, .bool x133003_30, .string x133004_30] 82 (0, 0))) := ⟨by rw [← hq_]; exact (vb_ BK98.out)⟩; have n1_ : Aside0 (wc.heap[gb99]? = some (.cells #[.int .i64 1, .string (a0.extract ((ji24) : Int).toNat (t1d : Int).toNat), .string x139002_30, .bool x139003_30, .string (⟨#[]⟩ : ByteArray)] 82 (0, 0))) := ⟨by rw [← hq_]; exact (vb_ BK99.out)⟩; have n2_ : Aside0 (Below w.heap.size w wc) := ⟨by rw [← hq_]; exact (by repeat (first | (with_reducible first | exact HB.out | apply below_alloc | apply pw_below_drewN | apply below_drew1 | refine below_set ?_ GE98.out | refine below_set ?_ GE99.out) | exact HB.out))⟩; clear BK98 BK99 HB hq_; have BK98 := n0_; have BK99 := n1_; have HB := n2_; clear n0_ n1_ n2_)); have hnb88 := NB138_132.out; have hnc88 := NB132_138.out; have hcz89_0 : wc.cell? ⟨gb99, 0, none⟩ = some (.int .i64 1) := bl_ BK99.out 0; have hcz89_1 : wc.cell? ⟨gb99, 1, none⟩ = some (.string (a0.extract ((ji24) : Int).toNat (t1d : Int).toNat)) := bl_ BK99.out 1; have hcz89_2 : wc.cell? ⟨gb99, 2, none⟩ = some (.string x139002_30) := bl_ BK99.out 2; have hcz89_3 : wc.cell? ⟨gb99, 3, none⟩ = some (.bool x139003_30) := bl_ BK99.out 3; have hcz89_4 : wc.cell? ⟨gb99, 4, none⟩ = some (.string (⟨#[]⟩ : ByteArray)) := bl_ BK99.out 4; have hfz89_0 := blk_frozen BK99.out 0; have hfz89_1 := blk_frozen BK99.out 1; have hfz89_2 := blk_frozen BK99.out 2; have hfz89_3 := blk_frozen BK99.out 3; have hfz89_4 := blk_frozen BK99.out 4; have hcz90_0 : wc.cell? ⟨gb98, 0, none⟩ = some (.int .i64 x133000_30) := bl_ BK98.out 0; have hcz90_1 : wc.cell? ⟨gb98, 1, none⟩ = some (.string x133001_30) := bl_ BK98.out 1; have hcz90_2 : wc.cell? ⟨gb98, 2, none⟩ = some (.string x133002_30) := bl_ BK98.out 2; have hcz90_3 : wc.cell? ⟨gb98, 3, none⟩ = some (.bool x133003_30) := bl_ BK98.out 3; have hcz90_4 : wc.cell? ⟨gb98, 4, none⟩ = some (.string x133004_30) := bl_ BK98.out 4; have hfz90_0 := blk_frozen BK98.out 0; have hfz90_1 := blk_frozen BK98.out 1; have hfz90_2 := blk_frozen BK98.out 2; have hfz90_3 := blk_frozen BK98.out 3; have hfz90_4 := blk_frozen BK98.out 4))
           refine bodyPost_ret (results_ct rfl _ _ gb98 82 #[.int .i64 3, .string (a0.extract ((ji24) : Int).toNat (t1d : Int).toNat), .string x139002_30, .bool x139003_30, .string (⟨#[]⟩ : ByteArray)] (0, 0) _ rfl (by (with_reducible repeat (first | refine blk_drewN ?_ _ | refine blk_drew ?_ | refine blk_alloc ?_ _)); refine blk_put (cs := #[.int .i64 3, .string (a0.extract ((ji24) : Int).toNat (t1d : Int).toNat), .string x139002_30, .bool x139003_30, .string x133004_30]) ?_ 4 _ rfl; (with_reducible repeat (first | refine blk_drewN ?_ _ | refine blk_drew ?_ | refine blk_alloc ?_ _)); refine blk_put (cs := #[.int .i64 3, .string (a0.extract ((ji24) : Int).toNat (t1d : Int).toNat), .string x139002_30, .bool x133003_30, .string x133004_30]) ?_ 3 _ rfl; (with_reducible repeat (first | refine blk_drewN ?_ _ | refine blk_drew ?_ | refine blk_alloc ?_ _)); refine blk_put (cs := #[.int .i64 3, .string (a0.extract ((ji24) : Int).toNat (t1d : Int).toNat), .string x133002_30, .bool x133003_30, .string x133004_30]) ?_ 2 _ rfl; (with_reducible repeat (first | refine blk_drewN ?_ _ | refine blk_drew ?_ | refine blk_alloc ?_ _)); refine blk_put (cs := #[.int .i64 3, .string x133001_30, .string x133002_30, .bool x133003_30, .string x133004_30]) ?_ 1 _ rfl; (with_reducible repeat (first | refine blk_drewN ?_ _ | refine blk_drew ?_ | refine blk_alloc ?_ _)); refine blk_put (cs := #[.int .i64 x133000_30, .string x133001_30, .string x133002_30, .bool x133003_30, .string x133004_30]) ?_ 0 _ rfl; (with_reducible repeat (first | refine blk_drewN ?_ _ | refine blk_drew ?_ | refine blk_alloc ?_ _)); refine blk_far ?_ NB132_138.out _; (with_reducible repeat (first | refine blk_drewN ?_ _ | refine blk_drew ?_ | refine blk_alloc ?_ _)); exact BK98.out) Tryz.underlying82 rfl (by kernel_rfl)) rfl ?_
           exact ⟨by first | rfl | (simp [errW_none, errW_some] <;> rfl) | (simp only [← hji24]; first | rfl | (simp [errW_none, errW_some] <;> rfl)) | (simp [*, errW_none, errW_some] <;> rfl), by repeat (first | (with_reducible first | exact HB.out | apply below_alloc | apply pw_below_drewN | apply below_drew1 | refine below_set ?_ GE98.out | refine below_set ?_ GE99.out) | exact HB.out)⟩
         · replace c87 := Bool.eq_false_iff.mpr c87
           subst c87
           rw [if_neg nf_] at H
           simp only [Option.some.injEq, Prod.mk.injEq] at H
           obtain ⟨rfl, rfl, rfl, rfl, rfl, rfl⟩ := H
           go_wp2_with (first | ((with_reducible refine gc_ (f := 77) rfl ?_); refine gL_ (some 104) Tryz.func77 #[.string a0, .int .i64 x7_30, .string (⟨#[62]⟩ : ByteArray)] ?_; (with_reducible refine (spec_l7At.calls a0 x7_30 (⟨#[62]⟩ : ByteArray) false _ A81.out).mono ?_); rintro e w' ⟨rfl, ⟨nd, rfl⟩⟩; refine ⟨_, rfl, ?_⟩; (try (rw [drewN_self wc]; generalize hq_ : World.drewN wc _ = wc; have n0_ : Aside0 (wc.heap[gb98]? = some (.cells #[.int .i64 x133000_30, .string x133001_30, .string x133002_30, .bool x133003_30, .string x133004_30] 82 (0, 0))) := ⟨by rw [← hq_]; exact (vb_ BK98.out)⟩; have n2_ : Aside0 (Below w.heap.size w wc) := ⟨by rw [← hq_]; exact (by repeat (first | (with_reducible first | exact HB.out | apply below_alloc | apply pw_below_drewN | apply below_drew1 | refine below_set ?_ GE98.out | refine below_set ?_ GE99.out) | exact HB.out))⟩; clear BK98 BK99 HB hq_; have BK98 := n0_; have HB := n2_; clear n0_ n2_))) | ((with_reducible refine gc_ (f := 77) rfl ?_); refine gL_ (some 111) Tryz.func77 #[.string a0, .int .i64 x7_30, .string (⟨#[47, 62]⟩ : ByteArray)] ?_; (with_reducible refine (spec_l7At.calls a0 x7_30 (⟨#[47, 62]⟩ : ByteArray) false _ A86.out).mono ?_); rintro e w' ⟨rfl, ⟨nd, rfl⟩⟩; refine ⟨_, rfl, ?_⟩; (try (rw [drewN_self wc]; generalize hq_ : World.drewN wc _ = wc; have n0_ : Aside0 (wc.heap[gb98]? = some (.cells #[.int .i64 x133000_30, .string x133001_30, .string x133002_30, .bool x133003_30, .string x133004_30] 82 (0, 0))) := ⟨by rw [← hq_]; exact (vb_ BK98.out)⟩; have n2_ : Aside0 (Below w.heap.size w wc) := ⟨by rw [← hq_]; exact (by repeat (first | (with_reducible first | exact HB.out | apply below_alloc | apply pw_below_drewN | apply below_drew1 | refine below_set ?_ GE98.out | refine below_set ?_ GE99.out) | exact HB.out))⟩; clear BK98 HB hq_; have BK98 := n0_; have HB := n2_; clear n0_ n2_)); have hnb91 := NB132_138.out; have hnc91 := NB138_132.out; have hcz92_0 : wc.cell? ⟨gb98, 0, none⟩ = some (.int .i64 x133000_30) := bl_ BK98.out 0; have hcz92_1 : wc.cell? ⟨gb98, 1, none⟩ = some (.string x133001_30) := bl_ BK98.out 1; have hcz92_2 : wc.cell? ⟨gb98, 2, none⟩ = some (.string x133002_30) := bl_ BK98.out 2; have hcz92_3 : wc.cell? ⟨gb98, 3, none⟩ = some (.bool x133003_30) := bl_ BK98.out 3; have hcz92_4 : wc.cell? ⟨gb98, 4, none⟩ = some (.string x133004_30) := bl_ BK98.out 4; have hfz92_0 := blk_frozen BK98.out 0; have hfz92_1 := blk_frozen BK98.out 1; have hfz92_2 := blk_frozen BK98.out 2; have hfz92_3 := blk_frozen BK98.out 3; have hfz92_4 := blk_frozen BK98.out 4))
           refine bodyPost_ret (results_ct rfl _ _ gb98 82 #[.int .i64 0, .string (⟨#[]⟩ : ByteArray), .string (⟨#[]⟩ : ByteArray), .bool false, .string (⟨#[]⟩ : ByteArray)] (0, 0) _ rfl (by (with_reducible repeat (first | refine blk_drewN ?_ _ | refine blk_drew ?_ | refine blk_alloc ?_ _)); with_reducible exact p5_01234_ (vb_ BK98.out)) Tryz.underlying82 rfl (by kernel_rfl)) rfl ?_
           exact ⟨by first | rfl | (simp [errW_none, errW_some] <;> rfl) | (simp only [← hji24]; first | rfl | (simp [errW_none, errW_some] <;> rfl)) | (simp [*, errW_none, errW_some] <;> rfl), by repeat (first | (with_reducible first | exact HB.out | apply below_alloc | apply pw_below_drewN | apply below_drew1 | refine below_set ?_ GE98.out | refine below_set ?_ GE99.out) | exact HB.out)⟩
   · replace c29 := Bool.eq_false_iff.mpr c29
     subst c29
     rw [if_neg nf_] at H
     simp only [Option.some.injEq, Prod.mk.injEq] at H
     obtain ⟨rfl, rfl, rfl, rfl, rfl, rfl⟩ := H
     go_enter Tryz.func57, Tryz.ntmps57
     go_wp2_with (first | ((with_reducible refine gd_ (N := 4) rfl ?_); (try (refine gate_guard (by rfl) ?_; dsimp only)); refine bx_ (N := 4) (cs := #[.int .i64 0, .string (⟨#[]⟩ : ByteArray), .string (⟨#[]⟩ : ByteArray), .bool false, .string (⟨#[]⟩ : ByteArray)]) (t := 82) ?_; intro gb98 hg w93 hbox hb; have BK98 := A_ (hbox); have GW98 := A_ (ge_ hg bB_ : w.heap.size ≤ gb98); have GE98 := A_ (ge_ hg bB_ : w.heap.size ≤ gb98); replace HB := A_ (below_step bB_ hb); clear hb hbox hg) | ((with_reducible refine gc_ (f := 77) rfl ?_); refine gL_ (some 14) Tryz.func77 #[.string a0, .int .i64 a1, .string (⟨#[60, 47]⟩ : ByteArray)] ?_; (with_reducible refine (spec_l7At.calls a0 a1 (⟨#[60, 47]⟩ : ByteArray) false _ A3.out).mono ?_); rintro e w' ⟨rfl, ⟨nd, rfl⟩⟩; refine ⟨_, rfl, ?_⟩; (try (rw [drewN_self w93]; generalize hq_ : World.drewN w93 _ = w93; have n0_ : Aside0 (w93.heap[gb98]? = some (.cells #[.int .i64 0, .string (⟨#[]⟩ : ByteArray), .string (⟨#[]⟩ : ByteArray), .bool false, .string (⟨#[]⟩ : ByteArray)] 82 (0, 0))) := ⟨by rw [← hq_]; exact (vb_ BK98.out)⟩; have n1_ : Aside0 (Below w.heap.size w w93) := ⟨by rw [← hq_]; exact (bG_ GE98.out)⟩; clear BK98 HB hq_; have BK98 := n0_; have HB := n1_; clear n0_ n1_))) | ((with_reducible refine gc_ (f := 78) rfl ?_); refine goesL_ (some 44) rfl rfl Tryz.func78 (by kernel_rfl) rfl #[.string a0, .int .i64 ji24] rfl (by (try simp only [List.map_toArray, List.map_cons, List.map_nil]); first | done | (simp only [hji24]; rfl) | rfl | (simp only [List.length_drop, List.length_take]; rfl)) ?_; (with_reducible refine (spec_l7Name.calls k a0 ji24 t1d _ A23.out).mono ?_); rintro e w' ⟨rfl, ⟨nd, rfl⟩⟩; refine ⟨_, rfl, ?_⟩; (try (rw [drewN_self w93]; generalize hq_ : World.drewN w93 _ = w93; have n0_ : Aside0 (w93.heap[gb98]? = some (.cells #[.int .i64 0, .string (⟨#[]⟩ : ByteArray), .string (⟨#[]⟩ : ByteArray), .bool false, .string (⟨#[]⟩ : ByteArray)] 82 (0, 0))) := ⟨by rw [← hq_]; exact (vb_ BK98.out)⟩; have n1_ : Aside0 (Below w.heap.size w w93) := ⟨by rw [← hq_]; exact (bG_ GE98.out)⟩; clear BK98 HB hq_; have BK98 := n0_; have HB := n1_; clear n0_ n1_))) | ((with_reducible refine gd_ (N := 8) rfl ?_); (try (refine gate_guard (by rfl) ?_; dsimp only)); refine bx_ (N := 8) (cs := #[.int .i64 0, .string (⟨#[]⟩ : ByteArray), .string (⟨#[]⟩ : ByteArray), .bool false, .string (⟨#[]⟩ : ByteArray)]) (t := 82) ?_; intro gb99 hg w94 hbox hb; have BK99 := A_ (hbox); have GW99 := A_ (ge_ hg (bG_ GE98.out) : w.heap.size ≤ gb99); have GE99 := A_ (ge_ hg (bG_ GE98.out) : w.heap.size ≤ gb99); replace HB := A_ (below_step (bG_ GE98.out) hb); have NB132_138 := A_ (gm_ hg BK98.out); have NB138_132 := A_ (gn_ hg BK98.out); replace BK98 := A_ (bw_ BK98.out hb); clear hb hbox hg; have hnb95 := NB138_132.out; have hnc95 := NB132_138.out; obtain ⟨hcz96_0, hcz96_1, hcz96_2, hcz96_3, hcz96_4, hfz96_0, hfz96_1, hfz96_2, hfz96_3, hfz96_4⟩ := cz5_ BK99.out) | ((with_reducible refine gc_ (f := 71) rfl ?_); refine goesL_ (some 53) rfl rfl Tryz.func71 (by kernel_rfl) rfl #[.string (a0.extract ((ji24) : Int).toNat (t1d : Int).toNat)] rfl (by (try simp only [List.map_toArray, List.map_cons, List.map_nil]); first | done | (simp only [hji24]; rfl) | rfl | (simp only [List.length_drop, List.length_take]; rfl)) ?_; (with_reducible refine (spec_SmallName.calls k (a0.extract ((ji24) : Int).toNat (t1d : Int).toNat) false _ A28.out).mono ?_); rintro e w' ⟨rfl, ⟨nd, rfl⟩⟩; refine ⟨_, rfl, ?_⟩; obtain ⟨hcz97_0, hcz97_1, hcz97_2, hcz97_3, hcz97_4, hfz97_0, hfz97_1, hfz97_2, hfz97_3, hfz97_4⟩ := cz5_ BK98.out))
     refine bodyPost_ret (results_ct rfl _ _ gb98 82 #[.int .i64 0, .string (⟨#[]⟩ : ByteArray), .string (⟨#[]⟩ : ByteArray), .bool false, .string (⟨#[]⟩ : ByteArray)] (0, 0) _ rfl (by (with_reducible repeat (first | refine blk_drewN ?_ _ | refine blk_drew ?_ | refine blk_alloc ?_ _)); refine blk_put (cs := #[.int .i64 0, .string (⟨#[]⟩ : ByteArray), .string (⟨#[]⟩ : ByteArray), .bool false, .string (⟨#[]⟩ : ByteArray)]) ?_ 4 _ rfl; (with_reducible repeat (first | refine blk_drewN ?_ _ | refine blk_drew ?_ | refine blk_alloc ?_ _)); refine blk_put (cs := #[.int .i64 0, .string (⟨#[]⟩ : ByteArray), .string (⟨#[]⟩ : ByteArray), .bool false, .string (⟨#[]⟩ : ByteArray)]) ?_ 3 _ rfl; (with_reducible repeat (first | refine blk_drewN ?_ _ | refine blk_drew ?_ | refine blk_alloc ?_ _)); refine blk_put (cs := #[.int .i64 0, .string (⟨#[]⟩ : ByteArray), .string (⟨#[]⟩ : ByteArray), .bool false, .string (⟨#[]⟩ : ByteArray)]) ?_ 2 _ rfl; (with_reducible repeat (first | refine blk_drewN ?_ _ | refine blk_drew ?_ | refine blk_alloc ?_ _)); refine blk_put (cs := #[.int .i64 0, .string (⟨#[]⟩ : ByteArray), .string (⟨#[]⟩ : ByteArray), .bool false, .string (⟨#[]⟩ : ByteArray)]) ?_ 1 _ rfl; (with_reducible repeat (first | refine blk_drewN ?_ _ | refine blk_drew ?_ | refine blk_alloc ?_ _)); refine blk_put (cs := #[.int .i64 0, .string (⟨#[]⟩ : ByteArray), .string (⟨#[]⟩ : ByteArray), .bool false, .string (⟨#[]⟩ : ByteArray)]) ?_ 0 _ rfl; (with_reducible repeat (first | refine blk_drewN ?_ _ | refine blk_drew ?_ | refine blk_alloc ?_ _)); refine blk_far ?_ NB132_138.out _; (with_reducible repeat (first | refine blk_drewN ?_ _ | refine blk_drew ?_ | refine blk_alloc ?_ _)); refine blk_far ?_ NB132_138.out _; (with_reducible repeat (first | refine blk_drewN ?_ _ | refine blk_drew ?_ | refine blk_alloc ?_ _)); refine blk_far ?_ NB132_138.out _; (with_reducible repeat (first | refine blk_drewN ?_ _ | refine blk_drew ?_ | refine blk_alloc ?_ _)); refine blk_far ?_ NB132_138.out _; (with_reducible repeat (first | refine blk_drewN ?_ _ | refine blk_drew ?_ | refine blk_alloc ?_ _)); refine blk_far ?_ NB132_138.out _; (with_reducible repeat (first | refine blk_drewN ?_ _ | refine blk_drew ?_ | refine blk_alloc ?_ _)); exact BK98.out) Tryz.underlying82 rfl (by kernel_rfl)) rfl ?_
     exact ⟨by first | rfl | (simp [errW_none, errW_some] <;> rfl) | (simp only [← hji24]; first | rfl | (simp [errW_none, errW_some] <;> rfl)) | (simp [*, errW_none, errW_some] <;> rfl), by repeat (first | (with_reducible first | exact HB.out | apply below_alloc | apply pw_below_drewN | apply below_drew1 | refine below_set ?_ GE98.out | refine below_set ?_ GE99.out) | exact HB.out)⟩
end Go.Proofs.YtegkokdncakadaaGreatDoor.Q
