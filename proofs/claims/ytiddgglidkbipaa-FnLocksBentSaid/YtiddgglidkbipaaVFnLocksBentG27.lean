-- PRINTED by print.py (a twelfth state) out of the translation. Not trusted: Lean checks it.
import Derived.Test.YtiddgglidkbipaaVFnLocksBentG12
import Derived.Test.YtiddgglidkbipaaVFnLocksBentG22
import Derived.Test.YtiddgglidkbipaaVFnLocksBentG26
namespace Go.Proofs.Ytiddgglidkbipaa.Q
open Go.RowKit Go.Proofs.YtiddgglidkbipaaW.PrintWords Go.Proofs.YtiddgglidkbipaaW.PrintLast Go.Proofs.YtiddgglidkbipaaW.PrintMore
attribute [local go_sem] max2_int min2_int max_two min_two max_three min_three max_four min_four   -- for this text's walks alone
set_option linter.unusedVariables false
set_option linter.unusedSimpArgs false
def spec_AddLock.f (k : Nat) (l0 : List (S28)) (a1_0 : Int) (l1_1 : List ByteArray) (a1_2 : Bool) (a1_3 : Bool) (a1_4 : Int) : Option ((List (S28)) × Bool) := (spec_l13Copy.f k l0).bind fun t554 => ((some (([] : List (S28)) : List (S28))).bind fun y557 => (if y557.length + l0.length < 2932031007402 then ((some (y557 ++ l0 : List (S28))).bind fun y560 => ((some (([(⟨a1_0, l1_1, a1_2, a1_3, a1_4⟩ : S28)] : List (S28)) : List (S28))).bind fun y563 => (if y560.length + y563.length < 2932031007402 then ((spec_l13Copy.f k (y560 ++ y563)).bind fun t569 => ((spec_LocksOk.f k t569).bind fun t572 => (if t572 = true then (some (t569, true)) else (some (t554, false))))) else (none)))) else (none)))
def spec_AddLock.T2 : Bool × List (List Nat × List Nat) := (true, [([], []), ([], []), ([0, 1], [0, 1]), ([], []), ([3], [3]), ([2, 4, 2], [2, 4]), ([5, 5], [5]), ([6, 6, 0, 1, 2, 3, 4, 5, 6], [6])])
def spec_AddLock.B2 : List Nat := [0, 0, 3, 0, 8, 31, 63, 127]
theorem spec_AddLock.tab2 : rtab .any (opsOf Try.f47 2) = spec_AddLock.T2 := by kernel_rfl
theorem spec_AddLock.bits2 : waitsOk spec_AddLock.T2.2 spec_AddLock.B2 = true := by kernel_rfl
set_option maxHeartbeats 8000000 in
set_option maxRecDepth 100000 in
theorem spec_AddLock.calls (k : Nat) (P0_ : Nat → Prop) (A0 : Option Addr) (c0 : Nat) (l0 : List (S28)) (a1_0 : Int) (P1_1_ : Nat → Prop) (A1_1 : Option Addr) (c1_1 : Nat) (l1_1 : List ByteArray) (a1_2 : Bool) (a1_3 : Bool) (a1_4 : Int) (r1 : List (S28)) (r2 : Bool) (w : World) (hs0 : Kd.V k28 28 w w.heap.size (fun k_ => P0_ k_) (.slice A0 l0.length c0) l0) (hs1_1 : Kd.V Kd.string 9 w w.heap.size (fun k_ => P1_1_ k_) (.slice A1_1 l1_1.length c1_1) l1_1) (h : spec_AddLock.f k l0 a1_0 l1_1 a1_2 a1_3 a1_4 = some (r1, r2)) :
 Calls Try.prog 47 #[.slice A0 l0.length c0, .agg #[.int .i64 a1_0, .slice A1_1 l1_1.length c1_1, .bool a1_2, .bool a1_3, .int .i64 a1_4]] w fun e w' => ∃ v0_ : Value, e = .returned (.tuple #[v0_, .bool r2]) ∧ Kd.S k28 28 w' w.heap.size (fun k_ => (w.heap.size ≤ k_)) v0_ r1 ∧ Below w.heap.size w w' := by
 have hu28 := Try.underlying28
 have HO0 := A_ (show Kd.V k28 28 w w.heap.size (fun k_ => ((P0_ k_ ∨ P1_1_ k_) ∨ w.heap.size ≤ k_)) (.slice A0 l0.length c0) l0 from Kd.V_mono hs0 (fun k_ hk => .inl (.inl hk)))
 have HO1_1 := A_ (show Kd.V Kd.string 9 w w.heap.size (fun k_ => ((P0_ k_ ∨ P1_1_ k_) ∨ w.heap.size ≤ k_)) (.slice A1_1 l1_1.length c1_1) l1_1 from Kd.V_mono hs1_1 (fun k_ hk => .inl (.inr hk)))
 have HB := A_ (Below.refl w.heap.size w)
 have H : ((spec_l13Copy.f k l0).bind fun t554 => ((some (([] : List (S28)) : List (S28))).bind fun y557 => (if y557.length + l0.length < 2932031007402 then ((some (y557 ++ l0 : List (S28))).bind fun y560 => ((some (([(⟨a1_0, l1_1, a1_2, a1_3, a1_4⟩ : S28)] : List (S28)) : List (S28))).bind fun y563 => (if y560.length + y563.length < 2932031007402 then ((spec_l13Copy.f k (y560 ++ y563)).bind fun t569 => ((spec_LocksOk.f k t569).bind fun t572 => (if t572 = true then (some (t569, true)) else (some (t554, false))))) else (none)))) else (none)))) = some (r1, r2) := h
 clear h
 obtain ⟨t554, A3, H⟩ := bo_ H
 (try dsimp only at H)
 obtain ⟨y557, hy557⟩ : ∃ y_ : List (S28), y_ = (([] : List (S28))) := ⟨_, rfl⟩
 replace H : (if y557.length + l0.length < 2932031007402 then ((some (y557 ++ l0 : List (S28))).bind fun y560 => ((some (([(⟨a1_0, l1_1, a1_2, a1_3, a1_4⟩ : S28)] : List (S28)) : List (S28))).bind fun y563 => (if y560.length + y563.length < 2932031007402 then ((spec_l13Copy.f k (y560 ++ y563)).bind fun t569 => ((spec_LocksOk.f k t569).bind fun t572 => (if t572 = true then (some (t569, true)) else (some (t554, false))))) else (none)))) else (none)) = some (r1, r2) := hy_ hy557 H
 have Ny557 := Aside0.mk hy557
 clear hy557
 by_cases c4 : y557.length + l0.length < 2932031007402
 rotate_left
 · exact absurd H (by rw [if_neg c4]; simp)
 rw [if_pos c4] at H
 have LMc4 := Aside0.mk c4
 clear c4
 obtain ⟨y560, hy560⟩ : ∃ y_ : List (S28), y_ = (y557 ++ l0) := ⟨_, rfl⟩
 replace H : ((some (([(⟨a1_0, l1_1, a1_2, a1_3, a1_4⟩ : S28)] : List (S28)) : List (S28))).bind fun y563 => (if y560.length + y563.length < 2932031007402 then ((spec_l13Copy.f k (y560 ++ y563)).bind fun t569 => ((spec_LocksOk.f k t569).bind fun t572 => (if t572 = true then (some (t569, true)) else (some (t554, false))))) else (none))) = some (r1, r2) := hy_ hy560 H
 have Ny560 := Aside0.mk hy560
 clear hy560
 obtain ⟨y563, hy563⟩ : ∃ y_ : List (S28), y_ = (([(⟨a1_0, l1_1, a1_2, a1_3, a1_4⟩ : S28)] : List (S28))) := ⟨_, rfl⟩
 replace H : (if y560.length + y563.length < 2932031007402 then ((spec_l13Copy.f k (y560 ++ y563)).bind fun t569 => ((spec_LocksOk.f k t569).bind fun t572 => (if t572 = true then (some (t569, true)) else (some (t554, false))))) else (none)) = some (r1, r2) := hy_ hy563 H
 have Ny563 := Aside0.mk hy563
 clear hy563
 by_cases c5 : y560.length + y563.length < 2932031007402
 rotate_left
 · exact absurd H (by rw [if_neg c5]; simp)
 rw [if_pos c5] at H
 have LMc5 := Aside0.mk c5
 clear c5
 obtain ⟨y566, hy566⟩ : ∃ y_ : List (S28), y_ = (y560 ++ y563) := ⟨_, rfl⟩
 replace H : ((spec_l13Copy.f k y566).bind fun t569 => ((spec_LocksOk.f k t569).bind fun t572 => (if t572 = true then (some (t569, true)) else (some (t554, false))))) = some (r1, r2) := hy_ hy566 H
 have Ny566 := Aside0.mk hy566
 clear hy566
 obtain ⟨t569, A6, H⟩ := bo_ H
 (try dsimp only at H)
 obtain ⟨t572, A7, H⟩ := bo_ H
 (try dsimp only at H)
 by_cases c8 : t572 = true
 · subst c8
   rw [if_pos rfl] at H
   simp only [Option.some.injEq, Prod.mk.injEq] at H
   obtain ⟨rfl, rfl⟩ := H
   go_enter Try.func47, Try.ntmps47
   try go_wp2_with (first | ((with_reducible refine gate_dst (N := 3) rfl ?_); refine bx_ (N := 3) (cs := #[.int .i64 a1_0, .slice A1_1 l1_1.length c1_1, .bool a1_2, .bool a1_3, .int .i64 a1_4]) (t := 28) ?_; intro gb553 hg w9 hbox hb; replace HO0 := A_ (Kd.V_below (Kd.V_elderB (vV_ HO0.out) gb553 (Nat.le_of_eq hg.symm)) hb); replace HO1_1 := A_ (Kd.V_below (Kd.V_elderB (vV_ HO1_1.out) gb553 (Nat.le_of_eq hg.symm)) hb); have BK553 := A_ (hbox); have GW553 := A_ (ge_ hg bB_ : w.heap.size ≤ gb553); have GE553 := A_ (ge_ hg bB_ : w.heap.size ≤ gb553); replace HB := A_ (below_step bB_ hb); clear hb hbox hg) | ((with_reducible refine gate_callee (f := 68) rfl ?_); refine gL_ (some 9) Try.func68 #[.slice A0 l0.length c0] ?_; (with_reducible refine (spec_l13Copy.calls k _ _ l0 t554 _ ?s1 ?s2 A3.out).mono ?_); (case s1 => exact cC_ (Kd.V_reads' HO0.out).2.2); (case s2 => exact (Kd.V_reads' HO0.out).2.1); rintro e w10 ⟨v555, rfl, ho0, hb⟩; refine ⟨_, rfl, ?_⟩; replace HO0 := A_ (Kd.V_elder' (vV_ HO0.out) (kb_ ho0) hb); replace HO1_1 := A_ (Kd.V_elder' (vV_ HO1_1.out) (kb_ ho0) hb); have HO556 := A_ (Kd.S_lower (Kd.S_newB (Kd.S_newM (M := fun k_ => (w.heap.size ≤ k_)) ho0 (below_size (bG_ GE553.out)) (fun k_ h_ => h_)) (g := gb553) (o := .cells #[.int .i64 a1_0, .slice A1_1 l1_1.length c1_1, .bool a1_2, .bool a1_3, .int .i64 a1_4] 28 (0, 0)) (vb_ BK553.out)) (below_size (bG_ GE553.out))); replace BK553 := A_ (bw_ BK553.out hb); replace HB := A_ (below_step (bG_ GE553.out) hb); (try clear hb); (try clear ho0)))
   replace HO0 := A_ (Kd.V_drew HO0.out)
   replace HO1_1 := A_ (Kd.V_drew HO1_1.out)
   replace HO556 := A_ (Kd.S_drew HO556.out)
   replace BK553 := A_ (blk_drew BK553.out)
   replace HB := A_ (below_drew1 HB.out)
   refine start_ (n := 8) (S := fun w' => w'.cell? ⟨gb553, 0, none⟩ = some (.int .i64 a1_0) ∧ w'.cell? ⟨gb553, 1, none⟩ = some (.slice A1_1 l1_1.length c1_1) ∧ w'.cell? ⟨gb553, 2, none⟩ = some (.bool a1_2) ∧ w'.cell? ⟨gb553, 3, none⟩ = some (.bool a1_3) ∧ w'.cell? ⟨gb553, 4, none⟩ = some (.int .i64 a1_4)) (ds := []) #[false, false, false, false, false, false, false, false] (by kernel_rfl) rfl rfl (hl_ BK553.out) (fun hHeld => ?_); refine with_tabW spec_AddLock.tab2 spec_AddLock.bits2 (fun HT_ HW_ => ?_)
   generalize w10.drew = w11 at HO0 HO1_1 HO556 BK553 HB hHeld ⊢
   refine pu_ (i := 1) (N := some 11) ?_
   refine tk_ (i := 3) (N := some 13) hHeld ?_
   refine join_ (σ := Value × Value × Value) 3 #[true, true, true, true, true, false, false, false] (fun s_ => [(10, s_.1), (12, s_.2.1), (14, s_.2.2)]) (fun s_ w' => (w'.cell? ⟨gb553, 0, none⟩ = some (.int .i64 a1_0) ∧ w'.cell? ⟨gb553, 1, none⟩ = some (.slice A1_1 l1_1.length c1_1) ∧ w'.cell? ⟨gb553, 2, none⟩ = some (.bool a1_2) ∧ w'.cell? ⟨gb553, 3, none⟩ = some (.bool a1_3) ∧ w'.cell? ⟨gb553, 4, none⟩ = some (.int .i64 a1_4)) ∧ (Kd.V k28 28 w' w.heap.size (fun k_ => ((P0_ k_ ∨ P1_1_ k_) ∨ w.heap.size ≤ k_) ∧ some k_ ≠ (v555 : Value).ownBlock ∧ some k_ ≠ (s_.2.1 : Value).ownBlock ∧ some k_ ≠ (s_.2.2 : Value).ownBlock ∧ k_ ≠ gb553) (.slice A0 l0.length c0) l0) ∧ (Kd.V Kd.string 9 w' w.heap.size (fun k_ => ((P0_ k_ ∨ P1_1_ k_) ∨ w.heap.size ≤ k_) ∧ some k_ ≠ (v555 : Value).ownBlock ∧ some k_ ≠ (s_.2.1 : Value).ownBlock ∧ some k_ ≠ (s_.2.2 : Value).ownBlock ∧ k_ ≠ gb553) (.slice A1_1 l1_1.length c1_1) l1_1) ∧ (Kd.S k28 28 w' w.heap.size (fun k_ => (w.heap.size ≤ k_) ∧ some k_ ≠ (s_.2.1 : Value).ownBlock ∧ some k_ ≠ (s_.2.2 : Value).ownBlock ∧ k_ ≠ gb553) v555 t554) ∧ (Kd.N k28 28 w' w.heap.size (fun k_ => ((P0_ k_ ∨ P1_1_ k_) ∨ w.heap.size ≤ k_) ∧ some k_ ≠ (v555 : Value).ownBlock ∧ some k_ ≠ (s_.2.2 : Value).ownBlock ∧ k_ ≠ gb553) s_.2.1 y560) ∧ (Kd.N k28 28 w' w.heap.size (fun k_ => ((P0_ k_ ∨ P1_1_ k_) ∨ w.heap.size ≤ k_) ∧ some k_ ≠ (v555 : Value).ownBlock ∧ some k_ ≠ (s_.2.1 : Value).ownBlock ∧ k_ ≠ gb553) s_.2.2 y563) ∧ (w'.heap[gb553]? = some (.cells #[.int .i64 a1_0, .slice A1_1 l1_1.length c1_1, .bool a1_2, .bool a1_3, .int .i64 a1_4] 28 (0, 0))) ∧ (Below w.heap.size w w')) ?_ ?_
   rotate_left
   · intro hCont
     refine two_ (i := 0) (j := 4) (Ni := some 10) (Nj := some 14) #[true, true, false, true, false, false, false, false] #[false, true, false, true, true, false, false, false] rfl rfl rfl rfl (two_of HT_.out (by kernel_rfl)) (by decide) (by decide) (fun K hK => ?_) (fun K hK => ?_)
     · skip
       refine Kd.N_lit_step k28 _ 28 ?hg (N' := 10) ?hd (xs := ([] : List (S28))) (inner := []) (ok := (fun k_ => ((P0_ k_ ∨ P1_1_ k_) ∨ w.heap.size ≤ k_) ∧ some k_ ≠ (v555 : Value).ownBlock ∧ k_ ≠ gb553)) (okp := (fun k_ => ((P0_ k_ ∨ P1_1_ k_) ∨ w.heap.size ≤ k_) ∧ some k_ ≠ (v555 : Value).ownBlock ∧ k_ ≠ gb553)) ?hr ?hp (fun _ hk => hk) ((show ∀ k_, w11.heap.size ≤ k_ → (fun k_ => ((P0_ k_ ∨ P1_1_ k_) ∨ w.heap.size ≤ k_) ∧ some k_ ≠ (v555 : Value).ownBlock ∧ k_ ≠ gb553) k_ from fun k_ hk => ⟨(.inr (Nat.le_trans (below_size (bG_ GE553.out)) hk)), Kd.fresh' (Kd.S_lt (vS_ HO556.out)) k_ hk, Kd.freshB (g := gb553) (o := .cells #[.int .i64 a1_0, .slice A1_1 l1_1.length c1_1, .bool a1_2, .bool a1_3, .int .i64 a1_4] 28 (0, 0)) (vb_ BK553.out) k_ hk⟩) _ (Nat.le_refl _)) (Below.refl _ _) (Nat.le_refl _) (by simp) ?_; (case hd => rfl); (case hg => rfl); (case hr => first | (go_simp; done) | (go_simp; rfl)); (case hp => exact (Reps.none _ _))
       intro v558 w12 ho13 hb hg_ hnew_
       clear hg_ hnew_
       (first | rw [← Ny557.out] at ho13 | (simp only [Int.reduceToNat] at ho13; rw [← Ny557.out] at ho13))
       replace HO0 := A_ (Kd.V_elder' (vV_ HO0.out) (kb_ ho13) hb)
       replace HO1_1 := A_ (Kd.V_elder' (vV_ HO1_1.out) (kb_ ho13) hb)
       replace HO556 := A_ (Kd.S_elder' (vS_ HO556.out) (kb_ ho13) hb)
       have HO559 := A_ (Kd.N_lower ho13 (below_size (bG_ GE553.out)))
       replace BK553 := A_ (bw_ BK553.out hb)
       replace HB := A_ (below_step (bG_ GE553.out) hb)
       clear hb ho13
       refine hK.out _ _ (hl_ BK553.out) (fun hHeld => ?_)
       clear hK K
       refine no_ (some 10) ?_
       refine two_ (i := 2) (j := 4) (Ni := some 12) (Nj := some 14) #[true, true, true, true, false, false, false, false] #[true, true, false, true, true, false, false, false] rfl rfl rfl rfl (two_of HT_.out (by kernel_rfl)) (by decide) (by decide) (fun K hK => ?_) (fun K hK => ?_)
       · skip
         refine Kd.N_append_rows_step k28 (w0 := w) w.heap.size (by rfl) (.tmp 10) (.tmp 11) 39 28 (.agg #[(.int .i64 0), (.slice none 0 0), (.bool false), (.bool false), (.int .i64 0)]) 48 rfl Try.underlying39 info28 rfl (by decide) (by omega) v558 y557 l0 _ _ _ (fun k_ => ((P0_ k_ ∨ P1_1_ k_) ∨ w.heap.size ≤ k_) ∧ some k_ ≠ (v555 : Value).ownBlock ∧ k_ ≠ gb553) (fun k_ => ((fun k_ => ((P0_ k_ ∨ P1_1_ k_) ∨ w.heap.size ≤ k_) ∧ some k_ ≠ (v555 : Value).ownBlock ∧ k_ ≠ gb553)) k_ ∧ some k_ ≠ (v558 : Value).ownBlock) rfl rfl ?aO ?aR (fun _ hk => hk) ?aF ?aB ?aS ?aL ?_
         (case aR => exact (by skip; exact Kd.V_F (Kd.V_mono (ok' := (fun k_ => ((fun k_ => ((P0_ k_ ∨ P1_1_ k_) ∨ w.heap.size ≤ k_) ∧ some k_ ≠ (v555 : Value).ownBlock ∧ k_ ≠ gb553)) k_ ∧ some k_ ≠ (v558 : Value).ownBlock)) (HO0.out) (fun k_ hk => ⟨⟨hk.1.1.1, ⟨hk.1.2, hk.1.1.2⟩⟩, hk.2⟩))))
         (case aB => exact (bG_ GE553.out))
         (case aF => exact (fun k_ hk => ⟨(.inr (Nat.le_trans (below_size (bG_ GE553.out)) hk)), Kd.fresh' (Kd.S_lt (vS_ HO556.out)) k_ hk, Kd.freshB (g := gb553) (o := .cells #[.int .i64 a1_0, .slice A1_1 l1_1.length c1_1, .bool a1_2, .bool a1_3, .int .i64 a1_4] 28 (0, 0)) (vb_ BK553.out) k_ hk⟩))
         (case aO => exact (vN_ HO559.out))
         (case aS => exact (below_size (bG_ GE553.out)))
         (case aL => have := LMc4.out; omega)
         intro v561 w14 ho hb hg hat
         rw [← Ny560.out] at ho
         replace HO0 := A_ (Kd.V_afterv (ok := (fun k_ => ((P0_ k_ ∨ P1_1_ k_) ∨ w.heap.size ≤ k_) ∧ some k_ ≠ (v555 : Value).ownBlock ∧ k_ ≠ gb553)) (by (with_reducible repeat (first | apply Kd.V_alloc | apply Kd.V_drewN | apply Kd.V_drew)); exact Kd.V_mono HO0.out (fun _ hk => ⟨⟨hk.1.1.1, ⟨hk.1.2, hk.1.1.2⟩⟩, hk.2⟩)) hg hat)
         replace HO1_1 := A_ (Kd.V_afterv (ok := (fun k_ => ((P0_ k_ ∨ P1_1_ k_) ∨ w.heap.size ≤ k_) ∧ some k_ ≠ (v555 : Value).ownBlock ∧ k_ ≠ gb553)) (by (with_reducible repeat (first | apply Kd.V_alloc | apply Kd.V_drewN | apply Kd.V_drew)); exact Kd.V_mono HO1_1.out (fun _ hk => ⟨⟨hk.1.1.1, ⟨hk.1.2, hk.1.1.2⟩⟩, hk.2⟩)) hg hat)
         replace BK553 := A_ (blk_grown (g := gb553) (o := .cells #[.int .i64 a1_0, .slice A1_1 l1_1.length c1_1, .bool a1_2, .bool a1_3, .int .i64 a1_4] 28 (0, 0)) (vb_ BK553.out) hg (Kd.N_away HO559.out (fun _ hk => hk.2.2)))
         replace HO556 := A_ (Kd.S_after (ok := (fun k_ => (w.heap.size ≤ k_) ∧ k_ ≠ gb553)) (by (with_reducible repeat (first | apply Kd.S_alloc | apply Kd.S_drewN | apply Kd.S_drew)); exact Kd.S_mono HO556.out (fun _ hk => ⟨⟨hk.1.1.1, hk.1.2⟩, hk.2⟩)) hg hat)
         replace HB := A_ (hb)
         have HO562 := A_ (ho)
         clear HO559
         clear ho hb hg hat
         refine hK.out _ _ (hl_ BK553.out) (fun hHeld => ?_)
         clear hK K
         refine no_ (some 12) ?_
         refine on_ (i := 4) (N := some 14) (fun K hK => ?_)
         refine Kd.N_lit_step k28 _ 28 ?hg (N' := 14) ?hd (xs := ([(⟨a1_0, l1_1, a1_2, a1_3, a1_4⟩ : S28)] : List (S28))) (inner := [.int .i64 a1_0, .slice A1_1 l1_1.length c1_1, .bool a1_2, .bool a1_3, .int .i64 a1_4]) (ok := (fun k_ => ((P0_ k_ ∨ P1_1_ k_) ∨ w.heap.size ≤ k_) ∧ some k_ ≠ (v555 : Value).ownBlock ∧ some k_ ≠ (v561 : Value).ownBlock ∧ k_ ≠ gb553)) (okp := (fun k_ => ((P0_ k_ ∨ P1_1_ k_) ∨ w.heap.size ≤ k_) ∧ some k_ ≠ (v555 : Value).ownBlock ∧ some k_ ≠ (v561 : Value).ownBlock ∧ k_ ≠ gb553)) ?hr ?hp (fun _ hk => hk) ((show ∀ k_, w14.heap.size ≤ k_ → (fun k_ => ((P0_ k_ ∨ P1_1_ k_) ∨ w.heap.size ≤ k_) ∧ some k_ ≠ (v555 : Value).ownBlock ∧ some k_ ≠ (v561 : Value).ownBlock ∧ k_ ≠ gb553) k_ from fun k_ hk => ⟨(.inr (Nat.le_trans (below_size (bG_ GE553.out)) hk)), Kd.fresh' (Kd.S_lt (vS_ HO556.out)) k_ hk, Kd.fresh' (Kd.N_lt (vN_ HO562.out)) k_ hk, Kd.freshB (g := gb553) (o := .cells #[.int .i64 a1_0, .slice A1_1 l1_1.length c1_1, .bool a1_2, .bool a1_3, .int .i64 a1_4] 28 (0, 0)) (vb_ BK553.out) k_ hk⟩) _ (Nat.le_refl _)) (Below.refl _ _) (Nat.le_refl _) (by simp) ?_; (case hd => rfl); (case hg => rfl); (case hr => first | (go_simp; done) | (go_simp; rfl)); (case hp => exact (Reps.c5 (show Kd.FK k28 _ _ (⟨a1_0, l1_1, a1_2, a1_3, a1_4⟩ : S28) [.int .i64 a1_0, .slice A1_1 l1_1.length c1_1, .bool a1_2, .bool a1_3, .int .i64 a1_4] from (k28_mkF _ _ (⟨a1_0, l1_1, a1_2, a1_3, a1_4⟩ : S28) (Kd.V_reads' (Kd.V_mono (ok' := (fun k_ => ((P0_ k_ ∨ P1_1_ k_) ∨ w.heap.size ≤ k_) ∧ some k_ ≠ (v555 : Value).ownBlock ∧ some k_ ≠ (v561 : Value).ownBlock ∧ k_ ≠ gb553)) (HO1_1.out) (fun k_ hk => ⟨hk.1.1, ⟨hk.1.2.1, ⟨hk.2, hk.1.2.2⟩⟩⟩))).2.1 (Kd.V_F (Kd.V_mono (ok' := (fun k_ => ((P0_ k_ ∨ P1_1_ k_) ∨ w.heap.size ≤ k_) ∧ some k_ ≠ (v555 : Value).ownBlock ∧ some k_ ≠ (v561 : Value).ownBlock ∧ k_ ≠ gb553)) (HO1_1.out) (fun k_ hk => ⟨hk.1.1, ⟨hk.1.2.1, ⟨hk.2, hk.1.2.2⟩⟩⟩))))) (Reps.none _ _)))
         intro v564 w15 ho16 hb hg_ hnew_
         clear hg_ hnew_
         (first | rw [← Ny563.out] at ho16 | (simp only [Int.reduceToNat] at ho16; rw [← Ny563.out] at ho16))
         replace HO0 := A_ (Kd.V_elder' (vV_ HO0.out) (kb_ ho16) hb)
         replace HO1_1 := A_ (Kd.V_elder' (vV_ HO1_1.out) (kb_ ho16) hb)
         replace HO556 := A_ (Kd.S_elder' (vS_ HO556.out) (kb_ ho16) hb)
         replace HO562 := A_ (Kd.N_elder' (vN_ HO562.out) (kb_ ho16) hb)
         have HO565 := A_ (Kd.N_lower ho16 (below_size (bG_ GE553.out)))
         replace BK553 := A_ (bw_ BK553.out hb)
         replace HB := A_ (below_step (bG_ GE553.out) hb)
         clear hb ho16
         refine hK.out _ _ (hl_ BK553.out) (fun hHeld => ?_)
         clear hK K
         refine no_ (some 14) ?_
         exact norm_ (by simp only [putAll, Act.put, List.setIfInBounds_toArray, List.set_cons_zero, List.set_cons_succ]) (hCont (v558, v561, v564) _ ⟨hHeld, (by (with_reducible repeat (first | apply Kd.V_alloc | apply Kd.V_drewN | apply Kd.V_drew)); exact Kd.V_mono HO0.out (fun _ hk => ⟨hk.1.1.1, ⟨hk.1.1.2.1, ⟨hk.1.2, ⟨hk.2, hk.1.1.2.2⟩⟩⟩⟩)), (by (with_reducible repeat (first | apply Kd.V_alloc | apply Kd.V_drewN | apply Kd.V_drew)); exact Kd.V_mono HO1_1.out (fun _ hk => ⟨hk.1.1.1, ⟨hk.1.1.2.1, ⟨hk.1.2, ⟨hk.2, hk.1.1.2.2⟩⟩⟩⟩)), (by (with_reducible repeat (first | apply Kd.S_alloc | apply Kd.S_drewN | apply Kd.S_drew)); exact Kd.S_mono HO556.out (fun _ hk => ⟨hk.1.1.1, ⟨hk.1.2, ⟨hk.2, hk.1.1.2⟩⟩⟩)), (by (with_reducible repeat (first | apply Kd.N_alloc | apply Kd.N_drewN | apply Kd.N_drew)); exact Kd.N_mono HO562.out (fun _ hk => ⟨hk.1.1, ⟨hk.1.2.1, ⟨hk.2, hk.1.2.2⟩⟩⟩)), (vN_ HO565.out), (vb_ BK553.out), (bG_ GE553.out)⟩)
       · skip
         refine Kd.N_lit_step k28 _ 28 ?hg (N' := 14) ?hd (xs := ([(⟨a1_0, l1_1, a1_2, a1_3, a1_4⟩ : S28)] : List (S28))) (inner := [.int .i64 a1_0, .slice A1_1 l1_1.length c1_1, .bool a1_2, .bool a1_3, .int .i64 a1_4]) (ok := (fun k_ => ((P0_ k_ ∨ P1_1_ k_) ∨ w.heap.size ≤ k_) ∧ some k_ ≠ (v555 : Value).ownBlock ∧ some k_ ≠ (v558 : Value).ownBlock ∧ k_ ≠ gb553)) (okp := (fun k_ => ((P0_ k_ ∨ P1_1_ k_) ∨ w.heap.size ≤ k_) ∧ some k_ ≠ (v555 : Value).ownBlock ∧ some k_ ≠ (v558 : Value).ownBlock ∧ k_ ≠ gb553)) ?hr ?hp (fun _ hk => hk) ((show ∀ k_, w12.heap.size ≤ k_ → (fun k_ => ((P0_ k_ ∨ P1_1_ k_) ∨ w.heap.size ≤ k_) ∧ some k_ ≠ (v555 : Value).ownBlock ∧ some k_ ≠ (v558 : Value).ownBlock ∧ k_ ≠ gb553) k_ from fun k_ hk => ⟨(.inr (Nat.le_trans (below_size (bG_ GE553.out)) hk)), Kd.fresh' (Kd.S_lt (vS_ HO556.out)) k_ hk, Kd.fresh' (Kd.N_lt (vN_ HO559.out)) k_ hk, Kd.freshB (g := gb553) (o := .cells #[.int .i64 a1_0, .slice A1_1 l1_1.length c1_1, .bool a1_2, .bool a1_3, .int .i64 a1_4] 28 (0, 0)) (vb_ BK553.out) k_ hk⟩) _ (Nat.le_refl _)) (Below.refl _ _) (Nat.le_refl _) (by simp) ?_; (case hd => rfl); (case hg => rfl); (case hr => first | (go_simp; done) | (go_simp; rfl)); (case hp => exact (Reps.c5 (show Kd.FK k28 _ _ (⟨a1_0, l1_1, a1_2, a1_3, a1_4⟩ : S28) [.int .i64 a1_0, .slice A1_1 l1_1.length c1_1, .bool a1_2, .bool a1_3, .int .i64 a1_4] from (k28_mkF _ _ (⟨a1_0, l1_1, a1_2, a1_3, a1_4⟩ : S28) (Kd.V_reads' (Kd.V_mono (ok' := (fun k_ => ((P0_ k_ ∨ P1_1_ k_) ∨ w.heap.size ≤ k_) ∧ some k_ ≠ (v555 : Value).ownBlock ∧ some k_ ≠ (v558 : Value).ownBlock ∧ k_ ≠ gb553)) (HO1_1.out) (fun k_ hk => ⟨hk.1.1.1, ⟨hk.1.2, ⟨hk.2, hk.1.1.2⟩⟩⟩))).2.1 (Kd.V_F (Kd.V_mono (ok' := (fun k_ => ((P0_ k_ ∨ P1_1_ k_) ∨ w.heap.size ≤ k_) ∧ some k_ ≠ (v555 : Value).ownBlock ∧ some k_ ≠ (v558 : Value).ownBlock ∧ k_ ≠ gb553)) (HO1_1.out) (fun k_ hk => ⟨hk.1.1.1, ⟨hk.1.2, ⟨hk.2, hk.1.1.2⟩⟩⟩))))) (Reps.none _ _)))
         intro v564 w14 ho15 hb hg_ hnew_
         clear hg_ hnew_
         (first | rw [← Ny563.out] at ho15 | (simp only [Int.reduceToNat] at ho15; rw [← Ny563.out] at ho15))
         replace HO0 := A_ (Kd.V_elder' (vV_ HO0.out) (kb_ ho15) hb)
         replace HO1_1 := A_ (Kd.V_elder' (vV_ HO1_1.out) (kb_ ho15) hb)
         replace HO556 := A_ (Kd.S_elder' (vS_ HO556.out) (kb_ ho15) hb)
         replace HO559 := A_ (Kd.N_elder' (vN_ HO559.out) (kb_ ho15) hb)
         have HO565 := A_ (Kd.N_lower ho15 (below_size (bG_ GE553.out)))
         replace BK553 := A_ (bw_ BK553.out hb)
         replace HB := A_ (below_step (bG_ GE553.out) hb)
         clear hb ho15
         refine hK.out _ _ (hl_ BK553.out) (fun hHeld => ?_)
         clear hK K
         refine no_ (some 14) ?_
         refine on_ (i := 2) (N := some 12) (fun K hK => ?_)
         refine Kd.N_append_rows_step k28 (w0 := w) w.heap.size (by rfl) (.tmp 10) (.tmp 11) 39 28 (.agg #[(.int .i64 0), (.slice none 0 0), (.bool false), (.bool false), (.int .i64 0)]) 48 rfl Try.underlying39 info28 rfl (by decide) (by omega) v558 y557 l0 _ _ _ (fun k_ => ((P0_ k_ ∨ P1_1_ k_) ∨ w.heap.size ≤ k_) ∧ some k_ ≠ (v555 : Value).ownBlock ∧ some k_ ≠ (v564 : Value).ownBlock ∧ k_ ≠ gb553) (fun k_ => ((fun k_ => ((P0_ k_ ∨ P1_1_ k_) ∨ w.heap.size ≤ k_) ∧ some k_ ≠ (v555 : Value).ownBlock ∧ some k_ ≠ (v564 : Value).ownBlock ∧ k_ ≠ gb553)) k_ ∧ some k_ ≠ (v558 : Value).ownBlock) rfl rfl ?aO ?aR (fun _ hk => hk) ?aF ?aB ?aS ?aL ?_
         (case aR => exact (by skip; exact Kd.V_F (Kd.V_mono (ok' := (fun k_ => ((fun k_ => ((P0_ k_ ∨ P1_1_ k_) ∨ w.heap.size ≤ k_) ∧ some k_ ≠ (v555 : Value).ownBlock ∧ some k_ ≠ (v564 : Value).ownBlock ∧ k_ ≠ gb553)) k_ ∧ some k_ ≠ (v558 : Value).ownBlock)) (HO0.out) (fun k_ hk => ⟨⟨hk.1.1.1.1, ⟨hk.1.1.2, ⟨hk.2, hk.1.1.1.2⟩⟩⟩, hk.1.2⟩))))
         (case aB => exact (bG_ GE553.out))
         (case aF => exact (fun k_ hk => ⟨(.inr (Nat.le_trans (below_size (bG_ GE553.out)) hk)), Kd.fresh' (Kd.S_lt (vS_ HO556.out)) k_ hk, Kd.fresh' (Kd.N_lt (vN_ HO565.out)) k_ hk, Kd.freshB (g := gb553) (o := .cells #[.int .i64 a1_0, .slice A1_1 l1_1.length c1_1, .bool a1_2, .bool a1_3, .int .i64 a1_4] 28 (0, 0)) (vb_ BK553.out) k_ hk⟩))
         (case aO => exact (by (with_reducible repeat (first | apply Kd.N_alloc | apply Kd.N_drewN | apply Kd.N_drew)); exact Kd.N_mono HO559.out (fun _ hk => ⟨hk.1.1, ⟨hk.1.2.1, ⟨hk.2, hk.1.2.2⟩⟩⟩)))
         (case aS => exact (below_size (bG_ GE553.out)))
         (case aL => have := LMc4.out; omega)
         intro v561 w16 ho hb hg hat
         rw [← Ny560.out] at ho
         replace HO0 := A_ (Kd.V_afterv (ok := (fun k_ => ((P0_ k_ ∨ P1_1_ k_) ∨ w.heap.size ≤ k_) ∧ some k_ ≠ (v555 : Value).ownBlock ∧ some k_ ≠ (v564 : Value).ownBlock ∧ k_ ≠ gb553)) (by (with_reducible repeat (first | apply Kd.V_alloc | apply Kd.V_drewN | apply Kd.V_drew)); exact Kd.V_mono HO0.out (fun _ hk => ⟨⟨hk.1.1.1.1, ⟨hk.1.1.2, ⟨hk.2, hk.1.1.1.2⟩⟩⟩, hk.1.2⟩)) hg hat)
         replace HO1_1 := A_ (Kd.V_afterv (ok := (fun k_ => ((P0_ k_ ∨ P1_1_ k_) ∨ w.heap.size ≤ k_) ∧ some k_ ≠ (v555 : Value).ownBlock ∧ some k_ ≠ (v564 : Value).ownBlock ∧ k_ ≠ gb553)) (by (with_reducible repeat (first | apply Kd.V_alloc | apply Kd.V_drewN | apply Kd.V_drew)); exact Kd.V_mono HO1_1.out (fun _ hk => ⟨⟨hk.1.1.1.1, ⟨hk.1.1.2, ⟨hk.2, hk.1.1.1.2⟩⟩⟩, hk.1.2⟩)) hg hat)
         replace BK553 := A_ (blk_grown (g := gb553) (o := .cells #[.int .i64 a1_0, .slice A1_1 l1_1.length c1_1, .bool a1_2, .bool a1_3, .int .i64 a1_4] 28 (0, 0)) (vb_ BK553.out) hg (Kd.N_away HO559.out (fun _ hk => hk.1.2.2)))
         replace HO556 := A_ (Kd.S_after (ok := (fun k_ => (w.heap.size ≤ k_) ∧ some k_ ≠ (v564 : Value).ownBlock ∧ k_ ≠ gb553)) (by (with_reducible repeat (first | apply Kd.S_alloc | apply Kd.S_drewN | apply Kd.S_drew)); exact Kd.S_mono HO556.out (fun _ hk => ⟨⟨hk.1.1.1.1, ⟨hk.2, hk.1.1.2⟩⟩, hk.1.2⟩)) hg hat)
         replace HO565 := A_ (Kd.N_afterv (ok := (fun k_ => ((P0_ k_ ∨ P1_1_ k_) ∨ w.heap.size ≤ k_) ∧ some k_ ≠ (v555 : Value).ownBlock ∧ k_ ≠ gb553)) (by (with_reducible repeat (first | apply Kd.N_alloc | apply Kd.N_drewN | apply Kd.N_drew)); exact Kd.N_mono HO565.out (fun _ hk => ⟨⟨hk.1, ⟨hk.2.1, hk.2.2.2⟩⟩, hk.2.2.1⟩)) hg hat)
         replace HB := A_ (hb)
         have HO562 := A_ (ho)
         clear HO559
         clear ho hb hg hat
         refine hK.out _ _ (hl_ BK553.out) (fun hHeld => ?_)
         clear hK K
         refine no_ (some 12) ?_
         exact norm_ (by simp only [putAll, Act.put, List.setIfInBounds_toArray, List.set_cons_zero, List.set_cons_succ]) (hCont (v558, v561, v564) _ ⟨hHeld, (by (with_reducible repeat (first | apply Kd.V_alloc | apply Kd.V_drewN | apply Kd.V_drew)); exact Kd.V_mono HO0.out (fun _ hk => ⟨hk.1.1, ⟨hk.1.2.1, ⟨hk.2, ⟨hk.1.2.2.1, hk.1.2.2.2⟩⟩⟩⟩)), (by (with_reducible repeat (first | apply Kd.V_alloc | apply Kd.V_drewN | apply Kd.V_drew)); exact Kd.V_mono HO1_1.out (fun _ hk => ⟨hk.1.1, ⟨hk.1.2.1, ⟨hk.2, ⟨hk.1.2.2.1, hk.1.2.2.2⟩⟩⟩⟩)), (by (with_reducible repeat (first | apply Kd.S_alloc | apply Kd.S_drewN | apply Kd.S_drew)); exact Kd.S_mono HO556.out (fun _ hk => ⟨hk.1.1, ⟨hk.2, ⟨hk.1.2.1, hk.1.2.2⟩⟩⟩)), (vN_ HO562.out), (by (with_reducible repeat (first | apply Kd.N_alloc | apply Kd.N_drewN | apply Kd.N_drew)); exact Kd.N_mono HO565.out (fun _ hk => ⟨hk.1.1, ⟨hk.1.2.1, ⟨hk.2, hk.1.2.2⟩⟩⟩)), (vb_ BK553.out), (bG_ GE553.out)⟩)
     · skip
       refine Kd.N_lit_step k28 _ 28 ?hg (N' := 14) ?hd (xs := ([(⟨a1_0, l1_1, a1_2, a1_3, a1_4⟩ : S28)] : List (S28))) (inner := [.int .i64 a1_0, .slice A1_1 l1_1.length c1_1, .bool a1_2, .bool a1_3, .int .i64 a1_4]) (ok := (fun k_ => ((P0_ k_ ∨ P1_1_ k_) ∨ w.heap.size ≤ k_) ∧ some k_ ≠ (v555 : Value).ownBlock ∧ k_ ≠ gb553)) (okp := (fun k_ => ((P0_ k_ ∨ P1_1_ k_) ∨ w.heap.size ≤ k_) ∧ some k_ ≠ (v555 : Value).ownBlock ∧ k_ ≠ gb553)) ?hr ?hp (fun _ hk => hk) ((show ∀ k_, w11.heap.size ≤ k_ → (fun k_ => ((P0_ k_ ∨ P1_1_ k_) ∨ w.heap.size ≤ k_) ∧ some k_ ≠ (v555 : Value).ownBlock ∧ k_ ≠ gb553) k_ from fun k_ hk => ⟨(.inr (Nat.le_trans (below_size (bG_ GE553.out)) hk)), Kd.fresh' (Kd.S_lt (vS_ HO556.out)) k_ hk, Kd.freshB (g := gb553) (o := .cells #[.int .i64 a1_0, .slice A1_1 l1_1.length c1_1, .bool a1_2, .bool a1_3, .int .i64 a1_4] 28 (0, 0)) (vb_ BK553.out) k_ hk⟩) _ (Nat.le_refl _)) (Below.refl _ _) (Nat.le_refl _) (by simp) ?_; (case hd => rfl); (case hg => rfl); (case hr => first | (go_simp; done) | (go_simp; rfl)); (case hp => exact (Reps.c5 (show Kd.FK k28 _ _ (⟨a1_0, l1_1, a1_2, a1_3, a1_4⟩ : S28) [.int .i64 a1_0, .slice A1_1 l1_1.length c1_1, .bool a1_2, .bool a1_3, .int .i64 a1_4] from (k28_mkF _ _ (⟨a1_0, l1_1, a1_2, a1_3, a1_4⟩ : S28) (Kd.V_reads' (Kd.V_mono (ok' := (fun k_ => ((P0_ k_ ∨ P1_1_ k_) ∨ w.heap.size ≤ k_) ∧ some k_ ≠ (v555 : Value).ownBlock ∧ k_ ≠ gb553)) (HO1_1.out) (fun k_ hk => ⟨hk.1.1, ⟨hk.2, hk.1.2⟩⟩))).2.1 (Kd.V_F (Kd.V_mono (ok' := (fun k_ => ((P0_ k_ ∨ P1_1_ k_) ∨ w.heap.size ≤ k_) ∧ some k_ ≠ (v555 : Value).ownBlock ∧ k_ ≠ gb553)) (HO1_1.out) (fun k_ hk => ⟨hk.1.1, ⟨hk.2, hk.1.2⟩⟩))))) (Reps.none _ _)))
       intro v564 w12 ho13 hb hg_ hnew_
       clear hg_ hnew_
       (first | rw [← Ny563.out] at ho13 | (simp only [Int.reduceToNat] at ho13; rw [← Ny563.out] at ho13))
       replace HO0 := A_ (Kd.V_elder' (vV_ HO0.out) (kb_ ho13) hb)
       replace HO1_1 := A_ (Kd.V_elder' (vV_ HO1_1.out) (kb_ ho13) hb)
       replace HO556 := A_ (Kd.S_elder' (vS_ HO556.out) (kb_ ho13) hb)
       have HO565 := A_ (Kd.N_lower ho13 (below_size (bG_ GE553.out)))
       replace BK553 := A_ (bw_ BK553.out hb)
       replace HB := A_ (below_step (bG_ GE553.out) hb)
       clear hb ho13
       refine hK.out _ _ (hl_ BK553.out) (fun hHeld => ?_)
       clear hK K
       refine no_ (some 14) ?_
       refine on_ (i := 0) (N := some 10) (fun K hK => ?_)
       refine Kd.N_lit_step k28 _ 28 ?hg (N' := 10) ?hd (xs := ([] : List (S28))) (inner := []) (ok := (fun k_ => ((P0_ k_ ∨ P1_1_ k_) ∨ w.heap.size ≤ k_) ∧ some k_ ≠ (v555 : Value).ownBlock ∧ some k_ ≠ (v564 : Value).ownBlock ∧ k_ ≠ gb553)) (okp := (fun k_ => ((P0_ k_ ∨ P1_1_ k_) ∨ w.heap.size ≤ k_) ∧ some k_ ≠ (v555 : Value).ownBlock ∧ some k_ ≠ (v564 : Value).ownBlock ∧ k_ ≠ gb553)) ?hr ?hp (fun _ hk => hk) ((show ∀ k_, w12.heap.size ≤ k_ → (fun k_ => ((P0_ k_ ∨ P1_1_ k_) ∨ w.heap.size ≤ k_) ∧ some k_ ≠ (v555 : Value).ownBlock ∧ some k_ ≠ (v564 : Value).ownBlock ∧ k_ ≠ gb553) k_ from fun k_ hk => ⟨(.inr (Nat.le_trans (below_size (bG_ GE553.out)) hk)), Kd.fresh' (Kd.S_lt (vS_ HO556.out)) k_ hk, Kd.fresh' (Kd.N_lt (vN_ HO565.out)) k_ hk, Kd.freshB (g := gb553) (o := .cells #[.int .i64 a1_0, .slice A1_1 l1_1.length c1_1, .bool a1_2, .bool a1_3, .int .i64 a1_4] 28 (0, 0)) (vb_ BK553.out) k_ hk⟩) _ (Nat.le_refl _)) (Below.refl _ _) (Nat.le_refl _) (by simp) ?_; (case hd => rfl); (case hg => rfl); (case hr => first | (go_simp; done) | (go_simp; rfl)); (case hp => exact (Reps.none _ _))
       intro v558 w14 ho15 hb hg_ hnew_
       clear hg_ hnew_
       (first | rw [← Ny557.out] at ho15 | (simp only [Int.reduceToNat] at ho15; rw [← Ny557.out] at ho15))
       replace HO0 := A_ (Kd.V_elder' (vV_ HO0.out) (kb_ ho15) hb)
       replace HO1_1 := A_ (Kd.V_elder' (vV_ HO1_1.out) (kb_ ho15) hb)
       replace HO556 := A_ (Kd.S_elder' (vS_ HO556.out) (kb_ ho15) hb)
       replace HO565 := A_ (Kd.N_elder' (vN_ HO565.out) (kb_ ho15) hb)
       have HO559 := A_ (Kd.N_lower ho15 (below_size (bG_ GE553.out)))
       replace BK553 := A_ (bw_ BK553.out hb)
       replace HB := A_ (below_step (bG_ GE553.out) hb)
       clear hb ho15
       refine hK.out _ _ (hl_ BK553.out) (fun hHeld => ?_)
       clear hK K
       refine no_ (some 10) ?_
       refine on_ (i := 2) (N := some 12) (fun K hK => ?_)
       refine Kd.N_append_rows_step k28 (w0 := w) w.heap.size (by rfl) (.tmp 10) (.tmp 11) 39 28 (.agg #[(.int .i64 0), (.slice none 0 0), (.bool false), (.bool false), (.int .i64 0)]) 48 rfl Try.underlying39 info28 rfl (by decide) (by omega) v558 y557 l0 _ _ _ (fun k_ => ((P0_ k_ ∨ P1_1_ k_) ∨ w.heap.size ≤ k_) ∧ some k_ ≠ (v555 : Value).ownBlock ∧ some k_ ≠ (v564 : Value).ownBlock ∧ k_ ≠ gb553) (fun k_ => ((fun k_ => ((P0_ k_ ∨ P1_1_ k_) ∨ w.heap.size ≤ k_) ∧ some k_ ≠ (v555 : Value).ownBlock ∧ some k_ ≠ (v564 : Value).ownBlock ∧ k_ ≠ gb553)) k_ ∧ some k_ ≠ (v558 : Value).ownBlock) rfl rfl ?aO ?aR (fun _ hk => hk) ?aF ?aB ?aS ?aL ?_
       (case aR => exact (by skip; exact Kd.V_F (Kd.V_mono (ok' := (fun k_ => ((fun k_ => ((P0_ k_ ∨ P1_1_ k_) ∨ w.heap.size ≤ k_) ∧ some k_ ≠ (v555 : Value).ownBlock ∧ some k_ ≠ (v564 : Value).ownBlock ∧ k_ ≠ gb553)) k_ ∧ some k_ ≠ (v558 : Value).ownBlock)) (HO0.out) (fun k_ hk => ⟨⟨hk.1.1.1.1, ⟨hk.1.1.2, ⟨hk.1.2, hk.1.1.1.2⟩⟩⟩, hk.2⟩))))
       (case aB => exact (bG_ GE553.out))
       (case aF => exact (fun k_ hk => ⟨(.inr (Nat.le_trans (below_size (bG_ GE553.out)) hk)), Kd.fresh' (Kd.S_lt (vS_ HO556.out)) k_ hk, Kd.fresh' (Kd.N_lt (vN_ HO565.out)) k_ hk, Kd.freshB (g := gb553) (o := .cells #[.int .i64 a1_0, .slice A1_1 l1_1.length c1_1, .bool a1_2, .bool a1_3, .int .i64 a1_4] 28 (0, 0)) (vb_ BK553.out) k_ hk⟩))
       (case aO => exact (vN_ HO559.out))
       (case aS => exact (below_size (bG_ GE553.out)))
       (case aL => have := LMc4.out; omega)
       intro v561 w16 ho hb hg hat
       rw [← Ny560.out] at ho
       replace HO0 := A_ (Kd.V_afterv (ok := (fun k_ => ((P0_ k_ ∨ P1_1_ k_) ∨ w.heap.size ≤ k_) ∧ some k_ ≠ (v555 : Value).ownBlock ∧ some k_ ≠ (v564 : Value).ownBlock ∧ k_ ≠ gb553)) (by (with_reducible repeat (first | apply Kd.V_alloc | apply Kd.V_drewN | apply Kd.V_drew)); exact Kd.V_mono HO0.out (fun _ hk => ⟨⟨hk.1.1.1.1, ⟨hk.1.1.2, ⟨hk.1.2, hk.1.1.1.2⟩⟩⟩, hk.2⟩)) hg hat)
       replace HO1_1 := A_ (Kd.V_afterv (ok := (fun k_ => ((P0_ k_ ∨ P1_1_ k_) ∨ w.heap.size ≤ k_) ∧ some k_ ≠ (v555 : Value).ownBlock ∧ some k_ ≠ (v564 : Value).ownBlock ∧ k_ ≠ gb553)) (by (with_reducible repeat (first | apply Kd.V_alloc | apply Kd.V_drewN | apply Kd.V_drew)); exact Kd.V_mono HO1_1.out (fun _ hk => ⟨⟨hk.1.1.1.1, ⟨hk.1.1.2, ⟨hk.1.2, hk.1.1.1.2⟩⟩⟩, hk.2⟩)) hg hat)
       replace BK553 := A_ (blk_grown (g := gb553) (o := .cells #[.int .i64 a1_0, .slice A1_1 l1_1.length c1_1, .bool a1_2, .bool a1_3, .int .i64 a1_4] 28 (0, 0)) (vb_ BK553.out) hg (Kd.N_away HO559.out (fun _ hk => hk.2.2.2)))
       replace HO556 := A_ (Kd.S_after (ok := (fun k_ => (w.heap.size ≤ k_) ∧ some k_ ≠ (v564 : Value).ownBlock ∧ k_ ≠ gb553)) (by (with_reducible repeat (first | apply Kd.S_alloc | apply Kd.S_drewN | apply Kd.S_drew)); exact Kd.S_mono HO556.out (fun _ hk => ⟨⟨hk.1.1.1.1, ⟨hk.1.2, hk.1.1.2⟩⟩, hk.2⟩)) hg hat)
       replace HO565 := A_ (Kd.N_afterv (ok := (fun k_ => ((P0_ k_ ∨ P1_1_ k_) ∨ w.heap.size ≤ k_) ∧ some k_ ≠ (v555 : Value).ownBlock ∧ k_ ≠ gb553)) (vN_ HO565.out) hg hat)
       replace HB := A_ (hb)
       have HO562 := A_ (ho)
       clear HO559
       clear ho hb hg hat
       refine hK.out _ _ (hl_ BK553.out) (fun hHeld => ?_)
       clear hK K
       refine no_ (some 12) ?_
       exact norm_ (by simp only [putAll, Act.put, List.setIfInBounds_toArray, List.set_cons_zero, List.set_cons_succ]) (hCont (v558, v561, v564) _ ⟨hHeld, (by (with_reducible repeat (first | apply Kd.V_alloc | apply Kd.V_drewN | apply Kd.V_drew)); exact Kd.V_mono HO0.out (fun _ hk => ⟨hk.1.1, ⟨hk.1.2.1, ⟨hk.2, ⟨hk.1.2.2.1, hk.1.2.2.2⟩⟩⟩⟩)), (by (with_reducible repeat (first | apply Kd.V_alloc | apply Kd.V_drewN | apply Kd.V_drew)); exact Kd.V_mono HO1_1.out (fun _ hk => ⟨hk.1.1, ⟨hk.1.2.1, ⟨hk.2, ⟨hk.1.2.2.1, hk.1.2.2.2⟩⟩⟩⟩)), (by (with_reducible repeat (first | apply Kd.S_alloc | apply Kd.S_drewN | apply Kd.S_drew)); exact Kd.S_mono HO556.out (fun _ hk => ⟨hk.1.1, ⟨hk.2, ⟨hk.1.2.1, hk.1.2.2⟩⟩⟩)), (vN_ HO562.out), (by (with_reducible repeat (first | apply Kd.N_alloc | apply Kd.N_drewN | apply Kd.N_drew)); exact Kd.N_mono HO565.out (fun _ hk => ⟨hk.1.1, ⟨hk.1.2.1, ⟨hk.2, hk.1.2.2⟩⟩⟩)), (vb_ BK553.out), (bG_ GE553.out)⟩)
   rintro ⟨v558, v561, v564⟩ w17 ⟨hS_, h0_, h1_, h2_, h3_, h4_, h5_, h6_⟩
   have n0_ : Aside0 (Kd.V k28 28 w17 w.heap.size (fun k_ => ((P0_ k_ ∨ P1_1_ k_) ∨ w.heap.size ≤ k_) ∧ some k_ ≠ (v555 : Value).ownBlock ∧ some k_ ≠ (v561 : Value).ownBlock ∧ some k_ ≠ (v564 : Value).ownBlock ∧ k_ ≠ gb553) (.slice A0 l0.length c0) l0) := ⟨h0_⟩
   have n1_ : Aside0 (Kd.V Kd.string 9 w17 w.heap.size (fun k_ => ((P0_ k_ ∨ P1_1_ k_) ∨ w.heap.size ≤ k_) ∧ some k_ ≠ (v555 : Value).ownBlock ∧ some k_ ≠ (v561 : Value).ownBlock ∧ some k_ ≠ (v564 : Value).ownBlock ∧ k_ ≠ gb553) (.slice A1_1 l1_1.length c1_1) l1_1) := ⟨h1_⟩
   have n2_ : Aside0 (Kd.S k28 28 w17 w.heap.size (fun k_ => (w.heap.size ≤ k_) ∧ some k_ ≠ (v561 : Value).ownBlock ∧ some k_ ≠ (v564 : Value).ownBlock ∧ k_ ≠ gb553) v555 t554) := ⟨h2_⟩
   have n3_ : Aside0 (Kd.N k28 28 w17 w.heap.size (fun k_ => ((P0_ k_ ∨ P1_1_ k_) ∨ w.heap.size ≤ k_) ∧ some k_ ≠ (v555 : Value).ownBlock ∧ some k_ ≠ (v564 : Value).ownBlock ∧ k_ ≠ gb553) v561 y560) := ⟨h3_⟩
   have n4_ : Aside0 (Kd.N k28 28 w17 w.heap.size (fun k_ => ((P0_ k_ ∨ P1_1_ k_) ∨ w.heap.size ≤ k_) ∧ some k_ ≠ (v555 : Value).ownBlock ∧ some k_ ≠ (v561 : Value).ownBlock ∧ k_ ≠ gb553) v564 y563) := ⟨h4_⟩
   have n5_ : Aside0 (w17.heap[gb553]? = some (.cells #[.int .i64 a1_0, .slice A1_1 l1_1.length c1_1, .bool a1_2, .bool a1_3, .int .i64 a1_4] 28 (0, 0))) := ⟨h5_⟩
   have n6_ : Aside0 (Below w.heap.size w w17) := ⟨h6_⟩
   clear HO0
   clear HO1_1
   clear HO556
   clear BK553
   clear HB
   clear h0_ h1_ h2_ h3_ h4_ h5_ h6_
   have HO0 := n0_
   have HO1_1 := n1_
   have HO556 := n2_
   have HO562 := n3_
   have HO565 := n4_
   have BK553 := n5_
   have HB := n6_
   clear n0_ n1_ n2_ n3_ n4_ n5_ n6_
   have hHeld : w17.cell? ⟨gb553, 0, none⟩ = some (.int .i64 a1_0) ∧ w17.cell? ⟨gb553, 1, none⟩ = some (.slice A1_1 l1_1.length c1_1) ∧ w17.cell? ⟨gb553, 2, none⟩ = some (.bool a1_2) ∧ w17.cell? ⟨gb553, 3, none⟩ = some (.bool a1_3) ∧ w17.cell? ⟨gb553, 4, none⟩ = some (.int .i64 a1_4) := hS_
   obtain ⟨Ao19, co19, eo19⟩ := Kd.N_slice HO565.out
   (first | subst eo19 | (injection eo19 with f1_ f2_ f3_; have f4_ := f1_.symm; have f5_ := f3_.symm; clear f1_ f2_ f3_; subst f4_; subst f5_))
   refine norm_ (a' := ?_) ?_ ?_
   rotate_left
   · simp only [putAll, Act.put, List.setIfInBounds_toArray, List.set_cons_zero, List.set_cons_succ]
     rfl
   refine on_ (i := 5) (N := some 15) (fun K hK => ?_)
   refine Kd.N_append_rows_step k28 (w0 := w) w.heap.size (by rfl) (.tmp 12) (.tmp 14) 39 28 (.agg #[(.int .i64 0), (.slice none 0 0), (.bool false), (.bool false), (.int .i64 0)]) 48 rfl Try.underlying39 info28 rfl (by decide) (by omega) v561 y560 y563 _ _ _ (fun k_ => ((P0_ k_ ∨ P1_1_ k_) ∨ w.heap.size ≤ k_) ∧ some k_ ≠ (v555 : Value).ownBlock ∧ k_ ≠ gb553) (fun k_ => ((fun k_ => ((P0_ k_ ∨ P1_1_ k_) ∨ w.heap.size ≤ k_) ∧ some k_ ≠ (v555 : Value).ownBlock ∧ k_ ≠ gb553)) k_ ∧ some k_ ≠ (v561 : Value).ownBlock) rfl rfl ?aO ?aR (fun _ hk => hk) ?aF ?aB ?aS ?aL ?_
   (case aR => exact (by skip; exact Kd.N_F (Kd.N_mono (ok' := (fun k_ => ((fun k_ => ((P0_ k_ ∨ P1_1_ k_) ∨ w.heap.size ≤ k_) ∧ some k_ ≠ (v555 : Value).ownBlock ∧ k_ ≠ gb553)) k_ ∧ some k_ ≠ (v561 : Value).ownBlock)) (HO565.out) (fun k_ hk => ⟨⟨hk.1, ⟨hk.2.1, hk.2.2.2⟩⟩, hk.2.2.1⟩))))
   (case aB => exact (bG_ GE553.out))
   (case aF => exact (fun k_ hk => ⟨(.inr (Nat.le_trans (below_size (bG_ GE553.out)) hk)), Kd.fresh' (Kd.S_lt (vS_ HO556.out)) k_ hk, Kd.freshB (g := gb553) (o := .cells #[.int .i64 a1_0, .slice A1_1 l1_1.length c1_1, .bool a1_2, .bool a1_3, .int .i64 a1_4] 28 (0, 0)) (vb_ BK553.out) k_ hk⟩))
   (case aO => exact (by (with_reducible repeat (first | apply Kd.N_alloc | apply Kd.N_drewN | apply Kd.N_drew)); exact Kd.N_mono HO562.out (fun _ hk => ⟨hk.1, ⟨hk.2.1, hk.2.2.2⟩⟩)))
   (case aS => exact (below_size (bG_ GE553.out)))
   (case aL => have := LMc5.out; omega)
   intro v567 w18 ho hb hg hat
   rw [← Ny566.out] at ho
   replace HO0 := A_ (Kd.V_afterv (ok := (fun k_ => ((P0_ k_ ∨ P1_1_ k_) ∨ w.heap.size ≤ k_) ∧ some k_ ≠ (v555 : Value).ownBlock ∧ some k_ ≠ (.slice Ao19 y563.length co19 : Value).ownBlock ∧ k_ ≠ gb553)) (by (with_reducible repeat (first | apply Kd.V_alloc | apply Kd.V_drewN | apply Kd.V_drew)); exact Kd.V_mono HO0.out (fun _ hk => ⟨⟨hk.1, ⟨hk.2.1, ⟨hk.2.2.2.1, hk.2.2.2.2⟩⟩⟩, hk.2.2.1⟩)) hg hat)
   replace HO1_1 := A_ (Kd.V_afterv (ok := (fun k_ => ((P0_ k_ ∨ P1_1_ k_) ∨ w.heap.size ≤ k_) ∧ some k_ ≠ (v555 : Value).ownBlock ∧ some k_ ≠ (.slice Ao19 y563.length co19 : Value).ownBlock ∧ k_ ≠ gb553)) (by (with_reducible repeat (first | apply Kd.V_alloc | apply Kd.V_drewN | apply Kd.V_drew)); exact Kd.V_mono HO1_1.out (fun _ hk => ⟨⟨hk.1, ⟨hk.2.1, ⟨hk.2.2.2.1, hk.2.2.2.2⟩⟩⟩, hk.2.2.1⟩)) hg hat)
   replace BK553 := A_ (blk_grown (g := gb553) (o := .cells #[.int .i64 a1_0, .slice A1_1 l1_1.length c1_1, .bool a1_2, .bool a1_3, .int .i64 a1_4] 28 (0, 0)) (vb_ BK553.out) hg (Kd.N_away HO562.out (fun _ hk => hk.2.2.2)))
   replace HO556 := A_ (Kd.S_after (ok := (fun k_ => (w.heap.size ≤ k_) ∧ some k_ ≠ (.slice Ao19 y563.length co19 : Value).ownBlock ∧ k_ ≠ gb553)) (by (with_reducible repeat (first | apply Kd.S_alloc | apply Kd.S_drewN | apply Kd.S_drew)); exact Kd.S_mono HO556.out (fun _ hk => ⟨⟨hk.1, ⟨hk.2.2.1, hk.2.2.2⟩⟩, hk.2.1⟩)) hg hat)
   replace HO565 := A_ (Kd.N_afterv (ok := (fun k_ => ((P0_ k_ ∨ P1_1_ k_) ∨ w.heap.size ≤ k_) ∧ some k_ ≠ (v555 : Value).ownBlock ∧ k_ ≠ gb553)) (by (with_reducible repeat (first | apply Kd.N_alloc | apply Kd.N_drewN | apply Kd.N_drew)); exact Kd.N_mono HO565.out (fun _ hk => ⟨⟨hk.1, ⟨hk.2.1, hk.2.2.2⟩⟩, hk.2.2.1⟩)) hg hat)
   replace HB := A_ (hb)
   have HO568 := A_ (ho)
   clear HO562
   clear ho hb hg hat
   obtain ⟨Ao20, co20, eo20⟩ := Kd.N_slice HO568.out
   (first | subst eo20 | (injection eo20 with f1_ f2_ f3_; have f4_ := f1_.symm; have f5_ := f3_.symm; clear f1_ f2_ f3_; subst f4_; subst f5_))
   refine hK.out _ _ (hl_ BK553.out) (fun hHeld => ?_)
   clear hK K
   refine no_ (some 15) ?_
   refine on_ (i := 6) (N := some 16) (fun K hK => ?_)
   refine goes_ Try.func68 (by kernel_rfl) rfl #[.slice Ao20 y566.length co20] (by rfl) rfl rfl ml_ ?_
   with_reducible refine (spec_l13Copy.calls k _ _ y566 t569 _ ?s1 ?s2 A6.out).mono ?_
   (case s1 => exact cC_ (Kd.N_reads' HO568.out).2.2)
   (case s2 => exact (Kd.N_reads' HO568.out).2.1)
   rintro e w21 ⟨v570, rfl, ho0, hb⟩
   refine ⟨_, rfl, ?_⟩
   replace HO0 := A_ (Kd.V_elder' (vV_ HO0.out) (kb_ ho0) hb)
   replace HO1_1 := A_ (Kd.V_elder' (vV_ HO1_1.out) (kb_ ho0) hb)
   have HO571 := A_ (Kd.S_lower (Kd.S_newB (Kd.S_new' (Kd.S_new' (Kd.S_new' (Kd.S_newM (M := fun k_ => (w.heap.size ≤ k_)) ho0 (below_size (bG_ GE553.out)) (fun k_ h_ => h_)) (Kd.S_lt (vS_ HO556.out))) (Kd.N_lt (vN_ HO565.out))) (Kd.N_lt (vN_ HO568.out))) (g := gb553) (o := .cells #[.int .i64 a1_0, .slice A1_1 l1_1.length c1_1, .bool a1_2, .bool a1_3, .int .i64 a1_4] 28 (0, 0)) (vb_ BK553.out)) (below_size (bG_ GE553.out)))
   replace HO556 := A_ (Kd.S_elder' (vS_ HO556.out) (kb_ ho0) hb)
   replace HO565 := A_ (Kd.N_elder' (vN_ HO565.out) (kb_ ho0) hb)
   replace HO568 := A_ (Kd.N_elder' (vN_ HO568.out) (kb_ ho0) hb)
   replace BK553 := A_ (bw_ BK553.out hb)
   replace HB := A_ (below_step (bG_ GE553.out) hb)
   (try clear hb)
   (try clear hb2)
   (try clear hk)
   (try clear hi)
   (try clear ho0)
   refine hK.out _ _ (hl_ BK553.out) (fun hHeld => ?_)
   clear hK K
   refine no_ (some 16) ?_
   refine pu_ (i := 7) (N := some 7) ?_
   refine done_ (done_of HT_.out (by kernel_rfl)) ?_
   (try clear hHeld)
   obtain ⟨Ao22, co22, eo22⟩ := Kd.S_slice HO571.out
   subst eo22
   try go_wp2_with (first | ((with_reducible refine gate_callee (f := 45) rfl ?_); refine gL_ (some 18) Try.func45 #[.slice Ao22 t569.length co22] ?_; (with_reducible refine (spec_LocksOk.calls k _ _ t569 true _ ?s1 ?s2 A7.out).mono ?_); (case s1 => exact cC_ (Kd.S_reads' HO571.out).2.2); (case s2 => exact (Kd.S_reads' HO571.out).2.1); rintro e w23 ⟨rfl, hb⟩; refine ⟨_, rfl, ?_⟩; replace HO0 := A_ (Kd.V_below (vV_ HO0.out) hb); replace HO1_1 := A_ (Kd.V_below (vV_ HO1_1.out) hb); replace HO556 := A_ (Kd.S_below (vS_ HO556.out) hb); replace HO565 := A_ (Kd.N_below (vN_ HO565.out) hb); replace HO568 := A_ (Kd.N_below (vN_ HO568.out) hb); replace HO571 := A_ (Kd.S_below (vS_ HO571.out) hb); replace BK553 := A_ (bw_ BK553.out hb); replace HB := A_ (below_step (bG_ GE553.out) hb); (try clear hb)))
   go_ret2
   exact ⟨_, rr_, by (with_reducible repeat (first | apply Kd.S_alloc | apply Kd.S_drewN | apply Kd.S_drew)); exact Kd.S_mono HO571.out (fun _ hk => hk.1.1.1.1.1), bG_ GE553.out⟩
 · replace c8 := Bool.eq_false_iff.mpr c8
   subst c8
   rw [if_neg nf_] at H
   simp only [Option.some.injEq, Prod.mk.injEq] at H
   obtain ⟨rfl, rfl⟩ := H
   go_enter Try.func47, Try.ntmps47
   try go_wp2_with (first | ((with_reducible refine gate_dst (N := 3) rfl ?_); refine bx_ (N := 3) (cs := #[.int .i64 a1_0, .slice A1_1 l1_1.length c1_1, .bool a1_2, .bool a1_3, .int .i64 a1_4]) (t := 28) ?_; intro gb553 hg w24 hbox hb; replace HO0 := A_ (Kd.V_below (Kd.V_elderB (vV_ HO0.out) gb553 (Nat.le_of_eq hg.symm)) hb); replace HO1_1 := A_ (Kd.V_below (Kd.V_elderB (vV_ HO1_1.out) gb553 (Nat.le_of_eq hg.symm)) hb); have BK553 := A_ (hbox); have GW553 := A_ (ge_ hg bB_ : w.heap.size ≤ gb553); have GE553 := A_ (ge_ hg bB_ : w.heap.size ≤ gb553); replace HB := A_ (below_step bB_ hb); clear hb hbox hg) | ((with_reducible refine gate_callee (f := 68) rfl ?_); refine gL_ (some 9) Try.func68 #[.slice A0 l0.length c0] ?_; (with_reducible refine (spec_l13Copy.calls k _ _ l0 t554 _ ?s1 ?s2 A3.out).mono ?_); (case s1 => exact cC_ (Kd.V_reads' HO0.out).2.2); (case s2 => exact (Kd.V_reads' HO0.out).2.1); rintro e w25 ⟨v555, rfl, ho0, hb⟩; refine ⟨_, rfl, ?_⟩; replace HO0 := A_ (Kd.V_elder' (vV_ HO0.out) (kb_ ho0) hb); replace HO1_1 := A_ (Kd.V_elder' (vV_ HO1_1.out) (kb_ ho0) hb); have HO556 := A_ (Kd.S_lower (Kd.S_newB (Kd.S_newM (M := fun k_ => (w.heap.size ≤ k_)) ho0 (below_size (bG_ GE553.out)) (fun k_ h_ => h_)) (g := gb553) (o := .cells #[.int .i64 a1_0, .slice A1_1 l1_1.length c1_1, .bool a1_2, .bool a1_3, .int .i64 a1_4] 28 (0, 0)) (vb_ BK553.out)) (below_size (bG_ GE553.out))); replace BK553 := A_ (bw_ BK553.out hb); replace HB := A_ (below_step (bG_ GE553.out) hb); (try clear hb); (try clear ho0)))
   replace HO0 := A_ (Kd.V_drew HO0.out)
   replace HO1_1 := A_ (Kd.V_drew HO1_1.out)
   replace HO556 := A_ (Kd.S_drew HO556.out)
   replace BK553 := A_ (blk_drew BK553.out)
   replace HB := A_ (below_drew1 HB.out)
   refine start_ (n := 8) (S := fun w' => w'.cell? ⟨gb553, 0, none⟩ = some (.int .i64 a1_0) ∧ w'.cell? ⟨gb553, 1, none⟩ = some (.slice A1_1 l1_1.length c1_1) ∧ w'.cell? ⟨gb553, 2, none⟩ = some (.bool a1_2) ∧ w'.cell? ⟨gb553, 3, none⟩ = some (.bool a1_3) ∧ w'.cell? ⟨gb553, 4, none⟩ = some (.int .i64 a1_4)) (ds := []) #[false, false, false, false, false, false, false, false] (by kernel_rfl) rfl rfl (hl_ BK553.out) (fun hHeld => ?_); refine with_tabW spec_AddLock.tab2 spec_AddLock.bits2 (fun HT_ HW_ => ?_)
   generalize w25.drew = w26 at HO0 HO1_1 HO556 BK553 HB hHeld ⊢
   refine pu_ (i := 1) (N := some 11) ?_
   refine tk_ (i := 3) (N := some 13) hHeld ?_
   refine join_ (σ := Value × Value × Value) 3 #[true, true, true, true, true, false, false, false] (fun s_ => [(10, s_.1), (12, s_.2.1), (14, s_.2.2)]) (fun s_ w' => (w'.cell? ⟨gb553, 0, none⟩ = some (.int .i64 a1_0) ∧ w'.cell? ⟨gb553, 1, none⟩ = some (.slice A1_1 l1_1.length c1_1) ∧ w'.cell? ⟨gb553, 2, none⟩ = some (.bool a1_2) ∧ w'.cell? ⟨gb553, 3, none⟩ = some (.bool a1_3) ∧ w'.cell? ⟨gb553, 4, none⟩ = some (.int .i64 a1_4)) ∧ (Kd.V k28 28 w' w.heap.size (fun k_ => ((P0_ k_ ∨ P1_1_ k_) ∨ w.heap.size ≤ k_) ∧ some k_ ≠ (v555 : Value).ownBlock ∧ some k_ ≠ (s_.2.1 : Value).ownBlock ∧ some k_ ≠ (s_.2.2 : Value).ownBlock ∧ k_ ≠ gb553) (.slice A0 l0.length c0) l0) ∧ (Kd.V Kd.string 9 w' w.heap.size (fun k_ => ((P0_ k_ ∨ P1_1_ k_) ∨ w.heap.size ≤ k_) ∧ some k_ ≠ (v555 : Value).ownBlock ∧ some k_ ≠ (s_.2.1 : Value).ownBlock ∧ some k_ ≠ (s_.2.2 : Value).ownBlock ∧ k_ ≠ gb553) (.slice A1_1 l1_1.length c1_1) l1_1) ∧ (Kd.S k28 28 w' w.heap.size (fun k_ => (w.heap.size ≤ k_) ∧ some k_ ≠ (s_.2.1 : Value).ownBlock ∧ some k_ ≠ (s_.2.2 : Value).ownBlock ∧ k_ ≠ gb553) v555 t554) ∧ (Kd.N k28 28 w' w.heap.size (fun k_ => ((P0_ k_ ∨ P1_1_ k_) ∨ w.heap.size ≤ k_) ∧ some k_ ≠ (v555 : Value).ownBlock ∧ some k_ ≠ (s_.2.2 : Value).ownBlock ∧ k_ ≠ gb553) s_.2.1 y560) ∧ (Kd.N k28 28 w' w.heap.size (fun k_ => ((P0_ k_ ∨ P1_1_ k_) ∨ w.heap.size ≤ k_) ∧ some k_ ≠ (v555 : Value).ownBlock ∧ some k_ ≠ (s_.2.1 : Value).ownBlock ∧ k_ ≠ gb553) s_.2.2 y563) ∧ (w'.heap[gb553]? = some (.cells #[.int .i64 a1_0, .slice A1_1 l1_1.length c1_1, .bool a1_2, .bool a1_3, .int .i64 a1_4] 28 (0, 0))) ∧ (Below w.heap.size w w')) ?_ ?_
   rotate_left
   · intro hCont
     refine two_ (i := 0) (j := 4) (Ni := some 10) (Nj := some 14) #[true, true, false, true, false, false, false, false] #[false, true, false, true, true, false, false, false] rfl rfl rfl rfl (two_of HT_.out (by kernel_rfl)) (by decide) (by decide) (fun K hK => ?_) (fun K hK => ?_)
     · skip
       refine Kd.N_lit_step k28 _ 28 ?hg (N' := 10) ?hd (xs := ([] : List (S28))) (inner := []) (ok := (fun k_ => ((P0_ k_ ∨ P1_1_ k_) ∨ w.heap.size ≤ k_) ∧ some k_ ≠ (v555 : Value).ownBlock ∧ k_ ≠ gb553)) (okp := (fun k_ => ((P0_ k_ ∨ P1_1_ k_) ∨ w.heap.size ≤ k_) ∧ some k_ ≠ (v555 : Value).ownBlock ∧ k_ ≠ gb553)) ?hr ?hp (fun _ hk => hk) ((show ∀ k_, w26.heap.size ≤ k_ → (fun k_ => ((P0_ k_ ∨ P1_1_ k_) ∨ w.heap.size ≤ k_) ∧ some k_ ≠ (v555 : Value).ownBlock ∧ k_ ≠ gb553) k_ from fun k_ hk => ⟨(.inr (Nat.le_trans (below_size (bG_ GE553.out)) hk)), Kd.fresh' (Kd.S_lt (vS_ HO556.out)) k_ hk, Kd.freshB (g := gb553) (o := .cells #[.int .i64 a1_0, .slice A1_1 l1_1.length c1_1, .bool a1_2, .bool a1_3, .int .i64 a1_4] 28 (0, 0)) (vb_ BK553.out) k_ hk⟩) _ (Nat.le_refl _)) (Below.refl _ _) (Nat.le_refl _) (by simp) ?_; (case hd => rfl); (case hg => rfl); (case hr => first | (go_simp; done) | (go_simp; rfl)); (case hp => exact (Reps.none _ _))
       intro v558 w27 ho28 hb hg_ hnew_
       clear hg_ hnew_
       (first | rw [← Ny557.out] at ho28 | (simp only [Int.reduceToNat] at ho28; rw [← Ny557.out] at ho28))
       replace HO0 := A_ (Kd.V_elder' (vV_ HO0.out) (kb_ ho28) hb)
       replace HO1_1 := A_ (Kd.V_elder' (vV_ HO1_1.out) (kb_ ho28) hb)
       replace HO556 := A_ (Kd.S_elder' (vS_ HO556.out) (kb_ ho28) hb)
       have HO559 := A_ (Kd.N_lower ho28 (below_size (bG_ GE553.out)))
       replace BK553 := A_ (bw_ BK553.out hb)
       replace HB := A_ (below_step (bG_ GE553.out) hb)
       clear hb ho28
       refine hK.out _ _ (hl_ BK553.out) (fun hHeld => ?_)
       clear hK K
       refine no_ (some 10) ?_
       refine two_ (i := 2) (j := 4) (Ni := some 12) (Nj := some 14) #[true, true, true, true, false, false, false, false] #[true, true, false, true, true, false, false, false] rfl rfl rfl rfl (two_of HT_.out (by kernel_rfl)) (by decide) (by decide) (fun K hK => ?_) (fun K hK => ?_)
       · skip
         refine Kd.N_append_rows_step k28 (w0 := w) w.heap.size (by rfl) (.tmp 10) (.tmp 11) 39 28 (.agg #[(.int .i64 0), (.slice none 0 0), (.bool false), (.bool false), (.int .i64 0)]) 48 rfl Try.underlying39 info28 rfl (by decide) (by omega) v558 y557 l0 _ _ _ (fun k_ => ((P0_ k_ ∨ P1_1_ k_) ∨ w.heap.size ≤ k_) ∧ some k_ ≠ (v555 : Value).ownBlock ∧ k_ ≠ gb553) (fun k_ => ((fun k_ => ((P0_ k_ ∨ P1_1_ k_) ∨ w.heap.size ≤ k_) ∧ some k_ ≠ (v555 : Value).ownBlock ∧ k_ ≠ gb553)) k_ ∧ some k_ ≠ (v558 : Value).ownBlock) rfl rfl ?aO ?aR (fun _ hk => hk) ?aF ?aB ?aS ?aL ?_
         (case aR => exact (by skip; exact Kd.V_F (Kd.V_mono (ok' := (fun k_ => ((fun k_ => ((P0_ k_ ∨ P1_1_ k_) ∨ w.heap.size ≤ k_) ∧ some k_ ≠ (v555 : Value).ownBlock ∧ k_ ≠ gb553)) k_ ∧ some k_ ≠ (v558 : Value).ownBlock)) (HO0.out) (fun k_ hk => ⟨⟨hk.1.1.1, ⟨hk.1.2, hk.1.1.2⟩⟩, hk.2⟩))))
         (case aB => exact (bG_ GE553.out))
         (case aF => exact (fun k_ hk => ⟨(.inr (Nat.le_trans (below_size (bG_ GE553.out)) hk)), Kd.fresh' (Kd.S_lt (vS_ HO556.out)) k_ hk, Kd.freshB (g := gb553) (o := .cells #[.int .i64 a1_0, .slice A1_1 l1_1.length c1_1, .bool a1_2, .bool a1_3, .int .i64 a1_4] 28 (0, 0)) (vb_ BK553.out) k_ hk⟩))
         (case aO => exact (vN_ HO559.out))
         (case aS => exact (below_size (bG_ GE553.out)))
         (case aL => have := LMc4.out; omega)
         intro v561 w29 ho hb hg hat
         rw [← Ny560.out] at ho
         replace HO0 := A_ (Kd.V_afterv (ok := (fun k_ => ((P0_ k_ ∨ P1_1_ k_) ∨ w.heap.size ≤ k_) ∧ some k_ ≠ (v555 : Value).ownBlock ∧ k_ ≠ gb553)) (by (with_reducible repeat (first | apply Kd.V_alloc | apply Kd.V_drewN | apply Kd.V_drew)); exact Kd.V_mono HO0.out (fun _ hk => ⟨⟨hk.1.1.1, ⟨hk.1.2, hk.1.1.2⟩⟩, hk.2⟩)) hg hat)
         replace HO1_1 := A_ (Kd.V_afterv (ok := (fun k_ => ((P0_ k_ ∨ P1_1_ k_) ∨ w.heap.size ≤ k_) ∧ some k_ ≠ (v555 : Value).ownBlock ∧ k_ ≠ gb553)) (by (with_reducible repeat (first | apply Kd.V_alloc | apply Kd.V_drewN | apply Kd.V_drew)); exact Kd.V_mono HO1_1.out (fun _ hk => ⟨⟨hk.1.1.1, ⟨hk.1.2, hk.1.1.2⟩⟩, hk.2⟩)) hg hat)
         replace BK553 := A_ (blk_grown (g := gb553) (o := .cells #[.int .i64 a1_0, .slice A1_1 l1_1.length c1_1, .bool a1_2, .bool a1_3, .int .i64 a1_4] 28 (0, 0)) (vb_ BK553.out) hg (Kd.N_away HO559.out (fun _ hk => hk.2.2)))
         replace HO556 := A_ (Kd.S_after (ok := (fun k_ => (w.heap.size ≤ k_) ∧ k_ ≠ gb553)) (by (with_reducible repeat (first | apply Kd.S_alloc | apply Kd.S_drewN | apply Kd.S_drew)); exact Kd.S_mono HO556.out (fun _ hk => ⟨⟨hk.1.1.1, hk.1.2⟩, hk.2⟩)) hg hat)
         replace HB := A_ (hb)
         have HO562 := A_ (ho)
         clear HO559
         clear ho hb hg hat
         refine hK.out _ _ (hl_ BK553.out) (fun hHeld => ?_)
         clear hK K
         refine no_ (some 12) ?_
         refine on_ (i := 4) (N := some 14) (fun K hK => ?_)
         refine Kd.N_lit_step k28 _ 28 ?hg (N' := 14) ?hd (xs := ([(⟨a1_0, l1_1, a1_2, a1_3, a1_4⟩ : S28)] : List (S28))) (inner := [.int .i64 a1_0, .slice A1_1 l1_1.length c1_1, .bool a1_2, .bool a1_3, .int .i64 a1_4]) (ok := (fun k_ => ((P0_ k_ ∨ P1_1_ k_) ∨ w.heap.size ≤ k_) ∧ some k_ ≠ (v555 : Value).ownBlock ∧ some k_ ≠ (v561 : Value).ownBlock ∧ k_ ≠ gb553)) (okp := (fun k_ => ((P0_ k_ ∨ P1_1_ k_) ∨ w.heap.size ≤ k_) ∧ some k_ ≠ (v555 : Value).ownBlock ∧ some k_ ≠ (v561 : Value).ownBlock ∧ k_ ≠ gb553)) ?hr ?hp (fun _ hk => hk) ((show ∀ k_, w29.heap.size ≤ k_ → (fun k_ => ((P0_ k_ ∨ P1_1_ k_) ∨ w.heap.size ≤ k_) ∧ some k_ ≠ (v555 : Value).ownBlock ∧ some k_ ≠ (v561 : Value).ownBlock ∧ k_ ≠ gb553) k_ from fun k_ hk => ⟨(.inr (Nat.le_trans (below_size (bG_ GE553.out)) hk)), Kd.fresh' (Kd.S_lt (vS_ HO556.out)) k_ hk, Kd.fresh' (Kd.N_lt (vN_ HO562.out)) k_ hk, Kd.freshB (g := gb553) (o := .cells #[.int .i64 a1_0, .slice A1_1 l1_1.length c1_1, .bool a1_2, .bool a1_3, .int .i64 a1_4] 28 (0, 0)) (vb_ BK553.out) k_ hk⟩) _ (Nat.le_refl _)) (Below.refl _ _) (Nat.le_refl _) (by simp) ?_; (case hd => rfl); (case hg => rfl); (case hr => first | (go_simp; done) | (go_simp; rfl)); (case hp => exact (Reps.c5 (show Kd.FK k28 _ _ (⟨a1_0, l1_1, a1_2, a1_3, a1_4⟩ : S28) [.int .i64 a1_0, .slice A1_1 l1_1.length c1_1, .bool a1_2, .bool a1_3, .int .i64 a1_4] from (k28_mkF _ _ (⟨a1_0, l1_1, a1_2, a1_3, a1_4⟩ : S28) (Kd.V_reads' (Kd.V_mono (ok' := (fun k_ => ((P0_ k_ ∨ P1_1_ k_) ∨ w.heap.size ≤ k_) ∧ some k_ ≠ (v555 : Value).ownBlock ∧ some k_ ≠ (v561 : Value).ownBlock ∧ k_ ≠ gb553)) (HO1_1.out) (fun k_ hk => ⟨hk.1.1, ⟨hk.1.2.1, ⟨hk.2, hk.1.2.2⟩⟩⟩))).2.1 (Kd.V_F (Kd.V_mono (ok' := (fun k_ => ((P0_ k_ ∨ P1_1_ k_) ∨ w.heap.size ≤ k_) ∧ some k_ ≠ (v555 : Value).ownBlock ∧ some k_ ≠ (v561 : Value).ownBlock ∧ k_ ≠ gb553)) (HO1_1.out) (fun k_ hk => ⟨hk.1.1, ⟨hk.1.2.1, ⟨hk.2, hk.1.2.2⟩⟩⟩))))) (Reps.none _ _)))
         intro v564 w30 ho31 hb hg_ hnew_
         clear hg_ hnew_
         (first | rw [← Ny563.out] at ho31 | (simp only [Int.reduceToNat] at ho31; rw [← Ny563.out] at ho31))
         replace HO0 := A_ (Kd.V_elder' (vV_ HO0.out) (kb_ ho31) hb)
         replace HO1_1 := A_ (Kd.V_elder' (vV_ HO1_1.out) (kb_ ho31) hb)
         replace HO556 := A_ (Kd.S_elder' (vS_ HO556.out) (kb_ ho31) hb)
         replace HO562 := A_ (Kd.N_elder' (vN_ HO562.out) (kb_ ho31) hb)
         have HO565 := A_ (Kd.N_lower ho31 (below_size (bG_ GE553.out)))
         replace BK553 := A_ (bw_ BK553.out hb)
         replace HB := A_ (below_step (bG_ GE553.out) hb)
         clear hb ho31
         refine hK.out _ _ (hl_ BK553.out) (fun hHeld => ?_)
         clear hK K
         refine no_ (some 14) ?_
         exact norm_ (by simp only [putAll, Act.put, List.setIfInBounds_toArray, List.set_cons_zero, List.set_cons_succ]) (hCont (v558, v561, v564) _ ⟨hHeld, (by (with_reducible repeat (first | apply Kd.V_alloc | apply Kd.V_drewN | apply Kd.V_drew)); exact Kd.V_mono HO0.out (fun _ hk => ⟨hk.1.1.1, ⟨hk.1.1.2.1, ⟨hk.1.2, ⟨hk.2, hk.1.1.2.2⟩⟩⟩⟩)), (by (with_reducible repeat (first | apply Kd.V_alloc | apply Kd.V_drewN | apply Kd.V_drew)); exact Kd.V_mono HO1_1.out (fun _ hk => ⟨hk.1.1.1, ⟨hk.1.1.2.1, ⟨hk.1.2, ⟨hk.2, hk.1.1.2.2⟩⟩⟩⟩)), (by (with_reducible repeat (first | apply Kd.S_alloc | apply Kd.S_drewN | apply Kd.S_drew)); exact Kd.S_mono HO556.out (fun _ hk => ⟨hk.1.1.1, ⟨hk.1.2, ⟨hk.2, hk.1.1.2⟩⟩⟩)), (by (with_reducible repeat (first | apply Kd.N_alloc | apply Kd.N_drewN | apply Kd.N_drew)); exact Kd.N_mono HO562.out (fun _ hk => ⟨hk.1.1, ⟨hk.1.2.1, ⟨hk.2, hk.1.2.2⟩⟩⟩)), (vN_ HO565.out), (vb_ BK553.out), (bG_ GE553.out)⟩)
       · skip
         refine Kd.N_lit_step k28 _ 28 ?hg (N' := 14) ?hd (xs := ([(⟨a1_0, l1_1, a1_2, a1_3, a1_4⟩ : S28)] : List (S28))) (inner := [.int .i64 a1_0, .slice A1_1 l1_1.length c1_1, .bool a1_2, .bool a1_3, .int .i64 a1_4]) (ok := (fun k_ => ((P0_ k_ ∨ P1_1_ k_) ∨ w.heap.size ≤ k_) ∧ some k_ ≠ (v555 : Value).ownBlock ∧ some k_ ≠ (v558 : Value).ownBlock ∧ k_ ≠ gb553)) (okp := (fun k_ => ((P0_ k_ ∨ P1_1_ k_) ∨ w.heap.size ≤ k_) ∧ some k_ ≠ (v555 : Value).ownBlock ∧ some k_ ≠ (v558 : Value).ownBlock ∧ k_ ≠ gb553)) ?hr ?hp (fun _ hk => hk) ((show ∀ k_, w27.heap.size ≤ k_ → (fun k_ => ((P0_ k_ ∨ P1_1_ k_) ∨ w.heap.size ≤ k_) ∧ some k_ ≠ (v555 : Value).ownBlock ∧ some k_ ≠ (v558 : Value).ownBlock ∧ k_ ≠ gb553) k_ from fun k_ hk => ⟨(.inr (Nat.le_trans (below_size (bG_ GE553.out)) hk)), Kd.fresh' (Kd.S_lt (vS_ HO556.out)) k_ hk, Kd.fresh' (Kd.N_lt (vN_ HO559.out)) k_ hk, Kd.freshB (g := gb553) (o := .cells #[.int .i64 a1_0, .slice A1_1 l1_1.length c1_1, .bool a1_2, .bool a1_3, .int .i64 a1_4] 28 (0, 0)) (vb_ BK553.out) k_ hk⟩) _ (Nat.le_refl _)) (Below.refl _ _) (Nat.le_refl _) (by simp) ?_; (case hd => rfl); (case hg => rfl); (case hr => first | (go_simp; done) | (go_simp; rfl)); (case hp => exact (Reps.c5 (show Kd.FK k28 _ _ (⟨a1_0, l1_1, a1_2, a1_3, a1_4⟩ : S28) [.int .i64 a1_0, .slice A1_1 l1_1.length c1_1, .bool a1_2, .bool a1_3, .int .i64 a1_4] from (k28_mkF _ _ (⟨a1_0, l1_1, a1_2, a1_3, a1_4⟩ : S28) (Kd.V_reads' (Kd.V_mono (ok' := (fun k_ => ((P0_ k_ ∨ P1_1_ k_) ∨ w.heap.size ≤ k_) ∧ some k_ ≠ (v555 : Value).ownBlock ∧ some k_ ≠ (v558 : Value).ownBlock ∧ k_ ≠ gb553)) (HO1_1.out) (fun k_ hk => ⟨hk.1.1.1, ⟨hk.1.2, ⟨hk.2, hk.1.1.2⟩⟩⟩))).2.1 (Kd.V_F (Kd.V_mono (ok' := (fun k_ => ((P0_ k_ ∨ P1_1_ k_) ∨ w.heap.size ≤ k_) ∧ some k_ ≠ (v555 : Value).ownBlock ∧ some k_ ≠ (v558 : Value).ownBlock ∧ k_ ≠ gb553)) (HO1_1.out) (fun k_ hk => ⟨hk.1.1.1, ⟨hk.1.2, ⟨hk.2, hk.1.1.2⟩⟩⟩))))) (Reps.none _ _)))
         intro v564 w29 ho30 hb hg_ hnew_
         clear hg_ hnew_
         (first | rw [← Ny563.out] at ho30 | (simp only [Int.reduceToNat] at ho30; rw [← Ny563.out] at ho30))
         replace HO0 := A_ (Kd.V_elder' (vV_ HO0.out) (kb_ ho30) hb)
         replace HO1_1 := A_ (Kd.V_elder' (vV_ HO1_1.out) (kb_ ho30) hb)
         replace HO556 := A_ (Kd.S_elder' (vS_ HO556.out) (kb_ ho30) hb)
         replace HO559 := A_ (Kd.N_elder' (vN_ HO559.out) (kb_ ho30) hb)
         have HO565 := A_ (Kd.N_lower ho30 (below_size (bG_ GE553.out)))
         replace BK553 := A_ (bw_ BK553.out hb)
         replace HB := A_ (below_step (bG_ GE553.out) hb)
         clear hb ho30
         refine hK.out _ _ (hl_ BK553.out) (fun hHeld => ?_)
         clear hK K
         refine no_ (some 14) ?_
         refine on_ (i := 2) (N := some 12) (fun K hK => ?_)
         refine Kd.N_append_rows_step k28 (w0 := w) w.heap.size (by rfl) (.tmp 10) (.tmp 11) 39 28 (.agg #[(.int .i64 0), (.slice none 0 0), (.bool false), (.bool false), (.int .i64 0)]) 48 rfl Try.underlying39 info28 rfl (by decide) (by omega) v558 y557 l0 _ _ _ (fun k_ => ((P0_ k_ ∨ P1_1_ k_) ∨ w.heap.size ≤ k_) ∧ some k_ ≠ (v555 : Value).ownBlock ∧ some k_ ≠ (v564 : Value).ownBlock ∧ k_ ≠ gb553) (fun k_ => ((fun k_ => ((P0_ k_ ∨ P1_1_ k_) ∨ w.heap.size ≤ k_) ∧ some k_ ≠ (v555 : Value).ownBlock ∧ some k_ ≠ (v564 : Value).ownBlock ∧ k_ ≠ gb553)) k_ ∧ some k_ ≠ (v558 : Value).ownBlock) rfl rfl ?aO ?aR (fun _ hk => hk) ?aF ?aB ?aS ?aL ?_
         (case aR => exact (by skip; exact Kd.V_F (Kd.V_mono (ok' := (fun k_ => ((fun k_ => ((P0_ k_ ∨ P1_1_ k_) ∨ w.heap.size ≤ k_) ∧ some k_ ≠ (v555 : Value).ownBlock ∧ some k_ ≠ (v564 : Value).ownBlock ∧ k_ ≠ gb553)) k_ ∧ some k_ ≠ (v558 : Value).ownBlock)) (HO0.out) (fun k_ hk => ⟨⟨hk.1.1.1.1, ⟨hk.1.1.2, ⟨hk.2, hk.1.1.1.2⟩⟩⟩, hk.1.2⟩))))
         (case aB => exact (bG_ GE553.out))
         (case aF => exact (fun k_ hk => ⟨(.inr (Nat.le_trans (below_size (bG_ GE553.out)) hk)), Kd.fresh' (Kd.S_lt (vS_ HO556.out)) k_ hk, Kd.fresh' (Kd.N_lt (vN_ HO565.out)) k_ hk, Kd.freshB (g := gb553) (o := .cells #[.int .i64 a1_0, .slice A1_1 l1_1.length c1_1, .bool a1_2, .bool a1_3, .int .i64 a1_4] 28 (0, 0)) (vb_ BK553.out) k_ hk⟩))
         (case aO => exact (by (with_reducible repeat (first | apply Kd.N_alloc | apply Kd.N_drewN | apply Kd.N_drew)); exact Kd.N_mono HO559.out (fun _ hk => ⟨hk.1.1, ⟨hk.1.2.1, ⟨hk.2, hk.1.2.2⟩⟩⟩)))
         (case aS => exact (below_size (bG_ GE553.out)))
         (case aL => have := LMc4.out; omega)
         intro v561 w31 ho hb hg hat
         rw [← Ny560.out] at ho
         replace HO0 := A_ (Kd.V_afterv (ok := (fun k_ => ((P0_ k_ ∨ P1_1_ k_) ∨ w.heap.size ≤ k_) ∧ some k_ ≠ (v555 : Value).ownBlock ∧ some k_ ≠ (v564 : Value).ownBlock ∧ k_ ≠ gb553)) (by (with_reducible repeat (first | apply Kd.V_alloc | apply Kd.V_drewN | apply Kd.V_drew)); exact Kd.V_mono HO0.out (fun _ hk => ⟨⟨hk.1.1.1.1, ⟨hk.1.1.2, ⟨hk.2, hk.1.1.1.2⟩⟩⟩, hk.1.2⟩)) hg hat)
         replace HO1_1 := A_ (Kd.V_afterv (ok := (fun k_ => ((P0_ k_ ∨ P1_1_ k_) ∨ w.heap.size ≤ k_) ∧ some k_ ≠ (v555 : Value).ownBlock ∧ some k_ ≠ (v564 : Value).ownBlock ∧ k_ ≠ gb553)) (by (with_reducible repeat (first | apply Kd.V_alloc | apply Kd.V_drewN | apply Kd.V_drew)); exact Kd.V_mono HO1_1.out (fun _ hk => ⟨⟨hk.1.1.1.1, ⟨hk.1.1.2, ⟨hk.2, hk.1.1.1.2⟩⟩⟩, hk.1.2⟩)) hg hat)
         replace BK553 := A_ (blk_grown (g := gb553) (o := .cells #[.int .i64 a1_0, .slice A1_1 l1_1.length c1_1, .bool a1_2, .bool a1_3, .int .i64 a1_4] 28 (0, 0)) (vb_ BK553.out) hg (Kd.N_away HO559.out (fun _ hk => hk.1.2.2)))
         replace HO556 := A_ (Kd.S_after (ok := (fun k_ => (w.heap.size ≤ k_) ∧ some k_ ≠ (v564 : Value).ownBlock ∧ k_ ≠ gb553)) (by (with_reducible repeat (first | apply Kd.S_alloc | apply Kd.S_drewN | apply Kd.S_drew)); exact Kd.S_mono HO556.out (fun _ hk => ⟨⟨hk.1.1.1.1, ⟨hk.2, hk.1.1.2⟩⟩, hk.1.2⟩)) hg hat)
         replace HO565 := A_ (Kd.N_afterv (ok := (fun k_ => ((P0_ k_ ∨ P1_1_ k_) ∨ w.heap.size ≤ k_) ∧ some k_ ≠ (v555 : Value).ownBlock ∧ k_ ≠ gb553)) (by (with_reducible repeat (first | apply Kd.N_alloc | apply Kd.N_drewN | apply Kd.N_drew)); exact Kd.N_mono HO565.out (fun _ hk => ⟨⟨hk.1, ⟨hk.2.1, hk.2.2.2⟩⟩, hk.2.2.1⟩)) hg hat)
         replace HB := A_ (hb)
         have HO562 := A_ (ho)
         clear HO559
         clear ho hb hg hat
         refine hK.out _ _ (hl_ BK553.out) (fun hHeld => ?_)
         clear hK K
         refine no_ (some 12) ?_
         exact norm_ (by simp only [putAll, Act.put, List.setIfInBounds_toArray, List.set_cons_zero, List.set_cons_succ]) (hCont (v558, v561, v564) _ ⟨hHeld, (by (with_reducible repeat (first | apply Kd.V_alloc | apply Kd.V_drewN | apply Kd.V_drew)); exact Kd.V_mono HO0.out (fun _ hk => ⟨hk.1.1, ⟨hk.1.2.1, ⟨hk.2, ⟨hk.1.2.2.1, hk.1.2.2.2⟩⟩⟩⟩)), (by (with_reducible repeat (first | apply Kd.V_alloc | apply Kd.V_drewN | apply Kd.V_drew)); exact Kd.V_mono HO1_1.out (fun _ hk => ⟨hk.1.1, ⟨hk.1.2.1, ⟨hk.2, ⟨hk.1.2.2.1, hk.1.2.2.2⟩⟩⟩⟩)), (by (with_reducible repeat (first | apply Kd.S_alloc | apply Kd.S_drewN | apply Kd.S_drew)); exact Kd.S_mono HO556.out (fun _ hk => ⟨hk.1.1, ⟨hk.2, ⟨hk.1.2.1, hk.1.2.2⟩⟩⟩)), (vN_ HO562.out), (by (with_reducible repeat (first | apply Kd.N_alloc | apply Kd.N_drewN | apply Kd.N_drew)); exact Kd.N_mono HO565.out (fun _ hk => ⟨hk.1.1, ⟨hk.1.2.1, ⟨hk.2, hk.1.2.2⟩⟩⟩)), (vb_ BK553.out), (bG_ GE553.out)⟩)
     · skip
       refine Kd.N_lit_step k28 _ 28 ?hg (N' := 14) ?hd (xs := ([(⟨a1_0, l1_1, a1_2, a1_3, a1_4⟩ : S28)] : List (S28))) (inner := [.int .i64 a1_0, .slice A1_1 l1_1.length c1_1, .bool a1_2, .bool a1_3, .int .i64 a1_4]) (ok := (fun k_ => ((P0_ k_ ∨ P1_1_ k_) ∨ w.heap.size ≤ k_) ∧ some k_ ≠ (v555 : Value).ownBlock ∧ k_ ≠ gb553)) (okp := (fun k_ => ((P0_ k_ ∨ P1_1_ k_) ∨ w.heap.size ≤ k_) ∧ some k_ ≠ (v555 : Value).ownBlock ∧ k_ ≠ gb553)) ?hr ?hp (fun _ hk => hk) ((show ∀ k_, w26.heap.size ≤ k_ → (fun k_ => ((P0_ k_ ∨ P1_1_ k_) ∨ w.heap.size ≤ k_) ∧ some k_ ≠ (v555 : Value).ownBlock ∧ k_ ≠ gb553) k_ from fun k_ hk => ⟨(.inr (Nat.le_trans (below_size (bG_ GE553.out)) hk)), Kd.fresh' (Kd.S_lt (vS_ HO556.out)) k_ hk, Kd.freshB (g := gb553) (o := .cells #[.int .i64 a1_0, .slice A1_1 l1_1.length c1_1, .bool a1_2, .bool a1_3, .int .i64 a1_4] 28 (0, 0)) (vb_ BK553.out) k_ hk⟩) _ (Nat.le_refl _)) (Below.refl _ _) (Nat.le_refl _) (by simp) ?_; (case hd => rfl); (case hg => rfl); (case hr => first | (go_simp; done) | (go_simp; rfl)); (case hp => exact (Reps.c5 (show Kd.FK k28 _ _ (⟨a1_0, l1_1, a1_2, a1_3, a1_4⟩ : S28) [.int .i64 a1_0, .slice A1_1 l1_1.length c1_1, .bool a1_2, .bool a1_3, .int .i64 a1_4] from (k28_mkF _ _ (⟨a1_0, l1_1, a1_2, a1_3, a1_4⟩ : S28) (Kd.V_reads' (Kd.V_mono (ok' := (fun k_ => ((P0_ k_ ∨ P1_1_ k_) ∨ w.heap.size ≤ k_) ∧ some k_ ≠ (v555 : Value).ownBlock ∧ k_ ≠ gb553)) (HO1_1.out) (fun k_ hk => ⟨hk.1.1, ⟨hk.2, hk.1.2⟩⟩))).2.1 (Kd.V_F (Kd.V_mono (ok' := (fun k_ => ((P0_ k_ ∨ P1_1_ k_) ∨ w.heap.size ≤ k_) ∧ some k_ ≠ (v555 : Value).ownBlock ∧ k_ ≠ gb553)) (HO1_1.out) (fun k_ hk => ⟨hk.1.1, ⟨hk.2, hk.1.2⟩⟩))))) (Reps.none _ _)))
       intro v564 w27 ho28 hb hg_ hnew_
       clear hg_ hnew_
       (first | rw [← Ny563.out] at ho28 | (simp only [Int.reduceToNat] at ho28; rw [← Ny563.out] at ho28))
       replace HO0 := A_ (Kd.V_elder' (vV_ HO0.out) (kb_ ho28) hb)
       replace HO1_1 := A_ (Kd.V_elder' (vV_ HO1_1.out) (kb_ ho28) hb)
       replace HO556 := A_ (Kd.S_elder' (vS_ HO556.out) (kb_ ho28) hb)
       have HO565 := A_ (Kd.N_lower ho28 (below_size (bG_ GE553.out)))
       replace BK553 := A_ (bw_ BK553.out hb)
       replace HB := A_ (below_step (bG_ GE553.out) hb)
       clear hb ho28
       refine hK.out _ _ (hl_ BK553.out) (fun hHeld => ?_)
       clear hK K
       refine no_ (some 14) ?_
       refine on_ (i := 0) (N := some 10) (fun K hK => ?_)
       refine Kd.N_lit_step k28 _ 28 ?hg (N' := 10) ?hd (xs := ([] : List (S28))) (inner := []) (ok := (fun k_ => ((P0_ k_ ∨ P1_1_ k_) ∨ w.heap.size ≤ k_) ∧ some k_ ≠ (v555 : Value).ownBlock ∧ some k_ ≠ (v564 : Value).ownBlock ∧ k_ ≠ gb553)) (okp := (fun k_ => ((P0_ k_ ∨ P1_1_ k_) ∨ w.heap.size ≤ k_) ∧ some k_ ≠ (v555 : Value).ownBlock ∧ some k_ ≠ (v564 : Value).ownBlock ∧ k_ ≠ gb553)) ?hr ?hp (fun _ hk => hk) ((show ∀ k_, w27.heap.size ≤ k_ → (fun k_ => ((P0_ k_ ∨ P1_1_ k_) ∨ w.heap.size ≤ k_) ∧ some k_ ≠ (v555 : Value).ownBlock ∧ some k_ ≠ (v564 : Value).ownBlock ∧ k_ ≠ gb553) k_ from fun k_ hk => ⟨(.inr (Nat.le_trans (below_size (bG_ GE553.out)) hk)), Kd.fresh' (Kd.S_lt (vS_ HO556.out)) k_ hk, Kd.fresh' (Kd.N_lt (vN_ HO565.out)) k_ hk, Kd.freshB (g := gb553) (o := .cells #[.int .i64 a1_0, .slice A1_1 l1_1.length c1_1, .bool a1_2, .bool a1_3, .int .i64 a1_4] 28 (0, 0)) (vb_ BK553.out) k_ hk⟩) _ (Nat.le_refl _)) (Below.refl _ _) (Nat.le_refl _) (by simp) ?_; (case hd => rfl); (case hg => rfl); (case hr => first | (go_simp; done) | (go_simp; rfl)); (case hp => exact (Reps.none _ _))
       intro v558 w29 ho30 hb hg_ hnew_
       clear hg_ hnew_
       (first | rw [← Ny557.out] at ho30 | (simp only [Int.reduceToNat] at ho30; rw [← Ny557.out] at ho30))
       replace HO0 := A_ (Kd.V_elder' (vV_ HO0.out) (kb_ ho30) hb)
       replace HO1_1 := A_ (Kd.V_elder' (vV_ HO1_1.out) (kb_ ho30) hb)
       replace HO556 := A_ (Kd.S_elder' (vS_ HO556.out) (kb_ ho30) hb)
       replace HO565 := A_ (Kd.N_elder' (vN_ HO565.out) (kb_ ho30) hb)
       have HO559 := A_ (Kd.N_lower ho30 (below_size (bG_ GE553.out)))
       replace BK553 := A_ (bw_ BK553.out hb)
       replace HB := A_ (below_step (bG_ GE553.out) hb)
       clear hb ho30
       refine hK.out _ _ (hl_ BK553.out) (fun hHeld => ?_)
       clear hK K
       refine no_ (some 10) ?_
       refine on_ (i := 2) (N := some 12) (fun K hK => ?_)
       refine Kd.N_append_rows_step k28 (w0 := w) w.heap.size (by rfl) (.tmp 10) (.tmp 11) 39 28 (.agg #[(.int .i64 0), (.slice none 0 0), (.bool false), (.bool false), (.int .i64 0)]) 48 rfl Try.underlying39 info28 rfl (by decide) (by omega) v558 y557 l0 _ _ _ (fun k_ => ((P0_ k_ ∨ P1_1_ k_) ∨ w.heap.size ≤ k_) ∧ some k_ ≠ (v555 : Value).ownBlock ∧ some k_ ≠ (v564 : Value).ownBlock ∧ k_ ≠ gb553) (fun k_ => ((fun k_ => ((P0_ k_ ∨ P1_1_ k_) ∨ w.heap.size ≤ k_) ∧ some k_ ≠ (v555 : Value).ownBlock ∧ some k_ ≠ (v564 : Value).ownBlock ∧ k_ ≠ gb553)) k_ ∧ some k_ ≠ (v558 : Value).ownBlock) rfl rfl ?aO ?aR (fun _ hk => hk) ?aF ?aB ?aS ?aL ?_
       (case aR => exact (by skip; exact Kd.V_F (Kd.V_mono (ok' := (fun k_ => ((fun k_ => ((P0_ k_ ∨ P1_1_ k_) ∨ w.heap.size ≤ k_) ∧ some k_ ≠ (v555 : Value).ownBlock ∧ some k_ ≠ (v564 : Value).ownBlock ∧ k_ ≠ gb553)) k_ ∧ some k_ ≠ (v558 : Value).ownBlock)) (HO0.out) (fun k_ hk => ⟨⟨hk.1.1.1.1, ⟨hk.1.1.2, ⟨hk.1.2, hk.1.1.1.2⟩⟩⟩, hk.2⟩))))
       (case aB => exact (bG_ GE553.out))
       (case aF => exact (fun k_ hk => ⟨(.inr (Nat.le_trans (below_size (bG_ GE553.out)) hk)), Kd.fresh' (Kd.S_lt (vS_ HO556.out)) k_ hk, Kd.fresh' (Kd.N_lt (vN_ HO565.out)) k_ hk, Kd.freshB (g := gb553) (o := .cells #[.int .i64 a1_0, .slice A1_1 l1_1.length c1_1, .bool a1_2, .bool a1_3, .int .i64 a1_4] 28 (0, 0)) (vb_ BK553.out) k_ hk⟩))
       (case aO => exact (vN_ HO559.out))
       (case aS => exact (below_size (bG_ GE553.out)))
       (case aL => have := LMc4.out; omega)
       intro v561 w31 ho hb hg hat
       rw [← Ny560.out] at ho
       replace HO0 := A_ (Kd.V_afterv (ok := (fun k_ => ((P0_ k_ ∨ P1_1_ k_) ∨ w.heap.size ≤ k_) ∧ some k_ ≠ (v555 : Value).ownBlock ∧ some k_ ≠ (v564 : Value).ownBlock ∧ k_ ≠ gb553)) (by (with_reducible repeat (first | apply Kd.V_alloc | apply Kd.V_drewN | apply Kd.V_drew)); exact Kd.V_mono HO0.out (fun _ hk => ⟨⟨hk.1.1.1.1, ⟨hk.1.1.2, ⟨hk.1.2, hk.1.1.1.2⟩⟩⟩, hk.2⟩)) hg hat)
       replace HO1_1 := A_ (Kd.V_afterv (ok := (fun k_ => ((P0_ k_ ∨ P1_1_ k_) ∨ w.heap.size ≤ k_) ∧ some k_ ≠ (v555 : Value).ownBlock ∧ some k_ ≠ (v564 : Value).ownBlock ∧ k_ ≠ gb553)) (by (with_reducible repeat (first | apply Kd.V_alloc | apply Kd.V_drewN | apply Kd.V_drew)); exact Kd.V_mono HO1_1.out (fun _ hk => ⟨⟨hk.1.1.1.1, ⟨hk.1.1.2, ⟨hk.1.2, hk.1.1.1.2⟩⟩⟩, hk.2⟩)) hg hat)
       replace BK553 := A_ (blk_grown (g := gb553) (o := .cells #[.int .i64 a1_0, .slice A1_1 l1_1.length c1_1, .bool a1_2, .bool a1_3, .int .i64 a1_4] 28 (0, 0)) (vb_ BK553.out) hg (Kd.N_away HO559.out (fun _ hk => hk.2.2.2)))
       replace HO556 := A_ (Kd.S_after (ok := (fun k_ => (w.heap.size ≤ k_) ∧ some k_ ≠ (v564 : Value).ownBlock ∧ k_ ≠ gb553)) (by (with_reducible repeat (first | apply Kd.S_alloc | apply Kd.S_drewN | apply Kd.S_drew)); exact Kd.S_mono HO556.out (fun _ hk => ⟨⟨hk.1.1.1.1, ⟨hk.1.2, hk.1.1.2⟩⟩, hk.2⟩)) hg hat)
       replace HO565 := A_ (Kd.N_afterv (ok := (fun k_ => ((P0_ k_ ∨ P1_1_ k_) ∨ w.heap.size ≤ k_) ∧ some k_ ≠ (v555 : Value).ownBlock ∧ k_ ≠ gb553)) (vN_ HO565.out) hg hat)
       replace HB := A_ (hb)
       have HO562 := A_ (ho)
       clear HO559
       clear ho hb hg hat
       refine hK.out _ _ (hl_ BK553.out) (fun hHeld => ?_)
       clear hK K
       refine no_ (some 12) ?_
       exact norm_ (by simp only [putAll, Act.put, List.setIfInBounds_toArray, List.set_cons_zero, List.set_cons_succ]) (hCont (v558, v561, v564) _ ⟨hHeld, (by (with_reducible repeat (first | apply Kd.V_alloc | apply Kd.V_drewN | apply Kd.V_drew)); exact Kd.V_mono HO0.out (fun _ hk => ⟨hk.1.1, ⟨hk.1.2.1, ⟨hk.2, ⟨hk.1.2.2.1, hk.1.2.2.2⟩⟩⟩⟩)), (by (with_reducible repeat (first | apply Kd.V_alloc | apply Kd.V_drewN | apply Kd.V_drew)); exact Kd.V_mono HO1_1.out (fun _ hk => ⟨hk.1.1, ⟨hk.1.2.1, ⟨hk.2, ⟨hk.1.2.2.1, hk.1.2.2.2⟩⟩⟩⟩)), (by (with_reducible repeat (first | apply Kd.S_alloc | apply Kd.S_drewN | apply Kd.S_drew)); exact Kd.S_mono HO556.out (fun _ hk => ⟨hk.1.1, ⟨hk.2, ⟨hk.1.2.1, hk.1.2.2⟩⟩⟩)), (vN_ HO562.out), (by (with_reducible repeat (first | apply Kd.N_alloc | apply Kd.N_drewN | apply Kd.N_drew)); exact Kd.N_mono HO565.out (fun _ hk => ⟨hk.1.1, ⟨hk.1.2.1, ⟨hk.2, hk.1.2.2⟩⟩⟩)), (vb_ BK553.out), (bG_ GE553.out)⟩)
   rintro ⟨v558, v561, v564⟩ w32 ⟨hS_, h0_, h1_, h2_, h3_, h4_, h5_, h6_⟩
   have n0_ : Aside0 (Kd.V k28 28 w32 w.heap.size (fun k_ => ((P0_ k_ ∨ P1_1_ k_) ∨ w.heap.size ≤ k_) ∧ some k_ ≠ (v555 : Value).ownBlock ∧ some k_ ≠ (v561 : Value).ownBlock ∧ some k_ ≠ (v564 : Value).ownBlock ∧ k_ ≠ gb553) (.slice A0 l0.length c0) l0) := ⟨h0_⟩
   have n1_ : Aside0 (Kd.V Kd.string 9 w32 w.heap.size (fun k_ => ((P0_ k_ ∨ P1_1_ k_) ∨ w.heap.size ≤ k_) ∧ some k_ ≠ (v555 : Value).ownBlock ∧ some k_ ≠ (v561 : Value).ownBlock ∧ some k_ ≠ (v564 : Value).ownBlock ∧ k_ ≠ gb553) (.slice A1_1 l1_1.length c1_1) l1_1) := ⟨h1_⟩
   have n2_ : Aside0 (Kd.S k28 28 w32 w.heap.size (fun k_ => (w.heap.size ≤ k_) ∧ some k_ ≠ (v561 : Value).ownBlock ∧ some k_ ≠ (v564 : Value).ownBlock ∧ k_ ≠ gb553) v555 t554) := ⟨h2_⟩
   have n3_ : Aside0 (Kd.N k28 28 w32 w.heap.size (fun k_ => ((P0_ k_ ∨ P1_1_ k_) ∨ w.heap.size ≤ k_) ∧ some k_ ≠ (v555 : Value).ownBlock ∧ some k_ ≠ (v564 : Value).ownBlock ∧ k_ ≠ gb553) v561 y560) := ⟨h3_⟩
   have n4_ : Aside0 (Kd.N k28 28 w32 w.heap.size (fun k_ => ((P0_ k_ ∨ P1_1_ k_) ∨ w.heap.size ≤ k_) ∧ some k_ ≠ (v555 : Value).ownBlock ∧ some k_ ≠ (v561 : Value).ownBlock ∧ k_ ≠ gb553) v564 y563) := ⟨h4_⟩
   have n5_ : Aside0 (w32.heap[gb553]? = some (.cells #[.int .i64 a1_0, .slice A1_1 l1_1.length c1_1, .bool a1_2, .bool a1_3, .int .i64 a1_4] 28 (0, 0))) := ⟨h5_⟩
   have n6_ : Aside0 (Below w.heap.size w w32) := ⟨h6_⟩
   clear HO0
   clear HO1_1
   clear HO556
   clear BK553
   clear HB
   clear h0_ h1_ h2_ h3_ h4_ h5_ h6_
   have HO0 := n0_
   have HO1_1 := n1_
   have HO556 := n2_
   have HO562 := n3_
   have HO565 := n4_
   have BK553 := n5_
   have HB := n6_
   clear n0_ n1_ n2_ n3_ n4_ n5_ n6_
   have hHeld : w32.cell? ⟨gb553, 0, none⟩ = some (.int .i64 a1_0) ∧ w32.cell? ⟨gb553, 1, none⟩ = some (.slice A1_1 l1_1.length c1_1) ∧ w32.cell? ⟨gb553, 2, none⟩ = some (.bool a1_2) ∧ w32.cell? ⟨gb553, 3, none⟩ = some (.bool a1_3) ∧ w32.cell? ⟨gb553, 4, none⟩ = some (.int .i64 a1_4) := hS_
   obtain ⟨Ao34, co34, eo34⟩ := Kd.N_slice HO565.out
   (first | subst eo34 | (injection eo34 with f1_ f2_ f3_; have f4_ := f1_.symm; have f5_ := f3_.symm; clear f1_ f2_ f3_; subst f4_; subst f5_))
   refine norm_ (a' := ?_) ?_ ?_
   rotate_left
   · simp only [putAll, Act.put, List.setIfInBounds_toArray, List.set_cons_zero, List.set_cons_succ]
     rfl
   refine on_ (i := 5) (N := some 15) (fun K hK => ?_)
   refine Kd.N_append_rows_step k28 (w0 := w) w.heap.size (by rfl) (.tmp 12) (.tmp 14) 39 28 (.agg #[(.int .i64 0), (.slice none 0 0), (.bool false), (.bool false), (.int .i64 0)]) 48 rfl Try.underlying39 info28 rfl (by decide) (by omega) v561 y560 y563 _ _ _ (fun k_ => ((P0_ k_ ∨ P1_1_ k_) ∨ w.heap.size ≤ k_) ∧ some k_ ≠ (v555 : Value).ownBlock ∧ k_ ≠ gb553) (fun k_ => ((fun k_ => ((P0_ k_ ∨ P1_1_ k_) ∨ w.heap.size ≤ k_) ∧ some k_ ≠ (v555 : Value).ownBlock ∧ k_ ≠ gb553)) k_ ∧ some k_ ≠ (v561 : Value).ownBlock) rfl rfl ?aO ?aR (fun _ hk => hk) ?aF ?aB ?aS ?aL ?_
   (case aR => exact (by skip; exact Kd.N_F (Kd.N_mono (ok' := (fun k_ => ((fun k_ => ((P0_ k_ ∨ P1_1_ k_) ∨ w.heap.size ≤ k_) ∧ some k_ ≠ (v555 : Value).ownBlock ∧ k_ ≠ gb553)) k_ ∧ some k_ ≠ (v561 : Value).ownBlock)) (HO565.out) (fun k_ hk => ⟨⟨hk.1, ⟨hk.2.1, hk.2.2.2⟩⟩, hk.2.2.1⟩))))
   (case aB => exact (bG_ GE553.out))
   (case aF => exact (fun k_ hk => ⟨(.inr (Nat.le_trans (below_size (bG_ GE553.out)) hk)), Kd.fresh' (Kd.S_lt (vS_ HO556.out)) k_ hk, Kd.freshB (g := gb553) (o := .cells #[.int .i64 a1_0, .slice A1_1 l1_1.length c1_1, .bool a1_2, .bool a1_3, .int .i64 a1_4] 28 (0, 0)) (vb_ BK553.out) k_ hk⟩))
   (case aO => exact (by (with_reducible repeat (first | apply Kd.N_alloc | apply Kd.N_drewN | apply Kd.N_drew)); exact Kd.N_mono HO562.out (fun _ hk => ⟨hk.1, ⟨hk.2.1, hk.2.2.2⟩⟩)))
   (case aS => exact (below_size (bG_ GE553.out)))
   (case aL => have := LMc5.out; omega)
   intro v567 w33 ho hb hg hat
   rw [← Ny566.out] at ho
   replace HO0 := A_ (Kd.V_afterv (ok := (fun k_ => ((P0_ k_ ∨ P1_1_ k_) ∨ w.heap.size ≤ k_) ∧ some k_ ≠ (v555 : Value).ownBlock ∧ some k_ ≠ (.slice Ao34 y563.length co34 : Value).ownBlock ∧ k_ ≠ gb553)) (by (with_reducible repeat (first | apply Kd.V_alloc | apply Kd.V_drewN | apply Kd.V_drew)); exact Kd.V_mono HO0.out (fun _ hk => ⟨⟨hk.1, ⟨hk.2.1, ⟨hk.2.2.2.1, hk.2.2.2.2⟩⟩⟩, hk.2.2.1⟩)) hg hat)
   replace HO1_1 := A_ (Kd.V_afterv (ok := (fun k_ => ((P0_ k_ ∨ P1_1_ k_) ∨ w.heap.size ≤ k_) ∧ some k_ ≠ (v555 : Value).ownBlock ∧ some k_ ≠ (.slice Ao34 y563.length co34 : Value).ownBlock ∧ k_ ≠ gb553)) (by (with_reducible repeat (first | apply Kd.V_alloc | apply Kd.V_drewN | apply Kd.V_drew)); exact Kd.V_mono HO1_1.out (fun _ hk => ⟨⟨hk.1, ⟨hk.2.1, ⟨hk.2.2.2.1, hk.2.2.2.2⟩⟩⟩, hk.2.2.1⟩)) hg hat)
   replace BK553 := A_ (blk_grown (g := gb553) (o := .cells #[.int .i64 a1_0, .slice A1_1 l1_1.length c1_1, .bool a1_2, .bool a1_3, .int .i64 a1_4] 28 (0, 0)) (vb_ BK553.out) hg (Kd.N_away HO562.out (fun _ hk => hk.2.2.2)))
   replace HO556 := A_ (Kd.S_after (ok := (fun k_ => (w.heap.size ≤ k_) ∧ some k_ ≠ (.slice Ao34 y563.length co34 : Value).ownBlock ∧ k_ ≠ gb553)) (by (with_reducible repeat (first | apply Kd.S_alloc | apply Kd.S_drewN | apply Kd.S_drew)); exact Kd.S_mono HO556.out (fun _ hk => ⟨⟨hk.1, ⟨hk.2.2.1, hk.2.2.2⟩⟩, hk.2.1⟩)) hg hat)
   replace HO565 := A_ (Kd.N_afterv (ok := (fun k_ => ((P0_ k_ ∨ P1_1_ k_) ∨ w.heap.size ≤ k_) ∧ some k_ ≠ (v555 : Value).ownBlock ∧ k_ ≠ gb553)) (by (with_reducible repeat (first | apply Kd.N_alloc | apply Kd.N_drewN | apply Kd.N_drew)); exact Kd.N_mono HO565.out (fun _ hk => ⟨⟨hk.1, ⟨hk.2.1, hk.2.2.2⟩⟩, hk.2.2.1⟩)) hg hat)
   replace HB := A_ (hb)
   have HO568 := A_ (ho)
   clear HO562
   clear ho hb hg hat
   obtain ⟨Ao35, co35, eo35⟩ := Kd.N_slice HO568.out
   (first | subst eo35 | (injection eo35 with f1_ f2_ f3_; have f4_ := f1_.symm; have f5_ := f3_.symm; clear f1_ f2_ f3_; subst f4_; subst f5_))
   refine hK.out _ _ (hl_ BK553.out) (fun hHeld => ?_)
   clear hK K
   refine no_ (some 15) ?_
   refine on_ (i := 6) (N := some 16) (fun K hK => ?_)
   refine goes_ Try.func68 (by kernel_rfl) rfl #[.slice Ao35 y566.length co35] (by rfl) rfl rfl ml_ ?_
   with_reducible refine (spec_l13Copy.calls k _ _ y566 t569 _ ?s1 ?s2 A6.out).mono ?_
   (case s1 => exact cC_ (Kd.N_reads' HO568.out).2.2)
   (case s2 => exact (Kd.N_reads' HO568.out).2.1)
   rintro e w36 ⟨v570, rfl, ho0, hb⟩
   refine ⟨_, rfl, ?_⟩
   replace HO0 := A_ (Kd.V_elder' (vV_ HO0.out) (kb_ ho0) hb)
   replace HO1_1 := A_ (Kd.V_elder' (vV_ HO1_1.out) (kb_ ho0) hb)
   have HO571 := A_ (Kd.S_lower (Kd.S_newB (Kd.S_new' (Kd.S_new' (Kd.S_new' (Kd.S_newM (M := fun k_ => (w.heap.size ≤ k_)) ho0 (below_size (bG_ GE553.out)) (fun k_ h_ => h_)) (Kd.S_lt (vS_ HO556.out))) (Kd.N_lt (vN_ HO565.out))) (Kd.N_lt (vN_ HO568.out))) (g := gb553) (o := .cells #[.int .i64 a1_0, .slice A1_1 l1_1.length c1_1, .bool a1_2, .bool a1_3, .int .i64 a1_4] 28 (0, 0)) (vb_ BK553.out)) (below_size (bG_ GE553.out)))
   replace HO556 := A_ (Kd.S_elder' (vS_ HO556.out) (kb_ ho0) hb)
   replace HO565 := A_ (Kd.N_elder' (vN_ HO565.out) (kb_ ho0) hb)
   replace HO568 := A_ (Kd.N_elder' (vN_ HO568.out) (kb_ ho0) hb)
   replace BK553 := A_ (bw_ BK553.out hb)
   replace HB := A_ (below_step (bG_ GE553.out) hb)
   (try clear hb)
   (try clear hb2)
   (try clear hk)
   (try clear hi)
   (try clear ho0)
   refine hK.out _ _ (hl_ BK553.out) (fun hHeld => ?_)
   clear hK K
   refine no_ (some 16) ?_
   refine pu_ (i := 7) (N := some 7) ?_
   refine done_ (done_of HT_.out (by kernel_rfl)) ?_
   (try clear hHeld)
   obtain ⟨Ao37, co37, eo37⟩ := Kd.S_slice HO571.out
   subst eo37
   try go_wp2_with (first | ((with_reducible refine gate_callee (f := 45) rfl ?_); refine gL_ (some 18) Try.func45 #[.slice Ao37 t569.length co37] ?_; (with_reducible refine (spec_LocksOk.calls k _ _ t569 false _ ?s1 ?s2 A7.out).mono ?_); (case s1 => exact cC_ (Kd.S_reads' HO571.out).2.2); (case s2 => exact (Kd.S_reads' HO571.out).2.1); rintro e w38 ⟨rfl, hb⟩; refine ⟨_, rfl, ?_⟩; replace HO0 := A_ (Kd.V_below (vV_ HO0.out) hb); replace HO1_1 := A_ (Kd.V_below (vV_ HO1_1.out) hb); replace HO556 := A_ (Kd.S_below (vS_ HO556.out) hb); replace HO565 := A_ (Kd.N_below (vN_ HO565.out) hb); replace HO568 := A_ (Kd.N_below (vN_ HO568.out) hb); replace HO571 := A_ (Kd.S_below (vS_ HO571.out) hb); replace BK553 := A_ (bw_ BK553.out hb); replace HB := A_ (below_step (bG_ GE553.out) hb); (try clear hb)))
   go_ret2
   exact ⟨_, rr_, by (with_reducible repeat (first | apply Kd.S_alloc | apply Kd.S_drewN | apply Kd.S_drew)); exact Kd.S_mono HO556.out (fun _ hk => hk.1.1.1), bG_ GE553.out⟩
end Go.Proofs.Ytiddgglidkbipaa.Q
