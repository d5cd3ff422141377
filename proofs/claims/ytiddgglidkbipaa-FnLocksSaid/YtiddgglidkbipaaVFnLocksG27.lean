-- PRINTED by print.py (a twelfth state) out of the translation. Not trusted: Lean checks it.
import Derived.Test.YtiddgglidkbipaaVFnLocksG12
import Derived.Test.YtiddgglidkbipaaVFnLocksG22
import Derived.Test.YtiddgglidkbipaaVFnLocksG23
import Derived.Test.YtiddgglidkbipaaVFnLocksG25
namespace Go.Proofs.Ytiddgglidkbipaa.Q
open Go.RowKit Go.Proofs.YtiddgglidkbipaaW.PrintWords Go.Proofs.YtiddgglidkbipaaW.PrintLast Go.Proofs.YtiddgglidkbipaaW.PrintMore
attribute [local go_sem] max2_int min2_int max_two min_two max_three min_three max_four min_four   -- for this text's walks alone
set_option linter.unusedVariables false
set_option linter.unusedSimpArgs false
def impl_AddLock.f (k : Nat) (l0 : List (S28)) (a1_0 : Int) (l1_1 : List ByteArray) (a1_2 : Bool) (a1_3 : Bool) (a1_4 : Int) : Option ((List (S28)) × Bool) := if ([] : List (S28)).length + l0.length < 2932031007402 then ((some (([] : List (S28)) ++ l0 : List (S28))).bind fun y574 => ((some (([(⟨a1_0, l1_1, a1_2, a1_3, a1_4⟩ : S28)] : List (S28)) : List (S28))).bind fun y577 => (if y574.length + y577.length < 2932031007402 then ((impl_copyLocks.f k (y574 ++ y577)).bind fun t583 => ((impl_LocksOk.f k t583).bind fun t586 => (if t586 = true then (some (t583, true)) else ((impl_copyLocks.f k l0).bind fun t587 => (some (t587, false)))))) else (none)))) else (none)
set_option maxHeartbeats 8000000 in
set_option maxRecDepth 100000 in
theorem impl_AddLock.calls (k : Nat) (P0_ : Nat → Prop) (A0 : Option Addr) (c0 : Nat) (l0 : List (S28)) (a1_0 : Int) (P1_1_ : Nat → Prop) (A1_1 : Option Addr) (c1_1 : Nat) (l1_1 : List ByteArray) (a1_2 : Bool) (a1_3 : Bool) (a1_4 : Int) (r1 : List (S28)) (r2 : Bool) (w : World) (hs0 : Kd.V k28 28 w w.heap.size (fun k_ => P0_ k_) (.slice A0 l0.length c0) l0) (hs1_1 : Kd.V Kd.string 9 w w.heap.size (fun k_ => P1_1_ k_) (.slice A1_1 l1_1.length c1_1) l1_1) (h : impl_AddLock.f k l0 a1_0 l1_1 a1_2 a1_3 a1_4 = some (r1, r2)) :
 Calls Try.prog 48 #[.slice A0 l0.length c0, .agg #[.int .i64 a1_0, .slice A1_1 l1_1.length c1_1, .bool a1_2, .bool a1_3, .int .i64 a1_4]] w fun e w' => ∃ v0_ : Value, e = .returned (.tuple #[v0_, .bool r2]) ∧ Kd.S k28 28 w' w.heap.size (fun k_ => (w.heap.size ≤ k_)) v0_ r1 ∧ Below w.heap.size w w' := by
 have hu28 := Try.underlying28
 have HO0 := A_ (show Kd.V k28 28 w w.heap.size (fun k_ => ((P0_ k_ ∨ P1_1_ k_) ∨ w.heap.size ≤ k_)) (.slice A0 l0.length c0) l0 from Kd.V_mono hs0 (fun k_ hk => .inl (.inl hk)))
 have HO1_1 := A_ (show Kd.V Kd.string 9 w w.heap.size (fun k_ => ((P0_ k_ ∨ P1_1_ k_) ∨ w.heap.size ≤ k_)) (.slice A1_1 l1_1.length c1_1) l1_1 from Kd.V_mono hs1_1 (fun k_ hk => .inl (.inr hk)))
 have HB := A_ (Below.refl w.heap.size w)
 have H : (if ([] : List (S28)).length + l0.length < 2932031007402 then ((some (([] : List (S28)) ++ l0 : List (S28))).bind fun y574 => ((some (([(⟨a1_0, l1_1, a1_2, a1_3, a1_4⟩ : S28)] : List (S28)) : List (S28))).bind fun y577 => (if y574.length + y577.length < 2932031007402 then ((impl_copyLocks.f k (y574 ++ y577)).bind fun t583 => ((impl_LocksOk.f k t583).bind fun t586 => (if t586 = true then (some (t583, true)) else ((impl_copyLocks.f k l0).bind fun t587 => (some (t587, false)))))) else (none)))) else (none)) = some (r1, r2) := h
 clear h
 by_cases c3 : ([] : List (S28)).length + l0.length < 2932031007402
 rotate_left
 · exact absurd H (by rw [if_neg c3]; simp)
 rw [if_pos c3] at H
 have LMc3 := Aside0.mk c3
 clear c3
 obtain ⟨y574, hy574⟩ : ∃ y_ : List (S28), y_ = (([] : List (S28)) ++ l0) := ⟨_, rfl⟩
 replace H : ((some (([(⟨a1_0, l1_1, a1_2, a1_3, a1_4⟩ : S28)] : List (S28)) : List (S28))).bind fun y577 => (if y574.length + y577.length < 2932031007402 then ((impl_copyLocks.f k (y574 ++ y577)).bind fun t583 => ((impl_LocksOk.f k t583).bind fun t586 => (if t586 = true then (some (t583, true)) else ((impl_copyLocks.f k l0).bind fun t587 => (some (t587, false)))))) else (none))) = some (r1, r2) := hy_ hy574 H
 have Ny574 := Aside0.mk hy574
 clear hy574
 obtain ⟨y577, hy577⟩ : ∃ y_ : List (S28), y_ = (([(⟨a1_0, l1_1, a1_2, a1_3, a1_4⟩ : S28)] : List (S28))) := ⟨_, rfl⟩
 replace H : (if y574.length + y577.length < 2932031007402 then ((impl_copyLocks.f k (y574 ++ y577)).bind fun t583 => ((impl_LocksOk.f k t583).bind fun t586 => (if t586 = true then (some (t583, true)) else ((impl_copyLocks.f k l0).bind fun t587 => (some (t587, false)))))) else (none)) = some (r1, r2) := hy_ hy577 H
 have Ny577 := Aside0.mk hy577
 clear hy577
 by_cases c4 : y574.length + y577.length < 2932031007402
 rotate_left
 · exact absurd H (by rw [if_neg c4]; simp)
 rw [if_pos c4] at H
 have LMc4 := Aside0.mk c4
 clear c4
 obtain ⟨y580, hy580⟩ : ∃ y_ : List (S28), y_ = (y574 ++ y577) := ⟨_, rfl⟩
 replace H : ((impl_copyLocks.f k y580).bind fun t583 => ((impl_LocksOk.f k t583).bind fun t586 => (if t586 = true then (some (t583, true)) else ((impl_copyLocks.f k l0).bind fun t587 => (some (t587, false)))))) = some (r1, r2) := hy_ hy580 H
 have Ny580 := Aside0.mk hy580
 clear hy580
 obtain ⟨t583, A5, H⟩ := bo_ H
 (try dsimp only at H)
 obtain ⟨t586, A6, H⟩ := bo_ H
 (try dsimp only at H)
 by_cases c7 : t586 = true
 · subst c7
   rw [if_pos rfl] at H
   simp only [Option.some.injEq, Prod.mk.injEq] at H
   obtain ⟨rfl, rfl⟩ := H
   go_enter Try.func48, Try.ntmps48
   try go_wp2_with (first | ((with_reducible refine gate_dst (N := 3) rfl ?_); refine bx_ (N := 3) (cs := #[.int .i64 a1_0, .slice A1_1 l1_1.length c1_1, .bool a1_2, .bool a1_3, .int .i64 a1_4]) (t := 28) ?_; intro gb573 hg w8 hbox hb; replace HO0 := A_ (Kd.V_below (Kd.V_elderB (vV_ HO0.out) gb573 (Nat.le_of_eq hg.symm)) hb); replace HO1_1 := A_ (Kd.V_below (Kd.V_elderB (vV_ HO1_1.out) gb573 (Nat.le_of_eq hg.symm)) hb); have BK573 := A_ (hbox); have GW573 := A_ (ge_ hg bB_ : w.heap.size ≤ gb573); have GE573 := A_ (ge_ hg bB_ : w.heap.size ≤ gb573); replace HB := A_ (below_step bB_ hb); clear hb hbox hg))
   replace HO0 := A_ (Kd.V_drew HO0.out)
   replace HO1_1 := A_ (Kd.V_drew HO1_1.out)
   replace BK573 := A_ (blk_drew BK573.out)
   replace HB := A_ (below_drew1 HB.out)
   refine start_ (n := 7) (S := fun w' => w'.cell? ⟨gb573, 0, none⟩ = some (.int .i64 a1_0) ∧ w'.cell? ⟨gb573, 1, none⟩ = some (.slice A1_1 l1_1.length c1_1) ∧ w'.cell? ⟨gb573, 2, none⟩ = some (.bool a1_2) ∧ w'.cell? ⟨gb573, 3, none⟩ = some (.bool a1_3) ∧ w'.cell? ⟨gb573, 4, none⟩ = some (.int .i64 a1_4)) (ds := []) #[false, false, false, false, false, false, false] (by kernel_rfl) rfl rfl (hl_ BK573.out) (fun hHeld => ?_)
   generalize w8.drew = w9 at HO0 HO1_1 BK573 HB hHeld ⊢
   refine pu_ (i := 0) (N := some 7) ?_
   refine tk_ (i := 2) (N := some 9) hHeld ?_
   refine join_ (σ := Value × Value) 3 #[true, true, true, true, false, false, false] (fun s_ => [(8, s_.1), (10, s_.2)]) (fun s_ w' => (w'.cell? ⟨gb573, 0, none⟩ = some (.int .i64 a1_0) ∧ w'.cell? ⟨gb573, 1, none⟩ = some (.slice A1_1 l1_1.length c1_1) ∧ w'.cell? ⟨gb573, 2, none⟩ = some (.bool a1_2) ∧ w'.cell? ⟨gb573, 3, none⟩ = some (.bool a1_3) ∧ w'.cell? ⟨gb573, 4, none⟩ = some (.int .i64 a1_4)) ∧ (Kd.V k28 28 w' w.heap.size (fun k_ => ((P0_ k_ ∨ P1_1_ k_) ∨ w.heap.size ≤ k_) ∧ some k_ ≠ (s_.1 : Value).ownBlock ∧ some k_ ≠ (s_.2 : Value).ownBlock ∧ k_ ≠ gb573) (.slice A0 l0.length c0) l0) ∧ (Kd.V Kd.string 9 w' w.heap.size (fun k_ => ((P0_ k_ ∨ P1_1_ k_) ∨ w.heap.size ≤ k_) ∧ some k_ ≠ (s_.1 : Value).ownBlock ∧ some k_ ≠ (s_.2 : Value).ownBlock ∧ k_ ≠ gb573) (.slice A1_1 l1_1.length c1_1) l1_1) ∧ (Kd.N k28 28 w' w.heap.size (fun k_ => ((P0_ k_ ∨ P1_1_ k_) ∨ w.heap.size ≤ k_) ∧ some k_ ≠ (s_.2 : Value).ownBlock ∧ k_ ≠ gb573) s_.1 y574) ∧ (Kd.N k28 28 w' w.heap.size (fun k_ => ((P0_ k_ ∨ P1_1_ k_) ∨ w.heap.size ≤ k_) ∧ some k_ ≠ (s_.1 : Value).ownBlock ∧ k_ ≠ gb573) s_.2 y577) ∧ (w'.heap[gb573]? = some (.cells #[.int .i64 a1_0, .slice A1_1 l1_1.length c1_1, .bool a1_2, .bool a1_3, .int .i64 a1_4] 28 (0, 0))) ∧ (Below w.heap.size w w')) ?_ ?_
   rotate_left
   · intro hCont
     refine two_ (i := 1) (j := 3) (Ni := some 8) (Nj := some 10) #[true, true, true, false, false, false, false] #[true, false, true, true, false, false, false] rfl rfl rfl rfl (by kernel_rfl) (by decide) (by decide) (fun K hK => ?_) (fun K hK => ?_)
     · skip
       refine Kd.N_append_rows_step k28 (w0 := w) w.heap.size rfl (.const (.slice none 0 0)) (.tmp 7) 39 28 (.agg #[(.int .i64 0), (.slice none 0 0), (.bool false), (.bool false), (.int .i64 0)]) 48 rfl Try.underlying39 info28 rfl (by decide) (by omega) (.slice none 0 0) ([] : List (S28)) l0 _ _ _ (fun k_ => ((P0_ k_ ∨ P1_1_ k_) ∨ w.heap.size ≤ k_) ∧ k_ ≠ gb573) (fun k_ => ((fun k_ => ((P0_ k_ ∨ P1_1_ k_) ∨ w.heap.size ≤ k_) ∧ k_ ≠ gb573)) k_ ∧ some k_ ≠ (.slice none 0 0 : Value).ownBlock) rfl rfl ?aO ?aR (fun _ hk => hk) ?aF ?aB ?aS ?aL ?_
       (case aR => exact (by skip; exact Kd.V_F (Kd.V_mono (ok' := (fun k_ => ((fun k_ => ((P0_ k_ ∨ P1_1_ k_) ∨ w.heap.size ≤ k_) ∧ k_ ≠ gb573)) k_ ∧ some k_ ≠ (.slice none 0 0 : Value).ownBlock)) (HO0.out) (fun k_ hk => ⟨⟨hk.1, hk.2⟩, (by simp [Value.ownBlock])⟩))))
       (case aB => exact (bG_ GE573.out))
       (case aF => exact (fun k_ hk => ⟨(.inr (Nat.le_trans (below_size (bG_ GE573.out)) hk)), Kd.freshB (g := gb573) (o := .cells #[.int .i64 a1_0, .slice A1_1 l1_1.length c1_1, .bool a1_2, .bool a1_3, .int .i64 a1_4] 28 (0, 0)) (vb_ BK573.out) k_ hk⟩))
       (case aO => exact ((Kd.N_nil _ _ _ _ (fun k_ => ((P0_ k_ ∨ P1_1_ k_) ∨ w.heap.size ≤ k_) ∧ k_ ≠ gb573))))
       (case aS => exact (below_size (bG_ GE573.out)))
       (case aL => have := LMc3.out; omega)
       intro v575 w10 ho hb hg hat
       rw [← Ny574.out] at ho
       replace HO0 := A_ (Kd.V_afterv (Kd.V_apart_nil (vV_ HO0.out)) hg hat)
       replace HO1_1 := A_ (Kd.V_afterv (Kd.V_apart_nil (vV_ HO1_1.out)) hg hat)
       replace BK573 := A_ (blk_grown (g := gb573) (o := .cells #[.int .i64 a1_0, .slice A1_1 l1_1.length c1_1, .bool a1_2, .bool a1_3, .int .i64 a1_4] 28 (0, 0)) (vb_ BK573.out) hg (by simp [Value.ownBlock]))
       replace HB := A_ (hb)
       have HO576 := A_ (ho)
       clear ho hb hg hat
       refine hK.out _ _ (hl_ BK573.out) (fun hHeld => ?_)
       clear hK K
       refine no_ (some 8) ?_
       refine on_ (i := 3) (N := some 10) (fun K hK => ?_)
       refine Kd.N_lit_step k28 _ 28 ?hg (N' := 10) ?hd (xs := ([(⟨a1_0, l1_1, a1_2, a1_3, a1_4⟩ : S28)] : List (S28))) (inner := [.int .i64 a1_0, .slice A1_1 l1_1.length c1_1, .bool a1_2, .bool a1_3, .int .i64 a1_4]) (ok := (fun k_ => ((P0_ k_ ∨ P1_1_ k_) ∨ w.heap.size ≤ k_) ∧ some k_ ≠ (v575 : Value).ownBlock ∧ k_ ≠ gb573)) (okp := (fun k_ => ((P0_ k_ ∨ P1_1_ k_) ∨ w.heap.size ≤ k_) ∧ some k_ ≠ (v575 : Value).ownBlock ∧ k_ ≠ gb573)) ?hr ?hp (fun _ hk => hk) ((show ∀ k_, w10.heap.size ≤ k_ → (fun k_ => ((P0_ k_ ∨ P1_1_ k_) ∨ w.heap.size ≤ k_) ∧ some k_ ≠ (v575 : Value).ownBlock ∧ k_ ≠ gb573) k_ from fun k_ hk => ⟨(.inr (Nat.le_trans (below_size (bG_ GE573.out)) hk)), Kd.fresh' (Kd.N_lt (vN_ HO576.out)) k_ hk, Kd.freshB (g := gb573) (o := .cells #[.int .i64 a1_0, .slice A1_1 l1_1.length c1_1, .bool a1_2, .bool a1_3, .int .i64 a1_4] 28 (0, 0)) (vb_ BK573.out) k_ hk⟩) _ (Nat.le_refl _)) (Below.refl _ _) (Nat.le_refl _) (by simp) ?_; (case hd => rfl); (case hg => rfl); (case hr => first | (go_simp; done) | (go_simp; rfl)); (case hp => exact (Reps.c5 (show Kd.FK k28 _ _ (⟨a1_0, l1_1, a1_2, a1_3, a1_4⟩ : S28) [.int .i64 a1_0, .slice A1_1 l1_1.length c1_1, .bool a1_2, .bool a1_3, .int .i64 a1_4] from (k28_mkF _ _ (⟨a1_0, l1_1, a1_2, a1_3, a1_4⟩ : S28) (Kd.V_reads' (Kd.V_mono (ok' := (fun k_ => ((P0_ k_ ∨ P1_1_ k_) ∨ w.heap.size ≤ k_) ∧ some k_ ≠ (v575 : Value).ownBlock ∧ k_ ≠ gb573)) (HO1_1.out) (fun k_ hk => ⟨hk.1.1, ⟨hk.2, hk.1.2⟩⟩))).2.1 (Kd.V_F (Kd.V_mono (ok' := (fun k_ => ((P0_ k_ ∨ P1_1_ k_) ∨ w.heap.size ≤ k_) ∧ some k_ ≠ (v575 : Value).ownBlock ∧ k_ ≠ gb573)) (HO1_1.out) (fun k_ hk => ⟨hk.1.1, ⟨hk.2, hk.1.2⟩⟩))))) (Reps.none _ _)))
       intro v578 w11 ho12 hb hg_ hnew_
       clear hg_ hnew_
       (first | rw [← Ny577.out] at ho12 | (simp only [Int.reduceToNat] at ho12; rw [← Ny577.out] at ho12))
       replace HO0 := A_ (Kd.V_elder' (vV_ HO0.out) (kb_ ho12) hb)
       replace HO1_1 := A_ (Kd.V_elder' (vV_ HO1_1.out) (kb_ ho12) hb)
       replace HO576 := A_ (Kd.N_elder' (vN_ HO576.out) (kb_ ho12) hb)
       have HO579 := A_ (Kd.N_lower ho12 (below_size (bG_ GE573.out)))
       replace BK573 := A_ (bw_ BK573.out hb)
       replace HB := A_ (below_step (bG_ GE573.out) hb)
       clear hb ho12
       refine hK.out _ _ (hl_ BK573.out) (fun hHeld => ?_)
       clear hK K
       refine no_ (some 10) ?_
       exact norm_ (by simp only [putAll, Act.put, List.setIfInBounds_toArray, List.set_cons_zero, List.set_cons_succ]) (hCont (v575, v578) _ ⟨hHeld, (by (with_reducible repeat (first | apply Kd.V_alloc | apply Kd.V_drewN | apply Kd.V_drew)); exact Kd.V_mono HO0.out (fun _ hk => ⟨hk.1.1.1, ⟨hk.1.2, ⟨hk.2, hk.1.1.2⟩⟩⟩)), (by (with_reducible repeat (first | apply Kd.V_alloc | apply Kd.V_drewN | apply Kd.V_drew)); exact Kd.V_mono HO1_1.out (fun _ hk => ⟨hk.1.1.1, ⟨hk.1.2, ⟨hk.2, hk.1.1.2⟩⟩⟩)), (by (with_reducible repeat (first | apply Kd.N_alloc | apply Kd.N_drewN | apply Kd.N_drew)); exact Kd.N_mono HO576.out (fun _ hk => ⟨hk.1.1, ⟨hk.2, hk.1.2⟩⟩)), (vN_ HO579.out), (vb_ BK573.out), (bG_ GE573.out)⟩)
     · skip
       refine Kd.N_lit_step k28 _ 28 ?hg (N' := 10) ?hd (xs := ([(⟨a1_0, l1_1, a1_2, a1_3, a1_4⟩ : S28)] : List (S28))) (inner := [.int .i64 a1_0, .slice A1_1 l1_1.length c1_1, .bool a1_2, .bool a1_3, .int .i64 a1_4]) (ok := (fun k_ => ((P0_ k_ ∨ P1_1_ k_) ∨ w.heap.size ≤ k_) ∧ k_ ≠ gb573)) (okp := (fun k_ => ((P0_ k_ ∨ P1_1_ k_) ∨ w.heap.size ≤ k_) ∧ k_ ≠ gb573)) ?hr ?hp (fun _ hk => hk) ((show ∀ k_, w9.heap.size ≤ k_ → (fun k_ => ((P0_ k_ ∨ P1_1_ k_) ∨ w.heap.size ≤ k_) ∧ k_ ≠ gb573) k_ from fun k_ hk => ⟨(.inr (Nat.le_trans (below_size (bG_ GE573.out)) hk)), Kd.freshB (g := gb573) (o := .cells #[.int .i64 a1_0, .slice A1_1 l1_1.length c1_1, .bool a1_2, .bool a1_3, .int .i64 a1_4] 28 (0, 0)) (vb_ BK573.out) k_ hk⟩) _ (Nat.le_refl _)) (Below.refl _ _) (Nat.le_refl _) (by simp) ?_; (case hd => rfl); (case hg => rfl); (case hr => first | (go_simp; done) | (go_simp; rfl)); (case hp => exact (Reps.c5 (show Kd.FK k28 _ _ (⟨a1_0, l1_1, a1_2, a1_3, a1_4⟩ : S28) [.int .i64 a1_0, .slice A1_1 l1_1.length c1_1, .bool a1_2, .bool a1_3, .int .i64 a1_4] from (k28_mkF _ _ (⟨a1_0, l1_1, a1_2, a1_3, a1_4⟩ : S28) (Kd.V_reads' (Kd.V_mono (ok' := (fun k_ => ((P0_ k_ ∨ P1_1_ k_) ∨ w.heap.size ≤ k_) ∧ k_ ≠ gb573)) (HO1_1.out) (fun k_ hk => ⟨hk.1, hk.2⟩))).2.1 (Kd.V_F (Kd.V_mono (ok' := (fun k_ => ((P0_ k_ ∨ P1_1_ k_) ∨ w.heap.size ≤ k_) ∧ k_ ≠ gb573)) (HO1_1.out) (fun k_ hk => ⟨hk.1, hk.2⟩))))) (Reps.none _ _)))
       intro v578 w10 ho11 hb hg_ hnew_
       clear hg_ hnew_
       (first | rw [← Ny577.out] at ho11 | (simp only [Int.reduceToNat] at ho11; rw [← Ny577.out] at ho11))
       replace HO0 := A_ (Kd.V_elder' (vV_ HO0.out) (kb_ ho11) hb)
       replace HO1_1 := A_ (Kd.V_elder' (vV_ HO1_1.out) (kb_ ho11) hb)
       have HO579 := A_ (Kd.N_lower ho11 (below_size (bG_ GE573.out)))
       replace BK573 := A_ (bw_ BK573.out hb)
       replace HB := A_ (below_step (bG_ GE573.out) hb)
       clear hb ho11
       refine hK.out _ _ (hl_ BK573.out) (fun hHeld => ?_)
       clear hK K
       refine no_ (some 10) ?_
       refine on_ (i := 1) (N := some 8) (fun K hK => ?_)
       refine Kd.N_append_rows_step k28 (w0 := w) w.heap.size rfl (.const (.slice none 0 0)) (.tmp 7) 39 28 (.agg #[(.int .i64 0), (.slice none 0 0), (.bool false), (.bool false), (.int .i64 0)]) 48 rfl Try.underlying39 info28 rfl (by decide) (by omega) (.slice none 0 0) ([] : List (S28)) l0 _ _ _ (fun k_ => ((P0_ k_ ∨ P1_1_ k_) ∨ w.heap.size ≤ k_) ∧ some k_ ≠ (v578 : Value).ownBlock ∧ k_ ≠ gb573) (fun k_ => ((fun k_ => ((P0_ k_ ∨ P1_1_ k_) ∨ w.heap.size ≤ k_) ∧ some k_ ≠ (v578 : Value).ownBlock ∧ k_ ≠ gb573)) k_ ∧ some k_ ≠ (.slice none 0 0 : Value).ownBlock) rfl rfl ?aO ?aR (fun _ hk => hk) ?aF ?aB ?aS ?aL ?_
       (case aR => exact (by skip; exact Kd.V_F (Kd.V_mono (ok' := (fun k_ => ((fun k_ => ((P0_ k_ ∨ P1_1_ k_) ∨ w.heap.size ≤ k_) ∧ some k_ ≠ (v578 : Value).ownBlock ∧ k_ ≠ gb573)) k_ ∧ some k_ ≠ (.slice none 0 0 : Value).ownBlock)) (HO0.out) (fun k_ hk => ⟨⟨hk.1.1, ⟨hk.2, hk.1.2⟩⟩, (by simp [Value.ownBlock])⟩))))
       (case aB => exact (bG_ GE573.out))
       (case aF => exact (fun k_ hk => ⟨(.inr (Nat.le_trans (below_size (bG_ GE573.out)) hk)), Kd.fresh' (Kd.N_lt (vN_ HO579.out)) k_ hk, Kd.freshB (g := gb573) (o := .cells #[.int .i64 a1_0, .slice A1_1 l1_1.length c1_1, .bool a1_2, .bool a1_3, .int .i64 a1_4] 28 (0, 0)) (vb_ BK573.out) k_ hk⟩))
       (case aO => exact ((Kd.N_nil _ _ _ _ (fun k_ => ((P0_ k_ ∨ P1_1_ k_) ∨ w.heap.size ≤ k_) ∧ some k_ ≠ (v578 : Value).ownBlock ∧ k_ ≠ gb573))))
       (case aS => exact (below_size (bG_ GE573.out)))
       (case aL => have := LMc3.out; omega)
       intro v575 w12 ho hb hg hat
       rw [← Ny574.out] at ho
       replace HO0 := A_ (Kd.V_afterv (Kd.V_apart_nil (vV_ HO0.out)) hg hat)
       replace HO1_1 := A_ (Kd.V_afterv (Kd.V_apart_nil (vV_ HO1_1.out)) hg hat)
       replace BK573 := A_ (blk_grown (g := gb573) (o := .cells #[.int .i64 a1_0, .slice A1_1 l1_1.length c1_1, .bool a1_2, .bool a1_3, .int .i64 a1_4] 28 (0, 0)) (vb_ BK573.out) hg (by simp [Value.ownBlock]))
       replace HO579 := A_ (Kd.N_afterv (Kd.N_apart_nil (vN_ HO579.out)) hg hat)
       replace HB := A_ (hb)
       have HO576 := A_ (ho)
       clear ho hb hg hat
       refine hK.out _ _ (hl_ BK573.out) (fun hHeld => ?_)
       clear hK K
       refine no_ (some 8) ?_
       exact norm_ (by simp only [putAll, Act.put, List.setIfInBounds_toArray, List.set_cons_zero, List.set_cons_succ]) (hCont (v575, v578) _ ⟨hHeld, (by (with_reducible repeat (first | apply Kd.V_alloc | apply Kd.V_drewN | apply Kd.V_drew)); exact Kd.V_mono HO0.out (fun _ hk => ⟨hk.1.1.1, ⟨hk.2, ⟨hk.1.2, hk.1.1.2⟩⟩⟩)), (by (with_reducible repeat (first | apply Kd.V_alloc | apply Kd.V_drewN | apply Kd.V_drew)); exact Kd.V_mono HO1_1.out (fun _ hk => ⟨hk.1.1.1, ⟨hk.2, ⟨hk.1.2, hk.1.1.2⟩⟩⟩)), (vN_ HO576.out), (by (with_reducible repeat (first | apply Kd.N_alloc | apply Kd.N_drewN | apply Kd.N_drew)); exact Kd.N_mono HO579.out (fun _ hk => ⟨hk.1.1, ⟨hk.2, hk.1.2⟩⟩)), (vb_ BK573.out), (bG_ GE573.out)⟩)
   rintro ⟨v575, v578⟩ w13 ⟨hS_, h0_, h1_, h2_, h3_, h4_, h5_⟩
   have n0_ : Aside0 (Kd.V k28 28 w13 w.heap.size (fun k_ => ((P0_ k_ ∨ P1_1_ k_) ∨ w.heap.size ≤ k_) ∧ some k_ ≠ (v575 : Value).ownBlock ∧ some k_ ≠ (v578 : Value).ownBlock ∧ k_ ≠ gb573) (.slice A0 l0.length c0) l0) := ⟨h0_⟩
   have n1_ : Aside0 (Kd.V Kd.string 9 w13 w.heap.size (fun k_ => ((P0_ k_ ∨ P1_1_ k_) ∨ w.heap.size ≤ k_) ∧ some k_ ≠ (v575 : Value).ownBlock ∧ some k_ ≠ (v578 : Value).ownBlock ∧ k_ ≠ gb573) (.slice A1_1 l1_1.length c1_1) l1_1) := ⟨h1_⟩
   have n2_ : Aside0 (Kd.N k28 28 w13 w.heap.size (fun k_ => ((P0_ k_ ∨ P1_1_ k_) ∨ w.heap.size ≤ k_) ∧ some k_ ≠ (v578 : Value).ownBlock ∧ k_ ≠ gb573) v575 y574) := ⟨h2_⟩
   have n3_ : Aside0 (Kd.N k28 28 w13 w.heap.size (fun k_ => ((P0_ k_ ∨ P1_1_ k_) ∨ w.heap.size ≤ k_) ∧ some k_ ≠ (v575 : Value).ownBlock ∧ k_ ≠ gb573) v578 y577) := ⟨h3_⟩
   have n4_ : Aside0 (w13.heap[gb573]? = some (.cells #[.int .i64 a1_0, .slice A1_1 l1_1.length c1_1, .bool a1_2, .bool a1_3, .int .i64 a1_4] 28 (0, 0))) := ⟨h4_⟩
   have n5_ : Aside0 (Below w.heap.size w w13) := ⟨h5_⟩
   clear HO0
   clear HO1_1
   clear BK573
   clear HB
   clear h0_ h1_ h2_ h3_ h4_ h5_
   have HO0 := n0_
   have HO1_1 := n1_
   have HO576 := n2_
   have HO579 := n3_
   have BK573 := n4_
   have HB := n5_
   clear n0_ n1_ n2_ n3_ n4_ n5_
   have hHeld : w13.cell? ⟨gb573, 0, none⟩ = some (.int .i64 a1_0) ∧ w13.cell? ⟨gb573, 1, none⟩ = some (.slice A1_1 l1_1.length c1_1) ∧ w13.cell? ⟨gb573, 2, none⟩ = some (.bool a1_2) ∧ w13.cell? ⟨gb573, 3, none⟩ = some (.bool a1_3) ∧ w13.cell? ⟨gb573, 4, none⟩ = some (.int .i64 a1_4) := hS_
   obtain ⟨Ao15, co15, eo15⟩ := Kd.N_slice HO579.out
   (first | subst eo15 | (injection eo15 with f1_ f2_ f3_; have f4_ := f1_.symm; have f5_ := f3_.symm; clear f1_ f2_ f3_; subst f4_; subst f5_))
   refine norm_ (a' := ?_) ?_ ?_
   rotate_left
   · simp only [putAll, Act.put, List.setIfInBounds_toArray, List.set_cons_zero, List.set_cons_succ]
     rfl
   refine on_ (i := 4) (N := some 11) (fun K hK => ?_)
   refine Kd.N_append_rows_step k28 (w0 := w) w.heap.size (by rfl) (.tmp 8) (.tmp 10) 39 28 (.agg #[(.int .i64 0), (.slice none 0 0), (.bool false), (.bool false), (.int .i64 0)]) 48 rfl Try.underlying39 info28 rfl (by decide) (by omega) v575 y574 y577 _ _ _ (fun k_ => ((P0_ k_ ∨ P1_1_ k_) ∨ w.heap.size ≤ k_) ∧ k_ ≠ gb573) (fun k_ => ((fun k_ => ((P0_ k_ ∨ P1_1_ k_) ∨ w.heap.size ≤ k_) ∧ k_ ≠ gb573)) k_ ∧ some k_ ≠ (v575 : Value).ownBlock) rfl rfl ?aO ?aR (fun _ hk => hk) ?aF ?aB ?aS ?aL ?_
   (case aR => exact (by skip; exact Kd.N_F (Kd.N_mono (ok' := (fun k_ => ((fun k_ => ((P0_ k_ ∨ P1_1_ k_) ∨ w.heap.size ≤ k_) ∧ k_ ≠ gb573)) k_ ∧ some k_ ≠ (v575 : Value).ownBlock)) (HO579.out) (fun k_ hk => ⟨⟨hk.1, hk.2.2⟩, hk.2.1⟩))))
   (case aB => exact (bG_ GE573.out))
   (case aF => exact (fun k_ hk => ⟨(.inr (Nat.le_trans (below_size (bG_ GE573.out)) hk)), Kd.freshB (g := gb573) (o := .cells #[.int .i64 a1_0, .slice A1_1 l1_1.length c1_1, .bool a1_2, .bool a1_3, .int .i64 a1_4] 28 (0, 0)) (vb_ BK573.out) k_ hk⟩))
   (case aO => exact (by (with_reducible repeat (first | apply Kd.N_alloc | apply Kd.N_drewN | apply Kd.N_drew)); exact Kd.N_mono HO576.out (fun _ hk => ⟨hk.1, hk.2.2⟩)))
   (case aS => exact (below_size (bG_ GE573.out)))
   (case aL => have := LMc4.out; omega)
   intro v581 w14 ho hb hg hat
   rw [← Ny580.out] at ho
   replace HO0 := A_ (Kd.V_afterv (ok := (fun k_ => ((P0_ k_ ∨ P1_1_ k_) ∨ w.heap.size ≤ k_) ∧ some k_ ≠ (.slice Ao15 y577.length co15 : Value).ownBlock ∧ k_ ≠ gb573)) (by (with_reducible repeat (first | apply Kd.V_alloc | apply Kd.V_drewN | apply Kd.V_drew)); exact Kd.V_mono HO0.out (fun _ hk => ⟨⟨hk.1, ⟨hk.2.2.1, hk.2.2.2⟩⟩, hk.2.1⟩)) hg hat)
   replace HO1_1 := A_ (Kd.V_afterv (ok := (fun k_ => ((P0_ k_ ∨ P1_1_ k_) ∨ w.heap.size ≤ k_) ∧ some k_ ≠ (.slice Ao15 y577.length co15 : Value).ownBlock ∧ k_ ≠ gb573)) (by (with_reducible repeat (first | apply Kd.V_alloc | apply Kd.V_drewN | apply Kd.V_drew)); exact Kd.V_mono HO1_1.out (fun _ hk => ⟨⟨hk.1, ⟨hk.2.2.1, hk.2.2.2⟩⟩, hk.2.1⟩)) hg hat)
   replace BK573 := A_ (blk_grown (g := gb573) (o := .cells #[.int .i64 a1_0, .slice A1_1 l1_1.length c1_1, .bool a1_2, .bool a1_3, .int .i64 a1_4] 28 (0, 0)) (vb_ BK573.out) hg (Kd.N_away HO576.out (fun _ hk => hk.2.2)))
   replace HO579 := A_ (Kd.N_afterv (ok := (fun k_ => ((P0_ k_ ∨ P1_1_ k_) ∨ w.heap.size ≤ k_) ∧ k_ ≠ gb573)) (by (with_reducible repeat (first | apply Kd.N_alloc | apply Kd.N_drewN | apply Kd.N_drew)); exact Kd.N_mono HO579.out (fun _ hk => ⟨⟨hk.1, hk.2.2⟩, hk.2.1⟩)) hg hat)
   replace HB := A_ (hb)
   have HO582 := A_ (ho)
   clear HO576
   clear ho hb hg hat
   obtain ⟨Ao16, co16, eo16⟩ := Kd.N_slice HO582.out
   (first | subst eo16 | (injection eo16 with f1_ f2_ f3_; have f4_ := f1_.symm; have f5_ := f3_.symm; clear f1_ f2_ f3_; subst f4_; subst f5_))
   refine hK.out _ _ (hl_ BK573.out) (fun hHeld => ?_)
   clear hK K
   refine no_ (some 11) ?_
   refine on_ (i := 5) (N := some 12) (fun K hK => ?_)
   refine goes_ Try.func69 (by kernel_rfl) rfl #[.slice Ao16 y580.length co16] (by rfl) rfl rfl ml_ ?_
   with_reducible refine (impl_copyLocks.calls k _ _ y580 t583 _ ?s1 ?s2 A5.out).mono ?_
   (case s1 => exact cC_ (Kd.N_reads' HO582.out).2.2)
   (case s2 => exact (Kd.N_reads' HO582.out).2.1)
   rintro e w17 ⟨v584, rfl, ho0, hb⟩
   refine ⟨_, rfl, ?_⟩
   replace HO0 := A_ (Kd.V_elder' (vV_ HO0.out) (kb_ ho0) hb)
   replace HO1_1 := A_ (Kd.V_elder' (vV_ HO1_1.out) (kb_ ho0) hb)
   have HO585 := A_ (Kd.S_lower (Kd.S_newB (Kd.S_new' (Kd.S_new' (Kd.S_newM (M := fun k_ => (w.heap.size ≤ k_)) ho0 (below_size (bG_ GE573.out)) (fun k_ h_ => h_)) (Kd.N_lt (vN_ HO579.out))) (Kd.N_lt (vN_ HO582.out))) (g := gb573) (o := .cells #[.int .i64 a1_0, .slice A1_1 l1_1.length c1_1, .bool a1_2, .bool a1_3, .int .i64 a1_4] 28 (0, 0)) (vb_ BK573.out)) (below_size (bG_ GE573.out)))
   replace HO579 := A_ (Kd.N_elder' (vN_ HO579.out) (kb_ ho0) hb)
   replace HO582 := A_ (Kd.N_elder' (vN_ HO582.out) (kb_ ho0) hb)
   replace BK573 := A_ (bw_ BK573.out hb)
   replace HB := A_ (below_step (bG_ GE573.out) hb)
   (try clear hb)
   (try clear hb2)
   (try clear hk)
   (try clear hi)
   (try clear ho0)
   refine hK.out _ _ (hl_ BK573.out) (fun hHeld => ?_)
   clear hK K
   refine no_ (some 12) ?_
   refine pu_ (i := 6) (N := some 6) ?_
   refine done_ (by kernel_rfl) ?_
   obtain ⟨Ao18, co18, eo18⟩ := Kd.S_slice HO585.out
   subst eo18
   try go_wp2_with (first | ((with_reducible refine gate_callee (f := 46) rfl ?_); refine gL_ (some 14) Try.func46 #[.slice Ao18 t583.length co18] ?_; (with_reducible refine (impl_LocksOk.calls k _ _ t583 true _ ?s1 ?s2 A6.out).mono ?_); (case s1 => exact cC_ (Kd.S_reads' HO585.out).2.2); (case s2 => exact (Kd.S_reads' HO585.out).2.1); rintro e w19 ⟨rfl, hb⟩; refine ⟨_, rfl, ?_⟩; replace HO0 := A_ (Kd.V_below (vV_ HO0.out) hb); replace HO1_1 := A_ (Kd.V_below (vV_ HO1_1.out) hb); replace HO579 := A_ (Kd.N_below (vN_ HO579.out) hb); replace HO582 := A_ (Kd.N_below (vN_ HO582.out) hb); replace HO585 := A_ (Kd.S_below (vS_ HO585.out) hb); replace BK573 := A_ (bw_ BK573.out hb); replace HB := A_ (below_step (bG_ GE573.out) hb); (try clear hb)))
   go_ret2
   exact ⟨_, rr_, by (with_reducible repeat (first | apply Kd.S_alloc | apply Kd.S_drewN | apply Kd.S_drew)); exact Kd.S_mono HO585.out (fun _ hk => hk.1.1.1.1), bG_ GE573.out⟩
 · replace c7 := Bool.eq_false_iff.mpr c7
   subst c7
   rw [if_neg nf_] at H
   obtain ⟨t587, A20, H⟩ := bo_ H
   (try dsimp only at H)
   simp only [Option.some.injEq, Prod.mk.injEq] at H
   obtain ⟨rfl, rfl⟩ := H
   go_enter Try.func48, Try.ntmps48
   try go_wp2_with (first | ((with_reducible refine gate_dst (N := 3) rfl ?_); refine bx_ (N := 3) (cs := #[.int .i64 a1_0, .slice A1_1 l1_1.length c1_1, .bool a1_2, .bool a1_3, .int .i64 a1_4]) (t := 28) ?_; intro gb573 hg w21 hbox hb; replace HO0 := A_ (Kd.V_below (Kd.V_elderB (vV_ HO0.out) gb573 (Nat.le_of_eq hg.symm)) hb); replace HO1_1 := A_ (Kd.V_below (Kd.V_elderB (vV_ HO1_1.out) gb573 (Nat.le_of_eq hg.symm)) hb); have BK573 := A_ (hbox); have GW573 := A_ (ge_ hg bB_ : w.heap.size ≤ gb573); have GE573 := A_ (ge_ hg bB_ : w.heap.size ≤ gb573); replace HB := A_ (below_step bB_ hb); clear hb hbox hg))
   replace HO0 := A_ (Kd.V_drew HO0.out)
   replace HO1_1 := A_ (Kd.V_drew HO1_1.out)
   replace BK573 := A_ (blk_drew BK573.out)
   replace HB := A_ (below_drew1 HB.out)
   refine start_ (n := 7) (S := fun w' => w'.cell? ⟨gb573, 0, none⟩ = some (.int .i64 a1_0) ∧ w'.cell? ⟨gb573, 1, none⟩ = some (.slice A1_1 l1_1.length c1_1) ∧ w'.cell? ⟨gb573, 2, none⟩ = some (.bool a1_2) ∧ w'.cell? ⟨gb573, 3, none⟩ = some (.bool a1_3) ∧ w'.cell? ⟨gb573, 4, none⟩ = some (.int .i64 a1_4)) (ds := []) #[false, false, false, false, false, false, false] (by kernel_rfl) rfl rfl (hl_ BK573.out) (fun hHeld => ?_)
   generalize w21.drew = w22 at HO0 HO1_1 BK573 HB hHeld ⊢
   refine pu_ (i := 0) (N := some 7) ?_
   refine tk_ (i := 2) (N := some 9) hHeld ?_
   refine join_ (σ := Value × Value) 3 #[true, true, true, true, false, false, false] (fun s_ => [(8, s_.1), (10, s_.2)]) (fun s_ w' => (w'.cell? ⟨gb573, 0, none⟩ = some (.int .i64 a1_0) ∧ w'.cell? ⟨gb573, 1, none⟩ = some (.slice A1_1 l1_1.length c1_1) ∧ w'.cell? ⟨gb573, 2, none⟩ = some (.bool a1_2) ∧ w'.cell? ⟨gb573, 3, none⟩ = some (.bool a1_3) ∧ w'.cell? ⟨gb573, 4, none⟩ = some (.int .i64 a1_4)) ∧ (Kd.V k28 28 w' w.heap.size (fun k_ => ((P0_ k_ ∨ P1_1_ k_) ∨ w.heap.size ≤ k_) ∧ some k_ ≠ (s_.1 : Value).ownBlock ∧ some k_ ≠ (s_.2 : Value).ownBlock ∧ k_ ≠ gb573) (.slice A0 l0.length c0) l0) ∧ (Kd.V Kd.string 9 w' w.heap.size (fun k_ => ((P0_ k_ ∨ P1_1_ k_) ∨ w.heap.size ≤ k_) ∧ some k_ ≠ (s_.1 : Value).ownBlock ∧ some k_ ≠ (s_.2 : Value).ownBlock ∧ k_ ≠ gb573) (.slice A1_1 l1_1.length c1_1) l1_1) ∧ (Kd.N k28 28 w' w.heap.size (fun k_ => ((P0_ k_ ∨ P1_1_ k_) ∨ w.heap.size ≤ k_) ∧ some k_ ≠ (s_.2 : Value).ownBlock ∧ k_ ≠ gb573) s_.1 y574) ∧ (Kd.N k28 28 w' w.heap.size (fun k_ => ((P0_ k_ ∨ P1_1_ k_) ∨ w.heap.size ≤ k_) ∧ some k_ ≠ (s_.1 : Value).ownBlock ∧ k_ ≠ gb573) s_.2 y577) ∧ (w'.heap[gb573]? = some (.cells #[.int .i64 a1_0, .slice A1_1 l1_1.length c1_1, .bool a1_2, .bool a1_3, .int .i64 a1_4] 28 (0, 0))) ∧ (Below w.heap.size w w')) ?_ ?_
   rotate_left
   · intro hCont
     refine two_ (i := 1) (j := 3) (Ni := some 8) (Nj := some 10) #[true, true, true, false, false, false, false] #[true, false, true, true, false, false, false] rfl rfl rfl rfl (by kernel_rfl) (by decide) (by decide) (fun K hK => ?_) (fun K hK => ?_)
     · skip
       refine Kd.N_append_rows_step k28 (w0 := w) w.heap.size rfl (.const (.slice none 0 0)) (.tmp 7) 39 28 (.agg #[(.int .i64 0), (.slice none 0 0), (.bool false), (.bool false), (.int .i64 0)]) 48 rfl Try.underlying39 info28 rfl (by decide) (by omega) (.slice none 0 0) ([] : List (S28)) l0 _ _ _ (fun k_ => ((P0_ k_ ∨ P1_1_ k_) ∨ w.heap.size ≤ k_) ∧ k_ ≠ gb573) (fun k_ => ((fun k_ => ((P0_ k_ ∨ P1_1_ k_) ∨ w.heap.size ≤ k_) ∧ k_ ≠ gb573)) k_ ∧ some k_ ≠ (.slice none 0 0 : Value).ownBlock) rfl rfl ?aO ?aR (fun _ hk => hk) ?aF ?aB ?aS ?aL ?_
       (case aR => exact (by skip; exact Kd.V_F (Kd.V_mono (ok' := (fun k_ => ((fun k_ => ((P0_ k_ ∨ P1_1_ k_) ∨ w.heap.size ≤ k_) ∧ k_ ≠ gb573)) k_ ∧ some k_ ≠ (.slice none 0 0 : Value).ownBlock)) (HO0.out) (fun k_ hk => ⟨⟨hk.1, hk.2⟩, (by simp [Value.ownBlock])⟩))))
       (case aB => exact (bG_ GE573.out))
       (case aF => exact (fun k_ hk => ⟨(.inr (Nat.le_trans (below_size (bG_ GE573.out)) hk)), Kd.freshB (g := gb573) (o := .cells #[.int .i64 a1_0, .slice A1_1 l1_1.length c1_1, .bool a1_2, .bool a1_3, .int .i64 a1_4] 28 (0, 0)) (vb_ BK573.out) k_ hk⟩))
       (case aO => exact ((Kd.N_nil _ _ _ _ (fun k_ => ((P0_ k_ ∨ P1_1_ k_) ∨ w.heap.size ≤ k_) ∧ k_ ≠ gb573))))
       (case aS => exact (below_size (bG_ GE573.out)))
       (case aL => have := LMc3.out; omega)
       intro v575 w23 ho hb hg hat
       rw [← Ny574.out] at ho
       replace HO0 := A_ (Kd.V_afterv (Kd.V_apart_nil (vV_ HO0.out)) hg hat)
       replace HO1_1 := A_ (Kd.V_afterv (Kd.V_apart_nil (vV_ HO1_1.out)) hg hat)
       replace BK573 := A_ (blk_grown (g := gb573) (o := .cells #[.int .i64 a1_0, .slice A1_1 l1_1.length c1_1, .bool a1_2, .bool a1_3, .int .i64 a1_4] 28 (0, 0)) (vb_ BK573.out) hg (by simp [Value.ownBlock]))
       replace HB := A_ (hb)
       have HO576 := A_ (ho)
       clear ho hb hg hat
       refine hK.out _ _ (hl_ BK573.out) (fun hHeld => ?_)
       clear hK K
       refine no_ (some 8) ?_
       refine on_ (i := 3) (N := some 10) (fun K hK => ?_)
       refine Kd.N_lit_step k28 _ 28 ?hg (N' := 10) ?hd (xs := ([(⟨a1_0, l1_1, a1_2, a1_3, a1_4⟩ : S28)] : List (S28))) (inner := [.int .i64 a1_0, .slice A1_1 l1_1.length c1_1, .bool a1_2, .bool a1_3, .int .i64 a1_4]) (ok := (fun k_ => ((P0_ k_ ∨ P1_1_ k_) ∨ w.heap.size ≤ k_) ∧ some k_ ≠ (v575 : Value).ownBlock ∧ k_ ≠ gb573)) (okp := (fun k_ => ((P0_ k_ ∨ P1_1_ k_) ∨ w.heap.size ≤ k_) ∧ some k_ ≠ (v575 : Value).ownBlock ∧ k_ ≠ gb573)) ?hr ?hp (fun _ hk => hk) ((show ∀ k_, w23.heap.size ≤ k_ → (fun k_ => ((P0_ k_ ∨ P1_1_ k_) ∨ w.heap.size ≤ k_) ∧ some k_ ≠ (v575 : Value).ownBlock ∧ k_ ≠ gb573) k_ from fun k_ hk => ⟨(.inr (Nat.le_trans (below_size (bG_ GE573.out)) hk)), Kd.fresh' (Kd.N_lt (vN_ HO576.out)) k_ hk, Kd.freshB (g := gb573) (o := .cells #[.int .i64 a1_0, .slice A1_1 l1_1.length c1_1, .bool a1_2, .bool a1_3, .int .i64 a1_4] 28 (0, 0)) (vb_ BK573.out) k_ hk⟩) _ (Nat.le_refl _)) (Below.refl _ _) (Nat.le_refl _) (by simp) ?_; (case hd => rfl); (case hg => rfl); (case hr => first | (go_simp; done) | (go_simp; rfl)); (case hp => exact (Reps.c5 (show Kd.FK k28 _ _ (⟨a1_0, l1_1, a1_2, a1_3, a1_4⟩ : S28) [.int .i64 a1_0, .slice A1_1 l1_1.length c1_1, .bool a1_2, .bool a1_3, .int .i64 a1_4] from (k28_mkF _ _ (⟨a1_0, l1_1, a1_2, a1_3, a1_4⟩ : S28) (Kd.V_reads' (Kd.V_mono (ok' := (fun k_ => ((P0_ k_ ∨ P1_1_ k_) ∨ w.heap.size ≤ k_) ∧ some k_ ≠ (v575 : Value).ownBlock ∧ k_ ≠ gb573)) (HO1_1.out) (fun k_ hk => ⟨hk.1.1, ⟨hk.2, hk.1.2⟩⟩))).2.1 (Kd.V_F (Kd.V_mono (ok' := (fun k_ => ((P0_ k_ ∨ P1_1_ k_) ∨ w.heap.size ≤ k_) ∧ some k_ ≠ (v575 : Value).ownBlock ∧ k_ ≠ gb573)) (HO1_1.out) (fun k_ hk => ⟨hk.1.1, ⟨hk.2, hk.1.2⟩⟩))))) (Reps.none _ _)))
       intro v578 w24 ho25 hb hg_ hnew_
       clear hg_ hnew_
       (first | rw [← Ny577.out] at ho25 | (simp only [Int.reduceToNat] at ho25; rw [← Ny577.out] at ho25))
       replace HO0 := A_ (Kd.V_elder' (vV_ HO0.out) (kb_ ho25) hb)
       replace HO1_1 := A_ (Kd.V_elder' (vV_ HO1_1.out) (kb_ ho25) hb)
       replace HO576 := A_ (Kd.N_elder' (vN_ HO576.out) (kb_ ho25) hb)
       have HO579 := A_ (Kd.N_lower ho25 (below_size (bG_ GE573.out)))
       replace BK573 := A_ (bw_ BK573.out hb)
       replace HB := A_ (below_step (bG_ GE573.out) hb)
       clear hb ho25
       refine hK.out _ _ (hl_ BK573.out) (fun hHeld => ?_)
       clear hK K
       refine no_ (some 10) ?_
       exact norm_ (by simp only [putAll, Act.put, List.setIfInBounds_toArray, List.set_cons_zero, List.set_cons_succ]) (hCont (v575, v578) _ ⟨hHeld, (by (with_reducible repeat (first | apply Kd.V_alloc | apply Kd.V_drewN | apply Kd.V_drew)); exact Kd.V_mono HO0.out (fun _ hk => ⟨hk.1.1.1, ⟨hk.1.2, ⟨hk.2, hk.1.1.2⟩⟩⟩)), (by (with_reducible repeat (first | apply Kd.V_alloc | apply Kd.V_drewN | apply Kd.V_drew)); exact Kd.V_mono HO1_1.out (fun _ hk => ⟨hk.1.1.1, ⟨hk.1.2, ⟨hk.2, hk.1.1.2⟩⟩⟩)), (by (with_reducible repeat (first | apply Kd.N_alloc | apply Kd.N_drewN | apply Kd.N_drew)); exact Kd.N_mono HO576.out (fun _ hk => ⟨hk.1.1, ⟨hk.2, hk.1.2⟩⟩)), (vN_ HO579.out), (vb_ BK573.out), (bG_ GE573.out)⟩)
     · skip
       refine Kd.N_lit_step k28 _ 28 ?hg (N' := 10) ?hd (xs := ([(⟨a1_0, l1_1, a1_2, a1_3, a1_4⟩ : S28)] : List (S28))) (inner := [.int .i64 a1_0, .slice A1_1 l1_1.length c1_1, .bool a1_2, .bool a1_3, .int .i64 a1_4]) (ok := (fun k_ => ((P0_ k_ ∨ P1_1_ k_) ∨ w.heap.size ≤ k_) ∧ k_ ≠ gb573)) (okp := (fun k_ => ((P0_ k_ ∨ P1_1_ k_) ∨ w.heap.size ≤ k_) ∧ k_ ≠ gb573)) ?hr ?hp (fun _ hk => hk) ((show ∀ k_, w22.heap.size ≤ k_ → (fun k_ => ((P0_ k_ ∨ P1_1_ k_) ∨ w.heap.size ≤ k_) ∧ k_ ≠ gb573) k_ from fun k_ hk => ⟨(.inr (Nat.le_trans (below_size (bG_ GE573.out)) hk)), Kd.freshB (g := gb573) (o := .cells #[.int .i64 a1_0, .slice A1_1 l1_1.length c1_1, .bool a1_2, .bool a1_3, .int .i64 a1_4] 28 (0, 0)) (vb_ BK573.out) k_ hk⟩) _ (Nat.le_refl _)) (Below.refl _ _) (Nat.le_refl _) (by simp) ?_; (case hd => rfl); (case hg => rfl); (case hr => first | (go_simp; done) | (go_simp; rfl)); (case hp => exact (Reps.c5 (show Kd.FK k28 _ _ (⟨a1_0, l1_1, a1_2, a1_3, a1_4⟩ : S28) [.int .i64 a1_0, .slice A1_1 l1_1.length c1_1, .bool a1_2, .bool a1_3, .int .i64 a1_4] from (k28_mkF _ _ (⟨a1_0, l1_1, a1_2, a1_3, a1_4⟩ : S28) (Kd.V_reads' (Kd.V_mono (ok' := (fun k_ => ((P0_ k_ ∨ P1_1_ k_) ∨ w.heap.size ≤ k_) ∧ k_ ≠ gb573)) (HO1_1.out) (fun k_ hk => ⟨hk.1, hk.2⟩))).2.1 (Kd.V_F (Kd.V_mono (ok' := (fun k_ => ((P0_ k_ ∨ P1_1_ k_) ∨ w.heap.size ≤ k_) ∧ k_ ≠ gb573)) (HO1_1.out) (fun k_ hk => ⟨hk.1, hk.2⟩))))) (Reps.none _ _)))
       intro v578 w23 ho24 hb hg_ hnew_
       clear hg_ hnew_
       (first | rw [← Ny577.out] at ho24 | (simp only [Int.reduceToNat] at ho24; rw [← Ny577.out] at ho24))
       replace HO0 := A_ (Kd.V_elder' (vV_ HO0.out) (kb_ ho24) hb)
       replace HO1_1 := A_ (Kd.V_elder' (vV_ HO1_1.out) (kb_ ho24) hb)
       have HO579 := A_ (Kd.N_lower ho24 (below_size (bG_ GE573.out)))
       replace BK573 := A_ (bw_ BK573.out hb)
       replace HB := A_ (below_step (bG_ GE573.out) hb)
       clear hb ho24
       refine hK.out _ _ (hl_ BK573.out) (fun hHeld => ?_)
       clear hK K
       refine no_ (some 10) ?_
       refine on_ (i := 1) (N := some 8) (fun K hK => ?_)
       refine Kd.N_append_rows_step k28 (w0 := w) w.heap.size rfl (.const (.slice none 0 0)) (.tmp 7) 39 28 (.agg #[(.int .i64 0), (.slice none 0 0), (.bool false), (.bool false), (.int .i64 0)]) 48 rfl Try.underlying39 info28 rfl (by decide) (by omega) (.slice none 0 0) ([] : List (S28)) l0 _ _ _ (fun k_ => ((P0_ k_ ∨ P1_1_ k_) ∨ w.heap.size ≤ k_) ∧ some k_ ≠ (v578 : Value).ownBlock ∧ k_ ≠ gb573) (fun k_ => ((fun k_ => ((P0_ k_ ∨ P1_1_ k_) ∨ w.heap.size ≤ k_) ∧ some k_ ≠ (v578 : Value).ownBlock ∧ k_ ≠ gb573)) k_ ∧ some k_ ≠ (.slice none 0 0 : Value).ownBlock) rfl rfl ?aO ?aR (fun _ hk => hk) ?aF ?aB ?aS ?aL ?_
       (case aR => exact (by skip; exact Kd.V_F (Kd.V_mono (ok' := (fun k_ => ((fun k_ => ((P0_ k_ ∨ P1_1_ k_) ∨ w.heap.size ≤ k_) ∧ some k_ ≠ (v578 : Value).ownBlock ∧ k_ ≠ gb573)) k_ ∧ some k_ ≠ (.slice none 0 0 : Value).ownBlock)) (HO0.out) (fun k_ hk => ⟨⟨hk.1.1, ⟨hk.2, hk.1.2⟩⟩, (by simp [Value.ownBlock])⟩))))
       (case aB => exact (bG_ GE573.out))
       (case aF => exact (fun k_ hk => ⟨(.inr (Nat.le_trans (below_size (bG_ GE573.out)) hk)), Kd.fresh' (Kd.N_lt (vN_ HO579.out)) k_ hk, Kd.freshB (g := gb573) (o := .cells #[.int .i64 a1_0, .slice A1_1 l1_1.length c1_1, .bool a1_2, .bool a1_3, .int .i64 a1_4] 28 (0, 0)) (vb_ BK573.out) k_ hk⟩))
       (case aO => exact ((Kd.N_nil _ _ _ _ (fun k_ => ((P0_ k_ ∨ P1_1_ k_) ∨ w.heap.size ≤ k_) ∧ some k_ ≠ (v578 : Value).ownBlock ∧ k_ ≠ gb573))))
       (case aS => exact (below_size (bG_ GE573.out)))
       (case aL => have := LMc3.out; omega)
       intro v575 w25 ho hb hg hat
       rw [← Ny574.out] at ho
       replace HO0 := A_ (Kd.V_afterv (Kd.V_apart_nil (vV_ HO0.out)) hg hat)
       replace HO1_1 := A_ (Kd.V_afterv (Kd.V_apart_nil (vV_ HO1_1.out)) hg hat)
       replace BK573 := A_ (blk_grown (g := gb573) (o := .cells #[.int .i64 a1_0, .slice A1_1 l1_1.length c1_1, .bool a1_2, .bool a1_3, .int .i64 a1_4] 28 (0, 0)) (vb_ BK573.out) hg (by simp [Value.ownBlock]))
       replace HO579 := A_ (Kd.N_afterv (Kd.N_apart_nil (vN_ HO579.out)) hg hat)
       replace HB := A_ (hb)
       have HO576 := A_ (ho)
       clear ho hb hg hat
       refine hK.out _ _ (hl_ BK573.out) (fun hHeld => ?_)
       clear hK K
       refine no_ (some 8) ?_
       exact norm_ (by simp only [putAll, Act.put, List.setIfInBounds_toArray, List.set_cons_zero, List.set_cons_succ]) (hCont (v575, v578) _ ⟨hHeld, (by (with_reducible repeat (first | apply Kd.V_alloc | apply Kd.V_drewN | apply Kd.V_drew)); exact Kd.V_mono HO0.out (fun _ hk => ⟨hk.1.1.1, ⟨hk.2, ⟨hk.1.2, hk.1.1.2⟩⟩⟩)), (by (with_reducible repeat (first | apply Kd.V_alloc | apply Kd.V_drewN | apply Kd.V_drew)); exact Kd.V_mono HO1_1.out (fun _ hk => ⟨hk.1.1.1, ⟨hk.2, ⟨hk.1.2, hk.1.1.2⟩⟩⟩)), (vN_ HO576.out), (by (with_reducible repeat (first | apply Kd.N_alloc | apply Kd.N_drewN | apply Kd.N_drew)); exact Kd.N_mono HO579.out (fun _ hk => ⟨hk.1.1, ⟨hk.2, hk.1.2⟩⟩)), (vb_ BK573.out), (bG_ GE573.out)⟩)
   rintro ⟨v575, v578⟩ w26 ⟨hS_, h0_, h1_, h2_, h3_, h4_, h5_⟩
   have n0_ : Aside0 (Kd.V k28 28 w26 w.heap.size (fun k_ => ((P0_ k_ ∨ P1_1_ k_) ∨ w.heap.size ≤ k_) ∧ some k_ ≠ (v575 : Value).ownBlock ∧ some k_ ≠ (v578 : Value).ownBlock ∧ k_ ≠ gb573) (.slice A0 l0.length c0) l0) := ⟨h0_⟩
   have n1_ : Aside0 (Kd.V Kd.string 9 w26 w.heap.size (fun k_ => ((P0_ k_ ∨ P1_1_ k_) ∨ w.heap.size ≤ k_) ∧ some k_ ≠ (v575 : Value).ownBlock ∧ some k_ ≠ (v578 : Value).ownBlock ∧ k_ ≠ gb573) (.slice A1_1 l1_1.length c1_1) l1_1) := ⟨h1_⟩
   have n2_ : Aside0 (Kd.N k28 28 w26 w.heap.size (fun k_ => ((P0_ k_ ∨ P1_1_ k_) ∨ w.heap.size ≤ k_) ∧ some k_ ≠ (v578 : Value).ownBlock ∧ k_ ≠ gb573) v575 y574) := ⟨h2_⟩
   have n3_ : Aside0 (Kd.N k28 28 w26 w.heap.size (fun k_ => ((P0_ k_ ∨ P1_1_ k_) ∨ w.heap.size ≤ k_) ∧ some k_ ≠ (v575 : Value).ownBlock ∧ k_ ≠ gb573) v578 y577) := ⟨h3_⟩
   have n4_ : Aside0 (w26.heap[gb573]? = some (.cells #[.int .i64 a1_0, .slice A1_1 l1_1.length c1_1, .bool a1_2, .bool a1_3, .int .i64 a1_4] 28 (0, 0))) := ⟨h4_⟩
   have n5_ : Aside0 (Below w.heap.size w w26) := ⟨h5_⟩
   clear HO0
   clear HO1_1
   clear BK573
   clear HB
   clear h0_ h1_ h2_ h3_ h4_ h5_
   have HO0 := n0_
   have HO1_1 := n1_
   have HO576 := n2_
   have HO579 := n3_
   have BK573 := n4_
   have HB := n5_
   clear n0_ n1_ n2_ n3_ n4_ n5_
   have hHeld : w26.cell? ⟨gb573, 0, none⟩ = some (.int .i64 a1_0) ∧ w26.cell? ⟨gb573, 1, none⟩ = some (.slice A1_1 l1_1.length c1_1) ∧ w26.cell? ⟨gb573, 2, none⟩ = some (.bool a1_2) ∧ w26.cell? ⟨gb573, 3, none⟩ = some (.bool a1_3) ∧ w26.cell? ⟨gb573, 4, none⟩ = some (.int .i64 a1_4) := hS_
   obtain ⟨Ao28, co28, eo28⟩ := Kd.N_slice HO579.out
   (first | subst eo28 | (injection eo28 with f1_ f2_ f3_; have f4_ := f1_.symm; have f5_ := f3_.symm; clear f1_ f2_ f3_; subst f4_; subst f5_))
   refine norm_ (a' := ?_) ?_ ?_
   rotate_left
   · simp only [putAll, Act.put, List.setIfInBounds_toArray, List.set_cons_zero, List.set_cons_succ]
     rfl
   refine on_ (i := 4) (N := some 11) (fun K hK => ?_)
   refine Kd.N_append_rows_step k28 (w0 := w) w.heap.size (by rfl) (.tmp 8) (.tmp 10) 39 28 (.agg #[(.int .i64 0), (.slice none 0 0), (.bool false), (.bool false), (.int .i64 0)]) 48 rfl Try.underlying39 info28 rfl (by decide) (by omega) v575 y574 y577 _ _ _ (fun k_ => ((P0_ k_ ∨ P1_1_ k_) ∨ w.heap.size ≤ k_) ∧ k_ ≠ gb573) (fun k_ => ((fun k_ => ((P0_ k_ ∨ P1_1_ k_) ∨ w.heap.size ≤ k_) ∧ k_ ≠ gb573)) k_ ∧ some k_ ≠ (v575 : Value).ownBlock) rfl rfl ?aO ?aR (fun _ hk => hk) ?aF ?aB ?aS ?aL ?_
   (case aR => exact (by skip; exact Kd.N_F (Kd.N_mono (ok' := (fun k_ => ((fun k_ => ((P0_ k_ ∨ P1_1_ k_) ∨ w.heap.size ≤ k_) ∧ k_ ≠ gb573)) k_ ∧ some k_ ≠ (v575 : Value).ownBlock)) (HO579.out) (fun k_ hk => ⟨⟨hk.1, hk.2.2⟩, hk.2.1⟩))))
   (case aB => exact (bG_ GE573.out))
   (case aF => exact (fun k_ hk => ⟨(.inr (Nat.le_trans (below_size (bG_ GE573.out)) hk)), Kd.freshB (g := gb573) (o := .cells #[.int .i64 a1_0, .slice A1_1 l1_1.length c1_1, .bool a1_2, .bool a1_3, .int .i64 a1_4] 28 (0, 0)) (vb_ BK573.out) k_ hk⟩))
   (case aO => exact (by (with_reducible repeat (first | apply Kd.N_alloc | apply Kd.N_drewN | apply Kd.N_drew)); exact Kd.N_mono HO576.out (fun _ hk => ⟨hk.1, hk.2.2⟩)))
   (case aS => exact (below_size (bG_ GE573.out)))
   (case aL => have := LMc4.out; omega)
   intro v581 w27 ho hb hg hat
   rw [← Ny580.out] at ho
   replace HO0 := A_ (Kd.V_afterv (ok := (fun k_ => ((P0_ k_ ∨ P1_1_ k_) ∨ w.heap.size ≤ k_) ∧ some k_ ≠ (.slice Ao28 y577.length co28 : Value).ownBlock ∧ k_ ≠ gb573)) (by (with_reducible repeat (first | apply Kd.V_alloc | apply Kd.V_drewN | apply Kd.V_drew)); exact Kd.V_mono HO0.out (fun _ hk => ⟨⟨hk.1, ⟨hk.2.2.1, hk.2.2.2⟩⟩, hk.2.1⟩)) hg hat)
   replace HO1_1 := A_ (Kd.V_afterv (ok := (fun k_ => ((P0_ k_ ∨ P1_1_ k_) ∨ w.heap.size ≤ k_) ∧ some k_ ≠ (.slice Ao28 y577.length co28 : Value).ownBlock ∧ k_ ≠ gb573)) (by (with_reducible repeat (first | apply Kd.V_alloc | apply Kd.V_drewN | apply Kd.V_drew)); exact Kd.V_mono HO1_1.out (fun _ hk => ⟨⟨hk.1, ⟨hk.2.2.1, hk.2.2.2⟩⟩, hk.2.1⟩)) hg hat)
   replace BK573 := A_ (blk_grown (g := gb573) (o := .cells #[.int .i64 a1_0, .slice A1_1 l1_1.length c1_1, .bool a1_2, .bool a1_3, .int .i64 a1_4] 28 (0, 0)) (vb_ BK573.out) hg (Kd.N_away HO576.out (fun _ hk => hk.2.2)))
   replace HO579 := A_ (Kd.N_afterv (ok := (fun k_ => ((P0_ k_ ∨ P1_1_ k_) ∨ w.heap.size ≤ k_) ∧ k_ ≠ gb573)) (by (with_reducible repeat (first | apply Kd.N_alloc | apply Kd.N_drewN | apply Kd.N_drew)); exact Kd.N_mono HO579.out (fun _ hk => ⟨⟨hk.1, hk.2.2⟩, hk.2.1⟩)) hg hat)
   replace HB := A_ (hb)
   have HO582 := A_ (ho)
   clear HO576
   clear ho hb hg hat
   obtain ⟨Ao29, co29, eo29⟩ := Kd.N_slice HO582.out
   (first | subst eo29 | (injection eo29 with f1_ f2_ f3_; have f4_ := f1_.symm; have f5_ := f3_.symm; clear f1_ f2_ f3_; subst f4_; subst f5_))
   refine hK.out _ _ (hl_ BK573.out) (fun hHeld => ?_)
   clear hK K
   refine no_ (some 11) ?_
   refine on_ (i := 5) (N := some 12) (fun K hK => ?_)
   refine goes_ Try.func69 (by kernel_rfl) rfl #[.slice Ao29 y580.length co29] (by rfl) rfl rfl ml_ ?_
   with_reducible refine (impl_copyLocks.calls k _ _ y580 t583 _ ?s1 ?s2 A5.out).mono ?_
   (case s1 => exact cC_ (Kd.N_reads' HO582.out).2.2)
   (case s2 => exact (Kd.N_reads' HO582.out).2.1)
   rintro e w30 ⟨v584, rfl, ho0, hb⟩
   refine ⟨_, rfl, ?_⟩
   replace HO0 := A_ (Kd.V_elder' (vV_ HO0.out) (kb_ ho0) hb)
   replace HO1_1 := A_ (Kd.V_elder' (vV_ HO1_1.out) (kb_ ho0) hb)
   have HO585 := A_ (Kd.S_lower (Kd.S_newB (Kd.S_new' (Kd.S_new' (Kd.S_newM (M := fun k_ => (w.heap.size ≤ k_)) ho0 (below_size (bG_ GE573.out)) (fun k_ h_ => h_)) (Kd.N_lt (vN_ HO579.out))) (Kd.N_lt (vN_ HO582.out))) (g := gb573) (o := .cells #[.int .i64 a1_0, .slice A1_1 l1_1.length c1_1, .bool a1_2, .bool a1_3, .int .i64 a1_4] 28 (0, 0)) (vb_ BK573.out)) (below_size (bG_ GE573.out)))
   replace HO579 := A_ (Kd.N_elder' (vN_ HO579.out) (kb_ ho0) hb)
   replace HO582 := A_ (Kd.N_elder' (vN_ HO582.out) (kb_ ho0) hb)
   replace BK573 := A_ (bw_ BK573.out hb)
   replace HB := A_ (below_step (bG_ GE573.out) hb)
   (try clear hb)
   (try clear hb2)
   (try clear hk)
   (try clear hi)
   (try clear ho0)
   refine hK.out _ _ (hl_ BK573.out) (fun hHeld => ?_)
   clear hK K
   refine no_ (some 12) ?_
   refine pu_ (i := 6) (N := some 6) ?_
   refine done_ (by kernel_rfl) ?_
   obtain ⟨Ao31, co31, eo31⟩ := Kd.S_slice HO585.out
   subst eo31
   try go_wp2_with (first | ((with_reducible refine gate_callee (f := 46) rfl ?_); refine gL_ (some 14) Try.func46 #[.slice Ao31 t583.length co31] ?_; (with_reducible refine (impl_LocksOk.calls k _ _ t583 false _ ?s1 ?s2 A6.out).mono ?_); (case s1 => exact cC_ (Kd.S_reads' HO585.out).2.2); (case s2 => exact (Kd.S_reads' HO585.out).2.1); rintro e w32 ⟨rfl, hb⟩; refine ⟨_, rfl, ?_⟩; replace HO0 := A_ (Kd.V_below (vV_ HO0.out) hb); replace HO1_1 := A_ (Kd.V_below (vV_ HO1_1.out) hb); replace HO579 := A_ (Kd.N_below (vN_ HO579.out) hb); replace HO582 := A_ (Kd.N_below (vN_ HO582.out) hb); replace HO585 := A_ (Kd.S_below (vS_ HO585.out) hb); replace BK573 := A_ (bw_ BK573.out hb); replace HB := A_ (below_step (bG_ GE573.out) hb); (try clear hb)) | ((with_reducible refine gate_callee (f := 69) rfl ?_); refine gL_ (some 17) Try.func69 #[.slice A0 l0.length c0] ?_; (with_reducible refine (impl_copyLocks.calls k _ _ l0 t587 _ ?s1 ?s2 A20.out).mono ?_); (case s1 => exact cC_ (Kd.V_reads' HO0.out).2.2); (case s2 => exact (Kd.V_reads' HO0.out).2.1); rintro e w33 ⟨v588, rfl, ho0, hb⟩; refine ⟨_, rfl, ?_⟩; replace HO0 := A_ (Kd.V_elder' (vV_ HO0.out) (kb_ ho0) hb); replace HO1_1 := A_ (Kd.V_elder' (vV_ HO1_1.out) (kb_ ho0) hb); have HO589 := A_ (Kd.S_lower (Kd.S_newB (Kd.S_new' (Kd.S_new' (Kd.S_new' (Kd.S_newM (M := fun k_ => (w.heap.size ≤ k_)) ho0 (below_size (bG_ GE573.out)) (fun k_ h_ => h_)) (Kd.N_lt (vN_ HO579.out))) (Kd.N_lt (vN_ HO582.out))) (Kd.S_lt (vS_ HO585.out))) (g := gb573) (o := .cells #[.int .i64 a1_0, .slice A1_1 l1_1.length c1_1, .bool a1_2, .bool a1_3, .int .i64 a1_4] 28 (0, 0)) (vb_ BK573.out)) (below_size (bG_ GE573.out))); replace HO579 := A_ (Kd.N_elder' (vN_ HO579.out) (kb_ ho0) hb); replace HO582 := A_ (Kd.N_elder' (vN_ HO582.out) (kb_ ho0) hb); replace HO585 := A_ (Kd.S_elder' (vS_ HO585.out) (kb_ ho0) hb); replace BK573 := A_ (bw_ BK573.out hb); replace HB := A_ (below_step (bG_ GE573.out) hb); (try clear hb); (try clear ho0)))
   go_ret2
   exact ⟨_, rr_, by (with_reducible repeat (first | apply Kd.S_alloc | apply Kd.S_drewN | apply Kd.S_drew)); exact Kd.S_mono HO589.out (fun _ hk => hk.1.1.1.1.1), bG_ GE573.out⟩
def laws_big.f (l0 : List Int) : Option (Bool) := some (decide ((l0.length : Int) > 1048576))
set_option maxHeartbeats 8000000 in
set_option maxRecDepth 100000 in
theorem laws_big.calls (A0 : Option Addr) (c0 : Nat) (l0 : List Int) (r : Bool) (w : World) (hr0 : Kd.C (Kd.int .u8) w A0 l0.length l0) (hc0 : l0.length ≤ c0) (h : laws_big.f l0 = some r) :
 Calls Try.prog 50 #[.slice A0 l0.length c0] w fun e w' => e = .returned (.bool r) ∧ Drawn0 w w' := by
 have HR0 := Aside0.mk hr0
 have HC0 := Aside0.mk hc0
 clear hr0 hc0
 have H : (some (decide ((l0.length : Int) > 1048576))) = some r := h
 clear h
 obtain rfl := Option.some.inj H
 go_enter Try.func50, Try.ntmps50
 go_wp2
 go_ret
 exact ⟨rs_, dr_⟩
def IsS93 (w0 W : World) (g : Nat) (f0 : List Int) (f1 : Int) (f2 : Int) : Prop := ∃ A0 c0, W.heap[g]? = some (.cells #[.slice A0 f0.length c0, .int .i64 f1, .int .i64 f2] 93 (0, 0)) ∧ w0.heap.size ≤ g ∧ Kd.C (Kd.int .u8) w0 A0 f0.length f0
theorem IsS93.grown {w0 W : World} {g : Nat} {f0 : List Int} {f1 : Int} {f2 : Int} {W1 : World} {row : Option Nat} (h : IsS93 w0 W g f0 f1 f2) (hw : W.grownBy W1 row) (hne : some g ≠ row) : IsS93 w0 W1 g f0 f1 f2 := by
 obtain ⟨A0, c0, hb, hg, hr0⟩ := h
 exact ⟨A0, c0, blk_grown hb hw hne, hg, hr0⟩
theorem IsS93.kept {w0 W : World} {g : Nat} {f0 : List Int} {f1 : Int} {f2 : Int} {W1 : World} {S : Nat → Prop} (h : IsS93 w0 W g f0 f1 f2) (hk : Kept W W1 S) (hne : ¬ S g) : IsS93 w0 W1 g f0 f1 f2 := by
 obtain ⟨A0, c0, hb, hg, hr0⟩ := h
 exact ⟨A0, c0, blk_kept hb hk hne, hg, hr0⟩
theorem IsS93.below {w0 W : World} {g : Nat} {f0 : List Int} {f1 : Int} {f2 : Int} {W1 : World} (h : IsS93 w0 W g f0 f1 f2) (hw : Below W.heap.size W W1) : IsS93 w0 W1 g f0 f1 f2 := h.grown (grown_of_below hw none) (by simp)
theorem IsS93.alloc {w0 W : World} {g : Nat} {f0 : List Int} {f1 : Int} {f2 : Int} (h : IsS93 w0 W g f0 f1 f2) (o : Obj) : IsS93 w0 (W.alloc o) g f0 f1 f2 := h.below (below_alloc (Below.refl _ _) o)
theorem IsS93.drewN {w0 W : World} {g : Nat} {f0 : List Int} {f1 : Int} {f2 : Int} (h : IsS93 w0 W g f0 f1 f2) (m : Nat) : IsS93 w0 (W.drewN m) g f0 f1 f2 := h
theorem IsS93.drew {w0 W : World} {g : Nat} {f0 : List Int} {f1 : Int} {f2 : Int} (h : IsS93 w0 W g f0 f1 f2) : IsS93 w0 W.drew g f0 f1 f2 := h
theorem IsS93.apart {w0 W : World} {g : Nat} {f0 : List Int} {f1 : Int} {f2 : Int} {α : Type} {d : Kd α} {e : Nat} {base : Nat} {ok : Nat → Prop} {v : Value} {xs : List α} (h : IsS93 w0 W g f0 f1 f2) (ho : d.R e W base ok v xs) (ht : ∀ q, q ∈ e :: d.E → q ≠ 93) : d.R e W base (fun k => ok k ∧ k ≠ g) v xs := by
 obtain ⟨A0, c0, hb, hg, hr0⟩ := h
 exact Kd.R_types ho hb ht
theorem IsS93.own_ne {w0 W : World} {g : Nat} {f0 : List Int} {f1 : Int} {f2 : Int} {α : Type} {d : Kd α} {e : Nat} {base : Nat} {ok : Nat → Prop} {v : Value} {xs : List α} (h : IsS93 w0 W g f0 f1 f2) (ho : d.R e W base ok v xs) (ht : e ≠ 93) : some g ≠ v.ownBlock := by
 obtain ⟨A0, c0, hb, hg, hr0⟩ := h
 exact Kd.R_ne ho hb ht
theorem IsS93.apartS {w0 W : World} {g : Nat} {f0 : List Int} {f1 : Int} {f2 : Int} {α : Type} {d : Kd α} {e : Nat} {base : Nat} {ok : Nat → Prop} {v : Value} {xs : List α} (h : IsS93 w0 W g f0 f1 f2) (ho : d.S e W base ok v xs) (ht : ∀ q, q ∈ e :: d.E → q ≠ 93) : d.S e W base (fun k => ok k ∧ k ≠ g) v xs := by
 obtain ⟨A0, c0, hb, hg, hr0⟩ := h
 exact Kd.S_types ho hb ht
theorem IsS93.own_neS {w0 W : World} {g : Nat} {f0 : List Int} {f1 : Int} {f2 : Int} {α : Type} {d : Kd α} {e : Nat} {base : Nat} {ok : Nat → Prop} {v : Value} {xs : List α} (h : IsS93 w0 W g f0 f1 f2) (ho : d.S e W base ok v xs) (ht : e ≠ 93) : some g ≠ v.ownBlock := by
 obtain ⟨A0, c0, hb, hg, hr0⟩ := h
 exact Kd.S_ne ho hb ht
theorem IsS93.lt {w0 W : World} {g : Nat} {f0 : List Int} {f1 : Int} {f2 : Int} (h : IsS93 w0 W g f0 f1 f2) : g < W.heap.size := by
 obtain ⟨A0, c0, hb, hg, hr0⟩ := h
 exact blk_lt hb
theorem IsS93.ge {w0 W : World} {g : Nat} {f0 : List Int} {f1 : Int} {f2 : Int} (h : IsS93 w0 W g f0 f1 f2) : w0.heap.size ≤ g := by
 obtain ⟨A0, c0, hb, hg, hr0⟩ := h
 exact hg
theorem IsS93.ne_blk {w0 W : World} {g : Nat} {f0 : List Int} {f1 : Int} {f2 : Int} {a : Nat} {cs : Array Value} {t : TypeId} {fr : Nat × Nat} (h : IsS93 w0 W g f0 f1 f2) (hb2 : W.heap[a]? = some (.cells cs t fr)) (ht : t ≠ 93) : g ≠ a := by
 obtain ⟨A0, c0, hb, hg, hr0⟩ := h
 rintro rfl
 rw [hb] at hb2
 injection hb2 with hb2
 injection hb2 with _ ht2
 exact ht ht2.symm
theorem IsS93.far {w0 W : World} {g : Nat} {f0 : List Int} {f1 : Int} {f2 : Int} {p : Addr} (h : IsS93 w0 W g f0 f1 f2) (hne : g ≠ p.block) (u : Value) : IsS93 w0 (W.setCell p u) g f0 f1 f2 := by
 obtain ⟨A0, c0, hb, hg, hr0⟩ := h
 exact ⟨A0, c0, blk_far hb hne u, hg, hr0⟩
theorem cellS93_0 {W : World} {g : Nat} {A0 : Option Addr} {c0 : Nat} {f0 : List Int} {f1 : Int} {f2 : Int} (h : W.heap[g]? = some (.cells #[.slice A0 f0.length c0, .int .i64 f1, .int .i64 f2] 93 (0, 0))) : W.cell? ⟨g, 0, none⟩ = some (.slice A0 f0.length c0) := (blk_cell h 0).trans rfl
theorem cellS93_1 {W : World} {g : Nat} {A0 : Option Addr} {c0 : Nat} {f0 : List Int} {f1 : Int} {f2 : Int} (h : W.heap[g]? = some (.cells #[.slice A0 f0.length c0, .int .i64 f1, .int .i64 f2] 93 (0, 0))) : W.cell? ⟨g, 1, none⟩ = some (.int .i64 f1) := (blk_cell h 1).trans rfl
theorem IsS93.set_1 {w0 W : World} {g : Nat} {f0 : List Int} {f1 : Int} {f2 : Int} (h : IsS93 w0 W g f0 f1 f2) (x : Int) : IsS93 w0 (W.setCell ⟨g, 1, none⟩ (.int .i64 x)) g f0 x f2 := by
 obtain ⟨A0, c0, hb, hg, hr0⟩ := h
 exact ⟨A0, c0, by simpa using blk_set hb 1 (.int .i64 x), hg, hr0⟩
theorem cellS93_2 {W : World} {g : Nat} {A0 : Option Addr} {c0 : Nat} {f0 : List Int} {f1 : Int} {f2 : Int} (h : W.heap[g]? = some (.cells #[.slice A0 f0.length c0, .int .i64 f1, .int .i64 f2] 93 (0, 0))) : W.cell? ⟨g, 2, none⟩ = some (.int .i64 f2) := (blk_cell h 2).trans rfl
theorem IsS93.set_2 {w0 W : World} {g : Nat} {f0 : List Int} {f1 : Int} {f2 : Int} (h : IsS93 w0 W g f0 f1 f2) (x : Int) : IsS93 w0 (W.setCell ⟨g, 2, none⟩ (.int .i64 x)) g f0 f1 x := by
 obtain ⟨A0, c0, hb, hg, hr0⟩ := h
 exact ⟨A0, c0, by simpa using blk_set hb 2 (.int .i64 x), hg, hr0⟩
def spec_l1New.l0 : Nat → List Int → Int → Int → Option (List Int × Int × Int)
 | 0, _, _, _ => none
 | k + 1, x0, x3, x4 => if x4 < (x0.length : Int) then (if x4 < 4000 then (if 0 ≤ x4 then (spec_l1New.l0 k x0 (Go.bits .and .i64 (wrap64 ((wrap64 ((wrap64 (x3 * 137)) + (wrap64 (rd x0 x4)))) + 11)) 1073741823) (wrap64 (x4 + 1))) else (none)) else (some (x0, 0, x3))) else (some (x0, 0, x3))
def spec_l1New.f (k : Nat) (l0 : List Int) : Option (List Int × Int × Int) := spec_l1New.l0 k l0 (wrap64 (774774 + (l0.length : Int))) 0
set_option maxHeartbeats 8000000 in
set_option maxRecDepth 100000 in
theorem spec_l1New.calls (k : Nat) (A0 : Option Addr) (c0 : Nat) (l0 : List Int) (r1 : List Int) (r2 : Int) (r3 : Int) (w0 w : World) (hB : Below w0.heap.size w0 w) (hr0 : Kd.C (Kd.int .u8) w0 A0 l0.length l0) (hc0 : l0.length ≤ c0) (h : spec_l1New.f k l0 = some (r1, r2, r3)) :
 Calls Try.prog 78 #[.slice A0 l0.length c0] w fun e w' => ∃ g_ : Nat, e = .returned (.pointer (some ⟨g_, 0, none⟩)) ∧ IsS93 w0 w' g_ r1 r2 r3 ∧ Below w0.heap.size w0 w' ∧ Below w.heap.size w w' := by
 have hu93 := Try.underlying93
 have HR0 := Aside0.mk hr0
 have HC0 := Aside0.mk hc0
 clear hr0 hc0
 have HBW := A_ (Below.refl w.heap.size w)
 have HW0 := Aside0.mk hB.size
 have HB := Aside0.mk hB
 clear hB
 have H : (spec_l1New.l0 k l0 (wrap64 (774774 + (l0.length : Int))) 0) = some (r1, r2, r3) := h
 clear h
 have H' := Aside0.mk H
 clear H
 go_enter Try.func78, Try.ntmps78
 go_wp2
 go_loopg [3, 4] k (fun kq v3 v4 w' => ∃ (x3_1 : Int) (x4_1 : Int), v3 = .int .i64 x3_1 ∧ v4 = .int .i64 x4_1 ∧ Aside0 (spec_l1New.l0 kq l0 x3_1 x4_1 = some (r1, r2, r3)) ∧ Aside0 (kq ≤ k) ∧ Aside0 (Below w0.heap.size w0 w') ∧ Aside0 (Below w.heap.size w w'))
 case atStart => exact ⟨(wrap64 (774774 + (l0.length : Int))), (0), rs_, rs_, H', ⟨Nat.le_refl _⟩, ⟨bB_⟩, ⟨by repeat (first | (with_reducible first | exact HBW.out | apply below_alloc | apply pw_below_drewN | apply below_drew1) | exact HBW.out)⟩⟩
 case round =>
  clear H'
  obtain ⟨x3_1, x4_1, rfl, rfl, HA, HK1, HB, HBW⟩ := hrel
  cases gk with
  | zero => exact absurd HA.out (by simp [spec_l1New.l0])
  | succ k1 =>
   have H := HA.out
   clear HA
   simp only [spec_l1New.l0] at H
   by_cases c2 : x4_1 < (l0.length : Int)
   rotate_left
   · rw [if_neg c2] at H
     have c2b0 : decide (x4_1 < (l0.length : Int)) = false := decide_eq_false c2
     clear c2
     simp only [Option.some.injEq, Prod.mk.injEq] at H
     obtain ⟨rfl, rfl, rfl⟩ := H
     go_wp2_with (first | ((with_reducible refine gate_dst (N := 31) rfl ?_); refine bx_ (N := 31) (cs := #[.slice A0 l0.length c0, .int .i64 0, .int .i64 x3_1]) (t := 93) ?_; intro gb640 hg w6 hbox hb; replace HB := A_ (below_step bB_ hb); have BK640 := A_ (hbox); have GW640 := A_ ((by rw [hg]; exact (below_size (by repeat (first | (with_reducible first | exact HBW.out | apply below_alloc | apply pw_below_drewN | apply below_drew1) | exact HBW.out))) : w.heap.size ≤ gb640)); have GE640 := A_ ((Nat.le_trans HW0.out (by rw [hg]; exact (below_size (by repeat (first | (with_reducible first | exact HBW.out | apply below_alloc | apply pw_below_drewN | apply below_drew1) | exact HBW.out))) : w.heap.size ≤ gb640) : w0.heap.size ≤ gb640)); replace HBW := A_ (below_step HBW.out hb); clear hb hbox hg))
     go_ret
     exact ⟨_, rfl, (show IsS93 w0 _ gb640 l0 0 x3_1 from ⟨_, _, by (with_reducible repeat (first | refine blk_drewN ?_ _ | refine blk_drew ?_ | refine blk_alloc ?_ _)); exact BK640.out, GE640.out, HR0.out⟩), bG_ GE640.out, by repeat (first | (with_reducible first | exact HBW.out | apply below_alloc | apply pw_below_drewN | apply below_drew1 | refine below_set ?_ GW640.out) | exact HBW.out)⟩
   rw [if_pos c2] at H
   have c2b0 : decide (x4_1 < (l0.length : Int)) = true := decide_eq_true c2
   clear c2
   by_cases c3 : x4_1 < 4000
   · rw [if_pos c3] at H
     have c3b0 : decide (x4_1 < 4000) = true := decide_eq_true c3
     clear c3
     by_cases c4 : 0 ≤ x4_1
     rotate_left
     · exact absurd H (by rw [if_neg c4]; simp)
     rw [if_pos c4] at H
     have c4b0 : decide (0 ≤ x4_1) = true := decide_eq_true c4
     clear c4
     have H' := Aside0.mk H
     clear H
     have p638 : 0 ≤ (x4_1 : Int) := of_decide_eq_true as_
     have q638 : x4_1 < (l0.length : Int) := of_decide_eq_true as_
     obtain ⟨ad638, e638, hx638_0⟩ := Kd.at_int HR0.out x4_1 p638 q638
     cases e638
     replace hx638_0 := pw_cell_below HB.out hx638_0
     replace p638 := eq_true p638
     replace q638 := eq_true q638
     go_wp2
     go_roundg k1
     case measure => have := HK1.out; omega
     case rel => exact ⟨(Go.bits .and .i64 (wrap64 ((wrap64 ((wrap64 (x3_1 * 137)) + (wrap64 (rd l0 x4_1)))) + 11)) 1073741823), (wrap64 (x4_1 + 1)), rs_, rs_, H', ⟨by have := HK1.out; omega⟩, ⟨bB_⟩, ⟨by repeat (first | (with_reducible first | exact HBW.out | apply below_alloc | apply pw_below_drewN | apply below_drew1) | exact HBW.out)⟩⟩
   rw [if_neg c3] at H
   have c3b0 : decide (x4_1 < 4000) = false := decide_eq_false c3
   clear c3
   simp only [Option.some.injEq, Prod.mk.injEq] at H
   obtain ⟨rfl, rfl, rfl⟩ := H
   go_wp2_with (first | ((with_reducible refine gate_dst (N := 31) rfl ?_); refine bx_ (N := 31) (cs := #[.slice A0 l0.length c0, .int .i64 0, .int .i64 x3_1]) (t := 93) ?_; intro gb639 hg w5 hbox hb; replace HB := A_ (below_step bB_ hb); have BK639 := A_ (hbox); have GW639 := A_ ((by rw [hg]; exact (below_size (by repeat (first | (with_reducible first | exact HBW.out | apply below_alloc | apply pw_below_drewN | apply below_drew1) | exact HBW.out))) : w.heap.size ≤ gb639)); have GE639 := A_ ((Nat.le_trans HW0.out (by rw [hg]; exact (below_size (by repeat (first | (with_reducible first | exact HBW.out | apply below_alloc | apply pw_below_drewN | apply below_drew1) | exact HBW.out))) : w.heap.size ≤ gb639) : w0.heap.size ≤ gb639)); replace HBW := A_ (below_step HBW.out hb); clear hb hbox hg))
   go_ret
   exact ⟨_, rfl, (show IsS93 w0 _ gb639 l0 0 x3_1 from ⟨_, _, by (with_reducible repeat (first | refine blk_drewN ?_ _ | refine blk_drew ?_ | refine blk_alloc ?_ _)); exact BK639.out, GE639.out, HR0.out⟩), bG_ GE639.out, by repeat (first | (with_reducible first | exact HBW.out | apply below_alloc | apply pw_below_drewN | apply below_drew1 | refine below_set ?_ GW639.out) | exact HBW.out)⟩
end Go.Proofs.Ytiddgglidkbipaa.Q
