-- PRINTED by print.py (a twelfth state) out of the translation. Not trusted: Lean checks it.
import Derived.Test.YtiddgglidkbipaaVFnLocksG12
import Derived.Test.YtiddgglidkbipaaVFnLocksG22
import Derived.Test.YtiddgglidkbipaaVFnLocksG27
import Derived.Test.YtiddgglidkbipaaVFnLocksG28
import Derived.Test.YtiddgglidkbipaaVFnLocksG29
namespace Go.Proofs.Ytiddgglidkbipaa.Q
open Go.RowKit Go.Proofs.YtiddgglidkbipaaW.PrintWords Go.Proofs.YtiddgglidkbipaaW.PrintLast Go.Proofs.YtiddgglidkbipaaW.PrintMore
attribute [local go_sem] max2_int min2_int max_two min_two max_three min_three max_four min_four   -- for this text's walks alone
set_option linter.unusedVariables false
set_option linter.unusedSimpArgs false
def spec_DrawAddLock.f (k : Nat) (l0 : List Int) : Option ((List (S28)) × Int × List ByteArray × Bool × Bool × Int) := (spec_l1New.f k l0).bind fun bt855 => ((spec_l13Any.f k bt855.1 bt855.2.1 bt855.2.2).bind fun bt859 => ((spec_l13Any.f k bt855.1 bt859.2.1 bt859.2.2).bind fun bt864 => ((spec_l13Lock.f k bt855.1 bt864.2.1 bt864.2.2).bind fun bt869 => (if bt864.1.length < 2932031007402 then ((some (bt864.1 ++ [(⟨bt869.1, bt869.2.1, bt869.2.2.1, bt869.2.2.2.1, bt869.2.2.2.2.1⟩ : S28)] : List (S28))).bind fun y878 => (if 0 ≤ (wrap64 ((y878.length : Int) - 1)) then (if (wrap64 ((y878.length : Int) - 1)) < (y878.length : Int) then (some (bt859.1, (rd_T28 y878 (wrap64 ((y878.length : Int) - 1))).f0, (rd_T28 y878 (wrap64 ((y878.length : Int) - 1))).f1, (rd_T28 y878 (wrap64 ((y878.length : Int) - 1))).f2, (rd_T28 y878 (wrap64 ((y878.length : Int) - 1))).f3, (rd_T28 y878 (wrap64 ((y878.length : Int) - 1))).f4)) else (none)) else (none))) else (none)))))
def spec_DrawAddLock.T4 : Bool × List (List Nat × List Nat) := (true, [([], []), ([], []), ([], []), ([2], [2]), ([3], [3]), ([1, 4], [1, 4]), ([5], [5]), ([0, 0], [0]), ([6, 7, 0, 1, 2, 3, 4, 5, 6, 7], [6])])
def spec_DrawAddLock.B4 : List Nat := [0, 0, 0, 4, 12, 30, 62, 1, 255]
theorem spec_DrawAddLock.tab4 : rtab .any (opsOf Try.f53 4) = spec_DrawAddLock.T4 := by kernel_rfl
theorem spec_DrawAddLock.bits4 : waitsOk spec_DrawAddLock.T4.2 spec_DrawAddLock.B4 = true := by kernel_rfl
set_option maxHeartbeats 8000000 in
set_option maxRecDepth 100000 in
theorem spec_DrawAddLock.calls (k : Nat) (A0 : Option Addr) (c0 : Nat) (l0 : List Int) (r1 : List (S28)) (r2 : Int) (r3 : List ByteArray) (r4 : Bool) (r5 : Bool) (r6 : Int) (w : World) (hr0 : Kd.C (Kd.int .u8) w A0 l0.length l0) (hc0 : l0.length ≤ c0) (h : spec_DrawAddLock.f k l0 = some (r1, r2, r3, r4, r5, r6)) :
 Calls Try.prog 53 #[.slice A0 l0.length c0] w fun e w' => ∃ v0_ v2_ : Value, e = .returned (.tuple #[v0_, .agg #[.int .i64 r2, v2_, .bool r4, .bool r5, .int .i64 r6]]) ∧ Kd.S k28 28 w' w.heap.size (fun _ => True) v0_ r1 ∧ Kd.R Kd.string 9 w' w.heap.size (fun _ => True) v2_ r3 ∧ Below w.heap.size w w' := by
 have hu28 := Try.underlying28
 have HR0 := Aside0.mk hr0
 have HC0 := Aside0.mk hc0
 clear hr0 hc0
 have HB := A_ (Below.refl w.heap.size w)
 have H : ((spec_l1New.f k l0).bind fun bt855 => ((spec_l13Any.f k bt855.1 bt855.2.1 bt855.2.2).bind fun bt859 => ((spec_l13Any.f k bt855.1 bt859.2.1 bt859.2.2).bind fun bt864 => ((spec_l13Lock.f k bt855.1 bt864.2.1 bt864.2.2).bind fun bt869 => (if bt864.1.length < 2932031007402 then ((some (bt864.1 ++ [(⟨bt869.1, bt869.2.1, bt869.2.2.1, bt869.2.2.2.1, bt869.2.2.2.2.1⟩ : S28)] : List (S28))).bind fun y878 => (if 0 ≤ (wrap64 ((y878.length : Int) - 1)) then (if (wrap64 ((y878.length : Int) - 1)) < (y878.length : Int) then (some (bt859.1, (rd_T28 y878 (wrap64 ((y878.length : Int) - 1))).f0, (rd_T28 y878 (wrap64 ((y878.length : Int) - 1))).f1, (rd_T28 y878 (wrap64 ((y878.length : Int) - 1))).f2, (rd_T28 y878 (wrap64 ((y878.length : Int) - 1))).f3, (rd_T28 y878 (wrap64 ((y878.length : Int) - 1))).f4)) else (none)) else (none))) else (none)))))) = some (r1, r2, r3, r4, r5, r6) := h
 clear h
 obtain ⟨⟨t855, t856, t857⟩, A2, H⟩ := bo_ H
 (try dsimp only at H)
 obtain ⟨⟨t859, t862, t863⟩, A3, H⟩ := bo_ H
 (try dsimp only at H)
 obtain ⟨⟨t864, t867, t868⟩, A4, H⟩ := bo_ H
 (try dsimp only at H)
 obtain ⟨⟨t869, t870, t873, t874, t875, t876, t877⟩, A5, H⟩ := bo_ H
 (try dsimp only at H)
 by_cases c6 : t864.length < 2932031007402
 rotate_left
 · exact absurd H (by rw [if_neg c6]; simp)
 rw [if_pos c6] at H
 have LMc6 := Aside0.mk c6
 clear c6
 obtain ⟨y878, hy878⟩ : ∃ y_ : List (S28), y_ = (t864 ++ [(⟨t869, t870, t873, t874, t875⟩ : S28)]) := ⟨_, rfl⟩
 replace H : (if 0 ≤ (wrap64 ((y878.length : Int) - 1)) then (if (wrap64 ((y878.length : Int) - 1)) < (y878.length : Int) then (some (t859, (rd_T28 y878 (wrap64 ((y878.length : Int) - 1))).f0, (rd_T28 y878 (wrap64 ((y878.length : Int) - 1))).f1, (rd_T28 y878 (wrap64 ((y878.length : Int) - 1))).f2, (rd_T28 y878 (wrap64 ((y878.length : Int) - 1))).f3, (rd_T28 y878 (wrap64 ((y878.length : Int) - 1))).f4)) else (none)) else (none)) = some (r1, r2, r3, r4, r5, r6) := hy_ hy878 H
 have Ny878 := Aside0.mk hy878
 clear hy878
 obtain ⟨ji7, hji7⟩ : ∃ j_ : Int, (wrap64 ((y878.length : Int) - 1)) = j_ := ⟨_, rfl⟩
 replace H : (if 0 ≤ (ji7) then (if (ji7) < (y878.length : Int) then (some (t859, (rd_T28 y878 (ji7)).f0, (rd_T28 y878 (ji7)).f1, (rd_T28 y878 (ji7)).f2, (rd_T28 y878 (ji7)).f3, (rd_T28 y878 (ji7)).f4)) else (none)) else (none)) = some (r1, r2, r3, r4, r5, r6) := by first | (rw [hji7] at H; exact H) | (simp only [hji7] at H ⊢; exact H)
 (try rw [hji7] at A2)
 (try rw [hji7] at A3)
 (try rw [hji7] at A4)
 (try rw [hji7] at A5)
 have hji7w : (IntKind.i64.wrap ((y878.length : Int) - 1)) = ji7 := (i64_w _).trans hji7
 by_cases c8 : 0 ≤ (ji7)
 rotate_left
 · exact absurd H (by rw [if_neg c8]; simp)
 rw [if_pos c8] at H
 have c8b0 : decide (0 ≤ (ji7)) = true := decide_eq_true c8
 clear c8
 by_cases c9 : (ji7) < (y878.length : Int)
 rotate_left
 · exact absurd H (by rw [if_neg c9]; simp)
 rw [if_pos c9] at H
 have c9b0 : decide ((ji7) < (y878.length : Int)) = true := decide_eq_true c9
 clear c9
 simp only [Option.some.injEq, Prod.mk.injEq] at H
 obtain ⟨rfl, rfl, rfl, rfl, rfl, rfl⟩ := H
 go_enter Try.func53, Try.ntmps53
 try go_wp2_with (first | ((with_reducible refine gate_dst (N := 3) rfl ?_); refine bx_ (N := 3) (cs := #[.int .i64 0, .slice none 0 0, .bool false, .bool false, .int .i64 0]) (t := 28) ?_; intro gb854 hg w10 hbox hb; have BK854 := A_ (hbox); have GW854 := A_ (ge_ hg bB_ : w.heap.size ≤ gb854); have GE854 := A_ (ge_ hg bB_ : w.heap.size ≤ gb854); replace HB := A_ (below_step bB_ hb); clear hb hbox hg) | ((with_reducible refine gate_callee (f := 78) rfl ?_); refine gL_ (some 8) Try.func78 #[.slice A0 l0.length c0] ?_; (with_reducible refine (spec_l1New.calls k _ _ l0 t855 t856 t857 w _ ?s1 ?s2 ?s3 A2.out).mono ?_); (case s1 => repeat (first | (with_reducible first | exact HB.out | apply below_alloc | apply pw_below_drewN | apply below_drew1 | refine below_set ?_ GE854.out) | exact HB.out)); (case s2 => exact HR0.out); (case s3 => exact HC0.out); rintro e w11 ⟨g858, rfl, hi, hb, hb2⟩; refine ⟨_, rfl, ?_⟩; replace HB := A_ (hb); have HI858 := A_ (hi); have NB858_854 := A_ (IsS93.ne_blk hi (blk_below (g := gb854) (o := .cells #[.int .i64 0, .slice none 0 0, .bool false, .bool false, .int .i64 0] 28 (0, 0)) (vb_ BK854.out) hb2) (by decide)); have NB854_858 := A_ (Ne.symm (IsS93.ne_blk hi (blk_below (g := gb854) (o := .cells #[.int .i64 0, .slice none 0 0, .bool false, .bool false, .int .i64 0] 28 (0, 0)) (vb_ BK854.out) hb2) (by decide))); replace BK854 := A_ (blk_below (g := gb854) (o := .cells #[.int .i64 0, .slice none 0 0, .bool false, .bool false, .int .i64 0] 28 (0, 0)) (vb_ BK854.out) hb2); (try clear hb); (try clear hb2); (try clear hk); (try clear hi)) | ((with_reducible refine gate_callee (f := 79) rfl ?_); refine gL_ (some 10) Try.func79 #[.pointer (some ⟨g858, 0, none⟩)] ?_; (with_reducible refine (spec_l13Any.calls k g858 t855 t856 t857 t859 t862 t863 w _ ?s1 ?s2 A3.out).mono ?_); (case s1 => repeat (first | (with_reducible first | exact HI858.out | apply IsS93.alloc | apply IsS93.drewN | apply IsS93.drew | apply IsS93.set_1 | apply IsS93.set_2 | refine IsS93.far ?_ NB858_854.out _) | exact HI858.out)); (case s2 => repeat (first | (with_reducible first | exact HB.out | apply below_alloc | apply pw_below_drewN | apply below_drew1 | refine below_set ?_ (IsS93.ge HI858.out) | refine below_set ?_ GE854.out) | exact HB.out)); rintro e w12 ⟨v860, rfl, ho0, hi, hb, hk⟩; refine ⟨_, rfl, ?_⟩; have HO861 := A_ (Kd.S_lower (Kd.S_newB ho0 (g := gb854) (o := .cells #[.int .i64 0, .slice none 0 0, .bool false, .bool false, .int .i64 0] 28 (0, 0)) (vb_ BK854.out)) (below_size (by repeat (first | (with_reducible first | exact HB.out | apply below_alloc | apply pw_below_drewN | apply below_drew1 | refine below_set ?_ (IsS93.ge HI858.out) | refine below_set ?_ GE854.out) | exact HB.out)))); replace BK854 := A_ (KeepBut.blk hk (g' := gb854) (o := .cells #[.int .i64 0, .slice none 0 0, .bool false, .bool false, .int .i64 0] 28 (0, 0)) (vb_ BK854.out) NB854_858.out (by simp)); replace HB := A_ (hb); replace HI858 := A_ (hi); (try clear hb); (try clear hb2); (try clear hk); (try clear hi); (try clear ho0)) | ((with_reducible refine gate_callee (f := 79) rfl ?_); refine gL_ (some 12) Try.func79 #[.pointer (some ⟨g858, 0, none⟩)] ?_; (with_reducible refine (spec_l13Any.calls k g858 t855 t862 t863 t864 t867 t868 w _ ?s1 ?s2 A4.out).mono ?_); (case s1 => repeat (first | (with_reducible first | exact HI858.out | apply IsS93.alloc | apply IsS93.drewN | apply IsS93.drew | apply IsS93.set_1 | apply IsS93.set_2 | refine IsS93.far ?_ NB858_854.out _) | exact HI858.out)); (case s2 => repeat (first | (with_reducible first | exact HB.out | apply below_alloc | apply pw_below_drewN | apply below_drew1 | refine below_set ?_ (IsS93.ge HI858.out) | refine below_set ?_ GE854.out) | exact HB.out)); rintro e w13 ⟨v865, rfl, ho0, hi, hb, hk⟩; refine ⟨_, rfl, ?_⟩; have HO866 := A_ (Kd.S_lower (Kd.S_newB (Kd.S_new' ho0 (Kd.S_lt (vS_ HO861.out))) (g := gb854) (o := .cells #[.int .i64 0, .slice none 0 0, .bool false, .bool false, .int .i64 0] 28 (0, 0)) (vb_ BK854.out)) (below_size (by repeat (first | (with_reducible first | exact HB.out | apply below_alloc | apply pw_below_drewN | apply below_drew1 | refine below_set ?_ (IsS93.ge HI858.out) | refine below_set ?_ GE854.out) | exact HB.out)))); replace BK854 := A_ (KeepBut.blk hk (g' := gb854) (o := .cells #[.int .i64 0, .slice none 0 0, .bool false, .bool false, .int .i64 0] 28 (0, 0)) (vb_ BK854.out) NB854_858.out (by simp)); replace HO861 := A_ (Kd.S_mono (Kd.S_told (Kd.S_oldK (IsS93.apartS (show IsS93 w _ g858 t855 t862 t863 from by repeat (first | (with_reducible first | exact HI858.out | apply IsS93.alloc | apply IsS93.drewN | apply IsS93.drew | apply IsS93.set_1 | apply IsS93.set_2 | refine IsS93.far ?_ NB858_854.out _) | exact HI858.out)) (vS_ HO861.out) (by decide)) hk) (kb_ ho0)) (fun _ h_ => h_.1)); replace HB := A_ (hb); replace HI858 := A_ (hi); (try clear hb); (try clear hb2); (try clear hk); (try clear hi); (try clear ho0)) | ((with_reducible refine gate_callee (f := 81) rfl ?_); refine gL_ (some 14) Try.func81 #[.pointer (some ⟨g858, 0, none⟩)] ?_; (with_reducible refine (spec_l13Lock.calls k g858 t855 t867 t868 t869 t870 t873 t874 t875 t876 t877 w _ ?s1 ?s2 A5.out).mono ?_); (case s1 => repeat (first | (with_reducible first | exact HI858.out | apply IsS93.alloc | apply IsS93.drewN | apply IsS93.drew | apply IsS93.set_1 | apply IsS93.set_2 | refine IsS93.far ?_ NB858_854.out _) | exact HI858.out)); (case s2 => repeat (first | (with_reducible first | exact HB.out | apply below_alloc | apply pw_below_drewN | apply below_drew1 | refine below_set ?_ (IsS93.ge HI858.out) | refine below_set ?_ GE854.out) | exact HB.out)); rintro e w14 ⟨v871, rfl, ho0, hi, hb, hk⟩; refine ⟨_, rfl, ?_⟩; replace BK854 := A_ (KeepBut.blk hk (g' := gb854) (o := .cells #[.int .i64 0, .slice none 0 0, .bool false, .bool false, .int .i64 0] 28 (0, 0)) (vb_ BK854.out) NB854_858.out (by simp)); replace HO861 := A_ (Kd.S_mono (Kd.S_told (Kd.S_oldK (IsS93.apartS (show IsS93 w _ g858 t855 t867 t868 from by repeat (first | (with_reducible first | exact HI858.out | apply IsS93.alloc | apply IsS93.drewN | apply IsS93.drew | apply IsS93.set_1 | apply IsS93.set_2 | refine IsS93.far ?_ NB858_854.out _) | exact HI858.out)) (vS_ HO861.out) (by decide)) hk) (kb_ ho0)) (fun _ h_ => h_.1)); replace HO866 := A_ (Kd.S_mono (Kd.S_told (Kd.S_oldK (IsS93.apartS (show IsS93 w _ g858 t855 t867 t868 from by repeat (first | (with_reducible first | exact HI858.out | apply IsS93.alloc | apply IsS93.drewN | apply IsS93.drew | apply IsS93.set_1 | apply IsS93.set_2 | refine IsS93.far ?_ NB858_854.out _) | exact HI858.out)) (vS_ HO866.out) (by decide)) hk) (kb_ ho0)) (fun _ h_ => h_.1)); have HO872 := A_ (Kd.R_lower ho0 (below_size (by repeat (first | (with_reducible first | exact HB.out | apply below_alloc | apply pw_below_drewN | apply below_drew1 | refine below_set ?_ (IsS93.ge HI858.out) | refine below_set ?_ GE854.out) | exact HB.out)))); replace HB := A_ (hb); replace HI858 := A_ (hi); (try clear hb); (try clear hb2); (try clear hk); (try clear hi); (try clear ho0); obtain ⟨Ao16, co16, eo16⟩ := Kd.R_slice HO872.out; subst eo16) | ((with_reducible refine gate_builtin (b := .append) (xs := #[.tmp 12, .tmp 15]) rfl ?_); at_builtin; refine Kd.S_append k28 (w0 := w) w.heap.size rfl (.tmp 12) (.tmp 15) 39 28 (.agg #[(.int .i64 0), (.slice none 0 0), (.bool false), (.bool false), (.int .i64 0)]) 48 rfl Try.underlying39 info28 rfl (by decide) (by omega) v865 t864 (⟨t869, t870, t873, t874, t875⟩ : S28) [.int .i64 t869, .slice Ao16 t870.length co16, .bool t873, .bool t874, .int .i64 t875] (fun k_ => some k_ ≠ (v860 : Value).ownBlock ∧ k_ ≠ gb854) (fun k_ => some k_ = (.slice Ao16 t870.length co16 : Value).ownBlock) rfl rfl ?aP (fun k_ hk_ => ((Kd.R_mono (ok' := fun k_ => ((fun k_ => some k_ ≠ (v860 : Value).ownBlock ∧ k_ ≠ gb854)) k_ ∧ some k_ ≠ (v865 : Value).ownBlock) (Kd.R_types (Kd.R_apart' (Kd.R_apart' (HO872.out) (Kd.S_typed HO861.out) (by decide)) (Kd.S_typed HO866.out) (by decide)) BK854.out (by decide)) (fun k_ hk => ⟨⟨hk.1.1.2, hk.2⟩, hk.1.2⟩))).1 k_ hk_.symm) ?aF ?aO ?aB ?aS ?aL ?_; (case aP => exact k28_mkM _ _ _ (⟨t869, t870, t873, t874, t875⟩ : S28) (Kd.R_mono (Kd.R_tight rfl (Kd.R_mono (ok' := fun k_ => ((fun k_ => some k_ ≠ (v860 : Value).ownBlock ∧ k_ ≠ gb854)) k_ ∧ some k_ ≠ (v865 : Value).ownBlock) (Kd.R_types (Kd.R_apart' (Kd.R_apart' (HO872.out) (Kd.S_typed HO861.out) (by decide)) (Kd.S_typed HO866.out) (by decide)) BK854.out (by decide)) (fun k_ hk => ⟨⟨hk.1.1.2, hk.2⟩, hk.1.2⟩))) (fun _ h_ => h_))); (case aB => exact (by repeat (first | (with_reducible first | exact HB.out | apply below_alloc | apply pw_below_drewN | apply below_drew1 | refine below_set ?_ (IsS93.ge HI858.out) | refine below_set ?_ GE854.out) | exact HB.out))); (case aF => exact (fun k_ hk => ⟨Kd.fresh' (Kd.S_lt (vS_ HO861.out)) k_ hk, Kd.freshB (g := gb854) (o := .cells #[.int .i64 0, .slice none 0 0, .bool false, .bool false, .int .i64 0] 28 (0, 0)) (vb_ BK854.out) k_ hk⟩)); (case aO => exact (by (with_reducible repeat (first | apply Kd.S_alloc | apply Kd.S_drewN | apply Kd.S_drew)); exact Kd.S_mono HO866.out (fun k_ hk => ⟨⟨hk.1.1.2, hk.1.2⟩, fun e_ => hk.2 e_⟩))); (case aS => exact (below_size (by repeat (first | (with_reducible first | exact HB.out | apply below_alloc | apply pw_below_drewN | apply below_drew1 | refine below_set ?_ (IsS93.ge HI858.out) | refine below_set ?_ GE854.out) | exact HB.out)))); (case aL => have := LMc6.out; omega); intro v879 w15 ho hb hg hat; rw [← Ny878.out] at ho; replace BK854 := A_ (blk_grown (g := gb854) (o := .cells #[.int .i64 0, .slice none 0 0, .bool false, .bool false, .int .i64 0] 28 (0, 0)) (vb_ BK854.out) hg (Kd.S_away HO866.out (fun _ hk => hk.1.2))); replace HI858 := A_ (IsS93.grown (by repeat (first | (with_reducible first | exact HI858.out | apply IsS93.alloc | apply IsS93.drewN | apply IsS93.drew | apply IsS93.set_1 | apply IsS93.set_2 | refine IsS93.far ?_ NB858_854.out _) | exact HI858.out)) hg (IsS93.own_neS HI858.out HO866.out (by decide))); replace HO861 := A_ (Kd.S_after (ok := (fun k_ => some k_ ≠ (.slice Ao16 t870.length co16 : Value).ownBlock ∧ k_ ≠ gb854)) (by (with_reducible repeat (first | apply Kd.S_alloc | apply Kd.S_drewN | apply Kd.S_drew)); exact Kd.S_mono HO861.out (fun _ hk => ⟨⟨hk.2, hk.1.1.2⟩, hk.1.2⟩)) hg hat); replace HB := A_ (hb); have HO880 := A_ (ho); clear HO866 HO872; clear ho hb hg hat))
 replace HO861 := A_ (Kd.S_drew HO861.out)
 replace HO880 := A_ (Kd.S_drew HO880.out)
 replace BK854 := A_ (blk_drew BK854.out)
 replace HI858 := A_ (IsS93.drew HI858.out)
 replace HB := A_ (below_drew1 HB.out)
 obtain ⟨Ao18, co18, eo18⟩ := Kd.S_slice HO880.out
 (first | subst eo18 | (injection eo18 with f1_ f2_ f3_; have f4_ := f1_.symm; have f5_ := f3_.symm; clear f1_ f2_ f3_; subst f4_; subst f5_))
 have p881 : 0 ≤ ((ji7) : Int) := of_decide_eq_true as_
 have q881 : (ji7) < (y878.length : Int) := of_decide_eq_true as_
 obtain ⟨ad881, A881_1, c881_1, e881, hx881_0, hx881_1, hx881_2, hx881_3, hx881_4, hl881_1, hi881_1⟩ := at_T28 (Kd.S_reads' HO880.out).2.2 (ji7) p881 q881
 cases e881
 obtain ⟨ce881, hce881, hMe881, hcc881⟩ := Kd.S_get HO880.out z28 (ji7) p881 (by first | exact q881 | exact of_decide_eq_true as_ | (have e_ := (Kd.S_reads' HO880.out).1; omega))
 obtain ⟨ve881_1, rfl, ge881_1⟩ := k28_openM hMe881
 have hv881_1 := hcc881 1 _ rfl
 rw [add_field _ _ 1 (by omega)] at hv881_1
 replace hv881_1 := Option.some.inj (hv881_1.symm.trans hx881_1)
 rw [hv881_1] at ge881_1
 have HL881_1 := A_ (show Kd.R Kd.string 9 _ _ _ _ ((rd_T28 y878 (ji7)).f1) from ge881_1)
 clear hv881_1 ge881_1
 clear hcc881 hce881
 have HR881_1 := Aside0.mk hi881_1
 have HC881_1 := Aside0.mk hl881_1
 clear hi881_1 hl881_1
 replace p881 := eq_true p881
 replace q881 := eq_true q881
 refine start_ (n := 9) (S := fun w' => w'.cell? (ad881.add (((ji7)).toNat * 5)) = some (.int .i64 ((rd_T28 y878 (ji7)).f0)) ∧ w'.cell? ⟨(ad881.add (((ji7)).toNat * 5)).block, (ad881.add (((ji7)).toNat * 5)).off + 1, none⟩ = some (.slice A881_1 ((rd_T28 y878 (ji7)).f1).length c881_1) ∧ w'.cell? ⟨(ad881.add (((ji7)).toNat * 5)).block, (ad881.add (((ji7)).toNat * 5)).off + 2, none⟩ = some (.bool ((rd_T28 y878 (ji7)).f2)) ∧ w'.cell? ⟨(ad881.add (((ji7)).toNat * 5)).block, (ad881.add (((ji7)).toNat * 5)).off + 3, none⟩ = some (.bool ((rd_T28 y878 (ji7)).f3)) ∧ w'.cell? ⟨(ad881.add (((ji7)).toNat * 5)).block, (ad881.add (((ji7)).toNat * 5)).off + 4, none⟩ = some (.int .i64 ((rd_T28 y878 (ji7)).f4))) (ds := []) #[false, false, false, false, false, false, false, false, false] (by kernel_rfl) rfl rfl ⟨hx881_0, hx881_1, hx881_2, hx881_3, hx881_4⟩ (fun hHeld => ?_); refine with_tabW spec_DrawAddLock.tab4 spec_DrawAddLock.bits4 (fun HT_ HW_ => ?_)
 generalize w15.drew = w17 at HO861 HO880 BK854 HI858 HB HL881_1 HR881_1 hx881_0 hx881_1 hx881_2 hx881_3 hx881_4 hHeld ⊢
 refine pu_ (i := 0) (N := some 17) ?_
 refine pu_ (i := 1) (N := some 18) ?_
 refine pu_ (i := 2) (N := some 19) ?_
 refine pu_ (i := 3) (N := some 20) ?_
 refine pu_ (i := 4) (N := some 21) ?_
 refine pu_ (i := 5) (N := some 22) ?_
 refine pu_ (i := 7) (N := some 2) ?_
 refine tk_ (i := 6) (N := some 23) hHeld ?_
 refine on_ (i := 8) (N := none) (fun K hK => ?_)
 have hs19 : w17.cell? ⟨gb854, 0, none⟩ = some (.int .i64 0) := (blk_cell BK854.out 0).trans rfl
 have hfs19 := blk_frozen BK854.out 0
 have hs20 : w17.cell? ⟨gb854, 1, none⟩ = some (.slice none 0 0) := (blk_cell BK854.out 1).trans rfl
 have hfs20 := blk_frozen BK854.out 1
 have hs21 : w17.cell? ⟨gb854, 2, none⟩ = some (.bool false) := (blk_cell BK854.out 2).trans rfl
 have hfs21 := blk_frozen BK854.out 2
 have hs22 : w17.cell? ⟨gb854, 3, none⟩ = some (.bool false) := (blk_cell BK854.out 3).trans rfl
 have hfs22 := blk_frozen BK854.out 3
 have hs23 : w17.cell? ⟨gb854, 4, none⟩ = some (.int .i64 0) := (blk_cell BK854.out 4).trans rfl
 have hfs23 := blk_frozen BK854.out 4
 refine skip_ (w1 := ?_) (by rfl) rfl ?_ ?_
 rotate_left
 · go_simp
   rfl
 refine hK.out _ _ ⟨((cell_far (p := ⟨gb854, _, none⟩) (by first | exact Kd.own_blk (Kd.S_away HO880.out (fun _ hk => hk.2)) | (rw [add_block]; exact Kd.own_blk (Kd.S_away HO880.out (fun _ hk => hk.2))) | (show (Addr.add _ _).block ≠ _; rw [add_block]; exact Kd.own_blk (Kd.S_away HO880.out (fun _ hk => hk.2))) | (dsimp only; exact Kd.own_blk (Kd.S_away HO880.out (fun _ hk => hk.2)))) _).trans (((cell_far (p := ⟨gb854, _, none⟩) (by first | exact Kd.own_blk (Kd.S_away HO880.out (fun _ hk => hk.2)) | (rw [add_block]; exact Kd.own_blk (Kd.S_away HO880.out (fun _ hk => hk.2))) | (show (Addr.add _ _).block ≠ _; rw [add_block]; exact Kd.own_blk (Kd.S_away HO880.out (fun _ hk => hk.2))) | (dsimp only; exact Kd.own_blk (Kd.S_away HO880.out (fun _ hk => hk.2)))) _).trans (((cell_far (p := ⟨gb854, _, none⟩) (by first | exact Kd.own_blk (Kd.S_away HO880.out (fun _ hk => hk.2)) | (rw [add_block]; exact Kd.own_blk (Kd.S_away HO880.out (fun _ hk => hk.2))) | (show (Addr.add _ _).block ≠ _; rw [add_block]; exact Kd.own_blk (Kd.S_away HO880.out (fun _ hk => hk.2))) | (dsimp only; exact Kd.own_blk (Kd.S_away HO880.out (fun _ hk => hk.2)))) _).trans (((cell_far (p := ⟨gb854, _, none⟩) (by first | exact Kd.own_blk (Kd.S_away HO880.out (fun _ hk => hk.2)) | (rw [add_block]; exact Kd.own_blk (Kd.S_away HO880.out (fun _ hk => hk.2))) | (show (Addr.add _ _).block ≠ _; rw [add_block]; exact Kd.own_blk (Kd.S_away HO880.out (fun _ hk => hk.2))) | (dsimp only; exact Kd.own_blk (Kd.S_away HO880.out (fun _ hk => hk.2)))) _).trans (((cell_far (p := ⟨gb854, _, none⟩) (by first | exact Kd.own_blk (Kd.S_away HO880.out (fun _ hk => hk.2)) | (rw [add_block]; exact Kd.own_blk (Kd.S_away HO880.out (fun _ hk => hk.2))) | (show (Addr.add _ _).block ≠ _; rw [add_block]; exact Kd.own_blk (Kd.S_away HO880.out (fun _ hk => hk.2))) | (dsimp only; exact Kd.own_blk (Kd.S_away HO880.out (fun _ hk => hk.2)))) _).trans (hHeld.1)))))))))), ((cell_far (p := ⟨gb854, _, none⟩) (by first | exact Kd.own_blk (Kd.S_away HO880.out (fun _ hk => hk.2)) | (rw [add_block]; exact Kd.own_blk (Kd.S_away HO880.out (fun _ hk => hk.2))) | (show (Addr.add _ _).block ≠ _; rw [add_block]; exact Kd.own_blk (Kd.S_away HO880.out (fun _ hk => hk.2))) | (dsimp only; exact Kd.own_blk (Kd.S_away HO880.out (fun _ hk => hk.2)))) _).trans (((cell_far (p := ⟨gb854, _, none⟩) (by first | exact Kd.own_blk (Kd.S_away HO880.out (fun _ hk => hk.2)) | (rw [add_block]; exact Kd.own_blk (Kd.S_away HO880.out (fun _ hk => hk.2))) | (show (Addr.add _ _).block ≠ _; rw [add_block]; exact Kd.own_blk (Kd.S_away HO880.out (fun _ hk => hk.2))) | (dsimp only; exact Kd.own_blk (Kd.S_away HO880.out (fun _ hk => hk.2)))) _).trans (((cell_far (p := ⟨gb854, _, none⟩) (by first | exact Kd.own_blk (Kd.S_away HO880.out (fun _ hk => hk.2)) | (rw [add_block]; exact Kd.own_blk (Kd.S_away HO880.out (fun _ hk => hk.2))) | (show (Addr.add _ _).block ≠ _; rw [add_block]; exact Kd.own_blk (Kd.S_away HO880.out (fun _ hk => hk.2))) | (dsimp only; exact Kd.own_blk (Kd.S_away HO880.out (fun _ hk => hk.2)))) _).trans (((cell_far (p := ⟨gb854, _, none⟩) (by first | exact Kd.own_blk (Kd.S_away HO880.out (fun _ hk => hk.2)) | (rw [add_block]; exact Kd.own_blk (Kd.S_away HO880.out (fun _ hk => hk.2))) | (show (Addr.add _ _).block ≠ _; rw [add_block]; exact Kd.own_blk (Kd.S_away HO880.out (fun _ hk => hk.2))) | (dsimp only; exact Kd.own_blk (Kd.S_away HO880.out (fun _ hk => hk.2)))) _).trans (((cell_far (p := ⟨gb854, _, none⟩) (by first | exact Kd.own_blk (Kd.S_away HO880.out (fun _ hk => hk.2)) | (rw [add_block]; exact Kd.own_blk (Kd.S_away HO880.out (fun _ hk => hk.2))) | (show (Addr.add _ _).block ≠ _; rw [add_block]; exact Kd.own_blk (Kd.S_away HO880.out (fun _ hk => hk.2))) | (dsimp only; exact Kd.own_blk (Kd.S_away HO880.out (fun _ hk => hk.2)))) _).trans (hHeld.2.1)))))))))), ((cell_far (p := ⟨gb854, _, none⟩) (by first | exact Kd.own_blk (Kd.S_away HO880.out (fun _ hk => hk.2)) | (rw [add_block]; exact Kd.own_blk (Kd.S_away HO880.out (fun _ hk => hk.2))) | (show (Addr.add _ _).block ≠ _; rw [add_block]; exact Kd.own_blk (Kd.S_away HO880.out (fun _ hk => hk.2))) | (dsimp only; exact Kd.own_blk (Kd.S_away HO880.out (fun _ hk => hk.2)))) _).trans (((cell_far (p := ⟨gb854, _, none⟩) (by first | exact Kd.own_blk (Kd.S_away HO880.out (fun _ hk => hk.2)) | (rw [add_block]; exact Kd.own_blk (Kd.S_away HO880.out (fun _ hk => hk.2))) | (show (Addr.add _ _).block ≠ _; rw [add_block]; exact Kd.own_blk (Kd.S_away HO880.out (fun _ hk => hk.2))) | (dsimp only; exact Kd.own_blk (Kd.S_away HO880.out (fun _ hk => hk.2)))) _).trans (((cell_far (p := ⟨gb854, _, none⟩) (by first | exact Kd.own_blk (Kd.S_away HO880.out (fun _ hk => hk.2)) | (rw [add_block]; exact Kd.own_blk (Kd.S_away HO880.out (fun _ hk => hk.2))) | (show (Addr.add _ _).block ≠ _; rw [add_block]; exact Kd.own_blk (Kd.S_away HO880.out (fun _ hk => hk.2))) | (dsimp only; exact Kd.own_blk (Kd.S_away HO880.out (fun _ hk => hk.2)))) _).trans (((cell_far (p := ⟨gb854, _, none⟩) (by first | exact Kd.own_blk (Kd.S_away HO880.out (fun _ hk => hk.2)) | (rw [add_block]; exact Kd.own_blk (Kd.S_away HO880.out (fun _ hk => hk.2))) | (show (Addr.add _ _).block ≠ _; rw [add_block]; exact Kd.own_blk (Kd.S_away HO880.out (fun _ hk => hk.2))) | (dsimp only; exact Kd.own_blk (Kd.S_away HO880.out (fun _ hk => hk.2)))) _).trans (((cell_far (p := ⟨gb854, _, none⟩) (by first | exact Kd.own_blk (Kd.S_away HO880.out (fun _ hk => hk.2)) | (rw [add_block]; exact Kd.own_blk (Kd.S_away HO880.out (fun _ hk => hk.2))) | (show (Addr.add _ _).block ≠ _; rw [add_block]; exact Kd.own_blk (Kd.S_away HO880.out (fun _ hk => hk.2))) | (dsimp only; exact Kd.own_blk (Kd.S_away HO880.out (fun _ hk => hk.2)))) _).trans (hHeld.2.2.1)))))))))), ((cell_far (p := ⟨gb854, _, none⟩) (by first | exact Kd.own_blk (Kd.S_away HO880.out (fun _ hk => hk.2)) | (rw [add_block]; exact Kd.own_blk (Kd.S_away HO880.out (fun _ hk => hk.2))) | (show (Addr.add _ _).block ≠ _; rw [add_block]; exact Kd.own_blk (Kd.S_away HO880.out (fun _ hk => hk.2))) | (dsimp only; exact Kd.own_blk (Kd.S_away HO880.out (fun _ hk => hk.2)))) _).trans (((cell_far (p := ⟨gb854, _, none⟩) (by first | exact Kd.own_blk (Kd.S_away HO880.out (fun _ hk => hk.2)) | (rw [add_block]; exact Kd.own_blk (Kd.S_away HO880.out (fun _ hk => hk.2))) | (show (Addr.add _ _).block ≠ _; rw [add_block]; exact Kd.own_blk (Kd.S_away HO880.out (fun _ hk => hk.2))) | (dsimp only; exact Kd.own_blk (Kd.S_away HO880.out (fun _ hk => hk.2)))) _).trans (((cell_far (p := ⟨gb854, _, none⟩) (by first | exact Kd.own_blk (Kd.S_away HO880.out (fun _ hk => hk.2)) | (rw [add_block]; exact Kd.own_blk (Kd.S_away HO880.out (fun _ hk => hk.2))) | (show (Addr.add _ _).block ≠ _; rw [add_block]; exact Kd.own_blk (Kd.S_away HO880.out (fun _ hk => hk.2))) | (dsimp only; exact Kd.own_blk (Kd.S_away HO880.out (fun _ hk => hk.2)))) _).trans (((cell_far (p := ⟨gb854, _, none⟩) (by first | exact Kd.own_blk (Kd.S_away HO880.out (fun _ hk => hk.2)) | (rw [add_block]; exact Kd.own_blk (Kd.S_away HO880.out (fun _ hk => hk.2))) | (show (Addr.add _ _).block ≠ _; rw [add_block]; exact Kd.own_blk (Kd.S_away HO880.out (fun _ hk => hk.2))) | (dsimp only; exact Kd.own_blk (Kd.S_away HO880.out (fun _ hk => hk.2)))) _).trans (((cell_far (p := ⟨gb854, _, none⟩) (by first | exact Kd.own_blk (Kd.S_away HO880.out (fun _ hk => hk.2)) | (rw [add_block]; exact Kd.own_blk (Kd.S_away HO880.out (fun _ hk => hk.2))) | (show (Addr.add _ _).block ≠ _; rw [add_block]; exact Kd.own_blk (Kd.S_away HO880.out (fun _ hk => hk.2))) | (dsimp only; exact Kd.own_blk (Kd.S_away HO880.out (fun _ hk => hk.2)))) _).trans (hHeld.2.2.2.1)))))))))), ((cell_far (p := ⟨gb854, _, none⟩) (by first | exact Kd.own_blk (Kd.S_away HO880.out (fun _ hk => hk.2)) | (rw [add_block]; exact Kd.own_blk (Kd.S_away HO880.out (fun _ hk => hk.2))) | (show (Addr.add _ _).block ≠ _; rw [add_block]; exact Kd.own_blk (Kd.S_away HO880.out (fun _ hk => hk.2))) | (dsimp only; exact Kd.own_blk (Kd.S_away HO880.out (fun _ hk => hk.2)))) _).trans (((cell_far (p := ⟨gb854, _, none⟩) (by first | exact Kd.own_blk (Kd.S_away HO880.out (fun _ hk => hk.2)) | (rw [add_block]; exact Kd.own_blk (Kd.S_away HO880.out (fun _ hk => hk.2))) | (show (Addr.add _ _).block ≠ _; rw [add_block]; exact Kd.own_blk (Kd.S_away HO880.out (fun _ hk => hk.2))) | (dsimp only; exact Kd.own_blk (Kd.S_away HO880.out (fun _ hk => hk.2)))) _).trans (((cell_far (p := ⟨gb854, _, none⟩) (by first | exact Kd.own_blk (Kd.S_away HO880.out (fun _ hk => hk.2)) | (rw [add_block]; exact Kd.own_blk (Kd.S_away HO880.out (fun _ hk => hk.2))) | (show (Addr.add _ _).block ≠ _; rw [add_block]; exact Kd.own_blk (Kd.S_away HO880.out (fun _ hk => hk.2))) | (dsimp only; exact Kd.own_blk (Kd.S_away HO880.out (fun _ hk => hk.2)))) _).trans (((cell_far (p := ⟨gb854, _, none⟩) (by first | exact Kd.own_blk (Kd.S_away HO880.out (fun _ hk => hk.2)) | (rw [add_block]; exact Kd.own_blk (Kd.S_away HO880.out (fun _ hk => hk.2))) | (show (Addr.add _ _).block ≠ _; rw [add_block]; exact Kd.own_blk (Kd.S_away HO880.out (fun _ hk => hk.2))) | (dsimp only; exact Kd.own_blk (Kd.S_away HO880.out (fun _ hk => hk.2)))) _).trans (((cell_far (p := ⟨gb854, _, none⟩) (by first | exact Kd.own_blk (Kd.S_away HO880.out (fun _ hk => hk.2)) | (rw [add_block]; exact Kd.own_blk (Kd.S_away HO880.out (fun _ hk => hk.2))) | (show (Addr.add _ _).block ≠ _; rw [add_block]; exact Kd.own_blk (Kd.S_away HO880.out (fun _ hk => hk.2))) | (dsimp only; exact Kd.own_blk (Kd.S_away HO880.out (fun _ hk => hk.2)))) _).trans (hHeld.2.2.2.2))))))))))⟩ (fun hHeld => ?_)
 clear hK K
 refine done_ (done_of HT_.out (by kernel_rfl)) ?_
 (try clear hHeld)
 try go_wp2
 refine bodyPost_ret (results_tc rfl _ _ gb854 28 #[.int .i64 ((rd_T28 y878 (ji7)).f0), .slice A881_1 ((rd_T28 y878 (ji7)).f1).length c881_1, .bool ((rd_T28 y878 (ji7)).f2), .bool ((rd_T28 y878 (ji7)).f3), .int .i64 ((rd_T28 y878 (ji7)).f4)] (0, 0) _ rfl (by (with_reducible repeat (first | refine blk_drewN ?_ _ | refine blk_drew ?_ | refine blk_alloc ?_ _)); refine blk_put (cs := #[.int .i64 ((rd_T28 y878 (ji7)).f0), .slice A881_1 ((rd_T28 y878 (ji7)).f1).length c881_1, .bool ((rd_T28 y878 (ji7)).f2), .bool ((rd_T28 y878 (ji7)).f3), .int .i64 0]) ?_ 4 _ rfl; (with_reducible repeat (first | refine blk_drewN ?_ _ | refine blk_drew ?_ | refine blk_alloc ?_ _)); refine blk_put (cs := #[.int .i64 ((rd_T28 y878 (ji7)).f0), .slice A881_1 ((rd_T28 y878 (ji7)).f1).length c881_1, .bool ((rd_T28 y878 (ji7)).f2), .bool false, .int .i64 0]) ?_ 3 _ rfl; (with_reducible repeat (first | refine blk_drewN ?_ _ | refine blk_drew ?_ | refine blk_alloc ?_ _)); refine blk_put (cs := #[.int .i64 ((rd_T28 y878 (ji7)).f0), .slice A881_1 ((rd_T28 y878 (ji7)).f1).length c881_1, .bool false, .bool false, .int .i64 0]) ?_ 2 _ rfl; (with_reducible repeat (first | refine blk_drewN ?_ _ | refine blk_drew ?_ | refine blk_alloc ?_ _)); refine blk_put (cs := #[.int .i64 ((rd_T28 y878 (ji7)).f0), .slice none 0 0, .bool false, .bool false, .int .i64 0]) ?_ 1 _ rfl; (with_reducible repeat (first | refine blk_drewN ?_ _ | refine blk_drew ?_ | refine blk_alloc ?_ _)); refine blk_put (cs := #[.int .i64 0, .slice none 0 0, .bool false, .bool false, .int .i64 0]) ?_ 0 _ rfl; (with_reducible repeat (first | refine blk_drewN ?_ _ | refine blk_drew ?_ | refine blk_alloc ?_ _)); exact BK854.out) Try.underlying28 rfl (by kernel_rfl)) rfl ?_
 exact ⟨_, _, by first | rfl | (simp [errW_none, errW_some] <;> rfl) | (simp only [← hji7]; first | rfl | (simp [errW_none, errW_some] <;> rfl)) | (simp [*, errW_none, errW_some] <;> rfl), by (with_reducible repeat (first | apply Kd.S_alloc | apply Kd.S_drewN | apply Kd.S_drew)); exact Kd.S_mono (Kd.S_far (p := ⟨gb854, 4, none⟩) (Kd.S_far (p := ⟨gb854, 3, none⟩) (Kd.S_far (p := ⟨gb854, 2, none⟩) (Kd.S_far (p := ⟨gb854, 1, none⟩) (Kd.S_far (p := ⟨gb854, 0, none⟩) (Kd.S_mono HO861.out (fun k_ hk => (⟨hk, hk.1.2⟩ : _ ∧ k_ ≠ gb854))) (fun _ hk => hk.2) (.int .i64 ((rd_T28 y878 (ji7)).f0))) (fun _ hk => hk.2) (.slice A881_1 ((rd_T28 y878 (ji7)).f1).length c881_1)) (fun _ hk => hk.2) (.bool ((rd_T28 y878 (ji7)).f2))) (fun _ hk => hk.2) (.bool ((rd_T28 y878 (ji7)).f3))) (fun _ hk => hk.2) (.int .i64 ((rd_T28 y878 (ji7)).f4))) (fun _ hk => trivial), by (with_reducible repeat (first | apply Kd.R_alloc | apply Kd.R_drewN | apply Kd.R_drew)); exact Kd.R_mono (Kd.R_far (p := ⟨gb854, 4, none⟩) (Kd.R_far (p := ⟨gb854, 3, none⟩) (Kd.R_far (p := ⟨gb854, 2, none⟩) (Kd.R_far (p := ⟨gb854, 1, none⟩) (Kd.R_far (p := ⟨gb854, 0, none⟩) (Kd.R_types HL881_1.out BK854.out (by decide)) (fun _ hk => hk.2) (.int .i64 ((rd_T28 y878 (ji7)).f0))) (fun _ hk => hk.2) (.slice A881_1 ((rd_T28 y878 (ji7)).f1).length c881_1)) (fun _ hk => hk.2) (.bool ((rd_T28 y878 (ji7)).f2))) (fun _ hk => hk.2) (.bool ((rd_T28 y878 (ji7)).f3))) (fun _ hk => hk.2) (.int .i64 ((rd_T28 y878 (ji7)).f4))) (fun _ hk => trivial), by repeat (first | (with_reducible first | exact HB.out | apply below_alloc | apply pw_below_drewN | apply below_drew1 | refine below_set ?_ (IsS93.ge HI858.out) | refine below_set ?_ GE854.out) | exact HB.out)⟩
def laws_sameTexts.l0 : Nat → List ByteArray → List ByteArray → Int → Option (Bool)
 | 0, _, _, _ => none
 | k + 1, x0, x1, x5 => if x5 < (x0.length : Int) then (if 0 ≤ x5 then (if x5 < (x1.length : Int) then (if (rdOf ByteArray.empty x0 x5).toList = (rdOf ByteArray.empty x1 x5).toList then (laws_sameTexts.l0 k x0 x1 (wrap64 (x5 + 1))) else (some false)) else (none)) else (none)) else (some true)
def laws_sameTexts.f (k : Nat) (l0 : List ByteArray) (l1 : List ByteArray) : Option (Bool) := if (l0.length : Int) = (l1.length : Int) then (laws_sameTexts.l0 k l0 l1 0) else (some false)
set_option maxHeartbeats 8000000 in
set_option maxRecDepth 100000 in
theorem laws_sameTexts.calls (k : Nat) (A0 : Option Addr) (c0 : Nat) (l0 : List ByteArray) (A1 : Option Addr) (c1 : Nat) (l1 : List ByteArray) (r : Bool) (w : World) (hr0 : Kd.C Kd.string w A0 l0.length l0) (hc0 : l0.length ≤ c0) (hr1 : Kd.C Kd.string w A1 l1.length l1) (hc1 : l1.length ≤ c1) (h : laws_sameTexts.f k l0 l1 = some r) :
 Calls Try.prog 93 #[.slice A0 l0.length c0, .slice A1 l1.length c1] w fun e w' => e = .returned (.bool r) ∧ Drawn0 w w' := by
 have HR0 := Aside0.mk hr0
 have HC0 := Aside0.mk hc0
 clear hr0 hc0
 have HR1 := Aside0.mk hr1
 have HC1 := Aside0.mk hc1
 clear hr1 hc1
 have H : (if (l0.length : Int) = (l1.length : Int) then (laws_sameTexts.l0 k l0 l1 0) else (some false)) = some r := h
 clear h
 by_cases c3 : (l0.length : Int) = (l1.length : Int)
 rotate_left
 · rw [if_neg c3] at H
   have c3b0 : ((l0.length : Int) == (l1.length : Int)) = false := beq_eq_false_iff_ne.mpr c3
   have c3b1 : ((l0.length : Int) != (l1.length : Int)) = true := bne_iff_ne.mpr c3
   have c3b2 : (l0.length == l1.length) = false := by first | simpa using c3 | (simp at c3 ⊢; omega)
   obtain rfl := Option.some.inj H
   go_enter Try.func93, Try.ntmps93
   go_wp2
   repeat (go_quiet (fail); try go_wp2)
   go_ret
   exact ⟨rs_, dr_⟩
 rw [if_pos c3] at H
 have c3b0 : ((l0.length : Int) == (l1.length : Int)) = true := beq_iff_eq.mpr c3
 have c3b1 : ((l0.length : Int) != (l1.length : Int)) = false := bne_eq_false_iff_eq.mpr c3
 have c3b2 : (l0.length == l1.length) = true := by first | simpa using c3 | (simp at c3 ⊢; omega)
 clear c3
 have H' := Aside0.mk H
 clear H
 go_enter Try.func93, Try.ntmps93
 go_wp2
 repeat (go_quiet (fail); try go_wp2)
 go_loopg [5] k (fun kq v5 w' => ∃ (x5_1 : Int), v5 = .int .i64 x5_1 ∧ Aside0 (laws_sameTexts.l0 kq l0 l1 x5_1 = some r) ∧ Aside0 (kq ≤ k) ∧ Drawn0 w w')
 case atStart => exact ⟨(0), rs_, H', ⟨Nat.le_refl _⟩, dr_⟩
 case round =>
  clear H'
  try clear c1
  try clear p2
  try clear c3
  try clear c3b0
  try clear c3b1
  try clear c3b2
  obtain ⟨x5_1, rfl, HA, HK1, ⟨m1, rfl⟩⟩ := hrel
  cases gk with
  | zero => exact absurd HA.out (by simp [laws_sameTexts.l0])
  | succ k1 =>
   have H := HA.out
   clear HA
   simp only [laws_sameTexts.l0] at H
   by_cases c4 : x5_1 < (l0.length : Int)
   rotate_left
   · rw [if_neg c4] at H
     have c4b0 : decide (x5_1 < (l0.length : Int)) = false := decide_eq_false c4
     clear c4
     obtain rfl := Option.some.inj H
     go_wp2
     repeat (go_quiet (fail); try go_wp2)
     go_ret
     exact ⟨rs_, dr_⟩
   rw [if_pos c4] at H
   have c4b0 : decide (x5_1 < (l0.length : Int)) = true := decide_eq_true c4
   clear c4
   by_cases c5 : 0 ≤ x5_1
   rotate_left
   · exact absurd H (by rw [if_neg c5]; simp)
   rw [if_pos c5] at H
   have c5b0 : decide (0 ≤ x5_1) = true := decide_eq_true c5
   clear c5
   by_cases c6 : x5_1 < (l1.length : Int)
   rotate_left
   · exact absurd H (by rw [if_neg c6]; simp)
   rw [if_pos c6] at H
   have c6b0 : decide (x5_1 < (l1.length : Int)) = true := decide_eq_true c6
   clear c6
   by_cases c7 : (rdOf ByteArray.empty l0 x5_1).toList = (rdOf ByteArray.empty l1 x5_1).toList
   rotate_left
   · rw [if_neg c7] at H
     have c7b0 : ((rdOf ByteArray.empty l0 x5_1).toList == (rdOf ByteArray.empty l1 x5_1).toList) = false := beq_eq_false_iff_ne.mpr c7
     have c7b1 : ((rdOf ByteArray.empty l0 x5_1).toList != (rdOf ByteArray.empty l1 x5_1).toList) = true := bne_iff_ne.mpr c7
     obtain rfl := Option.some.inj H
     have p882 : 0 ≤ (x5_1 : Int) := of_decide_eq_true as_
     have q882 : x5_1 < (l0.length : Int) := of_decide_eq_true as_
     obtain ⟨ad882, e882, hx882_0⟩ := Kd.at_string HR0.out x5_1 p882 q882
     cases e882
     replace p882 := eq_true p882
     replace q882 := eq_true q882
     have p883 : 0 ≤ (x5_1 : Int) := of_decide_eq_true as_
     have q883 : x5_1 < (l1.length : Int) := of_decide_eq_true as_
     obtain ⟨ad883, e883, hx883_0⟩ := Kd.at_string HR1.out x5_1 p883 q883
     cases e883
     replace p883 := eq_true p883
     replace q883 := eq_true q883
     go_wp2
     repeat (go_quiet (fail); try go_wp2)
     go_ret
     exact ⟨rs_, dr_⟩
   rw [if_pos c7] at H
   have c7b0 : ((rdOf ByteArray.empty l0 x5_1).toList == (rdOf ByteArray.empty l1 x5_1).toList) = true := beq_iff_eq.mpr c7
   have c7b1 : ((rdOf ByteArray.empty l0 x5_1).toList != (rdOf ByteArray.empty l1 x5_1).toList) = false := bne_eq_false_iff_eq.mpr c7
   clear c7
   have H' := Aside0.mk H
   clear H
   have p882 : 0 ≤ (x5_1 : Int) := of_decide_eq_true as_
   have q882 : x5_1 < (l0.length : Int) := of_decide_eq_true as_
   obtain ⟨ad882, e882, hx882_0⟩ := Kd.at_string HR0.out x5_1 p882 q882
   cases e882
   replace p882 := eq_true p882
   replace q882 := eq_true q882
   have p883 : 0 ≤ (x5_1 : Int) := of_decide_eq_true as_
   have q883 : x5_1 < (l1.length : Int) := of_decide_eq_true as_
   obtain ⟨ad883, e883, hx883_0⟩ := Kd.at_string HR1.out x5_1 p883 q883
   cases e883
   replace p883 := eq_true p883
   replace q883 := eq_true q883
   go_wp2
   repeat (go_quiet (fail); try go_wp2)
   go_roundg k1
   case measure => have := HK1.out; omega
   case rel => exact ⟨(wrap64 (x5_1 + 1)), rs_, H', ⟨by have := HK1.out; omega⟩, dr_⟩
def laws_sameLock.f (k : Nat) (a0_0 : Int) (l0_1 : List ByteArray) (a0_2 : Bool) (a0_3 : Bool) (a0_4 : Int) (a1_0 : Int) (l1_1 : List ByteArray) (a1_2 : Bool) (a1_3 : Bool) (a1_4 : Int) : Option (Bool) := if a0_0 = a1_0 then ((laws_sameTexts.f k l0_1 l1_1).bind fun t886 => (if t886 = true then (if (a0_2 == a1_2) = true then (if (a0_3 == a1_3) = true then (some (a0_4 == a1_4)) else (some false)) else (some false)) else (some false))) else (some false)
set_option maxHeartbeats 8000000 in
set_option maxRecDepth 100000 in
theorem laws_sameLock.calls (k : Nat) (a0_0 : Int) (A0_1 : Option Addr) (c0_1 : Nat) (l0_1 : List ByteArray) (a0_2 : Bool) (a0_3 : Bool) (a0_4 : Int) (a1_0 : Int) (A1_1 : Option Addr) (c1_1 : Nat) (l1_1 : List ByteArray) (a1_2 : Bool) (a1_3 : Bool) (a1_4 : Int) (r : Bool) (w : World) (hr0_1 : Kd.C Kd.string w A0_1 l0_1.length l0_1) (hc0_1 : l0_1.length ≤ c0_1) (hr1_1 : Kd.C Kd.string w A1_1 l1_1.length l1_1) (hc1_1 : l1_1.length ≤ c1_1) (h : laws_sameLock.f k a0_0 l0_1 a0_2 a0_3 a0_4 a1_0 l1_1 a1_2 a1_3 a1_4 = some r) :
 Calls Try.prog 82 #[.agg #[.int .i64 a0_0, .slice A0_1 l0_1.length c0_1, .bool a0_2, .bool a0_3, .int .i64 a0_4], .agg #[.int .i64 a1_0, .slice A1_1 l1_1.length c1_1, .bool a1_2, .bool a1_3, .int .i64 a1_4]] w fun e w' => e = .returned (.bool r) ∧ Below w.heap.size w w' := by
 have hu28 := Try.underlying28
 have HR0_1 := Aside0.mk hr0_1
 have HC0_1 := Aside0.mk hc0_1
 clear hr0_1 hc0_1
 have HR1_1 := Aside0.mk hr1_1
 have HC1_1 := Aside0.mk hc1_1
 clear hr1_1 hc1_1
 have HB := A_ (Below.refl w.heap.size w)
 have H : (if a0_0 = a1_0 then ((laws_sameTexts.f k l0_1 l1_1).bind fun t886 => (if t886 = true then (if (a0_2 == a1_2) = true then (if (a0_3 == a1_3) = true then (some (a0_4 == a1_4)) else (some false)) else (some false)) else (some false))) else (some false)) = some r := h
 clear h
 by_cases c3 : a0_0 = a1_0
 rotate_left
 · rw [if_neg c3] at H
   have c3b0 : (a0_0 == a1_0) = false := beq_eq_false_iff_ne.mpr c3
   have c3b1 : (a0_0 != a1_0) = true := bne_iff_ne.mpr c3
   obtain rfl := Option.some.inj H
   go_enter Try.func82, Try.ntmps82
   go_wp2_with (first | ((with_reducible refine gate_dst (N := 2) rfl ?_); refine bx_ (N := 2) (cs := #[.int .i64 a0_0, .slice A0_1 l0_1.length c0_1, .bool a0_2, .bool a0_3, .int .i64 a0_4]) (t := 28) ?_; intro gb884 hg w28 hbox hb; have BK884 := A_ (hbox); have GW884 := A_ (ge_ hg bB_ : w.heap.size ≤ gb884); have GE884 := A_ (ge_ hg bB_ : w.heap.size ≤ gb884); replace HB := A_ (below_step bB_ hb); clear hb hbox hg) | ((with_reducible refine gate_dst (N := 3) rfl ?_); refine bx_ (N := 3) (cs := #[.int .i64 a1_0, .slice A1_1 l1_1.length c1_1, .bool a1_2, .bool a1_3, .int .i64 a1_4]) (t := 28) ?_; intro gb885 hg w29 hbox hb; have BK885 := A_ (hbox); have GW885 := A_ (ge_ hg (bG_ GE884.out) : w.heap.size ≤ gb885); have GE885 := A_ (ge_ hg (bG_ GE884.out) : w.heap.size ≤ gb885); replace HB := A_ (below_step (bG_ GE884.out) hb); have NB884_885 := A_ (gm_ hg BK884.out); have NB885_884 := A_ (gn_ hg BK884.out); replace BK884 := A_ (bw_ BK884.out hb); clear hb hbox hg; have hnb30 := NB884_885.out; have hnc30 := NB885_884.out; obtain ⟨hcz31_0, hcz31_1, hcz31_2, hcz31_3, hcz31_4, hfz31_0, hfz31_1, hfz31_2, hfz31_3, hfz31_4⟩ := cz5_ BK884.out; obtain ⟨hcz32_0, hcz32_1, hcz32_2, hcz32_3, hcz32_4, hfz32_0, hfz32_1, hfz32_2, hfz32_3, hfz32_4⟩ := cz5_ BK885.out))
   go_ret
   exact ⟨rr_, by repeat (first | (with_reducible first | exact HB.out | apply below_alloc | apply pw_below_drewN | apply below_drew1 | refine below_set ?_ GE884.out | refine below_set ?_ GE885.out) | exact HB.out)⟩
 rw [if_pos c3] at H
 have c3b0 : (a0_0 == a1_0) = true := beq_iff_eq.mpr c3
 have c3b1 : (a0_0 != a1_0) = false := bne_eq_false_iff_eq.mpr c3
 clear c3
 obtain ⟨t886, A4, H⟩ := bo_ H
 (try dsimp only at H)
 by_cases c5 : t886 = true
 · subst c5
   rw [if_pos rfl] at H
   by_cases c6 : (a0_2 == a1_2) = true
   rotate_left
   · rw [if_neg c6] at H
     have c6b0 : (a0_2 == a1_2) = false := by simpa using c6
     (try (have c6b1 : decide (a0_2 = a1_2) = false := by simpa using c6))
     (try (have c6b2 : (a0_2 == a1_2) = false := by simpa using c6))
     (try (have c6b3 : ¬ (a0_2 = a1_2) := by simpa using c6))
     clear c6
     obtain rfl := Option.some.inj H
     go_enter Try.func82, Try.ntmps82
     go_wp2_with (first | ((with_reducible refine gate_dst (N := 2) rfl ?_); refine bx_ (N := 2) (cs := #[.int .i64 a0_0, .slice A0_1 l0_1.length c0_1, .bool a0_2, .bool a0_3, .int .i64 a0_4]) (t := 28) ?_; intro gb884 hg w18 hbox hb; have BK884 := A_ (hbox); have GW884 := A_ (ge_ hg bB_ : w.heap.size ≤ gb884); have GE884 := A_ (ge_ hg bB_ : w.heap.size ≤ gb884); replace HB := A_ (below_step bB_ hb); clear hb hbox hg) | ((with_reducible refine gate_dst (N := 3) rfl ?_); refine bx_ (N := 3) (cs := #[.int .i64 a1_0, .slice A1_1 l1_1.length c1_1, .bool a1_2, .bool a1_3, .int .i64 a1_4]) (t := 28) ?_; intro gb885 hg w19 hbox hb; have BK885 := A_ (hbox); have GW885 := A_ (ge_ hg (bG_ GE884.out) : w.heap.size ≤ gb885); have GE885 := A_ (ge_ hg (bG_ GE884.out) : w.heap.size ≤ gb885); replace HB := A_ (below_step (bG_ GE884.out) hb); have NB884_885 := A_ (gm_ hg BK884.out); have NB885_884 := A_ (gn_ hg BK884.out); replace BK884 := A_ (bw_ BK884.out hb); clear hb hbox hg; have hnb20 := NB884_885.out; have hnc20 := NB885_884.out; obtain ⟨hcz21_0, hcz21_1, hcz21_2, hcz21_3, hcz21_4, hfz21_0, hfz21_1, hfz21_2, hfz21_3, hfz21_4⟩ := cz5_ BK884.out; obtain ⟨hcz22_0, hcz22_1, hcz22_2, hcz22_3, hcz22_4, hfz22_0, hfz22_1, hfz22_2, hfz22_3, hfz22_4⟩ := cz5_ BK885.out) | (go_at_call 93; (with_reducible refine (laws_sameTexts.calls k _ _ l0_1 _ _ l1_1 true _ ?s1 ?s2 ?s3 ?s4 A4.out).mono ?_); (case s1 => exact cC_ (Kd.C_below HR0_1.out HB.out)); (case s2 => exact HC0_1.out); (case s3 => exact cC_ (Kd.C_below HR1_1.out HB.out)); (case s4 => exact HC1_1.out); rintro e w' ⟨rfl, ⟨nd, rfl⟩⟩))
     go_ret
     exact ⟨rr_, by repeat (first | (with_reducible first | exact HB.out | apply below_alloc | apply pw_below_drewN | apply below_drew1 | refine below_set ?_ GE884.out | refine below_set ?_ GE885.out) | exact HB.out)⟩
   rw [if_pos c6] at H
   have c6b0 : (a0_2 == a1_2) = true := c6
   (try (have c6b1 : decide (a0_2 = a1_2) = true := by simpa using c6))
   (try (have c6b2 : (a0_2 == a1_2) = true := by simpa using c6))
   clear c6
   by_cases c7 : (a0_3 == a1_3) = true
   · rw [if_pos c7] at H
     have c7b0 : (a0_3 == a1_3) = true := c7
     (try (have c7b1 : decide (a0_3 = a1_3) = true := by simpa using c7))
     (try (have c7b2 : (a0_3 == a1_3) = true := by simpa using c7))
     clear c7
     obtain rfl := Option.some.inj H
     go_enter Try.func82, Try.ntmps82
     go_wp2_with (first | ((with_reducible refine gate_dst (N := 2) rfl ?_); refine bx_ (N := 2) (cs := #[.int .i64 a0_0, .slice A0_1 l0_1.length c0_1, .bool a0_2, .bool a0_3, .int .i64 a0_4]) (t := 28) ?_; intro gb884 hg w8 hbox hb; have BK884 := A_ (hbox); have GW884 := A_ (ge_ hg bB_ : w.heap.size ≤ gb884); have GE884 := A_ (ge_ hg bB_ : w.heap.size ≤ gb884); replace HB := A_ (below_step bB_ hb); clear hb hbox hg) | ((with_reducible refine gate_dst (N := 3) rfl ?_); refine bx_ (N := 3) (cs := #[.int .i64 a1_0, .slice A1_1 l1_1.length c1_1, .bool a1_2, .bool a1_3, .int .i64 a1_4]) (t := 28) ?_; intro gb885 hg w9 hbox hb; have BK885 := A_ (hbox); have GW885 := A_ (ge_ hg (bG_ GE884.out) : w.heap.size ≤ gb885); have GE885 := A_ (ge_ hg (bG_ GE884.out) : w.heap.size ≤ gb885); replace HB := A_ (below_step (bG_ GE884.out) hb); have NB884_885 := A_ (gm_ hg BK884.out); have NB885_884 := A_ (gn_ hg BK884.out); replace BK884 := A_ (bw_ BK884.out hb); clear hb hbox hg; have hnb10 := NB884_885.out; have hnc10 := NB885_884.out; obtain ⟨hcz11_0, hcz11_1, hcz11_2, hcz11_3, hcz11_4, hfz11_0, hfz11_1, hfz11_2, hfz11_3, hfz11_4⟩ := cz5_ BK884.out; obtain ⟨hcz12_0, hcz12_1, hcz12_2, hcz12_3, hcz12_4, hfz12_0, hfz12_1, hfz12_2, hfz12_3, hfz12_4⟩ := cz5_ BK885.out) | (go_at_call 93; (with_reducible refine (laws_sameTexts.calls k _ _ l0_1 _ _ l1_1 true _ ?s1 ?s2 ?s3 ?s4 A4.out).mono ?_); (case s1 => exact cC_ (Kd.C_below HR0_1.out HB.out)); (case s2 => exact HC0_1.out); (case s3 => exact cC_ (Kd.C_below HR1_1.out HB.out)); (case s4 => exact HC1_1.out); rintro e w' ⟨rfl, ⟨nd, rfl⟩⟩))
     go_ret
     exact ⟨rr_, by repeat (first | (with_reducible first | exact HB.out | apply below_alloc | apply pw_below_drewN | apply below_drew1 | refine below_set ?_ GE884.out | refine below_set ?_ GE885.out) | exact HB.out)⟩
   rw [if_neg c7] at H
   have c7b0 : (a0_3 == a1_3) = false := by simpa using c7
   (try (have c7b1 : decide (a0_3 = a1_3) = false := by simpa using c7))
   (try (have c7b2 : (a0_3 == a1_3) = false := by simpa using c7))
   (try (have c7b3 : ¬ (a0_3 = a1_3) := by simpa using c7))
   clear c7
   obtain rfl := Option.some.inj H
   go_enter Try.func82, Try.ntmps82
   go_wp2_with (first | ((with_reducible refine gate_dst (N := 2) rfl ?_); refine bx_ (N := 2) (cs := #[.int .i64 a0_0, .slice A0_1 l0_1.length c0_1, .bool a0_2, .bool a0_3, .int .i64 a0_4]) (t := 28) ?_; intro gb884 hg w13 hbox hb; have BK884 := A_ (hbox); have GW884 := A_ (ge_ hg bB_ : w.heap.size ≤ gb884); have GE884 := A_ (ge_ hg bB_ : w.heap.size ≤ gb884); replace HB := A_ (below_step bB_ hb); clear hb hbox hg) | ((with_reducible refine gate_dst (N := 3) rfl ?_); refine bx_ (N := 3) (cs := #[.int .i64 a1_0, .slice A1_1 l1_1.length c1_1, .bool a1_2, .bool a1_3, .int .i64 a1_4]) (t := 28) ?_; intro gb885 hg w14 hbox hb; have BK885 := A_ (hbox); have GW885 := A_ (ge_ hg (bG_ GE884.out) : w.heap.size ≤ gb885); have GE885 := A_ (ge_ hg (bG_ GE884.out) : w.heap.size ≤ gb885); replace HB := A_ (below_step (bG_ GE884.out) hb); have NB884_885 := A_ (gm_ hg BK884.out); have NB885_884 := A_ (gn_ hg BK884.out); replace BK884 := A_ (bw_ BK884.out hb); clear hb hbox hg; have hnb15 := NB884_885.out; have hnc15 := NB885_884.out; obtain ⟨hcz16_0, hcz16_1, hcz16_2, hcz16_3, hcz16_4, hfz16_0, hfz16_1, hfz16_2, hfz16_3, hfz16_4⟩ := cz5_ BK884.out; obtain ⟨hcz17_0, hcz17_1, hcz17_2, hcz17_3, hcz17_4, hfz17_0, hfz17_1, hfz17_2, hfz17_3, hfz17_4⟩ := cz5_ BK885.out) | (go_at_call 93; (with_reducible refine (laws_sameTexts.calls k _ _ l0_1 _ _ l1_1 true _ ?s1 ?s2 ?s3 ?s4 A4.out).mono ?_); (case s1 => exact cC_ (Kd.C_below HR0_1.out HB.out)); (case s2 => exact HC0_1.out); (case s3 => exact cC_ (Kd.C_below HR1_1.out HB.out)); (case s4 => exact HC1_1.out); rintro e w' ⟨rfl, ⟨nd, rfl⟩⟩))
   go_ret
   exact ⟨rr_, by repeat (first | (with_reducible first | exact HB.out | apply below_alloc | apply pw_below_drewN | apply below_drew1 | refine below_set ?_ GE884.out | refine below_set ?_ GE885.out) | exact HB.out)⟩
 · replace c5 := Bool.eq_false_iff.mpr c5
   subst c5
   rw [if_neg nf_] at H
   obtain rfl := Option.some.inj H
   go_enter Try.func82, Try.ntmps82
   go_wp2_with (first | ((with_reducible refine gate_dst (N := 2) rfl ?_); refine bx_ (N := 2) (cs := #[.int .i64 a0_0, .slice A0_1 l0_1.length c0_1, .bool a0_2, .bool a0_3, .int .i64 a0_4]) (t := 28) ?_; intro gb884 hg w23 hbox hb; have BK884 := A_ (hbox); have GW884 := A_ (ge_ hg bB_ : w.heap.size ≤ gb884); have GE884 := A_ (ge_ hg bB_ : w.heap.size ≤ gb884); replace HB := A_ (below_step bB_ hb); clear hb hbox hg) | ((with_reducible refine gate_dst (N := 3) rfl ?_); refine bx_ (N := 3) (cs := #[.int .i64 a1_0, .slice A1_1 l1_1.length c1_1, .bool a1_2, .bool a1_3, .int .i64 a1_4]) (t := 28) ?_; intro gb885 hg w24 hbox hb; have BK885 := A_ (hbox); have GW885 := A_ (ge_ hg (bG_ GE884.out) : w.heap.size ≤ gb885); have GE885 := A_ (ge_ hg (bG_ GE884.out) : w.heap.size ≤ gb885); replace HB := A_ (below_step (bG_ GE884.out) hb); have NB884_885 := A_ (gm_ hg BK884.out); have NB885_884 := A_ (gn_ hg BK884.out); replace BK884 := A_ (bw_ BK884.out hb); clear hb hbox hg; have hnb25 := NB884_885.out; have hnc25 := NB885_884.out; obtain ⟨hcz26_0, hcz26_1, hcz26_2, hcz26_3, hcz26_4, hfz26_0, hfz26_1, hfz26_2, hfz26_3, hfz26_4⟩ := cz5_ BK884.out; obtain ⟨hcz27_0, hcz27_1, hcz27_2, hcz27_3, hcz27_4, hfz27_0, hfz27_1, hfz27_2, hfz27_3, hfz27_4⟩ := cz5_ BK885.out) | (go_at_call 93; (with_reducible refine (laws_sameTexts.calls k _ _ l0_1 _ _ l1_1 false _ ?s1 ?s2 ?s3 ?s4 A4.out).mono ?_); (case s1 => exact cC_ (Kd.C_below HR0_1.out HB.out)); (case s2 => exact HC0_1.out); (case s3 => exact cC_ (Kd.C_below HR1_1.out HB.out)); (case s4 => exact HC1_1.out); rintro e w' ⟨rfl, ⟨nd, rfl⟩⟩))
   go_ret
   exact ⟨rr_, by repeat (first | (with_reducible first | exact HB.out | apply below_alloc | apply pw_below_drewN | apply below_drew1 | refine below_set ?_ GE884.out | refine below_set ?_ GE885.out) | exact HB.out)⟩
def laws_sameLocks.l0 : Nat → List (S28) → List (S28) → Int → Option (Bool)
 | 0, _, _, _ => none
 | k + 1, x0, x1, x5 => if x5 < (x0.length : Int) then (if 0 ≤ x5 then (if x5 < (x1.length : Int) then ((laws_sameLock.f k ((rd_T28 x0 x5).f0) ((rd_T28 x0 x5).f1) ((rd_T28 x0 x5).f2) ((rd_T28 x0 x5).f3) ((rd_T28 x0 x5).f4) ((rd_T28 x1 x5).f0) ((rd_T28 x1 x5).f1) ((rd_T28 x1 x5).f2) ((rd_T28 x1 x5).f3) ((rd_T28 x1 x5).f4)).bind fun t889 => (if t889 = true then (laws_sameLocks.l0 k x0 x1 (wrap64 (x5 + 1))) else (some false))) else (none)) else (none)) else (some true)
def laws_sameLocks.f (k : Nat) (l0 : List (S28)) (l1 : List (S28)) : Option (Bool) := if (l0.length : Int) = (l1.length : Int) then (laws_sameLocks.l0 k l0 l1 0) else (some false)
def laws_sameLocks.T6 : Bool × List (List Nat × List Nat) := (true, [([], []), ([], []), ([0, 1], [0, 1]), ([2], [2]), ([], []), ([], []), ([4, 5], [4, 5]), ([6], [6]), ([3, 7], [3, 7]), ([8], [8])])
def laws_sameLocks.B6 : List Nat := [0, 0, 3, 7, 0, 0, 48, 112, 255, 511]
theorem laws_sameLocks.tab6 : rtab .any (opsOf Try.f54 6) = laws_sameLocks.T6 := by kernel_rfl
theorem laws_sameLocks.bits6 : waitsOk laws_sameLocks.T6.2 laws_sameLocks.B6 = true := by kernel_rfl
set_option maxHeartbeats 8000000 in
set_option maxRecDepth 100000 in
theorem laws_sameLocks.calls (k : Nat) (A0 : Option Addr) (c0 : Nat) (l0 : List (S28)) (A1 : Option Addr) (c1 : Nat) (l1 : List (S28)) (r : Bool) (w : World) (hr0 : Kd.C k28 w A0 l0.length l0) (hc0 : l0.length ≤ c0) (hr1 : Kd.C k28 w A1 l1.length l1) (hc1 : l1.length ≤ c1) (h : laws_sameLocks.f k l0 l1 = some r) :
 Calls Try.prog 54 #[.slice A0 l0.length c0, .slice A1 l1.length c1] w fun e w' => e = .returned (.bool r) ∧ Below w.heap.size w w' := by
 have hu28 := Try.underlying28
 have HR0 := Aside0.mk hr0
 have HC0 := Aside0.mk hc0
 clear hr0 hc0
 have HR1 := Aside0.mk hr1
 have HC1 := Aside0.mk hc1
 clear hr1 hc1
 have HB := A_ (Below.refl w.heap.size w)
 have H : (if (l0.length : Int) = (l1.length : Int) then (laws_sameLocks.l0 k l0 l1 0) else (some false)) = some r := h
 clear h
 by_cases c3 : (l0.length : Int) = (l1.length : Int)
 rotate_left
 · rw [if_neg c3] at H
   have c3b0 : ((l0.length : Int) == (l1.length : Int)) = false := beq_eq_false_iff_ne.mpr c3
   have c3b1 : ((l0.length : Int) != (l1.length : Int)) = true := bne_iff_ne.mpr c3
   have c3b2 : (l0.length == l1.length) = false := by first | simpa using c3 | (simp at c3 ⊢; omega)
   obtain rfl := Option.some.inj H
   go_enter Try.func54, Try.ntmps54
   go_wp2
   go_ret
   exact ⟨rr_, bB_⟩
 rw [if_pos c3] at H
 have c3b0 : ((l0.length : Int) == (l1.length : Int)) = true := beq_iff_eq.mpr c3
 have c3b1 : ((l0.length : Int) != (l1.length : Int)) = false := bne_eq_false_iff_eq.mpr c3
 have c3b2 : (l0.length == l1.length) = true := by first | simpa using c3 | (simp at c3 ⊢; omega)
 clear c3
 have H' := Aside0.mk H
 clear H
 go_enter Try.func54, Try.ntmps54
 go_wp2
 go_loopg [5] k (fun kq v5 w' => ∃ (x5_1 : Int), v5 = .int .i64 x5_1 ∧ Aside0 (laws_sameLocks.l0 kq l0 l1 x5_1 = some r) ∧ Aside0 (kq ≤ k) ∧ Aside0 (Below w.heap.size w w'))
 case atStart => exact ⟨(0), rs_, H', ⟨Nat.le_refl _⟩, ⟨bB_⟩⟩
 case round =>
  clear H'
  try clear c1
  try clear p2
  try clear c3
  try clear c3b0
  try clear c3b1
  try clear c3b2
  obtain ⟨x5_1, rfl, HA, HK1, HB⟩ := hrel
  cases gk with
  | zero => exact absurd HA.out (by simp [laws_sameLocks.l0])
  | succ k1 =>
   have H := HA.out
   clear HA
   simp only [laws_sameLocks.l0] at H
   by_cases c4 : x5_1 < (l0.length : Int)
   rotate_left
   · rw [if_neg c4] at H
     have c4b0 : decide (x5_1 < (l0.length : Int)) = false := decide_eq_false c4
     clear c4
     obtain rfl := Option.some.inj H
     go_wp2
     go_ret
     exact ⟨rr_, bB_⟩
   rw [if_pos c4] at H
   have c4b0 : decide (x5_1 < (l0.length : Int)) = true := decide_eq_true c4
   clear c4
   by_cases c5 : 0 ≤ x5_1
   rotate_left
   · exact absurd H (by rw [if_neg c5]; simp)
   rw [if_pos c5] at H
   have c5b0 : decide (0 ≤ x5_1) = true := decide_eq_true c5
   clear c5
   by_cases c6 : x5_1 < (l1.length : Int)
   rotate_left
   · exact absurd H (by rw [if_neg c6]; simp)
   rw [if_pos c6] at H
   have c6b0 : decide (x5_1 < (l1.length : Int)) = true := decide_eq_true c6
   clear c6
   obtain ⟨t889, A7, H⟩ := bo_ H
   (try dsimp only at H)
   by_cases c8 : t889 = true
   · subst c8
     rw [if_pos rfl] at H
     have H' := Aside0.mk H
     clear H
     try go_wp2
     replace HB := A_ (below_drew1 HB.out)
     have p887 : 0 ≤ (x5_1 : Int) := of_decide_eq_true as_
     have q887 : x5_1 < (l0.length : Int) := of_decide_eq_true as_
     obtain ⟨ad887, A887_1, c887_1, e887, hx887_0, hx887_1, hx887_2, hx887_3, hx887_4, hl887_1, hi887_1⟩ := at_T28 HR0.out x5_1 p887 q887
     have hw887_4 := hx887_4
     have hw887_3 := hx887_3
     have hw887_2 := hx887_2
     have hw887_1 := hx887_1
     have hw887_0 := hx887_0
     cases e887
     replace hx887_0 := bc_ HB.out hx887_0
     replace hx887_1 := bc_ HB.out hx887_1
     replace hx887_2 := bc_ HB.out hx887_2
     replace hx887_3 := bc_ HB.out hx887_3
     replace hx887_4 := bc_ HB.out hx887_4
     have HR887_1 := Aside0.mk hi887_1
     have HC887_1 := Aside0.mk hl887_1
     clear hi887_1 hl887_1
     replace p887 := eq_true p887
     replace q887 := eq_true q887
     have p888 : 0 ≤ (x5_1 : Int) := of_decide_eq_true as_
     have q888 : x5_1 < (l1.length : Int) := of_decide_eq_true as_
     obtain ⟨ad888, A888_1, c888_1, e888, hx888_0, hx888_1, hx888_2, hx888_3, hx888_4, hl888_1, hi888_1⟩ := at_T28 HR1.out x5_1 p888 q888
     have hw888_4 := hx888_4
     have hw888_3 := hx888_3
     have hw888_2 := hx888_2
     have hw888_1 := hx888_1
     have hw888_0 := hx888_0
     cases e888
     replace hx888_0 := bc_ HB.out hx888_0
     replace hx888_1 := bc_ HB.out hx888_1
     replace hx888_2 := bc_ HB.out hx888_2
     replace hx888_3 := bc_ HB.out hx888_3
     replace hx888_4 := bc_ HB.out hx888_4
     have HR888_1 := Aside0.mk hi888_1
     have HC888_1 := Aside0.mk hl888_1
     clear hi888_1 hl888_1
     replace p888 := eq_true p888
     replace q888 := eq_true q888
     refine start_ (n := 10) (S := fun w' => w'.cell? (ad887.add ((x5_1).toNat * 5)) = some (.int .i64 ((rd_T28 l0 x5_1).f0)) ∧ w'.cell? ⟨(ad887.add ((x5_1).toNat * 5)).block, (ad887.add ((x5_1).toNat * 5)).off + 1, none⟩ = some (.slice A887_1 ((rd_T28 l0 x5_1).f1).length c887_1) ∧ w'.cell? ⟨(ad887.add ((x5_1).toNat * 5)).block, (ad887.add ((x5_1).toNat * 5)).off + 2, none⟩ = some (.bool ((rd_T28 l0 x5_1).f2)) ∧ w'.cell? ⟨(ad887.add ((x5_1).toNat * 5)).block, (ad887.add ((x5_1).toNat * 5)).off + 3, none⟩ = some (.bool ((rd_T28 l0 x5_1).f3)) ∧ w'.cell? ⟨(ad887.add ((x5_1).toNat * 5)).block, (ad887.add ((x5_1).toNat * 5)).off + 4, none⟩ = some (.int .i64 ((rd_T28 l0 x5_1).f4)) ∧ w'.cell? (ad888.add ((x5_1).toNat * 5)) = some (.int .i64 ((rd_T28 l1 x5_1).f0)) ∧ w'.cell? ⟨(ad888.add ((x5_1).toNat * 5)).block, (ad888.add ((x5_1).toNat * 5)).off + 1, none⟩ = some (.slice A888_1 ((rd_T28 l1 x5_1).f1).length c888_1) ∧ w'.cell? ⟨(ad888.add ((x5_1).toNat * 5)).block, (ad888.add ((x5_1).toNat * 5)).off + 2, none⟩ = some (.bool ((rd_T28 l1 x5_1).f2)) ∧ w'.cell? ⟨(ad888.add ((x5_1).toNat * 5)).block, (ad888.add ((x5_1).toNat * 5)).off + 3, none⟩ = some (.bool ((rd_T28 l1 x5_1).f3)) ∧ w'.cell? ⟨(ad888.add ((x5_1).toNat * 5)).block, (ad888.add ((x5_1).toNat * 5)).off + 4, none⟩ = some (.int .i64 ((rd_T28 l1 x5_1).f4))) (ds := []) #[false, false, false, false, false, false, false, false, false, false] (by kernel_rfl) rfl rfl ⟨((HB.out.cell (World.block_lt_of_cell? w _ hw887_0)).trans hw887_0), ((HB.out.cell (World.block_lt_of_cell? w _ hw887_1)).trans hw887_1), ((HB.out.cell (World.block_lt_of_cell? w _ hw887_2)).trans hw887_2), ((HB.out.cell (World.block_lt_of_cell? w _ hw887_3)).trans hw887_3), ((HB.out.cell (World.block_lt_of_cell? w _ hw887_4)).trans hw887_4), ((HB.out.cell (World.block_lt_of_cell? w _ hw888_0)).trans hw888_0), ((HB.out.cell (World.block_lt_of_cell? w _ hw888_1)).trans hw888_1), ((HB.out.cell (World.block_lt_of_cell? w _ hw888_2)).trans hw888_2), ((HB.out.cell (World.block_lt_of_cell? w _ hw888_3)).trans hw888_3), ((HB.out.cell (World.block_lt_of_cell? w _ hw888_4)).trans hw888_4)⟩ (fun hHeld => ?_); refine with_tabW laws_sameLocks.tab6 laws_sameLocks.bits6 (fun HT_ HW_ => ?_)
     generalize wr.drew = w9 at HB HR887_1 HR888_1 hx887_0 hx887_1 hx887_2 hx887_3 hx887_4 hx888_0 hx888_1 hx888_2 hx888_3 hx888_4 hHeld ⊢
     refine pu_ (i := 0) (N := some 17) ?_
     refine pu_ (i := 1) (N := some 18) ?_
     refine pu_ (i := 2) (N := some 19) ?_
     refine pu_ (i := 4) (N := some 21) ?_
     refine pu_ (i := 5) (N := some 22) ?_
     refine pu_ (i := 6) (N := some 23) ?_
     refine tk_ (i := 3) (N := some 20) hHeld ?_
     refine tk_ (i := 7) (N := some 24) hHeld ?_
     refine on_ (i := 8) (N := some 25) (fun K hK => ?_)
     refine goes_ Try.func82 (by kernel_rfl) rfl #[.agg #[.int .i64 ((rd_T28 l0 x5_1).f0), .slice A887_1 ((rd_T28 l0 x5_1).f1).length c887_1, .bool ((rd_T28 l0 x5_1).f2), .bool ((rd_T28 l0 x5_1).f3), .int .i64 ((rd_T28 l0 x5_1).f4)], .agg #[.int .i64 ((rd_T28 l1 x5_1).f0), .slice A888_1 ((rd_T28 l1 x5_1).f1).length c888_1, .bool ((rd_T28 l1 x5_1).f2), .bool ((rd_T28 l1 x5_1).f3), .int .i64 ((rd_T28 l1 x5_1).f4)]] (by rfl) rfl rfl ml_ ?_
     with_reducible refine (laws_sameLock.calls k1 ((rd_T28 l0 x5_1).f0) _ _ ((rd_T28 l0 x5_1).f1) ((rd_T28 l0 x5_1).f2) ((rd_T28 l0 x5_1).f3) ((rd_T28 l0 x5_1).f4) ((rd_T28 l1 x5_1).f0) _ _ ((rd_T28 l1 x5_1).f1) ((rd_T28 l1 x5_1).f2) ((rd_T28 l1 x5_1).f3) ((rd_T28 l1 x5_1).f4) true _ ?s1 ?s2 ?s3 ?s4 A7.out).mono ?_
     (case s1 => exact cC_ (Kd.C_below HR887_1.out HB.out))
     (case s2 => exact HC887_1.out)
     (case s3 => exact cC_ (Kd.C_below HR888_1.out HB.out))
     (case s4 => exact HC888_1.out)
     rintro e w10 ⟨rfl, hb⟩
     refine ⟨_, rfl, ?_⟩
     replace HB := A_ (below_step bB_ hb)
     (try clear hb)
     (try clear hb2)
     (try clear hk)
     (try clear hi)
     refine hK.out _ _ ⟨((HB.out.cell (World.block_lt_of_cell? w _ hw887_0)).trans hw887_0), ((HB.out.cell (World.block_lt_of_cell? w _ hw887_1)).trans hw887_1), ((HB.out.cell (World.block_lt_of_cell? w _ hw887_2)).trans hw887_2), ((HB.out.cell (World.block_lt_of_cell? w _ hw887_3)).trans hw887_3), ((HB.out.cell (World.block_lt_of_cell? w _ hw887_4)).trans hw887_4), ((HB.out.cell (World.block_lt_of_cell? w _ hw888_0)).trans hw888_0), ((HB.out.cell (World.block_lt_of_cell? w _ hw888_1)).trans hw888_1), ((HB.out.cell (World.block_lt_of_cell? w _ hw888_2)).trans hw888_2), ((HB.out.cell (World.block_lt_of_cell? w _ hw888_3)).trans hw888_3), ((HB.out.cell (World.block_lt_of_cell? w _ hw888_4)).trans hw888_4)⟩ (fun hHeld => ?_)
     clear hK K
     refine no_ (some 25) ?_
     refine pu_ (i := 9) (N := some 26) ?_
     refine done_ (done_of HT_.out (by kernel_rfl)) ?_
     (try clear hHeld)
     try go_wp2
     go_roundg k1
     case measure => have := HK1.out; omega
     case rel => exact ⟨(wrap64 (x5_1 + 1)), rs_, H', ⟨by have := HK1.out; omega⟩, ⟨bB_⟩⟩
   · replace c8 := Bool.eq_false_iff.mpr c8
     subst c8
     rw [if_neg nf_] at H
     obtain rfl := Option.some.inj H
     try go_wp2
     replace HB := A_ (below_drew1 HB.out)
     have p887 : 0 ≤ (x5_1 : Int) := of_decide_eq_true as_
     have q887 : x5_1 < (l0.length : Int) := of_decide_eq_true as_
     obtain ⟨ad887, A887_1, c887_1, e887, hx887_0, hx887_1, hx887_2, hx887_3, hx887_4, hl887_1, hi887_1⟩ := at_T28 HR0.out x5_1 p887 q887
     have hw887_4 := hx887_4
     have hw887_3 := hx887_3
     have hw887_2 := hx887_2
     have hw887_1 := hx887_1
     have hw887_0 := hx887_0
     cases e887
     replace hx887_0 := bc_ HB.out hx887_0
     replace hx887_1 := bc_ HB.out hx887_1
     replace hx887_2 := bc_ HB.out hx887_2
     replace hx887_3 := bc_ HB.out hx887_3
     replace hx887_4 := bc_ HB.out hx887_4
     have HR887_1 := Aside0.mk hi887_1
     have HC887_1 := Aside0.mk hl887_1
     clear hi887_1 hl887_1
     replace p887 := eq_true p887
     replace q887 := eq_true q887
     have p888 : 0 ≤ (x5_1 : Int) := of_decide_eq_true as_
     have q888 : x5_1 < (l1.length : Int) := of_decide_eq_true as_
     obtain ⟨ad888, A888_1, c888_1, e888, hx888_0, hx888_1, hx888_2, hx888_3, hx888_4, hl888_1, hi888_1⟩ := at_T28 HR1.out x5_1 p888 q888
     have hw888_4 := hx888_4
     have hw888_3 := hx888_3
     have hw888_2 := hx888_2
     have hw888_1 := hx888_1
     have hw888_0 := hx888_0
     cases e888
     replace hx888_0 := bc_ HB.out hx888_0
     replace hx888_1 := bc_ HB.out hx888_1
     replace hx888_2 := bc_ HB.out hx888_2
     replace hx888_3 := bc_ HB.out hx888_3
     replace hx888_4 := bc_ HB.out hx888_4
     have HR888_1 := Aside0.mk hi888_1
     have HC888_1 := Aside0.mk hl888_1
     clear hi888_1 hl888_1
     replace p888 := eq_true p888
     replace q888 := eq_true q888
     refine start_ (n := 10) (S := fun w' => w'.cell? (ad887.add ((x5_1).toNat * 5)) = some (.int .i64 ((rd_T28 l0 x5_1).f0)) ∧ w'.cell? ⟨(ad887.add ((x5_1).toNat * 5)).block, (ad887.add ((x5_1).toNat * 5)).off + 1, none⟩ = some (.slice A887_1 ((rd_T28 l0 x5_1).f1).length c887_1) ∧ w'.cell? ⟨(ad887.add ((x5_1).toNat * 5)).block, (ad887.add ((x5_1).toNat * 5)).off + 2, none⟩ = some (.bool ((rd_T28 l0 x5_1).f2)) ∧ w'.cell? ⟨(ad887.add ((x5_1).toNat * 5)).block, (ad887.add ((x5_1).toNat * 5)).off + 3, none⟩ = some (.bool ((rd_T28 l0 x5_1).f3)) ∧ w'.cell? ⟨(ad887.add ((x5_1).toNat * 5)).block, (ad887.add ((x5_1).toNat * 5)).off + 4, none⟩ = some (.int .i64 ((rd_T28 l0 x5_1).f4)) ∧ w'.cell? (ad888.add ((x5_1).toNat * 5)) = some (.int .i64 ((rd_T28 l1 x5_1).f0)) ∧ w'.cell? ⟨(ad888.add ((x5_1).toNat * 5)).block, (ad888.add ((x5_1).toNat * 5)).off + 1, none⟩ = some (.slice A888_1 ((rd_T28 l1 x5_1).f1).length c888_1) ∧ w'.cell? ⟨(ad888.add ((x5_1).toNat * 5)).block, (ad888.add ((x5_1).toNat * 5)).off + 2, none⟩ = some (.bool ((rd_T28 l1 x5_1).f2)) ∧ w'.cell? ⟨(ad888.add ((x5_1).toNat * 5)).block, (ad888.add ((x5_1).toNat * 5)).off + 3, none⟩ = some (.bool ((rd_T28 l1 x5_1).f3)) ∧ w'.cell? ⟨(ad888.add ((x5_1).toNat * 5)).block, (ad888.add ((x5_1).toNat * 5)).off + 4, none⟩ = some (.int .i64 ((rd_T28 l1 x5_1).f4))) (ds := []) #[false, false, false, false, false, false, false, false, false, false] (by kernel_rfl) rfl rfl ⟨((HB.out.cell (World.block_lt_of_cell? w _ hw887_0)).trans hw887_0), ((HB.out.cell (World.block_lt_of_cell? w _ hw887_1)).trans hw887_1), ((HB.out.cell (World.block_lt_of_cell? w _ hw887_2)).trans hw887_2), ((HB.out.cell (World.block_lt_of_cell? w _ hw887_3)).trans hw887_3), ((HB.out.cell (World.block_lt_of_cell? w _ hw887_4)).trans hw887_4), ((HB.out.cell (World.block_lt_of_cell? w _ hw888_0)).trans hw888_0), ((HB.out.cell (World.block_lt_of_cell? w _ hw888_1)).trans hw888_1), ((HB.out.cell (World.block_lt_of_cell? w _ hw888_2)).trans hw888_2), ((HB.out.cell (World.block_lt_of_cell? w _ hw888_3)).trans hw888_3), ((HB.out.cell (World.block_lt_of_cell? w _ hw888_4)).trans hw888_4)⟩ (fun hHeld => ?_); refine with_tabW laws_sameLocks.tab6 laws_sameLocks.bits6 (fun HT_ HW_ => ?_)
     generalize wr.drew = w11 at HB HR887_1 HR888_1 hx887_0 hx887_1 hx887_2 hx887_3 hx887_4 hx888_0 hx888_1 hx888_2 hx888_3 hx888_4 hHeld ⊢
     refine pu_ (i := 0) (N := some 17) ?_
     refine pu_ (i := 1) (N := some 18) ?_
     refine pu_ (i := 2) (N := some 19) ?_
     refine pu_ (i := 4) (N := some 21) ?_
     refine pu_ (i := 5) (N := some 22) ?_
     refine pu_ (i := 6) (N := some 23) ?_
     refine tk_ (i := 3) (N := some 20) hHeld ?_
     refine tk_ (i := 7) (N := some 24) hHeld ?_
     refine on_ (i := 8) (N := some 25) (fun K hK => ?_)
     refine goes_ Try.func82 (by kernel_rfl) rfl #[.agg #[.int .i64 ((rd_T28 l0 x5_1).f0), .slice A887_1 ((rd_T28 l0 x5_1).f1).length c887_1, .bool ((rd_T28 l0 x5_1).f2), .bool ((rd_T28 l0 x5_1).f3), .int .i64 ((rd_T28 l0 x5_1).f4)], .agg #[.int .i64 ((rd_T28 l1 x5_1).f0), .slice A888_1 ((rd_T28 l1 x5_1).f1).length c888_1, .bool ((rd_T28 l1 x5_1).f2), .bool ((rd_T28 l1 x5_1).f3), .int .i64 ((rd_T28 l1 x5_1).f4)]] (by rfl) rfl rfl ml_ ?_
     with_reducible refine (laws_sameLock.calls k1 ((rd_T28 l0 x5_1).f0) _ _ ((rd_T28 l0 x5_1).f1) ((rd_T28 l0 x5_1).f2) ((rd_T28 l0 x5_1).f3) ((rd_T28 l0 x5_1).f4) ((rd_T28 l1 x5_1).f0) _ _ ((rd_T28 l1 x5_1).f1) ((rd_T28 l1 x5_1).f2) ((rd_T28 l1 x5_1).f3) ((rd_T28 l1 x5_1).f4) false _ ?s1 ?s2 ?s3 ?s4 A7.out).mono ?_
     (case s1 => exact cC_ (Kd.C_below HR887_1.out HB.out))
     (case s2 => exact HC887_1.out)
     (case s3 => exact cC_ (Kd.C_below HR888_1.out HB.out))
     (case s4 => exact HC888_1.out)
     rintro e w12 ⟨rfl, hb⟩
     refine ⟨_, rfl, ?_⟩
     replace HB := A_ (below_step bB_ hb)
     (try clear hb)
     (try clear hb2)
     (try clear hk)
     (try clear hi)
     refine hK.out _ _ ⟨((HB.out.cell (World.block_lt_of_cell? w _ hw887_0)).trans hw887_0), ((HB.out.cell (World.block_lt_of_cell? w _ hw887_1)).trans hw887_1), ((HB.out.cell (World.block_lt_of_cell? w _ hw887_2)).trans hw887_2), ((HB.out.cell (World.block_lt_of_cell? w _ hw887_3)).trans hw887_3), ((HB.out.cell (World.block_lt_of_cell? w _ hw887_4)).trans hw887_4), ((HB.out.cell (World.block_lt_of_cell? w _ hw888_0)).trans hw888_0), ((HB.out.cell (World.block_lt_of_cell? w _ hw888_1)).trans hw888_1), ((HB.out.cell (World.block_lt_of_cell? w _ hw888_2)).trans hw888_2), ((HB.out.cell (World.block_lt_of_cell? w _ hw888_3)).trans hw888_3), ((HB.out.cell (World.block_lt_of_cell? w _ hw888_4)).trans hw888_4)⟩ (fun hHeld => ?_)
     clear hK K
     refine no_ (some 25) ?_
     refine pu_ (i := 9) (N := some 26) ?_
     refine done_ (done_of HT_.out (by kernel_rfl)) ?_
     (try clear hHeld)
     try go_wp2
     go_ret
     exact ⟨rr_, bB_⟩
end Go.Proofs.Ytiddgglidkbipaa.Q
