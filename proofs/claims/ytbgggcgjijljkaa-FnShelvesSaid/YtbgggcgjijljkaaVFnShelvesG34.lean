/- A printed walk's contract told more sharply: the result's elements' rows lie apart. No condition. -/
import Derived.Test.YtbgggcgjijljkaaVFnShelvesG22
import Derived.Test.YtbgggcgjijljkaaVFnShelvesG24
import Derived.Test.YtbgggcgjijljkaaVFnShelvesG27
import Derived.Test.YtbgggcgjijljkaaVFnShelvesG28
import Derived.Test.YtbgggcgjijljkaaVFnShelvesG33
import Derived.Test.YtbgggcgjijljkaaVFnShelvesWFoot
import Derived.Test.YtbgggcgjijljkaaVFnShelvesWShare
import Derived.Test.YtbgggcgjijljkaaVFnShelvesG31
import Derived.Test.YtbgggcgjijljkaaVFnShelvesG32
namespace Go.Proofs.Ytbgggcgjijljkaa.Q
open Go.RowKit Go.Proofs.YtbgggcgjijljkaaW.PrintWords Go.Proofs.YtbgggcgjijljkaaW.PrintLast Go.Proofs.YtbgggcgjijljkaaW.PrintMore
attribute [local go_sem] max2_int min2_int max_two min_two max_three min_three max_four min_four
set_option linter.unusedVariables false
set_option linter.unusedSimpArgs false
abbrev impl_PutFileX.f (k : Nat) (l0 : List (S57)) (l1 : List ByteArray) (a2 : ByteArray) (a3 : Int) : Option ((List (S57)) × Int) := impl_PutFile.f k l0 l1 a2 a3
set_option maxHeartbeats 8000000 in
set_option maxRecDepth 100000 in
theorem impl_PutFileV.calls (k : Nat) (A0 : Option Addr) (c0 : Nat) (l0 : List (S57)) (P1_ : Nat → Prop) (A1 : Option Addr) (c1 : Nat) (l1 : List ByteArray) (a2 : ByteArray) (a3 : Int) (r1 : List (S57)) (r2 : Int) (w : World) (hr0 : Kd.C k57 w A0 l0.length l0) (hc0 : l0.length ≤ c0) (hs1 : Kd.V Kd.string 9 w w.heap.size (fun k_ => P1_ k_) (.slice A1 l1.length c1) l1) (h : impl_PutFile.f k l0 l1 a2 a3 = some (r1, r2)) :
 Calls Try.prog 27 #[.slice A0 l0.length c0, .slice A1 l1.length c1, .string a2, .int .i64 a3] w fun e w' => ∃ v0_ : Value, e = .returned (.tuple #[v0_, .int .i64 r2]) ∧ Kd.S k57 57 w' w.heap.size (fun _ => True) v0_ r1 ∧ Below w.heap.size w w' := by
 have hu57 := Try.underlying57
 have HR0 := Aside0.mk hr0
 have HC0 := Aside0.mk hc0
 clear hr0 hc0
 have HO1 := A_ (show Kd.V Kd.string 9 w w.heap.size (fun k_ => (P1_ k_ ∨ w.heap.size ≤ k_)) (.slice A1 l1.length c1) l1 from Kd.V_mono hs1 (fun k_ hk => .inl hk))
 have HB := A_ (Below.refl w.heap.size w)
 have H : ((impl_copyTree.f k l0).bind fun t634 => ((impl_opForm.f k l0 a3 (([l1] : List (List ByteArray)))).bind fun t640 => (if t640 = 0 then ((impl_FindRes.f k l0 l1).bind fun t641 => ((impl_IsColl.f k l0 l1).bind fun t642 => (if t642 = true then (some (t634, 405)) else ((impl_Above.f l1).bind fun t643 => ((impl_IsColl.f k l0 t643).bind fun t646 => (if t646 = true then (if (a2.size : Int) > 200 then (some (t634, 413)) else (if t641 ≥ 0 then (if 0 ≤ t641 then (if t641 < (t634.length : Int) then ((some (t634.set (t641 : Int).toNat (⟨(rd_T57 t634 t641).f0, (rd_T57 t634 t641).f1, a2, (rd_T57 t634 t641).f3, (rd_T57 t634 t641).f4⟩ : S57) : List (S57))).bind fun y647 => (some ((y647.set (t641 : Int).toNat (⟨(rd_T57 y647 t641).f0, (rd_T57 y647 t641).f1, (rd_T57 y647 t641).f2, a3, (rd_T57 y647 t641).f4⟩ : S57)), 204))) else (none)) else (none)) else (if (l0.length : Int) ≥ 12 then (some (t634, 507)) else ((impl_copyPath.f l1).bind fun t649 => ((impl_withRes.f k t634 t649 false a2 a3 ([] : List (S72))).bind fun t652 => (some (t652, 201))))))) else (some (t634, 409)))))))) else (some (t634, t640))))) = some (r1, r2) := h
 clear h
 obtain ⟨t634, A5, H⟩ := bo_ H
 (try dsimp only at H)
 obtain ⟨y637, hy637⟩ : ∃ y_ : List (List ByteArray), y_ = (([l1] : List (List ByteArray))) := ⟨_, rfl⟩
 replace H : ((impl_opForm.f k l0 a3 y637).bind fun t640 => (if t640 = 0 then ((impl_FindRes.f k l0 l1).bind fun t641 => ((impl_IsColl.f k l0 l1).bind fun t642 => (if t642 = true then (some (t634, 405)) else ((impl_Above.f l1).bind fun t643 => ((impl_IsColl.f k l0 t643).bind fun t646 => (if t646 = true then (if (a2.size : Int) > 200 then (some (t634, 413)) else (if t641 ≥ 0 then (if 0 ≤ t641 then (if t641 < (t634.length : Int) then ((some (t634.set (t641 : Int).toNat (⟨(rd_T57 t634 t641).f0, (rd_T57 t634 t641).f1, a2, (rd_T57 t634 t641).f3, (rd_T57 t634 t641).f4⟩ : S57) : List (S57))).bind fun y647 => (some ((y647.set (t641 : Int).toNat (⟨(rd_T57 y647 t641).f0, (rd_T57 y647 t641).f1, (rd_T57 y647 t641).f2, a3, (rd_T57 y647 t641).f4⟩ : S57)), 204))) else (none)) else (none)) else (if (l0.length : Int) ≥ 12 then (some (t634, 507)) else ((impl_copyPath.f l1).bind fun t649 => ((impl_withRes.f k t634 t649 false a2 a3 ([] : List (S72))).bind fun t652 => (some (t652, 201))))))) else (some (t634, 409)))))))) else (some (t634, t640)))) = some (r1, r2) := hy_ hy637 H
 have Ny637 := Aside0.mk hy637
 clear hy637
 obtain ⟨t640, A6, H⟩ := bo_ H
 (try dsimp only at H)
 by_cases c7 : t640 = 0
 rotate_left
 · rw [if_neg c7] at H
   have c7b0 : (t640 == 0) = false := beq_eq_false_iff_ne.mpr c7
   have c7b1 : (t640 != 0) = true := bne_iff_ne.mpr c7
   simp only [Option.some.injEq, Prod.mk.injEq] at H
   obtain ⟨rfl, rfl⟩ := H
   go_enter Try.func27, Try.ntmps27
   go_wp2_with (first | ((with_reducible refine gate_callee (f := 66) rfl ?_); refine gL_ (some 14) Try.func66 #[.slice A0 l0.length c0] ?_; (with_reducible refine (impl_copyTree.calls k _ _ l0 t634 _ ?s1 ?s2 A5.out).mono ?_); (case s1 => exact cC_ HR0.out); (case s2 => exact HC0.out); rintro e w88 ⟨v635, rfl, ho0, hb⟩; refine ⟨_, rfl, ?_⟩; replace HO1 := A_ (Kd.V_elder' (vV_ HO1.out) (kb_ ho0) hb); have HO636 := A_ (Kd.S_lower (Kd.S_newM (M := fun k_ => (w.heap.size ≤ k_)) ho0 (below_size bB_) (fun k_ h_ => h_)) (below_size bB_)); replace HB := A_ (below_step bB_ hb); (try clear hb); (try clear hk); (try clear ho0)) | ((with_reducible refine gate_dst (N := 18) rfl ?_); refine Kd.N_lit (Kd.slice 9 Kd.string) _ 23 ?hg (N' := 18) ?hd (xs := ([l1] : List (List ByteArray))) (inner := [.slice A1 l1.length c1]) (ok := (fun k_ => (P1_ k_ ∨ w.heap.size ≤ k_) ∧ some k_ ≠ (v635 : Value).ownBlock)) (okp := (fun k_ => (P1_ k_ ∨ w.heap.size ≤ k_) ∧ some k_ ≠ (v635 : Value).ownBlock)) ?hr ?hp (fun _ hk => hk) ((show ∀ k_, w88.heap.size ≤ k_ → (fun k_ => (P1_ k_ ∨ w.heap.size ≤ k_) ∧ some k_ ≠ (v635 : Value).ownBlock) k_ from fun k_ hk => ⟨(.inr (Nat.le_trans (below_size bB_) hk)), Kd.fresh' (Kd.S_lt (vS_ HO636.out)) k_ hk⟩) _ (Nat.le_refl _)) (Below.refl _ _) (Nat.le_refl _) (by simp) ?_; (case hd => rfl); (case hg => rfl); (case hr => first | (go_simp; done) | (go_simp; rfl)); (case hp => exact (Reps.one (show Kd.FK (Kd.slice 9 Kd.string) _ _ l1 [.slice A1 l1.length c1] from (Kd.FK_slice_mk (Kd.V_reads' (Kd.V_mono (ok' := (fun k_ => (P1_ k_ ∨ w.heap.size ≤ k_) ∧ some k_ ≠ (v635 : Value).ownBlock)) (HO1.out) (fun k_ hk => ⟨hk.1, hk.2⟩))).2.1 (Kd.V_F (Kd.V_mono (ok' := (fun k_ => (P1_ k_ ∨ w.heap.size ≤ k_) ∧ some k_ ≠ (v635 : Value).ownBlock)) (HO1.out) (fun k_ hk => ⟨hk.1, hk.2⟩))))) (Reps.none _ _))); intro v638 w89 ho90 hb hg_ hnew_; clear hg_ hnew_; (first | rw [← Ny637.out] at ho90 | (simp only [Int.reduceToNat] at ho90; rw [← Ny637.out] at ho90)); replace HO1 := A_ (Kd.V_elder' (vV_ HO1.out) (kb_ ho90) hb); replace HO636 := A_ (Kd.S_below (vS_ HO636.out) hb); have HO639 := A_ (Kd.N_lower ho90 (below_size bB_)); replace HB := A_ (below_step bB_ hb); clear hb ho90; obtain ⟨Ao91, co91, eo91⟩ := Kd.N_slice HO639.out; subst eo91) | ((with_reducible refine gate_callee (f := 65) rfl ?_); refine gL_ (some 19) Try.func65 #[.slice A0 l0.length c0, .int .i64 a3, .slice Ao91 y637.length co91] ?_; (with_reducible refine (impl_opForm.calls k _ _ l0 a3 _ _ y637 t640 _ ?s1 ?s2 ?s3 ?s4 A6.out).mono ?_); (case s1 => exact cC_ (Kd.C_below HR0.out HB.out)); (case s2 => exact HC0.out); (case s3 => exact cC_ (Kd.N_reads' HO639.out).2.2); (case s4 => exact (Kd.N_reads' HO639.out).2.1); rintro e w92 ⟨rfl, hb⟩; refine ⟨_, rfl, ?_⟩; replace HO1 := A_ (Kd.V_below (vV_ HO1.out) hb); replace HO636 := A_ (Kd.S_below (vS_ HO636.out) hb); replace HO639 := A_ (Kd.N_below (vN_ HO639.out) hb); replace HB := A_ (below_step bB_ hb); (try clear hb); (try clear hk)))
   go_ret2
   exact ⟨_, rr_, by (with_reducible repeat (first | apply Kd.S_alloc | apply Kd.S_drewN | apply Kd.S_drew)); exact Kd.S_mono HO636.out (fun _ _ => trivial), bB_⟩
 rw [if_pos c7] at H
 have c7b0 : (t640 == 0) = true := beq_iff_eq.mpr c7
 have c7b1 : (t640 != 0) = false := bne_eq_false_iff_eq.mpr c7
 clear c7
 obtain ⟨t641, A8, H⟩ := bo_ H
 (try dsimp only at H)
 obtain ⟨t642, A9, H⟩ := bo_ H
 (try dsimp only at H)
 by_cases c10 : t642 = true
 · subst c10
   rw [if_pos rfl] at H
   simp only [Option.some.injEq, Prod.mk.injEq] at H
   obtain ⟨rfl, rfl⟩ := H
   go_enter Try.func27, Try.ntmps27
   go_wp2_with (first | ((with_reducible refine gate_callee (f := 66) rfl ?_); refine gL_ (some 14) Try.func66 #[.slice A0 l0.length c0] ?_; (with_reducible refine (impl_copyTree.calls k _ _ l0 t634 _ ?s1 ?s2 A5.out).mono ?_); (case s1 => exact cC_ HR0.out); (case s2 => exact HC0.out); rintro e w11 ⟨v635, rfl, ho0, hb⟩; refine ⟨_, rfl, ?_⟩; replace HO1 := A_ (Kd.V_elder' (vV_ HO1.out) (kb_ ho0) hb); have HO636 := A_ (Kd.S_lower (Kd.S_newM (M := fun k_ => (w.heap.size ≤ k_)) ho0 (below_size bB_) (fun k_ h_ => h_)) (below_size bB_)); replace HB := A_ (below_step bB_ hb); (try clear hb); (try clear hk); (try clear ho0)) | ((with_reducible refine gate_dst (N := 18) rfl ?_); refine Kd.N_lit (Kd.slice 9 Kd.string) _ 23 ?hg (N' := 18) ?hd (xs := ([l1] : List (List ByteArray))) (inner := [.slice A1 l1.length c1]) (ok := (fun k_ => (P1_ k_ ∨ w.heap.size ≤ k_) ∧ some k_ ≠ (v635 : Value).ownBlock)) (okp := (fun k_ => (P1_ k_ ∨ w.heap.size ≤ k_) ∧ some k_ ≠ (v635 : Value).ownBlock)) ?hr ?hp (fun _ hk => hk) ((show ∀ k_, w11.heap.size ≤ k_ → (fun k_ => (P1_ k_ ∨ w.heap.size ≤ k_) ∧ some k_ ≠ (v635 : Value).ownBlock) k_ from fun k_ hk => ⟨(.inr (Nat.le_trans (below_size bB_) hk)), Kd.fresh' (Kd.S_lt (vS_ HO636.out)) k_ hk⟩) _ (Nat.le_refl _)) (Below.refl _ _) (Nat.le_refl _) (by simp) ?_; (case hd => rfl); (case hg => rfl); (case hr => first | (go_simp; done) | (go_simp; rfl)); (case hp => exact (Reps.one (show Kd.FK (Kd.slice 9 Kd.string) _ _ l1 [.slice A1 l1.length c1] from (Kd.FK_slice_mk (Kd.V_reads' (Kd.V_mono (ok' := (fun k_ => (P1_ k_ ∨ w.heap.size ≤ k_) ∧ some k_ ≠ (v635 : Value).ownBlock)) (HO1.out) (fun k_ hk => ⟨hk.1, hk.2⟩))).2.1 (Kd.V_F (Kd.V_mono (ok' := (fun k_ => (P1_ k_ ∨ w.heap.size ≤ k_) ∧ some k_ ≠ (v635 : Value).ownBlock)) (HO1.out) (fun k_ hk => ⟨hk.1, hk.2⟩))))) (Reps.none _ _))); intro v638 w12 ho13 hb hg_ hnew_; clear hg_ hnew_; (first | rw [← Ny637.out] at ho13 | (simp only [Int.reduceToNat] at ho13; rw [← Ny637.out] at ho13)); replace HO1 := A_ (Kd.V_elder' (vV_ HO1.out) (kb_ ho13) hb); replace HO636 := A_ (Kd.S_below (vS_ HO636.out) hb); have HO639 := A_ (Kd.N_lower ho13 (below_size bB_)); replace HB := A_ (below_step bB_ hb); clear hb ho13; obtain ⟨Ao14, co14, eo14⟩ := Kd.N_slice HO639.out; subst eo14) | ((with_reducible refine gate_callee (f := 65) rfl ?_); refine gL_ (some 19) Try.func65 #[.slice A0 l0.length c0, .int .i64 a3, .slice Ao14 y637.length co14] ?_; (with_reducible refine (impl_opForm.calls k _ _ l0 a3 _ _ y637 t640 _ ?s1 ?s2 ?s3 ?s4 A6.out).mono ?_); (case s1 => exact cC_ (Kd.C_below HR0.out HB.out)); (case s2 => exact HC0.out); (case s3 => exact cC_ (Kd.N_reads' HO639.out).2.2); (case s4 => exact (Kd.N_reads' HO639.out).2.1); rintro e w15 ⟨rfl, hb⟩; refine ⟨_, rfl, ?_⟩; replace HO1 := A_ (Kd.V_below (vV_ HO1.out) hb); replace HO636 := A_ (Kd.S_below (vS_ HO636.out) hb); replace HO639 := A_ (Kd.N_below (vN_ HO639.out) hb); replace HB := A_ (below_step bB_ hb); (try clear hb); (try clear hk)) | ((with_reducible refine gate_callee (f := 42) rfl ?_); refine gL_ (some 26) Try.func42 #[.slice A0 l0.length c0, .slice A1 l1.length c1] ?_; (with_reducible refine (impl_FindRes.calls k _ _ l0 _ _ l1 t641 _ ?s1 ?s2 ?s3 ?s4 A8.out).mono ?_); (case s1 => exact cC_ (Kd.C_below HR0.out HB.out)); (case s2 => exact HC0.out); (case s3 => exact cC_ (Kd.V_reads' HO1.out).2.2); (case s4 => exact (Kd.V_reads' HO1.out).2.1); rintro e w16 ⟨rfl, hb⟩; refine ⟨_, rfl, ?_⟩; replace HO1 := A_ (Kd.V_below (vV_ HO1.out) hb); replace HO636 := A_ (Kd.S_below (vS_ HO636.out) hb); replace HO639 := A_ (Kd.N_below (vN_ HO639.out) hb); replace HB := A_ (below_step bB_ hb); (try clear hb); (try clear hk)) | ((with_reducible refine gate_callee (f := 43) rfl ?_); refine gL_ (some 30) Try.func43 #[.slice A0 l0.length c0, .slice A1 l1.length c1] ?_; (with_reducible refine (impl_IsColl.calls k _ _ l0 _ _ l1 true _ ?s1 ?s2 ?s3 ?s4 A9.out).mono ?_); (case s1 => exact cC_ (Kd.C_below HR0.out HB.out)); (case s2 => exact HC0.out); (case s3 => exact cC_ (Kd.V_reads' HO1.out).2.2); (case s4 => exact (Kd.V_reads' HO1.out).2.1); rintro e w17 ⟨rfl, hb⟩; refine ⟨_, rfl, ?_⟩; replace HO1 := A_ (Kd.V_below (vV_ HO1.out) hb); replace HO636 := A_ (Kd.S_below (vS_ HO636.out) hb); replace HO639 := A_ (Kd.N_below (vN_ HO639.out) hb); replace HB := A_ (below_step bB_ hb); (try clear hb); (try clear hk)))
   go_ret2
   exact ⟨_, rr_, by (with_reducible repeat (first | apply Kd.S_alloc | apply Kd.S_drewN | apply Kd.S_drew)); exact Kd.S_mono HO636.out (fun _ _ => trivial), bB_⟩
 · replace c10 := Bool.eq_false_iff.mpr c10
   subst c10
   rw [if_neg nf_] at H
   obtain ⟨t643, A18, H⟩ := bo_ H
   (try dsimp only at H)
   obtain ⟨t646, A19, H⟩ := bo_ H
   (try dsimp only at H)
   by_cases c20 : t646 = true
   · subst c20
     rw [if_pos rfl] at H
     by_cases c21 : (a2.size : Int) > 200
     · rw [if_pos c21] at H
       have c21b0 : decide (200 < (a2.size : Int)) = true := decide_eq_true c21
       have c21b1 : decide (200 < a2.size) = true := decide_eq_true (by omega)
       clear c21
       simp only [Option.some.injEq, Prod.mk.injEq] at H
       obtain ⟨rfl, rfl⟩ := H
       go_enter Try.func27, Try.ntmps27
       go_wp2_with (first | ((with_reducible refine gate_callee (f := 66) rfl ?_); refine gL_ (some 14) Try.func66 #[.slice A0 l0.length c0] ?_; (with_reducible refine (impl_copyTree.calls k _ _ l0 t634 _ ?s1 ?s2 A5.out).mono ?_); (case s1 => exact cC_ HR0.out); (case s2 => exact HC0.out); rintro e w22 ⟨v635, rfl, ho0, hb⟩; refine ⟨_, rfl, ?_⟩; replace HO1 := A_ (Kd.V_elder' (vV_ HO1.out) (kb_ ho0) hb); have HO636 := A_ (Kd.S_lower (Kd.S_newM (M := fun k_ => (w.heap.size ≤ k_)) ho0 (below_size bB_) (fun k_ h_ => h_)) (below_size bB_)); replace HB := A_ (below_step bB_ hb); (try clear hb); (try clear hk); (try clear ho0)) | ((with_reducible refine gate_dst (N := 18) rfl ?_); refine Kd.N_lit (Kd.slice 9 Kd.string) _ 23 ?hg (N' := 18) ?hd (xs := ([l1] : List (List ByteArray))) (inner := [.slice A1 l1.length c1]) (ok := (fun k_ => (P1_ k_ ∨ w.heap.size ≤ k_) ∧ some k_ ≠ (v635 : Value).ownBlock)) (okp := (fun k_ => (P1_ k_ ∨ w.heap.size ≤ k_) ∧ some k_ ≠ (v635 : Value).ownBlock)) ?hr ?hp (fun _ hk => hk) ((show ∀ k_, w22.heap.size ≤ k_ → (fun k_ => (P1_ k_ ∨ w.heap.size ≤ k_) ∧ some k_ ≠ (v635 : Value).ownBlock) k_ from fun k_ hk => ⟨(.inr (Nat.le_trans (below_size bB_) hk)), Kd.fresh' (Kd.S_lt (vS_ HO636.out)) k_ hk⟩) _ (Nat.le_refl _)) (Below.refl _ _) (Nat.le_refl _) (by simp) ?_; (case hd => rfl); (case hg => rfl); (case hr => first | (go_simp; done) | (go_simp; rfl)); (case hp => exact (Reps.one (show Kd.FK (Kd.slice 9 Kd.string) _ _ l1 [.slice A1 l1.length c1] from (Kd.FK_slice_mk (Kd.V_reads' (Kd.V_mono (ok' := (fun k_ => (P1_ k_ ∨ w.heap.size ≤ k_) ∧ some k_ ≠ (v635 : Value).ownBlock)) (HO1.out) (fun k_ hk => ⟨hk.1, hk.2⟩))).2.1 (Kd.V_F (Kd.V_mono (ok' := (fun k_ => (P1_ k_ ∨ w.heap.size ≤ k_) ∧ some k_ ≠ (v635 : Value).ownBlock)) (HO1.out) (fun k_ hk => ⟨hk.1, hk.2⟩))))) (Reps.none _ _))); intro v638 w23 ho24 hb hg_ hnew_; clear hg_ hnew_; (first | rw [← Ny637.out] at ho24 | (simp only [Int.reduceToNat] at ho24; rw [← Ny637.out] at ho24)); replace HO1 := A_ (Kd.V_elder' (vV_ HO1.out) (kb_ ho24) hb); replace HO636 := A_ (Kd.S_below (vS_ HO636.out) hb); have HO639 := A_ (Kd.N_lower ho24 (below_size bB_)); replace HB := A_ (below_step bB_ hb); clear hb ho24; obtain ⟨Ao25, co25, eo25⟩ := Kd.N_slice HO639.out; subst eo25) | ((with_reducible refine gate_callee (f := 65) rfl ?_); refine gL_ (some 19) Try.func65 #[.slice A0 l0.length c0, .int .i64 a3, .slice Ao25 y637.length co25] ?_; (with_reducible refine (impl_opForm.calls k _ _ l0 a3 _ _ y637 t640 _ ?s1 ?s2 ?s3 ?s4 A6.out).mono ?_); (case s1 => exact cC_ (Kd.C_below HR0.out HB.out)); (case s2 => exact HC0.out); (case s3 => exact cC_ (Kd.N_reads' HO639.out).2.2); (case s4 => exact (Kd.N_reads' HO639.out).2.1); rintro e w26 ⟨rfl, hb⟩; refine ⟨_, rfl, ?_⟩; replace HO1 := A_ (Kd.V_below (vV_ HO1.out) hb); replace HO636 := A_ (Kd.S_below (vS_ HO636.out) hb); replace HO639 := A_ (Kd.N_below (vN_ HO639.out) hb); replace HB := A_ (below_step bB_ hb); (try clear hb); (try clear hk)) | ((with_reducible refine gate_callee (f := 42) rfl ?_); refine gL_ (some 26) Try.func42 #[.slice A0 l0.length c0, .slice A1 l1.length c1] ?_; (with_reducible refine (impl_FindRes.calls k _ _ l0 _ _ l1 t641 _ ?s1 ?s2 ?s3 ?s4 A8.out).mono ?_); (case s1 => exact cC_ (Kd.C_below HR0.out HB.out)); (case s2 => exact HC0.out); (case s3 => exact cC_ (Kd.V_reads' HO1.out).2.2); (case s4 => exact (Kd.V_reads' HO1.out).2.1); rintro e w27 ⟨rfl, hb⟩; refine ⟨_, rfl, ?_⟩; replace HO1 := A_ (Kd.V_below (vV_ HO1.out) hb); replace HO636 := A_ (Kd.S_below (vS_ HO636.out) hb); replace HO639 := A_ (Kd.N_below (vN_ HO639.out) hb); replace HB := A_ (below_step bB_ hb); (try clear hb); (try clear hk)) | ((with_reducible refine gate_callee (f := 43) rfl ?_); refine gL_ (some 30) Try.func43 #[.slice A0 l0.length c0, .slice A1 l1.length c1] ?_; (with_reducible refine (impl_IsColl.calls k _ _ l0 _ _ l1 false _ ?s1 ?s2 ?s3 ?s4 A9.out).mono ?_); (case s1 => exact cC_ (Kd.C_below HR0.out HB.out)); (case s2 => exact HC0.out); (case s3 => exact cC_ (Kd.V_reads' HO1.out).2.2); (case s4 => exact (Kd.V_reads' HO1.out).2.1); rintro e w28 ⟨rfl, hb⟩; refine ⟨_, rfl, ?_⟩; replace HO1 := A_ (Kd.V_below (vV_ HO1.out) hb); replace HO636 := A_ (Kd.S_below (vS_ HO636.out) hb); replace HO639 := A_ (Kd.N_below (vN_ HO639.out) hb); replace HB := A_ (below_step bB_ hb); (try clear hb); (try clear hk)) | ((with_reducible refine gate_callee (f := 44) rfl ?_); refine gL_ (some 35) Try.func44 #[.slice A1 l1.length c1] ?_; (with_reducible refine (impl_Above.calls _ _ l1 t643 _ ?s1 ?s2 A18.out).mono ?_); (case s1 => exact cC_ (Kd.V_reads' HO1.out).2.2); (case s2 => exact (Kd.V_reads' HO1.out).2.1); rintro e w29 ⟨v644, rfl, ho0, hb⟩; refine ⟨_, rfl, ?_⟩; replace HO1 := A_ (Kd.V_elder' (vV_ HO1.out) (kb_ ho0) hb); replace HO636 := A_ (Kd.S_elder' (vS_ HO636.out) (kb_ ho0) hb); replace HO639 := A_ (Kd.N_elder' (vN_ HO639.out) (kb_ ho0) hb); have HO645 := A_ (Kd.R_lower (Kd.R_newM (M := fun k_ => (w.heap.size ≤ k_)) ho0 (below_size bB_) (fun k_ h_ => h_)) (below_size bB_)); replace HB := A_ (below_step bB_ hb); (try clear hb); (try clear hk); (try clear ho0); obtain ⟨Ao30, co30, eo30⟩ := Kd.R_slice HO645.out; subst eo30) | ((with_reducible refine gate_callee (f := 43) rfl ?_); refine gL_ (some 36) Try.func43 #[.slice A0 l0.length c0, .slice Ao30 t643.length co30] ?_; (with_reducible refine (impl_IsColl.calls k _ _ l0 _ _ t643 true _ ?s1 ?s2 ?s3 ?s4 A19.out).mono ?_); (case s1 => exact cC_ (Kd.C_below HR0.out HB.out)); (case s2 => exact HC0.out); (case s3 => exact cC_ (Kd.R_reads' HO645.out).2.2); (case s4 => exact (Kd.R_reads' HO645.out).2.1); rintro e w31 ⟨rfl, hb⟩; refine ⟨_, rfl, ?_⟩; replace HO1 := A_ (Kd.V_below (vV_ HO1.out) hb); replace HO636 := A_ (Kd.S_below (vS_ HO636.out) hb); replace HO639 := A_ (Kd.N_below (vN_ HO639.out) hb); replace HO645 := A_ (Kd.R_below (vR_ HO645.out) hb); replace HB := A_ (below_step bB_ hb); (try clear hb); (try clear hk)))
       go_ret2
       exact ⟨_, rr_, by (with_reducible repeat (first | apply Kd.S_alloc | apply Kd.S_drewN | apply Kd.S_drew)); exact Kd.S_mono HO636.out (fun _ _ => trivial), bB_⟩
     rw [if_neg c21] at H
     have c21b0 : decide (200 < (a2.size : Int)) = false := decide_eq_false c21
     have c21b1 : decide (200 < a2.size) = false := decide_eq_false (by omega)
     clear c21
     by_cases c32 : t641 ≥ 0
     rotate_left
     · rw [if_neg c32] at H
       have c32b0 : decide (0 ≤ t641) = false := decide_eq_false c32
       clear c32
       by_cases c51 : (l0.length : Int) ≥ 12
       · rw [if_pos c51] at H
         have c51b0 : decide (12 ≤ (l0.length : Int)) = true := decide_eq_true c51
         have c51b1 : decide (12 ≤ l0.length) = true := decide_eq_true (by omega)
         clear c51
         simp only [Option.some.injEq, Prod.mk.injEq] at H
         obtain ⟨rfl, rfl⟩ := H
         go_enter Try.func27, Try.ntmps27
         go_wp2_with (first | ((with_reducible refine gate_callee (f := 66) rfl ?_); refine gL_ (some 14) Try.func66 #[.slice A0 l0.length c0] ?_; (with_reducible refine (impl_copyTree.calls k _ _ l0 t634 _ ?s1 ?s2 A5.out).mono ?_); (case s1 => exact cC_ HR0.out); (case s2 => exact HC0.out); rintro e w52 ⟨v635, rfl, ho0, hb⟩; refine ⟨_, rfl, ?_⟩; replace HO1 := A_ (Kd.V_elder' (vV_ HO1.out) (kb_ ho0) hb); have HO636 := A_ (Kd.S_lower (Kd.S_newM (M := fun k_ => (w.heap.size ≤ k_)) ho0 (below_size bB_) (fun k_ h_ => h_)) (below_size bB_)); replace HB := A_ (below_step bB_ hb); (try clear hb); (try clear hk); (try clear ho0)) | ((with_reducible refine gate_dst (N := 18) rfl ?_); refine Kd.N_lit (Kd.slice 9 Kd.string) _ 23 ?hg (N' := 18) ?hd (xs := ([l1] : List (List ByteArray))) (inner := [.slice A1 l1.length c1]) (ok := (fun k_ => (P1_ k_ ∨ w.heap.size ≤ k_) ∧ some k_ ≠ (v635 : Value).ownBlock)) (okp := (fun k_ => (P1_ k_ ∨ w.heap.size ≤ k_) ∧ some k_ ≠ (v635 : Value).ownBlock)) ?hr ?hp (fun _ hk => hk) ((show ∀ k_, w52.heap.size ≤ k_ → (fun k_ => (P1_ k_ ∨ w.heap.size ≤ k_) ∧ some k_ ≠ (v635 : Value).ownBlock) k_ from fun k_ hk => ⟨(.inr (Nat.le_trans (below_size bB_) hk)), Kd.fresh' (Kd.S_lt (vS_ HO636.out)) k_ hk⟩) _ (Nat.le_refl _)) (Below.refl _ _) (Nat.le_refl _) (by simp) ?_; (case hd => rfl); (case hg => rfl); (case hr => first | (go_simp; done) | (go_simp; rfl)); (case hp => exact (Reps.one (show Kd.FK (Kd.slice 9 Kd.string) _ _ l1 [.slice A1 l1.length c1] from (Kd.FK_slice_mk (Kd.V_reads' (Kd.V_mono (ok' := (fun k_ => (P1_ k_ ∨ w.heap.size ≤ k_) ∧ some k_ ≠ (v635 : Value).ownBlock)) (HO1.out) (fun k_ hk => ⟨hk.1, hk.2⟩))).2.1 (Kd.V_F (Kd.V_mono (ok' := (fun k_ => (P1_ k_ ∨ w.heap.size ≤ k_) ∧ some k_ ≠ (v635 : Value).ownBlock)) (HO1.out) (fun k_ hk => ⟨hk.1, hk.2⟩))))) (Reps.none _ _))); intro v638 w53 ho54 hb hg_ hnew_; clear hg_ hnew_; (first | rw [← Ny637.out] at ho54 | (simp only [Int.reduceToNat] at ho54; rw [← Ny637.out] at ho54)); replace HO1 := A_ (Kd.V_elder' (vV_ HO1.out) (kb_ ho54) hb); replace HO636 := A_ (Kd.S_below (vS_ HO636.out) hb); have HO639 := A_ (Kd.N_lower ho54 (below_size bB_)); replace HB := A_ (below_step bB_ hb); clear hb ho54; obtain ⟨Ao55, co55, eo55⟩ := Kd.N_slice HO639.out; subst eo55) | ((with_reducible refine gate_callee (f := 65) rfl ?_); refine gL_ (some 19) Try.func65 #[.slice A0 l0.length c0, .int .i64 a3, .slice Ao55 y637.length co55] ?_; (with_reducible refine (impl_opForm.calls k _ _ l0 a3 _ _ y637 t640 _ ?s1 ?s2 ?s3 ?s4 A6.out).mono ?_); (case s1 => exact cC_ (Kd.C_below HR0.out HB.out)); (case s2 => exact HC0.out); (case s3 => exact cC_ (Kd.N_reads' HO639.out).2.2); (case s4 => exact (Kd.N_reads' HO639.out).2.1); rintro e w56 ⟨rfl, hb⟩; refine ⟨_, rfl, ?_⟩; replace HO1 := A_ (Kd.V_below (vV_ HO1.out) hb); replace HO636 := A_ (Kd.S_below (vS_ HO636.out) hb); replace HO639 := A_ (Kd.N_below (vN_ HO639.out) hb); replace HB := A_ (below_step bB_ hb); (try clear hb); (try clear hk)) | ((with_reducible refine gate_callee (f := 42) rfl ?_); refine gL_ (some 26) Try.func42 #[.slice A0 l0.length c0, .slice A1 l1.length c1] ?_; (with_reducible refine (impl_FindRes.calls k _ _ l0 _ _ l1 t641 _ ?s1 ?s2 ?s3 ?s4 A8.out).mono ?_); (case s1 => exact cC_ (Kd.C_below HR0.out HB.out)); (case s2 => exact HC0.out); (case s3 => exact cC_ (Kd.V_reads' HO1.out).2.2); (case s4 => exact (Kd.V_reads' HO1.out).2.1); rintro e w57 ⟨rfl, hb⟩; refine ⟨_, rfl, ?_⟩; replace HO1 := A_ (Kd.V_below (vV_ HO1.out) hb); replace HO636 := A_ (Kd.S_below (vS_ HO636.out) hb); replace HO639 := A_ (Kd.N_below (vN_ HO639.out) hb); replace HB := A_ (below_step bB_ hb); (try clear hb); (try clear hk)) | ((with_reducible refine gate_callee (f := 43) rfl ?_); refine gL_ (some 30) Try.func43 #[.slice A0 l0.length c0, .slice A1 l1.length c1] ?_; (with_reducible refine (impl_IsColl.calls k _ _ l0 _ _ l1 false _ ?s1 ?s2 ?s3 ?s4 A9.out).mono ?_); (case s1 => exact cC_ (Kd.C_below HR0.out HB.out)); (case s2 => exact HC0.out); (case s3 => exact cC_ (Kd.V_reads' HO1.out).2.2); (case s4 => exact (Kd.V_reads' HO1.out).2.1); rintro e w58 ⟨rfl, hb⟩; refine ⟨_, rfl, ?_⟩; replace HO1 := A_ (Kd.V_below (vV_ HO1.out) hb); replace HO636 := A_ (Kd.S_below (vS_ HO636.out) hb); replace HO639 := A_ (Kd.N_below (vN_ HO639.out) hb); replace HB := A_ (below_step bB_ hb); (try clear hb); (try clear hk)) | ((with_reducible refine gate_callee (f := 44) rfl ?_); refine gL_ (some 35) Try.func44 #[.slice A1 l1.length c1] ?_; (with_reducible refine (impl_Above.calls _ _ l1 t643 _ ?s1 ?s2 A18.out).mono ?_); (case s1 => exact cC_ (Kd.V_reads' HO1.out).2.2); (case s2 => exact (Kd.V_reads' HO1.out).2.1); rintro e w59 ⟨v644, rfl, ho0, hb⟩; refine ⟨_, rfl, ?_⟩; replace HO1 := A_ (Kd.V_elder' (vV_ HO1.out) (kb_ ho0) hb); replace HO636 := A_ (Kd.S_elder' (vS_ HO636.out) (kb_ ho0) hb); replace HO639 := A_ (Kd.N_elder' (vN_ HO639.out) (kb_ ho0) hb); have HO645 := A_ (Kd.R_lower (Kd.R_newM (M := fun k_ => (w.heap.size ≤ k_)) ho0 (below_size bB_) (fun k_ h_ => h_)) (below_size bB_)); replace HB := A_ (below_step bB_ hb); (try clear hb); (try clear hk); (try clear ho0); obtain ⟨Ao60, co60, eo60⟩ := Kd.R_slice HO645.out; subst eo60) | ((with_reducible refine gate_callee (f := 43) rfl ?_); refine gL_ (some 36) Try.func43 #[.slice A0 l0.length c0, .slice Ao60 t643.length co60] ?_; (with_reducible refine (impl_IsColl.calls k _ _ l0 _ _ t643 true _ ?s1 ?s2 ?s3 ?s4 A19.out).mono ?_); (case s1 => exact cC_ (Kd.C_below HR0.out HB.out)); (case s2 => exact HC0.out); (case s3 => exact cC_ (Kd.R_reads' HO645.out).2.2); (case s4 => exact (Kd.R_reads' HO645.out).2.1); rintro e w61 ⟨rfl, hb⟩; refine ⟨_, rfl, ?_⟩; replace HO1 := A_ (Kd.V_below (vV_ HO1.out) hb); replace HO636 := A_ (Kd.S_below (vS_ HO636.out) hb); replace HO639 := A_ (Kd.N_below (vN_ HO639.out) hb); replace HO645 := A_ (Kd.R_below (vR_ HO645.out) hb); replace HB := A_ (below_step bB_ hb); (try clear hb); (try clear hk)))
         go_ret2
         exact ⟨_, rr_, by (with_reducible repeat (first | apply Kd.S_alloc | apply Kd.S_drewN | apply Kd.S_drew)); exact Kd.S_mono HO636.out (fun _ _ => trivial), bB_⟩
       rw [if_neg c51] at H
       have c51b0 : decide (12 ≤ (l0.length : Int)) = false := decide_eq_false c51
       have c51b1 : decide (12 ≤ l0.length) = false := decide_eq_false (by omega)
       clear c51
       obtain ⟨t649, A62, H⟩ := bo_ H
       (try dsimp only at H)
       obtain ⟨t652, A63, H⟩ := bo_ H
       (try dsimp only at H)
       simp only [Option.some.injEq, Prod.mk.injEq] at H
       obtain ⟨rfl, rfl⟩ := H
       go_enter Try.func27, Try.ntmps27
       go_wp2_with (first | ((with_reducible refine gate_callee (f := 66) rfl ?_); refine gL_ (some 14) Try.func66 #[.slice A0 l0.length c0] ?_; (with_reducible refine (impl_copyTree.calls k _ _ l0 t634 _ ?s1 ?s2 A5.out).mono ?_); (case s1 => exact cC_ HR0.out); (case s2 => exact HC0.out); rintro e w64 ⟨v635, rfl, ho0, hb⟩; refine ⟨_, rfl, ?_⟩; replace HO1 := A_ (Kd.V_elder' (vV_ HO1.out) (kb_ ho0) hb); have HO636 := A_ (Kd.S_lower (Kd.S_newM (M := fun k_ => (w.heap.size ≤ k_)) ho0 (below_size bB_) (fun k_ h_ => h_)) (below_size bB_)); replace HB := A_ (below_step bB_ hb); (try clear hb); (try clear hk); (try clear ho0)) | ((with_reducible refine gate_dst (N := 18) rfl ?_); refine Kd.N_lit (Kd.slice 9 Kd.string) _ 23 ?hg (N' := 18) ?hd (xs := ([l1] : List (List ByteArray))) (inner := [.slice A1 l1.length c1]) (ok := (fun k_ => (P1_ k_ ∨ w.heap.size ≤ k_) ∧ some k_ ≠ (v635 : Value).ownBlock)) (okp := (fun k_ => (P1_ k_ ∨ w.heap.size ≤ k_) ∧ some k_ ≠ (v635 : Value).ownBlock)) ?hr ?hp (fun _ hk => hk) ((show ∀ k_, w64.heap.size ≤ k_ → (fun k_ => (P1_ k_ ∨ w.heap.size ≤ k_) ∧ some k_ ≠ (v635 : Value).ownBlock) k_ from fun k_ hk => ⟨(.inr (Nat.le_trans (below_size bB_) hk)), Kd.fresh' (Kd.S_lt (vS_ HO636.out)) k_ hk⟩) _ (Nat.le_refl _)) (Below.refl _ _) (Nat.le_refl _) (by simp) ?_; (case hd => rfl); (case hg => rfl); (case hr => first | (go_simp; done) | (go_simp; rfl)); (case hp => exact (Reps.one (show Kd.FK (Kd.slice 9 Kd.string) _ _ l1 [.slice A1 l1.length c1] from (Kd.FK_slice_mk (Kd.V_reads' (Kd.V_mono (ok' := (fun k_ => (P1_ k_ ∨ w.heap.size ≤ k_) ∧ some k_ ≠ (v635 : Value).ownBlock)) (HO1.out) (fun k_ hk => ⟨hk.1, hk.2⟩))).2.1 (Kd.V_F (Kd.V_mono (ok' := (fun k_ => (P1_ k_ ∨ w.heap.size ≤ k_) ∧ some k_ ≠ (v635 : Value).ownBlock)) (HO1.out) (fun k_ hk => ⟨hk.1, hk.2⟩))))) (Reps.none _ _))); intro v638 w65 ho66 hb hg_ hnew_; clear hg_ hnew_; (first | rw [← Ny637.out] at ho66 | (simp only [Int.reduceToNat] at ho66; rw [← Ny637.out] at ho66)); replace HO1 := A_ (Kd.V_elder' (vV_ HO1.out) (kb_ ho66) hb); replace HO636 := A_ (Kd.S_below (vS_ HO636.out) hb); have HO639 := A_ (Kd.N_lower ho66 (below_size bB_)); replace HB := A_ (below_step bB_ hb); clear hb ho66; obtain ⟨Ao67, co67, eo67⟩ := Kd.N_slice HO639.out; subst eo67) | ((with_reducible refine gate_callee (f := 65) rfl ?_); refine gL_ (some 19) Try.func65 #[.slice A0 l0.length c0, .int .i64 a3, .slice Ao67 y637.length co67] ?_; (with_reducible refine (impl_opForm.calls k _ _ l0 a3 _ _ y637 t640 _ ?s1 ?s2 ?s3 ?s4 A6.out).mono ?_); (case s1 => exact cC_ (Kd.C_below HR0.out HB.out)); (case s2 => exact HC0.out); (case s3 => exact cC_ (Kd.N_reads' HO639.out).2.2); (case s4 => exact (Kd.N_reads' HO639.out).2.1); rintro e w68 ⟨rfl, hb⟩; refine ⟨_, rfl, ?_⟩; replace HO1 := A_ (Kd.V_below (vV_ HO1.out) hb); replace HO636 := A_ (Kd.S_below (vS_ HO636.out) hb); replace HO639 := A_ (Kd.N_below (vN_ HO639.out) hb); replace HB := A_ (below_step bB_ hb); (try clear hb); (try clear hk)) | ((with_reducible refine gate_callee (f := 42) rfl ?_); refine gL_ (some 26) Try.func42 #[.slice A0 l0.length c0, .slice A1 l1.length c1] ?_; (with_reducible refine (impl_FindRes.calls k _ _ l0 _ _ l1 t641 _ ?s1 ?s2 ?s3 ?s4 A8.out).mono ?_); (case s1 => exact cC_ (Kd.C_below HR0.out HB.out)); (case s2 => exact HC0.out); (case s3 => exact cC_ (Kd.V_reads' HO1.out).2.2); (case s4 => exact (Kd.V_reads' HO1.out).2.1); rintro e w69 ⟨rfl, hb⟩; refine ⟨_, rfl, ?_⟩; replace HO1 := A_ (Kd.V_below (vV_ HO1.out) hb); replace HO636 := A_ (Kd.S_below (vS_ HO636.out) hb); replace HO639 := A_ (Kd.N_below (vN_ HO639.out) hb); replace HB := A_ (below_step bB_ hb); (try clear hb); (try clear hk)) | ((with_reducible refine gate_callee (f := 43) rfl ?_); refine gL_ (some 30) Try.func43 #[.slice A0 l0.length c0, .slice A1 l1.length c1] ?_; (with_reducible refine (impl_IsColl.calls k _ _ l0 _ _ l1 false _ ?s1 ?s2 ?s3 ?s4 A9.out).mono ?_); (case s1 => exact cC_ (Kd.C_below HR0.out HB.out)); (case s2 => exact HC0.out); (case s3 => exact cC_ (Kd.V_reads' HO1.out).2.2); (case s4 => exact (Kd.V_reads' HO1.out).2.1); rintro e w70 ⟨rfl, hb⟩; refine ⟨_, rfl, ?_⟩; replace HO1 := A_ (Kd.V_below (vV_ HO1.out) hb); replace HO636 := A_ (Kd.S_below (vS_ HO636.out) hb); replace HO639 := A_ (Kd.N_below (vN_ HO639.out) hb); replace HB := A_ (below_step bB_ hb); (try clear hb); (try clear hk)) | ((with_reducible refine gate_callee (f := 44) rfl ?_); refine gL_ (some 35) Try.func44 #[.slice A1 l1.length c1] ?_; (with_reducible refine (impl_Above.calls _ _ l1 t643 _ ?s1 ?s2 A18.out).mono ?_); (case s1 => exact cC_ (Kd.V_reads' HO1.out).2.2); (case s2 => exact (Kd.V_reads' HO1.out).2.1); rintro e w71 ⟨v644, rfl, ho0, hb⟩; refine ⟨_, rfl, ?_⟩; replace HO1 := A_ (Kd.V_elder' (vV_ HO1.out) (kb_ ho0) hb); replace HO636 := A_ (Kd.S_elder' (vS_ HO636.out) (kb_ ho0) hb); replace HO639 := A_ (Kd.N_elder' (vN_ HO639.out) (kb_ ho0) hb); have HO645 := A_ (Kd.R_lower (Kd.R_newM (M := fun k_ => (w.heap.size ≤ k_)) ho0 (below_size bB_) (fun k_ h_ => h_)) (below_size bB_)); replace HB := A_ (below_step bB_ hb); (try clear hb); (try clear hk); (try clear ho0); obtain ⟨Ao72, co72, eo72⟩ := Kd.R_slice HO645.out; subst eo72) | ((with_reducible refine gate_callee (f := 43) rfl ?_); refine gL_ (some 36) Try.func43 #[.slice A0 l0.length c0, .slice Ao72 t643.length co72] ?_; (with_reducible refine (impl_IsColl.calls k _ _ l0 _ _ t643 true _ ?s1 ?s2 ?s3 ?s4 A19.out).mono ?_); (case s1 => exact cC_ (Kd.C_below HR0.out HB.out)); (case s2 => exact HC0.out); (case s3 => exact cC_ (Kd.R_reads' HO645.out).2.2); (case s4 => exact (Kd.R_reads' HO645.out).2.1); rintro e w73 ⟨rfl, hb⟩; refine ⟨_, rfl, ?_⟩; replace HO1 := A_ (Kd.V_below (vV_ HO1.out) hb); replace HO636 := A_ (Kd.S_below (vS_ HO636.out) hb); replace HO639 := A_ (Kd.N_below (vN_ HO639.out) hb); replace HO645 := A_ (Kd.R_below (vR_ HO645.out) hb); replace HB := A_ (below_step bB_ hb); (try clear hb); (try clear hk)) | ((with_reducible refine gate_callee (f := 77) rfl ?_); refine gL_ (some 65) Try.func77 #[.slice A1 l1.length c1] ?_; (with_reducible refine (impl_copyPath.calls _ _ l1 t649 _ ?s1 ?s2 A62.out).mono ?_); (case s1 => exact cC_ (Kd.V_reads' HO1.out).2.2); (case s2 => exact (Kd.V_reads' HO1.out).2.1); rintro e w74 ⟨v650, rfl, ho0, hb⟩; refine ⟨_, rfl, ?_⟩; replace HO1 := A_ (Kd.V_elder' (vV_ HO1.out) (kb_ ho0) hb); replace HO636 := A_ (Kd.S_elder' (vS_ HO636.out) (kb_ ho0) hb); replace HO639 := A_ (Kd.N_elder' (vN_ HO639.out) (kb_ ho0) hb); have HO651 := A_ (Kd.R_lower (Kd.R_new' (Kd.R_newM (M := fun k_ => (w.heap.size ≤ k_)) ho0 (below_size bB_) (fun k_ h_ => h_)) (Kd.R_lt (vR_ HO645.out))) (below_size bB_)); replace HO645 := A_ (Kd.R_elder' (vR_ HO645.out) (kb_ ho0) hb); replace HB := A_ (below_step bB_ hb); (try clear hb); (try clear hk); (try clear ho0); obtain ⟨Ao75, co75, eo75⟩ := Kd.R_slice HO651.out; subst eo75; obtain ⟨Ao76, co76, eo76⟩ := Kd.S_slice HO636.out; subst eo76) | ((with_reducible refine gate_callee (f := 76) rfl ?_); refine gL_ (some 69) Try.func76 #[.slice Ao76 t634.length co76, .agg #[.slice Ao75 t649.length co75, .bool false, .string a2, .int .i64 a3, .slice none 0 0]] ?_; (refine (impl_withResX.calls k (fun k_ => (((((w.heap.size ≤ k_) ∧ True) ∧ some k_ ≠ (.slice Ao72 t643.length co72 : Value).ownBlock) ∧ some k_ ≠ (.slice Ao75 t649.length co75 : Value).ownBlock) ∧ some k_ ≠ (.slice Ao67 y637.length co67 : Value).ownBlock)) _ _ t634 (fun k_ => some k_ = (.slice Ao75 t649.length co75 : Value).ownBlock) _ _ t649 false a2 a3 (fun k_ => False) _ _ ([] : List (S72)) t652 w _ ?sideB ?s1 ?s2 ?s3 ?sideA A63.out).mono ?_); (case sideB => exact bB_); (case s1 => (with_reducible repeat (first | apply Kd.S_alloc | apply Kd.S_drewN | apply Kd.S_drew)); exact Kd.S_apart' (HO636.out) (Kd.N_typed HO639.out) (by decide)); (case s2 => exact Kd.R_tight rfl (Kd.R_apart' (Kd.R_apart' (HO651.out) (Kd.S_typed HO636.out) (by decide)) (Kd.N_typed HO639.out) (by decide))); (case s3 => exact Kd.R_nil _ _ _ _ _); (case sideA => intro k_ h_ h2_; rcases h2_ with h2_ | h2_; (first | exact h_.2 h2_ | exact h_.1.2 h2_ | exact h_.1.1.2 h2_); exact h2_.elim); rintro e w77 ⟨v653, rfl, ho0, hb⟩; refine ⟨_, rfl, ?_⟩; have HO654 := A_ (Kd.S_mono (ok' := fun _ => True) ho0 (fun _ _ => trivial)); replace HB := A_ (below_step bB_ hb); (try clear hb); (try clear ho0)))
       go_ret2
       exact ⟨_, rr_, by (with_reducible repeat (first | apply Kd.S_alloc | apply Kd.S_drewN | apply Kd.S_drew)); exact HO654.out, bB_⟩
     rw [if_pos c32] at H
     have c32b0 : decide (0 ≤ t641) = true := decide_eq_true c32
     clear c32
     by_cases c33 : 0 ≤ t641
     rotate_left
     · exact absurd H (by rw [if_neg c33]; simp)
     rw [if_pos c33] at H
     have c33b0 : decide (0 ≤ t641) = true := decide_eq_true c33
     clear c33
     by_cases c34 : t641 < (t634.length : Int)
     rotate_left
     · exact absurd H (by rw [if_neg c34]; simp)
     rw [if_pos c34] at H
     have c34b0 : decide (t641 < (t634.length : Int)) = true := decide_eq_true c34
     clear c34
     obtain ⟨y647, hy647⟩ : ∃ y_ : List (S57), y_ = (t634.set (t641 : Int).toNat (⟨(rd_T57 t634 t641).f0, (rd_T57 t634 t641).f1, a2, (rd_T57 t634 t641).f3, (rd_T57 t634 t641).f4⟩ : S57)) := ⟨_, rfl⟩
     replace H : (some ((y647.set (t641 : Int).toNat (⟨(rd_T57 y647 t641).f0, (rd_T57 y647 t641).f1, (rd_T57 y647 t641).f2, a3, (rd_T57 y647 t641).f4⟩ : S57)), 204)) = some (r1, r2) := hy_ hy647 H
     have Ny647 := Aside0.mk hy647
     clear hy647
     obtain ⟨y648, hy648⟩ : ∃ y_ : List (S57), y_ = (y647.set (t641 : Int).toNat (⟨(rd_T57 y647 t641).f0, (rd_T57 y647 t641).f1, (rd_T57 y647 t641).f2, a3, (rd_T57 y647 t641).f4⟩ : S57)) := ⟨_, rfl⟩
     replace H : (some (y648, 204)) = some (r1, r2) := hy_ hy648 H
     have Ny648 := Aside0.mk hy648
     clear hy648
     simp only [Option.some.injEq, Prod.mk.injEq] at H
     obtain ⟨rfl, rfl⟩ := H
     go_enter Try.func27, Try.ntmps27
     go_wp2_with (first | ((with_reducible refine gate_callee (f := 66) rfl ?_); refine gL_ (some 14) Try.func66 #[.slice A0 l0.length c0] ?_; (with_reducible refine (impl_copyTree.calls k _ _ l0 t634 _ ?s1 ?s2 A5.out).mono ?_); (case s1 => exact cC_ HR0.out); (case s2 => exact HC0.out); rintro e w37 ⟨v635, rfl, ho0, hb⟩; refine ⟨_, rfl, ?_⟩; replace HO1 := A_ (Kd.V_elder' (vV_ HO1.out) (kb_ ho0) hb); have HO636 := A_ (Kd.S_lower (Kd.S_newM (M := fun k_ => (w.heap.size ≤ k_)) ho0 (below_size bB_) (fun k_ h_ => h_)) (below_size bB_)); replace HB := A_ (below_step bB_ hb); (try clear hb); (try clear hk); (try clear ho0)) | ((with_reducible refine gate_dst (N := 18) rfl ?_); refine Kd.N_lit (Kd.slice 9 Kd.string) _ 23 ?hg (N' := 18) ?hd (xs := ([l1] : List (List ByteArray))) (inner := [.slice A1 l1.length c1]) (ok := (fun k_ => (P1_ k_ ∨ w.heap.size ≤ k_) ∧ some k_ ≠ (v635 : Value).ownBlock)) (okp := (fun k_ => (P1_ k_ ∨ w.heap.size ≤ k_) ∧ some k_ ≠ (v635 : Value).ownBlock)) ?hr ?hp (fun _ hk => hk) ((show ∀ k_, w37.heap.size ≤ k_ → (fun k_ => (P1_ k_ ∨ w.heap.size ≤ k_) ∧ some k_ ≠ (v635 : Value).ownBlock) k_ from fun k_ hk => ⟨(.inr (Nat.le_trans (below_size bB_) hk)), Kd.fresh' (Kd.S_lt (vS_ HO636.out)) k_ hk⟩) _ (Nat.le_refl _)) (Below.refl _ _) (Nat.le_refl _) (by simp) ?_; (case hd => rfl); (case hg => rfl); (case hr => first | (go_simp; done) | (go_simp; rfl)); (case hp => exact (Reps.one (show Kd.FK (Kd.slice 9 Kd.string) _ _ l1 [.slice A1 l1.length c1] from (Kd.FK_slice_mk (Kd.V_reads' (Kd.V_mono (ok' := (fun k_ => (P1_ k_ ∨ w.heap.size ≤ k_) ∧ some k_ ≠ (v635 : Value).ownBlock)) (HO1.out) (fun k_ hk => ⟨hk.1, hk.2⟩))).2.1 (Kd.V_F (Kd.V_mono (ok' := (fun k_ => (P1_ k_ ∨ w.heap.size ≤ k_) ∧ some k_ ≠ (v635 : Value).ownBlock)) (HO1.out) (fun k_ hk => ⟨hk.1, hk.2⟩))))) (Reps.none _ _))); intro v638 w38 ho39 hb hg_ hnew_; clear hg_ hnew_; (first | rw [← Ny637.out] at ho39 | (simp only [Int.reduceToNat] at ho39; rw [← Ny637.out] at ho39)); replace HO1 := A_ (Kd.V_elder' (vV_ HO1.out) (kb_ ho39) hb); replace HO636 := A_ (Kd.S_below (vS_ HO636.out) hb); have HO639 := A_ (Kd.N_lower ho39 (below_size bB_)); replace HB := A_ (below_step bB_ hb); clear hb ho39; obtain ⟨Ao40, co40, eo40⟩ := Kd.N_slice HO639.out; subst eo40) | ((with_reducible refine gate_callee (f := 65) rfl ?_); refine gL_ (some 19) Try.func65 #[.slice A0 l0.length c0, .int .i64 a3, .slice Ao40 y637.length co40] ?_; (with_reducible refine (impl_opForm.calls k _ _ l0 a3 _ _ y637 t640 _ ?s1 ?s2 ?s3 ?s4 A6.out).mono ?_); (case s1 => exact cC_ (Kd.C_below HR0.out HB.out)); (case s2 => exact HC0.out); (case s3 => exact cC_ (Kd.N_reads' HO639.out).2.2); (case s4 => exact (Kd.N_reads' HO639.out).2.1); rintro e w41 ⟨rfl, hb⟩; refine ⟨_, rfl, ?_⟩; replace HO1 := A_ (Kd.V_below (vV_ HO1.out) hb); replace HO636 := A_ (Kd.S_below (vS_ HO636.out) hb); replace HO639 := A_ (Kd.N_below (vN_ HO639.out) hb); replace HB := A_ (below_step bB_ hb); (try clear hb); (try clear hk)) | ((with_reducible refine gate_callee (f := 42) rfl ?_); refine gL_ (some 26) Try.func42 #[.slice A0 l0.length c0, .slice A1 l1.length c1] ?_; (with_reducible refine (impl_FindRes.calls k _ _ l0 _ _ l1 t641 _ ?s1 ?s2 ?s3 ?s4 A8.out).mono ?_); (case s1 => exact cC_ (Kd.C_below HR0.out HB.out)); (case s2 => exact HC0.out); (case s3 => exact cC_ (Kd.V_reads' HO1.out).2.2); (case s4 => exact (Kd.V_reads' HO1.out).2.1); rintro e w42 ⟨rfl, hb⟩; refine ⟨_, rfl, ?_⟩; replace HO1 := A_ (Kd.V_below (vV_ HO1.out) hb); replace HO636 := A_ (Kd.S_below (vS_ HO636.out) hb); replace HO639 := A_ (Kd.N_below (vN_ HO639.out) hb); replace HB := A_ (below_step bB_ hb); (try clear hb); (try clear hk)) | ((with_reducible refine gate_callee (f := 43) rfl ?_); refine gL_ (some 30) Try.func43 #[.slice A0 l0.length c0, .slice A1 l1.length c1] ?_; (with_reducible refine (impl_IsColl.calls k _ _ l0 _ _ l1 false _ ?s1 ?s2 ?s3 ?s4 A9.out).mono ?_); (case s1 => exact cC_ (Kd.C_below HR0.out HB.out)); (case s2 => exact HC0.out); (case s3 => exact cC_ (Kd.V_reads' HO1.out).2.2); (case s4 => exact (Kd.V_reads' HO1.out).2.1); rintro e w43 ⟨rfl, hb⟩; refine ⟨_, rfl, ?_⟩; replace HO1 := A_ (Kd.V_below (vV_ HO1.out) hb); replace HO636 := A_ (Kd.S_below (vS_ HO636.out) hb); replace HO639 := A_ (Kd.N_below (vN_ HO639.out) hb); replace HB := A_ (below_step bB_ hb); (try clear hb); (try clear hk)) | ((with_reducible refine gate_callee (f := 44) rfl ?_); refine gL_ (some 35) Try.func44 #[.slice A1 l1.length c1] ?_; (with_reducible refine (impl_Above.calls _ _ l1 t643 _ ?s1 ?s2 A18.out).mono ?_); (case s1 => exact cC_ (Kd.V_reads' HO1.out).2.2); (case s2 => exact (Kd.V_reads' HO1.out).2.1); rintro e w44 ⟨v644, rfl, ho0, hb⟩; refine ⟨_, rfl, ?_⟩; replace HO1 := A_ (Kd.V_elder' (vV_ HO1.out) (kb_ ho0) hb); replace HO636 := A_ (Kd.S_elder' (vS_ HO636.out) (kb_ ho0) hb); replace HO639 := A_ (Kd.N_elder' (vN_ HO639.out) (kb_ ho0) hb); have HO645 := A_ (Kd.R_lower (Kd.R_newM (M := fun k_ => (w.heap.size ≤ k_)) ho0 (below_size bB_) (fun k_ h_ => h_)) (below_size bB_)); replace HB := A_ (below_step bB_ hb); (try clear hb); (try clear hk); (try clear ho0); obtain ⟨Ao45, co45, eo45⟩ := Kd.R_slice HO645.out; subst eo45) | ((with_reducible refine gate_callee (f := 43) rfl ?_); refine gL_ (some 36) Try.func43 #[.slice A0 l0.length c0, .slice Ao45 t643.length co45] ?_; (with_reducible refine (impl_IsColl.calls k _ _ l0 _ _ t643 true _ ?s1 ?s2 ?s3 ?s4 A19.out).mono ?_); (case s1 => exact cC_ (Kd.C_below HR0.out HB.out)); (case s2 => exact HC0.out); (case s3 => exact cC_ (Kd.R_reads' HO645.out).2.2); (case s4 => exact (Kd.R_reads' HO645.out).2.1); rintro e w46 ⟨rfl, hb⟩; refine ⟨_, rfl, ?_⟩; replace HO1 := A_ (Kd.V_below (vV_ HO1.out) hb); replace HO636 := A_ (Kd.S_below (vS_ HO636.out) hb); replace HO639 := A_ (Kd.N_below (vN_ HO639.out) hb); replace HO645 := A_ (Kd.R_below (vR_ HO645.out) hb); replace HB := A_ (below_step bB_ hb); (try clear hb); (try clear hk); have p35 : 0 ≤ (t641 : Int) := of_decide_eq_true as_; have q35 : (t641 : Int) < ((t634.length : Int) : Int) := of_decide_eq_true as_; obtain ⟨go35, co35, eo35, gb35, gl35, cl35, HG35⟩ := Kd.S_form HO636.out (by omega); (first | cases eo35 | (injection eo35 with ea_ en_ ec_; (first | subst ea_ | (injection ea_ with ea_; subst ea_)); subst ec_; clear en_)); have GB35 := Aside0.mk gb35; have GG35 := Aside0.mk HG35; clear gb35 gl35 HG35; obtain ⟨_, ce35, hcl35, hM35, hcc35, hfr35, _, _⟩ := Kd.S_elem HO636.out z57 (t641 : Int) p35 q35; obtain ⟨ve35_0, ve35_4, rfl, ge35_0, ge35_4⟩ := k57_openM hM35; have hx35_0 : w46.cell? ⟨go35, (t641 : Int).toNat * 5, none⟩ = some (ve35_0) := hcc35 0 _ rfl; have hx35_1 : w46.cell? ⟨go35, (t641 : Int).toNat * 5 + 1, none⟩ = some (.bool ((rd_T57 t634 t641).f1)) := hcc35 1 _ rfl; have hx35_2 : w46.cell? ⟨go35, (t641 : Int).toNat * 5 + 2, none⟩ = some (.string ((rd_T57 t634 t641).f2)) := hcc35 2 _ rfl; have hx35_3 : w46.cell? ⟨go35, (t641 : Int).toNat * 5 + 3, none⟩ = some (.int .i64 ((rd_T57 t634 t641).f3)) := hcc35 3 _ rfl; have hx35_4 : w46.cell? ⟨go35, (t641 : Int).toNat * 5 + 4, none⟩ = some (ve35_4) := hcc35 4 _ rfl; have hf35_0 : w46.frozen? ⟨go35, (t641 : Int).toNat * 5, none⟩ = false := hfr35 0; have hf35_1 : w46.frozen? ⟨go35, (t641 : Int).toNat * 5 + 1, none⟩ = false := hfr35 1; have hf35_2 : w46.frozen? ⟨go35, (t641 : Int).toNat * 5 + 2, none⟩ = false := hfr35 2; have hf35_3 : w46.frozen? ⟨go35, (t641 : Int).toNat * 5 + 3, none⟩ = false := hfr35 3; have hf35_4 : w46.frozen? ⟨go35, (t641 : Int).toNat * 5 + 4, none⟩ = false := hfr35 4; (try clear hcl35); (try clear hcc35); (try clear hfr35); (try clear hM35); replace p35 := eq_true p35; replace q35 := eq_true q35; have n_ := A_ (Kd.S_mono (ok' := (fun k_ => (w.heap.size ≤ k_) ∧ some k_ ≠ (.slice Ao45 t643.length co45 : Value).ownBlock)) HO636.out (fun k_ hk => ⟨hk.1.1, hk.2⟩)); clear HO636; have HO636 := n_; clear n_; have HX47 := A_ (show Kd.S k57 57 w46 w.heap.size (fun k_ => ((fun k_ => (w.heap.size ≤ k_) ∧ some k_ ≠ (.slice Ao45 t643.length co45 : Value).ownBlock)) k_ ∧ ¬ ((fun _ => False)) k_) (.slice (some ⟨go35, 0, none⟩) t634.length co35) t634 from (by (with_reducible repeat (first | apply Kd.S_alloc | apply Kd.S_drewN | apply Kd.S_drew)); exact Kd.S_mono HO636.out (fun k_ hk => ⟨⟨hk.1, hk.2⟩, fun e_ => e_⟩))); obtain ⟨oki47, ce47, hcl47, hM47, hcc47, hfr47, hoki47, hH47⟩ := Kd.S_elem HX47.out z57 (t641 : Int) (of_decide_eq_true as_) (by have h_ : (t641 : Int) < ((t634.length : Int) : Int) := of_decide_eq_true as_; first | exact h_ | (have e_ := (Kd.S_reads' HO636.out).1; omega) | simpa using h_); obtain ⟨ve47_0, ve47_4, rfl, ge47_0, ge47_4⟩ := k57_openM hM47; have HP47 := Kd.S_seg hH47 (of_decide_eq_true as_) (by have h_ : (t641 : Int) < ((t634.length : Int) : Int) := of_decide_eq_true as_; first | exact h_ | (have e_ := (Kd.S_reads' HO636.out).1; omega) | simpa using h_) (seg := [.string a2]) (j := 2) (show 3 ≤ 5 from by decide) (x' := (⟨(rd_T57 t634 t641).f0, (rd_T57 t634 t641).f1, a2, (rd_T57 t634 t641).f3, (rd_T57 t634 t641).f4⟩ : S57)) (k57_mkM _ _ _ (⟨(rd_T57 t634 t641).f0, (rd_T57 t634 t641).f1, a2, (rd_T57 t634 t641).f3, (rd_T57 t634 t641).f4⟩ : S57) (Kd.R_mono ge47_0 (fun _ h_ => Or.inl h_)) (Kd.R_mono ge47_4 (fun _ h_ => Or.inl h_))) (fun _ hk => hk) (fun k_ hk_ => hk_.elim); have hx47_2 := hcc47 2 _ rfl; (try simp only [show (k57).sz = 5 from rfl, Nat.mul_one, Nat.add_zero] at hx47_2); have hf47_2 := hfr47 2; (try simp only [show (k57).sz = 5 from rfl, Nat.mul_one, Nat.add_zero] at hf47_2); (try clear hcl47); (try clear hcc47); (try clear hfr47); (try clear hM47); (try clear hoki47); (try clear hH47)) | ((with_reducible refine gate_store (t := 9) (p := 54) rfl ?_); refine store_event (t := 9) (p := 54) (v := ?vo_w48) (w1 := (w46.setCell ⟨go35, (t641 : Int).toNat * 5 + 2, none⟩ (.string a2))) ?hg ?ho ?hn ?hr ?_; (case ho => rfl); (case hg => rfl); (case hn => rfl); (case hr => first | (go_simp; done) | (go_simp; rfl)); intro w48 hw; have hg : w46.grownBy w48 (some go35) := (by rw [hw]; exact HP47.2); have hp_ : Kd.S k57 57 w48 w.heap.size (fun k_ => (w.heap.size ≤ k_) ∧ some k_ ≠ (.slice Ao45 t643.length co45 : Value).ownBlock) (.slice (some ⟨go35, 0, none⟩) t634.length co35) y647 := (by rw [hw, Ny647.out]; exact HP47.1); clear HP47; replace HO1 := A_ (Kd.V_afterv (v := (.slice (some ⟨go35, 0, none⟩) t634.length co35)) (v1 := (.slice (some ⟨go35, 0, none⟩) t634.length co35)) (ok := (fun k_ => (P1_ k_ ∨ w.heap.size ≤ k_) ∧ some k_ ≠ (.slice Ao40 y637.length co40 : Value).ownBlock ∧ some k_ ≠ (.slice Ao45 t643.length co45 : Value).ownBlock)) (by (with_reducible repeat (first | apply Kd.V_alloc | apply Kd.V_drewN | apply Kd.V_drew)); exact Kd.V_mono HO1.out (fun _ hk => ⟨⟨hk.1.1.1, ⟨hk.1.2, hk.2⟩⟩, hk.1.1.2⟩)) hg (.inl rfl)); replace HO639 := A_ (Kd.N_afterv (v := (.slice (some ⟨go35, 0, none⟩) t634.length co35)) (v1 := (.slice (some ⟨go35, 0, none⟩) t634.length co35)) (ok := (fun k_ => (P1_ k_ ∨ w.heap.size ≤ k_) ∧ some k_ ≠ (.slice Ao45 t643.length co45 : Value).ownBlock)) (by (with_reducible repeat (first | apply Kd.N_alloc | apply Kd.N_drewN | apply Kd.N_drew)); exact Kd.N_mono HO639.out (fun _ hk => ⟨⟨hk.1.1, hk.2⟩, hk.1.2⟩)) hg (.inl rfl)); replace HO645 := A_ (Kd.R_over' (v := (.slice (some ⟨go35, 0, none⟩) t634.length co35)) (vR_ HO645.out) (Kd.S_typed HO636.out) (by decide) hg); replace HO636 := A_ (hp_); replace HB := A_ ((by rw [hw]; exact below_set (HB.out) GB35.out : Below w.heap.size w w48)); clear hg hw hp_; have p36 : 0 ≤ (t641 : Int) := of_decide_eq_true as_; have q36 : (t641 : Int) < ((t634.length : Int) : Int) := of_decide_eq_true as_; obtain ⟨_, ce36, hcl36, hM36, hcc36, hfr36, _, _⟩ := Kd.S_elem HO636.out z57 (t641 : Int) p36 q36; obtain ⟨ve36_0, ve36_4, rfl, ge36_0, ge36_4⟩ := k57_openM hM36; have hx36_0 : w48.cell? ⟨go35, (t641 : Int).toNat * 5, none⟩ = some (ve36_0) := hcc36 0 _ rfl; have hx36_1 : w48.cell? ⟨go35, (t641 : Int).toNat * 5 + 1, none⟩ = some (.bool ((rd_T57 y647 t641).f1)) := hcc36 1 _ rfl; have hx36_2 : w48.cell? ⟨go35, (t641 : Int).toNat * 5 + 2, none⟩ = some (.string ((rd_T57 y647 t641).f2)) := hcc36 2 _ rfl; have hx36_3 : w48.cell? ⟨go35, (t641 : Int).toNat * 5 + 3, none⟩ = some (.int .i64 ((rd_T57 y647 t641).f3)) := hcc36 3 _ rfl; have hx36_4 : w48.cell? ⟨go35, (t641 : Int).toNat * 5 + 4, none⟩ = some (ve36_4) := hcc36 4 _ rfl; have hf36_0 : w48.frozen? ⟨go35, (t641 : Int).toNat * 5, none⟩ = false := hfr36 0; have hf36_1 : w48.frozen? ⟨go35, (t641 : Int).toNat * 5 + 1, none⟩ = false := hfr36 1; have hf36_2 : w48.frozen? ⟨go35, (t641 : Int).toNat * 5 + 2, none⟩ = false := hfr36 2; have hf36_3 : w48.frozen? ⟨go35, (t641 : Int).toNat * 5 + 3, none⟩ = false := hfr36 3; have hf36_4 : w48.frozen? ⟨go35, (t641 : Int).toNat * 5 + 4, none⟩ = false := hfr36 4; (try clear hcl36); (try clear hcc36); (try clear hfr36); (try clear hM36); replace p36 := eq_true p36; replace q36 := eq_true q36; have HX49 := A_ (show Kd.S k57 57 w48 w.heap.size (fun k_ => ((fun k_ => (w.heap.size ≤ k_) ∧ some k_ ≠ (.slice Ao45 t643.length co45 : Value).ownBlock)) k_ ∧ ¬ ((fun _ => False)) k_) (.slice (some ⟨go35, 0, none⟩) t634.length co35) y647 from (by (with_reducible repeat (first | apply Kd.S_alloc | apply Kd.S_drewN | apply Kd.S_drew)); exact Kd.S_mono HO636.out (fun k_ hk => ⟨⟨hk.1, hk.2⟩, fun e_ => e_⟩))); obtain ⟨oki49, ce49, hcl49, hM49, hcc49, hfr49, hoki49, hH49⟩ := Kd.S_elem HX49.out z57 (t641 : Int) (of_decide_eq_true as_) (by have h_ : (t641 : Int) < ((t634.length : Int) : Int) := of_decide_eq_true as_; first | exact h_ | (have e_ := (Kd.S_reads' HO636.out).1; omega) | simpa using h_); obtain ⟨ve49_0, ve49_4, rfl, ge49_0, ge49_4⟩ := k57_openM hM49; have HP49 := Kd.S_seg hH49 (of_decide_eq_true as_) (by have h_ : (t641 : Int) < ((t634.length : Int) : Int) := of_decide_eq_true as_; first | exact h_ | (have e_ := (Kd.S_reads' HO636.out).1; omega) | simpa using h_) (seg := [.int .i64 a3]) (j := 3) (show 4 ≤ 5 from by decide) (x' := (⟨(rd_T57 y647 t641).f0, (rd_T57 y647 t641).f1, (rd_T57 y647 t641).f2, a3, (rd_T57 y647 t641).f4⟩ : S57)) (k57_mkM _ _ _ (⟨(rd_T57 y647 t641).f0, (rd_T57 y647 t641).f1, (rd_T57 y647 t641).f2, a3, (rd_T57 y647 t641).f4⟩ : S57) (Kd.R_mono ge49_0 (fun _ h_ => Or.inl h_)) (Kd.R_mono ge49_4 (fun _ h_ => Or.inl h_))) (fun _ hk => hk) (fun k_ hk_ => hk_.elim); have hx49_3 := hcc49 3 _ rfl; (try simp only [show (k57).sz = 5 from rfl, Nat.mul_one, Nat.add_zero] at hx49_3); have hf49_3 := hfr49 3; (try simp only [show (k57).sz = 5 from rfl, Nat.mul_one, Nat.add_zero] at hf49_3); (try clear hcl49); (try clear hcc49); (try clear hfr49); (try clear hM49); (try clear hoki49); (try clear hH49)) | ((with_reducible refine gate_store (t := 3) (p := 56) rfl ?_); refine store_event (t := 3) (p := 56) (v := ?vo_w50) (w1 := (w48.setCell ⟨go35, (t641 : Int).toNat * 5 + 3, none⟩ (.int .i64 a3))) ?hg ?ho ?hn ?hr ?_; (case ho => rfl); (case hg => rfl); (case hn => rfl); (case hr => first | (go_simp; done) | (go_simp; rfl)); intro w50 hw; have hg : w48.grownBy w50 (some go35) := (by rw [hw]; exact HP49.2); have hp_ : Kd.S k57 57 w50 w.heap.size (fun k_ => (w.heap.size ≤ k_) ∧ some k_ ≠ (.slice Ao45 t643.length co45 : Value).ownBlock) (.slice (some ⟨go35, 0, none⟩) t634.length co35) y648 := (by rw [hw, Ny648.out]; exact HP49.1); clear HP49; replace HO1 := A_ (Kd.V_afterv (v := (.slice (some ⟨go35, 0, none⟩) t634.length co35)) (v1 := (.slice (some ⟨go35, 0, none⟩) t634.length co35)) (ok := (fun k_ => (P1_ k_ ∨ w.heap.size ≤ k_) ∧ some k_ ≠ (.slice Ao40 y637.length co40 : Value).ownBlock ∧ some k_ ≠ (.slice Ao45 t643.length co45 : Value).ownBlock)) (vV_ HO1.out) hg (.inl rfl)); replace HO639 := A_ (Kd.N_afterv (v := (.slice (some ⟨go35, 0, none⟩) t634.length co35)) (v1 := (.slice (some ⟨go35, 0, none⟩) t634.length co35)) (ok := (fun k_ => (P1_ k_ ∨ w.heap.size ≤ k_) ∧ some k_ ≠ (.slice Ao45 t643.length co45 : Value).ownBlock)) (vN_ HO639.out) hg (.inl rfl)); replace HO645 := A_ (Kd.R_over' (v := (.slice (some ⟨go35, 0, none⟩) t634.length co35)) (vR_ HO645.out) (Kd.S_typed HO636.out) (by decide) hg); replace HO636 := A_ (hp_); replace HB := A_ ((by rw [hw]; exact below_set (HB.out) GB35.out : Below w.heap.size w w50)); clear hg hw hp_))
     go_ret2
     exact ⟨_, rr_, by (with_reducible repeat (first | apply Kd.S_alloc | apply Kd.S_drewN | apply Kd.S_drew)); exact Kd.S_mono HO636.out (fun _ _ => trivial), bB_⟩
   · replace c20 := Bool.eq_false_iff.mpr c20
     subst c20
     rw [if_neg nf_] at H
     simp only [Option.some.injEq, Prod.mk.injEq] at H
     obtain ⟨rfl, rfl⟩ := H
     go_enter Try.func27, Try.ntmps27
     go_wp2_with (first | ((with_reducible refine gate_callee (f := 66) rfl ?_); refine gL_ (some 14) Try.func66 #[.slice A0 l0.length c0] ?_; (with_reducible refine (impl_copyTree.calls k _ _ l0 t634 _ ?s1 ?s2 A5.out).mono ?_); (case s1 => exact cC_ HR0.out); (case s2 => exact HC0.out); rintro e w78 ⟨v635, rfl, ho0, hb⟩; refine ⟨_, rfl, ?_⟩; replace HO1 := A_ (Kd.V_elder' (vV_ HO1.out) (kb_ ho0) hb); have HO636 := A_ (Kd.S_lower (Kd.S_newM (M := fun k_ => (w.heap.size ≤ k_)) ho0 (below_size bB_) (fun k_ h_ => h_)) (below_size bB_)); replace HB := A_ (below_step bB_ hb); (try clear hb); (try clear hk); (try clear ho0)) | ((with_reducible refine gate_dst (N := 18) rfl ?_); refine Kd.N_lit (Kd.slice 9 Kd.string) _ 23 ?hg (N' := 18) ?hd (xs := ([l1] : List (List ByteArray))) (inner := [.slice A1 l1.length c1]) (ok := (fun k_ => (P1_ k_ ∨ w.heap.size ≤ k_) ∧ some k_ ≠ (v635 : Value).ownBlock)) (okp := (fun k_ => (P1_ k_ ∨ w.heap.size ≤ k_) ∧ some k_ ≠ (v635 : Value).ownBlock)) ?hr ?hp (fun _ hk => hk) ((show ∀ k_, w78.heap.size ≤ k_ → (fun k_ => (P1_ k_ ∨ w.heap.size ≤ k_) ∧ some k_ ≠ (v635 : Value).ownBlock) k_ from fun k_ hk => ⟨(.inr (Nat.le_trans (below_size bB_) hk)), Kd.fresh' (Kd.S_lt (vS_ HO636.out)) k_ hk⟩) _ (Nat.le_refl _)) (Below.refl _ _) (Nat.le_refl _) (by simp) ?_; (case hd => rfl); (case hg => rfl); (case hr => first | (go_simp; done) | (go_simp; rfl)); (case hp => exact (Reps.one (show Kd.FK (Kd.slice 9 Kd.string) _ _ l1 [.slice A1 l1.length c1] from (Kd.FK_slice_mk (Kd.V_reads' (Kd.V_mono (ok' := (fun k_ => (P1_ k_ ∨ w.heap.size ≤ k_) ∧ some k_ ≠ (v635 : Value).ownBlock)) (HO1.out) (fun k_ hk => ⟨hk.1, hk.2⟩))).2.1 (Kd.V_F (Kd.V_mono (ok' := (fun k_ => (P1_ k_ ∨ w.heap.size ≤ k_) ∧ some k_ ≠ (v635 : Value).ownBlock)) (HO1.out) (fun k_ hk => ⟨hk.1, hk.2⟩))))) (Reps.none _ _))); intro v638 w79 ho80 hb hg_ hnew_; clear hg_ hnew_; (first | rw [← Ny637.out] at ho80 | (simp only [Int.reduceToNat] at ho80; rw [← Ny637.out] at ho80)); replace HO1 := A_ (Kd.V_elder' (vV_ HO1.out) (kb_ ho80) hb); replace HO636 := A_ (Kd.S_below (vS_ HO636.out) hb); have HO639 := A_ (Kd.N_lower ho80 (below_size bB_)); replace HB := A_ (below_step bB_ hb); clear hb ho80; obtain ⟨Ao81, co81, eo81⟩ := Kd.N_slice HO639.out; subst eo81) | ((with_reducible refine gate_callee (f := 65) rfl ?_); refine gL_ (some 19) Try.func65 #[.slice A0 l0.length c0, .int .i64 a3, .slice Ao81 y637.length co81] ?_; (with_reducible refine (impl_opForm.calls k _ _ l0 a3 _ _ y637 t640 _ ?s1 ?s2 ?s3 ?s4 A6.out).mono ?_); (case s1 => exact cC_ (Kd.C_below HR0.out HB.out)); (case s2 => exact HC0.out); (case s3 => exact cC_ (Kd.N_reads' HO639.out).2.2); (case s4 => exact (Kd.N_reads' HO639.out).2.1); rintro e w82 ⟨rfl, hb⟩; refine ⟨_, rfl, ?_⟩; replace HO1 := A_ (Kd.V_below (vV_ HO1.out) hb); replace HO636 := A_ (Kd.S_below (vS_ HO636.out) hb); replace HO639 := A_ (Kd.N_below (vN_ HO639.out) hb); replace HB := A_ (below_step bB_ hb); (try clear hb); (try clear hk)) | ((with_reducible refine gate_callee (f := 42) rfl ?_); refine gL_ (some 26) Try.func42 #[.slice A0 l0.length c0, .slice A1 l1.length c1] ?_; (with_reducible refine (impl_FindRes.calls k _ _ l0 _ _ l1 t641 _ ?s1 ?s2 ?s3 ?s4 A8.out).mono ?_); (case s1 => exact cC_ (Kd.C_below HR0.out HB.out)); (case s2 => exact HC0.out); (case s3 => exact cC_ (Kd.V_reads' HO1.out).2.2); (case s4 => exact (Kd.V_reads' HO1.out).2.1); rintro e w83 ⟨rfl, hb⟩; refine ⟨_, rfl, ?_⟩; replace HO1 := A_ (Kd.V_below (vV_ HO1.out) hb); replace HO636 := A_ (Kd.S_below (vS_ HO636.out) hb); replace HO639 := A_ (Kd.N_below (vN_ HO639.out) hb); replace HB := A_ (below_step bB_ hb); (try clear hb); (try clear hk)) | ((with_reducible refine gate_callee (f := 43) rfl ?_); refine gL_ (some 30) Try.func43 #[.slice A0 l0.length c0, .slice A1 l1.length c1] ?_; (with_reducible refine (impl_IsColl.calls k _ _ l0 _ _ l1 false _ ?s1 ?s2 ?s3 ?s4 A9.out).mono ?_); (case s1 => exact cC_ (Kd.C_below HR0.out HB.out)); (case s2 => exact HC0.out); (case s3 => exact cC_ (Kd.V_reads' HO1.out).2.2); (case s4 => exact (Kd.V_reads' HO1.out).2.1); rintro e w84 ⟨rfl, hb⟩; refine ⟨_, rfl, ?_⟩; replace HO1 := A_ (Kd.V_below (vV_ HO1.out) hb); replace HO636 := A_ (Kd.S_below (vS_ HO636.out) hb); replace HO639 := A_ (Kd.N_below (vN_ HO639.out) hb); replace HB := A_ (below_step bB_ hb); (try clear hb); (try clear hk)) | ((with_reducible refine gate_callee (f := 44) rfl ?_); refine gL_ (some 35) Try.func44 #[.slice A1 l1.length c1] ?_; (with_reducible refine (impl_Above.calls _ _ l1 t643 _ ?s1 ?s2 A18.out).mono ?_); (case s1 => exact cC_ (Kd.V_reads' HO1.out).2.2); (case s2 => exact (Kd.V_reads' HO1.out).2.1); rintro e w85 ⟨v644, rfl, ho0, hb⟩; refine ⟨_, rfl, ?_⟩; replace HO1 := A_ (Kd.V_elder' (vV_ HO1.out) (kb_ ho0) hb); replace HO636 := A_ (Kd.S_elder' (vS_ HO636.out) (kb_ ho0) hb); replace HO639 := A_ (Kd.N_elder' (vN_ HO639.out) (kb_ ho0) hb); have HO645 := A_ (Kd.R_lower (Kd.R_newM (M := fun k_ => (w.heap.size ≤ k_)) ho0 (below_size bB_) (fun k_ h_ => h_)) (below_size bB_)); replace HB := A_ (below_step bB_ hb); (try clear hb); (try clear hk); (try clear ho0); obtain ⟨Ao86, co86, eo86⟩ := Kd.R_slice HO645.out; subst eo86) | ((with_reducible refine gate_callee (f := 43) rfl ?_); refine gL_ (some 36) Try.func43 #[.slice A0 l0.length c0, .slice Ao86 t643.length co86] ?_; (with_reducible refine (impl_IsColl.calls k _ _ l0 _ _ t643 false _ ?s1 ?s2 ?s3 ?s4 A19.out).mono ?_); (case s1 => exact cC_ (Kd.C_below HR0.out HB.out)); (case s2 => exact HC0.out); (case s3 => exact cC_ (Kd.R_reads' HO645.out).2.2); (case s4 => exact (Kd.R_reads' HO645.out).2.1); rintro e w87 ⟨rfl, hb⟩; refine ⟨_, rfl, ?_⟩; replace HO1 := A_ (Kd.V_below (vV_ HO1.out) hb); replace HO636 := A_ (Kd.S_below (vS_ HO636.out) hb); replace HO639 := A_ (Kd.N_below (vN_ HO639.out) hb); replace HO645 := A_ (Kd.R_below (vR_ HO645.out) hb); replace HB := A_ (below_step bB_ hb); (try clear hb); (try clear hk)))
     go_ret2
     exact ⟨_, rr_, by (with_reducible repeat (first | apply Kd.S_alloc | apply Kd.S_drewN | apply Kd.S_drew)); exact Kd.S_mono HO636.out (fun _ _ => trivial), bB_⟩
end Go.Proofs.Ytbgggcgjijljkaa.Q

/- A printed walk's contract told more sharply: the result's elements' rows lie apart. No condition. -/
namespace Go.Proofs.Ytbgggcgjijljkaa.Q
open Go.RowKit Go.Proofs.YtbgggcgjijljkaaW.PrintWords Go.Proofs.YtbgggcgjijljkaaW.PrintLast Go.Proofs.YtbgggcgjijljkaaW.PrintMore
attribute [local go_sem] max2_int min2_int max_two min_two max_three min_three max_four min_four
set_option linter.unusedVariables false
set_option linter.unusedSimpArgs false
abbrev spec_PutFileX.f (k : Nat) (l0 : List (S57)) (l1 : List ByteArray) (a2 : ByteArray) (a3 : Int) : Option ((List (S57)) × Int) := spec_PutFile.f k l0 l1 a2 a3
theorem spec_PutFileX.isSome_set (W : World) (p : Addr) (u : Value) (a : Addr) : ((W.setCell p u).cell? a).isSome = (W.cell? a).isSome := by
 unfold World.cell? World.setCell
 simp only [Array.getElem?_modify]
 by_cases h : p.block = a.block
 · simp only [h, if_true]
   cases hb : W.heap[a.block]? with
   | none => simp
   | some o =>
    cases o with
    | cells c e f =>
     simp only [Option.map_some]
     by_cases hs : a.spot.isSome = true
     · simp [hs]
     · by_cases hp : p.spot.isSome = true
       · simp [hs, hp]
       · simp [hs, hp, Array.getElem?_setIfInBounds]
         split
         · rename_i he; rw [he]; by_cases hc : a.off < c.size <;> simp [hc]
         · rfl
    | _ => simp
 · simp only [h, if_false]
set_option maxHeartbeats 8000000 in
set_option maxRecDepth 100000 in
theorem spec_PutFileX.calls (k : Nat) (A0 : Option Addr) (c0 : Nat) (l0 : List (S57)) (A1 : Option Addr) (c1 : Nat) (l1 : List ByteArray) (a2 : ByteArray) (a3 : Int) (r1 : List (S57)) (r2 : Int) (w : World) (hr0 : Kd.C k57 w A0 l0.length l0) (hc0 : l0.length ≤ c0) (hr1 : Kd.C Kd.string w A1 l1.length l1) (hc1 : l1.length ≤ c1) (h : spec_PutFileX.f k l0 l1 a2 a3 = some (r1, r2)) :
 Calls Try.prog 26 #[.slice A0 l0.length c0, .slice A1 l1.length c1, .string a2, .int .i64 a3] w fun e w' => ∃ v0_ : Value, e = .returned (.tuple #[v0_, .int .i64 r2]) ∧ Kd.S k57 57 w' w.heap.size (fun _ => True) v0_ r1 ∧ Below w.heap.size w w' := by
 have hu57 := Try.underlying57
 have HR0 := Aside0.mk hr0
 have HC0 := Aside0.mk hc0
 clear hr0 hc0
 have HR1 := Aside0.mk hr1
 have HC1 := Aside0.mk hc1
 clear hr1 hc1
 have HB := A_ (Below.refl w.heap.size w)
 have H : ((spec_l11May.f k l0 l1 a3).bind fun t616 => ((spec_FindRes.f k l0 l1).bind fun t617 => (if t616 = 0 then ((spec_IsColl.f k l0 l1).bind fun t618 => (if t618 = true then (spec_PutFile.j0 k l0 l1 a2 a3 405 t617) else ((spec_Above.f l1).bind fun t619 => ((spec_IsColl.f k l0 t619).bind fun t622 => (if t622 = true then (if (a2.size : Int) > 200 then (spec_PutFile.j0 k l0 l1 a2 a3 413 t617) else (if t617 < 0 then (if (l0.length : Int) ≥ 12 then (spec_PutFile.j0 k l0 l1 a2 a3 507 t617) else (spec_PutFile.j0 k l0 l1 a2 a3 t616 t617)) else (spec_PutFile.j0 k l0 l1 a2 a3 t616 t617))) else (spec_PutFile.j0 k l0 l1 a2 a3 409 t617)))))) else (spec_PutFile.j0 k l0 l1 a2 a3 t616 t617)))) = some (r1, r2) := h
 clear h
 obtain ⟨t616, A5, H⟩ := bo_ H
 (try dsimp only at H)
 obtain ⟨t617, A6, H⟩ := bo_ H
 (try dsimp only at H)
 have HC7 := Aside0.mk H
 clear H
 go_enter Try.func26, Try.ntmps26
 have hss_ := spec_PutFileX.isSome_set
 go_upto_block 0 with (first | ((with_reducible refine gate_callee (f := 60) rfl ?_); refine gL_ (some 16) Try.func60 #[.slice A0 l0.length c0, .slice A1 l1.length c1, .int .i64 a3] ?_; (with_reducible refine (spec_l11May.calls k _ _ l0 _ _ l1 a3 t616 _ ?s1 ?s2 ?s3 ?s4 A5.out).mono ?_); (case s1 => exact cC_ HR0.out); (case s2 => exact HC0.out); (case s3 => exact cC_ HR1.out); (case s4 => exact HC1.out); rintro e w8 ⟨rfl, hb⟩; refine ⟨_, rfl, ?_⟩; replace HB := A_ (below_step bB_ hb); (try clear hb)) | ((with_reducible refine gate_callee (f := 61) rfl ?_); refine gL_ (some 19) Try.func61 #[.slice A0 l0.length c0, .slice A1 l1.length c1] ?_; (with_reducible refine (spec_FindRes.calls k _ _ l0 _ _ l1 t617 _ ?s1 ?s2 ?s3 ?s4 A6.out).mono ?_); (case s1 => exact cC_ (Kd.C_below HR0.out HB.out)); (case s2 => exact HC0.out); (case s3 => exact cC_ (Kd.C_below HR1.out HB.out)); (case s4 => exact HC1.out); rintro e w' ⟨rfl, ⟨nd, rfl⟩⟩; refine ⟨_, rfl, ?_⟩))
 (try simp only [Act.put, List.setIfInBounds_toArray, List.set_cons_zero, List.set_cons_succ])
 go_cut [10] (fun v10 wc => ∃ (kq : Nat) (x10_6 : Int), v10 = .int .i64 x10_6 ∧ Aside0 (spec_PutFile.j0 kq l0 l1 a2 a3 x10_6 t617 = some (r1, r2)) ∧ Aside0 (kq ≤ k) ∧ Aside0 (Below w.heap.size w wc))
 case first =>
  have H := HC7.out
  clear HC7
  by_cases c9 : t616 = 0
  rotate_left
  · rw [if_neg c9] at H
    have c9b0 : (t616 == 0) = false := beq_eq_false_iff_ne.mpr c9
    have c9b1 : (t616 != 0) = true := bne_iff_ne.mpr c9
    (first | rw [c9b0] | (simp only [i64_w, i32_w]; rw [c9b0]) | skip)
    have H' := Aside0.mk H
    clear H
    go_wp2
    go_meet
    case rel => exact ⟨_, (t616), rs_, H', ⟨by first | omega | exact Nat.le_refl _⟩, ⟨bB_⟩⟩
  rw [if_pos c9] at H
  have c9b0 : (t616 == 0) = true := beq_iff_eq.mpr c9
  have c9b1 : (t616 != 0) = false := bne_eq_false_iff_eq.mpr c9
  clear c9
  (first | rw [c9b0] | (simp only [i64_w, i32_w]; rw [c9b0]) | skip)
  obtain ⟨t618, A10, H⟩ := bo_ H
  (try dsimp only at H)
  by_cases c11 : t618 = true
  · subst c11
    rw [if_pos rfl] at H
    have H' := Aside0.mk H
    clear H
    go_wp2_with (first | ((with_reducible refine gate_callee (f := 73) rfl ?_); refine gL_ (some 26) Try.func73 #[.slice A0 l0.length c0, .slice A1 l1.length c1] ?_; (with_reducible refine (spec_IsColl.calls k _ _ l0 _ _ l1 true _ ?s1 ?s2 ?s3 ?s4 A10.out).mono ?_); (case s1 => exact cC_ (Kd.C_below HR0.out HB.out)); (case s2 => exact HC0.out); (case s3 => exact cC_ (Kd.C_below HR1.out HB.out)); (case s4 => exact HC1.out); rintro e w' ⟨rfl, ⟨nd, rfl⟩⟩; refine ⟨_, rfl, ?_⟩))
    go_meet
    case rel => exact ⟨_, (405), rs_, H', ⟨by first | omega | exact Nat.le_refl _⟩, ⟨bB_⟩⟩
  · replace c11 := Bool.eq_false_iff.mpr c11
    subst c11
    rw [if_neg nf_] at H
    obtain ⟨t619, A12, H⟩ := bo_ H
    (try dsimp only at H)
    obtain ⟨t622, A13, H⟩ := bo_ H
    (try dsimp only at H)
    by_cases c14 : t622 = true
    · subst c14
      rw [if_pos rfl] at H
      by_cases c15 : (a2.size : Int) > 200
      · rw [if_pos c15] at H
        have c15b0 : decide (200 < (a2.size : Int)) = true := decide_eq_true c15
        have c15b1 : decide (200 < a2.size) = true := decide_eq_true (by omega)
        clear c15
        have H' := Aside0.mk H
        clear H
        go_wp2_with (first | ((with_reducible refine gate_callee (f := 73) rfl ?_); refine gL_ (some 26) Try.func73 #[.slice A0 l0.length c0, .slice A1 l1.length c1] ?_; (with_reducible refine (spec_IsColl.calls k _ _ l0 _ _ l1 false _ ?s1 ?s2 ?s3 ?s4 A10.out).mono ?_); (case s1 => exact cC_ (Kd.C_below HR0.out HB.out)); (case s2 => exact HC0.out); (case s3 => exact cC_ (Kd.C_below HR1.out HB.out)); (case s4 => exact HC1.out); rintro e w' ⟨rfl, ⟨nd, rfl⟩⟩; refine ⟨_, rfl, ?_⟩) | ((with_reducible refine gate_callee (f := 74) rfl ?_); refine gL_ (some 30) Try.func74 #[.slice A1 l1.length c1] ?_; (with_reducible refine (spec_Above.calls _ _ l1 t619 _ ?s1 ?s2 A12.out).mono ?_); (case s1 => exact cC_ (Kd.C_below HR1.out bB_)); (case s2 => exact HC1.out); rintro e w16 ⟨v620, rfl, ho0, hb⟩; refine ⟨_, rfl, ?_⟩; have HO621 := A_ (Kd.R_lower ho0 (below_size bB_)); replace HB := A_ (below_step bB_ hb); (try clear hb); (try clear ho0); obtain ⟨Ao17, co17, eo17⟩ := Kd.R_slice HO621.out; subst eo17) | ((with_reducible refine gate_callee (f := 73) rfl ?_); refine gL_ (some 31) Try.func73 #[.slice A0 l0.length c0, .slice Ao17 t619.length co17] ?_; (with_reducible refine (spec_IsColl.calls k _ _ l0 _ _ t619 true _ ?s1 ?s2 ?s3 ?s4 A13.out).mono ?_); (case s1 => exact cC_ (Kd.C_below HR0.out HB.out)); (case s2 => exact HC0.out); (case s3 => exact cC_ (Kd.R_reads' HO621.out).2.2); (case s4 => exact (Kd.R_reads' HO621.out).2.1); rintro e w' ⟨rfl, ⟨nd, rfl⟩⟩; refine ⟨_, rfl, ?_⟩))
        go_meet
        case rel => exact ⟨_, (413), rs_, H', ⟨by first | omega | exact Nat.le_refl _⟩, ⟨bB_⟩⟩
      rw [if_neg c15] at H
      have c15b0 : decide (200 < (a2.size : Int)) = false := decide_eq_false c15
      have c15b1 : decide (200 < a2.size) = false := decide_eq_false (by omega)
      clear c15
      by_cases c18 : t617 < 0
      rotate_left
      · rw [if_neg c18] at H
        have c18b0 : decide (t617 < 0) = false := decide_eq_false c18
        clear c18
        have H' := Aside0.mk H
        clear H
        go_wp2_with (first | ((with_reducible refine gate_callee (f := 73) rfl ?_); refine gL_ (some 26) Try.func73 #[.slice A0 l0.length c0, .slice A1 l1.length c1] ?_; (with_reducible refine (spec_IsColl.calls k _ _ l0 _ _ l1 false _ ?s1 ?s2 ?s3 ?s4 A10.out).mono ?_); (case s1 => exact cC_ (Kd.C_below HR0.out HB.out)); (case s2 => exact HC0.out); (case s3 => exact cC_ (Kd.C_below HR1.out HB.out)); (case s4 => exact HC1.out); rintro e w' ⟨rfl, ⟨nd, rfl⟩⟩; refine ⟨_, rfl, ?_⟩) | ((with_reducible refine gate_callee (f := 74) rfl ?_); refine gL_ (some 30) Try.func74 #[.slice A1 l1.length c1] ?_; (with_reducible refine (spec_Above.calls _ _ l1 t619 _ ?s1 ?s2 A12.out).mono ?_); (case s1 => exact cC_ (Kd.C_below HR1.out bB_)); (case s2 => exact HC1.out); rintro e w24 ⟨v620, rfl, ho0, hb⟩; refine ⟨_, rfl, ?_⟩; have HO621 := A_ (Kd.R_lower ho0 (below_size bB_)); replace HB := A_ (below_step bB_ hb); (try clear hb); (try clear ho0); obtain ⟨Ao25, co25, eo25⟩ := Kd.R_slice HO621.out; subst eo25) | ((with_reducible refine gate_callee (f := 73) rfl ?_); refine gL_ (some 31) Try.func73 #[.slice A0 l0.length c0, .slice Ao25 t619.length co25] ?_; (with_reducible refine (spec_IsColl.calls k _ _ l0 _ _ t619 true _ ?s1 ?s2 ?s3 ?s4 A13.out).mono ?_); (case s1 => exact cC_ (Kd.C_below HR0.out HB.out)); (case s2 => exact HC0.out); (case s3 => exact cC_ (Kd.R_reads' HO621.out).2.2); (case s4 => exact (Kd.R_reads' HO621.out).2.1); rintro e w' ⟨rfl, ⟨nd, rfl⟩⟩; refine ⟨_, rfl, ?_⟩))
        go_meet
        case rel => exact ⟨_, (t616), rs_, H', ⟨by first | omega | exact Nat.le_refl _⟩, ⟨bB_⟩⟩
      rw [if_pos c18] at H
      have c18b0 : decide (t617 < 0) = true := decide_eq_true c18
      clear c18
      by_cases c19 : (l0.length : Int) ≥ 12
      · rw [if_pos c19] at H
        have c19b0 : decide (12 ≤ (l0.length : Int)) = true := decide_eq_true c19
        have c19b1 : decide (12 ≤ l0.length) = true := decide_eq_true (by omega)
        clear c19
        have H' := Aside0.mk H
        clear H
        go_wp2_with (first | ((with_reducible refine gate_callee (f := 73) rfl ?_); refine gL_ (some 26) Try.func73 #[.slice A0 l0.length c0, .slice A1 l1.length c1] ?_; (with_reducible refine (spec_IsColl.calls k _ _ l0 _ _ l1 false _ ?s1 ?s2 ?s3 ?s4 A10.out).mono ?_); (case s1 => exact cC_ (Kd.C_below HR0.out HB.out)); (case s2 => exact HC0.out); (case s3 => exact cC_ (Kd.C_below HR1.out HB.out)); (case s4 => exact HC1.out); rintro e w' ⟨rfl, ⟨nd, rfl⟩⟩; refine ⟨_, rfl, ?_⟩) | ((with_reducible refine gate_callee (f := 74) rfl ?_); refine gL_ (some 30) Try.func74 #[.slice A1 l1.length c1] ?_; (with_reducible refine (spec_Above.calls _ _ l1 t619 _ ?s1 ?s2 A12.out).mono ?_); (case s1 => exact cC_ (Kd.C_below HR1.out bB_)); (case s2 => exact HC1.out); rintro e w20 ⟨v620, rfl, ho0, hb⟩; refine ⟨_, rfl, ?_⟩; have HO621 := A_ (Kd.R_lower ho0 (below_size bB_)); replace HB := A_ (below_step bB_ hb); (try clear hb); (try clear ho0); obtain ⟨Ao21, co21, eo21⟩ := Kd.R_slice HO621.out; subst eo21) | ((with_reducible refine gate_callee (f := 73) rfl ?_); refine gL_ (some 31) Try.func73 #[.slice A0 l0.length c0, .slice Ao21 t619.length co21] ?_; (with_reducible refine (spec_IsColl.calls k _ _ l0 _ _ t619 true _ ?s1 ?s2 ?s3 ?s4 A13.out).mono ?_); (case s1 => exact cC_ (Kd.C_below HR0.out HB.out)); (case s2 => exact HC0.out); (case s3 => exact cC_ (Kd.R_reads' HO621.out).2.2); (case s4 => exact (Kd.R_reads' HO621.out).2.1); rintro e w' ⟨rfl, ⟨nd, rfl⟩⟩; refine ⟨_, rfl, ?_⟩))
        go_meet
        case rel => exact ⟨_, (507), rs_, H', ⟨by first | omega | exact Nat.le_refl _⟩, ⟨bB_⟩⟩
      rw [if_neg c19] at H
      have c19b0 : decide (12 ≤ (l0.length : Int)) = false := decide_eq_false c19
      have c19b1 : decide (12 ≤ l0.length) = false := decide_eq_false (by omega)
      clear c19
      have H' := Aside0.mk H
      clear H
      go_wp2_with (first | ((with_reducible refine gate_callee (f := 73) rfl ?_); refine gL_ (some 26) Try.func73 #[.slice A0 l0.length c0, .slice A1 l1.length c1] ?_; (with_reducible refine (spec_IsColl.calls k _ _ l0 _ _ l1 false _ ?s1 ?s2 ?s3 ?s4 A10.out).mono ?_); (case s1 => exact cC_ (Kd.C_below HR0.out HB.out)); (case s2 => exact HC0.out); (case s3 => exact cC_ (Kd.C_below HR1.out HB.out)); (case s4 => exact HC1.out); rintro e w' ⟨rfl, ⟨nd, rfl⟩⟩; refine ⟨_, rfl, ?_⟩) | ((with_reducible refine gate_callee (f := 74) rfl ?_); refine gL_ (some 30) Try.func74 #[.slice A1 l1.length c1] ?_; (with_reducible refine (spec_Above.calls _ _ l1 t619 _ ?s1 ?s2 A12.out).mono ?_); (case s1 => exact cC_ (Kd.C_below HR1.out bB_)); (case s2 => exact HC1.out); rintro e w22 ⟨v620, rfl, ho0, hb⟩; refine ⟨_, rfl, ?_⟩; have HO621 := A_ (Kd.R_lower ho0 (below_size bB_)); replace HB := A_ (below_step bB_ hb); (try clear hb); (try clear ho0); obtain ⟨Ao23, co23, eo23⟩ := Kd.R_slice HO621.out; subst eo23) | ((with_reducible refine gate_callee (f := 73) rfl ?_); refine gL_ (some 31) Try.func73 #[.slice A0 l0.length c0, .slice Ao23 t619.length co23] ?_; (with_reducible refine (spec_IsColl.calls k _ _ l0 _ _ t619 true _ ?s1 ?s2 ?s3 ?s4 A13.out).mono ?_); (case s1 => exact cC_ (Kd.C_below HR0.out HB.out)); (case s2 => exact HC0.out); (case s3 => exact cC_ (Kd.R_reads' HO621.out).2.2); (case s4 => exact (Kd.R_reads' HO621.out).2.1); rintro e w' ⟨rfl, ⟨nd, rfl⟩⟩; refine ⟨_, rfl, ?_⟩))
      go_meet
      case rel => exact ⟨_, (t616), rs_, H', ⟨by first | omega | exact Nat.le_refl _⟩, ⟨bB_⟩⟩
    · replace c14 := Bool.eq_false_iff.mpr c14
      subst c14
      rw [if_neg nf_] at H
      have H' := Aside0.mk H
      clear H
      go_wp2_with (first | ((with_reducible refine gate_callee (f := 73) rfl ?_); refine gL_ (some 26) Try.func73 #[.slice A0 l0.length c0, .slice A1 l1.length c1] ?_; (with_reducible refine (spec_IsColl.calls k _ _ l0 _ _ l1 false _ ?s1 ?s2 ?s3 ?s4 A10.out).mono ?_); (case s1 => exact cC_ (Kd.C_below HR0.out HB.out)); (case s2 => exact HC0.out); (case s3 => exact cC_ (Kd.C_below HR1.out HB.out)); (case s4 => exact HC1.out); rintro e w' ⟨rfl, ⟨nd, rfl⟩⟩; refine ⟨_, rfl, ?_⟩) | ((with_reducible refine gate_callee (f := 74) rfl ?_); refine gL_ (some 30) Try.func74 #[.slice A1 l1.length c1] ?_; (with_reducible refine (spec_Above.calls _ _ l1 t619 _ ?s1 ?s2 A12.out).mono ?_); (case s1 => exact cC_ (Kd.C_below HR1.out bB_)); (case s2 => exact HC1.out); rintro e w26 ⟨v620, rfl, ho0, hb⟩; refine ⟨_, rfl, ?_⟩; have HO621 := A_ (Kd.R_lower ho0 (below_size bB_)); replace HB := A_ (below_step bB_ hb); (try clear hb); (try clear ho0); obtain ⟨Ao27, co27, eo27⟩ := Kd.R_slice HO621.out; subst eo27) | ((with_reducible refine gate_callee (f := 73) rfl ?_); refine gL_ (some 31) Try.func73 #[.slice A0 l0.length c0, .slice Ao27 t619.length co27] ?_; (with_reducible refine (spec_IsColl.calls k _ _ l0 _ _ t619 false _ ?s1 ?s2 ?s3 ?s4 A13.out).mono ?_); (case s1 => exact cC_ (Kd.C_below HR0.out HB.out)); (case s2 => exact HC0.out); (case s3 => exact cC_ (Kd.R_reads' HO621.out).2.2); (case s4 => exact (Kd.R_reads' HO621.out).2.1); rintro e w' ⟨rfl, ⟨nd, rfl⟩⟩; refine ⟨_, rfl, ?_⟩))
      go_meet
      case rel => exact ⟨_, (409), rs_, H', ⟨by first | omega | exact Nat.le_refl _⟩, ⟨bB_⟩⟩
 case rest =>
  clear HC7
  try clear c1
  try clear c2
  try clear p2
  try clear c6
  try clear c7
  try clear c9
  try clear c9b0
  try clear c9b1
  try clear c11
  try clear c14
  try clear c15
  try clear c15b0
  try clear c15b1
  try clear c18
  try clear c18b0
  try clear c19
  try clear c19b0
  try clear c19b1
  try clear c26
  obtain ⟨kq, x10_6, rfl, HA, HJ6, HB⟩ := hcut
  cases kq with
  | zero => exact absurd HA.out (by simp [spec_PutFile.j0])
  | succ kj6 =>
   have H := HA.out
   clear HA
   simp only [spec_PutFile.j0] at H
   by_cases c28 : x10_6 = 0
   rotate_left
   · rw [if_neg c28] at H
     have c28b0 : (x10_6 == 0) = false := beq_eq_false_iff_ne.mpr c28
     have c28b1 : (x10_6 != 0) = true := bne_iff_ne.mpr c28
     obtain ⟨t623, A40, H⟩ := bo_ H
     (try dsimp only at H)
     simp only [Option.some.injEq, Prod.mk.injEq] at H
     obtain ⟨rfl, rfl⟩ := H
     go_wp2_with (first | ((with_reducible refine gate_callee (f := 62) rfl ?_); refine gL_ (some 48) Try.func62 #[.slice A0 l0.length c0] ?_; (with_reducible refine (spec_l10CopyAll.calls kj6 _ _ l0 t623 _ ?s1 ?s2 A40.out).mono ?_); (case s1 => exact cC_ (Kd.C_below HR0.out HB.out)); (case s2 => exact HC0.out); rintro e w41 ⟨v624, rfl, ho0, hb⟩; refine ⟨_, rfl, ?_⟩; have HO625 := A_ (Kd.S_lower ho0 (below_size bB_)); replace HB := A_ (below_step bB_ hb); (try clear hb); (try clear ho0)))
     go_ret2
     exact ⟨_, rr_, by (with_reducible repeat (first | apply Kd.S_alloc | apply Kd.S_drewN | apply Kd.S_drew)); exact HO625.out, bB_⟩
   rw [if_pos c28] at H
   have c28b0 : (x10_6 == 0) = true := beq_iff_eq.mpr c28
   have c28b1 : (x10_6 != 0) = false := bne_eq_false_iff_eq.mpr c28
   clear c28
   by_cases c29 : t617 < 0
   · rw [if_pos c29] at H
     have c29b0 : decide (t617 < 0) = true := decide_eq_true c29
     clear c29
     obtain ⟨t627, A30, H⟩ := bo_ H
     (try dsimp only at H)
     simp only [Option.some.injEq, Prod.mk.injEq] at H
     obtain ⟨rfl, rfl⟩ := H
     go_wp2_with (first | ((with_reducible refine gate_dst (N := 12) rfl ?_); (try (refine gate_guard (by rfl) ?_; dsimp only)); refine bx_ (N := 12) (cs := #[.slice none 0 0, .bool false, .string (⟨#[]⟩ : ByteArray), .int .i64 0, .slice none 0 0]) (t := 57) ?_; intro gb626 hg w31 hbox hb; have BK626 := A_ (hbox); have GW626 := A_ (ge_ hg bB_ : w.heap.size ≤ gb626); have GE626 := A_ (ge_ hg bB_ : w.heap.size ≤ gb626); replace HB := A_ (below_step bB_ hb); clear hb hbox hg; obtain ⟨hcz32_0, hcz32_1, hcz32_2, hcz32_3, hcz32_4, hfz32_0, hfz32_1, hfz32_2, hfz32_3, hfz32_4⟩ := cz5_ BK626.out) | ((with_reducible refine gate_callee (f := 75) rfl ?_); refine gL_ (some 58) Try.func75 #[.slice A0 l0.length c0, .agg #[.slice A1 l1.length c1, .bool false, .string a2, .int .i64 a3, .slice none 0 0]] ?_; (refine (spec_l11Put.calls kj6 _ _ l0 _ _ l1 false a2 a3 _ _ ([] : List (S72)) t627 _ ?s1 ?s2 ?s3 ?s4 ?s5 ?s6 A30.out).mono ?_); (case s1 => exact Kd.C_below HR0.out (bG_ GE626.out)); (case s2 => exact HC0.out); (case s3 => exact Kd.C_below HR1.out (bG_ GE626.out)); (case s4 => exact HC1.out); (case s5 => exact Kd.C_nil _ _); (case s6 => exact Nat.le_refl _); rintro e w33 ⟨v628, rfl, ho0, hb⟩; refine ⟨_, rfl, ?_⟩; have HO629 := A_ (Kd.S_lower (Kd.S_newB ho0 (g := gb626) (o := .cells #[.slice A1 l1.length c1, .bool false, .string a2, .int .i64 a3, .slice none 0 0] 57 (0, 0)) (by (with_reducible repeat (first | refine blk_drewN ?_ _ | refine blk_drew ?_ | refine blk_alloc ?_ _)); refine blk_put (cs := #[.slice A1 l1.length c1, .bool false, .string a2, .int .i64 a3, .slice none 0 0]) ?_ 4 _ rfl; (with_reducible repeat (first | refine blk_drewN ?_ _ | refine blk_drew ?_ | refine blk_alloc ?_ _)); refine blk_put (cs := #[.slice A1 l1.length c1, .bool false, .string a2, .int .i64 0, .slice none 0 0]) ?_ 3 _ rfl; (with_reducible repeat (first | refine blk_drewN ?_ _ | refine blk_drew ?_ | refine blk_alloc ?_ _)); refine blk_put (cs := #[.slice A1 l1.length c1, .bool false, .string (⟨#[]⟩ : ByteArray), .int .i64 0, .slice none 0 0]) ?_ 2 _ rfl; (with_reducible repeat (first | refine blk_drewN ?_ _ | refine blk_drew ?_ | refine blk_alloc ?_ _)); refine blk_put (cs := #[.slice A1 l1.length c1, .bool false, .string (⟨#[]⟩ : ByteArray), .int .i64 0, .slice none 0 0]) ?_ 1 _ rfl; (with_reducible repeat (first | refine blk_drewN ?_ _ | refine blk_drew ?_ | refine blk_alloc ?_ _)); refine blk_put (cs := #[.slice none 0 0, .bool false, .string (⟨#[]⟩ : ByteArray), .int .i64 0, .slice none 0 0]) ?_ 0 _ rfl; (with_reducible repeat (first | refine blk_drewN ?_ _ | refine blk_drew ?_ | refine blk_alloc ?_ _)); exact BK626.out)) (below_size (bG_ GE626.out))); replace BK626 := A_ (blk_below (g := gb626) (o := .cells #[.slice A1 l1.length c1, .bool false, .string a2, .int .i64 a3, .slice none 0 0] 57 (0, 0)) (by (with_reducible repeat (first | refine blk_drewN ?_ _ | refine blk_drew ?_ | refine blk_alloc ?_ _)); refine blk_put (cs := #[.slice A1 l1.length c1, .bool false, .string a2, .int .i64 a3, .slice none 0 0]) ?_ 4 _ rfl; (with_reducible repeat (first | refine blk_drewN ?_ _ | refine blk_drew ?_ | refine blk_alloc ?_ _)); refine blk_put (cs := #[.slice A1 l1.length c1, .bool false, .string a2, .int .i64 0, .slice none 0 0]) ?_ 3 _ rfl; (with_reducible repeat (first | refine blk_drewN ?_ _ | refine blk_drew ?_ | refine blk_alloc ?_ _)); refine blk_put (cs := #[.slice A1 l1.length c1, .bool false, .string (⟨#[]⟩ : ByteArray), .int .i64 0, .slice none 0 0]) ?_ 2 _ rfl; (with_reducible repeat (first | refine blk_drewN ?_ _ | refine blk_drew ?_ | refine blk_alloc ?_ _)); refine blk_put (cs := #[.slice A1 l1.length c1, .bool false, .string (⟨#[]⟩ : ByteArray), .int .i64 0, .slice none 0 0]) ?_ 1 _ rfl; (with_reducible repeat (first | refine blk_drewN ?_ _ | refine blk_drew ?_ | refine blk_alloc ?_ _)); refine blk_put (cs := #[.slice none 0 0, .bool false, .string (⟨#[]⟩ : ByteArray), .int .i64 0, .slice none 0 0]) ?_ 0 _ rfl; (with_reducible repeat (first | refine blk_drewN ?_ _ | refine blk_drew ?_ | refine blk_alloc ?_ _)); exact BK626.out) hb); replace HB := A_ (below_step (bG_ GE626.out) hb); (try clear hb); (try clear ho0)))
     go_ret2
     exact ⟨_, rr_, by (with_reducible repeat (first | apply Kd.S_alloc | apply Kd.S_drewN | apply Kd.S_drew)); exact Kd.S_mono HO629.out (fun _ hk => trivial), bG_ GE626.out⟩
   rw [if_neg c29] at H
   have c29b0 : decide (t617 < 0) = false := decide_eq_false c29
   clear c29
   by_cases c34 : 0 ≤ t617
   rotate_left
   · exact absurd H (by rw [if_neg c34]; simp)
   rw [if_pos c34] at H
   have c34b0 : decide (0 ≤ t617) = true := decide_eq_true c34
   clear c34
   by_cases c35 : t617 < (l0.length : Int)
   rotate_left
   · exact absurd H (by rw [if_neg c35]; simp)
   rw [if_pos c35] at H
   have c35b0 : decide (t617 < (l0.length : Int)) = true := decide_eq_true c35
   clear c35
   obtain ⟨t631, A36, H⟩ := bo_ H
   (try dsimp only at H)
   simp only [Option.some.injEq, Prod.mk.injEq] at H
   obtain ⟨rfl, rfl⟩ := H
   go_wp2_with (first | ((with_reducible refine gate_dst (N := 12) rfl ?_); (try (refine gate_guard (by rfl) ?_; dsimp only)); refine bx_ (N := 12) (cs := #[.slice none 0 0, .bool false, .string (⟨#[]⟩ : ByteArray), .int .i64 0, .slice none 0 0]) (t := 57) ?_; intro gb626 hg w37 hbox hb; have BK626 := A_ (hbox); have GW626 := A_ (ge_ hg bB_ : w.heap.size ≤ gb626); have GE626 := A_ (ge_ hg bB_ : w.heap.size ≤ gb626); replace HB := A_ (below_step bB_ hb); clear hb hbox hg; obtain ⟨hcz38_0, hcz38_1, hcz38_2, hcz38_3, hcz38_4, hfz38_0, hfz38_1, hfz38_2, hfz38_3, hfz38_4⟩ := cz5_ BK626.out; have p630 : 0 ≤ (t617 : Int) := of_decide_eq_true as_; have q630 : t617 < (l0.length : Int) := of_decide_eq_true as_; obtain ⟨ad630, A630_0, c630_0, A630_4, c630_4, e630, hx630_0, hx630_1, hx630_2, hx630_3, hx630_4, hl630_0, hi630_0, hl630_4, hi630_4⟩ := at_T57 HR0.out t617 p630 q630; cases e630; have hn630_0 : ad630.block ≠ gb626 := Nat.ne_of_lt (Nat.lt_of_lt_of_le (by have := World.block_lt_of_cell? _ _ hx630_0; first | rwa [add_block] at this | exact this) GW626.out); have hn630_1 : ad630.block ≠ gb626 := Nat.ne_of_lt (Nat.lt_of_lt_of_le (by have := World.block_lt_of_cell? _ _ hx630_0; first | rwa [add_block] at this | exact this) GW626.out); have hn630_2 : ad630.block ≠ gb626 := Nat.ne_of_lt (Nat.lt_of_lt_of_le (by have := World.block_lt_of_cell? _ _ hx630_0; first | rwa [add_block] at this | exact this) GW626.out); have hn630_3 : ad630.block ≠ gb626 := Nat.ne_of_lt (Nat.lt_of_lt_of_le (by have := World.block_lt_of_cell? _ _ hx630_0; first | rwa [add_block] at this | exact this) GW626.out); have hn630_4 : ad630.block ≠ gb626 := Nat.ne_of_lt (Nat.lt_of_lt_of_le (by have := World.block_lt_of_cell? _ _ hx630_0; first | rwa [add_block] at this | exact this) GW626.out); have hbw_ : Below w.heap.size w (((((w37.setCell ⟨gb626, 0, none⟩ (.slice A1 l1.length c1)).setCell ⟨gb626, 1, none⟩ (.bool false)).setCell ⟨gb626, 2, none⟩ (.string a2)).setCell ⟨gb626, 3, none⟩ (.int .i64 a3)).setCell ⟨gb626, 4, none⟩ (.slice none 0 0)) := (by repeat (first | (with_reducible exact HB.out) | refine below_set ?_ GE626.out)); replace hx630_0 := (hbw_.cell (World.block_lt_of_cell? w _ hx630_0)).trans hx630_0; replace hx630_1 := (hbw_.cell (World.block_lt_of_cell? w _ hx630_1)).trans hx630_1; replace hx630_2 := (hbw_.cell (World.block_lt_of_cell? w _ hx630_2)).trans hx630_2; replace hx630_3 := (hbw_.cell (World.block_lt_of_cell? w _ hx630_3)).trans hx630_3; replace hx630_4 := (hbw_.cell (World.block_lt_of_cell? w _ hx630_4)).trans hx630_4; clear hbw_; have HR630_0 := Aside0.mk hi630_0; have HC630_0 := Aside0.mk hl630_0; clear hi630_0 hl630_0; have HR630_4 := Aside0.mk hi630_4; have HC630_4 := Aside0.mk hl630_4; clear hi630_4 hl630_4; clear hn630_0; clear hn630_1; clear hn630_2; clear hn630_3; clear hn630_4; replace p630 := eq_true p630; replace q630 := eq_true q630) | ((with_reducible refine gate_callee (f := 75) rfl ?_); refine gL_ (some 67) Try.func75 #[.slice (some ad630) l0.length c0, .agg #[.slice A1 l1.length c1, .bool false, .string a2, .int .i64 a3, .slice A630_4 ((rd_T57 l0 t617).f4).length c630_4]] ?_; (with_reducible refine (spec_l11Put.calls kj6 _ _ l0 _ _ l1 false a2 a3 _ _ ((rd_T57 l0 t617).f4) t631 _ ?s1 ?s2 ?s3 ?s4 ?s5 ?s6 A36.out).mono ?_); (case s1 => exact Kd.C_below HR0.out (bG_ GE626.out)); (case s2 => exact HC0.out); (case s3 => exact Kd.C_below HR1.out (bG_ GE626.out)); (case s4 => exact HC1.out); (case s5 => exact Kd.C_below HR630_4.out (bG_ GE626.out)); (case s6 => exact HC630_4.out); rintro e w39 ⟨v632, rfl, ho0, hb⟩; refine ⟨_, rfl, ?_⟩; have n0_ := A_ (Kd.S_lower ho0 (below_size (bG_ GE626.out))); have n2_ := A_ (below_step (bG_ GE626.out) hb); clear BK626; clear HB; have HO633 := n0_; have HB := n2_; clear n0_ n2_; (try clear hb); (try clear ho0)))
   go_ret2
   exact ⟨_, rr_, by (with_reducible repeat (first | apply Kd.S_alloc | apply Kd.S_drewN | apply Kd.S_drew)); exact Kd.S_mono HO633.out (fun _ hk => trivial), bG_ GE626.out⟩
end Go.Proofs.Ytbgggcgjijljkaa.Q

/- A printed walk's contract told more sharply: the result's elements' rows lie apart. No condition. -/
namespace Go.Proofs.Ytbgggcgjijljkaa.Q
open Go.RowKit Go.Proofs.YtbgggcgjijljkaaW.PrintWords Go.Proofs.YtbgggcgjijljkaaW.PrintLast Go.Proofs.YtbgggcgjijljkaaW.PrintMore
attribute [local go_sem] max2_int min2_int max_two min_two max_three min_three max_four min_four
set_option linter.unusedVariables false
set_option linter.unusedSimpArgs false
abbrev spec_MakeCollX.f (k : Nat) (l0 : List (S57)) (l1 : List ByteArray) (a2 : Int) : Option ((List (S57)) × Int) := spec_MakeColl.f k l0 l1 a2
end Go.Proofs.Ytbgggcgjijljkaa.Q

/- A thing put in its place, a shelf made; as the program and the reference have it. No condition. -/
set_option linter.unusedSimpArgs false
set_option linter.unusedVariables false
namespace Go.Proofs.Ytbgggcgjijljkaa.L
open Go.RowKit Go.Proofs.YtbgggcgjijljkaaW.PrintWords Go.Proofs.YtbgggcgjijljkaaW.PrintLast Go.Proofs.Ytbgggcgjijljkaa.Q
def putAt (x : S57) : List S57 → List S57
  | [] => [x]
  | a :: t => if lessP a.f0 x.f0 = true then a :: putAt x t else x :: a :: t
theorem putAt_length (x : S57) : ∀ t : List S57, (putAt x t).length = t.length + 1
  | [] => rfl
  | a :: t => by
    unfold putAt
    by_cases c : lessP a.f0 x.f0 = true
    · simp only [if_pos c, List.length_cons, putAt_length x t]
    · simp only [if_neg c, List.length_cons]
theorem putAt_mem (x : S57) : ∀ (t : List S57) (b : S57), b ∈ putAt x t → b = x ∨ b ∈ t
  | [], b, h => by simpa [putAt] using h
  | a :: t, b, h => by
    unfold putAt at h
    by_cases c : lessP a.f0 x.f0 = true
    · simp only [if_pos c, List.mem_cons] at h
      rcases h with rfl | h
      · exact .inr (by simp)
      · rcases putAt_mem x t b h with h | h
        · exact .inl h
        · exact .inr (by simp [h])
    · simp only [if_neg c, List.mem_cons] at h
      rcases h with h | h | h
      · exact .inl h
      · exact .inr (by simp [h])
      · exact .inr (by simp [h])
theorem implWithRes {t : List S57} {x : S57} (ht : SmRess t) : Ev (fun k => impl_withRes.f k t x.f0 x.f1 x.f2 x.f3 x.f4) (putAt x t) := by
  have hl0 := ht.1
  have hl : t.length ≤ maxLen := by rw [maxLen_eq]; omega
  have key : ∀ (suf pre : List S57), t = pre ++ suf → Ev (fun k => impl_withRes.l0 k t pre.length x.f0 x.f1 x.f2 x.f3 x.f4) (pre ++ putAt x suf) := by
    intro suf
    induction suf with
    | nil =>
      intro pre h
      have h1 : t.take ((pre.length : Nat) : Int).toNat = pre := by rw [h]; simp
      have h2 : t.drop ((pre.length : Nat) : Int).toNat = [] := by rw [h]; simp
      have hp : pre.length = t.length := by rw [h]; simp
      refine Ev.step (fun k => impl_withRes.l0.eq_2 ..) ?_
      simp only [if_neg (end_at h), if_pos (nonneg_at _), if_pos (show ((pre.length : Nat) : Int) ≤ (t.length : Int) by omega), h1, h2, Option.bind_some, List.length_nil, Nat.zero_add, List.nil_append, if_pos (show pre.length < 1759218604441 by omega), List.length_singleton, if_pos (show pre.length + 1 < 1759218604441 by omega), List.length_append, Nat.add_zero, List.append_nil]
      exact Ev.now _
    | cons a suf ih =>
      intro pre h
      have hpl : t.length = pre.length + (suf.length + 1) := by rw [h]; simp
      have h1 : t.take ((pre.length : Nat) : Int).toNat = pre := by rw [h]; simp
      have h2 : t.drop ((pre.length : Nat) : Int).toNat = a :: suf := by rw [h]; simp
      have ha0 := (ht.2 a (by rw [h]; simp)).1.1
      refine Ev.step (fun k => impl_withRes.l0.eq_2 ..) ?_
      simp only [if_pos (lt_at h), if_pos (nonneg_at _), rd_implRes h, next_at h hl]
      refine Ev.bind (implLess (by rw [maxLen_eq]; omega)) ?_
      by_cases c : lessP a.f0 x.f0 = true
      · simp only [c, if_true]
        exact ev_cast (ih (pre ++ [a]) (snoc_at h)) (by simp [putAt, c])
      · simp only [c, Bool.false_eq_true, if_false, if_pos (show ((pre.length : Nat) : Int) ≤ (t.length : Int) by omega), h1, h2, Option.bind_some, List.length_nil, Nat.zero_add, List.nil_append, if_pos (show pre.length < 1759218604441 by omega), List.length_singleton, if_pos (show pre.length + 1 < 1759218604441 by omega), List.length_append, List.length_cons, if_pos (show pre.length + 1 + (suf.length + 1) < 1759218604441 by omega)]
        exact ev_cast (Ev.now _) (by simp [putAt, c])
  exact key t [] rfl
def putS (x : S57) : Bool → List S57 → List S57
  | d, [] => if d = true then [] else [x]
  | d, a :: t => (if d = true then [] else if lessP a.f0 x.f0 = true then [] else [x]) ++ (if a.f0 = x.f0 then [] else [a]) ++ putS x (d || !lessP a.f0 x.f0) t
theorem specPut {t : List S57} {x : S57} (ht : SmRess t) (hx : SmRes x) : Ev (fun k => spec_l11Put.f k t x.f0 x.f1 x.f2 x.f3 x.f4) (putS x false t) := by
  have hl0 := ht.1
  have hl : t.length ≤ maxLen := by rw [maxLen_eq]; omega
  have key : ∀ (suf pre out : List S57) (d : Bool), t = pre ++ suf → out.length ≤ 2 * pre.length → Ev (fun k => spec_l11Put.l0 k t out d pre.length x.f0 x.f1 x.f2 x.f3 x.f4) (out ++ putS x d suf) := by
    intro suf
    induction suf with
    | nil =>
      intro pre out d h ho
      have hp : pre.length = t.length := by rw [h]; simp
      refine Ev.step (fun k => spec_l11Put.l0.eq_2 ..) ?_
      simp only [if_neg (end_at h), putS]
      by_cases c : d = true
      · simp only [if_pos c, List.append_nil]; exact Ev.now _
      · simp only [if_neg c, specCopyRes hx, Option.bind_some, show out.length < 1759218604441 by omega, if_true]; exact Ev.now _
    | cons a suf ih =>
      intro pre out d h ho
      have hpl : t.length = pre.length + (suf.length + 1) := by rw [h]; simp
      have ha := ht.2 a (by rw [h]; simp)
      have ha0 := ha.1.1
      have hj2 : ∀ (o : List S57) (d' : Bool), o.length ≤ 2 * pre.length + 1 → Ev (fun k => spec_l11Put.j2 k t o d' pre.length x.f0 x.f1 x.f2 x.f3 x.f4) (o ++ ((if a.f0 = x.f0 then [] else [a]) ++ putS x d' suf)) := by
        intro o d' ho'
        refine Ev.step (fun k => spec_l11Put.j2.eq_2 ..) ?_
        simp only [if_pos (lt_at h), if_pos (nonneg_at _), rd_implRes h, next_at h hl, specCopyRes ha, Option.bind_some]
        refine Ev.bind (specSame (by rw [maxLen_eq]; omega)) ?_
        by_cases c : a.f0 = x.f0
        · simp only [c, decide_true, if_true, List.nil_append]
          exact ih (pre ++ [a]) o d' (snoc_at h) (by simp; omega)
        · simp only [c, decide_false, Bool.false_eq_true, if_false, show o.length < 1759218604441 by omega, if_true]
          exact ev_cast (ih (pre ++ [a]) (o ++ [a]) d' (snoc_at h) (by simp; omega)) (by simp)
      have hj1 : ∀ b : Bool, Ev (fun k => spec_l11Put.j1 k t out d pre.length b x.f0 x.f1 x.f2 x.f3 x.f4) (out ++ ((if b = true then [x] else []) ++ ((if a.f0 = x.f0 then [] else [a]) ++ putS x (d || b) suf))) := by
        intro b
        refine Ev.step (fun k => spec_l11Put.j1.eq_2 ..) ?_
        by_cases c : b = true
        · subst c
          simp only [if_true, specCopyRes hx, Option.bind_some, show out.length < 1759218604441 by omega, Bool.or_true]
          exact ev_cast (hj2 (out ++ [x]) true (by simp; omega)) (by simp)
        · have c' : b = false := by simpa using c
          subst c'
          simp only [Bool.false_eq_true, if_false, List.nil_append, Bool.or_false]
          exact hj2 out d (by omega)
      refine Ev.step (fun k => spec_l11Put.l0.eq_2 ..) ?_
      simp only [if_pos (lt_at h), if_pos (nonneg_at _), rd_implRes h, putS]
      by_cases c : d = true
      · subst c
        simp only [if_true]
        exact ev_cast (hj1 false) (by simp)
      · have c' : d = false := by simpa using c
        subst c'
        simp only [Bool.false_eq_true, if_false]
        refine Ev.bind (specLess (by rw [maxLen_eq]; omega)) ?_
        refine ev_cast (hj1 (!lessP a.f0 x.f0)) ?_
        by_cases c2 : lessP a.f0 x.f0 = true
        · simp [c2]
        · simp [c2]
  exact key t [] [] false rfl (by simp)
theorem putS_done {x : S57} : ∀ {t : List S57}, (∀ r ∈ t, r.f0 ≠ x.f0) → putS x true t = t
  | [], _ => by simp [putS]
  | a :: t, h => by
    have h0 := h a (by simp)
    have ih := putS_done (x := x) (t := t) (fun r hr => h r (by simp [hr]))
    simp [putS, h0, ih]
theorem putS_new {x : S57} : ∀ {t : List S57}, (∀ r ∈ t, r.f0 ≠ x.f0) → putS x false t = putAt x t
  | [], _ => by simp [putS, putAt]
  | a :: t, h => by
    have h0 := h a (by simp)
    have hr := fun r hr => h r (List.mem_cons_of_mem a hr)
    have ih := putS_new (x := x) (t := t) hr
    have id := putS_done (x := x) (t := t) hr
    by_cases c : lessP a.f0 x.f0 = true
    · simp [putS, putAt, h0, ih, c]
    · simp [putS, putAt, h0, id, c]
theorem find_none {t : List S57} {p : List ByteArray} (h : findR t p < 0) : ∀ r ∈ t, r.f0 ≠ p := by
  rcases findFrom_cases p t 0 with ⟨_, h2⟩ | ⟨j, r, h1, _⟩
  · exact h2
  · unfold findR at h; rw [h1] at h; omega
def newRes (p : List ByteArray) (ver : Int) : S57 := ⟨p, true, (⟨#[]⟩ : ByteArray), ver, []⟩
def makeR (t : List S57) (p : List ByteArray) (ver : Int) : List S57 × Int :=
  if mayC t [p] ver = 0 then (if p = [] then (t, 405) else if findR t p ≥ 0 then (t, 405) else if isColl t (above p) = true then (if (t.length : Int) ≥ 12 then (t, 507) else (putAt (newRes p ver) t, 201)) else (t, 409)) else (t, mayC t [p] ver)
theorem newRes_sm {p : List ByteArray} {ver : Int} (hp : SmS p) (hv : IntOk ver) : SmRes (newRes p ver) := ⟨hp, trivial, by show (0 : Nat) ≤ 1048576; omega, hv, by show (0 : Nat) ≤ 1048576; omega, fun _ h => by cases h⟩
theorem make_sm {p : List ByteArray} {t : List S57} {ver : Int} (ht : SmRess t) (hp : SmS p) (hv : IntOk ver) : SmRess (makeR t p ver).1 := by
  unfold makeR
  repeat' split
  all_goals first | exact ht | skip
  rename_i hn
  refine ⟨by rw [putAt_length]; omega, fun r hr => ?_⟩
  rcases putAt_mem _ _ _ hr with rfl | hr
  · exact newRes_sm hp hv
  · exact ht.2 r hr
theorem specMake {t : List S57} {p : List ByteArray} {ver : Int} (ht : SmRess t) (hp : SmS p) (hv : IntOk ver) : Ev (fun k => spec_MakeCollX.f k t p ver) (makeR t p ver) := by
  have hp0 := hp.1
  show Ev (fun k => spec_MakeColl.f k t p ver) _
  unfold spec_MakeColl.f makeR
  refine Ev.bind (specMay ht hp) ?_
  have hc : ∀ c : Int, c ≠ 0 → Ev (fun k => spec_MakeColl.j1 k t p ver c) (t, c) := fun c h => by
    refine Ev.step (fun k => spec_MakeColl.j1.eq_2 ..) ?_
    simp only [if_neg h]
    exact Ev.bind (specCopyAll ht) (Ev.now _)
  by_cases c0 : mayC t [p] ver = 0
  · simp only [c0, if_true, nil_len]
    by_cases c1 : p = []
    · simp only [if_pos c1]
      refine Ev.step (fun k => spec_MakeColl.j0.eq_2 ..) ?_
      simp only [if_true]
      exact hc 405 (by decide)
    · simp only [if_neg c1]
      refine Ev.bind (specFind ht) ?_
      refine Ev.step (fun k => spec_MakeColl.j0.eq_2 ..) ?_
      by_cases c2 : findR t p ≥ 0
      · simp only [c2, decide_true, if_true]; exact hc 405 (by decide)
      · simp only [c2, decide_false, Bool.false_eq_true, if_false, specAbove hp0, Option.bind_some]
        refine Ev.bind (specIsColl ht) ?_
        by_cases c3 : isColl t (above p) = true
        · simp only [if_pos c3]
          by_cases c4 : (t.length : Int) ≥ 12
          · simp only [if_pos c4]; exact hc 507 (by decide)
          · simp only [if_neg c4]
            refine Ev.step (fun k => spec_MakeColl.j1.eq_2 ..) ?_
            simp only [if_true]
            have h1 := specPut (x := newRes p ver) ht (newRes_sm hp hv)
            rw [putS_new (show ∀ r ∈ t, r.f0 ≠ (newRes p ver).f0 from find_none (p := p) (by omega))] at h1
            exact Ev.bind h1 (Ev.now _)
        · simp only [if_neg c3]; exact hc 409 (by decide)
  · simp only [if_neg c0]; exact hc _ c0
end Go.Proofs.Ytbgggcgjijljkaa.L

/- Paths, one ahead of the other: an order; right shelves stand in it. No condition. -/
set_option linter.unusedSimpArgs false
set_option linter.unusedVariables false
namespace Go.Proofs.Ytbgggcgjijljkaa.L
open Go.RowKit Go.Proofs.YtbgggcgjijljkaaW.PrintWords Go.Proofs.YtbgggcgjijljkaaW.PrintLast Go.Proofs.Ytbgggcgjijljkaa.Q
theorem bytesLess_trans : ∀ {x y z : List UInt8}, Op.bytesLess x y = true → Op.bytesLess y z = true → Op.bytesLess x z = true
  | _, _, [], _, h => by cases ‹List UInt8› <;> simp [Op.bytesLess] at h
  | [], _, _ :: _, _, _ => by simp [Op.bytesLess]
  | _ :: _, [], _ :: _, h, _ => by simp [Op.bytesLess] at h
  | a :: x, b :: y, c :: z, h, h' => by
    simp only [Op.bytesLess, Bool.or_eq_true, Bool.and_eq_true, decide_eq_true_eq, beq_iff_eq] at h h' ⊢
    rcases h with h | ⟨rfl, h⟩
    · rcases h' with h' | ⟨rfl, _⟩
      · exact .inl (UInt8.lt_trans h h')
      · exact .inl h
    · rcases h' with h' | ⟨rfl, h'⟩
      · exact .inl h'
      · exact .inr ⟨rfl, bytesLess_trans h h'⟩
theorem lessP_irrefl : ∀ a : List ByteArray, lessP a a = false
  | [] => rfl
  | x :: a => by simp [lessP, lessP_irrefl a]
theorem lessP_trans : ∀ {a b c : List ByteArray}, lessP a b = true → lessP b c = true → lessP a c = true
  | [], [], _, h, _ => by simp [lessP] at h
  | [], _ :: _, [], _, h => by simp [lessP] at h
  | [], _ :: _, _ :: _, _, _ => by simp [lessP]
  | _ :: _, [], _, h, _ => by simp [lessP] at h
  | _ :: _, _ :: _, [], _, h => by simp [lessP] at h
  | x :: a, y :: b, z :: c, h, h' => by
    simp only [lessP] at h h' ⊢
    by_cases e : x = y
    · subst e
      by_cases e' : x = z
      · subst e'
        simp only [if_true] at h h' ⊢
        exact lessP_trans h h'
      · rw [if_neg e'] at h' ⊢
        exact h'
    · rw [if_neg e] at h
      by_cases e' : y = z
      · subst e'
        rw [if_neg e]
        exact h
      · rw [if_neg e'] at h'
        have ht := bytesLess_trans h h'
        by_cases e2 : x = z
        · subst e2
          rw [bytesLess_irrefl] at ht
          cases ht
        · rw [if_neg e2]
          exact ht
theorem lessP_ne {a b : List ByteArray} (h : lessP a b = true) : a ≠ b := by
  intro e
  rw [e, lessP_irrefl] at h
  cases h
theorem treeL_pair (t : List S57) : ∀ (l : List S57) (q : Option S57), treeL t q l = true → (match q with | none => True | some q => ∀ r ∈ l, lessP q.f0 r.f0 = true) ∧ l.Pairwise (fun a b => lessP a.f0 b.f0 = true)
  | [], q, _ => by cases q <;> simp
  | r :: l, q, h => by
    simp only [treeL, Bool.and_eq_true] at h
    obtain ⟨_, h1, _, h2⟩ := h
    obtain ⟨h3, h4⟩ := treeL_pair t l (some r) h2
    simp only at h3
    refine ⟨?_, List.pairwise_cons.2 ⟨h3, h4⟩⟩
    cases q with
    | none => trivial
    | some q =>
      intro x hx
      simp only at h1
      rcases List.mem_cons.1 hx with rfl | hx
      · exact h1
      · exact lessP_trans h1 (h3 x hx)
theorem treeOk_pair {t : List S57} (h : treeOk t = true) : t.Pairwise (fun a b => lessP a.f0 b.f0 = true) := by
  unfold treeOk at h
  exact (treeL_pair t t none (Bool.and_eq_true_iff.1 h).1).2
theorem putS_at {x r : S57} (e : r.f0 = x.f0) {suf : List S57} : ∀ {pre : List S57}, (pre ++ r :: suf).Pairwise (fun a b => lessP a.f0 b.f0 = true) → putS x false (pre ++ r :: suf) = pre ++ x :: suf
  | [], h => by
    have h1 := (List.pairwise_cons.1 h).1
    have hd := putS_done (x := x) (t := suf) (fun a ha => by rw [← e]; exact (lessP_ne (h1 a ha)).symm)
    simp [putS, e, lessP_irrefl, hd]
  | a :: pre, h => by
    have h1 := (List.pairwise_cons.1 h).1
    have h2 : lessP a.f0 x.f0 = true := by rw [← e]; exact h1 r (by simp)
    have ih := putS_at (x := x) e (List.pairwise_cons.1 h).2
    simp [putS, h2, lessP_ne h2, ih]
end Go.Proofs.Ytbgggcgjijljkaa.L
