import Derived.Test.YtbgggcgjijljkaaVFnCopiedG28
set_option maxHeartbeats 8000000
set_option maxRecDepth 100000
namespace Go.Proofs.Ytbgggcgjijljkaa.Q
open Go.RowKit Go.Proofs.YtbgggcgjijljkaaW.PrintWords Go.Proofs.YtbgggcgjijljkaaW.PrintLast Go.Proofs.YtbgggcgjijljkaaW.PrintMore
attribute [local go_sem] max2_int min2_int max_two min_two max_three min_three max_four min_four
set_option linter.unusedVariables false
set_option linter.unusedSimpArgs false
def impl_Remove.f (k : Nat) (l0 : List (S57)) (l1 : List ByteArray) : Option ((List (S57)) × Int) := (impl_opForm.f k l0 0 (([l1] : List (List ByteArray)))).bind fun t376 => (if t376 = 0 then (if (l1.length : Int) = 0 then ((impl_copyTree.f k l0).bind fun t380 => (some (t380, 403))) else ((impl_FindRes.f k l0 l1).bind fun t383 => (if t383 < 0 then ((impl_copyTree.f k l0).bind fun t384 => (some (t384, 404))) else ((impl_without.f k l0 l1).bind fun t387 => (some (t387, 204)))))) else ((impl_copyTree.f k l0).bind fun t377 => (some (t377, t376))))
theorem impl_Remove.calls (k : Nat) (A0 : Option Addr) (c0 : Nat) (l0 : List (S57)) (P1_ : Nat -> Prop) (A1 : Option Addr) (c1 : Nat) (l1 : List ByteArray) (r1 : List (S57)) (r2 : Int) (w : World) (hr0 : Kd.C k57 w A0 l0.length l0) (hc0 : l0.length <= c0) (hs1 : Kd.V Kd.string 9 w w.heap.size (fun k_ => P1_ k_) (.slice A1 l1.length c1) l1) (h : impl_Remove.f k l0 l1 = some (r1, r2)) :
 Calls Try.prog 18 #[.slice A0 l0.length c0, .slice A1 l1.length c1] w fun e w' => ∃ v0_ : Value, e = .returned (.tuple #[v0_, .int .i64 r2]) /\ Kd.S k57 57 w' w.heap.size (fun k_ => (w.heap.size <= k_)) v0_ r1 /\ Below w.heap.size w w' := by
 have HR0 := A_ hr0
 have HC0 := A_ hc0
 clear hr0 hc0
 have HO1 := A_ (show Kd.V Kd.string 9 w w.heap.size (fun k_ => (P1_ k_ \/ w.heap.size <= k_)) (.slice A1 l1.length c1) l1 from Kd.V_mono hs1 (fun k_ hk => .inl hk))
 have HB := A_ (Below.refl w.heap.size w)
 have H : ((impl_opForm.f k l0 0 (([l1] : List (List ByteArray)))).bind fun t36 => (if t36 = 0 then (if (l1.length : Int) = 0 then ((impl_copyTree.f k l0).bind fun t38 => (some (t38, 403))) else ((impl_FindRes.f k l0 l1).bind fun t37 => (if t37 < 0 then ((impl_copyTree.f k l0).bind fun t39 => (some (t39, 404))) else ((impl_without.f k l0 l1).bind fun t40 => (some (t40, 204)))))) else ((impl_copyTree.f k l0).bind fun t41 => (some (t41, t36))))) = some (r1, r2) := h
 clear h
 obtain ⟨y34, hy34⟩ : ∃ y_ : List (List ByteArray), y_ = (([l1] : List (List ByteArray))) := ⟨_, rfl⟩
 replace H : ((impl_opForm.f k l0 0 y34).bind fun t36 => (if t36 = 0 then (if (l1.length : Int) = 0 then ((impl_copyTree.f k l0).bind fun t38 => (some (t38, 403))) else ((impl_FindRes.f k l0 l1).bind fun t37 => (if t37 < 0 then ((impl_copyTree.f k l0).bind fun t39 => (some (t39, 404))) else ((impl_without.f k l0 l1).bind fun t40 => (some (t40, 204)))))) else ((impl_copyTree.f k l0).bind fun t41 => (some (t41, t36))))) = some (r1, r2) := hy_ hy34 H
 have Ny34 := A_ hy34
 clear hy34
 obtain ⟨t36, A3, H⟩ := bo_ H
 (try dsimp only at H)
 by_cases c4 : t36 = 0
 rotate_left
 . rw [if_neg c4] at H
   obtain ⟨c4b0, c4b1⟩ := eF_ c4
   obtain ⟨t41, A28, H⟩ := bo_ H
   (try dsimp only at H)
   simp only [Option.some.injEq, Prod.mk.injEq] at H
   obtain ⟨rfl, rfl⟩ := H
   go_enter Try.func18, Try.ntmps18
   go_wp2_with (first | ((with_reducible refine gd_ (N := 9) rfl ?_); refine Kd.N_lit (Kd.slice 9 Kd.string) _ 23 ?hg (N' := 9) ?hd (xs := ([l1] : List (List ByteArray))) (inner := [.slice A1 l1.length c1]) (ok := (fun k_ => (P1_ k_ \/ w.heap.size <= k_))) (okp := (fun k_ => (P1_ k_ \/ w.heap.size <= k_))) ?hr ?hp (fun _ hk => hk) ((show ∀ k_, w.heap.size <= k_ -> (fun k_ => (P1_ k_ \/ w.heap.size <= k_)) k_ from fun k_ hk => (.inr (Nat.le_trans (below_size bB_) hk))) _ (Nat.le_refl _)) (Below.refl _ _) (Nat.le_refl _) (by simp) ?_; (case hd => rfl); (case hg => rfl); (case hr => first | (go_simp; done) | (go_simp; rfl)); (case hp => exact (Reps.one (show Kd.FK (Kd.slice 9 Kd.string) _ _ l1 [.slice A1 l1.length c1] from (Kd.FK_slice_mk (Kd.V_reads' (Kd.V_mono (ok' := (fun k_ => (P1_ k_ \/ w.heap.size <= k_))) (HO1.out) (fun k_ hk => hk))).2.1 (Kd.V_F (Kd.V_mono (ok' := (fun k_ => (P1_ k_ \/ w.heap.size <= k_))) (HO1.out) (fun k_ hk => hk))))) (Reps.none _ _))); intro v42 w29 ho30 hb hg_ hnew_; clear hg_ hnew_; (first | rw [← Ny34.out] at ho30 | (simp only [Int.reduceToNat] at ho30; rw [← Ny34.out] at ho30)); have HO35 := A_ (Kd.N_lower ho30 (below_size bB_)); replace HB := A_ (below_step bB_ hb); clear hb ho30; obtain ⟨Ao31, co31, eo31⟩ := Kd.N_slice HO35.out; subst eo31) | ((with_reducible refine gc_ (f := 65) rfl ?_); refine gL_ (some 10) Try.func65 #[.slice A0 l0.length c0, .int .i64 0, .slice Ao31 y34.length co31] ?_; (with_reducible refine (impl_opForm.calls k _ _ l0 0 _ _ y34 t36 _ ?s1 ?s2 ?s3 ?s4 A3.out).mono ?_); (case s1 => exact cC_ (Kd.C_below HR0.out HB.out)); (case s2 => exact HC0.out); (case s3 => exact cC_ (Kd.N_reads' HO35.out).2.2); (case s4 => exact (Kd.N_reads' HO35.out).2.1); rintro e w32 ⟨rfl, hb⟩; refine ⟨_, rfl, ?_⟩; replace HB := A_ (below_step bB_ hb); clear hb) | ((with_reducible refine gc_ (f := 66) rfl ?_); refine gL_ (some 14) Try.func66 #[.slice A0 l0.length c0] ?_; (with_reducible refine (impl_copyTree.calls k _ _ l0 t41 _ ?s1 ?s2 A28.out).mono ?_); (case s1 => exact cC_ (Kd.C_below HR0.out HB.out)); (case s2 => exact HC0.out); rintro e w33 ⟨v47, rfl, ho0, hb⟩; refine ⟨_, rfl, ?_⟩; have HO43 := A_ (Kd.S_lower (Kd.S_newM (M := fun k_ => (w.heap.size <= k_)) ho0 (below_size bB_) (fun k_ h_ => h_)) (below_size bB_)); replace HB := A_ (below_step bB_ hb); clear hb ho0))
   go_ret2
   exact ⟨_, rr_, by (with_reducible repeat (first | apply Kd.S_alloc | apply Kd.S_drewN | apply Kd.S_drew)); exact Kd.S_mono HO43.out (fun _ hk => hk.1), bB_⟩
 rw [if_pos c4] at H
 obtain ⟨c4b0, c4b1⟩ := eT_ c4
 clear c4
 by_cases c5 : (l1.length : Int) = 0
 . rw [if_pos c5] at H
   obtain ⟨c5b0, c5b1⟩ := eT_ c5
   clear c5
   obtain ⟨t38, A6, H⟩ := bo_ H
   (try dsimp only at H)
   simp only [Option.some.injEq, Prod.mk.injEq] at H
   obtain ⟨rfl, rfl⟩ := H
   go_enter Try.func18, Try.ntmps18
   go_wp2_with (first | ((with_reducible refine gd_ (N := 9) rfl ?_); refine Kd.N_lit (Kd.slice 9 Kd.string) _ 23 ?hg (N' := 9) ?hd (xs := ([l1] : List (List ByteArray))) (inner := [.slice A1 l1.length c1]) (ok := (fun k_ => (P1_ k_ \/ w.heap.size <= k_))) (okp := (fun k_ => (P1_ k_ \/ w.heap.size <= k_))) ?hr ?hp (fun _ hk => hk) ((show ∀ k_, w.heap.size <= k_ -> (fun k_ => (P1_ k_ \/ w.heap.size <= k_)) k_ from fun k_ hk => (.inr (Nat.le_trans (below_size bB_) hk))) _ (Nat.le_refl _)) (Below.refl _ _) (Nat.le_refl _) (by simp) ?_; (case hd => rfl); (case hg => rfl); (case hr => first | (go_simp; done) | (go_simp; rfl)); (case hp => exact (Reps.one (show Kd.FK (Kd.slice 9 Kd.string) _ _ l1 [.slice A1 l1.length c1] from (Kd.FK_slice_mk (Kd.V_reads' (Kd.V_mono (ok' := (fun k_ => (P1_ k_ \/ w.heap.size <= k_))) (HO1.out) (fun k_ hk => hk))).2.1 (Kd.V_F (Kd.V_mono (ok' := (fun k_ => (P1_ k_ \/ w.heap.size <= k_))) (HO1.out) (fun k_ hk => hk))))) (Reps.none _ _))); intro v42 w7 ho8 hb hg_ hnew_; clear hg_ hnew_; (first | rw [← Ny34.out] at ho8 | (simp only [Int.reduceToNat] at ho8; rw [← Ny34.out] at ho8)); have HO35 := A_ (Kd.N_lower ho8 (below_size bB_)); replace HB := A_ (below_step bB_ hb); clear hb ho8; obtain ⟨Ao9, co9, eo9⟩ := Kd.N_slice HO35.out; subst eo9) | ((with_reducible refine gc_ (f := 65) rfl ?_); refine gL_ (some 10) Try.func65 #[.slice A0 l0.length c0, .int .i64 0, .slice Ao9 y34.length co9] ?_; (with_reducible refine (impl_opForm.calls k _ _ l0 0 _ _ y34 t36 _ ?s1 ?s2 ?s3 ?s4 A3.out).mono ?_); (case s1 => exact cC_ (Kd.C_below HR0.out HB.out)); (case s2 => exact HC0.out); (case s3 => exact cC_ (Kd.N_reads' HO35.out).2.2); (case s4 => exact (Kd.N_reads' HO35.out).2.1); rintro e w10 ⟨rfl, hb⟩; refine ⟨_, rfl, ?_⟩; replace HB := A_ (below_step bB_ hb); clear hb) | ((with_reducible refine gc_ (f := 66) rfl ?_); refine gL_ (some 21) Try.func66 #[.slice A0 l0.length c0] ?_; (with_reducible refine (impl_copyTree.calls k _ _ l0 t38 _ ?s1 ?s2 A6.out).mono ?_); (case s1 => exact cC_ (Kd.C_below HR0.out HB.out)); (case s2 => exact HC0.out); rintro e w11 ⟨v48, rfl, ho0, hb⟩; refine ⟨_, rfl, ?_⟩; have HO44 := A_ (Kd.S_lower (Kd.S_newM (M := fun k_ => (w.heap.size <= k_)) ho0 (below_size bB_) (fun k_ h_ => h_)) (below_size bB_)); replace HB := A_ (below_step bB_ hb); clear hb ho0))
   go_ret2
   exact ⟨_, rr_, by (with_reducible repeat (first | apply Kd.S_alloc | apply Kd.S_drewN | apply Kd.S_drew)); exact Kd.S_mono HO44.out (fun _ hk => hk.1), bB_⟩
 rw [if_neg c5] at H
 obtain ⟨c5b0, c5b1⟩ := eF_ c5
 have c5b2 : ¬ (l1 = []) := fun h_ => c5 (by rw [h_]; rfl)
 obtain ⟨t37, A12, H⟩ := bo_ H
 (try dsimp only at H)
 by_cases c13 : t37 < 0
 . rw [if_pos c13] at H
   have c13b0 := decide_eq_true c13
   clear c13
   obtain ⟨t39, A14, H⟩ := bo_ H
   (try dsimp only at H)
   simp only [Option.some.injEq, Prod.mk.injEq] at H
   obtain ⟨rfl, rfl⟩ := H
   go_enter Try.func18, Try.ntmps18
   go_wp2_with (first | ((with_reducible refine gd_ (N := 9) rfl ?_); refine Kd.N_lit (Kd.slice 9 Kd.string) _ 23 ?hg (N' := 9) ?hd (xs := ([l1] : List (List ByteArray))) (inner := [.slice A1 l1.length c1]) (ok := (fun k_ => (P1_ k_ \/ w.heap.size <= k_))) (okp := (fun k_ => (P1_ k_ \/ w.heap.size <= k_))) ?hr ?hp (fun _ hk => hk) ((show ∀ k_, w.heap.size <= k_ -> (fun k_ => (P1_ k_ \/ w.heap.size <= k_)) k_ from fun k_ hk => (.inr (Nat.le_trans (below_size bB_) hk))) _ (Nat.le_refl _)) (Below.refl _ _) (Nat.le_refl _) (by simp) ?_; (case hd => rfl); (case hg => rfl); (case hr => first | (go_simp; done) | (go_simp; rfl)); (case hp => exact (Reps.one (show Kd.FK (Kd.slice 9 Kd.string) _ _ l1 [.slice A1 l1.length c1] from (Kd.FK_slice_mk (Kd.V_reads' (Kd.V_mono (ok' := (fun k_ => (P1_ k_ \/ w.heap.size <= k_))) (HO1.out) (fun k_ hk => hk))).2.1 (Kd.V_F (Kd.V_mono (ok' := (fun k_ => (P1_ k_ \/ w.heap.size <= k_))) (HO1.out) (fun k_ hk => hk))))) (Reps.none _ _))); intro v42 w15 ho16 hb hg_ hnew_; clear hg_ hnew_; (first | rw [← Ny34.out] at ho16 | (simp only [Int.reduceToNat] at ho16; rw [← Ny34.out] at ho16)); replace HO1 := A_ (Kd.V_elder' (vV_ HO1.out) (kb_ ho16) hb); have HO35 := A_ (Kd.N_lower ho16 (below_size bB_)); replace HB := A_ (below_step bB_ hb); clear hb ho16; obtain ⟨Ao17, co17, eo17⟩ := Kd.N_slice HO35.out; subst eo17) | ((with_reducible refine gc_ (f := 65) rfl ?_); refine gL_ (some 10) Try.func65 #[.slice A0 l0.length c0, .int .i64 0, .slice Ao17 y34.length co17] ?_; (with_reducible refine (impl_opForm.calls k _ _ l0 0 _ _ y34 t36 _ ?s1 ?s2 ?s3 ?s4 A3.out).mono ?_); (case s1 => exact cC_ (Kd.C_below HR0.out HB.out)); (case s2 => exact HC0.out); (case s3 => exact cC_ (Kd.N_reads' HO35.out).2.2); (case s4 => exact (Kd.N_reads' HO35.out).2.1); rintro e w18 ⟨rfl, hb⟩; refine ⟨_, rfl, ?_⟩; replace HO1 := A_ (Kd.V_below (vV_ HO1.out) hb); replace HB := A_ (below_step bB_ hb); clear hb) | ((with_reducible refine gc_ (f := 42) rfl ?_); refine gL_ (some 25) Try.func42 #[.slice A0 l0.length c0, .slice A1 l1.length c1] ?_; (with_reducible refine (impl_FindRes.calls k _ _ l0 _ _ l1 t37 _ ?s1 ?s2 ?s3 ?s4 A12.out).mono ?_); (case s1 => exact cC_ (Kd.C_below HR0.out HB.out)); (case s2 => exact HC0.out); (case s3 => exact cC_ (Kd.V_reads' HO1.out).2.2); (case s4 => exact (Kd.V_reads' HO1.out).2.1); rintro e w19 ⟨rfl, hb⟩; refine ⟨_, rfl, ?_⟩; replace HB := A_ (below_step bB_ hb); clear hb) | ((with_reducible refine gc_ (f := 66) rfl ?_); refine gL_ (some 28) Try.func66 #[.slice A0 l0.length c0] ?_; (with_reducible refine (impl_copyTree.calls k _ _ l0 t39 _ ?s1 ?s2 A14.out).mono ?_); (case s1 => exact cC_ (Kd.C_below HR0.out HB.out)); (case s2 => exact HC0.out); rintro e w20 ⟨v49, rfl, ho0, hb⟩; refine ⟨_, rfl, ?_⟩; have HO45 := A_ (Kd.S_lower (Kd.S_newM (M := fun k_ => (w.heap.size <= k_)) ho0 (below_size bB_) (fun k_ h_ => h_)) (below_size bB_)); replace HB := A_ (below_step bB_ hb); clear hb ho0))
   go_ret2
   exact ⟨_, rr_, by (with_reducible repeat (first | apply Kd.S_alloc | apply Kd.S_drewN | apply Kd.S_drew)); exact Kd.S_mono HO45.out (fun _ hk => hk.1), bB_⟩
 rw [if_neg c13] at H
 have c13b0 := decide_eq_false c13
 clear c13
 obtain ⟨t40, A21, H⟩ := bo_ H
 (try dsimp only at H)
 simp only [Option.some.injEq, Prod.mk.injEq] at H
 obtain ⟨rfl, rfl⟩ := H
 go_enter Try.func18, Try.ntmps18
 go_wp2_with (first | ((with_reducible refine gd_ (N := 9) rfl ?_); refine Kd.N_lit (Kd.slice 9 Kd.string) _ 23 ?hg (N' := 9) ?hd (xs := ([l1] : List (List ByteArray))) (inner := [.slice A1 l1.length c1]) (ok := (fun k_ => (P1_ k_ \/ w.heap.size <= k_))) (okp := (fun k_ => (P1_ k_ \/ w.heap.size <= k_))) ?hr ?hp (fun _ hk => hk) ((show ∀ k_, w.heap.size <= k_ -> (fun k_ => (P1_ k_ \/ w.heap.size <= k_)) k_ from fun k_ hk => (.inr (Nat.le_trans (below_size bB_) hk))) _ (Nat.le_refl _)) (Below.refl _ _) (Nat.le_refl _) (by simp) ?_; (case hd => rfl); (case hg => rfl); (case hr => first | (go_simp; done) | (go_simp; rfl)); (case hp => exact (Reps.one (show Kd.FK (Kd.slice 9 Kd.string) _ _ l1 [.slice A1 l1.length c1] from (Kd.FK_slice_mk (Kd.V_reads' (Kd.V_mono (ok' := (fun k_ => (P1_ k_ \/ w.heap.size <= k_))) (HO1.out) (fun k_ hk => hk))).2.1 (Kd.V_F (Kd.V_mono (ok' := (fun k_ => (P1_ k_ \/ w.heap.size <= k_))) (HO1.out) (fun k_ hk => hk))))) (Reps.none _ _))); intro v42 w22 ho23 hb hg_ hnew_; clear hg_ hnew_; (first | rw [← Ny34.out] at ho23 | (simp only [Int.reduceToNat] at ho23; rw [← Ny34.out] at ho23)); replace HO1 := A_ (Kd.V_elder' (vV_ HO1.out) (kb_ ho23) hb); have HO35 := A_ (Kd.N_lower ho23 (below_size bB_)); replace HB := A_ (below_step bB_ hb); clear hb ho23; obtain ⟨Ao24, co24, eo24⟩ := Kd.N_slice HO35.out; subst eo24) | ((with_reducible refine gc_ (f := 65) rfl ?_); refine gL_ (some 10) Try.func65 #[.slice A0 l0.length c0, .int .i64 0, .slice Ao24 y34.length co24] ?_; (with_reducible refine (impl_opForm.calls k _ _ l0 0 _ _ y34 t36 _ ?s1 ?s2 ?s3 ?s4 A3.out).mono ?_); (case s1 => exact cC_ (Kd.C_below HR0.out HB.out)); (case s2 => exact HC0.out); (case s3 => exact cC_ (Kd.N_reads' HO35.out).2.2); (case s4 => exact (Kd.N_reads' HO35.out).2.1); rintro e w25 ⟨rfl, hb⟩; refine ⟨_, rfl, ?_⟩; replace HO1 := A_ (Kd.V_below (vV_ HO1.out) hb); replace HB := A_ (below_step bB_ hb); clear hb) | ((with_reducible refine gc_ (f := 42) rfl ?_); refine gL_ (some 25) Try.func42 #[.slice A0 l0.length c0, .slice A1 l1.length c1] ?_; (with_reducible refine (impl_FindRes.calls k _ _ l0 _ _ l1 t37 _ ?s1 ?s2 ?s3 ?s4 A12.out).mono ?_); (case s1 => exact cC_ (Kd.C_below HR0.out HB.out)); (case s2 => exact HC0.out); (case s3 => exact cC_ (Kd.V_reads' HO1.out).2.2); (case s4 => exact (Kd.V_reads' HO1.out).2.1); rintro e w26 ⟨rfl, hb⟩; refine ⟨_, rfl, ?_⟩; replace HO1 := A_ (Kd.V_below (vV_ HO1.out) hb); replace HB := A_ (below_step bB_ hb); clear hb) | ((with_reducible refine gc_ (f := 67) rfl ?_); refine gL_ (some 31) Try.func67 #[.slice A0 l0.length c0, .slice A1 l1.length c1] ?_; (with_reducible refine (impl_without.calls k _ _ l0 _ _ l1 t40 _ ?s1 ?s2 ?s3 ?s4 A21.out).mono ?_); (case s1 => exact cC_ (Kd.C_below HR0.out HB.out)); (case s2 => exact HC0.out); (case s3 => exact cC_ (Kd.V_reads' HO1.out).2.2); (case s4 => exact (Kd.V_reads' HO1.out).2.1); rintro e w27 ⟨v50, rfl, ho0, hb⟩; refine ⟨_, rfl, ?_⟩; have HO46 := A_ (Kd.S_lower (Kd.S_newM (M := fun k_ => (w.heap.size <= k_)) ho0 (below_size bB_) (fun k_ h_ => h_)) (below_size bB_)); replace HB := A_ (below_step bB_ hb); clear hb ho0))
 go_ret2
 exact ⟨_, rr_, by (with_reducible repeat (first | apply Kd.S_alloc | apply Kd.S_drewN | apply Kd.S_drew)); exact Kd.S_mono HO46.out (fun _ hk => hk.1), bB_⟩
theorem eqA72 (d : Nat) (w : World) (x0 y0 : ByteArray) (x1 y1 : ByteArray) (x2 y2 : ByteArray) :
    (Op.equalIn (d + 2) 72 (.agg #[.string x0, .string x1, .string x2]) (.agg #[.string y0, .string y1, .string y2])).run Try.prog w = .ok (x0.toList == y0.toList && (x1.toList == y1.toList && (x2.toList == y2.toList))) w := by
  refine eqA_of Try.underlying72 (by kernel_rfl) ?_
  refine eqf_cons (by rfl) (by go_simp; rfl) (by go_simp; rfl) (by go_simp) ?_
  refine eqf_cons (by rfl) (by go_simp; rfl) (by go_simp; rfl) (by go_simp) ?_
  exact eqf_last (by rfl) (by go_simp; rfl) (by go_simp; rfl) (by go_simp)
set_option maxHeartbeats 8000000
set_option maxRecDepth 100000
attribute [local go_sem high] eqA72
def laws_sameTexts.l0 : Nat -> List ByteArray -> List ByteArray -> Int -> Option (Bool)
 | 0, _, _, _ => none
 | k + 1, x0, x1, x5 => if x5 < (x0.length : Int) then (if 0 <= x5 then (if x5 < (x1.length : Int) then (if (rdOf ByteArray.empty x0 x5).toList = (rdOf ByteArray.empty x1 x5).toList then (laws_sameTexts.l0 k x0 x1 (wrap64 (x5 + 1))) else (some false)) else (none)) else (none)) else (some true)
def laws_sameTexts.f (k : Nat) (l0 : List ByteArray) (l1 : List ByteArray) : Option (Bool) := if (l0.length : Int) = (l1.length : Int) then (laws_sameTexts.l0 k l0 l1 0) else (some false)
theorem laws_sameTexts.calls (k : Nat) (A0 : Option Addr) (c0 : Nat) (l0 : List ByteArray) (A1 : Option Addr) (c1 : Nat) (l1 : List ByteArray) (r : Bool) (w : World) (hr0 : Kd.C Kd.string w A0 l0.length l0) (hc0 : l0.length <= c0) (hr1 : Kd.C Kd.string w A1 l1.length l1) (hc1 : l1.length <= c1) (h : laws_sameTexts.f k l0 l1 = some r) :
 Calls Try.prog 45 #[.slice A0 l0.length c0, .slice A1 l1.length c1] w fun e w' => e = .returned (.bool r) /\ Drawn0 w w' := by
 have HR0 := A_ hr0
 clear hr0 hc0
 have HR1 := A_ hr1
 clear hr1 hc1
 have H : (if (l0.length : Int) = (l1.length : Int) then (laws_sameTexts.l0 k l0 l1 0) else (some false)) = some r := h
 clear h
 by_cases c3 : (l0.length : Int) = (l1.length : Int)
 rotate_left
 . rw [if_neg c3] at H
   obtain ⟨c3b0, c3b1⟩ := eF_ c3
   have c3b2 : (l0.length == l1.length) = false := by first | simpa using c3 | (simp at c3 ⊢; omega)
   obtain rfl := si_ H
   go_enter Try.func45, Try.ntmps45
   go_wp2
   repeat (go_quiet (fail); try go_wp2)
   go_ret
   exact ⟨rs_, dr_⟩
 rw [if_pos c3] at H
 obtain ⟨c3b0, c3b1⟩ := eT_ c3
 have c3b2 : (l0.length == l1.length) = true := by first | simpa using c3 | (simp at c3 ⊢; omega)
 clear c3
 have H' := A_ H
 clear H
 go_enter Try.func45, Try.ntmps45
 go_wp2
 repeat (go_quiet (fail); try go_wp2)
 go_loopg [5] k (fun kq v5 w' => ∃ (x5_1 : Int), v5 = .int .i64 x5_1 /\ Aside0 (laws_sameTexts.l0 kq l0 l1 x5_1 = some r) /\ Aside0 (kq <= k) /\ Drawn0 w w')
 case atStart => exact ⟨(0), rs_, H', ⟨Nat.le_refl _⟩, dr_⟩
 case round =>
  clear H'
  try clear c3
  try clear c3b0
  try clear c3b1
  try clear c3b2
  obtain ⟨x5_1, rfl, HA, HK1, ⟨m1, rfl⟩⟩ := hrel
  cases gk with
  | zero => exact absurd HA.out (by simp [laws_sameTexts.l0])
  | succ k1 =>
   have H := HA.out
   clear HA
   simp only [laws_sameTexts.l0] at H
   by_cases c4 : x5_1 < (l0.length : Int)
   rotate_left
   . rw [if_neg c4] at H
     have c4b0 := decide_eq_false c4
     clear c4
     obtain rfl := si_ H
     go_wp2
     repeat (go_quiet (fail); try go_wp2)
     go_ret
     exact ⟨rs_, dr_⟩
   rw [if_pos c4] at H
   have c4b0 := decide_eq_true c4
   clear c4
   by_cases c5 : 0 <= x5_1
   rotate_left
   . exact absurd H (by rw [if_neg c5]; simp)
   rw [if_pos c5] at H
   have c5b0 := decide_eq_true c5
   clear c5
   by_cases c6 : x5_1 < (l1.length : Int)
   rotate_left
   . exact absurd H (by rw [if_neg c6]; simp)
   rw [if_pos c6] at H
   have c6b0 := decide_eq_true c6
   clear c6
   by_cases c7 : (rdOf ByteArray.empty l0 x5_1).toList = (rdOf ByteArray.empty l1 x5_1).toList
   rotate_left
   . rw [if_neg c7] at H
     obtain ⟨c7b0, c7b1⟩ := eF_ c7
     obtain rfl := si_ H
     have p2 : 0 <= (x5_1 : Int) := od_
     have q2 : x5_1 < (l0.length : Int) := od_
     obtain ⟨ad2, e2, hx2_0⟩ := Kd.at_string HR0.out x5_1 p2 q2
     cases e2
     replace p2 := eq_true p2
     replace q2 := eq_true q2
     have p8 : 0 <= (x5_1 : Int) := od_
     have q8 : x5_1 < (l1.length : Int) := od_
     obtain ⟨ad8, e8, hx8_0⟩ := Kd.at_string HR1.out x5_1 p8 q8
     cases e8
     replace p8 := eq_true p8
     replace q8 := eq_true q8
     go_wp2
     repeat (go_quiet (fail); try go_wp2)
     go_ret
     exact ⟨rs_, dr_⟩
   rw [if_pos c7] at H
   obtain ⟨c7b0, c7b1⟩ := eT_ c7
   clear c7
   have H' := A_ H
   clear H
   have p2 : 0 <= (x5_1 : Int) := od_
   have q2 : x5_1 < (l0.length : Int) := od_
   obtain ⟨ad2, e2, hx2_0⟩ := Kd.at_string HR0.out x5_1 p2 q2
   cases e2
   replace p2 := eq_true p2
   replace q2 := eq_true q2
   have p8 : 0 <= (x5_1 : Int) := od_
   have q8 : x5_1 < (l1.length : Int) := od_
   obtain ⟨ad8, e8, hx8_0⟩ := Kd.at_string HR1.out x5_1 p8 q8
   cases e8
   replace p8 := eq_true p8
   replace q8 := eq_true q8
   go_wp2
   repeat (go_quiet (fail); try go_wp2)
   go_roundg k1
   case measure => have := HK1.out; omega
   case rel => exact ⟨(wrap64 (x5_1 + 1)), rs_, H', ⟨by have := HK1.out; omega⟩, dr_⟩
def laws_sameProps.l0 : Nat -> List (S72) -> List (S72) -> Int -> Option (Bool)
 | 0, _, _, _ => none
 | k + 1, x0, x1, x5 => if x5 < (x0.length : Int) then (if 0 <= x5 then (if x5 < (x1.length : Int) then (if (!((((rd_T72 x0 x5).f0).toList) == (((rd_T72 x1 x5).f0).toList)) || (!((((rd_T72 x0 x5).f1).toList) == (((rd_T72 x1 x5).f1).toList)) || (!((((rd_T72 x0 x5).f2).toList) == (((rd_T72 x1 x5).f2).toList))))) = true then (some false) else (laws_sameProps.l0 k x0 x1 (wrap64 (x5 + 1)))) else (none)) else (none)) else (some true)
def laws_sameProps.f (k : Nat) (l0 : List (S72)) (l1 : List (S72)) : Option (Bool) := if (l0.length : Int) = (l1.length : Int) then (laws_sameProps.l0 k l0 l1 0) else (some false)
theorem laws_sameProps.calls (k : Nat) (A0 : Option Addr) (c0 : Nat) (l0 : List (S72)) (A1 : Option Addr) (c1 : Nat) (l1 : List (S72)) (r : Bool) (w : World) (hr0 : Kd.C k72 w A0 l0.length l0) (hc0 : l0.length <= c0) (hr1 : Kd.C k72 w A1 l1.length l1) (hc1 : l1.length <= c1) (h : laws_sameProps.f k l0 l1 = some r) :
 Calls Try.prog 51 #[.slice A0 l0.length c0, .slice A1 l1.length c1] w fun e w' => e = .returned (.bool r) /\ Drawn0 w w' := by
 have hu72 := Try.underlying72
 have HR0 := A_ hr0
 clear hr0 hc0
 have HR1 := A_ hr1
 clear hr1 hc1
 have H : (if (l0.length : Int) = (l1.length : Int) then (laws_sameProps.l0 k l0 l1 0) else (some false)) = some r := h
 clear h
 by_cases c3 : (l0.length : Int) = (l1.length : Int)
 rotate_left
 . rw [if_neg c3] at H
   obtain ⟨c3b0, c3b1⟩ := eF_ c3
   have c3b2 : (l0.length == l1.length) = false := by first | simpa using c3 | (simp at c3 ⊢; omega)
   obtain rfl := si_ H
   go_enter Try.func51, Try.ntmps51
   go_wp2
   repeat (go_quiet (fail); try go_wp2)
   go_ret
   exact ⟨rs_, dr_⟩
 rw [if_pos c3] at H
 obtain ⟨c3b0, c3b1⟩ := eT_ c3
 have c3b2 : (l0.length == l1.length) = true := by first | simpa using c3 | (simp at c3 ⊢; omega)
 clear c3
 have H' := A_ H
 clear H
 go_enter Try.func51, Try.ntmps51
 go_wp2
 repeat (go_quiet (fail); try go_wp2)
 go_loopg [5] k (fun kq v5 w' => ∃ (x5_1 : Int), v5 = .int .i64 x5_1 /\ Aside0 (laws_sameProps.l0 kq l0 l1 x5_1 = some r) /\ Aside0 (kq <= k) /\ Drawn0 w w')
 case atStart => exact ⟨(0), rs_, H', ⟨Nat.le_refl _⟩, dr_⟩
 case round =>
  clear H'
  try clear c3
  try clear c3b0
  try clear c3b1
  try clear c3b2
  obtain ⟨x5_1, rfl, HA, HK1, ⟨m1, rfl⟩⟩ := hrel
  cases gk with
  | zero => exact absurd HA.out (by simp [laws_sameProps.l0])
  | succ k1 =>
   have H := HA.out
   clear HA
   simp only [laws_sameProps.l0] at H
   by_cases c4 : x5_1 < (l0.length : Int)
   rotate_left
   . rw [if_neg c4] at H
     have c4b0 := decide_eq_false c4
     clear c4
     obtain rfl := si_ H
     go_wp2
     repeat (go_quiet (fail); try go_wp2)
     go_ret
     exact ⟨rs_, dr_⟩
   rw [if_pos c4] at H
   have c4b0 := decide_eq_true c4
   clear c4
   by_cases c5 : 0 <= x5_1
   rotate_left
   . exact absurd H (by rw [if_neg c5]; simp)
   rw [if_pos c5] at H
   have c5b0 := decide_eq_true c5
   clear c5
   by_cases c6 : x5_1 < (l1.length : Int)
   rotate_left
   . exact absurd H (by rw [if_neg c6]; simp)
   rw [if_pos c6] at H
   have c6b0 := decide_eq_true c6
   clear c6
   by_cases c7 : (!((((rd_T72 l0 x5_1).f0).toList) == (((rd_T72 l1 x5_1).f0).toList)) || (!((((rd_T72 l0 x5_1).f1).toList) == (((rd_T72 l1 x5_1).f1).toList)) || (!((((rd_T72 l0 x5_1).f2).toList) == (((rd_T72 l1 x5_1).f2).toList))))) = true
   . rw [if_pos c7] at H
     have c7b0 : (!((((rd_T72 l0 x5_1).f0).toList) == (((rd_T72 l1 x5_1).f0).toList)) || (!((((rd_T72 l0 x5_1).f1).toList) == (((rd_T72 l1 x5_1).f1).toList)) || (!((((rd_T72 l0 x5_1).f2).toList) == (((rd_T72 l1 x5_1).f2).toList))))) = true := c7
     clear c7
     obtain rfl := si_ H
     have p2 : 0 <= (x5_1 : Int) := od_
     have q2 : x5_1 < (l0.length : Int) := od_
     obtain ⟨ad2, e2, hx2_0, hx2_1, hx2_2⟩ := at_T72 HR0.out x5_1 p2 q2
     cases e2
     replace p2 := eq_true p2
     replace q2 := eq_true q2
     have p8 : 0 <= (x5_1 : Int) := od_
     have q8 : x5_1 < (l1.length : Int) := od_
     obtain ⟨ad8, e8, hx8_0, hx8_1, hx8_2⟩ := at_T72 HR1.out x5_1 p8 q8
     cases e8
     replace p8 := eq_true p8
     replace q8 := eq_true q8
     go_wp2
     repeat (go_quiet (fail); try go_wp2)
     go_ret
     exact ⟨rs_, dr_⟩
   rw [if_neg c7] at H
   have c7b0 : (!((((rd_T72 l0 x5_1).f0).toList) == (((rd_T72 l1 x5_1).f0).toList)) || (!((((rd_T72 l0 x5_1).f1).toList) == (((rd_T72 l1 x5_1).f1).toList)) || (!((((rd_T72 l0 x5_1).f2).toList) == (((rd_T72 l1 x5_1).f2).toList))))) = false := by simpa using c7
   clear c7
   have H' := A_ H
   clear H
   have p2 : 0 <= (x5_1 : Int) := od_
   have q2 : x5_1 < (l0.length : Int) := od_
   obtain ⟨ad2, e2, hx2_0, hx2_1, hx2_2⟩ := at_T72 HR0.out x5_1 p2 q2
   cases e2
   replace p2 := eq_true p2
   replace q2 := eq_true q2
   have p8 : 0 <= (x5_1 : Int) := od_
   have q8 : x5_1 < (l1.length : Int) := od_
   obtain ⟨ad8, e8, hx8_0, hx8_1, hx8_2⟩ := at_T72 HR1.out x5_1 p8 q8
   cases e8
   replace p8 := eq_true p8
   replace q8 := eq_true q8
   go_wp2
   repeat (go_quiet (fail); try go_wp2)
   go_roundg k1
   case measure => have := HK1.out; omega
   case rel => exact ⟨(wrap64 (x5_1 + 1)), rs_, H', ⟨by have := HK1.out; omega⟩, dr_⟩
def laws_sameRes.f (k : Nat) (l0_0 : List ByteArray) (a0_1 : Bool) (a0_2 : ByteArray) (a0_3 : Int) (l0_4 : List (S72)) (l1_0 : List ByteArray) (a1_1 : Bool) (a1_2 : ByteArray) (a1_3 : Int) (l1_4 : List (S72)) : Option (Bool) := (laws_sameTexts.f k l0_0 l1_0).bind fun t1243 => (if t1243 = true then (if (a0_1 == a1_1) = true then (if a0_2.toList = a1_2.toList then (if a0_3 = a1_3 then ((laws_sameProps.f k l0_4 l1_4).bind fun t1244 => (some t1244)) else (some false)) else (some false)) else (some false)) else (some false))
theorem laws_sameRes.calls (k : Nat) (A0_0 : Option Addr) (c0_0 : Nat) (l0_0 : List ByteArray) (a0_1 : Bool) (a0_2 : ByteArray) (a0_3 : Int) (A0_4 : Option Addr) (c0_4 : Nat) (l0_4 : List (S72)) (A1_0 : Option Addr) (c1_0 : Nat) (l1_0 : List ByteArray) (a1_1 : Bool) (a1_2 : ByteArray) (a1_3 : Int) (A1_4 : Option Addr) (c1_4 : Nat) (l1_4 : List (S72)) (r : Bool) (w : World) (hr0_0 : Kd.C Kd.string w A0_0 l0_0.length l0_0) (hc0_0 : l0_0.length <= c0_0) (hr0_4 : Kd.C k72 w A0_4 l0_4.length l0_4) (hc0_4 : l0_4.length <= c0_4) (hr1_0 : Kd.C Kd.string w A1_0 l1_0.length l1_0) (hc1_0 : l1_0.length <= c1_0) (hr1_4 : Kd.C k72 w A1_4 l1_4.length l1_4) (hc1_4 : l1_4.length <= c1_4) (h : laws_sameRes.f k l0_0 a0_1 a0_2 a0_3 l0_4 l1_0 a1_1 a1_2 a1_3 l1_4 = some r) :
 Calls Try.prog 46 #[.agg #[.slice A0_0 l0_0.length c0_0, .bool a0_1, .string a0_2, .int .i64 a0_3, .slice A0_4 l0_4.length c0_4], .agg #[.slice A1_0 l1_0.length c1_0, .bool a1_1, .string a1_2, .int .i64 a1_3, .slice A1_4 l1_4.length c1_4]] w fun e w' => e = .returned (.bool r) /\ Below w.heap.size w w' := by
 have hu57 := Try.underlying57
 have HR0_0 := A_ hr0_0
 have HC0_0 := A_ hc0_0
 clear hr0_0 hc0_0
 have HR0_4 := A_ hr0_4
 have HC0_4 := A_ hc0_4
 clear hr0_4 hc0_4
 have HR1_0 := A_ hr1_0
 have HC1_0 := A_ hc1_0
 clear hr1_0 hc1_0
 have HR1_4 := A_ hr1_4
 have HC1_4 := A_ hc1_4
 clear hr1_4 hc1_4
 have HB := A_ (Below.refl w.heap.size w)
 have H : ((laws_sameTexts.f k l0_0 l1_0).bind fun t36 => (if t36 = true then (if (a0_1 == a1_1) = true then (if a0_2.toList = a1_2.toList then (if a0_3 = a1_3 then ((laws_sameProps.f k l0_4 l1_4).bind fun t37 => (some t37)) else (some false)) else (some false)) else (some false)) else (some false))) = some r := h
 clear h
 obtain ⟨t36, A3, H⟩ := bo_ H
 (try dsimp only at H)
 by_cases c4 : t36 = true
 . subst c4
   rw [if_pos rfl] at H
   by_cases c5 : (a0_1 == a1_1) = true
   rotate_left
   . rw [if_neg c5] at H
     have c5b0 : (a0_1 == a1_1) = false := by simpa using c5
     (try (have c5b1 : decide (a0_1 = a1_1) = false := by simpa using c5))
     (try (have c5b2 : (a0_1 == a1_1) = false := by simpa using c5))
     (try (have c5b3 : ¬ (a0_1 = a1_1) := by simpa using c5))
     clear c5
     obtain rfl := si_ H
     go_enter Try.func46, Try.ntmps46
     go_wp2_with (first | ((with_reducible refine gd_ (N := 2) rfl ?_); refine bx_ (N := 2) (cs := #[.slice A0_0 l0_0.length c0_0, .bool a0_1, .string a0_2, .int .i64 a0_3, .slice A0_4 l0_4.length c0_4]) (t := 57) ?_; intro gb34 hg w24 hbox hb; have BK34 := A_ (hbox); have GW34 := A_ (ge_ hg bB_ : w.heap.size <= gb34); have GE34 := A_ (ge_ hg bB_ : w.heap.size <= gb34); replace HB := A_ (below_step bB_ hb); clear hb hbox hg) | ((with_reducible refine gd_ (N := 3) rfl ?_); refine bx_ (N := 3) (cs := #[.slice A1_0 l1_0.length c1_0, .bool a1_1, .string a1_2, .int .i64 a1_3, .slice A1_4 l1_4.length c1_4]) (t := 57) ?_; intro gb35 hg w25 hbox hb; have BK35 := A_ (hbox); have GW35 := A_ (ge_ hg (bG_ GE34.out) : w.heap.size <= gb35); have GE35 := A_ (ge_ hg (bG_ GE34.out) : w.heap.size <= gb35); replace HB := A_ (below_step (bG_ GE34.out) hb); have NB1241_1242 := A_ (gm_ hg BK34.out); have NB1242_1241 := A_ (gn_ hg BK34.out); replace BK34 := A_ (bw_ BK34.out hb); clear hb hbox hg; have hnb26 := NB1241_1242.out; have hnc26 := NB1242_1241.out; obtain ⟨hcz27_0, hcz27_1, hcz27_2, hcz27_3, hcz27_4, hfz27_0, hfz27_1, hfz27_2, hfz27_3, hfz27_4⟩ := cz5_ BK34.out; obtain ⟨hcz28_0, hcz28_1, hcz28_2, hcz28_3, hcz28_4, hfz28_0, hfz28_1, hfz28_2, hfz28_3, hfz28_4⟩ := cz5_ BK35.out) | ((with_reducible refine gc_ (f := 45) rfl ?_); refine gL_ (some 9) Try.func45 #[.slice A0_0 l0_0.length c0_0, .slice A1_0 l1_0.length c1_0] ?_; (with_reducible refine (laws_sameTexts.calls k _ _ l0_0 _ _ l1_0 true _ ?s1 ?s2 ?s3 ?s4 A3.out).mono ?_); (case s1 => exact cC_ (Kd.C_below HR0_0.out HB.out)); (case s2 => exact HC0_0.out); (case s3 => exact cC_ (Kd.C_below HR1_0.out HB.out)); (case s4 => exact HC1_0.out); rintro e w' ⟨rfl, ⟨nd, rfl⟩⟩; refine ⟨_, rfl, ?_⟩))
     go_ret
     exact ⟨rr_, by repeat (first | (with_reducible first | exact HB.out | apply below_alloc | apply pw_below_drewN | apply below_drew1 | refine below_set ?_ GE34.out | refine below_set ?_ GE35.out) | exact HB.out)⟩
   rw [if_pos c5] at H
   have c5b0 : (a0_1 == a1_1) = true := c5
   (try (have c5b1 : decide (a0_1 = a1_1) = true := by simpa using c5))
   (try (have c5b2 : (a0_1 == a1_1) = true := by simpa using c5))
   clear c5
   by_cases c6 : a0_2.toList = a1_2.toList
   rotate_left
   . rw [if_neg c6] at H
     obtain ⟨c6b0, c6b1⟩ := eF_ c6
     obtain rfl := si_ H
     go_enter Try.func46, Try.ntmps46
     go_wp2_with (first | ((with_reducible refine gd_ (N := 2) rfl ?_); refine bx_ (N := 2) (cs := #[.slice A0_0 l0_0.length c0_0, .bool a0_1, .string a0_2, .int .i64 a0_3, .slice A0_4 l0_4.length c0_4]) (t := 57) ?_; intro gb34 hg w19 hbox hb; have BK34 := A_ (hbox); have GW34 := A_ (ge_ hg bB_ : w.heap.size <= gb34); have GE34 := A_ (ge_ hg bB_ : w.heap.size <= gb34); replace HB := A_ (below_step bB_ hb); clear hb hbox hg) | ((with_reducible refine gd_ (N := 3) rfl ?_); refine bx_ (N := 3) (cs := #[.slice A1_0 l1_0.length c1_0, .bool a1_1, .string a1_2, .int .i64 a1_3, .slice A1_4 l1_4.length c1_4]) (t := 57) ?_; intro gb35 hg w20 hbox hb; have BK35 := A_ (hbox); have GW35 := A_ (ge_ hg (bG_ GE34.out) : w.heap.size <= gb35); have GE35 := A_ (ge_ hg (bG_ GE34.out) : w.heap.size <= gb35); replace HB := A_ (below_step (bG_ GE34.out) hb); have NB1241_1242 := A_ (gm_ hg BK34.out); have NB1242_1241 := A_ (gn_ hg BK34.out); replace BK34 := A_ (bw_ BK34.out hb); clear hb hbox hg; have hnb21 := NB1241_1242.out; have hnc21 := NB1242_1241.out; obtain ⟨hcz22_0, hcz22_1, hcz22_2, hcz22_3, hcz22_4, hfz22_0, hfz22_1, hfz22_2, hfz22_3, hfz22_4⟩ := cz5_ BK34.out; obtain ⟨hcz23_0, hcz23_1, hcz23_2, hcz23_3, hcz23_4, hfz23_0, hfz23_1, hfz23_2, hfz23_3, hfz23_4⟩ := cz5_ BK35.out) | ((with_reducible refine gc_ (f := 45) rfl ?_); refine gL_ (some 9) Try.func45 #[.slice A0_0 l0_0.length c0_0, .slice A1_0 l1_0.length c1_0] ?_; (with_reducible refine (laws_sameTexts.calls k _ _ l0_0 _ _ l1_0 true _ ?s1 ?s2 ?s3 ?s4 A3.out).mono ?_); (case s1 => exact cC_ (Kd.C_below HR0_0.out HB.out)); (case s2 => exact HC0_0.out); (case s3 => exact cC_ (Kd.C_below HR1_0.out HB.out)); (case s4 => exact HC1_0.out); rintro e w' ⟨rfl, ⟨nd, rfl⟩⟩; refine ⟨_, rfl, ?_⟩))
     go_ret
     exact ⟨rr_, by repeat (first | (with_reducible first | exact HB.out | apply below_alloc | apply pw_below_drewN | apply below_drew1 | refine below_set ?_ GE34.out | refine below_set ?_ GE35.out) | exact HB.out)⟩
   rw [if_pos c6] at H
   obtain ⟨c6b0, c6b1⟩ := eT_ c6
   clear c6
   by_cases c7 : a0_3 = a1_3
   rotate_left
   . rw [if_neg c7] at H
     obtain ⟨c7b0, c7b1⟩ := eF_ c7
     obtain rfl := si_ H
     go_enter Try.func46, Try.ntmps46
     go_wp2_with (first | ((with_reducible refine gd_ (N := 2) rfl ?_); refine bx_ (N := 2) (cs := #[.slice A0_0 l0_0.length c0_0, .bool a0_1, .string a0_2, .int .i64 a0_3, .slice A0_4 l0_4.length c0_4]) (t := 57) ?_; intro gb34 hg w14 hbox hb; have BK34 := A_ (hbox); have GW34 := A_ (ge_ hg bB_ : w.heap.size <= gb34); have GE34 := A_ (ge_ hg bB_ : w.heap.size <= gb34); replace HB := A_ (below_step bB_ hb); clear hb hbox hg) | ((with_reducible refine gd_ (N := 3) rfl ?_); refine bx_ (N := 3) (cs := #[.slice A1_0 l1_0.length c1_0, .bool a1_1, .string a1_2, .int .i64 a1_3, .slice A1_4 l1_4.length c1_4]) (t := 57) ?_; intro gb35 hg w15 hbox hb; have BK35 := A_ (hbox); have GW35 := A_ (ge_ hg (bG_ GE34.out) : w.heap.size <= gb35); have GE35 := A_ (ge_ hg (bG_ GE34.out) : w.heap.size <= gb35); replace HB := A_ (below_step (bG_ GE34.out) hb); have NB1241_1242 := A_ (gm_ hg BK34.out); have NB1242_1241 := A_ (gn_ hg BK34.out); replace BK34 := A_ (bw_ BK34.out hb); clear hb hbox hg; have hnb16 := NB1241_1242.out; have hnc16 := NB1242_1241.out; obtain ⟨hcz17_0, hcz17_1, hcz17_2, hcz17_3, hcz17_4, hfz17_0, hfz17_1, hfz17_2, hfz17_3, hfz17_4⟩ := cz5_ BK34.out; obtain ⟨hcz18_0, hcz18_1, hcz18_2, hcz18_3, hcz18_4, hfz18_0, hfz18_1, hfz18_2, hfz18_3, hfz18_4⟩ := cz5_ BK35.out) | ((with_reducible refine gc_ (f := 45) rfl ?_); refine gL_ (some 9) Try.func45 #[.slice A0_0 l0_0.length c0_0, .slice A1_0 l1_0.length c1_0] ?_; (with_reducible refine (laws_sameTexts.calls k _ _ l0_0 _ _ l1_0 true _ ?s1 ?s2 ?s3 ?s4 A3.out).mono ?_); (case s1 => exact cC_ (Kd.C_below HR0_0.out HB.out)); (case s2 => exact HC0_0.out); (case s3 => exact cC_ (Kd.C_below HR1_0.out HB.out)); (case s4 => exact HC1_0.out); rintro e w' ⟨rfl, ⟨nd, rfl⟩⟩; refine ⟨_, rfl, ?_⟩))
     go_ret
     exact ⟨rr_, by repeat (first | (with_reducible first | exact HB.out | apply below_alloc | apply pw_below_drewN | apply below_drew1 | refine below_set ?_ GE34.out | refine below_set ?_ GE35.out) | exact HB.out)⟩
   rw [if_pos c7] at H
   obtain ⟨c7b0, c7b1⟩ := eT_ c7
   clear c7
   obtain ⟨t37, A8, H⟩ := bo_ H
   (try dsimp only at H)
   obtain rfl := si_ H
   go_enter Try.func46, Try.ntmps46
   go_wp2_with (first | ((with_reducible refine gd_ (N := 2) rfl ?_); refine bx_ (N := 2) (cs := #[.slice A0_0 l0_0.length c0_0, .bool a0_1, .string a0_2, .int .i64 a0_3, .slice A0_4 l0_4.length c0_4]) (t := 57) ?_; intro gb34 hg w9 hbox hb; have BK34 := A_ (hbox); have GW34 := A_ (ge_ hg bB_ : w.heap.size <= gb34); have GE34 := A_ (ge_ hg bB_ : w.heap.size <= gb34); replace HB := A_ (below_step bB_ hb); clear hb hbox hg) | ((with_reducible refine gd_ (N := 3) rfl ?_); refine bx_ (N := 3) (cs := #[.slice A1_0 l1_0.length c1_0, .bool a1_1, .string a1_2, .int .i64 a1_3, .slice A1_4 l1_4.length c1_4]) (t := 57) ?_; intro gb35 hg w10 hbox hb; have BK35 := A_ (hbox); have GW35 := A_ (ge_ hg (bG_ GE34.out) : w.heap.size <= gb35); have GE35 := A_ (ge_ hg (bG_ GE34.out) : w.heap.size <= gb35); replace HB := A_ (below_step (bG_ GE34.out) hb); have NB1241_1242 := A_ (gm_ hg BK34.out); have NB1242_1241 := A_ (gn_ hg BK34.out); replace BK34 := A_ (bw_ BK34.out hb); clear hb hbox hg; have hnb11 := NB1241_1242.out; have hnc11 := NB1242_1241.out; obtain ⟨hcz12_0, hcz12_1, hcz12_2, hcz12_3, hcz12_4, hfz12_0, hfz12_1, hfz12_2, hfz12_3, hfz12_4⟩ := cz5_ BK34.out; obtain ⟨hcz13_0, hcz13_1, hcz13_2, hcz13_3, hcz13_4, hfz13_0, hfz13_1, hfz13_2, hfz13_3, hfz13_4⟩ := cz5_ BK35.out) | ((with_reducible refine gc_ (f := 45) rfl ?_); refine gL_ (some 9) Try.func45 #[.slice A0_0 l0_0.length c0_0, .slice A1_0 l1_0.length c1_0] ?_; (with_reducible refine (laws_sameTexts.calls k _ _ l0_0 _ _ l1_0 true _ ?s1 ?s2 ?s3 ?s4 A3.out).mono ?_); (case s1 => exact cC_ (Kd.C_below HR0_0.out HB.out)); (case s2 => exact HC0_0.out); (case s3 => exact cC_ (Kd.C_below HR1_0.out HB.out)); (case s4 => exact HC1_0.out); rintro e w' ⟨rfl, ⟨nd, rfl⟩⟩; refine ⟨_, rfl, ?_⟩) | (go_at_call 51; (with_reducible refine (laws_sameProps.calls k _ _ l0_4 _ _ l1_4 t37 _ ?s1 ?s2 ?s3 ?s4 A8.out).mono ?_); (case s1 => repeat (first | exact (Kd.C_below HR0_4.out (by repeat (first | (with_reducible first | exact HB.out | apply below_alloc | apply pw_below_drewN | apply below_drew1 | refine below_set ?_ GE34.out | refine below_set ?_ GE35.out) | exact HB.out))) | (with_reducible refine Kd.C_alloc ?_ _) | (with_reducible refine Kd.C_drewN ?_ _) | (with_reducible refine Kd.C_drew ?_))); (case s2 => exact HC0_4.out); (case s3 => repeat (first | exact (Kd.C_below HR1_4.out (by repeat (first | (with_reducible first | exact HB.out | apply below_alloc | apply pw_below_drewN | apply below_drew1 | refine below_set ?_ GE34.out | refine below_set ?_ GE35.out) | exact HB.out))) | (with_reducible refine Kd.C_alloc ?_ _) | (with_reducible refine Kd.C_drewN ?_ _) | (with_reducible refine Kd.C_drew ?_))); (case s4 => exact HC1_4.out); rintro e w' ⟨rfl, ⟨nd, rfl⟩⟩))
   go_ret
   exact ⟨rr_, by repeat (first | (with_reducible first | exact HB.out | apply below_alloc | apply pw_below_drewN | apply below_drew1 | refine below_set ?_ GE34.out | refine below_set ?_ GE35.out) | exact HB.out)⟩
 . replace c4 := Bool.eq_false_iff.mpr c4
   subst c4
   rw [if_neg nf_] at H
   obtain rfl := si_ H
   go_enter Try.func46, Try.ntmps46
   go_wp2_with (first | ((with_reducible refine gd_ (N := 2) rfl ?_); refine bx_ (N := 2) (cs := #[.slice A0_0 l0_0.length c0_0, .bool a0_1, .string a0_2, .int .i64 a0_3, .slice A0_4 l0_4.length c0_4]) (t := 57) ?_; intro gb34 hg w29 hbox hb; have BK34 := A_ (hbox); have GW34 := A_ (ge_ hg bB_ : w.heap.size <= gb34); have GE34 := A_ (ge_ hg bB_ : w.heap.size <= gb34); replace HB := A_ (below_step bB_ hb); clear hb hbox hg) | ((with_reducible refine gd_ (N := 3) rfl ?_); refine bx_ (N := 3) (cs := #[.slice A1_0 l1_0.length c1_0, .bool a1_1, .string a1_2, .int .i64 a1_3, .slice A1_4 l1_4.length c1_4]) (t := 57) ?_; intro gb35 hg w30 hbox hb; have BK35 := A_ (hbox); have GW35 := A_ (ge_ hg (bG_ GE34.out) : w.heap.size <= gb35); have GE35 := A_ (ge_ hg (bG_ GE34.out) : w.heap.size <= gb35); replace HB := A_ (below_step (bG_ GE34.out) hb); have NB1241_1242 := A_ (gm_ hg BK34.out); have NB1242_1241 := A_ (gn_ hg BK34.out); replace BK34 := A_ (bw_ BK34.out hb); clear hb hbox hg; have hnb31 := NB1241_1242.out; have hnc31 := NB1242_1241.out; obtain ⟨hcz32_0, hcz32_1, hcz32_2, hcz32_3, hcz32_4, hfz32_0, hfz32_1, hfz32_2, hfz32_3, hfz32_4⟩ := cz5_ BK34.out; obtain ⟨hcz33_0, hcz33_1, hcz33_2, hcz33_3, hcz33_4, hfz33_0, hfz33_1, hfz33_2, hfz33_3, hfz33_4⟩ := cz5_ BK35.out) | ((with_reducible refine gc_ (f := 45) rfl ?_); refine gL_ (some 9) Try.func45 #[.slice A0_0 l0_0.length c0_0, .slice A1_0 l1_0.length c1_0] ?_; (with_reducible refine (laws_sameTexts.calls k _ _ l0_0 _ _ l1_0 false _ ?s1 ?s2 ?s3 ?s4 A3.out).mono ?_); (case s1 => exact cC_ (Kd.C_below HR0_0.out HB.out)); (case s2 => exact HC0_0.out); (case s3 => exact cC_ (Kd.C_below HR1_0.out HB.out)); (case s4 => exact HC1_0.out); rintro e w' ⟨rfl, ⟨nd, rfl⟩⟩; refine ⟨_, rfl, ?_⟩))
   go_ret
   exact ⟨rr_, by repeat (first | (with_reducible first | exact HB.out | apply below_alloc | apply pw_below_drewN | apply below_drew1 | refine below_set ?_ GE34.out | refine below_set ?_ GE35.out) | exact HB.out)⟩
def laws_sameTree.l0 : Nat -> List (S57) -> List (S57) -> Int -> Option (Bool)
 | 0, _, _, _ => none
 | k + 1, x0, x1, x5 => if x5 < (x0.length : Int) then (if 0 <= x5 then (if x5 < (x1.length : Int) then ((laws_sameRes.f k ((rd_T57 x0 x5).f0) ((rd_T57 x0 x5).f1) ((rd_T57 x0 x5).f2) ((rd_T57 x0 x5).f3) ((rd_T57 x0 x5).f4) ((rd_T57 x1 x5).f0) ((rd_T57 x1 x5).f1) ((rd_T57 x1 x5).f2) ((rd_T57 x1 x5).f3) ((rd_T57 x1 x5).f4)).bind fun t1247 => (if t1247 = true then (laws_sameTree.l0 k x0 x1 (wrap64 (x5 + 1))) else (some false))) else (none)) else (none)) else (some true)
def laws_sameTree.f (k : Nat) (l0 : List (S57)) (l1 : List (S57)) : Option (Bool) := if (l0.length : Int) = (l1.length : Int) then (laws_sameTree.l0 k l0 l1 0) else (some false)
def laws_sameTree.T6 : Bool × List (List Nat × List Nat) := (true, [([], []), ([], []), ([0, 1], [0, 1]), ([2], [2]), ([], []), ([], []), ([4, 5], [4, 5]), ([6], [6]), ([3, 7], [3, 7]), ([8], [8])])
def laws_sameTree.B6 : List Nat := [0, 0, 3, 7, 0, 0, 48, 112, 255, 511]
theorem laws_sameTree.tab6 : rtab .any (opsOf Try.f41 6) = laws_sameTree.T6 := by kernel_rfl
theorem laws_sameTree.bits6 : waitsOk laws_sameTree.T6.2 laws_sameTree.B6 = true := by kernel_rfl
theorem laws_sameTree.calls (k : Nat) (A0 : Option Addr) (c0 : Nat) (l0 : List (S57)) (A1 : Option Addr) (c1 : Nat) (l1 : List (S57)) (r : Bool) (w : World) (hr0 : Kd.C k57 w A0 l0.length l0) (hc0 : l0.length <= c0) (hr1 : Kd.C k57 w A1 l1.length l1) (hc1 : l1.length <= c1) (h : laws_sameTree.f k l0 l1 = some r) :
 Calls Try.prog 41 #[.slice A0 l0.length c0, .slice A1 l1.length c1] w fun e w' => e = .returned (.bool r) /\ Below w.heap.size w w' := by
 have hu57 := Try.underlying57
 have HR0 := A_ hr0
 clear hr0 hc0
 have HR1 := A_ hr1
 clear hr1 hc1
 have HB := A_ (Below.refl w.heap.size w)
 have H : (if (l0.length : Int) = (l1.length : Int) then (laws_sameTree.l0 k l0 l1 0) else (some false)) = some r := h
 clear h
 by_cases c3 : (l0.length : Int) = (l1.length : Int)
 rotate_left
 . rw [if_neg c3] at H
   obtain ⟨c3b0, c3b1⟩ := eF_ c3
   have c3b2 : (l0.length == l1.length) = false := by first | simpa using c3 | (simp at c3 ⊢; omega)
   obtain rfl := si_ H
   go_enter Try.func41, Try.ntmps41
   go_wp2
   go_ret
   exact ⟨rr_, bB_⟩
 rw [if_pos c3] at H
 obtain ⟨c3b0, c3b1⟩ := eT_ c3
 have c3b2 : (l0.length == l1.length) = true := by first | simpa using c3 | (simp at c3 ⊢; omega)
 clear c3
 have H' := A_ H
 clear H
 go_enter Try.func41, Try.ntmps41
 go_wp2
 go_loopg [5] k (fun kq v5 w' => ∃ (x5_1 : Int), v5 = .int .i64 x5_1 /\ Aside0 (laws_sameTree.l0 kq l0 l1 x5_1 = some r) /\ Aside0 (kq <= k) /\ Aside0 (Below w.heap.size w w'))
 case atStart => exact ⟨(0), rs_, H', ⟨Nat.le_refl _⟩, ⟨bB_⟩⟩
 case round =>
  clear H'
  try clear c3
  try clear c3b0
  try clear c3b1
  try clear c3b2
  obtain ⟨x5_1, rfl, HA, HK1, HB⟩ := hrel
  cases gk with
  | zero => exact absurd HA.out (by simp [laws_sameTree.l0])
  | succ k1 =>
   have H := HA.out
   clear HA
   simp only [laws_sameTree.l0] at H
   by_cases c4 : x5_1 < (l0.length : Int)
   rotate_left
   . rw [if_neg c4] at H
     have c4b0 := decide_eq_false c4
     clear c4
     obtain rfl := si_ H
     go_wp2
     go_ret
     exact ⟨rr_, bB_⟩
   rw [if_pos c4] at H
   have c4b0 := decide_eq_true c4
   clear c4
   by_cases c5 : 0 <= x5_1
   rotate_left
   . exact absurd H (by rw [if_neg c5]; simp)
   rw [if_pos c5] at H
   have c5b0 := decide_eq_true c5
   clear c5
   by_cases c6 : x5_1 < (l1.length : Int)
   rotate_left
   . exact absurd H (by rw [if_neg c6]; simp)
   rw [if_pos c6] at H
   have c6b0 := decide_eq_true c6
   clear c6
   obtain ⟨t15, A7, H⟩ := bo_ H
   (try dsimp only at H)
   by_cases c8 : t15 = true
   . subst c8
     rw [if_pos rfl] at H
     have H' := A_ H
     clear H
     try go_wp2
     replace HB := A_ (below_drew1 HB.out)
     have p13 : 0 <= (x5_1 : Int) := od_
     have q13 : x5_1 < (l0.length : Int) := od_
     obtain ⟨ad13, A13_0, c13_0, A13_4, c13_4, e13, hx13_0, hx13_1, hx13_2, hx13_3, hx13_4, hl13_0, hi13_0, hl13_4, hi13_4⟩ := at_T57 HR0.out x5_1 p13 q13
     have hw13_4 := hx13_4
     have hw13_3 := hx13_3
     have hw13_2 := hx13_2
     have hw13_1 := hx13_1
     have hw13_0 := hx13_0
     cases e13
     replace hx13_0 := bc_ HB.out hx13_0
     replace hx13_1 := bc_ HB.out hx13_1
     replace hx13_2 := bc_ HB.out hx13_2
     replace hx13_3 := bc_ HB.out hx13_3
     replace hx13_4 := bc_ HB.out hx13_4
     have HR13_0 := A_ hi13_0
     have HC13_0 := A_ hl13_0
     clear hi13_0 hl13_0
     have HR13_4 := A_ hi13_4
     have HC13_4 := A_ hl13_4
     clear hi13_4 hl13_4
     replace p13 := eq_true p13
     replace q13 := eq_true q13
     have p14 : 0 <= (x5_1 : Int) := od_
     have q14 : x5_1 < (l1.length : Int) := od_
     obtain ⟨ad14, A14_0, c14_0, A14_4, c14_4, e14, hx14_0, hx14_1, hx14_2, hx14_3, hx14_4, hl14_0, hi14_0, hl14_4, hi14_4⟩ := at_T57 HR1.out x5_1 p14 q14
     have hw14_4 := hx14_4
     have hw14_3 := hx14_3
     have hw14_2 := hx14_2
     have hw14_1 := hx14_1
     have hw14_0 := hx14_0
     cases e14
     replace hx14_0 := bc_ HB.out hx14_0
     replace hx14_1 := bc_ HB.out hx14_1
     replace hx14_2 := bc_ HB.out hx14_2
     replace hx14_3 := bc_ HB.out hx14_3
     replace hx14_4 := bc_ HB.out hx14_4
     have HR14_0 := A_ hi14_0
     have HC14_0 := A_ hl14_0
     clear hi14_0 hl14_0
     have HR14_4 := A_ hi14_4
     have HC14_4 := A_ hl14_4
     clear hi14_4 hl14_4
     replace p14 := eq_true p14
     replace q14 := eq_true q14
     refine st10_ (n := 10) (ds := []) (be_ hw13_0) (be_ hw13_1) (be_ hw13_2) (be_ hw13_3) (be_ hw13_4) (be_ hw14_0) (be_ hw14_1) (be_ hw14_2) (be_ hw14_3) (be_ hw14_4) (fun hHeld => ?_); refine with_tabW laws_sameTree.tab6 laws_sameTree.bits6 (fun HT_ HW_ => ?_)
     generalize wr.drew = w9 at HB HR13_0 HR13_4 HR14_0 HR14_4 hx13_0 hx13_1 hx13_2 hx13_3 hx13_4 hx14_0 hx14_1 hx14_2 hx14_3 hx14_4 hHeld ⊢
     refine pu_ (i := 0) (N := some 17) ?_
     refine pu_ (i := 1) (N := some 18) ?_
     refine pu_ (i := 2) (N := some 19) ?_
     refine pu_ (i := 4) (N := some 21) ?_
     refine pu_ (i := 5) (N := some 22) ?_
     refine pu_ (i := 6) (N := some 23) ?_
     refine tk_ (i := 3) (N := some 20) hHeld ?_
     refine tk_ (i := 7) (N := some 24) hHeld ?_
     refine on_ (i := 8) (N := some 25) (fun K hK => ?_)
     refine goes_ Try.func46 (by kernel_rfl) rfl #[.agg #[.slice A13_0 ((rd_T57 l0 x5_1).f0).length c13_0, .bool ((rd_T57 l0 x5_1).f1), .string ((rd_T57 l0 x5_1).f2), .int .i64 ((rd_T57 l0 x5_1).f3), .slice A13_4 ((rd_T57 l0 x5_1).f4).length c13_4], .agg #[.slice A14_0 ((rd_T57 l1 x5_1).f0).length c14_0, .bool ((rd_T57 l1 x5_1).f1), .string ((rd_T57 l1 x5_1).f2), .int .i64 ((rd_T57 l1 x5_1).f3), .slice A14_4 ((rd_T57 l1 x5_1).f4).length c14_4]] (by rfl) rfl rfl ml_ ?_
     with_reducible refine (laws_sameRes.calls k1 _ _ ((rd_T57 l0 x5_1).f0) ((rd_T57 l0 x5_1).f1) ((rd_T57 l0 x5_1).f2) ((rd_T57 l0 x5_1).f3) _ _ ((rd_T57 l0 x5_1).f4) _ _ ((rd_T57 l1 x5_1).f0) ((rd_T57 l1 x5_1).f1) ((rd_T57 l1 x5_1).f2) ((rd_T57 l1 x5_1).f3) _ _ ((rd_T57 l1 x5_1).f4) true _ ?s1 ?s2 ?s3 ?s4 ?s5 ?s6 ?s7 ?s8 A7.out).mono ?_
     (case s1 => exact cC_ (Kd.C_below HR13_0.out HB.out))
     (case s2 => exact HC13_0.out)
     (case s3 => exact cC_ (Kd.C_below HR13_4.out HB.out))
     (case s4 => exact HC13_4.out)
     (case s5 => exact cC_ (Kd.C_below HR14_0.out HB.out))
     (case s6 => exact HC14_0.out)
     (case s7 => exact cC_ (Kd.C_below HR14_4.out HB.out))
     (case s8 => exact HC14_4.out)
     rintro e w10 ⟨rfl, hb⟩
     refine ⟨_, rfl, ?_⟩
     replace HB := A_ (below_step bB_ hb)
     clear hb
     refine hK.out _ _ ⟨(be_ hw13_0), (be_ hw13_1), (be_ hw13_2), (be_ hw13_3), (be_ hw13_4), (be_ hw14_0), (be_ hw14_1), (be_ hw14_2), (be_ hw14_3), (be_ hw14_4)⟩ (fun hHeld => ?_)
     clear hK K
     refine no_ (some 25) ?_
     refine pu_ (i := 9) (N := some 26) ?_
     refine done_ (done_of HT_.out (by kernel_rfl)) ?_
     (try clear hHeld)
     try go_wp2
     go_roundg k1
     case measure => have := HK1.out; omega
     case rel => exact ⟨(wrap64 (x5_1 + 1)), rs_, H', ⟨by have := HK1.out; omega⟩, ⟨bB_⟩⟩
   . replace c8 := Bool.eq_false_iff.mpr c8
     subst c8
     rw [if_neg nf_] at H
     obtain rfl := si_ H
     try go_wp2
     replace HB := A_ (below_drew1 HB.out)
     have p13 : 0 <= (x5_1 : Int) := od_
     have q13 : x5_1 < (l0.length : Int) := od_
     obtain ⟨ad13, A13_0, c13_0, A13_4, c13_4, e13, hx13_0, hx13_1, hx13_2, hx13_3, hx13_4, hl13_0, hi13_0, hl13_4, hi13_4⟩ := at_T57 HR0.out x5_1 p13 q13
     have hw13_4 := hx13_4
     have hw13_3 := hx13_3
     have hw13_2 := hx13_2
     have hw13_1 := hx13_1
     have hw13_0 := hx13_0
     cases e13
     replace hx13_0 := bc_ HB.out hx13_0
     replace hx13_1 := bc_ HB.out hx13_1
     replace hx13_2 := bc_ HB.out hx13_2
     replace hx13_3 := bc_ HB.out hx13_3
     replace hx13_4 := bc_ HB.out hx13_4
     have HR13_0 := A_ hi13_0
     have HC13_0 := A_ hl13_0
     clear hi13_0 hl13_0
     have HR13_4 := A_ hi13_4
     have HC13_4 := A_ hl13_4
     clear hi13_4 hl13_4
     replace p13 := eq_true p13
     replace q13 := eq_true q13
     have p14 : 0 <= (x5_1 : Int) := od_
     have q14 : x5_1 < (l1.length : Int) := od_
     obtain ⟨ad14, A14_0, c14_0, A14_4, c14_4, e14, hx14_0, hx14_1, hx14_2, hx14_3, hx14_4, hl14_0, hi14_0, hl14_4, hi14_4⟩ := at_T57 HR1.out x5_1 p14 q14
     have hw14_4 := hx14_4
     have hw14_3 := hx14_3
     have hw14_2 := hx14_2
     have hw14_1 := hx14_1
     have hw14_0 := hx14_0
     cases e14
     replace hx14_0 := bc_ HB.out hx14_0
     replace hx14_1 := bc_ HB.out hx14_1
     replace hx14_2 := bc_ HB.out hx14_2
     replace hx14_3 := bc_ HB.out hx14_3
     replace hx14_4 := bc_ HB.out hx14_4
     have HR14_0 := A_ hi14_0
     have HC14_0 := A_ hl14_0
     clear hi14_0 hl14_0
     have HR14_4 := A_ hi14_4
     have HC14_4 := A_ hl14_4
     clear hi14_4 hl14_4
     replace p14 := eq_true p14
     replace q14 := eq_true q14
     refine st10_ (n := 10) (ds := []) (be_ hw13_0) (be_ hw13_1) (be_ hw13_2) (be_ hw13_3) (be_ hw13_4) (be_ hw14_0) (be_ hw14_1) (be_ hw14_2) (be_ hw14_3) (be_ hw14_4) (fun hHeld => ?_); refine with_tabW laws_sameTree.tab6 laws_sameTree.bits6 (fun HT_ HW_ => ?_)
     generalize wr.drew = w11 at HB HR13_0 HR13_4 HR14_0 HR14_4 hx13_0 hx13_1 hx13_2 hx13_3 hx13_4 hx14_0 hx14_1 hx14_2 hx14_3 hx14_4 hHeld ⊢
     refine pu_ (i := 0) (N := some 17) ?_
     refine pu_ (i := 1) (N := some 18) ?_
     refine pu_ (i := 2) (N := some 19) ?_
     refine pu_ (i := 4) (N := some 21) ?_
     refine pu_ (i := 5) (N := some 22) ?_
     refine pu_ (i := 6) (N := some 23) ?_
     refine tk_ (i := 3) (N := some 20) hHeld ?_
     refine tk_ (i := 7) (N := some 24) hHeld ?_
     refine on_ (i := 8) (N := some 25) (fun K hK => ?_)
     refine goes_ Try.func46 (by kernel_rfl) rfl #[.agg #[.slice A13_0 ((rd_T57 l0 x5_1).f0).length c13_0, .bool ((rd_T57 l0 x5_1).f1), .string ((rd_T57 l0 x5_1).f2), .int .i64 ((rd_T57 l0 x5_1).f3), .slice A13_4 ((rd_T57 l0 x5_1).f4).length c13_4], .agg #[.slice A14_0 ((rd_T57 l1 x5_1).f0).length c14_0, .bool ((rd_T57 l1 x5_1).f1), .string ((rd_T57 l1 x5_1).f2), .int .i64 ((rd_T57 l1 x5_1).f3), .slice A14_4 ((rd_T57 l1 x5_1).f4).length c14_4]] (by rfl) rfl rfl ml_ ?_
     with_reducible refine (laws_sameRes.calls k1 _ _ ((rd_T57 l0 x5_1).f0) ((rd_T57 l0 x5_1).f1) ((rd_T57 l0 x5_1).f2) ((rd_T57 l0 x5_1).f3) _ _ ((rd_T57 l0 x5_1).f4) _ _ ((rd_T57 l1 x5_1).f0) ((rd_T57 l1 x5_1).f1) ((rd_T57 l1 x5_1).f2) ((rd_T57 l1 x5_1).f3) _ _ ((rd_T57 l1 x5_1).f4) false _ ?s1 ?s2 ?s3 ?s4 ?s5 ?s6 ?s7 ?s8 A7.out).mono ?_
     (case s1 => exact cC_ (Kd.C_below HR13_0.out HB.out))
     (case s2 => exact HC13_0.out)
     (case s3 => exact cC_ (Kd.C_below HR13_4.out HB.out))
     (case s4 => exact HC13_4.out)
     (case s5 => exact cC_ (Kd.C_below HR14_0.out HB.out))
     (case s6 => exact HC14_0.out)
     (case s7 => exact cC_ (Kd.C_below HR14_4.out HB.out))
     (case s8 => exact HC14_4.out)
     rintro e w12 ⟨rfl, hb⟩
     refine ⟨_, rfl, ?_⟩
     replace HB := A_ (below_step bB_ hb)
     clear hb
     refine hK.out _ _ ⟨(be_ hw13_0), (be_ hw13_1), (be_ hw13_2), (be_ hw13_3), (be_ hw13_4), (be_ hw14_0), (be_ hw14_1), (be_ hw14_2), (be_ hw14_3), (be_ hw14_4)⟩ (fun hHeld => ?_)
     clear hK K
     refine no_ (some 25) ?_
     refine pu_ (i := 9) (N := some 26) ?_
     refine done_ (done_of HT_.out (by kernel_rfl)) ?_
     (try clear hHeld)
     try go_wp2
     go_ret
     exact ⟨rr_, bB_⟩
set_option maxHeartbeats 8000000
set_option maxRecDepth 100000
def laws_at.f (l0 : List Int) (a1 : Int) : Option (Int) := if a1 < (l0.length : Int) then (if 0 <= a1 then (some (wrap64 (rd l0 a1))) else (none)) else (some (Int.tmod (wrap64 ((wrap64 (a1 * 31)) + (wrap64 ((l0.length : Int) * 7)))) 256))
theorem laws_at.calls (A0 : Option Addr) (c0 : Nat) (l0 : List Int) (a1 : Int) (r : Int) (w : World) (hr0 : Kd.C (Kd.int .u8) w A0 l0.length l0) (hc0 : l0.length <= c0) (h : laws_at.f l0 a1 = some r) :
 Calls Try.prog 50 #[.slice A0 l0.length c0, .int .i64 a1] w fun e w' => e = .returned (.int .i64 r) /\ Drawn0 w w' := by
 have HR0 := A_ hr0
 clear hr0 hc0
 have H : (if a1 < (l0.length : Int) then (if 0 <= a1 then (some (wrap64 (rd l0 a1))) else (none)) else (some (Int.tmod (wrap64 ((wrap64 (a1 * 31)) + (wrap64 ((l0.length : Int) * 7)))) 256))) = some r := h
 clear h
 by_cases c3 : a1 < (l0.length : Int)
 rotate_left
 . rw [if_neg c3] at H
   have c3b0 := decide_eq_false c3
   clear c3
   obtain rfl := si_ H
   go_enter Try.func50, Try.ntmps50
   go_wp2
   go_ret
   exact ⟨rs_, dr_⟩
 rw [if_pos c3] at H
 have c3b0 := decide_eq_true c3
 clear c3
 by_cases c4 : 0 <= a1
 rotate_left
 . exact absurd H (by rw [if_neg c4]; simp)
 rw [if_pos c4] at H
 have c4b0 := decide_eq_true c4
 clear c4
 obtain rfl := si_ H
 have p2 : 0 <= (a1 : Int) := od_
 have q2 : a1 < (l0.length : Int) := od_
 obtain ⟨ad2, e2, hx2_0⟩ := Kd.at_int HR0.out a1 p2 q2
 cases e2
 replace p2 := eq_true p2
 replace q2 := eq_true q2
 go_enter Try.func50, Try.ntmps50
 go_wp2
 go_ret
 exact ⟨rs_, dr_⟩
end Go.Proofs.Ytbgggcgjijljkaa.Q
