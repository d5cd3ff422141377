/- A printed walk. No condition. -/
import Derived.Test.YtbgggcgjijljkaaVFnCopiedG29
import Derived.Test.YtbgggcgjijljkaaVFnCopiedG31
import Derived.Test.YtbgggcgjijljkaaVFnCopiedG32
import Derived.Deep.Slices
import Derived.WideShapes
import Derived.Laws.Strings
namespace Go.Proofs.Ytbgggcgjijljkaa.Q
open Go.RowKit Go.Proofs.YtbgggcgjijljkaaW.PrintWords Go.Proofs.YtbgggcgjijljkaaW.PrintLast Go.Proofs.YtbgggcgjijljkaaW.PrintMore
attribute [local go_sem] max2_int min2_int max_two min_two max_three min_three max_four min_four
set_option linter.unusedVariables false
set_option linter.unusedSimpArgs false
mutual
def laws_FnCopied.j0 : Nat -> List (S57) -> List ByteArray -> List ByteArray -> List (S57) -> Int -> List (S57) -> Int -> Bool -> Option (Bool)
 | 0, _, _, _, _, _, _, _, _ => none
 | k + 1, x3, x4, x5, x7, x8, x9, x10, x51 => if x51 = true then ((laws_sameTree.f k x7 x3).bind fun t1401 => (if t1401 = true then (if x10 = x8 then ((laws_sameTree.f k x9 x3).bind fun t1402 => (if t1402 = true then (some true) else (some (x8 == 507)))) else (some (x8 == 507))) else (none))) else ((impl_DeepOf.f k x3 x4).bind fun t1403 => (laws_FnCopied.l0 k x3 x4 x5 x7 x8 x9 x10 t1403 0))
def laws_FnCopied.l0 : Nat -> List (S57) -> List ByteArray -> List ByteArray -> List (S57) -> Int -> List (S57) -> Int -> List (S57) -> Int -> Option (Bool)
 | 0, _, _, _, _, _, _, _, _, _ => none
 | k + 1, x3, x4, x5, x7, x8, x9, x10, x11, x12 => if x12 < (x11.length : Int) then ((impl_copyPath.f x5).bind fun t1406 => (if 0 <= x12 then (if 0 <= (x4.length : Int) then (if (x4.length : Int) <= (((rd_T57 x11 x12).f0).length : Int) then ((some (((rd_T57 x11 x12).f0).drop ((x4.length : Int) : Int).toNat : List ByteArray)).bind fun y1410 => (if t1406.length + y1410.length < 8796093022208 then ((impl_FindRes.f k x7 (t1406 ++ y1410)).bind fun t1418 => ((impl_FindRes.f k x7 ((rd_T57 x11 x12).f0)).bind fun t1420 => (if t1418 < 0 then (none) else (if t1420 < 0 then (none) else (if 0 <= t1418 then (if t1418 < (x7.length : Int) then (if ((rd_T57 x7 t1418).f2).toList = ((rd_T57 x11 x12).f2).toList then (if (((rd_T57 x7 t1418).f1) != ((rd_T57 x11 x12).f1)) = true then (none) else (if ((rd_T57 x7 t1418).f3) = 88 then ((laws_sameProps.f k ((rd_T57 x7 t1418).f4) ((rd_T57 x11 x12).f4)).bind fun t1428 => (if t1428 = true then (if 0 <= t1420 then (if t1420 < (x7.length : Int) then ((laws_sameRes.f k ((rd_T57 x7 t1420).f0) ((rd_T57 x7 t1420).f1) ((rd_T57 x7 t1420).f2) ((rd_T57 x7 t1420).f3) ((rd_T57 x7 t1420).f4) ((rd_T57 x11 x12).f0) ((rd_T57 x11 x12).f1) ((rd_T57 x11 x12).f2) ((rd_T57 x11 x12).f3) ((rd_T57 x11 x12).f4)).bind fun t1431 => (if t1431 = true then (laws_FnCopied.l0 k x3 x4 x5 x7 x8 x9 x10 x11 (wrap64 (x12 + 1))) else (none))) else (none)) else (none)) else (none))) else (none))) else (none)) else (none)) else (none)))))) else (none))) else (none)) else (none)) else (none))) else ((impl_Remove.f k x7 x4).bind fun bt1432 => (if x8 = x10 then (if bt1432.2 = 204 then ((laws_sameTree.f k bt1432.1 x9).bind fun t1436 => (if t1436 = true then ((impl_TreeOk.f k x7).bind fun t1437 => (if t1437 = true then ((impl_TreeOk.f k x9).bind fun t1438 => (if t1438 = true then ((impl_DeepOf.f k x7 x5).bind fun t1439 => (if (t1439.length : Int) = (x11.length : Int) then ((impl_FindRes.f k x3 x5).bind fun t1442 => (some ((x8 == 204) == (decide (t1442 >= 0))))) else (none))) else (none))) else (none))) else (none))) else (none)) else (none)))
end
def laws_FnCopied.f (k : Nat) (l0 : List Int) : Option (Bool) := (laws_big.f l0).bind fun t1382 => (if t1382 = true then (some true) else ((spec_DrawShelves.f k l0).bind fun bt1383 => ((laws_at.f l0 2).bind fun t1392 => ((impl_CopyTree.f k bt1383.1 bt1383.2.1 bt1383.2.2 ((Int.tmod t1392 2) == 0) 88).bind fun bt1393 => ((impl_MoveTree.f k bt1383.1 bt1383.2.1 bt1383.2.2 ((Int.tmod t1392 2) == 0) 88).bind fun bt1397 => (if bt1393.2 = 201 then (laws_FnCopied.j0 k bt1383.1 bt1383.2.1 bt1383.2.2 bt1393.1 bt1393.2 bt1397.1 bt1397.2 false) else (laws_FnCopied.j0 k bt1383.1 bt1383.2.1 bt1383.2.2 bt1393.1 bt1393.2 bt1397.1 bt1397.2 (bt1393.2 != 204))))))))
def laws_FnCopied.T13 : Bool × List (List Nat × List Nat) := (true, [([], []), ([], []), ([0, 1], [0, 1]), ([], []), ([], []), ([3, 4], [3, 4]), ([5], [5]), ([6], [6]), ([], []), ([8], [8]), ([7, 9], [7, 9]), ([2, 10, 2], [2, 10]), ([11, 11, 0, 1, 2, 3, 4, 5, 6, 7, 8, 9, 10, 11], [11])])
def laws_FnCopied.B13 : List Nat := [0, 0, 3, 0, 0, 24, 56, 120, 0, 256, 1016, 2047, 4095]
theorem laws_FnCopied.tab13 : rtab .any (opsOf Try.f11 13) = laws_FnCopied.T13 := by kernel_rfl
theorem laws_FnCopied.bits13 : waitsOk laws_FnCopied.T13.2 laws_FnCopied.B13 = true := by kernel_rfl
def laws_FnCopied.T16 : Bool × List (List Nat × List Nat) := (true, [([], []), ([0], [0]), ([1], [1]), ([2], [2]), ([3, 2], [2, 3]), ([2, 4], [2, 4]), ([5, 2], [5]), ([6], [6]), ([6], [6]), ([7, 8, 6], [6, 7, 8]), ([9, 6], [6, 9]), ([10, 6], [6, 10]), ([6], [6]), ([6], [6]), ([12, 13, 6], [6, 12, 13]), ([14, 6], [6, 14]), ([15, 6], [6, 15]), ([11, 16, 6], [6, 11, 16]), ([6, 17], [6, 17]), ([18, 6], [18]), ([19], [19]), ([19], [19]), ([20, 21, 19], [19, 20, 21]), ([22, 19], [19, 22]), ([23, 19], [19, 23]), ([19], [19]), ([19], [19]), ([25, 26, 19], [19, 25, 26]), ([27, 19], [19, 27]), ([28, 19], [19, 28]), ([24, 29, 19], [19, 24, 29]), ([19, 30], [19, 30]), ([31, 19], [31]), ([32], [32]), ([32], [32]), ([33, 34, 32], [32, 33, 34]), ([35, 32], [32, 35]), ([36, 32], [32, 36]), ([37, 32], [32, 37]), ([32, 38], [32, 38]), ([39, 32], [39]), ([40], [40]), ([40], [40]), ([41, 42, 40], [40, 41, 42]), ([43, 40], [40, 43]), ([44, 40], [40, 44]), ([40], [40]), ([40], [40]), ([46, 47, 40], [40, 46, 47]), ([48, 40], [40, 48]), ([49, 40], [40, 49]), ([45, 50, 40, 40], [40, 45, 50]), ([51, 40], [40, 51]), ([40, 52], [40, 52]), ([53, 51], [53]), ([54], [54]), ([54], [54]), ([55, 56, 54], [54, 55, 56]), ([57, 54], [54, 57]), ([54], [54]), ([54], [54]), ([59, 60, 54], [54, 59, 60]), ([61, 54], [54, 61]), ([58, 62, 54, 54], [54, 58, 62]), ([63, 54], [54, 63]), ([54, 64], [54, 64])])
def laws_FnCopied.B16 : List Nat := [0, 1, 3, 7, 15, 31, 63, 127, 127, 511, 1023, 2047, 127, 127, 12415, 28799, 61567, 131071, 262143, 524287, 1048575, 1048575, 4194303, 8388607, 16777215, 1048575, 1048575, 101711871, 235929599, 504365055, 1073741823, 2147483647, 4294967295, 8589934591, 8589934591, 34359738367, 68719476735, 137438953471, 274877906943, 549755813887, 1099511627775, 2199023255551, 2199023255551, 8796093022207, 17592186044415, 35184372088831, 2199023255551, 2199023255551, 213305255788543, 494780232499199, 1057730185920511, 2251799813685247, 4503599627370495, 9007199254740991, 18014398509481983, 36028797018963967, 36028797018963967, 144115188075855871, 288230376151711743, 36028797018963967, 36028797018963967, 1765411053929234431, 4071254063142928383, 9223372036854775807, 18446744073709551615, 36893488147419103231]
theorem laws_FnCopied.tab16 : rtab .any (opsOf Try.f11 16) = laws_FnCopied.T16 := by kernel_rfl
theorem laws_FnCopied.bits16 : waitsOk laws_FnCopied.T16.2 laws_FnCopied.B16 = true := by kernel_rfl
set_option maxHeartbeats 8000000 in
set_option maxRecDepth 100000 in
theorem laws_FnCopied.calls (k : Nat) (A0 : Option Addr) (c0 : Nat) (l0 : List Int) (r : Bool) (w : World) (hr0 : Kd.C (Kd.int .u8) w A0 l0.length l0) (hc0 : l0.length <= c0) (h : laws_FnCopied.f k l0 = some r) :
 Calls Try.prog 11 #[.slice A0 l0.length c0] w fun e w' => e = .returned (.bool r) /\ Below w.heap.size w w' := by
 have hu57 := Try.underlying57
 have HR0 := A_ hr0
 have HC0 := A_ hc0
 clear hr0 hc0
 have HB := A_ (Below.refl w.heap.size w)
 have H : ((laws_big.f l0).bind fun t1g => (if t1g = true then (some true) else ((spec_DrawShelves.f k l0).bind fun bt4d => ((laws_at.f l0 2).bind fun t1f => ((impl_CopyTree.f k bt4d.1 bt4d.2.1 bt4d.2.2 ((Int.tmod t1f 2) == 0) 88).bind fun bt91 => ((impl_MoveTree.f k bt4d.1 bt4d.2.1 bt4d.2.2 ((Int.tmod t1f 2) == 0) 88).bind fun bt1e => (if bt91.2 = 201 then (laws_FnCopied.j0 k bt4d.1 bt4d.2.1 bt4d.2.2 bt91.1 bt91.2 bt1e.1 bt1e.2 false) else (laws_FnCopied.j0 k bt4d.1 bt4d.2.1 bt4d.2.2 bt91.1 bt91.2 bt1e.1 bt1e.2 (bt91.2 != 204))))))))) = some r := h
 clear h
 obtain ⟨t1g, A2, H⟩ := bo_ H
 (try dsimp only at H)
 by_cases c3 : t1g = true
 . subst c3
   rw [if_pos rfl] at H
   obtain rfl := si_ H
   go_enter Try.func11, Try.ntmps11
   go_wp2_with (first | ((with_reducible refine gc_ (f := 38) rfl ?_); refine gL_ (some 19) Try.func38 #[.slice A0 l0.length c0] ?_; (with_reducible refine (laws_big.calls _ _ l0 true _ ?s1 ?s2 A2.out).mono ?_); (case s1 => exact cC_ HR0.out); (case s2 => exact HC0.out); rintro e w' ⟨rfl, ⟨nd, rfl⟩⟩; refine ⟨_, rfl, ?_⟩))
   go_ret
   exact ⟨rr_, bB_⟩
 . replace c3 := Bool.eq_false_iff.mpr c3
   subst c3
   rw [if_neg nf_] at H
   obtain ⟨⟨t4d, t6d, t7d⟩, A4, H⟩ := bo_ H
   (try dsimp only at H)
   obtain ⟨t1f, A5, H⟩ := bo_ H
   (try dsimp only at H)
   obtain ⟨⟨t91, t8e⟩, A6, H⟩ := bo_ H
   (try dsimp only at H)
   obtain ⟨⟨t1e, t2f⟩, A7, H⟩ := bo_ H
   (try dsimp only at H)
   have HC8 := A_ H
   clear H
   go_enter Try.func11, Try.ntmps11
   go_upto_region 7 with (first | ((with_reducible refine gc_ (f := 38) rfl ?_); refine gL_ (some 19) Try.func38 #[.slice A0 l0.length c0] ?_; (with_reducible refine (laws_big.calls _ _ l0 false _ ?s1 ?s2 A2.out).mono ?_); (case s1 => exact cC_ HR0.out); (case s2 => exact HC0.out); rintro e w' ⟨rfl, ⟨nd, rfl⟩⟩; refine ⟨_, rfl, ?_⟩) | ((with_reducible refine gc_ (f := 39) rfl ?_); refine gL_ (some 22) Try.func39 #[.slice A0 l0.length c0] ?_; (with_reducible refine (spec_DrawShelves.calls k _ _ l0 t4d t6d t7d _ ?s1 ?s2 A4.out).mono ?_); (case s1 => exact cC_ HR0.out); (case s2 => exact HC0.out); rintro e w9 ⟨v9h, v7g, v8g, rfl, ho0, ho1, ho2, hb⟩; refine ⟨_, rfl, ?_⟩; have HO8d := A_ (Kd.N_lower (Kd.N_mono (ok' := fun k_ => some k_ ≠ (v7g : Value).ownBlock /\ some k_ ≠ (v8g : Value).ownBlock) (Kd.S_N (Kd.S_bound ho0)) (fun k_ hk_ => ⟨hk_.1.1, hk_.1.2⟩)) (below_size bB_)); have HO2e := A_ (Kd.R_lower ho1 (below_size bB_)); have HO3e := A_ (Kd.R_lower ho2 (below_size bB_)); replace HB := A_ (below_step bB_ hb); clear hb ho0 ho1 ho2) | ((with_reducible refine gc_ (f := 50) rfl ?_); refine gL_ (some 27) Try.func50 #[.slice A0 l0.length c0, .int .i64 2] ?_; (with_reducible refine (laws_at.calls _ _ l0 2 t1f _ ?s1 ?s2 A5.out).mono ?_); (case s1 => exact cC_ (Kd.C_below HR0.out HB.out)); (case s2 => exact HC0.out); rintro e w' ⟨rfl, ⟨nd, rfl⟩⟩; refine ⟨_, rfl, ?_⟩; obtain ⟨Ao10, co10, eo10⟩ := Kd.N_slice HO8d.out; subst eo10; obtain ⟨Ao11, co11, eo11⟩ := Kd.R_slice HO2e.out; subst eo11; obtain ⟨Ao12, co12, eo12⟩ := Kd.R_slice HO3e.out; subst eo12) | ((with_reducible refine gc_ (f := 35) rfl ?_); refine gL_ (some 35) Try.func35 #[.slice Ao10 t4d.length co10, .slice Ao11 t6d.length co11, .slice Ao12 t7d.length co12, .bool ((Int.tmod t1f 2) == 0), .int .i64 88] ?_; (with_reducible refine (impl_CopyTree.calls k _ _ t4d (fun k_ => some k_ = (.slice Ao11 t6d.length co11 : Value).ownBlock) _ _ t6d (fun k_ => some k_ = (.slice Ao12 t7d.length co12 : Value).ownBlock) _ _ t7d ((Int.tmod t1f 2) == 0) 88 t91 t8e _ ?s1 ?s2 ?s3 ?s4 A6.out).mono ?_); (case s1 => exact cC_ (Kd.N_reads' HO8d.out).2.2); (case s2 => exact (Kd.N_reads' HO8d.out).2.1); (case s3 => exact Kd.R_V (Kd.R_tight rfl (Kd.R_apart' (HO2e.out) (Kd.N_typed HO8d.out) (by decide)))); (case s4 => exact Kd.R_V (Kd.R_tight rfl (Kd.R_apart' (HO3e.out) (Kd.N_typed HO8d.out) (by decide)))); rintro e w13 ⟨v4e, rfl, ho0, hb⟩; refine ⟨_, rfl, ?_⟩; have HO6e := A_ (Kd.N_lower (Kd.N_mono (ok' := fun k_ => some k_ ≠ (.slice Ao10 t4d.length co10 : Value).ownBlock) ho0 (fun k_ hk_ => Or.elim hk_ (fun hs_ => Or.elim hs_ (fun hs_ => ((Kd.R_apart' (HO2e.out) (Kd.N_typed HO8d.out) (by decide)).1 k_ hs_.symm).2) (fun hs_ => ((Kd.R_apart' (HO3e.out) (Kd.N_typed HO8d.out) (by decide)).1 k_ hs_.symm).2)) (fun hn_ => (Kd.fresh' (Kd.N_lt (vN_ HO8d.out)) k_ hn_)))) (below_size bB_)); replace HO8d := A_ (Kd.N_elder' (vN_ HO8d.out) (kb_ ho0) hb); replace HO2e := A_ (Kd.R_below (vR_ HO2e.out) hb); replace HO3e := A_ (Kd.R_below (vR_ HO3e.out) hb); replace HB := A_ (below_step bB_ hb); clear hb ho0) | ((with_reducible refine gc_ (f := 37) rfl ?_); refine gL_ (some 43) Try.func37 #[.slice Ao10 t4d.length co10, .slice Ao11 t6d.length co11, .slice Ao12 t7d.length co12, .bool ((Int.tmod t1f 2) == 0), .int .i64 88] ?_; (with_reducible refine (impl_MoveTree.calls k _ _ t4d (fun k_ => some k_ = (.slice Ao11 t6d.length co11 : Value).ownBlock) _ _ t6d (fun k_ => some k_ = (.slice Ao12 t7d.length co12 : Value).ownBlock) _ _ t7d ((Int.tmod t1f 2) == 0) 88 t1e t2f _ ?s1 ?s2 ?s3 ?s4 A7.out).mono ?_); (case s1 => exact cC_ (Kd.N_reads' HO8d.out).2.2); (case s2 => exact (Kd.N_reads' HO8d.out).2.1); (case s3 => exact Kd.R_V (Kd.R_tight rfl (Kd.R_apart' (Kd.R_apart' (HO2e.out) (Kd.N_typed HO8d.out) (by decide)) (Kd.N_typed HO6e.out) (by decide)))); (case s4 => exact Kd.R_V (Kd.R_tight rfl (Kd.R_apart' (Kd.R_apart' (HO3e.out) (Kd.N_typed HO8d.out) (by decide)) (Kd.N_typed HO6e.out) (by decide)))); rintro e w14 ⟨v5e, rfl, ho0, hb⟩; refine ⟨_, rfl, ?_⟩; have HO4g := A_ (Kd.N_lower (Kd.N_mono (ok' := fun k_ => some k_ ≠ (.slice Ao10 t4d.length co10 : Value).ownBlock /\ some k_ ≠ (v4e : Value).ownBlock) ho0 (fun k_ hk_ => ⟨Or.elim hk_ (fun hs_ => Or.elim hs_ (fun hs_ => ((Kd.R_apart' (Kd.R_apart' (HO2e.out) (Kd.N_typed HO8d.out) (by decide)) (Kd.N_typed HO6e.out) (by decide)).1 k_ hs_.symm).1.2) (fun hs_ => ((Kd.R_apart' (Kd.R_apart' (HO3e.out) (Kd.N_typed HO8d.out) (by decide)) (Kd.N_typed HO6e.out) (by decide)).1 k_ hs_.symm).1.2)) (fun hn_ => (Kd.fresh' (Kd.N_lt (vN_ HO8d.out)) k_ hn_)), Or.elim hk_ (fun hs_ => Or.elim hs_ (fun hs_ => ((Kd.R_apart' (Kd.R_apart' (HO2e.out) (Kd.N_typed HO8d.out) (by decide)) (Kd.N_typed HO6e.out) (by decide)).1 k_ hs_.symm).2) (fun hs_ => ((Kd.R_apart' (Kd.R_apart' (HO3e.out) (Kd.N_typed HO8d.out) (by decide)) (Kd.N_typed HO6e.out) (by decide)).1 k_ hs_.symm).2)) (fun hn_ => (Kd.fresh' (Kd.N_lt (vN_ HO6e.out)) k_ hn_))⟩)) (below_size bB_)); replace HO8d := A_ (Kd.N_elder' (vN_ HO8d.out) (kb_ ho0) hb); replace HO2e := A_ (Kd.R_below (vR_ HO2e.out) hb); replace HO3e := A_ (Kd.R_below (vR_ HO3e.out) hb); replace HO6e := A_ (Kd.N_elder' (vN_ HO6e.out) (kb_ ho0) hb); replace HB := A_ (below_step bB_ hb); clear hb ho0))
   (try simp only [Act.put, List.setIfInBounds_toArray, List.set_cons_zero, List.set_cons_succ])
   go_cut [51] (fun v51 wc => ∃ (kq : Nat) (x51_7 : Bool), v51 = .bool x51_7 /\ Aside0 (laws_FnCopied.j0 kq t4d t6d t7d t91 t8e t1e t2f x51_7 = some r) /\ Aside0 (kq <= k) /\ Aside0 (Kd.N k57 57 wc w.heap.size (fun k_ => some k_ ≠ ((.slice Ao11 t6d.length co11) : Value).ownBlock /\ some k_ ≠ ((.slice Ao12 t7d.length co12) : Value).ownBlock /\ some k_ ≠ (v4e : Value).ownBlock /\ some k_ ≠ (v5e : Value).ownBlock) (.slice Ao10 t4d.length co10) t4d) /\ Aside0 (Kd.R Kd.string 9 wc w.heap.size (fun k_ => some k_ ≠ ((.slice Ao12 t7d.length co12) : Value).ownBlock) (.slice Ao11 t6d.length co11) t6d) /\ Aside0 (Kd.R Kd.string 9 wc w.heap.size (fun k_ => some k_ ≠ ((.slice Ao11 t6d.length co11) : Value).ownBlock) (.slice Ao12 t7d.length co12) t7d) /\ Aside0 (Kd.N k57 57 wc w.heap.size (fun k_ => some k_ ≠ ((.slice Ao10 t4d.length co10) : Value).ownBlock /\ some k_ ≠ (v5e : Value).ownBlock) v4e t91) /\ Aside0 (Kd.N k57 57 wc w.heap.size (fun k_ => some k_ ≠ ((.slice Ao10 t4d.length co10) : Value).ownBlock /\ some k_ ≠ (v4e : Value).ownBlock) v5e t1e) /\ Aside0 (Below w.heap.size w wc))
   case first => as_aux_lemma =>
    have H := HC8.out
    clear HC8
    by_cases c15 : t8e = 201
    rotate_left
    . rw [if_neg c15] at H
      obtain ⟨c15b0, c15b1⟩ := eF_ c15
      (first | rw [c15b0] | (simp only [i64_w, i32_w]; rw [c15b0]) | skip)
      have H' := A_ H
      clear H
      go_wp2
      go_meet
      case rel => exact ⟨_, ((t8e != 204)), rs_, H', ⟨by first | omega | exact Nat.le_refl _⟩, ⟨by (with_reducible repeat (first | apply Kd.N_alloc | apply Kd.N_drewN | apply Kd.N_drew)); exact Kd.N_mono HO8d.out (fun _ hk => ⟨hk.1.1.1, ⟨hk.1.1.2, ⟨hk.1.2, hk.2⟩⟩⟩)⟩, ⟨vR_ HO2e.out⟩, ⟨vR_ HO3e.out⟩, ⟨vN_ HO6e.out⟩, ⟨vN_ HO4g.out⟩, ⟨bB_⟩⟩
    rw [if_pos c15] at H
    obtain ⟨c15b0, c15b1⟩ := eT_ c15
    clear c15
    (first | rw [c15b0] | (simp only [i64_w, i32_w]; rw [c15b0]) | skip)
    have H' := A_ H
    clear H
    go_wp2
    go_meet
    case rel => exact ⟨_, (false), rs_, H', ⟨by first | omega | exact Nat.le_refl _⟩, ⟨by (with_reducible repeat (first | apply Kd.N_alloc | apply Kd.N_drewN | apply Kd.N_drew)); exact Kd.N_mono HO8d.out (fun _ hk => ⟨hk.1.1.1, ⟨hk.1.1.2, ⟨hk.1.2, hk.2⟩⟩⟩)⟩, ⟨vR_ HO2e.out⟩, ⟨vR_ HO3e.out⟩, ⟨vN_ HO6e.out⟩, ⟨vN_ HO4g.out⟩, ⟨bB_⟩⟩
   case rest =>
    clear HC8
    try clear c3
    obtain ⟨kq, x51_7, rfl, HA, HJ7, HO_3, HO_4, HO_5, HO_7, HO_9, HB⟩ := hcut
    cases kq with
    | zero => exact absurd HA.out (by simp [laws_FnCopied.j0])
    | succ kj7 =>
     have H := HA.out
     clear HA
     simp only [laws_FnCopied.j0] at H
     by_cases c16 : x51_7 = true
     . subst c16
       rw [if_pos rfl] at H
       obtain ⟨t9g, A17, H⟩ := bo_ H
       (try dsimp only at H)
       by_cases c18 : t9g = true
       . subst c18
         rw [if_pos rfl] at H
         by_cases c19 : t2f = t8e
         rotate_left
         . rw [if_neg c19] at H
           obtain ⟨c19b0, c19b1⟩ := eF_ c19
           obtain rfl := si_ H
           obtain ⟨Ao30, co30, eo30⟩ := Kd.N_slice HO_7.out
           subst eo30
           go_wp2_with (first | ((with_reducible refine gc_ (f := 41) rfl ?_); refine gL_ (some 54) Try.func41 #[.slice Ao30 t91.length co30, .slice Ao10 t4d.length co10] ?_; (with_reducible refine (laws_sameTree.calls kj7 _ _ t91 _ _ t4d true _ ?s1 ?s2 ?s3 ?s4 A17.out).mono ?_); (case s1 => exact cC_ (Kd.N_reads' HO_7.out).2.2); (case s2 => exact (Kd.N_reads' HO_7.out).2.1); (case s3 => exact cC_ (Kd.N_reads' HO_3.out).2.2); (case s4 => exact (Kd.N_reads' HO_3.out).2.1); rintro e w31 ⟨rfl, hb⟩; refine ⟨_, rfl, ?_⟩; replace HB := A_ (below_step bB_ hb); clear hb))
           go_ret
           exact ⟨rr_, bB_⟩
         rw [if_pos c19] at H
         obtain ⟨c19b0, c19b1⟩ := eT_ c19
         clear c19
         obtain ⟨t1h, A20, H⟩ := bo_ H
         (try dsimp only at H)
         by_cases c21 : t1h = true
         . subst c21
           rw [if_pos rfl] at H
           obtain rfl := si_ H
           obtain ⟨Ao22, co22, eo22⟩ := Kd.N_slice HO_7.out
           subst eo22
           go_wp2_with (first | ((with_reducible refine gc_ (f := 41) rfl ?_); refine gL_ (some 54) Try.func41 #[.slice Ao22 t91.length co22, .slice Ao10 t4d.length co10] ?_; (with_reducible refine (laws_sameTree.calls kj7 _ _ t91 _ _ t4d true _ ?s1 ?s2 ?s3 ?s4 A17.out).mono ?_); (case s1 => exact cC_ (Kd.N_reads' HO_7.out).2.2); (case s2 => exact (Kd.N_reads' HO_7.out).2.1); (case s3 => exact cC_ (Kd.N_reads' HO_3.out).2.2); (case s4 => exact (Kd.N_reads' HO_3.out).2.1); rintro e w23 ⟨rfl, hb⟩; refine ⟨_, rfl, ?_⟩; replace HO_3 := A_ (Kd.N_below (vN_ HO_3.out) hb); replace HO_9 := A_ (Kd.N_below (vN_ HO_9.out) hb); replace HB := A_ (below_step bB_ hb); clear hb; obtain ⟨Ao24, co24, eo24⟩ := Kd.N_slice HO_9.out; subst eo24) | (go_at_call 41; (with_reducible refine (laws_sameTree.calls kj7 _ _ t1e _ _ t4d true _ ?s1 ?s2 ?s3 ?s4 A20.out).mono ?_); (case s1 => exact cC_ (Kd.N_reads' HO_9.out).2.2); (case s2 => exact (Kd.N_reads' HO_9.out).2.1); (case s3 => exact cC_ (Kd.N_reads' HO_3.out).2.2); (case s4 => exact (Kd.N_reads' HO_3.out).2.1); rintro e w25 ⟨rfl, hb⟩; replace HB := A_ (below_step bB_ hb); clear hb))
           go_ret
           exact ⟨rr_, bB_⟩
         . replace c21 := Bool.eq_false_iff.mpr c21
           subst c21
           rw [if_neg nf_] at H
           obtain rfl := si_ H
           obtain ⟨Ao26, co26, eo26⟩ := Kd.N_slice HO_7.out
           subst eo26
           go_wp2_with (first | ((with_reducible refine gc_ (f := 41) rfl ?_); refine gL_ (some 54) Try.func41 #[.slice Ao26 t91.length co26, .slice Ao10 t4d.length co10] ?_; (with_reducible refine (laws_sameTree.calls kj7 _ _ t91 _ _ t4d true _ ?s1 ?s2 ?s3 ?s4 A17.out).mono ?_); (case s1 => exact cC_ (Kd.N_reads' HO_7.out).2.2); (case s2 => exact (Kd.N_reads' HO_7.out).2.1); (case s3 => exact cC_ (Kd.N_reads' HO_3.out).2.2); (case s4 => exact (Kd.N_reads' HO_3.out).2.1); rintro e w27 ⟨rfl, hb⟩; refine ⟨_, rfl, ?_⟩; replace HO_3 := A_ (Kd.N_below (vN_ HO_3.out) hb); replace HO_9 := A_ (Kd.N_below (vN_ HO_9.out) hb); replace HB := A_ (below_step bB_ hb); clear hb; obtain ⟨Ao28, co28, eo28⟩ := Kd.N_slice HO_9.out; subst eo28) | (go_at_call 41; (with_reducible refine (laws_sameTree.calls kj7 _ _ t1e _ _ t4d false _ ?s1 ?s2 ?s3 ?s4 A20.out).mono ?_); (case s1 => exact cC_ (Kd.N_reads' HO_9.out).2.2); (case s2 => exact (Kd.N_reads' HO_9.out).2.1); (case s3 => exact cC_ (Kd.N_reads' HO_3.out).2.2); (case s4 => exact (Kd.N_reads' HO_3.out).2.1); rintro e w29 ⟨rfl, hb⟩; replace HB := A_ (below_step bB_ hb); clear hb))
           go_ret
           exact ⟨rr_, bB_⟩
       . replace c18 := Bool.eq_false_iff.mpr c18
         subst c18
         rw [if_neg nf_] at H
         exact absurd H (by simp)
     . replace c16 := Bool.eq_false_iff.mpr c16
       subst c16
       rw [if_neg nf_] at H
       obtain ⟨t95, A32, H⟩ := bo_ H
       (try dsimp only at H)
       have H' := A_ H
       clear H
       go_wp2_with (first | ((with_reducible refine gc_ (f := 49) rfl ?_); refine gL_ (some 71) Try.func49 #[.slice Ao10 t4d.length co10, .slice Ao11 t6d.length co11] ?_; (with_reducible refine (impl_DeepOf.calls kj7 _ _ t4d _ _ t6d t95 _ ?s1 ?s2 ?s3 ?s4 A32.out).mono ?_); (case s1 => exact cC_ (Kd.N_reads' HO_3.out).2.2); (case s2 => exact (Kd.N_reads' HO_3.out).2.1); (case s3 => exact cC_ (Kd.R_reads' HO_4.out).2.2); (case s4 => exact (Kd.R_reads' HO_4.out).2.1); rintro e w33 ⟨v7f, rfl, ho0, hb⟩; refine ⟨_, rfl, ?_⟩; have HO2h := A_ (Kd.N_lower (Kd.N_mono (ok' := fun k_ => some k_ ≠ (.slice Ao10 t4d.length co10 : Value).ownBlock /\ some k_ ≠ (.slice Ao11 t6d.length co11 : Value).ownBlock /\ some k_ ≠ (.slice Ao12 t7d.length co12 : Value).ownBlock /\ some k_ ≠ (v4e : Value).ownBlock /\ some k_ ≠ (v5e : Value).ownBlock) (Kd.S_N (Kd.S_bound ho0)) (fun k_ hk_ => ⟨(Kd.fresh' (Kd.N_lt (vN_ HO_3.out)) k_ hk_.2.1), (Kd.fresh' (Kd.R_lt (vR_ HO_4.out)) k_ hk_.2.1), (Kd.fresh' (Kd.R_lt (vR_ HO_5.out)) k_ hk_.2.1), (Kd.fresh' (Kd.N_lt (vN_ HO_7.out)) k_ hk_.2.1), (Kd.fresh' (Kd.N_lt (vN_ HO_9.out)) k_ hk_.2.1)⟩)) (below_size bB_)); replace HO_3 := A_ (Kd.N_elder' (vN_ HO_3.out) (kb_ ho0) hb); replace HO_4 := A_ (Kd.R_below (vR_ HO_4.out) hb); replace HO_5 := A_ (Kd.R_below (vR_ HO_5.out) hb); replace HO_7 := A_ (Kd.N_elder' (vN_ HO_7.out) (kb_ ho0) hb); replace HO_9 := A_ (Kd.N_elder' (vN_ HO_9.out) (kb_ ho0) hb); replace HB := A_ (below_step bB_ hb); clear hb ho0))
       go_loopg [12] kj7 (fun kq v12 w' => ∃ (x12_2 : Int), v12 = .int .i64 x12_2 /\ Aside0 (laws_FnCopied.l0 kq t4d t6d t7d t91 t8e t1e t2f t95 x12_2 = some r) /\ Aside0 (kq <= kj7) /\ Aside0 (Kd.N k57 57 w' w.heap.size (fun k_ => some k_ ≠ ((.slice Ao11 t6d.length co11) : Value).ownBlock /\ some k_ ≠ ((.slice Ao12 t7d.length co12) : Value).ownBlock /\ some k_ ≠ (v4e : Value).ownBlock /\ some k_ ≠ (v5e : Value).ownBlock /\ some k_ ≠ (v7f : Value).ownBlock) (.slice Ao10 t4d.length co10) t4d) /\ Aside0 (Kd.R Kd.string 9 w' w.heap.size (fun k_ => some k_ ≠ ((.slice Ao12 t7d.length co12) : Value).ownBlock) (.slice Ao11 t6d.length co11) t6d) /\ Aside0 (Kd.R Kd.string 9 w' w.heap.size (fun k_ => some k_ ≠ ((.slice Ao11 t6d.length co11) : Value).ownBlock) (.slice Ao12 t7d.length co12) t7d) /\ Aside0 (Kd.N k57 57 w' w.heap.size (fun k_ => some k_ ≠ ((.slice Ao10 t4d.length co10) : Value).ownBlock /\ some k_ ≠ (v5e : Value).ownBlock /\ some k_ ≠ (v7f : Value).ownBlock) v4e t91) /\ Aside0 (Kd.N k57 57 w' w.heap.size (fun k_ => some k_ ≠ ((.slice Ao10 t4d.length co10) : Value).ownBlock /\ some k_ ≠ (v4e : Value).ownBlock /\ some k_ ≠ (v7f : Value).ownBlock) v5e t1e) /\ Aside0 (Kd.N k57 57 w' w.heap.size (fun k_ => some k_ ≠ ((.slice Ao10 t4d.length co10) : Value).ownBlock /\ some k_ ≠ ((.slice Ao11 t6d.length co11) : Value).ownBlock /\ some k_ ≠ ((.slice Ao12 t7d.length co12) : Value).ownBlock /\ some k_ ≠ (v4e : Value).ownBlock /\ some k_ ≠ (v5e : Value).ownBlock) v7f t95) /\ Aside0 (Below w.heap.size w w'))
       case atStart => exact ⟨(0), rs_, H', ⟨Nat.le_refl _⟩, ⟨by (with_reducible repeat (first | apply Kd.N_alloc | apply Kd.N_drewN | apply Kd.N_drew)); exact Kd.N_mono HO_3.out (fun _ hk => ⟨hk.1.1, ⟨hk.1.2.1, ⟨hk.1.2.2.1, ⟨hk.1.2.2.2, hk.2⟩⟩⟩⟩)⟩, ⟨vR_ HO_4.out⟩, ⟨vR_ HO_5.out⟩, ⟨by (with_reducible repeat (first | apply Kd.N_alloc | apply Kd.N_drewN | apply Kd.N_drew)); exact Kd.N_mono HO_7.out (fun _ hk => ⟨hk.1.1, ⟨hk.1.2, hk.2⟩⟩)⟩, ⟨by (with_reducible repeat (first | apply Kd.N_alloc | apply Kd.N_drewN | apply Kd.N_drew)); exact Kd.N_mono HO_9.out (fun _ hk => ⟨hk.1.1, ⟨hk.1.2, hk.2⟩⟩)⟩, ⟨vN_ HO2h.out⟩, ⟨bB_⟩⟩
       case round => as_aux_lemma =>
        clear H'
        try clear c3
        try clear c16
        obtain ⟨x12_2, rfl, HA, HK2, HO_3, HO_4, HO_5, HO_7, HO_9, HO_11, HB⟩ := hrel
        cases gk with
        | zero => exact absurd HA.out (by simp [laws_FnCopied.l0])
        | succ k2 =>
         have H := HA.out
         clear HA
         simp only [laws_FnCopied.l0] at H
         by_cases c34 : x12_2 < (t95.length : Int)
         rotate_left
         . rw [if_neg c34] at H
           have c34b0 := decide_eq_false c34
           clear c34
           obtain ⟨⟨t2g, t5g⟩, A66, H⟩ := bo_ H
           (try dsimp only at H)
           by_cases c67 : t8e = t2f
           rotate_left
           . exact absurd H (by rw [if_neg c67]; simp)
           rw [if_pos c67] at H
           obtain ⟨c67b0, c67b1⟩ := eT_ c67
           clear c67
           by_cases c68 : t5g = 204
           rotate_left
           . exact absurd H (by rw [if_neg c68]; simp)
           rw [if_pos c68] at H
           obtain ⟨c68b0, c68b1⟩ := eT_ c68
           clear c68
           obtain ⟨t3h, A69, H⟩ := bo_ H
           (try dsimp only at H)
           by_cases c70 : t3h = true
           . subst c70
             rw [if_pos rfl] at H
             obtain ⟨t4h, A71, H⟩ := bo_ H
             (try dsimp only at H)
             by_cases c72 : t4h = true
             . subst c72
               rw [if_pos rfl] at H
               obtain ⟨t5h, A73, H⟩ := bo_ H
               (try dsimp only at H)
               by_cases c74 : t5h = true
               . subst c74
                 rw [if_pos rfl] at H
                 obtain ⟨t3g, A75, H⟩ := bo_ H
                 (try dsimp only at H)
                 by_cases c76 : (t3g.length : Int) = (t95.length : Int)
                 rotate_left
                 . exact absurd H (by rw [if_neg c76]; simp)
                 rw [if_pos c76] at H
                 obtain ⟨c76b0, c76b1⟩ := eT_ c76
                 have c76b2 : (t3g.length == t95.length) = true := by first | simpa using c76 | (simp at c76 ⊢; omega)
                 clear c76
                 obtain ⟨t6h, A77, H⟩ := bo_ H
                 (try dsimp only at H)
                 obtain rfl := si_ H
                 obtain ⟨Ao78, co78, eo78⟩ := Kd.N_slice HO_11.out
                 subst eo78
                 obtain ⟨Ao79, co79, eo79⟩ := Kd.N_slice HO_7.out
                 subst eo79
                 go_wp2_with (first | ((with_reducible refine gc_ (f := 18) rfl ?_); refine gL_ (some 169) Try.func18 #[.slice Ao79 t91.length co79, .slice Ao11 t6d.length co11] ?_; (with_reducible refine (impl_Remove.calls k2 _ _ t91 (fun k_ => some k_ = (.slice Ao11 t6d.length co11 : Value).ownBlock) _ _ t6d t2g t5g _ ?s1 ?s2 ?s3 A66.out).mono ?_); (case s1 => exact cC_ (Kd.N_reads' HO_7.out).2.2); (case s2 => exact (Kd.N_reads' HO_7.out).2.1); (case s3 => exact Kd.R_V (Kd.R_tight rfl (Kd.R_apart' (Kd.R_apart' (Kd.R_apart' (Kd.R_apart' (HO_4.out) (Kd.N_typed HO_3.out) (by decide)) (Kd.N_typed HO_7.out) (by decide)) (Kd.N_typed HO_9.out) (by decide)) (Kd.N_typed HO_11.out) (by decide)))); rintro e w80 ⟨v1j, rfl, ho0, hb⟩; refine ⟨_, rfl, ?_⟩; replace ho0 := Kd.S_N (Kd.S_mono (ok' := fun k_ => some k_ = (.slice Ao11 t6d.length co11 : Value).ownBlock \/ _ <= k_) ho0 (fun _ hk => Or.inr hk)); have HO7e := A_ (Kd.N_lower (Kd.N_mono (ok' := fun k_ => some k_ ≠ (.slice Ao10 t4d.length co10 : Value).ownBlock /\ some k_ ≠ (.slice Ao12 t7d.length co12 : Value).ownBlock /\ some k_ ≠ (.slice Ao79 t91.length co79 : Value).ownBlock /\ some k_ ≠ (v5e : Value).ownBlock /\ some k_ ≠ (.slice Ao78 t95.length co78 : Value).ownBlock) ho0 (fun k_ hk_ => ⟨Or.elim hk_ (fun hs_ => ((Kd.R_apart' (Kd.R_apart' (Kd.R_apart' (Kd.R_apart' (HO_4.out) (Kd.N_typed HO_3.out) (by decide)) (Kd.N_typed HO_7.out) (by decide)) (Kd.N_typed HO_9.out) (by decide)) (Kd.N_typed HO_11.out) (by decide)).1 k_ hs_.symm).1.1.1.2) (fun hn_ => (Kd.fresh' (Kd.N_lt (vN_ HO_3.out)) k_ hn_)), Or.elim hk_ (fun hs_ => ((Kd.R_apart' (Kd.R_apart' (Kd.R_apart' (Kd.R_apart' (HO_4.out) (Kd.N_typed HO_3.out) (by decide)) (Kd.N_typed HO_7.out) (by decide)) (Kd.N_typed HO_9.out) (by decide)) (Kd.N_typed HO_11.out) (by decide)).1 k_ hs_.symm).1.1.1.1) (fun hn_ => (Kd.fresh' (Kd.R_lt (vR_ HO_5.out)) k_ hn_)), Or.elim hk_ (fun hs_ => ((Kd.R_apart' (Kd.R_apart' (Kd.R_apart' (Kd.R_apart' (HO_4.out) (Kd.N_typed HO_3.out) (by decide)) (Kd.N_typed HO_7.out) (by decide)) (Kd.N_typed HO_9.out) (by decide)) (Kd.N_typed HO_11.out) (by decide)).1 k_ hs_.symm).1.1.2) (fun hn_ => (Kd.fresh' (Kd.N_lt (vN_ HO_7.out)) k_ hn_)), Or.elim hk_ (fun hs_ => ((Kd.R_apart' (Kd.R_apart' (Kd.R_apart' (Kd.R_apart' (HO_4.out) (Kd.N_typed HO_3.out) (by decide)) (Kd.N_typed HO_7.out) (by decide)) (Kd.N_typed HO_9.out) (by decide)) (Kd.N_typed HO_11.out) (by decide)).1 k_ hs_.symm).1.2) (fun hn_ => (Kd.fresh' (Kd.N_lt (vN_ HO_9.out)) k_ hn_)), Or.elim hk_ (fun hs_ => ((Kd.R_apart' (Kd.R_apart' (Kd.R_apart' (Kd.R_apart' (HO_4.out) (Kd.N_typed HO_3.out) (by decide)) (Kd.N_typed HO_7.out) (by decide)) (Kd.N_typed HO_9.out) (by decide)) (Kd.N_typed HO_11.out) (by decide)).1 k_ hs_.symm).2) (fun hn_ => (Kd.fresh' (Kd.N_lt (vN_ HO_11.out)) k_ hn_))⟩)) (below_size bB_)); replace HO_3 := A_ (Kd.N_elder' (vN_ HO_3.out) (kb_ ho0) hb); replace HO_4 := A_ (Kd.R_below (vR_ HO_4.out) hb); replace HO_5 := A_ (Kd.R_below (vR_ HO_5.out) hb); replace HO_7 := A_ (Kd.N_elder' (vN_ HO_7.out) (kb_ ho0) hb); replace HO_9 := A_ (Kd.N_elder' (vN_ HO_9.out) (kb_ ho0) hb); replace HO_11 := A_ (Kd.N_elder' (vN_ HO_11.out) (kb_ ho0) hb); replace HB := A_ (below_step bB_ hb); clear hb ho0; obtain ⟨Ao81, co81, eo81⟩ := Kd.N_slice HO7e.out; subst eo81; obtain ⟨Ao82, co82, eo82⟩ := Kd.N_slice HO_9.out; subst eo82) | (go_at_call 41; (with_reducible refine (laws_sameTree.calls k2 _ _ t2g _ _ t1e true _ ?s1 ?s2 ?s3 ?s4 A69.out).mono ?_); (case s1 => exact cC_ (Kd.N_reads' HO7e.out).2.2); (case s2 => exact (Kd.N_reads' HO7e.out).2.1); (case s3 => exact cC_ (Kd.N_reads' HO_9.out).2.2); (case s4 => exact (Kd.N_reads' HO_9.out).2.1); rintro e w83 ⟨rfl, hb⟩; replace HO_3 := A_ (Kd.N_below (vN_ HO_3.out) hb); replace HO_4 := A_ (Kd.R_below (vR_ HO_4.out) hb); replace HO_5 := A_ (Kd.R_below (vR_ HO_5.out) hb); replace HO_7 := A_ (Kd.N_below (vN_ HO_7.out) hb); replace HO_9 := A_ (Kd.N_below (vN_ HO_9.out) hb); replace HO_11 := A_ (Kd.N_below (vN_ HO_11.out) hb); replace HO7e := A_ (Kd.N_below (vN_ HO7e.out) hb); replace HB := A_ (below_step bB_ hb); clear hb) | (go_at_call 40; (with_reducible refine (impl_TreeOk.calls k2 _ _ t91 true _ ?s1 ?s2 A71.out).mono ?_); (case s1 => exact cC_ (Kd.N_reads' HO_7.out).2.2); (case s2 => exact (Kd.N_reads' HO_7.out).2.1); rintro e w84 ⟨rfl, hb⟩; replace HO_3 := A_ (Kd.N_below (vN_ HO_3.out) hb); replace HO_4 := A_ (Kd.R_below (vR_ HO_4.out) hb); replace HO_5 := A_ (Kd.R_below (vR_ HO_5.out) hb); replace HO_7 := A_ (Kd.N_below (vN_ HO_7.out) hb); replace HO_9 := A_ (Kd.N_below (vN_ HO_9.out) hb); replace HO_11 := A_ (Kd.N_below (vN_ HO_11.out) hb); replace HO7e := A_ (Kd.N_below (vN_ HO7e.out) hb); replace HB := A_ (below_step bB_ hb); clear hb) | (go_at_call 40; (with_reducible refine (impl_TreeOk.calls k2 _ _ t1e true _ ?s1 ?s2 A73.out).mono ?_); (case s1 => exact cC_ (Kd.N_reads' HO_9.out).2.2); (case s2 => exact (Kd.N_reads' HO_9.out).2.1); rintro e w85 ⟨rfl, hb⟩; replace HO_3 := A_ (Kd.N_below (vN_ HO_3.out) hb); replace HO_4 := A_ (Kd.R_below (vR_ HO_4.out) hb); replace HO_5 := A_ (Kd.R_below (vR_ HO_5.out) hb); replace HO_7 := A_ (Kd.N_below (vN_ HO_7.out) hb); replace HO_9 := A_ (Kd.N_below (vN_ HO_9.out) hb); replace HO_11 := A_ (Kd.N_below (vN_ HO_11.out) hb); replace HO7e := A_ (Kd.N_below (vN_ HO7e.out) hb); replace HB := A_ (below_step bB_ hb); clear hb) | (go_at_call 49; (with_reducible refine (impl_DeepOf.calls k2 _ _ t91 _ _ t7d t3g _ ?s1 ?s2 ?s3 ?s4 A75.out).mono ?_); (case s1 => exact cC_ (Kd.N_reads' HO_7.out).2.2); (case s2 => exact (Kd.N_reads' HO_7.out).2.1); (case s3 => exact cC_ (Kd.R_reads' HO_5.out).2.2); (case s4 => exact (Kd.R_reads' HO_5.out).2.1); rintro e w86 ⟨v2j, rfl, ho0, hb⟩; have HO7h := A_ (Kd.N_lower (Kd.N_mono (ok' := fun k_ => some k_ ≠ (.slice Ao10 t4d.length co10 : Value).ownBlock /\ some k_ ≠ (.slice Ao11 t6d.length co11 : Value).ownBlock /\ some k_ ≠ (.slice Ao12 t7d.length co12 : Value).ownBlock /\ some k_ ≠ (.slice Ao79 t91.length co79 : Value).ownBlock /\ some k_ ≠ (.slice Ao82 t1e.length co82 : Value).ownBlock /\ some k_ ≠ (.slice Ao78 t95.length co78 : Value).ownBlock /\ some k_ ≠ (.slice Ao81 t2g.length co81 : Value).ownBlock) (Kd.S_N (Kd.S_bound ho0)) (fun k_ hk_ => ⟨(Kd.fresh' (Kd.N_lt (vN_ HO_3.out)) k_ hk_.2.1), (Kd.fresh' (Kd.R_lt (vR_ HO_4.out)) k_ hk_.2.1), (Kd.fresh' (Kd.R_lt (vR_ HO_5.out)) k_ hk_.2.1), (Kd.fresh' (Kd.N_lt (vN_ HO_7.out)) k_ hk_.2.1), (Kd.fresh' (Kd.N_lt (vN_ HO_9.out)) k_ hk_.2.1), (Kd.fresh' (Kd.N_lt (vN_ HO_11.out)) k_ hk_.2.1), (Kd.fresh' (Kd.N_lt (vN_ HO7e.out)) k_ hk_.2.1)⟩)) (below_size bB_)); replace HO_3 := A_ (Kd.N_elder' (vN_ HO_3.out) (kb_ ho0) hb); replace HO_5 := A_ (Kd.R_below (vR_ HO_5.out) hb); replace HB := A_ (below_step bB_ hb); clear hb ho0; obtain ⟨Ao87, co87, eo87⟩ := Kd.N_slice HO7h.out; subst eo87) | (go_at_call 42; (with_reducible refine (impl_FindRes.calls k2 _ _ t4d _ _ t7d t6h _ ?s1 ?s2 ?s3 ?s4 A77.out).mono ?_); (case s1 => exact cC_ (Kd.N_reads' HO_3.out).2.2); (case s2 => exact (Kd.N_reads' HO_3.out).2.1); (case s3 => exact cC_ (Kd.R_reads' HO_5.out).2.2); (case s4 => exact (Kd.R_reads' HO_5.out).2.1); rintro e w88 ⟨rfl, hb⟩; replace HB := A_ (below_step bB_ hb); clear hb))
                 go_ret
                 exact ⟨rr_, bB_⟩
               . replace c74 := Bool.eq_false_iff.mpr c74
                 subst c74
                 rw [if_neg nf_] at H
                 exact absurd H (by simp)
             . replace c72 := Bool.eq_false_iff.mpr c72
               subst c72
               rw [if_neg nf_] at H
               exact absurd H (by simp)
           . replace c70 := Bool.eq_false_iff.mpr c70
             subst c70
             rw [if_neg nf_] at H
             exact absurd H (by simp)
         rw [if_pos c34] at H
         have c34b0 := decide_eq_true c34
         clear c34
         obtain ⟨t3f, A35, H⟩ := bo_ H
         (try dsimp only at H)
         by_cases c36 : 0 <= x12_2
         rotate_left
         . exact absurd H (by rw [if_neg c36]; simp)
         rw [if_pos c36] at H
         have c36b0 := decide_eq_true c36
         clear c36
         by_cases c37 : 0 <= (t6d.length : Int)
         rotate_left
         . exact absurd H (by rw [if_neg c37]; simp)
         rw [if_pos c37] at H
         have c37b0 := eq_true c37
         have c37b1 := decide_eq_true c37
         clear c37
         by_cases c38 : (t6d.length : Int) <= (((rd_T57 t95 x12_2).f0).length : Int)
         rotate_left
         . exact absurd H (by rw [if_neg c38]; simp)
         rw [if_pos c38] at H
         have c38b0 := eq_true c38
         have c38b1 := decide_eq_true c38
         clear c38
         obtain ⟨y9d, hy9d⟩ : ∃ y_ : List ByteArray, y_ = (((rd_T57 t95 x12_2).f0).drop ((t6d.length : Int) : Int).toNat) := ⟨_, rfl⟩
         replace H : (if t3f.length + y9d.length < 8796093022208 then ((impl_FindRes.f k2 t91 (t3f ++ y9d)).bind fun t93 => ((impl_FindRes.f k2 t91 ((rd_T57 t95 x12_2).f0)).bind fun t5d => (if t93 < 0 then (none) else (if t5d < 0 then (none) else (if 0 <= t93 then (if t93 < (t91.length : Int) then (if ((rd_T57 t91 t93).f2).toList = ((rd_T57 t95 x12_2).f2).toList then (if (((rd_T57 t91 t93).f1) != ((rd_T57 t95 x12_2).f1)) = true then (none) else (if ((rd_T57 t91 t93).f3) = 88 then ((laws_sameProps.f k2 ((rd_T57 t91 t93).f4) ((rd_T57 t95 x12_2).f4)).bind fun t4f => (if t4f = true then (if 0 <= t5d then (if t5d < (t91.length : Int) then ((laws_sameRes.f k2 ((rd_T57 t91 t5d).f0) ((rd_T57 t91 t5d).f1) ((rd_T57 t91 t5d).f2) ((rd_T57 t91 t5d).f3) ((rd_T57 t91 t5d).f4) ((rd_T57 t95 x12_2).f0) ((rd_T57 t95 x12_2).f1) ((rd_T57 t95 x12_2).f2) ((rd_T57 t95 x12_2).f3) ((rd_T57 t95 x12_2).f4)).bind fun t5f => (if t5f = true then (laws_FnCopied.l0 k2 t4d t6d t7d t91 t8e t1e t2f t95 (wrap64 (x12_2 + 1))) else (none))) else (none)) else (none)) else (none))) else (none))) else (none)) else (none)) else (none)))))) else (none)) = some r := hy_ hy9d H
         have Ny9d := A_ hy9d
         clear hy9d
         by_cases c39 : t3f.length + y9d.length < 8796093022208
         rotate_left
         . exact absurd H (by rw [if_neg c39]; simp)
         rw [if_pos c39] at H
         have LMc39 := A_ c39
         clear c39
         obtain ⟨y9e, hy9e⟩ : ∃ y_ : List ByteArray, y_ = (t3f ++ y9d) := ⟨_, rfl⟩
         replace H : ((impl_FindRes.f k2 t91 y9e).bind fun t93 => ((impl_FindRes.f k2 t91 ((rd_T57 t95 x12_2).f0)).bind fun t5d => (if t93 < 0 then (none) else (if t5d < 0 then (none) else (if 0 <= t93 then (if t93 < (t91.length : Int) then (if ((rd_T57 t91 t93).f2).toList = ((rd_T57 t95 x12_2).f2).toList then (if (((rd_T57 t91 t93).f1) != ((rd_T57 t95 x12_2).f1)) = true then (none) else (if ((rd_T57 t91 t93).f3) = 88 then ((laws_sameProps.f k2 ((rd_T57 t91 t93).f4) ((rd_T57 t95 x12_2).f4)).bind fun t4f => (if t4f = true then (if 0 <= t5d then (if t5d < (t91.length : Int) then ((laws_sameRes.f k2 ((rd_T57 t91 t5d).f0) ((rd_T57 t91 t5d).f1) ((rd_T57 t91 t5d).f2) ((rd_T57 t91 t5d).f3) ((rd_T57 t91 t5d).f4) ((rd_T57 t95 x12_2).f0) ((rd_T57 t95 x12_2).f1) ((rd_T57 t95 x12_2).f2) ((rd_T57 t95 x12_2).f3) ((rd_T57 t95 x12_2).f4)).bind fun t5f => (if t5f = true then (laws_FnCopied.l0 k2 t4d t6d t7d t91 t8e t1e t2f t95 (wrap64 (x12_2 + 1))) else (none))) else (none)) else (none)) else (none))) else (none))) else (none)) else (none)) else (none)))))) = some r := hy_ hy9e H
         have Ny9e := A_ hy9e
         clear hy9e
         obtain ⟨t93, A40, H⟩ := bo_ H
         (try dsimp only at H)
         obtain ⟨t5d, A41, H⟩ := bo_ H
         (try dsimp only at H)
         by_cases c42 : t93 < 0
         . rw [if_pos c42] at H
           have c42b0 := decide_eq_true c42
           clear c42
           exact absurd H (by simp)
         rw [if_neg c42] at H
         have c42b0 := decide_eq_false c42
         clear c42
         by_cases c43 : t5d < 0
         . rw [if_pos c43] at H
           have c43b0 := decide_eq_true c43
           clear c43
           exact absurd H (by simp)
         rw [if_neg c43] at H
         have c43b0 := decide_eq_false c43
         clear c43
         by_cases c44 : 0 <= t93
         rotate_left
         . exact absurd H (by rw [if_neg c44]; simp)
         rw [if_pos c44] at H
         have c44b0 := decide_eq_true c44
         clear c44
         by_cases c45 : t93 < (t91.length : Int)
         rotate_left
         . exact absurd H (by rw [if_neg c45]; simp)
         rw [if_pos c45] at H
         have c45b0 := decide_eq_true c45
         clear c45
         by_cases c46 : ((rd_T57 t91 t93).f2).toList = ((rd_T57 t95 x12_2).f2).toList
         rotate_left
         . rw [if_neg c46] at H
           obtain ⟨c46b0, c46b1⟩ := eF_ c46
           exact absurd H (by simp)
         rw [if_pos c46] at H
         obtain ⟨c46b0, c46b1⟩ := eT_ c46
         clear c46
         by_cases c47 : (((rd_T57 t91 t93).f1) != ((rd_T57 t95 x12_2).f1)) = true
         . rw [if_pos c47] at H
           have c47b0 : (((rd_T57 t91 t93).f1) != ((rd_T57 t95 x12_2).f1)) = true := c47
           (try (have c47b1 : decide (((rd_T57 t91 t93).f1) = ((rd_T57 t95 x12_2).f1)) = false := by simpa using c47))
           (try (have c47b2 : (((rd_T57 t91 t93).f1) == ((rd_T57 t95 x12_2).f1)) = false := by simpa using c47))
           (try (have c47b3 : ¬ (((rd_T57 t91 t93).f1) = ((rd_T57 t95 x12_2).f1)) := by simpa using c47))
           clear c47
           exact absurd H (by simp)
         rw [if_neg c47] at H
         have c47b0 : (((rd_T57 t91 t93).f1) != ((rd_T57 t95 x12_2).f1)) = false := by simpa using c47
         (try (have c47b1 : decide (((rd_T57 t91 t93).f1) = ((rd_T57 t95 x12_2).f1)) = true := by simpa using c47))
         (try (have c47b2 : (((rd_T57 t91 t93).f1) == ((rd_T57 t95 x12_2).f1)) = true := by simpa using c47))
         clear c47
         by_cases c48 : ((rd_T57 t91 t93).f3) = 88
         rotate_left
         . rw [if_neg c48] at H
           obtain ⟨c48b0, c48b1⟩ := eF_ c48
           exact absurd H (by simp)
         rw [if_pos c48] at H
         obtain ⟨c48b0, c48b1⟩ := eT_ c48
         clear c48
         obtain ⟨t4f, A49, H⟩ := bo_ H
         (try dsimp only at H)
         by_cases c50 : t4f = true
         . subst c50
           rw [if_pos rfl] at H
           by_cases c51 : 0 <= t5d
           rotate_left
           . exact absurd H (by rw [if_neg c51]; simp)
           rw [if_pos c51] at H
           have c51b0 := decide_eq_true c51
           clear c51
           by_cases c52 : t5d < (t91.length : Int)
           rotate_left
           . exact absurd H (by rw [if_neg c52]; simp)
           rw [if_pos c52] at H
           have c52b0 := decide_eq_true c52
           clear c52
           obtain ⟨t5f, A53, H⟩ := bo_ H
           (try dsimp only at H)
           by_cases c54 : t5f = true
           . subst c54
             rw [if_pos rfl] at H
             have H' := A_ H
             clear H
             obtain ⟨Ao55, co55, eo55⟩ := Kd.N_slice HO_11.out
             subst eo55
             try go_wp2
             replace HO_3 := A_ (Kd.N_drew HO_3.out)
             replace HO_4 := A_ (Kd.R_drew HO_4.out)
             replace HO_5 := A_ (Kd.R_drew HO_5.out)
             replace HO_7 := A_ (Kd.N_drew HO_7.out)
             replace HO_9 := A_ (Kd.N_drew HO_9.out)
             replace HO_11 := A_ (Kd.N_drew HO_11.out)
             replace HB := A_ (below_drew1 HB.out)
             have p89 : 0 <= (x12_2 : Int) := od_
             have q89 : x12_2 < (t95.length : Int) := od_
             obtain ⟨ad89, A89_0, c89_0, A89_4, c89_4, e89, hx89_0, hx89_1, hx89_2, hx89_3, hx89_4, hl89_0, hi89_0, hl89_4, hi89_4⟩ := at_T57 (Kd.N_reads' HO_11.out).2.2 x12_2 p89 q89
             cases e89
             obtain ⟨ce89, hce89, hMe89, hcc89⟩ := Kd.N_get HO_11.out z57 x12_2 p89 (by first | exact q89 | exact od_ | (have e_ := (Kd.N_reads' HO_11.out).1; omega))
             obtain ⟨ua89_0, uc89_0, ua89_4, uc89_4, rfl, ul89_0, ge89_0, ul89_4, ge89_4⟩ := k57_openF hMe89
             have hv89_0 := hcc89 0 _ rfl
             rw [Nat.add_zero] at hv89_0
             replace hv89_0 := Option.some.inj (hv89_0.symm.trans hx89_0)
             injection hv89_0 with hva_ hvn_ hvc_
             rw [hva_] at ge89_0
             rw [hvc_] at ul89_0
             have HL89_0 := A_ (show Kd.V Kd.string 9 _ w.heap.size _ _ ((rd_T57 t95 x12_2).f0) from Kd.V_mk ul89_0 ge89_0)
             clear hva_ hvn_ hvc_ ge89_0 ul89_0
             have hv89_4 := hcc89 4 _ rfl
             rw [add_field _ _ 4 (by omega)] at hv89_4
             replace hv89_4 := Option.some.inj (hv89_4.symm.trans hx89_4)
             injection hv89_4 with hva_ hvn_ hvc_
             rw [hva_] at ge89_4
             rw [hvc_] at ul89_4
             clear hva_ hvn_ hvc_ ge89_4 ul89_4
             clear hcc89 hce89
             have HC89_0 := A_ hl89_0
             clear hi89_0 hl89_0
             clear hi89_4 hl89_4
             replace p89 := eq_true p89
             replace q89 := eq_true q89
             have q57 : ((t6d.length : Int) : Int) <= ((((rd_T57 t95 x12_2).f0).length : Int) : Int) := od_
             obtain ⟨i057, hi8f, _, hsz57, _⟩ := info_parts info9
             have hroom57 : ((rd_T57 t95 x12_2).f0).length <= c89_0 := HC89_0.out
             have hC57 : Kd.F Kd.string _ _ A89_0 ((rd_T57 t95 x12_2).f0).length ((rd_T57 t95 x12_2).f0) := (Kd.V_at (base := w.heap.size) HL89_0.out).2.2
             have q8f : (0 : Int) <= ((t6d.length : Int) : Int) := od_
             have hcut57 := cut_from (P := Try.prog) 23 9 .i64 Try.underlying23 hi8f 1 hsz57 A89_0 ((rd_T57 t95 x12_2).f0).length c89_0 (t6d.length : Int) q8f q57
             have hr57 := Kd.F_cut (m := ((t6d.length : Int) : Int).toNat) (c := c89_0) hC57 (by omega) hroom57
             obtain ⟨A57, hA57⟩ : ∃ A1, A1 = (if c89_0 = ((t6d.length : Int) : Int).toNat then A89_0 else (A89_0 : Option Addr).map (·.add (((t6d.length : Int) : Int).toNat * 1))) := ⟨_, rfl⟩
             obtain ⟨c57, hc57⟩ : ∃ c1, c1 = c89_0 - ((t6d.length : Int) : Int).toNat := ⟨_, rfl⟩
             have hy57 : y9d.length = ((rd_T57 t95 x12_2).f0).length - ((t6d.length : Int) : Int).toNat := (by rw [Ny9d.out, List.length_drop] <;> omega)
             rw [show ((rd_T57 t95 x12_2).f0).drop ((t6d.length : Int) : Int).toNat = y9d from Ny9d.out.symm] at hr57
             replace hr57 : Kd.F Kd.string _ _ A57 y9d.length y9d := (by rw [hA57]; exact hr57)
             rw [← hy57, ← hA57, ← hc57] at hcut57
             have HO6f := A_ (show Kd.V Kd.string 9 _ w.heap.size _ (.slice A57 y9d.length c57) y9d from Kd.V_mk (by rw [hy57, hc57]; exact Nat.sub_le_sub_right hroom57 _) hr57)
             clear hr57 hC57 hroom57 hi8f hsz57 hc57
             have KY57 := A_ hy57
             have KA57 := A_ hA57
             clear hy57 hA57
             replace q57 := eq_true q57
             refine start_ (n := 13) (S := fun w' => w'.cell? (ad89.add ((x12_2).toNat * 5)) = some (.slice A89_0 ((rd_T57 t95 x12_2).f0).length c89_0) /\ w'.cell? ⟨(ad89.add ((x12_2).toNat * 5)).block, (ad89.add ((x12_2).toNat * 5)).off + 1, none⟩ = some (.bool ((rd_T57 t95 x12_2).f1)) /\ w'.cell? ⟨(ad89.add ((x12_2).toNat * 5)).block, (ad89.add ((x12_2).toNat * 5)).off + 2, none⟩ = some (.string ((rd_T57 t95 x12_2).f2)) /\ w'.cell? ⟨(ad89.add ((x12_2).toNat * 5)).block, (ad89.add ((x12_2).toNat * 5)).off + 3, none⟩ = some (.int .i64 ((rd_T57 t95 x12_2).f3)) /\ w'.cell? ⟨(ad89.add ((x12_2).toNat * 5)).block, (ad89.add ((x12_2).toNat * 5)).off + 4, none⟩ = some (.slice A89_4 ((rd_T57 t95 x12_2).f4).length c89_4)) (ds := [11]) #[false, false, false, false, false, false, false, false, false, false, false, false, false] (by kernel_rfl) rfl rfl ⟨hx89_0, hx89_1, hx89_2, hx89_3, hx89_4⟩ (fun hHeld => ?_); refine with_tabW laws_FnCopied.tab13 laws_FnCopied.bits13 (fun HT_ HW_ => ?_)
             generalize wr.drew = w56 at HO_3 HO_4 HO_5 HO_7 HO_9 HO_11 HB HL89_0 HO6f hx89_0 hx89_1 hx89_2 hx89_3 hx89_4 hHeld ⊢
             refine pu_ (i := 1) (N := some 79) ?_
             refine pu_ (i := 3) (N := some 81) ?_
             refine pu_ (i := 4) (N := some 82) ?_
             refine pu_ (i := 5) (N := some 83) ?_
             refine pu_ (i := 6) (N := some 84) ?_
             refine pu_ (i := 8) (N := some 86) ?_
             refine pu_ (i := 9) (N := some 87) ?_
             refine tk_ (i := 7) (N := some 85) hHeld ?_
             refine pu_ (i := 10) (N := some 88) ?_
             refine on_ (i := 0) (N := some 78) (fun K hK => ?_)
             refine Kd.R_lit_step Kd.string (w0 := w56) w56.heap.size 9 (by rfl) (N := 78) rfl (xs := ([] : List ByteArray)) (inner := []) (ok := fun _ => True) (okp := fun _ => True) ?hrL (Reps.none _ _) (fun _ h => h) trivial (Below.refl _ _) (Nat.le_refl _) (by simp) ?_
             (case hrL => first | (go_simp; done) | (go_simp; rfl))
             intro vl_ wl_ hol_ hbl_ hgl_ hnl_
             have hHeld0_ := hHeld
             obtain ⟨Al_, cl_, rfl⟩ := Kd.R_slice hol_
             have HS0_ := (hbl_.cell (World.block_lt_of_cell? _ _ (hHeld.1))).trans (hHeld.1)
             have HS1_ := (hbl_.cell (World.block_lt_of_cell? _ _ (hHeld.2.1))).trans (hHeld.2.1)
             have HS2_ := (hbl_.cell (World.block_lt_of_cell? _ _ (hHeld.2.2.1))).trans (hHeld.2.2.1)
             have HS3_ := (hbl_.cell (World.block_lt_of_cell? _ _ (hHeld.2.2.2.1))).trans (hHeld.2.2.2.1)
             have HS4_ := (hbl_.cell (World.block_lt_of_cell? _ _ (hHeld.2.2.2.2))).trans (hHeld.2.2.2.2)
             refine hK.out _ _ ⟨HS0_, HS1_, HS2_, HS3_, HS4_⟩ (fun hHeld => ?_)
             clear hK K
             refine no_ (some 78) ?_
             have hlen_ : t7d.length < 8796093022208 /\ t3f = [] ++ t7d := by
              have h_ := A35.out
              unfold impl_copyPath.f at h_
              split at h_
              . rename_i h2_; injection h_ with h_; exact ⟨by rw [List.length_nil] at h2_; omega, h_.symm⟩
              . cases h_
             refine on_ (i := 2) (N := some 80) (fun K hK => ?_)
             refine Kd.R_append_rows_step Kd.string (w0 := w56) w56.heap.size (by rfl) (.tmp 78) (.tmp 79) 23 9 (.string ⟨#[]⟩) 16 rfl Try.underlying23 info9 rfl (by decide) (by omega) _ ([] : List ByteArray) t7d _ _ _ (fun _ => True) (fun _ => False) rfl rfl ?aO ?aR (fun _ _ h => h) (fun _ h => h.elim) (fun _ _ => trivial) hbl_ hbl_.size ?aL ?_
             (case aO => exact hol_)
             (case aR => exact Kd.C_below (by repeat (first | exact (Kd.R_reads' HO_5.out).2.2 | (with_reducible refine Kd.C_alloc ?_ _) | (with_reducible refine Kd.C_drewN ?_ _) | (with_reducible refine Kd.C_drew ?_))) hbl_)
             (case aL => have h_ := hlen_.1; rw [List.length_nil]; omega)
             intro v8h w58 ho0 hb hg_ hat_
             rw [← hlen_.2] at ho0
             clear hol_ hgl_ hnl_ hg_ hat_ hlen_ HS0_ HS1_ HS2_ HS3_ HS4_
             have HS0_ := (hb.cell (World.block_lt_of_cell? _ _ (hHeld0_.1))).trans (hHeld0_.1)
             have HS1_ := (hb.cell (World.block_lt_of_cell? _ _ (hHeld0_.2.1))).trans (hHeld0_.2.1)
             have HS2_ := (hb.cell (World.block_lt_of_cell? _ _ (hHeld0_.2.2.1))).trans (hHeld0_.2.2.1)
             have HS3_ := (hb.cell (World.block_lt_of_cell? _ _ (hHeld0_.2.2.2.1))).trans (hHeld0_.2.2.2.1)
             have HS4_ := (hb.cell (World.block_lt_of_cell? _ _ (hHeld0_.2.2.2.2))).trans (hHeld0_.2.2.2.2)
             replace HO_3 := A_ (Kd.N_elder' (vN_ HO_3.out) (kb_ ho0) hb)
             replace HO_7 := A_ (Kd.N_elder' (vN_ HO_7.out) (kb_ ho0) hb)
             replace HO_9 := A_ (Kd.N_elder' (vN_ HO_9.out) (kb_ ho0) hb)
             replace HO_11 := A_ (Kd.N_elder' (vN_ HO_11.out) (kb_ ho0) hb)
             replace HO6f := A_ (Kd.V_elder' (vV_ HO6f.out) (kb_ ho0) hb)
             have HO6g := A_ (Kd.R_lower (Kd.R_new' (Kd.R_new' ho0 (Kd.R_lt (vR_ HO_4.out))) (Kd.R_lt (vR_ HO_5.out))) (below_size bB_))
             replace HO_4 := A_ (Kd.R_elder' (vR_ HO_4.out) (kb_ ho0) hb)
             replace HO_5 := A_ (Kd.R_elder' (vR_ HO_5.out) (kb_ ho0) hb)
             replace HB := A_ (below_step bB_ hb)
             (try clear hb)
             (try clear hb2)
             (try clear hk)
             (try clear hi)
             (try clear ho0)
             refine hK.out _ _ ⟨HS0_, HS1_, HS2_, HS3_, HS4_⟩ (fun hHeld => ?_)
             clear hK K
             refine no_ (some 80) ?_
             refine last_ (i := 11) (N := some 89) #[true, true, true, true, true, true, true, true, true, true, true, true, false] rfl rfl (one_of HT_.out (by kernel_rfl)) (by decide) (fun K hK => ?_)
             refine Kd.R_append_rows_step Kd.string (w0 := w) w.heap.size (by rfl) (.tmp 80) (.tmp 88) 23 9 (.string ⟨#[]⟩) 16 rfl Try.underlying23 info9 rfl (by decide) (by omega) v8h t3f y9d _ _ _ (fun k_ => some k_ ≠ (.slice Ao11 t6d.length co11 : Value).ownBlock /\ some k_ ≠ (.slice Ao12 t7d.length co12 : Value).ownBlock) (fun _ => False) rfl rfl ?aO ?aR (fun _ _ h => h) (fun _ h => h.elim) ?aF ?aB ?aS ?aL ?_
             (case aR => exact cC_ (Kd.V_reads' HO6f.out).2.2)
             (case aB => exact bB_)
             (case aF => exact (fun k_ hk => ⟨Kd.fresh' (Kd.R_lt (vR_ HO_4.out)) k_ hk, Kd.fresh' (Kd.R_lt (vR_ HO_5.out)) k_ hk⟩))
             (case aO => exact (by (with_reducible repeat (first | apply Kd.R_alloc | apply Kd.R_drewN | apply Kd.R_drew)); exact Kd.R_mono HO6g.out (fun _ hk => ⟨hk.1.2, hk.2⟩)))
             (case aS => exact (below_size bB_))
             (case aL => have := LMc39.out; omega)
             intro v3j w59 ho hb hg hat
             rw [← Ny9e.out] at ho
             replace HO_3 := A_ (Kd.N_afterv (ok := (fun k_ => some k_ ≠ (.slice Ao11 t6d.length co11 : Value).ownBlock /\ some k_ ≠ (.slice Ao12 t7d.length co12 : Value).ownBlock /\ some k_ ≠ (v4e : Value).ownBlock /\ some k_ ≠ (v5e : Value).ownBlock /\ some k_ ≠ (.slice (some ad89) t95.length co55 : Value).ownBlock)) (vN_ HO_3.out) hg hat)
             replace HO_4 := A_ (Kd.R_after (ok := (fun k_ => some k_ ≠ (.slice Ao12 t7d.length co12 : Value).ownBlock)) (vR_ HO_4.out) hg hat)
             replace HO_5 := A_ (Kd.R_after (ok := (fun k_ => some k_ ≠ (.slice Ao11 t6d.length co11 : Value).ownBlock)) (vR_ HO_5.out) hg hat)
             replace HO_7 := A_ (Kd.N_afterv (ok := (fun k_ => some k_ ≠ (.slice Ao10 t4d.length co10 : Value).ownBlock /\ some k_ ≠ (v5e : Value).ownBlock /\ some k_ ≠ (.slice (some ad89) t95.length co55 : Value).ownBlock)) (vN_ HO_7.out) hg hat)
             replace HO_9 := A_ (Kd.N_afterv (ok := (fun k_ => some k_ ≠ (.slice Ao10 t4d.length co10 : Value).ownBlock /\ some k_ ≠ (v4e : Value).ownBlock /\ some k_ ≠ (.slice (some ad89) t95.length co55 : Value).ownBlock)) (vN_ HO_9.out) hg hat)
             replace HO_11 := A_ (Kd.N_afterv (ok := (fun k_ => some k_ ≠ (.slice Ao10 t4d.length co10 : Value).ownBlock /\ some k_ ≠ (.slice Ao11 t6d.length co11 : Value).ownBlock /\ some k_ ≠ (.slice Ao12 t7d.length co12 : Value).ownBlock /\ some k_ ≠ (v4e : Value).ownBlock /\ some k_ ≠ (v5e : Value).ownBlock)) (vN_ HO_11.out) hg hat)
             replace HB := A_ (hb)
             have HO9f := A_ (ho)
             clear HO6g
             clear ho hb hg hat
             refine hK.out _ _ ?_
             clear hK K
             refine no_ (some 89) ?_
             refine pu_ (i := 12) (N := some 13) ?_
             refine done_ (done_of HT_.out (by kernel_rfl)) ?_
             (try clear hHeld)
             obtain ⟨Ao60, co60, eo60⟩ := Kd.N_slice HO_7.out
             subst eo60
             obtain ⟨Ao61, co61, eo61⟩ := Kd.R_slice HO9f.out
             subst eo61
             try go_wp2_with (first | ((with_reducible refine gc_ (f := 42) rfl ?_); refine gL_ (some 92) Try.func42 #[.slice Ao60 t91.length co60, .slice Ao61 y9e.length co61] ?_; (with_reducible refine (impl_FindRes.calls k2 _ _ t91 _ _ y9e t93 _ ?s1 ?s2 ?s3 ?s4 A40.out).mono ?_); (case s1 => exact cC_ (Kd.N_reads' HO_7.out).2.2); (case s2 => exact (Kd.N_reads' HO_7.out).2.1); (case s3 => exact cC_ (Kd.R_reads' HO9f.out).2.2); (case s4 => exact (Kd.R_reads' HO9f.out).2.1); rintro e w62 ⟨rfl, hb⟩; refine ⟨_, rfl, ?_⟩; replace HO_3 := A_ (Kd.N_below (vN_ HO_3.out) hb); replace HO_4 := A_ (Kd.R_below (vR_ HO_4.out) hb); replace HO_5 := A_ (Kd.R_below (vR_ HO_5.out) hb); replace HO_7 := A_ (Kd.N_below (vN_ HO_7.out) hb); replace HO_9 := A_ (Kd.N_below (vN_ HO_9.out) hb); replace HO_11 := A_ (Kd.N_below (vN_ HO_11.out) hb); replace HB := A_ (below_step bB_ hb); clear hb; have p3d : 0 <= (x12_2 : Int) := od_; have q3d : x12_2 < (t95.length : Int) := od_; obtain ⟨ad3d, A3d_0, c3d_0, A3d_4, c3d_4, e3d, hx3d_0, hx3d_1, hx3d_2, hx3d_3, hx3d_4, hl3d_0, hi3d_0, hl3d_4, hi3d_4⟩ := at_T57 (Kd.N_reads' HO_11.out).2.2 x12_2 p3d q3d; obtain rfl : ad89 = ad3d := (by injection e3d); obtain ⟨ce3d, hce3d, hMe3d, hcc3d⟩ := Kd.N_get HO_11.out z57 x12_2 p3d (by first | exact q3d | exact od_ | (have e_ := (Kd.N_reads' HO_11.out).1; omega)); obtain ⟨ua3d_0, uc3d_0, ua3d_4, uc3d_4, rfl, ul3d_0, ge3d_0, ul3d_4, ge3d_4⟩ := k57_openF hMe3d; have hv3d_0 := hcc3d 0 _ rfl; rw [Nat.add_zero] at hv3d_0; replace hv3d_0 := Option.some.inj (hv3d_0.symm.trans hx3d_0); injection hv3d_0 with hva_ hvn_ hvc_; rw [hva_] at ge3d_0; rw [hvc_] at ul3d_0; clear hva_ hvn_ hvc_ ge3d_0 ul3d_0; have hv3d_4 := hcc3d 4 _ rfl; rw [add_field _ _ 4 (by omega)] at hv3d_4; replace hv3d_4 := Option.some.inj (hv3d_4.symm.trans hx3d_4); injection hv3d_4 with hva_ hvn_ hvc_; rw [hva_] at ge3d_4; rw [hvc_] at ul3d_4; clear hva_ hvn_ hvc_ ge3d_4 ul3d_4; clear hcc3d hce3d; have HR3d_0 := A_ hi3d_0; have HC3d_0 := A_ hl3d_0; clear hi3d_0 hl3d_0; clear hi3d_4 hl3d_4; replace p3d := eq_true p3d; replace q3d := eq_true q3d) | ((with_reducible refine gc_ (f := 42) rfl ?_); refine gL_ (some 99) Try.func42 #[.slice Ao60 t91.length co60, .slice A3d_0 ((rd_T57 t95 x12_2).f0).length c3d_0] ?_; (with_reducible refine (impl_FindRes.calls k2 _ _ t91 _ _ ((rd_T57 t95 x12_2).f0) t5d _ ?s1 ?s2 ?s3 ?s4 A41.out).mono ?_); (case s1 => exact cC_ (Kd.N_reads' HO_7.out).2.2); (case s2 => exact (Kd.N_reads' HO_7.out).2.1); (case s3 => repeat (first | exact (cC_ HR3d_0.out) | (with_reducible refine Kd.C_alloc ?_ _) | (with_reducible refine Kd.C_drewN ?_ _) | (with_reducible refine Kd.C_drew ?_))); (case s4 => exact HC3d_0.out); rintro e w63 ⟨rfl, hb⟩; refine ⟨_, rfl, ?_⟩; replace HO_3 := A_ (Kd.N_below (vN_ HO_3.out) hb); replace HO_4 := A_ (Kd.R_below (vR_ HO_4.out) hb); replace HO_5 := A_ (Kd.R_below (vR_ HO_5.out) hb); replace HO_7 := A_ (Kd.N_below (vN_ HO_7.out) hb); replace HO_9 := A_ (Kd.N_below (vN_ HO_9.out) hb); replace HO_11 := A_ (Kd.N_below (vN_ HO_11.out) hb); replace HB := A_ (below_step bB_ hb); clear hb))
             replace HO_3 := A_ (Kd.N_drew HO_3.out)
             replace HO_4 := A_ (Kd.R_drew HO_4.out)
             replace HO_5 := A_ (Kd.R_drew HO_5.out)
             replace HO_7 := A_ (Kd.N_drew HO_7.out)
             replace HO_9 := A_ (Kd.N_drew HO_9.out)
             replace HO_11 := A_ (Kd.N_drew HO_11.out)
             replace HB := A_ (below_drew1 HB.out)
             have p90 : 0 <= (t93 : Int) := od_
             have q90 : t93 < (t91.length : Int) := od_
             obtain ⟨ad90, A90_0, c90_0, A90_4, c90_4, e90, hx90_0, hx90_1, hx90_2, hx90_3, hx90_4, hl90_0, hi90_0, hl90_4, hi90_4⟩ := at_T57 (Kd.N_reads' HO_7.out).2.2 t93 p90 q90
             cases e90
             obtain ⟨ce90, hce90, hMe90, hcc90⟩ := Kd.N_get HO_7.out z57 t93 p90 (by first | exact q90 | exact od_ | (have e_ := (Kd.N_reads' HO_7.out).1; omega))
             obtain ⟨ua90_0, uc90_0, ua90_4, uc90_4, rfl, ul90_0, ge90_0, ul90_4, ge90_4⟩ := k57_openF hMe90
             have hv90_0 := hcc90 0 _ rfl
             rw [Nat.add_zero] at hv90_0
             replace hv90_0 := Option.some.inj (hv90_0.symm.trans hx90_0)
             injection hv90_0 with hva_ hvn_ hvc_
             rw [hva_] at ge90_0
             rw [hvc_] at ul90_0
             clear hva_ hvn_ hvc_ ge90_0 ul90_0
             have hv90_4 := hcc90 4 _ rfl
             rw [add_field _ _ 4 (by omega)] at hv90_4
             replace hv90_4 := Option.some.inj (hv90_4.symm.trans hx90_4)
             injection hv90_4 with hva_ hvn_ hvc_
             rw [hva_] at ge90_4
             rw [hvc_] at ul90_4
             clear hva_ hvn_ hvc_ ge90_4 ul90_4
             clear hcc90 hce90
             clear hi90_0 hl90_0
             clear hi90_4 hl90_4
             replace p90 := eq_true p90
             replace q90 := eq_true q90
             have p92 : 0 <= (x12_2 : Int) := od_
             have q92 : x12_2 < (t95.length : Int) := od_
             obtain ⟨ad92, A92_0, c92_0, A92_4, c92_4, e92, hx92_0, hx92_1, hx92_2, hx92_3, hx92_4, hl92_0, hi92_0, hl92_4, hi92_4⟩ := at_T57 (Kd.N_reads' HO_11.out).2.2 x12_2 p92 q92
             obtain rfl : ad89 = ad92 := (by injection e92)
             obtain ⟨ce92, hce92, hMe92, hcc92⟩ := Kd.N_get HO_11.out z57 x12_2 p92 (by first | exact q92 | exact od_ | (have e_ := (Kd.N_reads' HO_11.out).1; omega))
             obtain ⟨ua92_0, uc92_0, ua92_4, uc92_4, rfl, ul92_0, ge92_0, ul92_4, ge92_4⟩ := k57_openF hMe92
             have hv92_0 := hcc92 0 _ rfl
             rw [Nat.add_zero] at hv92_0
             replace hv92_0 := Option.some.inj (hv92_0.symm.trans hx92_0)
             injection hv92_0 with hva_ hvn_ hvc_
             rw [hva_] at ge92_0
             rw [hvc_] at ul92_0
             clear hva_ hvn_ hvc_ ge92_0 ul92_0
             have hv92_4 := hcc92 4 _ rfl
             rw [add_field _ _ 4 (by omega)] at hv92_4
             replace hv92_4 := Option.some.inj (hv92_4.symm.trans hx92_4)
             injection hv92_4 with hva_ hvn_ hvc_
             rw [hva_] at ge92_4
             rw [hvc_] at ul92_4
             clear hva_ hvn_ hvc_ ge92_4 ul92_4
             clear hcc92 hce92
             clear hi92_0 hl92_0
             clear hi92_4 hl92_4
             replace p92 := eq_true p92
             replace q92 := eq_true q92
             have p99 : 0 <= (t93 : Int) := od_
             have q99 : t93 < (t91.length : Int) := od_
             obtain ⟨ad99, A99_0, c99_0, A99_4, c99_4, e99, hx99_0, hx99_1, hx99_2, hx99_3, hx99_4, hl99_0, hi99_0, hl99_4, hi99_4⟩ := at_T57 (Kd.N_reads' HO_7.out).2.2 t93 p99 q99
             obtain rfl : ad90 = ad99 := (by injection e99)
             obtain ⟨ce99, hce99, hMe99, hcc99⟩ := Kd.N_get HO_7.out z57 t93 p99 (by first | exact q99 | exact od_ | (have e_ := (Kd.N_reads' HO_7.out).1; omega))
             obtain ⟨ua99_0, uc99_0, ua99_4, uc99_4, rfl, ul99_0, ge99_0, ul99_4, ge99_4⟩ := k57_openF hMe99
             have hv99_0 := hcc99 0 _ rfl
             rw [Nat.add_zero] at hv99_0
             replace hv99_0 := Option.some.inj (hv99_0.symm.trans hx99_0)
             injection hv99_0 with hva_ hvn_ hvc_
             rw [hva_] at ge99_0
             rw [hvc_] at ul99_0
             clear hva_ hvn_ hvc_ ge99_0 ul99_0
             have hv99_4 := hcc99 4 _ rfl
             rw [add_field _ _ 4 (by omega)] at hv99_4
             replace hv99_4 := Option.some.inj (hv99_4.symm.trans hx99_4)
             injection hv99_4 with hva_ hvn_ hvc_
             rw [hva_] at ge99_4
             rw [hvc_] at ul99_4
             clear hva_ hvn_ hvc_ ge99_4 ul99_4
             clear hcc99 hce99
             clear hi99_0 hl99_0
             clear hi99_4 hl99_4
             replace p99 := eq_true p99
             replace q99 := eq_true q99
             have ea_ := Option.some.inj (hx90_0.symm.trans hx99_0)
             injection ea_ with ea_ en_ ec_
             subst ea_
             subst ec_
             clear en_
             have ea_ := Option.some.inj (hx90_4.symm.trans hx99_4)
             injection ea_ with ea_ en_ ec_
             subst ea_
             subst ec_
             clear en_
             have p1d : 0 <= (x12_2 : Int) := od_
             have q1d : x12_2 < (t95.length : Int) := od_
             obtain ⟨ad1d, A1d_0, c1d_0, A1d_4, c1d_4, e1d, hx1d_0, hx1d_1, hx1d_2, hx1d_3, hx1d_4, hl1d_0, hi1d_0, hl1d_4, hi1d_4⟩ := at_T57 (Kd.N_reads' HO_11.out).2.2 x12_2 p1d q1d
             obtain rfl : ad89 = ad1d := (by injection e1d)
             obtain ⟨ce1d, hce1d, hMe1d, hcc1d⟩ := Kd.N_get HO_11.out z57 x12_2 p1d (by first | exact q1d | exact od_ | (have e_ := (Kd.N_reads' HO_11.out).1; omega))
             obtain ⟨ua1d_0, uc1d_0, ua1d_4, uc1d_4, rfl, ul1d_0, ge1d_0, ul1d_4, ge1d_4⟩ := k57_openF hMe1d
             have hv1d_0 := hcc1d 0 _ rfl
             rw [Nat.add_zero] at hv1d_0
             replace hv1d_0 := Option.some.inj (hv1d_0.symm.trans hx1d_0)
             injection hv1d_0 with hva_ hvn_ hvc_
             rw [hva_] at ge1d_0
             rw [hvc_] at ul1d_0
             clear hva_ hvn_ hvc_ ge1d_0 ul1d_0
             have hv1d_4 := hcc1d 4 _ rfl
             rw [add_field _ _ 4 (by omega)] at hv1d_4
             replace hv1d_4 := Option.some.inj (hv1d_4.symm.trans hx1d_4)
             injection hv1d_4 with hva_ hvn_ hvc_
             rw [hva_] at ge1d_4
             rw [hvc_] at ul1d_4
             clear hva_ hvn_ hvc_ ge1d_4 ul1d_4
             clear hcc1d hce1d
             clear hi1d_0 hl1d_0
             clear hi1d_4 hl1d_4
             replace p1d := eq_true p1d
             replace q1d := eq_true q1d
             have ea_ := Option.some.inj (hx92_0.symm.trans hx1d_0)
             injection ea_ with ea_ en_ ec_
             subst ea_
             subst ec_
             clear en_
             have ea_ := Option.some.inj (hx92_4.symm.trans hx1d_4)
             injection ea_ with ea_ en_ ec_
             subst ea_
             subst ec_
             clear en_
             have p2d : 0 <= (t93 : Int) := od_
             have q2d : t93 < (t91.length : Int) := od_
             obtain ⟨ad2d, A2d_0, c2d_0, A2d_4, c2d_4, e2d, hx2d_0, hx2d_1, hx2d_2, hx2d_3, hx2d_4, hl2d_0, hi2d_0, hl2d_4, hi2d_4⟩ := at_T57 (Kd.N_reads' HO_7.out).2.2 t93 p2d q2d
             obtain rfl : ad90 = ad2d := (by injection e2d)
             obtain ⟨ce2d, hce2d, hMe2d, hcc2d⟩ := Kd.N_get HO_7.out z57 t93 p2d (by first | exact q2d | exact od_ | (have e_ := (Kd.N_reads' HO_7.out).1; omega))
             obtain ⟨ua2d_0, uc2d_0, ua2d_4, uc2d_4, rfl, ul2d_0, ge2d_0, ul2d_4, ge2d_4⟩ := k57_openF hMe2d
             have hv2d_0 := hcc2d 0 _ rfl
             rw [Nat.add_zero] at hv2d_0
             replace hv2d_0 := Option.some.inj (hv2d_0.symm.trans hx2d_0)
             injection hv2d_0 with hva_ hvn_ hvc_
             rw [hva_] at ge2d_0
             rw [hvc_] at ul2d_0
             clear hva_ hvn_ hvc_ ge2d_0 ul2d_0
             have hv2d_4 := hcc2d 4 _ rfl
             rw [add_field _ _ 4 (by omega)] at hv2d_4
             replace hv2d_4 := Option.some.inj (hv2d_4.symm.trans hx2d_4)
             injection hv2d_4 with hva_ hvn_ hvc_
             rw [hva_] at ge2d_4
             rw [hvc_] at ul2d_4
             clear hva_ hvn_ hvc_ ge2d_4 ul2d_4
             clear hcc2d hce2d
             clear hi2d_0 hl2d_0
             clear hi2d_4 hl2d_4
             replace p2d := eq_true p2d
             replace q2d := eq_true q2d
             have ea_ := Option.some.inj (hx90_0.symm.trans hx2d_0)
             injection ea_ with ea_ en_ ec_
             subst ea_
             subst ec_
             clear en_
             have ea_ := Option.some.inj (hx90_4.symm.trans hx2d_4)
             injection ea_ with ea_ en_ ec_
             subst ea_
             subst ec_
             clear en_
             have p97 : 0 <= (t93 : Int) := od_
             have q97 : t93 < (t91.length : Int) := od_
             obtain ⟨ad97, A97_0, c97_0, A97_4, c97_4, e97, hx97_0, hx97_1, hx97_2, hx97_3, hx97_4, hl97_0, hi97_0, hl97_4, hi97_4⟩ := at_T57 (Kd.N_reads' HO_7.out).2.2 t93 p97 q97
             obtain rfl : ad90 = ad97 := (by injection e97)
             obtain ⟨ce97, hce97, hMe97, hcc97⟩ := Kd.N_get HO_7.out z57 t93 p97 (by first | exact q97 | exact od_ | (have e_ := (Kd.N_reads' HO_7.out).1; omega))
             obtain ⟨ua97_0, uc97_0, ua97_4, uc97_4, rfl, ul97_0, ge97_0, ul97_4, ge97_4⟩ := k57_openF hMe97
             have hv97_0 := hcc97 0 _ rfl
             rw [Nat.add_zero] at hv97_0
             replace hv97_0 := Option.some.inj (hv97_0.symm.trans hx97_0)
             injection hv97_0 with hva_ hvn_ hvc_
             rw [hva_] at ge97_0
             rw [hvc_] at ul97_0
             clear hva_ hvn_ hvc_ ge97_0 ul97_0
             have hv97_4 := hcc97 4 _ rfl
             rw [add_field _ _ 4 (by omega)] at hv97_4
             replace hv97_4 := Option.some.inj (hv97_4.symm.trans hx97_4)
             injection hv97_4 with hva_ hvn_ hvc_
             rw [hva_] at ge97_4
             rw [hvc_] at ul97_4
             clear hva_ hvn_ hvc_ ge97_4 ul97_4
             clear hcc97 hce97
             clear hi97_0 hl97_0
             have HR97_4 := A_ hi97_4
             have HC97_4 := A_ hl97_4
             clear hi97_4 hl97_4
             replace p97 := eq_true p97
             replace q97 := eq_true q97
             have ea_ := Option.some.inj (hx90_0.symm.trans hx97_0)
             injection ea_ with ea_ en_ ec_
             subst ea_
             subst ec_
             clear en_
             have ea_ := Option.some.inj (hx90_4.symm.trans hx97_4)
             injection ea_ with ea_ en_ ec_
             subst ea_
             subst ec_
             clear en_
             have p98 : 0 <= (x12_2 : Int) := od_
             have q98 : x12_2 < (t95.length : Int) := od_
             obtain ⟨ad98, A98_0, c98_0, A98_4, c98_4, e98, hx98_0, hx98_1, hx98_2, hx98_3, hx98_4, hl98_0, hi98_0, hl98_4, hi98_4⟩ := at_T57 (Kd.N_reads' HO_11.out).2.2 x12_2 p98 q98
             obtain rfl : ad89 = ad98 := (by injection e98)
             obtain ⟨ce98, hce98, hMe98, hcc98⟩ := Kd.N_get HO_11.out z57 x12_2 p98 (by first | exact q98 | exact od_ | (have e_ := (Kd.N_reads' HO_11.out).1; omega))
             obtain ⟨ua98_0, uc98_0, ua98_4, uc98_4, rfl, ul98_0, ge98_0, ul98_4, ge98_4⟩ := k57_openF hMe98
             have hv98_0 := hcc98 0 _ rfl
             rw [Nat.add_zero] at hv98_0
             replace hv98_0 := Option.some.inj (hv98_0.symm.trans hx98_0)
             injection hv98_0 with hva_ hvn_ hvc_
             rw [hva_] at ge98_0
             rw [hvc_] at ul98_0
             clear hva_ hvn_ hvc_ ge98_0 ul98_0
             have hv98_4 := hcc98 4 _ rfl
             rw [add_field _ _ 4 (by omega)] at hv98_4
             replace hv98_4 := Option.some.inj (hv98_4.symm.trans hx98_4)
             injection hv98_4 with hva_ hvn_ hvc_
             rw [hva_] at ge98_4
             rw [hvc_] at ul98_4
             clear hva_ hvn_ hvc_ ge98_4 ul98_4
             clear hcc98 hce98
             clear hi98_0 hl98_0
             have HR98_4 := A_ hi98_4
             have HC98_4 := A_ hl98_4
             clear hi98_4 hl98_4
             replace p98 := eq_true p98
             replace q98 := eq_true q98
             have ea_ := Option.some.inj (hx92_0.symm.trans hx98_0)
             injection ea_ with ea_ en_ ec_
             subst ea_
             subst ec_
             clear en_
             have ea_ := Option.some.inj (hx92_4.symm.trans hx98_4)
             injection ea_ with ea_ en_ ec_
             subst ea_
             subst ec_
             clear en_
             have p94 : 0 <= (t5d : Int) := od_
             have q94 : t5d < (t91.length : Int) := od_
             obtain ⟨ad94, A94_0, c94_0, A94_4, c94_4, e94, hx94_0, hx94_1, hx94_2, hx94_3, hx94_4, hl94_0, hi94_0, hl94_4, hi94_4⟩ := at_T57 (Kd.N_reads' HO_7.out).2.2 t5d p94 q94
             obtain rfl : ad90 = ad94 := (by injection e94)
             obtain ⟨ce94, hce94, hMe94, hcc94⟩ := Kd.N_get HO_7.out z57 t5d p94 (by first | exact q94 | exact od_ | (have e_ := (Kd.N_reads' HO_7.out).1; omega))
             obtain ⟨ua94_0, uc94_0, ua94_4, uc94_4, rfl, ul94_0, ge94_0, ul94_4, ge94_4⟩ := k57_openF hMe94
             have hv94_0 := hcc94 0 _ rfl
             rw [Nat.add_zero] at hv94_0
             replace hv94_0 := Option.some.inj (hv94_0.symm.trans hx94_0)
             injection hv94_0 with hva_ hvn_ hvc_
             rw [hva_] at ge94_0
             rw [hvc_] at ul94_0
             clear hva_ hvn_ hvc_ ge94_0 ul94_0
             have hv94_4 := hcc94 4 _ rfl
             rw [add_field _ _ 4 (by omega)] at hv94_4
             replace hv94_4 := Option.some.inj (hv94_4.symm.trans hx94_4)
             injection hv94_4 with hva_ hvn_ hvc_
             rw [hva_] at ge94_4
             rw [hvc_] at ul94_4
             clear hva_ hvn_ hvc_ ge94_4 ul94_4
             clear hcc94 hce94
             have HR94_0 := A_ hi94_0
             have HC94_0 := A_ hl94_0
             clear hi94_0 hl94_0
             have HR94_4 := A_ hi94_4
             have HC94_4 := A_ hl94_4
             clear hi94_4 hl94_4
             replace p94 := eq_true p94
             replace q94 := eq_true q94
             have p96 : 0 <= (x12_2 : Int) := od_
             have q96 : x12_2 < (t95.length : Int) := od_
             obtain ⟨ad96, A96_0, c96_0, A96_4, c96_4, e96, hx96_0, hx96_1, hx96_2, hx96_3, hx96_4, hl96_0, hi96_0, hl96_4, hi96_4⟩ := at_T57 (Kd.N_reads' HO_11.out).2.2 x12_2 p96 q96
             obtain rfl : ad89 = ad96 := (by injection e96)
             obtain ⟨ce96, hce96, hMe96, hcc96⟩ := Kd.N_get HO_11.out z57 x12_2 p96 (by first | exact q96 | exact od_ | (have e_ := (Kd.N_reads' HO_11.out).1; omega))
             obtain ⟨ua96_0, uc96_0, ua96_4, uc96_4, rfl, ul96_0, ge96_0, ul96_4, ge96_4⟩ := k57_openF hMe96
             have hv96_0 := hcc96 0 _ rfl
             rw [Nat.add_zero] at hv96_0
             replace hv96_0 := Option.some.inj (hv96_0.symm.trans hx96_0)
             injection hv96_0 with hva_ hvn_ hvc_
             rw [hva_] at ge96_0
             rw [hvc_] at ul96_0
             clear hva_ hvn_ hvc_ ge96_0 ul96_0
             have hv96_4 := hcc96 4 _ rfl
             rw [add_field _ _ 4 (by omega)] at hv96_4
             replace hv96_4 := Option.some.inj (hv96_4.symm.trans hx96_4)
             injection hv96_4 with hva_ hvn_ hvc_
             rw [hva_] at ge96_4
             rw [hvc_] at ul96_4
             clear hva_ hvn_ hvc_ ge96_4 ul96_4
             clear hcc96 hce96
             have HR96_0 := A_ hi96_0
             have HC96_0 := A_ hl96_0
             clear hi96_0 hl96_0
             have HR96_4 := A_ hi96_4
             have HC96_4 := A_ hl96_4
             clear hi96_4 hl96_4
             replace p96 := eq_true p96
             replace q96 := eq_true q96
             have ea_ := Option.some.inj (hx92_0.symm.trans hx96_0)
             injection ea_ with ea_ en_ ec_
             subst ea_
             subst ec_
             clear en_
             have ea_ := Option.some.inj (hx92_4.symm.trans hx96_4)
             injection ea_ with ea_ en_ ec_
             subst ea_
             subst ec_
             clear en_
             refine start_ (n := 66) (S := fun w' => w'.cell? (ad90.add ((t93).toNat * 5)) = some (.slice A90_0 ((rd_T57 t91 t93).f0).length c90_0) /\ w'.cell? ⟨(ad90.add ((t93).toNat * 5)).block, (ad90.add ((t93).toNat * 5)).off + 1, none⟩ = some (.bool ((rd_T57 t91 t93).f1)) /\ w'.cell? ⟨(ad90.add ((t93).toNat * 5)).block, (ad90.add ((t93).toNat * 5)).off + 2, none⟩ = some (.string ((rd_T57 t91 t93).f2)) /\ w'.cell? ⟨(ad90.add ((t93).toNat * 5)).block, (ad90.add ((t93).toNat * 5)).off + 3, none⟩ = some (.int .i64 ((rd_T57 t91 t93).f3)) /\ w'.cell? ⟨(ad90.add ((t93).toNat * 5)).block, (ad90.add ((t93).toNat * 5)).off + 4, none⟩ = some (.slice A90_4 ((rd_T57 t91 t93).f4).length c90_4) /\ w'.cell? (ad89.add ((x12_2).toNat * 5)) = some (.slice A92_0 ((rd_T57 t95 x12_2).f0).length c92_0) /\ w'.cell? ⟨(ad89.add ((x12_2).toNat * 5)).block, (ad89.add ((x12_2).toNat * 5)).off + 1, none⟩ = some (.bool ((rd_T57 t95 x12_2).f1)) /\ w'.cell? ⟨(ad89.add ((x12_2).toNat * 5)).block, (ad89.add ((x12_2).toNat * 5)).off + 2, none⟩ = some (.string ((rd_T57 t95 x12_2).f2)) /\ w'.cell? ⟨(ad89.add ((x12_2).toNat * 5)).block, (ad89.add ((x12_2).toNat * 5)).off + 3, none⟩ = some (.int .i64 ((rd_T57 t95 x12_2).f3)) /\ w'.cell? ⟨(ad89.add ((x12_2).toNat * 5)).block, (ad89.add ((x12_2).toNat * 5)).off + 4, none⟩ = some (.slice A92_4 ((rd_T57 t95 x12_2).f4).length c92_4) /\ w'.cell? (ad90.add ((t93).toNat * 5)) = some (.slice A90_0 ((rd_T57 t91 t93).f0).length c90_0) /\ w'.cell? ⟨(ad90.add ((t93).toNat * 5)).block, (ad90.add ((t93).toNat * 5)).off + 1, none⟩ = some (.bool ((rd_T57 t91 t93).f1)) /\ w'.cell? ⟨(ad90.add ((t93).toNat * 5)).block, (ad90.add ((t93).toNat * 5)).off + 2, none⟩ = some (.string ((rd_T57 t91 t93).f2)) /\ w'.cell? ⟨(ad90.add ((t93).toNat * 5)).block, (ad90.add ((t93).toNat * 5)).off + 3, none⟩ = some (.int .i64 ((rd_T57 t91 t93).f3)) /\ w'.cell? ⟨(ad90.add ((t93).toNat * 5)).block, (ad90.add ((t93).toNat * 5)).off + 4, none⟩ = some (.slice A90_4 ((rd_T57 t91 t93).f4).length c90_4) /\ w'.cell? (ad89.add ((x12_2).toNat * 5)) = some (.slice A92_0 ((rd_T57 t95 x12_2).f0).length c92_0) /\ w'.cell? ⟨(ad89.add ((x12_2).toNat * 5)).block, (ad89.add ((x12_2).toNat * 5)).off + 1, none⟩ = some (.bool ((rd_T57 t95 x12_2).f1)) /\ w'.cell? ⟨(ad89.add ((x12_2).toNat * 5)).block, (ad89.add ((x12_2).toNat * 5)).off + 2, none⟩ = some (.string ((rd_T57 t95 x12_2).f2)) /\ w'.cell? ⟨(ad89.add ((x12_2).toNat * 5)).block, (ad89.add ((x12_2).toNat * 5)).off + 3, none⟩ = some (.int .i64 ((rd_T57 t95 x12_2).f3)) /\ w'.cell? ⟨(ad89.add ((x12_2).toNat * 5)).block, (ad89.add ((x12_2).toNat * 5)).off + 4, none⟩ = some (.slice A92_4 ((rd_T57 t95 x12_2).f4).length c92_4) /\ w'.cell? (ad90.add ((t93).toNat * 5)) = some (.slice A90_0 ((rd_T57 t91 t93).f0).length c90_0) /\ w'.cell? ⟨(ad90.add ((t93).toNat * 5)).block, (ad90.add ((t93).toNat * 5)).off + 1, none⟩ = some (.bool ((rd_T57 t91 t93).f1)) /\ w'.cell? ⟨(ad90.add ((t93).toNat * 5)).block, (ad90.add ((t93).toNat * 5)).off + 2, none⟩ = some (.string ((rd_T57 t91 t93).f2)) /\ w'.cell? ⟨(ad90.add ((t93).toNat * 5)).block, (ad90.add ((t93).toNat * 5)).off + 3, none⟩ = some (.int .i64 ((rd_T57 t91 t93).f3)) /\ w'.cell? ⟨(ad90.add ((t93).toNat * 5)).block, (ad90.add ((t93).toNat * 5)).off + 4, none⟩ = some (.slice A90_4 ((rd_T57 t91 t93).f4).length c90_4) /\ w'.cell? (ad90.add ((t93).toNat * 5)) = some (.slice A90_0 ((rd_T57 t91 t93).f0).length c90_0) /\ w'.cell? ⟨(ad90.add ((t93).toNat * 5)).block, (ad90.add ((t93).toNat * 5)).off + 1, none⟩ = some (.bool ((rd_T57 t91 t93).f1)) /\ w'.cell? ⟨(ad90.add ((t93).toNat * 5)).block, (ad90.add ((t93).toNat * 5)).off + 2, none⟩ = some (.string ((rd_T57 t91 t93).f2)) /\ w'.cell? ⟨(ad90.add ((t93).toNat * 5)).block, (ad90.add ((t93).toNat * 5)).off + 3, none⟩ = some (.int .i64 ((rd_T57 t91 t93).f3)) /\ w'.cell? ⟨(ad90.add ((t93).toNat * 5)).block, (ad90.add ((t93).toNat * 5)).off + 4, none⟩ = some (.slice A90_4 ((rd_T57 t91 t93).f4).length c90_4) /\ w'.cell? (ad89.add ((x12_2).toNat * 5)) = some (.slice A92_0 ((rd_T57 t95 x12_2).f0).length c92_0) /\ w'.cell? ⟨(ad89.add ((x12_2).toNat * 5)).block, (ad89.add ((x12_2).toNat * 5)).off + 1, none⟩ = some (.bool ((rd_T57 t95 x12_2).f1)) /\ w'.cell? ⟨(ad89.add ((x12_2).toNat * 5)).block, (ad89.add ((x12_2).toNat * 5)).off + 2, none⟩ = some (.string ((rd_T57 t95 x12_2).f2)) /\ w'.cell? ⟨(ad89.add ((x12_2).toNat * 5)).block, (ad89.add ((x12_2).toNat * 5)).off + 3, none⟩ = some (.int .i64 ((rd_T57 t95 x12_2).f3)) /\ w'.cell? ⟨(ad89.add ((x12_2).toNat * 5)).block, (ad89.add ((x12_2).toNat * 5)).off + 4, none⟩ = some (.slice A92_4 ((rd_T57 t95 x12_2).f4).length c92_4) /\ w'.cell? (ad90.add ((t5d).toNat * 5)) = some (.slice A94_0 ((rd_T57 t91 t5d).f0).length c94_0) /\ w'.cell? ⟨(ad90.add ((t5d).toNat * 5)).block, (ad90.add ((t5d).toNat * 5)).off + 1, none⟩ = some (.bool ((rd_T57 t91 t5d).f1)) /\ w'.cell? ⟨(ad90.add ((t5d).toNat * 5)).block, (ad90.add ((t5d).toNat * 5)).off + 2, none⟩ = some (.string ((rd_T57 t91 t5d).f2)) /\ w'.cell? ⟨(ad90.add ((t5d).toNat * 5)).block, (ad90.add ((t5d).toNat * 5)).off + 3, none⟩ = some (.int .i64 ((rd_T57 t91 t5d).f3)) /\ w'.cell? ⟨(ad90.add ((t5d).toNat * 5)).block, (ad90.add ((t5d).toNat * 5)).off + 4, none⟩ = some (.slice A94_4 ((rd_T57 t91 t5d).f4).length c94_4) /\ w'.cell? (ad89.add ((x12_2).toNat * 5)) = some (.slice A92_0 ((rd_T57 t95 x12_2).f0).length c92_0) /\ w'.cell? ⟨(ad89.add ((x12_2).toNat * 5)).block, (ad89.add ((x12_2).toNat * 5)).off + 1, none⟩ = some (.bool ((rd_T57 t95 x12_2).f1)) /\ w'.cell? ⟨(ad89.add ((x12_2).toNat * 5)).block, (ad89.add ((x12_2).toNat * 5)).off + 2, none⟩ = some (.string ((rd_T57 t95 x12_2).f2)) /\ w'.cell? ⟨(ad89.add ((x12_2).toNat * 5)).block, (ad89.add ((x12_2).toNat * 5)).off + 3, none⟩ = some (.int .i64 ((rd_T57 t95 x12_2).f3)) /\ w'.cell? ⟨(ad89.add ((x12_2).toNat * 5)).block, (ad89.add ((x12_2).toNat * 5)).off + 4, none⟩ = some (.slice A92_4 ((rd_T57 t95 x12_2).f4).length c92_4)) (ds := [63]) #[false, false, false, false, false, false, false, false, false, false, false, false, false, false, false, false, false, false, false, false, false, false, false, false, false, false, false, false, false, false, false, false, false, false, false, false, false, false, false, false, false, false, false, false, false, false, false, false, false, false, false, false, false, false, false, false, false, false, false, false, false, false, false, false, false, false] (by kernel_rfl) rfl rfl ⟨hx90_0, hx90_1, hx90_2, hx90_3, hx90_4, hx92_0, hx92_1, hx92_2, hx92_3, hx92_4, hx99_0, hx99_1, hx99_2, hx99_3, hx99_4, hx1d_0, hx1d_1, hx1d_2, hx1d_3, hx1d_4, hx2d_0, hx2d_1, hx2d_2, hx2d_3, hx2d_4, hx97_0, hx97_1, hx97_2, hx97_3, hx97_4, hx98_0, hx98_1, hx98_2, hx98_3, hx98_4, hx94_0, hx94_1, hx94_2, hx94_3, hx94_4, hx96_0, hx96_1, hx96_2, hx96_3, hx96_4⟩ (fun hHeld => ?_); refine with_tabW laws_FnCopied.tab16 laws_FnCopied.bits16 (fun HT_ HW_ => ?_)
             generalize w63.drew = w64 at HO_3 HO_4 HO_5 HO_7 HO_9 HO_11 HB HR97_4 HR98_4 HR94_0 HR94_4 HR96_0 HR96_4 hx90_0 hx90_1 hx90_2 hx90_3 hx90_4 hx92_0 hx92_1 hx92_2 hx92_3 hx92_4 hx99_0 hx99_1 hx99_2 hx99_3 hx99_4 hx1d_0 hx1d_1 hx1d_2 hx1d_3 hx1d_4 hx2d_0 hx2d_1 hx2d_2 hx2d_3 hx2d_4 hx97_0 hx97_1 hx97_2 hx97_3 hx97_4 hx98_0 hx98_1 hx98_2 hx98_3 hx98_4 hx94_0 hx94_1 hx94_2 hx94_3 hx94_4 hx96_0 hx96_1 hx96_2 hx96_3 hx96_4 hHeld ⊢
             refine pu_ (i := 0) (N := some 100) ?_
             refine pu_ (i := 1) (N := some 101) ?_
             refine pu_ (i := 2) (N := some 102) ?_
             refine pu_ (i := 3) (N := some 103) ?_
             refine pu_ (i := 4) (N := some 104) ?_
             refine pu_ (i := 5) (N := some 105) ?_
             refine pu_ (i := 6) (N := some 106) ?_
             refine pu_ (i := 7) (N := some 107) ?_
             refine pu_ (i := 8) (N := some 108) ?_
             refine pu_ (i := 9) (N := some 109) ?_
             refine pu_ (i := 10) (N := some 110) ?_
             refine pu_ (i := 12) (N := some 112) ?_
             refine pu_ (i := 13) (N := some 113) ?_
             refine pu_ (i := 14) (N := some 114) ?_
             refine pu_ (i := 15) (N := some 115) ?_
             refine tk_ (i := 11) (N := some 111) hHeld ?_
             refine tk_ (i := 16) (N := some 116) hHeld ?_
             refine pu_ (i := 17) (N := some 117) ?_
             refine pu_ (i := 18) (N := some 118) ?_
             refine pu_ (i := 19) (N := some 119) ?_
             refine pu_ (i := 20) (N := some 120) ?_
             refine pu_ (i := 21) (N := some 121) ?_
             refine pu_ (i := 22) (N := some 122) ?_
             refine pu_ (i := 23) (N := some 123) ?_
             refine pu_ (i := 25) (N := some 125) ?_
             refine pu_ (i := 26) (N := some 126) ?_
             refine pu_ (i := 27) (N := some 127) ?_
             refine pu_ (i := 28) (N := some 128) ?_
             refine tk_ (i := 24) (N := some 124) hHeld ?_
             refine tk_ (i := 29) (N := some 129) hHeld ?_
             refine pu_ (i := 30) (N := some 130) ?_
             refine pu_ (i := 31) (N := some 131) ?_
             refine pu_ (i := 32) (N := some 132) ?_
             refine pu_ (i := 33) (N := some 133) ?_
             refine pu_ (i := 34) (N := some 134) ?_
             refine pu_ (i := 35) (N := some 135) ?_
             refine pu_ (i := 36) (N := some 136) ?_
             refine tk_ (i := 37) (N := some 137) hHeld ?_
             refine pu_ (i := 38) (N := some 138) ?_
             refine pu_ (i := 39) (N := some 139) ?_
             refine pu_ (i := 40) (N := some 140) ?_
             refine pu_ (i := 41) (N := some 141) ?_
             refine pu_ (i := 42) (N := some 142) ?_
             refine pu_ (i := 43) (N := some 143) ?_
             refine pu_ (i := 44) (N := some 144) ?_
             refine pu_ (i := 46) (N := some 146) ?_
             refine pu_ (i := 47) (N := some 147) ?_
             refine pu_ (i := 48) (N := some 148) ?_
             refine pu_ (i := 49) (N := some 149) ?_
             refine tk_ (i := 45) (N := some 145) hHeld ?_
             refine tk_ (i := 50) (N := some 150) hHeld ?_
             refine on_ (i := 51) (N := some 151) (fun K hK => ?_)
             refine goes_ Try.func51 (by kernel_rfl) rfl #[.slice A90_4 ((rd_T57 t91 t93).f4).length c90_4, .slice A92_4 ((rd_T57 t95 x12_2).f4).length c92_4] (by rfl) rfl rfl ml_ ?_
             with_reducible refine (laws_sameProps.calls k2 _ _ ((rd_T57 t91 t93).f4) _ _ ((rd_T57 t95 x12_2).f4) true _ ?s1 ?s2 ?s3 ?s4 A49.out).mono ?_
             (case s1 => repeat (first | exact (cC_ HR97_4.out) | (with_reducible refine Kd.C_alloc ?_ _) | (with_reducible refine Kd.C_drewN ?_ _) | (with_reducible refine Kd.C_drew ?_)))
             (case s2 => exact HC97_4.out)
             (case s3 => repeat (first | exact (cC_ HR98_4.out) | (with_reducible refine Kd.C_alloc ?_ _) | (with_reducible refine Kd.C_drewN ?_ _) | (with_reducible refine Kd.C_drew ?_)))
             (case s4 => exact HC98_4.out)
             rintro e w' ⟨rfl, ⟨nd, rfl⟩⟩
             refine ⟨_, rfl, ?_⟩
             refine hK.out _ _ ⟨hHeld.1, hHeld.2.1, hHeld.2.2.1, hHeld.2.2.2.1, hHeld.2.2.2.2.1, hHeld.2.2.2.2.2.1, hHeld.2.2.2.2.2.2.1, hHeld.2.2.2.2.2.2.2.1, hHeld.2.2.2.2.2.2.2.2.1, hHeld.2.2.2.2.2.2.2.2.2.1, hHeld.2.2.2.2.2.2.2.2.2.2.1, hHeld.2.2.2.2.2.2.2.2.2.2.2.1, hHeld.2.2.2.2.2.2.2.2.2.2.2.2.1, hHeld.2.2.2.2.2.2.2.2.2.2.2.2.2.1, hHeld.2.2.2.2.2.2.2.2.2.2.2.2.2.2.1, hHeld.2.2.2.2.2.2.2.2.2.2.2.2.2.2.2.1, hHeld.2.2.2.2.2.2.2.2.2.2.2.2.2.2.2.2.1, hHeld.2.2.2.2.2.2.2.2.2.2.2.2.2.2.2.2.2.1, hHeld.2.2.2.2.2.2.2.2.2.2.2.2.2.2.2.2.2.2.1, hHeld.2.2.2.2.2.2.2.2.2.2.2.2.2.2.2.2.2.2.2.1, hHeld.2.2.2.2.2.2.2.2.2.2.2.2.2.2.2.2.2.2.2.2.1, hHeld.2.2.2.2.2.2.2.2.2.2.2.2.2.2.2.2.2.2.2.2.2.1, hHeld.2.2.2.2.2.2.2.2.2.2.2.2.2.2.2.2.2.2.2.2.2.2.1, hHeld.2.2.2.2.2.2.2.2.2.2.2.2.2.2.2.2.2.2.2.2.2.2.2.1, hHeld.2.2.2.2.2.2.2.2.2.2.2.2.2.2.2.2.2.2.2.2.2.2.2.2.1, hHeld.2.2.2.2.2.2.2.2.2.2.2.2.2.2.2.2.2.2.2.2.2.2.2.2.2.1, hHeld.2.2.2.2.2.2.2.2.2.2.2.2.2.2.2.2.2.2.2.2.2.2.2.2.2.2.1, hHeld.2.2.2.2.2.2.2.2.2.2.2.2.2.2.2.2.2.2.2.2.2.2.2.2.2.2.2.1, hHeld.2.2.2.2.2.2.2.2.2.2.2.2.2.2.2.2.2.2.2.2.2.2.2.2.2.2.2.2.1, hHeld.2.2.2.2.2.2.2.2.2.2.2.2.2.2.2.2.2.2.2.2.2.2.2.2.2.2.2.2.2.1, hHeld.2.2.2.2.2.2.2.2.2.2.2.2.2.2.2.2.2.2.2.2.2.2.2.2.2.2.2.2.2.2.1, hHeld.2.2.2.2.2.2.2.2.2.2.2.2.2.2.2.2.2.2.2.2.2.2.2.2.2.2.2.2.2.2.2.1, hHeld.2.2.2.2.2.2.2.2.2.2.2.2.2.2.2.2.2.2.2.2.2.2.2.2.2.2.2.2.2.2.2.2.1, hHeld.2.2.2.2.2.2.2.2.2.2.2.2.2.2.2.2.2.2.2.2.2.2.2.2.2.2.2.2.2.2.2.2.2.1, hHeld.2.2.2.2.2.2.2.2.2.2.2.2.2.2.2.2.2.2.2.2.2.2.2.2.2.2.2.2.2.2.2.2.2.2.1, hHeld.2.2.2.2.2.2.2.2.2.2.2.2.2.2.2.2.2.2.2.2.2.2.2.2.2.2.2.2.2.2.2.2.2.2.2.1, hHeld.2.2.2.2.2.2.2.2.2.2.2.2.2.2.2.2.2.2.2.2.2.2.2.2.2.2.2.2.2.2.2.2.2.2.2.2.1, hHeld.2.2.2.2.2.2.2.2.2.2.2.2.2.2.2.2.2.2.2.2.2.2.2.2.2.2.2.2.2.2.2.2.2.2.2.2.2.1, hHeld.2.2.2.2.2.2.2.2.2.2.2.2.2.2.2.2.2.2.2.2.2.2.2.2.2.2.2.2.2.2.2.2.2.2.2.2.2.2.1, hHeld.2.2.2.2.2.2.2.2.2.2.2.2.2.2.2.2.2.2.2.2.2.2.2.2.2.2.2.2.2.2.2.2.2.2.2.2.2.2.2.1, hHeld.2.2.2.2.2.2.2.2.2.2.2.2.2.2.2.2.2.2.2.2.2.2.2.2.2.2.2.2.2.2.2.2.2.2.2.2.2.2.2.2.1, hHeld.2.2.2.2.2.2.2.2.2.2.2.2.2.2.2.2.2.2.2.2.2.2.2.2.2.2.2.2.2.2.2.2.2.2.2.2.2.2.2.2.2.1, hHeld.2.2.2.2.2.2.2.2.2.2.2.2.2.2.2.2.2.2.2.2.2.2.2.2.2.2.2.2.2.2.2.2.2.2.2.2.2.2.2.2.2.2.1, hHeld.2.2.2.2.2.2.2.2.2.2.2.2.2.2.2.2.2.2.2.2.2.2.2.2.2.2.2.2.2.2.2.2.2.2.2.2.2.2.2.2.2.2.2.1, hHeld.2.2.2.2.2.2.2.2.2.2.2.2.2.2.2.2.2.2.2.2.2.2.2.2.2.2.2.2.2.2.2.2.2.2.2.2.2.2.2.2.2.2.2.2⟩ (fun hHeld => ?_)
             clear hK K
             refine no_ (some 151) ?_
             refine pu_ (i := 52) (N := some 152) ?_
             refine pu_ (i := 53) (N := some 153) ?_
             refine pu_ (i := 54) (N := some 154) ?_
             refine pu_ (i := 55) (N := some 155) ?_
             refine pu_ (i := 56) (N := some 156) ?_
             refine pu_ (i := 57) (N := some 157) ?_
             refine pu_ (i := 59) (N := some 159) ?_
             refine pu_ (i := 60) (N := some 160) ?_
             refine pu_ (i := 61) (N := some 161) ?_
             refine tk_ (i := 58) (N := some 158) hHeld ?_
             refine tk_ (i := 62) (N := some 162) hHeld ?_
             refine last_ (i := 63) (N := some 163) #[true, true, true, true, true, true, true, true, true, true, true, true, true, true, true, true, true, true, true, true, true, true, true, true, true, true, true, true, true, true, true, true, true, true, true, true, true, true, true, true, true, true, true, true, true, true, true, true, true, true, true, true, true, true, true, true, true, true, true, true, true, true, true, true, false, false] rfl rfl (one_of HT_.out (by kernel_rfl)) (by decide) (fun K hK => ?_)
             refine goes_ Try.func46 (by kernel_rfl) rfl #[.agg #[.slice A94_0 ((rd_T57 t91 t5d).f0).length c94_0, .bool ((rd_T57 t91 t5d).f1), .string ((rd_T57 t91 t5d).f2), .int .i64 ((rd_T57 t91 t5d).f3), .slice A94_4 ((rd_T57 t91 t5d).f4).length c94_4], .agg #[.slice A92_0 ((rd_T57 t95 x12_2).f0).length c92_0, .bool ((rd_T57 t95 x12_2).f1), .string ((rd_T57 t95 x12_2).f2), .int .i64 ((rd_T57 t95 x12_2).f3), .slice A92_4 ((rd_T57 t95 x12_2).f4).length c92_4]] (by rfl) rfl rfl ml_ ?_
             with_reducible refine (laws_sameRes.calls k2 _ _ ((rd_T57 t91 t5d).f0) ((rd_T57 t91 t5d).f1) ((rd_T57 t91 t5d).f2) ((rd_T57 t91 t5d).f3) _ _ ((rd_T57 t91 t5d).f4) _ _ ((rd_T57 t95 x12_2).f0) ((rd_T57 t95 x12_2).f1) ((rd_T57 t95 x12_2).f2) ((rd_T57 t95 x12_2).f3) _ _ ((rd_T57 t95 x12_2).f4) true _ ?s1 ?s2 ?s3 ?s4 ?s5 ?s6 ?s7 ?s8 A53.out).mono ?_
             (case s1 => repeat (first | exact (cC_ HR94_0.out) | (with_reducible refine Kd.C_alloc ?_ _) | (with_reducible refine Kd.C_drewN ?_ _) | (with_reducible refine Kd.C_drew ?_)))
             (case s2 => exact HC94_0.out)
             (case s3 => repeat (first | exact (cC_ HR94_4.out) | (with_reducible refine Kd.C_alloc ?_ _) | (with_reducible refine Kd.C_drewN ?_ _) | (with_reducible refine Kd.C_drew ?_)))
             (case s4 => exact HC94_4.out)
             (case s5 => repeat (first | exact (cC_ HR96_0.out) | (with_reducible refine Kd.C_alloc ?_ _) | (with_reducible refine Kd.C_drewN ?_ _) | (with_reducible refine Kd.C_drew ?_)))
             (case s6 => exact HC96_0.out)
             (case s7 => repeat (first | exact (cC_ HR96_4.out) | (with_reducible refine Kd.C_alloc ?_ _) | (with_reducible refine Kd.C_drewN ?_ _) | (with_reducible refine Kd.C_drew ?_)))
             (case s8 => exact HC96_4.out)
             rintro e w65 ⟨rfl, hb⟩
             refine ⟨_, rfl, ?_⟩
             have n0_ := A_ (Kd.N_below (vN_ HO_3.out) hb)
             have n1_ := A_ (Kd.R_below (vR_ HO_4.out) hb)
             have n2_ := A_ (Kd.R_below (vR_ HO_5.out) hb)
             have n3_ := A_ (Kd.N_below (vN_ HO_7.out) hb)
             have n4_ := A_ (Kd.N_below (vN_ HO_9.out) hb)
             have n5_ := A_ (Kd.N_below (vN_ HO_11.out) hb)
             have n50_ := A_ (below_step bB_ hb)
             clear HO_3
             clear HO_4
             clear HO_5
             clear HO_7
             clear HO_9
             clear HO_11
             clear HO6f
             clear HO9f
             clear HB
             have HO_3 := n0_
             have HO_4 := n1_
             have HO_5 := n2_
             have HO_7 := n3_
             have HO_9 := n4_
             have HO_11 := n5_
             have HB := n50_
             clear n0_ n1_ n2_ n3_ n4_ n5_ n50_
             clear hb
             refine hK.out _ _ ?_
             clear hK K
             refine no_ (some 163) ?_
             refine pu_ (i := 64) (N := some 164) ?_
             refine pu_ (i := 65) (N := some 165) ?_
             refine done_ (done_of HT_.out (by kernel_rfl)) ?_
             (try clear hHeld)
             try go_wp2
             go_roundg k2
             case measure => have := HJ7.out; have := HK2.out; omega
             case rel => exact ⟨(wrap64 (x12_2 + 1)), rs_, H', ⟨by have := HJ7.out; have := HK2.out; omega⟩, ⟨by (with_reducible repeat (first | apply Kd.N_alloc | apply Kd.N_drewN | apply Kd.N_drew)); exact Kd.N_mono HO_3.out (fun _ hk => ⟨hk.1.1, ⟨hk.1.2.1, ⟨hk.1.2.2.1, ⟨hk.1.2.2.2.1, hk.1.2.2.2.2⟩⟩⟩⟩)⟩, ⟨by (with_reducible repeat (first | apply Kd.R_alloc | apply Kd.R_drewN | apply Kd.R_drew)); exact Kd.R_mono HO_4.out (fun _ hk => hk.1)⟩, ⟨by (with_reducible repeat (first | apply Kd.R_alloc | apply Kd.R_drewN | apply Kd.R_drew)); exact Kd.R_mono HO_5.out (fun _ hk => hk.1)⟩, ⟨by (with_reducible repeat (first | apply Kd.N_alloc | apply Kd.N_drewN | apply Kd.N_drew)); exact Kd.N_mono HO_7.out (fun _ hk => ⟨hk.1.1, ⟨hk.1.2.1, hk.1.2.2⟩⟩)⟩, ⟨by (with_reducible repeat (first | apply Kd.N_alloc | apply Kd.N_drewN | apply Kd.N_drew)); exact Kd.N_mono HO_9.out (fun _ hk => ⟨hk.1.1, ⟨hk.1.2.1, hk.1.2.2⟩⟩)⟩, ⟨by (with_reducible repeat (first | apply Kd.N_alloc | apply Kd.N_drewN | apply Kd.N_drew)); exact Kd.N_mono HO_11.out (fun _ hk => ⟨hk.1.1, ⟨hk.1.2.1, ⟨hk.1.2.2.1, ⟨hk.1.2.2.2.1, hk.1.2.2.2.2⟩⟩⟩⟩)⟩, ⟨bB_⟩⟩
           . replace c54 := Bool.eq_false_iff.mpr c54
             subst c54
             rw [if_neg nf_] at H
             exact absurd H (by simp)
         . replace c50 := Bool.eq_false_iff.mpr c50
           subst c50
           rw [if_neg nf_] at H
           exact absurd H (by simp)
end Go.Proofs.Ytbgggcgjijljkaa.Q

/- What a reading of a parameter says of its cells, kind by kind: for the rows of laws whose parameters are slices and structs. No condition. -/
namespace Go.Proofs.Ytbgggcgjijljkaa.Op
open Go.RowKit Go.ChangeShapes Go.WideShapes Go.Proofs.YtbgggcgjijljkaaW.PrintWords
def Opens {α H : Type} (enc : TypeId × Value -> H) (P : Program) (w : World) (t : TypeId) (d : Kd α) (G : α -> Prop) : Prop :=
  ∀ fuel cs x, DataW.trod enc P w 0 (fun _ => true) true fuel t cs = some x -> ∃ a, d.K w a cs /\ G a
section
variable {H : Type} {enc : TypeId × Value -> H} {P : Program} {w : World} {t : TypeId}
theorem opens_int {k : IntKind} (ht : P.underlying t = some (.int k)) : Opens enc P w t (Kd.int k) (fun n => (Lit.int k n).wf = true) := by
  intro fuel cs x h
  obtain ⟨n, rfl, _, hn⟩ := DataW.trod_int ht h
  exact ⟨n, rfl, hn⟩
theorem opens_slice {α : Type} [Inhabited α] {e : TypeId} {d : Kd α} {G : α -> Prop} (ht : P.underlying t = some (.slice e)) (hc : P.cellsOf e = d.sz) (he : Opens enc P w e d G) :
    Opens enc P w t (Kd.slice e d) (fun l => l.length <= maxLen /\ ∀ a ∈ l, G a) := by
  intro fuel cs x h
  rcases Go.Deep.open_slice ht h with ⟨rfl, _⟩ | ⟨a, len, cap, m, n, D, Pl, rfl, _, hl, hm, hmm, _, hx⟩
  . exact ⟨[], ⟨none, 0, rfl, Nat.le_refl _, Kd.C_nil d w⟩, by simp, by simp⟩
  . have hm' : m = cap := by simpa using hmm
    have each : ∀ i, i < len -> ∃ y : α, G y /\ ∃ c, d.K w y c /\ ∀ j u, c[j]? = some u -> w.cell? (a.add (i * d.sz + j)) = some u := fun i hi => by
      obtain ⟨cs', h1, h2⟩ := hx i (by omega)
      obtain ⟨y, hK, hG⟩ := he _ _ _ h2
      obtain ⟨_, h3, h4⟩ := World.cells?_some h1
      refine ⟨y, hG, cs', hK, fun j u hu => ?_⟩
      have hj : j < P.cellsOf e := by
        have := (List.getElem?_eq_some_iff.1 hu).1
        omega
      have h5 := h4 j hj
      rw [Go.Deep.add_add, hc, hu] at h5
      exact h5
    obtain ⟨f, hf⟩ := Go.Deep.choose_lt each
    have hmax : maxLen = 9223372036854775807 := by decide
    refine ⟨(List.range len).map f, ⟨some a, cap, by simp, by simpa using hl, ?_⟩, by simp; omega, ?_⟩
    . refine ⟨rfl, by simp; omega, fun _ => ⟨a, rfl, fun j p hj => ?_⟩⟩
      have hjl : j < len := by
        have := (List.getElem?_eq_some_iff.1 hj).1
        simpa using this
      have hp : f j = p := by
        rw [List.getElem?_map, List.getElem?_range hjl] at hj
        simpa using hj
      obtain ⟨_, c, hK, hcell⟩ := hf j hjl
      exact ⟨c, d.K_len hK, hp ▸ hK, hcell⟩
    . intro y hy
      obtain ⟨j, hj, rfl⟩ := List.mem_map.1 hy
      exact (hf j (List.mem_range.1 hj)).1
end
end Go.Proofs.Ytbgggcgjijljkaa.Op

/- What a reading of a struct says of its cells. No condition. -/
namespace Go.Proofs.Ytbgggcgjijljkaa.Q
open Go.RowKit Go.ChangeShapes Go.WideShapes Go.Proofs.YtbgggcgjijljkaaW.PrintWords Go.Proofs.Ytbgggcgjijljkaa
set_option linter.unusedVariables false
set_option linter.unusedSimpArgs false
instance : Inhabited S88 := ⟨z88⟩
instance : Inhabited S79 := ⟨z79⟩
instance : Inhabited S90 := ⟨z90⟩
end Go.Proofs.Ytbgggcgjijljkaa.Q

/- A printed walk's contract told more sharply: the result's elements' rows lie apart. No condition. -/
namespace Go.Proofs.Ytbgggcgjijljkaa.Q
open Go.RowKit Go.Proofs.YtbgggcgjijljkaaW.PrintWords Go.Proofs.YtbgggcgjijljkaaW.PrintLast Go.Proofs.YtbgggcgjijljkaaW.PrintMore
attribute [local go_sem] max2_int min2_int max_two min_two max_three min_three max_four min_four
set_option linter.unusedVariables false
set_option linter.unusedSimpArgs false
abbrev impl_RemoveX.f (k : Nat) (l0 : List (S57)) (l1 : List ByteArray) : Option ((List (S57)) × Int) := impl_Remove.f k l0 l1
end Go.Proofs.Ytbgggcgjijljkaa.Q

/- Small lemmas for plain laws over rounds: indices as lengths of what was passed, bytes' equality. No condition. -/
set_option linter.unusedSimpArgs false
set_option linter.unusedVariables false
namespace Go.Proofs.Ytbgggcgjijljkaa.L
open Go.RowKit Go.Proofs.YtbgggcgjijljkaaW.PrintWords Go.Proofs.YtbgggcgjijljkaaW.PrintLast
theorem ba_toList (s : ByteArray) : s.toList = s.data.toList := ByteArray.toList_eq s
theorem ba_inj {a b : ByteArray} (h : a.toList = b.toList) : a = b := by
  rw [ba_toList, ba_toList] at h
  cases a with | mk x => cases b with | mk y => congr 1; exact Array.toList_inj.1 h
theorem ba_eq {a b : ByteArray} : (a.toList = b.toList) = (a = b) := propext ⟨ba_inj, fun h => by rw [h]⟩
theorem maxLen_eq : maxLen = 9223372036854775807 := by decide
theorem wrap_id {x : Int} (h0 : -9223372036854775808 <= x) (h1 : x < 9223372036854775808) : wrap64 x = x := by
  unfold wrap64
  omega
section
variable {α : Type} {l pre suf : List α} {a : α}
theorem lt_at (h : l = pre ++ a :: suf) : ((pre.length : Nat) : Int) < (l.length : Int) := by subst h; simp; omega
theorem rd_at (d : α) (h : l = pre ++ a :: suf) : rdOf d l (pre.length : Int) = a := by subst h; simp [rdOf, List.getD_eq_getElem?_getD]
theorem getD_at (d : α) (h : l = pre ++ a :: suf) : l.getD ((pre.length : Nat) : Int).toNat d = a := by subst h; simp [List.getD_eq_getElem?_getD]
theorem next_at (h : l = pre ++ a :: suf) (hl : l.length <= maxLen) : wrap64 ((pre.length : Int) + 1) = ((pre ++ [a]).length : Int) := by
  have : l.length = pre.length + 1 + suf.length := by subst h; simp; omega
  rw [maxLen_eq] at hl
  rw [wrap_id (by omega) (by omega)]
  simp
theorem snoc_at (h : l = pre ++ a :: suf) : l = (pre ++ [a]) ++ suf := by subst h; simp
theorem end_at (h : l = pre ++ []) : ¬ ((pre.length : Nat) : Int) < (l.length : Int) := by subst h; simp
theorem set_at {b : α} (h : l = pre ++ a :: suf) : l.set ((pre.length : Nat) : Int).toNat b = (pre ++ [b]) ++ suf := by subst h; simp
theorem nonneg_at (n : Nat) : (0 : Int) <= (n : Int) := Int.natCast_nonneg n
end
def IntOk (x : Int) : Prop := -9223372036854775808 <= x /\ x < 9223372036854775808
def SmS (l : List ByteArray) : Prop := l.length <= 1048576 /\ ∀ s ∈ l, s.size <= 1048576
theorem eq_loop {α : Type} [DecidableEq α] {a b : List α} (g : Nat -> Int -> Option Bool)
    (hend : Ev (fun k => g k a.length) true)
    (hstep : ∀ pre x su pre' y sv, a = pre ++ x :: su -> b = pre' ++ y :: sv -> pre.length = pre'.length -> (x ≠ y -> Ev (fun k => g k (pre.length : Int)) false) /\ (x = y -> ∀ r, Ev (fun k => g k ((pre ++ [x]).length : Int)) r -> Ev (fun k => g k (pre.length : Int)) r)) :
    ∀ (su sv pu pv : List α), a = pu ++ su -> b = pv ++ sv -> pu.length = pv.length -> su.length = sv.length -> Ev (fun k => g k (pu.length : Int)) (decide (su = sv)) := by
  intro su
  induction su with
  | nil =>
    intro sv pu pv h h' hp hs
    obtain rfl : sv = [] := by simpa using hs.symm
    rw [h, List.append_nil] at hend
    exact hend
  | cons x su ih =>
    intro sv pu pv h h' hp hs
    cases sv with
    | nil => simp at hs
    | cons y sv =>
      obtain ⟨h1, h2⟩ := hstep pu x su pv y sv h h' hp
      by_cases e : x = y
      . have h3 := h2 e _ (ih sv (pu ++ [x]) (pv ++ [y]) (snoc_at h) (snoc_at h') (by simp [hp]) (by simpa using hs))
        simp only [e, List.cons.injEq, true_and]
        exact h3
      . rw [show decide (x :: su = y :: sv) = false from decide_eq_false (fun h => e (List.cons.inj h).1)]
        exact h1 e
theorem ev_cast {α : Type} {g : Nat -> Option α} {r s : α} (h : Ev g r) (e : r = s) : Ev g s := e ▸ h
end Go.Proofs.Ytbgggcgjijljkaa.L
