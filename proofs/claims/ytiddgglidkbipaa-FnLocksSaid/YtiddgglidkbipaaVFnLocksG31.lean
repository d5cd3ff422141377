-- PRINTED by print.py (a twelfth state) out of the translation. Not trusted: Lean checks it.
import Derived.Test.YtiddgglidkbipaaVFnLocksG12
import Derived.Test.YtiddgglidkbipaaVFnLocksG22
import Derived.Test.YtiddgglidkbipaaVFnLocksG23
import Derived.Test.YtiddgglidkbipaaVFnLocksG24
import Derived.Test.YtiddgglidkbipaaVFnLocksG25
import Derived.Test.YtiddgglidkbipaaVFnLocksG26
import Derived.Test.YtiddgglidkbipaaVFnLocksG27
import Derived.Test.YtiddgglidkbipaaVFnLocksG30
import Derived.Test.YtiddgglidkbipaaVFnLocksWWords
import Derived.Test.YtiddgglidkbipaaVFnLocksWApart
import Derived.Deep.Slices
import Derived.WideShapes
import Derived.Laws.Strings
import Derived.Test.YtiddgglidkbipaaVFnLocksWLast
import Derived.Test.YtiddgglidkbipaaVFnLocksWMore
namespace Go.Proofs.Ytiddgglidkbipaa.Q
open Go.RowKit Go.Proofs.YtiddgglidkbipaaW.PrintWords Go.Proofs.YtiddgglidkbipaaW.PrintLast Go.Proofs.YtiddgglidkbipaaW.PrintMore
attribute [local go_sem] max2_int min2_int max_two min_two max_three min_three max_four min_four   -- for this text's walks alone
set_option linter.unusedVariables false
set_option linter.unusedSimpArgs false
mutual
def laws_FnLocks.j0 : Nat → List (S28) → List (S28) → Bool → Bool → Bool → Int → List ByteArray → Bool → Bool → Int → Option (Bool)
 | 0, _, _, _, _, _, _, _, _, _, _ => none
 | k + 1, x3, x5, x6, x8, x46, x902000, x902001, x902002, x902003, x902004 => if x46 = true then (if (x6 == x8) = true then ((laws_sameLocks.f k x5 x3).bind fun t911 => (some t911)) else (some false)) else ((impl_DropLock.f k x5 x902000).bind fun bt912 => (laws_FnLocks.l0 k x3 x5 bt912.1 bt912.2 0 x902000 x902001 x902002 x902003 x902004))
def laws_FnLocks.l0 : Nat → List (S28) → List (S28) → List (S28) → Bool → Int → Int → List ByteArray → Bool → Bool → Int → Option (Bool)
 | 0, _, _, _, _, _, _, _, _, _, _ => none
 | k + 1, x3, x5, x9, x10, x11, x902000, x902001, x902002, x902003, x902004 => if x11 < (x3.length : Int) then (if 0 ≤ x11 then ((impl_LockClash.f k ((rd_T28 x3 x11).f0) ((rd_T28 x3 x11).f1) ((rd_T28 x3 x11).f2) ((rd_T28 x3 x11).f3) ((rd_T28 x3 x11).f4) x902000 x902001 x902002 x902003 x902004).bind fun t917 => (if t917 = true then (some false) else ((impl_LockClash.f k x902000 x902001 x902002 x902003 x902004 ((rd_T28 x3 x11).f0) ((rd_T28 x3 x11).f1) ((rd_T28 x3 x11).f2) ((rd_T28 x3 x11).f3) ((rd_T28 x3 x11).f4)).bind fun t919 => (if t919 = true then (some false) else (laws_FnLocks.l0 k x3 x5 x9 x10 (wrap64 (x11 + 1)) x902000 x902001 x902002 x902003 x902004))))) else (none)) else ((impl_TokensAt.f k x5 x902001).bind fun t920 => (laws_FnLocks.l1 k x3 x5 x9 x10 false t920 0 x902000 x902001 x902002 x902003 x902004))
def laws_FnLocks.l1 : Nat → List (S28) → List (S28) → List (S28) → Bool → Bool → List Int → Int → Int → List ByteArray → Bool → Bool → Int → Option (Bool)
 | 0, _, _, _, _, _, _, _, _, _, _, _, _ => none
 | k + 1, x3, x5, x9, x10, x12, x13, x14, x902000, x902001, x902002, x902003, x902004 => if x14 < (x13.length : Int) then (if x12 = true then (laws_FnLocks.l1 k x3 x5 x9 x10 true x13 (wrap64 (x14 + 1)) x902000 x902001 x902002 x902003 x902004) else (if 0 ≤ x14 then (laws_FnLocks.l1 k x3 x5 x9 x10 ((rd x13 x14) == x902000) x13 (wrap64 (x14 + 1)) x902000 x902001 x902002 x902003 x902004) else (none))) else (if x10 = true then ((laws_sameLocks.f k x9 x3).bind fun t924 => (if t924 = true then ((impl_LocksOk.f k x5).bind fun t925 => (if t925 = true then (if x12 = true then ((impl_MayTurn.f k x5 x902001 false (([] : List Int))).bind fun t929 => (if t929 = true then (some false) else (if x902003 = true then (some true) else ((impl_MayTurn.f k x5 x902001 false (([x902000] : List Int))).bind fun t933 => (some t933))))) else (some false)) else (some false))) else (some false))) else (some false))
end
def laws_FnLocks.f (k : Nat) (l0 : List Int) : Option (Bool) := (laws_big.f l0).bind fun t890 => (if t890 = true then (some true) else ((spec_DrawAddLock.f k l0).bind fun bt891 => ((impl_AddLock.f k bt891.1 bt891.2.1 bt891.2.2.1 bt891.2.2.2.1 bt891.2.2.2.2.1 bt891.2.2.2.2.2).bind fun bt902 => ((spec_AddLock.f k bt891.1 bt891.2.1 bt891.2.2.1 bt891.2.2.2.1 bt891.2.2.2.2.1 bt891.2.2.2.2.2).bind fun bt906 => (if (bt902.2 != bt906.2) = true then (laws_FnLocks.j0 k bt891.1 bt902.1 bt902.2 bt906.2 true bt891.2.1 bt891.2.2.1 bt891.2.2.2.1 bt891.2.2.2.2.1 bt891.2.2.2.2.2) else ((laws_sameLocks.f k bt902.1 bt906.1).bind fun t910 => (if t910 = true then (laws_FnLocks.j0 k bt891.1 bt902.1 bt902.2 bt906.2 (!bt902.2) bt891.2.1 bt891.2.2.1 bt891.2.2.2.1 bt891.2.2.2.2.1 bt891.2.2.2.2.2) else (laws_FnLocks.j0 k bt891.1 bt902.1 bt902.2 bt906.2 true bt891.2.1 bt891.2.2.1 bt891.2.2.2.1 bt891.2.2.2.2.1 bt891.2.2.2.2.2))))))))
def laws_FnLocks.T12 : Bool × List (List Nat × List Nat) := (true, [([], []), ([], []), ([0, 1], [0, 1]), ([2], [2]), ([], []), ([3, 4], [3, 4]), ([5, 5], [5]), ([6], [6]), ([6], [6]), ([6], [6]), ([8, 9, 6], [6, 8, 9]), ([10, 6], [6, 10]), ([7, 11, 6, 6], [6, 7, 11]), ([6, 12], [6, 12])])
def laws_FnLocks.B12 : List Nat := [0, 0, 3, 7, 0, 31, 63, 127, 127, 127, 895, 1919, 4095, 8191]
theorem laws_FnLocks.tab12 : rtab .any (opsOf Try.f13 12) = laws_FnLocks.T12 := by kernel_rfl
theorem laws_FnLocks.bits12 : waitsOk laws_FnLocks.T12.2 laws_FnLocks.B12 = true := by kernel_rfl
def laws_FnLocks.T19 : Bool × List (List Nat × List Nat) := (true, [([], []), ([0], [0]), ([1], [1]), ([1], [1]), ([2, 3, 1], [1, 2, 3]), ([4, 1], [1, 4]), ([1], [1]), ([6, 1], [1, 6]), ([5, 7, 1], [1, 5, 7]), ([1, 8], [1, 8]), ([9, 1, 0, 1, 2, 3, 4, 5, 6, 7, 8, 9], [0, 9])])
def laws_FnLocks.B19 : List Nat := [0, 1, 3, 3, 15, 31, 3, 67, 255, 511, 1023]
theorem laws_FnLocks.tab19 : rtab .any (opsOf Try.f13 19) = laws_FnLocks.T19 := by kernel_rfl
theorem laws_FnLocks.bits19 : waitsOk laws_FnLocks.T19.2 laws_FnLocks.B19 = true := by kernel_rfl
set_option maxHeartbeats 8000000 in
set_option maxRecDepth 100000 in
theorem laws_FnLocks.calls (k : Nat) (A0 : Option Addr) (c0 : Nat) (l0 : List Int) (r : Bool) (w : World) (hr0 : Kd.C (Kd.int .u8) w A0 l0.length l0) (hc0 : l0.length ≤ c0) (h : laws_FnLocks.f k l0 = some r) :
 Calls Try.prog 13 #[.slice A0 l0.length c0] w fun e w' => e = .returned (.bool r) ∧ Below w.heap.size w w' := by
 have hu28 := Try.underlying28
 have HR0 := Aside0.mk hr0
 have HC0 := Aside0.mk hc0
 clear hr0 hc0
 have HB := A_ (Below.refl w.heap.size w)
 have H : ((laws_big.f l0).bind fun t890 => (if t890 = true then (some true) else ((spec_DrawAddLock.f k l0).bind fun bt891 => ((impl_AddLock.f k bt891.1 bt891.2.1 bt891.2.2.1 bt891.2.2.2.1 bt891.2.2.2.2.1 bt891.2.2.2.2.2).bind fun bt902 => ((spec_AddLock.f k bt891.1 bt891.2.1 bt891.2.2.1 bt891.2.2.2.1 bt891.2.2.2.2.1 bt891.2.2.2.2.2).bind fun bt906 => (if (bt902.2 != bt906.2) = true then (laws_FnLocks.j0 k bt891.1 bt902.1 bt902.2 bt906.2 true bt891.2.1 bt891.2.2.1 bt891.2.2.2.1 bt891.2.2.2.2.1 bt891.2.2.2.2.2) else ((laws_sameLocks.f k bt902.1 bt906.1).bind fun t910 => (if t910 = true then (laws_FnLocks.j0 k bt891.1 bt902.1 bt902.2 bt906.2 (!bt902.2) bt891.2.1 bt891.2.2.1 bt891.2.2.2.1 bt891.2.2.2.2.1 bt891.2.2.2.2.2) else (laws_FnLocks.j0 k bt891.1 bt902.1 bt902.2 bt906.2 true bt891.2.1 bt891.2.2.1 bt891.2.2.2.1 bt891.2.2.2.2.1 bt891.2.2.2.2.2))))))))) = some r := h
 clear h
 obtain ⟨t890, A2, H⟩ := bo_ H
 (try dsimp only at H)
 by_cases c3 : t890 = true
 · subst c3
   rw [if_pos rfl] at H
   obtain rfl := Option.some.inj H
   go_enter Try.func13, Try.ntmps13
   go_wp2_with (first | ((with_reducible refine gate_callee (f := 50) rfl ?_); refine gL_ (some 16) Try.func50 #[.slice A0 l0.length c0] ?_; (with_reducible refine (laws_big.calls _ _ l0 true _ ?s1 ?s2 A2.out).mono ?_); (case s1 => exact cC_ HR0.out); (case s2 => exact HC0.out); rintro e w' ⟨rfl, ⟨nd, rfl⟩⟩; refine ⟨_, rfl, ?_⟩))
   go_ret
   exact ⟨rr_, bB_⟩
 · replace c3 := Bool.eq_false_iff.mpr c3
   subst c3
   rw [if_neg nf_] at H
   obtain ⟨⟨t891, t894, t895, t898, t899, t900⟩, A4, H⟩ := bo_ H
   (try dsimp only at H)
   obtain ⟨⟨t902, t905⟩, A5, H⟩ := bo_ H
   (try dsimp only at H)
   obtain ⟨⟨t906, t909⟩, A6, H⟩ := bo_ H
   (try dsimp only at H)
   have HC7 := Aside0.mk H
   clear H
   go_enter Try.func13, Try.ntmps13
   go_upto_region 6 with (first | ((with_reducible refine gate_callee (f := 50) rfl ?_); refine gL_ (some 16) Try.func50 #[.slice A0 l0.length c0] ?_; (with_reducible refine (laws_big.calls _ _ l0 false _ ?s1 ?s2 A2.out).mono ?_); (case s1 => exact cC_ HR0.out); (case s2 => exact HC0.out); rintro e w' ⟨rfl, ⟨nd, rfl⟩⟩; refine ⟨_, rfl, ?_⟩) | ((with_reducible refine gate_callee (f := 53) rfl ?_); refine gL_ (some 19) Try.func53 #[.slice A0 l0.length c0] ?_; (with_reducible refine (spec_DrawAddLock.calls k _ _ l0 t891 t894 t895 t898 t899 t900 _ ?s1 ?s2 A4.out).mono ?_); (case s1 => exact cC_ HR0.out); (case s2 => exact HC0.out); rintro e w8 ⟨v892, v896, rfl, ho0, ho1, hb⟩; refine ⟨_, rfl, ?_⟩; have HO893 := A_ (Kd.N_lower (Kd.N_mono (ok' := fun k_ => True) (Kd.S_N (Kd.S_bound ho0)) (fun k_ hk_ => hk_.1)) (below_size bB_)); have HO897 := A_ (Kd.R_lower ho1 (below_size bB_)); replace HB := A_ (below_step bB_ hb); (try clear hb); (try clear hk); (try clear ho0); (try clear ho1)) | ((with_reducible refine gate_dst (N := 4) rfl ?_); (try (refine gate_guard (by rfl) ?_; dsimp only)); refine bx_ (N := 4) (cs := #[.int .i64 0, .slice none 0 0, .bool false, .bool false, .int .i64 0]) (t := 28) ?_; intro gb901 hg w9 hbox hb; replace HO893 := A_ (Kd.N_below (Kd.N_elderB (vN_ HO893.out) gb901 (Nat.le_of_eq hg.symm)) hb); replace HO897 := A_ (Kd.R_below (vR_ HO897.out) hb); have BK901 := A_ (hbox); have GW901 := A_ (ge_ hg bB_ : w.heap.size ≤ gb901); have GE901 := A_ (ge_ hg bB_ : w.heap.size ≤ gb901); replace HB := A_ (below_step bB_ hb); clear hb hbox hg; obtain ⟨hcz10_0, hcz10_1, hcz10_2, hcz10_3, hcz10_4, hfz10_0, hfz10_1, hfz10_2, hfz10_3, hfz10_4⟩ := cz5_ BK901.out; obtain ⟨Ao11, co11, eo11⟩ := Kd.R_slice HO897.out; subst eo11) | ((with_reducible refine gate_store (t := 28) (p := 4) rfl ?_); refine store_event (t := 28) (p := 4) (v := ?vo_w12) (w1 := (((((w9.setCell ⟨gb901, 0, none⟩ (.int .i64 t894)).setCell ⟨gb901, 1, none⟩ (.slice Ao11 t895.length co11)).setCell ⟨gb901, 2, none⟩ (.bool t898)).setCell ⟨gb901, 3, none⟩ (.bool t899)).setCell ⟨gb901, 4, none⟩ (.int .i64 t900))) ?hg ?ho ?hn ?hr ?_; (case ho => rfl); (case hg => rfl); (case hn => rfl); (case hr => first | (go_simp; done) | (go_simp; rfl)); intro w12 hw; have n0_ : Aside0 (Kd.N k28 28 w12 w.heap.size (fun k_ => True ∧ k_ ≠ gb901) v892 t891) := ⟨(by rw [hw]; exact (by (with_reducible repeat (first | apply Kd.N_alloc | apply Kd.N_drewN | apply Kd.N_drew)); exact Kd.N_mono (Kd.N_far (p := ⟨gb901, 4, none⟩) (Kd.N_far (p := ⟨gb901, 3, none⟩) (Kd.N_far (p := ⟨gb901, 2, none⟩) (Kd.N_far (p := ⟨gb901, 1, none⟩) (Kd.N_far (p := ⟨gb901, 0, none⟩) (Kd.N_mono HO893.out (fun k_ hk => (⟨hk, hk.2⟩ : _ ∧ k_ ≠ gb901))) (fun _ hk => hk.2) (.int .i64 t894)) (fun _ hk => hk.2) (.slice Ao11 t895.length co11)) (fun _ hk => hk.2) (.bool t898)) (fun _ hk => hk.2) (.bool t899)) (fun _ hk => hk.2) (.int .i64 t900)) (fun _ hk => ⟨hk.1.1, hk.1.2⟩)))⟩; have n1_ : Aside0 (Kd.R Kd.string 9 w12 w.heap.size (fun _ => True) (.slice Ao11 t895.length co11) t895) := ⟨(by rw [hw]; exact (by (with_reducible repeat (first | apply Kd.R_alloc | apply Kd.R_drewN | apply Kd.R_drew)); exact Kd.R_mono (Kd.R_far (p := ⟨gb901, 4, none⟩) (Kd.R_far (p := ⟨gb901, 3, none⟩) (Kd.R_far (p := ⟨gb901, 2, none⟩) (Kd.R_far (p := ⟨gb901, 1, none⟩) (Kd.R_far (p := ⟨gb901, 0, none⟩) (Kd.R_types HO897.out BK901.out (by decide)) (fun _ hk => hk.2) (.int .i64 t894)) (fun _ hk => hk.2) (.slice Ao11 t895.length co11)) (fun _ hk => hk.2) (.bool t898)) (fun _ hk => hk.2) (.bool t899)) (fun _ hk => hk.2) (.int .i64 t900)) (fun _ hk => trivial)))⟩; have n2_ : Aside0 (w12.heap[gb901]? = some (.cells #[.int .i64 t894, .slice Ao11 t895.length co11, .bool t898, .bool t899, .int .i64 t900] 28 (0, 0))) := ⟨(by rw [hw]; exact (by (with_reducible repeat (first | refine blk_drewN ?_ _ | refine blk_drew ?_ | refine blk_alloc ?_ _)); refine blk_put (cs := #[.int .i64 t894, .slice Ao11 t895.length co11, .bool t898, .bool t899, .int .i64 0]) ?_ 4 _ rfl; (with_reducible repeat (first | refine blk_drewN ?_ _ | refine blk_drew ?_ | refine blk_alloc ?_ _)); refine blk_put (cs := #[.int .i64 t894, .slice Ao11 t895.length co11, .bool t898, .bool false, .int .i64 0]) ?_ 3 _ rfl; (with_reducible repeat (first | refine blk_drewN ?_ _ | refine blk_drew ?_ | refine blk_alloc ?_ _)); refine blk_put (cs := #[.int .i64 t894, .slice Ao11 t895.length co11, .bool false, .bool false, .int .i64 0]) ?_ 2 _ rfl; (with_reducible repeat (first | refine blk_drewN ?_ _ | refine blk_drew ?_ | refine blk_alloc ?_ _)); refine blk_put (cs := #[.int .i64 t894, .slice none 0 0, .bool false, .bool false, .int .i64 0]) ?_ 1 _ rfl; (with_reducible repeat (first | refine blk_drewN ?_ _ | refine blk_drew ?_ | refine blk_alloc ?_ _)); refine blk_put (cs := #[.int .i64 0, .slice none 0 0, .bool false, .bool false, .int .i64 0]) ?_ 0 _ rfl; (with_reducible repeat (first | refine blk_drewN ?_ _ | refine blk_drew ?_ | refine blk_alloc ?_ _)); exact BK901.out))⟩; have n3_ : Aside0 (Below w.heap.size w w12) := ⟨(by rw [hw]; exact (bG_ GE901.out))⟩; clear hw; clear HO893; clear HO897; clear BK901; clear HB; have HO893 := n0_; have HO897 := n1_; have BK901 := n2_; have HB := n3_; clear n0_ n1_ n2_ n3_; obtain ⟨hcz13_0, hcz13_1, hcz13_2, hcz13_3, hcz13_4, hfz13_0, hfz13_1, hfz13_2, hfz13_3, hfz13_4⟩ := cz5_ BK901.out; obtain ⟨Ao14, co14, eo14⟩ := Kd.N_slice HO893.out; subst eo14) | ((with_reducible refine gate_callee (f := 48) rfl ?_); refine gL_ (some 25) Try.func48 #[.slice Ao14 t891.length co14, .agg #[.int .i64 t894, .slice Ao11 t895.length co11, .bool t898, .bool t899, .int .i64 t900]] ?_; (with_reducible refine (impl_AddLock.calls k (fun k_ => (True ∧ k_ ≠ gb901)) _ _ t891 t894 (fun k_ => some k_ = (.slice Ao11 t895.length co11 : Value).ownBlock) _ _ t895 t898 t899 t900 t902 t905 _ ?s1 ?s2 A5.out).mono ?_); (case s1 => exact Kd.N_V (HO893.out)); (case s2 => exact Kd.R_V (Kd.R_tight rfl (Kd.R_types (Kd.R_apart' (HO897.out) (Kd.N_typed HO893.out) (by decide)) BK901.out (by decide)))); rintro e w15 ⟨v903, rfl, ho0, hb⟩; refine ⟨_, rfl, ?_⟩; replace HO893 := A_ (Kd.N_elder' (vN_ HO893.out) (kb_ ho0) hb); replace HO897 := A_ (Kd.R_below (vR_ HO897.out) hb); have HO904 := A_ (Kd.N_lower (Kd.N_mono (ok' := fun k_ => k_ ≠ gb901) (Kd.S_N (Kd.S_bound ho0)) (fun k_ hk_ => (fun hk_ => ((fun hn_ => (Kd.freshB (g := gb901) (o := .cells #[.int .i64 t894, .slice Ao11 t895.length co11, .bool t898, .bool t899, .int .i64 t900] 28 (0, 0)) (vb_ BK901.out) k_ hn_)) hk_)) hk_.1)) (below_size (bG_ GE901.out))); replace BK901 := A_ (bw_ BK901.out hb); replace HB := A_ (below_step (bG_ GE901.out) hb); (try clear hb); (try clear hk); (try clear ho0); obtain ⟨hcz16_0, hcz16_1, hcz16_2, hcz16_3, hcz16_4, hfz16_0, hfz16_1, hfz16_2, hfz16_3, hfz16_4⟩ := cz5_ BK901.out) | ((with_reducible refine gate_callee (f := 47) rfl ?_); refine gL_ (some 31) Try.func47 #[.slice Ao14 t891.length co14, .agg #[.int .i64 t894, .slice Ao11 t895.length co11, .bool t898, .bool t899, .int .i64 t900]] ?_; (with_reducible refine (spec_AddLock.calls k (fun k_ => ((True ∧ k_ ≠ gb901) ∧ some k_ ≠ (v903 : Value).ownBlock)) _ _ t891 t894 (fun k_ => some k_ = (.slice Ao11 t895.length co11 : Value).ownBlock) _ _ t895 t898 t899 t900 t906 t909 _ ?s1 ?s2 A6.out).mono ?_); (case s1 => exact Kd.N_V (HO893.out)); (case s2 => exact Kd.R_V (Kd.R_tight rfl (Kd.R_types (Kd.R_apart' (Kd.R_apart' (HO897.out) (Kd.N_typed HO893.out) (by decide)) (Kd.N_typed HO904.out) (by decide)) BK901.out (by decide)))); rintro e w17 ⟨v907, rfl, ho0, hb⟩; refine ⟨_, rfl, ?_⟩; replace HO893 := A_ (Kd.N_elder' (vN_ HO893.out) (kb_ ho0) hb); replace HO897 := A_ (Kd.R_below (vR_ HO897.out) hb); have HO908 := A_ (Kd.N_lower (Kd.N_mono (ok' := fun k_ => some k_ ≠ (v903 : Value).ownBlock ∧ k_ ≠ gb901) (Kd.S_N (Kd.S_bound ho0)) (fun k_ hk_ => (fun hk_ => ⟨((fun hn_ => (Kd.fresh' (Kd.N_lt (vN_ HO904.out)) k_ hn_)) hk_), ((fun hn_ => (Kd.freshB (g := gb901) (o := .cells #[.int .i64 t894, .slice Ao11 t895.length co11, .bool t898, .bool t899, .int .i64 t900] 28 (0, 0)) (vb_ BK901.out) k_ hn_)) hk_)⟩) hk_.1)) (below_size (bG_ GE901.out))); replace HO904 := A_ (Kd.N_elder' (vN_ HO904.out) (kb_ ho0) hb); replace BK901 := A_ (bw_ BK901.out hb); replace HB := A_ (below_step (bG_ GE901.out) hb); (try clear hb); (try clear hk); (try clear ho0)))
   (try simp only [Act.put, List.setIfInBounds_toArray, List.set_cons_zero, List.set_cons_succ])
   go_cut [46] (fun v46 wc => ∃ (kq : Nat) (x46_6 : Bool), v46 = .bool x46_6 ∧ Aside0 (laws_FnLocks.j0 kq t891 t902 t905 t909 x46_6 t894 t895 t898 t899 t900 = some r) ∧ Aside0 (kq ≤ k) ∧ Aside0 (Kd.N k28 28 wc w.heap.size (fun k_ => some k_ ≠ (v903 : Value).ownBlock ∧ True ∧ k_ ≠ gb901) (.slice Ao14 t891.length co14) t891) ∧ Aside0 (Kd.N k28 28 wc w.heap.size (fun k_ => k_ ≠ gb901) v903 t902) ∧ Aside0 (Kd.R Kd.string 9 wc w.heap.size (fun _ => True) (.slice Ao11 t895.length co11) t895) ∧ Aside0 (wc.heap[gb901]? = some (.cells #[.int .i64 t894, (.slice Ao11 t895.length co11), .bool t898, .bool t899, .int .i64 t900] 28 (0, 0))) ∧ Aside0 (Below w.heap.size w wc))
   case first =>
    have H := HC7.out
    clear HC7
    by_cases c18 : (t905 != t909) = true
    · rw [if_pos c18] at H
      have c18b0 : (t905 != t909) = true := c18
      (try (have c18b1 : decide (t905 = t909) = false := by simpa using c18))
      (try (have c18b2 : (t905 == t909) = false := by simpa using c18))
      (try (have c18b3 : ¬ (t905 = t909) := by simpa using c18))
      clear c18
      (first | rw [c18b0] | (simp only [i64_w, i32_w]; rw [c18b0]) | skip)
      have H' := Aside0.mk H
      clear H
      go_wp2
      go_meet
      case rel => exact ⟨_, (true), rs_, H', ⟨by first | omega | exact Nat.le_refl _⟩, ⟨by (with_reducible repeat (first | apply Kd.N_alloc | apply Kd.N_drewN | apply Kd.N_drew)); exact Kd.N_mono HO893.out (fun _ hk => ⟨hk.1.2, ⟨hk.1.1.1, hk.1.1.2⟩⟩)⟩, ⟨by (with_reducible repeat (first | apply Kd.N_alloc | apply Kd.N_drewN | apply Kd.N_drew)); exact Kd.N_mono HO904.out (fun _ hk => hk.1)⟩, ⟨vR_ HO897.out⟩, ⟨vb_ BK901.out⟩, ⟨bG_ GE901.out⟩⟩
    rw [if_neg c18] at H
    have c18b0 : (t905 != t909) = false := by simpa using c18
    (try (have c18b1 : decide (t905 = t909) = true := by simpa using c18))
    (try (have c18b2 : (t905 == t909) = true := by simpa using c18))
    clear c18
    (first | rw [c18b0] | (simp only [i64_w, i32_w]; rw [c18b0]) | skip)
    obtain ⟨t910, A19, H⟩ := bo_ H
    (try dsimp only at H)
    by_cases c20 : t910 = true
    · subst c20
      rw [if_pos rfl] at H
      have H' := Aside0.mk H
      clear H
      obtain ⟨Ao21, co21, eo21⟩ := Kd.N_slice HO904.out
      subst eo21
      obtain ⟨Ao22, co22, eo22⟩ := Kd.N_slice HO908.out
      subst eo22
      go_wp2_with (first | (go_at_call 54; (with_reducible refine (laws_sameLocks.calls k _ _ t902 _ _ t906 true _ ?s1 ?s2 ?s3 ?s4 A19.out).mono ?_); (case s1 => exact cC_ (Kd.N_reads' HO904.out).2.2); (case s2 => exact (Kd.N_reads' HO904.out).2.1); (case s3 => exact cC_ (Kd.N_reads' HO908.out).2.2); (case s4 => exact (Kd.N_reads' HO908.out).2.1); rintro e w23 ⟨rfl, hb⟩; replace HO893 := A_ (Kd.N_below (vN_ HO893.out) hb); replace HO897 := A_ (Kd.R_below (vR_ HO897.out) hb); replace HO904 := A_ (Kd.N_below (vN_ HO904.out) hb); replace HO908 := A_ (Kd.N_below (vN_ HO908.out) hb); replace BK901 := A_ (bw_ BK901.out hb); replace HB := A_ (below_step (bG_ GE901.out) hb); (try clear hb)))
      go_meet
      case rel => exact ⟨_, (!t905), rs_, H', ⟨by first | omega | exact Nat.le_refl _⟩, ⟨by (with_reducible repeat (first | apply Kd.N_alloc | apply Kd.N_drewN | apply Kd.N_drew)); exact Kd.N_mono HO893.out (fun _ hk => ⟨hk.1.2, ⟨hk.1.1.1, hk.1.1.2⟩⟩)⟩, ⟨by (with_reducible repeat (first | apply Kd.N_alloc | apply Kd.N_drewN | apply Kd.N_drew)); exact Kd.N_mono HO904.out (fun _ hk => hk.1)⟩, ⟨vR_ HO897.out⟩, ⟨vb_ BK901.out⟩, ⟨bG_ GE901.out⟩⟩
    · replace c20 := Bool.eq_false_iff.mpr c20
      subst c20
      rw [if_neg nf_] at H
      have H' := Aside0.mk H
      clear H
      obtain ⟨Ao24, co24, eo24⟩ := Kd.N_slice HO904.out
      subst eo24
      obtain ⟨Ao25, co25, eo25⟩ := Kd.N_slice HO908.out
      subst eo25
      go_wp2_with (first | (go_at_call 54; (with_reducible refine (laws_sameLocks.calls k _ _ t902 _ _ t906 false _ ?s1 ?s2 ?s3 ?s4 A19.out).mono ?_); (case s1 => exact cC_ (Kd.N_reads' HO904.out).2.2); (case s2 => exact (Kd.N_reads' HO904.out).2.1); (case s3 => exact cC_ (Kd.N_reads' HO908.out).2.2); (case s4 => exact (Kd.N_reads' HO908.out).2.1); rintro e w26 ⟨rfl, hb⟩; replace HO893 := A_ (Kd.N_below (vN_ HO893.out) hb); replace HO897 := A_ (Kd.R_below (vR_ HO897.out) hb); replace HO904 := A_ (Kd.N_below (vN_ HO904.out) hb); replace HO908 := A_ (Kd.N_below (vN_ HO908.out) hb); replace BK901 := A_ (bw_ BK901.out hb); replace HB := A_ (below_step (bG_ GE901.out) hb); (try clear hb)))
      go_meet
      case rel => exact ⟨_, (true), rs_, H', ⟨by first | omega | exact Nat.le_refl _⟩, ⟨by (with_reducible repeat (first | apply Kd.N_alloc | apply Kd.N_drewN | apply Kd.N_drew)); exact Kd.N_mono HO893.out (fun _ hk => ⟨hk.1.2, ⟨hk.1.1.1, hk.1.1.2⟩⟩)⟩, ⟨by (with_reducible repeat (first | apply Kd.N_alloc | apply Kd.N_drewN | apply Kd.N_drew)); exact Kd.N_mono HO904.out (fun _ hk => hk.1)⟩, ⟨vR_ HO897.out⟩, ⟨vb_ BK901.out⟩, ⟨bG_ GE901.out⟩⟩
   case rest =>
    clear HC7
    try clear c1
    try clear c2
    try clear p2
    try clear c3
    try clear c4
    try clear c5
    try clear c13
    try clear c18
    try clear c18b0
    try clear c18b1
    try clear c18b2
    try clear c20
    try clear hcz10_0
    try clear hcz10_1
    try clear hcz10_2
    try clear hcz10_3
    try clear hcz10_4
    try clear hcz13_0
    try clear hcz13_1
    try clear hcz13_2
    try clear hcz13_3
    try clear hcz13_4
    try clear hcz16_0
    try clear hcz16_1
    try clear hcz16_2
    try clear hcz16_3
    try clear hcz16_4
    try clear hfz10_0
    try clear hfz10_1
    try clear hfz10_2
    try clear hfz10_3
    try clear hfz10_4
    try clear hfz13_0
    try clear hfz13_1
    try clear hfz13_2
    try clear hfz13_3
    try clear hfz13_4
    try clear hfz16_0
    try clear hfz16_1
    try clear hfz16_2
    try clear hfz16_3
    try clear hfz16_4
    obtain ⟨kq, x46_6, rfl, HA, HJ6, HO_3, HO_5, HO_902001, BK901, HB⟩ := hcut
    cases kq with
    | zero => exact absurd HA.out (by simp [laws_FnLocks.j0])
    | succ kj6 =>
     have H := HA.out
     clear HA
     simp only [laws_FnLocks.j0] at H
     by_cases c27 : x46_6 = true
     · subst c27
       rw [if_pos rfl] at H
       by_cases c28 : (t905 == t909) = true
       rotate_left
       · rw [if_neg c28] at H
         have c28b0 : (t905 == t909) = false := by simpa using c28
         (try (have c28b1 : decide (t905 = t909) = false := by simpa using c28))
         (try (have c28b2 : (t905 == t909) = false := by simpa using c28))
         (try (have c28b3 : ¬ (t905 = t909) := by simpa using c28))
         clear c28
         obtain rfl := Option.some.inj H
         go_wp2
         go_ret
         exact ⟨rr_, bG_ GE901.out⟩
       rw [if_pos c28] at H
       have c28b0 : (t905 == t909) = true := c28
       (try (have c28b1 : decide (t905 = t909) = true := by simpa using c28))
       (try (have c28b2 : (t905 == t909) = true := by simpa using c28))
       clear c28
       obtain ⟨t911, A29, H⟩ := bo_ H
       (try dsimp only at H)
       obtain rfl := Option.some.inj H
       obtain ⟨Ao30, co30, eo30⟩ := Kd.N_slice HO_5.out
       subst eo30
       go_wp2_with (first | (go_at_call 54; (with_reducible refine (laws_sameLocks.calls kj6 _ _ t902 _ _ t891 t911 _ ?s1 ?s2 ?s3 ?s4 A29.out).mono ?_); (case s1 => exact cC_ (Kd.N_reads' HO_5.out).2.2); (case s2 => exact (Kd.N_reads' HO_5.out).2.1); (case s3 => exact cC_ (Kd.N_reads' HO_3.out).2.2); (case s4 => exact (Kd.N_reads' HO_3.out).2.1); rintro e w31 ⟨rfl, hb⟩; replace HO_3 := A_ (Kd.N_below (vN_ HO_3.out) hb); replace HO_5 := A_ (Kd.N_below (vN_ HO_5.out) hb); replace HO_902001 := A_ (Kd.R_below (vR_ HO_902001.out) hb); replace BK901 := A_ (bw_ BK901.out hb); replace HB := A_ (below_step (bG_ GE901.out) hb); (try clear hb)))
       go_ret
       exact ⟨rr_, bG_ GE901.out⟩
     · replace c27 := Bool.eq_false_iff.mpr c27
       subst c27
       rw [if_neg nf_] at H
       obtain ⟨⟨t912, t915⟩, A32, H⟩ := bo_ H
       (try dsimp only at H)
       have H' := Aside0.mk H
       clear H
       have hcz33_0 : wc.cell? ⟨gb901, 0, none⟩ = some (.int .i64 t894) := (blk_cell BK901.out 0).trans rfl
       have hcz33_1 : wc.cell? ⟨gb901, 1, none⟩ = some (.slice Ao11 t895.length co11) := (blk_cell BK901.out 1).trans rfl
       have hcz33_2 : wc.cell? ⟨gb901, 2, none⟩ = some (.bool t898) := (blk_cell BK901.out 2).trans rfl
       have hcz33_3 : wc.cell? ⟨gb901, 3, none⟩ = some (.bool t899) := (blk_cell BK901.out 3).trans rfl
       have hcz33_4 : wc.cell? ⟨gb901, 4, none⟩ = some (.int .i64 t900) := (blk_cell BK901.out 4).trans rfl
       have hfz33_0 := blk_frozen BK901.out 0
       have hfz33_1 := blk_frozen BK901.out 1
       have hfz33_2 := blk_frozen BK901.out 2
       have hfz33_3 := blk_frozen BK901.out 3
       have hfz33_4 := blk_frozen BK901.out 4
       obtain ⟨Ao34, co34, eo34⟩ := Kd.N_slice HO_5.out
       subst eo34
       go_wp2_with (first | ((with_reducible refine gate_callee (f := 33) rfl ?_); refine gL_ (some 59) Try.func33 #[.slice Ao34 t902.length co34, .int .i64 t894] ?_; (with_reducible refine (impl_DropLock.calls kj6 _ _ t902 t894 t912 t915 _ ?s1 ?s2 A32.out).mono ?_); (case s1 => exact cC_ (Kd.N_reads' HO_5.out).2.2); (case s2 => exact (Kd.N_reads' HO_5.out).2.1); rintro e w35 ⟨v913, rfl, ho0, hb⟩; refine ⟨_, rfl, ?_⟩; replace HO_902001 := A_ (Kd.R_below (vR_ HO_902001.out) hb); have HO914 := A_ (Kd.N_lower (Kd.N_mono (ok' := fun k_ => some k_ ≠ (.slice Ao14 t891.length co14 : Value).ownBlock ∧ some k_ ≠ (.slice Ao34 t902.length co34 : Value).ownBlock ∧ True ∧ k_ ≠ gb901) ho0 (fun k_ hk_ => ⟨(Kd.fresh' (Kd.N_lt (vN_ HO_3.out)) k_ hk_), (Kd.fresh' (Kd.N_lt (vN_ HO_5.out)) k_ hk_), trivial, (Kd.freshB (g := gb901) (o := .cells #[.int .i64 t894, .slice Ao11 t895.length co11, .bool t898, .bool t899, .int .i64 t900] 28 (0, 0)) (vb_ BK901.out) k_ hk_)⟩)) (below_size (bG_ GE901.out))); replace HO_3 := A_ (Kd.N_elder' (vN_ HO_3.out) (kb_ ho0) hb); replace HO_5 := A_ (Kd.N_elder' (vN_ HO_5.out) (kb_ ho0) hb); replace BK901 := A_ (bw_ BK901.out hb); replace HB := A_ (below_step (bG_ GE901.out) hb); (try clear hb); (try clear ho0)))
       go_loopg [11] kj6 (fun kq v11 w' => ∃ (x11_2 : Int), v11 = .int .i64 x11_2 ∧ Aside0 (laws_FnLocks.l0 kq t891 t902 t912 t915 x11_2 t894 t895 t898 t899 t900 = some r) ∧ Aside0 (kq ≤ kj6) ∧ Aside0 (Kd.N k28 28 w' w.heap.size (fun k_ => some k_ ≠ ((.slice Ao34 t902.length co34) : Value).ownBlock ∧ some k_ ≠ (v913 : Value).ownBlock ∧ True ∧ k_ ≠ gb901) (.slice Ao14 t891.length co14) t891) ∧ Aside0 (Kd.N k28 28 w' w.heap.size (fun k_ => some k_ ≠ (v913 : Value).ownBlock ∧ k_ ≠ gb901) (.slice Ao34 t902.length co34) t902) ∧ Aside0 (Kd.N k28 28 w' w.heap.size (fun k_ => some k_ ≠ ((.slice Ao14 t891.length co14) : Value).ownBlock ∧ some k_ ≠ ((.slice Ao34 t902.length co34) : Value).ownBlock ∧ True ∧ k_ ≠ gb901) v913 t912) ∧ Aside0 (Kd.R Kd.string 9 w' w.heap.size (fun _ => True) (.slice Ao11 t895.length co11) t895) ∧ Aside0 (w'.heap[gb901]? = some (.cells #[.int .i64 t894, (.slice Ao11 t895.length co11), .bool t898, .bool t899, .int .i64 t900] 28 (0, 0))) ∧ Aside0 (Below w.heap.size w w'))
       case atStart => exact ⟨(0), rs_, H', ⟨Nat.le_refl _⟩, ⟨by (with_reducible repeat (first | apply Kd.N_alloc | apply Kd.N_drewN | apply Kd.N_drew)); exact Kd.N_mono HO_3.out (fun _ hk => ⟨hk.1.1, ⟨hk.2, ⟨hk.1.2.1, hk.1.2.2⟩⟩⟩)⟩, ⟨by (with_reducible repeat (first | apply Kd.N_alloc | apply Kd.N_drewN | apply Kd.N_drew)); exact Kd.N_mono HO_5.out (fun _ hk => ⟨hk.2, hk.1⟩)⟩, ⟨vN_ HO914.out⟩, ⟨vR_ HO_902001.out⟩, ⟨vb_ BK901.out⟩, ⟨bG_ GE901.out⟩⟩
       case round =>
        clear H'
        try clear c1
        try clear c2
        try clear p2
        try clear c3
        try clear c4
        try clear c5
        try clear c13
        try clear c18
        try clear c18b0
        try clear c18b1
        try clear c18b2
        try clear c20
        try clear c27
        try clear c28
        try clear c28b0
        try clear c28b1
        try clear c28b2
        try clear c33
        try clear hcz10_0
        try clear hcz10_1
        try clear hcz10_2
        try clear hcz10_3
        try clear hcz10_4
        try clear hcz13_0
        try clear hcz13_1
        try clear hcz13_2
        try clear hcz13_3
        try clear hcz13_4
        try clear hcz16_0
        try clear hcz16_1
        try clear hcz16_2
        try clear hcz16_3
        try clear hcz16_4
        try clear hcz33_0
        try clear hcz33_1
        try clear hcz33_2
        try clear hcz33_3
        try clear hcz33_4
        try clear hfz10_0
        try clear hfz10_1
        try clear hfz10_2
        try clear hfz10_3
        try clear hfz10_4
        try clear hfz13_0
        try clear hfz13_1
        try clear hfz13_2
        try clear hfz13_3
        try clear hfz13_4
        try clear hfz16_0
        try clear hfz16_1
        try clear hfz16_2
        try clear hfz16_3
        try clear hfz16_4
        try clear hfz33_0
        try clear hfz33_1
        try clear hfz33_2
        try clear hfz33_3
        try clear hfz33_4
        try clear p2
        obtain ⟨x11_2, rfl, HA, HK2, HO_3, HO_5, HO_9, HO_902001, BK901, HB⟩ := hrel
        cases gk with
        | zero => exact absurd HA.out (by simp [laws_FnLocks.l0])
        | succ k2 =>
         have H := HA.out
         clear HA
         simp only [laws_FnLocks.l0] at H
         by_cases c36 : x11_2 < (t891.length : Int)
         rotate_left
         · rw [if_neg c36] at H
           have c36b0 : decide (x11_2 < (t891.length : Int)) = false := decide_eq_false c36
           clear c36
           obtain ⟨t920, A50, H⟩ := bo_ H
           (try dsimp only at H)
           have H' := Aside0.mk H
           clear H
           have hcz51_0 : wr.cell? ⟨gb901, 0, none⟩ = some (.int .i64 t894) := (blk_cell BK901.out 0).trans rfl
           have hcz51_1 : wr.cell? ⟨gb901, 1, none⟩ = some (.slice Ao11 t895.length co11) := (blk_cell BK901.out 1).trans rfl
           have hcz51_2 : wr.cell? ⟨gb901, 2, none⟩ = some (.bool t898) := (blk_cell BK901.out 2).trans rfl
           have hcz51_3 : wr.cell? ⟨gb901, 3, none⟩ = some (.bool t899) := (blk_cell BK901.out 3).trans rfl
           have hcz51_4 : wr.cell? ⟨gb901, 4, none⟩ = some (.int .i64 t900) := (blk_cell BK901.out 4).trans rfl
           have hfz51_0 := blk_frozen BK901.out 0
           have hfz51_1 := blk_frozen BK901.out 1
           have hfz51_2 := blk_frozen BK901.out 2
           have hfz51_3 := blk_frozen BK901.out 3
           have hfz51_4 := blk_frozen BK901.out 4
           go_wp2_with (first | ((with_reducible refine gate_callee (f := 39) rfl ?_); refine gL_ (some 85) Try.func39 #[.slice Ao34 t902.length co34, .slice Ao11 t895.length co11] ?_; (with_reducible refine (impl_TokensAt.calls k2 _ _ t902 _ _ t895 t920 _ ?s1 ?s2 ?s3 ?s4 A50.out).mono ?_); (case s1 => exact cC_ (Kd.N_reads' HO_5.out).2.2); (case s2 => exact (Kd.N_reads' HO_5.out).2.1); (case s3 => exact cC_ (Kd.R_reads' HO_902001.out).2.2); (case s4 => exact (Kd.R_reads' HO_902001.out).2.1); rintro e w52 ⟨v921, rfl, ho0, hb⟩; refine ⟨_, rfl, ?_⟩; replace HO_3 := A_ (Kd.N_elder' (vN_ HO_3.out) (kb_ ho0) hb); replace HO_5 := A_ (Kd.N_elder' (vN_ HO_5.out) (kb_ ho0) hb); replace HO_9 := A_ (Kd.N_elder' (vN_ HO_9.out) (kb_ ho0) hb); replace HO_902001 := A_ (Kd.R_below (vR_ HO_902001.out) hb); have HO922 := A_ (Kd.R_lower ho0 (below_size (bG_ GE901.out))); replace BK901 := A_ (bw_ BK901.out hb); replace HB := A_ (below_step (bG_ GE901.out) hb); (try clear hb); (try clear ho0)))
           go_loopg [12, 14] k2 (fun kq v12 v14 w' => ∃ (x12_3 : Bool) (x14_3 : Int), v12 = .bool x12_3 ∧ v14 = .int .i64 x14_3 ∧ Aside0 (laws_FnLocks.l1 kq t891 t902 t912 t915 x12_3 t920 x14_3 t894 t895 t898 t899 t900 = some r) ∧ Aside0 (kq ≤ k2) ∧ Aside0 (Kd.N k28 28 w' w.heap.size (fun k_ => some k_ ≠ ((.slice Ao34 t902.length co34) : Value).ownBlock ∧ some k_ ≠ (v913 : Value).ownBlock ∧ some k_ ≠ (v921 : Value).ownBlock ∧ True ∧ k_ ≠ gb901) (.slice Ao14 t891.length co14) t891) ∧ Aside0 (Kd.N k28 28 w' w.heap.size (fun k_ => some k_ ≠ (v913 : Value).ownBlock ∧ some k_ ≠ (v921 : Value).ownBlock ∧ k_ ≠ gb901) (.slice Ao34 t902.length co34) t902) ∧ Aside0 (Kd.N k28 28 w' w.heap.size (fun k_ => some k_ ≠ ((.slice Ao14 t891.length co14) : Value).ownBlock ∧ some k_ ≠ ((.slice Ao34 t902.length co34) : Value).ownBlock ∧ some k_ ≠ (v921 : Value).ownBlock ∧ True ∧ k_ ≠ gb901) v913 t912) ∧ Aside0 (Kd.R (Kd.int .i64) 3 w' w.heap.size (fun _ => True) v921 t920) ∧ Aside0 (Kd.R Kd.string 9 w' w.heap.size (fun _ => True) (.slice Ao11 t895.length co11) t895) ∧ Aside0 (w'.heap[gb901]? = some (.cells #[.int .i64 t894, (.slice Ao11 t895.length co11), .bool t898, .bool t899, .int .i64 t900] 28 (0, 0))) ∧ Aside0 (Below w.heap.size w w'))
           case atStart => exact ⟨(false), (0), rs_, rs_, H', ⟨Nat.le_refl _⟩, ⟨by (with_reducible repeat (first | apply Kd.N_alloc | apply Kd.N_drewN | apply Kd.N_drew)); exact Kd.N_mono HO_3.out (fun _ hk => ⟨hk.1.1, ⟨hk.1.2.1, ⟨hk.2, ⟨hk.1.2.2.1, hk.1.2.2.2⟩⟩⟩⟩)⟩, ⟨by (with_reducible repeat (first | apply Kd.N_alloc | apply Kd.N_drewN | apply Kd.N_drew)); exact Kd.N_mono HO_5.out (fun _ hk => ⟨hk.1.1, ⟨hk.2, hk.1.2⟩⟩)⟩, ⟨by (with_reducible repeat (first | apply Kd.N_alloc | apply Kd.N_drewN | apply Kd.N_drew)); exact Kd.N_mono HO_9.out (fun _ hk => ⟨hk.1.1, ⟨hk.1.2.1, ⟨hk.2, ⟨hk.1.2.2.1, hk.1.2.2.2⟩⟩⟩⟩)⟩, ⟨vR_ HO922.out⟩, ⟨vR_ HO_902001.out⟩, ⟨vb_ BK901.out⟩, ⟨bG_ GE901.out⟩⟩
           case round =>
            clear H'
            try clear c2
            try clear p2
            try clear c3
            try clear c4
            try clear p6
            try clear c9
            try clear p9
            try clear q9
            try clear hx9
            try clear c24
            try clear c36
            try clear c36b0
            try clear c37
            try clear c39
            try clear c43
            try clear hcz51_0
            try clear hcz51_1
            try clear hcz51_2
            try clear hcz51_3
            try clear hcz51_4
            try clear hfz51_0
            try clear hfz51_1
            try clear hfz51_2
            try clear hfz51_3
            try clear hfz51_4
            try clear hx916_0
            try clear hx916_1
            try clear hx916_2
            try clear hx916_3
            try clear hx916_4
            try clear hx918_0
            try clear hx918_1
            try clear hx918_2
            try clear hx918_3
            try clear hx918_4
            try clear p916
            try clear p918
            try clear q916
            try clear q918
            obtain ⟨x12_3, x14_3, rfl, rfl, HA, HK3, HO_3, HO_5, HO_9, HO_13, HO_902001, BK901, HB⟩ := hrel
            cases gk with
            | zero => exact absurd HA.out (by simp [laws_FnLocks.l1])
            | succ k3 =>
             have H := HA.out
             clear HA
             simp only [laws_FnLocks.l1] at H
             by_cases c53 : x14_3 < (t920.length : Int)
             · rw [if_pos c53] at H
               have c53b0 : decide (x14_3 < (t920.length : Int)) = true := decide_eq_true c53
               clear c53
               by_cases c54 : x12_3 = true
               · subst c54
                 rw [if_pos rfl] at H
                 have H' := Aside0.mk H
                 clear H
                 obtain ⟨Ao55, co55, eo55⟩ := Kd.R_slice HO_13.out
                 subst eo55
                 try go_wp2
                 replace HO_3 := A_ (Kd.N_drew HO_3.out)
                 replace HO_5 := A_ (Kd.N_drew HO_5.out)
                 replace HO_9 := A_ (Kd.N_drew HO_9.out)
                 replace HO_13 := A_ (Kd.R_drew HO_13.out)
                 replace HO_902001 := A_ (Kd.R_drew HO_902001.out)
                 replace BK901 := A_ (blk_drew BK901.out)
                 replace HB := A_ (below_drew1 HB.out)
                 refine start_ (n := 11) (S := fun w' => True) (ds := []) #[false, false, false, false, false, false, false, false, false, false, false] (by kernel_rfl) rfl rfl trivial (fun hHeld => ?_); refine with_tabW laws_FnLocks.tab19 laws_FnLocks.bits19 (fun HT_ HW_ => ?_)
                 generalize wr.drew = w56 at HO_3 HO_5 HO_9 HO_13 HO_902001 BK901 HB hHeld ⊢
                 refine pu_ (i := 0) (N := some 92) ?_
                 refine pu_ (i := 1) (N := some 93) ?_
                 refine pn_ (i := 2) (N := some 94) ?_
                 refine pn_ (i := 3) (N := some 95) ?_
                 refine pn_ (i := 4) (N := some 96) ?_
                 refine pn_ (i := 5) (N := some 97) ?_
                 refine pn_ (i := 6) (N := some 98) ?_
                 refine pn_ (i := 7) (N := some 99) ?_
                 refine pn_ (i := 8) (N := some 100) ?_
                 refine pu_ (i := 9) (N := some 101) ?_
                 refine pu_ (i := 10) (N := some 12) ?_
                 refine done_ (done_of HT_.out (by kernel_rfl)) ?_
                 (try clear hHeld)
                 try go_wp2
                 go_roundg k3
                 case measure => have := HJ6.out; have := HK2.out; have := HK3.out; omega
                 case rel => exact ⟨(true), (wrap64 (x14_3 + 1)), rs_, rs_, H', ⟨by have := HJ6.out; have := HK2.out; have := HK3.out; omega⟩, ⟨vN_ HO_3.out⟩, ⟨vN_ HO_5.out⟩, ⟨vN_ HO_9.out⟩, ⟨vR_ HO_13.out⟩, ⟨vR_ HO_902001.out⟩, ⟨vb_ BK901.out⟩, ⟨bG_ GE901.out⟩⟩
               · replace c54 := Bool.eq_false_iff.mpr c54
                 subst c54
                 rw [if_neg nf_] at H
                 by_cases c57 : 0 ≤ x14_3
                 rotate_left
                 · exact absurd H (by rw [if_neg c57]; simp)
                 rw [if_pos c57] at H
                 have c57b0 : decide (0 ≤ x14_3) = true := decide_eq_true c57
                 clear c57
                 have H' := Aside0.mk H
                 clear H
                 obtain ⟨Ao58, co58, eo58⟩ := Kd.R_slice HO_13.out
                 subst eo58
                 try go_wp2
                 replace HO_3 := A_ (Kd.N_drew HO_3.out)
                 replace HO_5 := A_ (Kd.N_drew HO_5.out)
                 replace HO_9 := A_ (Kd.N_drew HO_9.out)
                 replace HO_13 := A_ (Kd.R_drew HO_13.out)
                 replace HO_902001 := A_ (Kd.R_drew HO_902001.out)
                 replace BK901 := A_ (blk_drew BK901.out)
                 replace HB := A_ (below_drew1 HB.out)
                 have p923 : 0 ≤ (x14_3 : Int) := of_decide_eq_true as_
                 have q923 : x14_3 < (t920.length : Int) := of_decide_eq_true as_
                 obtain ⟨ad923, e923, hx923_0⟩ := Kd.at_int (Kd.R_reads' HO_13.out).2.2 x14_3 p923 q923
                 cases e923
                 replace p923 := eq_true p923
                 replace q923 := eq_true q923
                 refine start_ (n := 11) (S := fun w' => w'.cell? ⟨gb901, 0, none⟩ = some (.int .i64 t894) ∧ w'.cell? ⟨gb901, 1, none⟩ = some (.slice Ao11 t895.length co11) ∧ w'.cell? ⟨gb901, 2, none⟩ = some (.bool t898) ∧ w'.cell? ⟨gb901, 3, none⟩ = some (.bool t899) ∧ w'.cell? ⟨gb901, 4, none⟩ = some (.int .i64 t900) ∧ w'.cell? (ad923.add (x14_3).toNat) = some (.int .i64 (rd t920 x14_3))) (ds := []) #[false, false, false, false, false, false, false, false, false, false, false] (by kernel_rfl) rfl rfl ⟨(blk_cell BK901.out 0).trans rfl, (blk_cell BK901.out 1).trans rfl, (blk_cell BK901.out 2).trans rfl, (blk_cell BK901.out 3).trans rfl, (blk_cell BK901.out 4).trans rfl, hx923_0⟩ (fun hHeld => ?_); refine with_tabW laws_FnLocks.tab19 laws_FnLocks.bits19 (fun HT_ HW_ => ?_)
                 generalize wr.drew = w59 at HO_3 HO_5 HO_9 HO_13 HO_902001 BK901 HB hx923_0 hHeld ⊢
                 refine pu_ (i := 0) (N := some 92) ?_
                 refine pu_ (i := 1) (N := some 93) ?_
                 refine pu_ (i := 2) (N := some 94) ?_
                 refine pu_ (i := 3) (N := some 95) ?_
                 refine pu_ (i := 4) (N := some 96) ?_
                 refine pu_ (i := 6) (N := some 98) ?_
                 refine tk_ (i := 5) (N := some 97) hHeld ?_
                 refine tk_ (i := 7) (N := some 99) hHeld ?_
                 refine pu_ (i := 8) (N := some 100) ?_
                 refine pu_ (i := 9) (N := some 101) ?_
                 refine pu_ (i := 10) (N := some 12) ?_
                 refine done_ (done_of HT_.out (by kernel_rfl)) ?_
                 (try clear hHeld)
                 try go_wp2
                 go_roundg k3
                 case measure => have := HJ6.out; have := HK2.out; have := HK3.out; omega
                 case rel => exact ⟨(((rd t920 x14_3) == t894)), (wrap64 (x14_3 + 1)), rs_, rs_, H', ⟨by have := HJ6.out; have := HK2.out; have := HK3.out; omega⟩, ⟨vN_ HO_3.out⟩, ⟨vN_ HO_5.out⟩, ⟨vN_ HO_9.out⟩, ⟨vR_ HO_13.out⟩, ⟨vR_ HO_902001.out⟩, ⟨vb_ BK901.out⟩, ⟨bG_ GE901.out⟩⟩
             rw [if_neg c53] at H
             have c53b0 : decide (x14_3 < (t920.length : Int)) = false := decide_eq_false c53
             clear c53
             by_cases c60 : t915 = true
             · subst c60
               rw [if_pos rfl] at H
               obtain ⟨t924, A61, H⟩ := bo_ H
               (try dsimp only at H)
               by_cases c62 : t924 = true
               · subst c62
                 rw [if_pos rfl] at H
                 obtain ⟨t925, A63, H⟩ := bo_ H
                 (try dsimp only at H)
                 by_cases c64 : t925 = true
                 · subst c64
                   rw [if_pos rfl] at H
                   by_cases c65 : x12_3 = true
                   · subst c65
                     rw [if_pos rfl] at H
                     obtain ⟨y926, hy926⟩ : ∃ y_ : List Int, y_ = (([] : List Int)) := ⟨_, rfl⟩
                     replace H : ((impl_MayTurn.f k3 t902 t895 false y926).bind fun t929 => (if t929 = true then (some false) else (if t899 = true then (some true) else ((impl_MayTurn.f k3 t902 t895 false (([t894] : List Int))).bind fun t933 => (some t933))))) = some r := hy_ hy926 H
                     have Ny926 := Aside0.mk hy926
                     clear hy926
                     obtain ⟨t929, A66, H⟩ := bo_ H
                     (try dsimp only at H)
                     by_cases c67 : t929 = true
                     · subst c67
                       rw [if_pos rfl] at H
                       obtain rfl := Option.some.inj H
                       obtain ⟨Ao68, co68, eo68⟩ := Kd.R_slice HO_13.out
                       subst eo68
                       obtain ⟨Ao69, co69, eo69⟩ := Kd.N_slice HO_9.out
                       subst eo69
                       go_wp2_with (first | (go_at_call 54; (with_reducible refine (laws_sameLocks.calls k3 _ _ t912 _ _ t891 true _ ?s1 ?s2 ?s3 ?s4 A61.out).mono ?_); (case s1 => exact cC_ (Kd.N_reads' HO_9.out).2.2); (case s2 => exact (Kd.N_reads' HO_9.out).2.1); (case s3 => exact cC_ (Kd.N_reads' HO_3.out).2.2); (case s4 => exact (Kd.N_reads' HO_3.out).2.1); rintro e w70 ⟨rfl, hb⟩; replace HO_3 := A_ (Kd.N_below (vN_ HO_3.out) hb); replace HO_5 := A_ (Kd.N_below (vN_ HO_5.out) hb); replace HO_9 := A_ (Kd.N_below (vN_ HO_9.out) hb); replace HO_13 := A_ (Kd.R_below (vR_ HO_13.out) hb); replace HO_902001 := A_ (Kd.R_below (vR_ HO_902001.out) hb); replace BK901 := A_ (bw_ BK901.out hb); replace HB := A_ (below_step (bG_ GE901.out) hb); (try clear hb)) | (go_at_call 46; (with_reducible refine (impl_LocksOk.calls k3 _ _ t902 true _ ?s1 ?s2 A63.out).mono ?_); (case s1 => exact cC_ (Kd.N_reads' HO_5.out).2.2); (case s2 => exact (Kd.N_reads' HO_5.out).2.1); rintro e w71 ⟨rfl, hb⟩; replace HO_3 := A_ (Kd.N_below (vN_ HO_3.out) hb); replace HO_5 := A_ (Kd.N_below (vN_ HO_5.out) hb); replace HO_9 := A_ (Kd.N_below (vN_ HO_9.out) hb); replace HO_13 := A_ (Kd.R_below (vR_ HO_13.out) hb); replace HO_902001 := A_ (Kd.R_below (vR_ HO_902001.out) hb); replace BK901 := A_ (bw_ BK901.out hb); replace HB := A_ (below_step (bG_ GE901.out) hb); (try clear hb); obtain ⟨hcz72_0, hcz72_1, hcz72_2, hcz72_3, hcz72_4, hfz72_0, hfz72_1, hfz72_2, hfz72_3, hfz72_4⟩ := cz5_ BK901.out) | ((with_reducible refine gate_dst (N := 119) rfl ?_); (try (refine gate_guard (by rfl) ?_; dsimp only)); refine Kd.R_lit (Kd.int .i64) _ 3 ?hg (N := 119) ?hd (xs := ([] : List Int)) (inner := []) (ok := fun _ => True) (okp := fun _ => True) ?hr ?hp (fun _ hk => hk) trivial (Below.refl _ _) (Nat.le_refl _) (by simp) ?_; (case hd => rfl); (case hg => rfl); (case hr => first | (go_simp; done) | (go_simp; rfl)); (case hp => exact (Reps.none _ _)); intro v927 w73 ho74 hb hg_ hnew_; clear hg_ hnew_; (first | rw [← Ny926.out] at ho74 | (simp only [Int.reduceToNat] at ho74; rw [← Ny926.out] at ho74)); replace HO_3 := A_ (Kd.N_elder' (vN_ HO_3.out) (kb_ ho74) hb); replace HO_5 := A_ (Kd.N_elder' (vN_ HO_5.out) (kb_ ho74) hb); replace HO_9 := A_ (Kd.N_elder' (vN_ HO_9.out) (kb_ ho74) hb); replace HO_902001 := A_ (Kd.R_below (vR_ HO_902001.out) hb); have HO928 := A_ (Kd.R_lower (Kd.R_new' ho74 (Kd.R_lt (vR_ HO_13.out))) (below_size (bG_ GE901.out))); replace HO_13 := A_ (Kd.R_elder' (vR_ HO_13.out) (kb_ ho74) hb); replace BK901 := A_ (bw_ BK901.out hb); replace HB := A_ (below_step (bG_ GE901.out) hb); clear hb ho74; obtain ⟨Ao75, co75, eo75⟩ := Kd.R_slice HO928.out; subst eo75) | (go_at_call 29; (with_reducible refine (impl_MayTurn.calls k3 _ _ t902 _ _ t895 false _ _ y926 true _ ?s1 ?s2 ?s3 ?s4 ?s5 ?s6 A66.out).mono ?_); (case s1 => exact cC_ (Kd.N_reads' HO_5.out).2.2); (case s2 => exact (Kd.N_reads' HO_5.out).2.1); (case s3 => exact cC_ (Kd.R_reads' HO_902001.out).2.2); (case s4 => exact (Kd.R_reads' HO_902001.out).2.1); (case s5 => exact cC_ (Kd.R_reads' HO928.out).2.2); (case s6 => exact (Kd.R_reads' HO928.out).2.1); rintro e w76 ⟨rfl, hb⟩; replace HO_3 := A_ (Kd.N_below (vN_ HO_3.out) hb); replace HO_5 := A_ (Kd.N_below (vN_ HO_5.out) hb); replace HO_9 := A_ (Kd.N_below (vN_ HO_9.out) hb); replace HO_13 := A_ (Kd.R_below (vR_ HO_13.out) hb); replace HO_902001 := A_ (Kd.R_below (vR_ HO_902001.out) hb); replace HO928 := A_ (Kd.R_below (vR_ HO928.out) hb); replace BK901 := A_ (bw_ BK901.out hb); replace HB := A_ (below_step (bG_ GE901.out) hb); (try clear hb)))
                       go_ret
                       exact ⟨rr_, bG_ GE901.out⟩
                     · replace c67 := Bool.eq_false_iff.mpr c67
                       subst c67
                       rw [if_neg nf_] at H
                       by_cases c77 : t899 = true
                       · subst c77
                         rw [if_pos rfl] at H
                         obtain rfl := Option.some.inj H
                         obtain ⟨Ao78, co78, eo78⟩ := Kd.R_slice HO_13.out
                         subst eo78
                         obtain ⟨Ao79, co79, eo79⟩ := Kd.N_slice HO_9.out
                         subst eo79
                         go_wp2_with (first | (go_at_call 54; (with_reducible refine (laws_sameLocks.calls k3 _ _ t912 _ _ t891 true _ ?s1 ?s2 ?s3 ?s4 A61.out).mono ?_); (case s1 => exact cC_ (Kd.N_reads' HO_9.out).2.2); (case s2 => exact (Kd.N_reads' HO_9.out).2.1); (case s3 => exact cC_ (Kd.N_reads' HO_3.out).2.2); (case s4 => exact (Kd.N_reads' HO_3.out).2.1); rintro e w80 ⟨rfl, hb⟩; replace HO_3 := A_ (Kd.N_below (vN_ HO_3.out) hb); replace HO_5 := A_ (Kd.N_below (vN_ HO_5.out) hb); replace HO_9 := A_ (Kd.N_below (vN_ HO_9.out) hb); replace HO_13 := A_ (Kd.R_below (vR_ HO_13.out) hb); replace HO_902001 := A_ (Kd.R_below (vR_ HO_902001.out) hb); replace BK901 := A_ (bw_ BK901.out hb); replace HB := A_ (below_step (bG_ GE901.out) hb); (try clear hb)) | (go_at_call 46; (with_reducible refine (impl_LocksOk.calls k3 _ _ t902 true _ ?s1 ?s2 A63.out).mono ?_); (case s1 => exact cC_ (Kd.N_reads' HO_5.out).2.2); (case s2 => exact (Kd.N_reads' HO_5.out).2.1); rintro e w81 ⟨rfl, hb⟩; replace HO_3 := A_ (Kd.N_below (vN_ HO_3.out) hb); replace HO_5 := A_ (Kd.N_below (vN_ HO_5.out) hb); replace HO_9 := A_ (Kd.N_below (vN_ HO_9.out) hb); replace HO_13 := A_ (Kd.R_below (vR_ HO_13.out) hb); replace HO_902001 := A_ (Kd.R_below (vR_ HO_902001.out) hb); replace BK901 := A_ (bw_ BK901.out hb); replace HB := A_ (below_step (bG_ GE901.out) hb); (try clear hb); obtain ⟨hcz82_0, hcz82_1, hcz82_2, hcz82_3, hcz82_4, hfz82_0, hfz82_1, hfz82_2, hfz82_3, hfz82_4⟩ := cz5_ BK901.out) | ((with_reducible refine gate_dst (N := 119) rfl ?_); (try (refine gate_guard (by rfl) ?_; dsimp only)); refine Kd.R_lit (Kd.int .i64) _ 3 ?hg (N := 119) ?hd (xs := ([] : List Int)) (inner := []) (ok := fun _ => True) (okp := fun _ => True) ?hr ?hp (fun _ hk => hk) trivial (Below.refl _ _) (Nat.le_refl _) (by simp) ?_; (case hd => rfl); (case hg => rfl); (case hr => first | (go_simp; done) | (go_simp; rfl)); (case hp => exact (Reps.none _ _)); intro v927 w83 ho84 hb hg_ hnew_; clear hg_ hnew_; (first | rw [← Ny926.out] at ho84 | (simp only [Int.reduceToNat] at ho84; rw [← Ny926.out] at ho84)); replace HO_3 := A_ (Kd.N_elder' (vN_ HO_3.out) (kb_ ho84) hb); replace HO_5 := A_ (Kd.N_elder' (vN_ HO_5.out) (kb_ ho84) hb); replace HO_9 := A_ (Kd.N_elder' (vN_ HO_9.out) (kb_ ho84) hb); replace HO_902001 := A_ (Kd.R_below (vR_ HO_902001.out) hb); have HO928 := A_ (Kd.R_lower (Kd.R_new' ho84 (Kd.R_lt (vR_ HO_13.out))) (below_size (bG_ GE901.out))); replace HO_13 := A_ (Kd.R_elder' (vR_ HO_13.out) (kb_ ho84) hb); replace BK901 := A_ (bw_ BK901.out hb); replace HB := A_ (below_step (bG_ GE901.out) hb); clear hb ho84; obtain ⟨Ao85, co85, eo85⟩ := Kd.R_slice HO928.out; subst eo85) | (go_at_call 29; (with_reducible refine (impl_MayTurn.calls k3 _ _ t902 _ _ t895 false _ _ y926 false _ ?s1 ?s2 ?s3 ?s4 ?s5 ?s6 A66.out).mono ?_); (case s1 => exact cC_ (Kd.N_reads' HO_5.out).2.2); (case s2 => exact (Kd.N_reads' HO_5.out).2.1); (case s3 => exact cC_ (Kd.R_reads' HO_902001.out).2.2); (case s4 => exact (Kd.R_reads' HO_902001.out).2.1); (case s5 => exact cC_ (Kd.R_reads' HO928.out).2.2); (case s6 => exact (Kd.R_reads' HO928.out).2.1); rintro e w86 ⟨rfl, hb⟩; replace HO_3 := A_ (Kd.N_below (vN_ HO_3.out) hb); replace HO_5 := A_ (Kd.N_below (vN_ HO_5.out) hb); replace HO_9 := A_ (Kd.N_below (vN_ HO_9.out) hb); replace HO_13 := A_ (Kd.R_below (vR_ HO_13.out) hb); replace HO_902001 := A_ (Kd.R_below (vR_ HO_902001.out) hb); replace HO928 := A_ (Kd.R_below (vR_ HO928.out) hb); replace BK901 := A_ (bw_ BK901.out hb); replace HB := A_ (below_step (bG_ GE901.out) hb); (try clear hb); obtain ⟨hcz87_0, hcz87_1, hcz87_2, hcz87_3, hcz87_4, hfz87_0, hfz87_1, hfz87_2, hfz87_3, hfz87_4⟩ := cz5_ BK901.out))
                         go_ret
                         exact ⟨rr_, bG_ GE901.out⟩
                       · replace c77 := Bool.eq_false_iff.mpr c77
                         subst c77
                         rw [if_neg nf_] at H
                         obtain ⟨y930, hy930⟩ : ∃ y_ : List Int, y_ = (([t894] : List Int)) := ⟨_, rfl⟩
                         replace H : ((impl_MayTurn.f k3 t902 t895 false y930).bind fun t933 => (some t933)) = some r := hy_ hy930 H
                         have Ny930 := Aside0.mk hy930
                         clear hy930
                         obtain ⟨t933, A88, H⟩ := bo_ H
                         (try dsimp only at H)
                         obtain rfl := Option.some.inj H
                         obtain ⟨Ao89, co89, eo89⟩ := Kd.R_slice HO_13.out
                         subst eo89
                         obtain ⟨Ao90, co90, eo90⟩ := Kd.N_slice HO_9.out
                         subst eo90
                         go_wp2_with (first | (go_at_call 54; (with_reducible refine (laws_sameLocks.calls k3 _ _ t912 _ _ t891 true _ ?s1 ?s2 ?s3 ?s4 A61.out).mono ?_); (case s1 => exact cC_ (Kd.N_reads' HO_9.out).2.2); (case s2 => exact (Kd.N_reads' HO_9.out).2.1); (case s3 => exact cC_ (Kd.N_reads' HO_3.out).2.2); (case s4 => exact (Kd.N_reads' HO_3.out).2.1); rintro e w91 ⟨rfl, hb⟩; replace HO_3 := A_ (Kd.N_below (vN_ HO_3.out) hb); replace HO_5 := A_ (Kd.N_below (vN_ HO_5.out) hb); replace HO_9 := A_ (Kd.N_below (vN_ HO_9.out) hb); replace HO_13 := A_ (Kd.R_below (vR_ HO_13.out) hb); replace HO_902001 := A_ (Kd.R_below (vR_ HO_902001.out) hb); replace BK901 := A_ (bw_ BK901.out hb); replace HB := A_ (below_step (bG_ GE901.out) hb); (try clear hb)) | (go_at_call 46; (with_reducible refine (impl_LocksOk.calls k3 _ _ t902 true _ ?s1 ?s2 A63.out).mono ?_); (case s1 => exact cC_ (Kd.N_reads' HO_5.out).2.2); (case s2 => exact (Kd.N_reads' HO_5.out).2.1); rintro e w92 ⟨rfl, hb⟩; replace HO_3 := A_ (Kd.N_below (vN_ HO_3.out) hb); replace HO_5 := A_ (Kd.N_below (vN_ HO_5.out) hb); replace HO_9 := A_ (Kd.N_below (vN_ HO_9.out) hb); replace HO_13 := A_ (Kd.R_below (vR_ HO_13.out) hb); replace HO_902001 := A_ (Kd.R_below (vR_ HO_902001.out) hb); replace BK901 := A_ (bw_ BK901.out hb); replace HB := A_ (below_step (bG_ GE901.out) hb); (try clear hb); obtain ⟨hcz93_0, hcz93_1, hcz93_2, hcz93_3, hcz93_4, hfz93_0, hfz93_1, hfz93_2, hfz93_3, hfz93_4⟩ := cz5_ BK901.out) | ((with_reducible refine gate_dst (N := 119) rfl ?_); (try (refine gate_guard (by rfl) ?_; dsimp only)); refine Kd.R_lit (Kd.int .i64) _ 3 ?hg (N := 119) ?hd (xs := ([] : List Int)) (inner := []) (ok := fun _ => True) (okp := fun _ => True) ?hr ?hp (fun _ hk => hk) trivial (Below.refl _ _) (Nat.le_refl _) (by simp) ?_; (case hd => rfl); (case hg => rfl); (case hr => first | (go_simp; done) | (go_simp; rfl)); (case hp => exact (Reps.none _ _)); intro v927 w94 ho95 hb hg_ hnew_; clear hg_ hnew_; (first | rw [← Ny926.out] at ho95 | (simp only [Int.reduceToNat] at ho95; rw [← Ny926.out] at ho95)); replace HO_3 := A_ (Kd.N_elder' (vN_ HO_3.out) (kb_ ho95) hb); replace HO_5 := A_ (Kd.N_elder' (vN_ HO_5.out) (kb_ ho95) hb); replace HO_9 := A_ (Kd.N_elder' (vN_ HO_9.out) (kb_ ho95) hb); replace HO_902001 := A_ (Kd.R_below (vR_ HO_902001.out) hb); have HO928 := A_ (Kd.R_lower (Kd.R_new' ho95 (Kd.R_lt (vR_ HO_13.out))) (below_size (bG_ GE901.out))); replace HO_13 := A_ (Kd.R_elder' (vR_ HO_13.out) (kb_ ho95) hb); replace BK901 := A_ (bw_ BK901.out hb); replace HB := A_ (below_step (bG_ GE901.out) hb); clear hb ho95; obtain ⟨Ao96, co96, eo96⟩ := Kd.R_slice HO928.out; subst eo96) | (go_at_call 29; (with_reducible refine (impl_MayTurn.calls k3 _ _ t902 _ _ t895 false _ _ y926 false _ ?s1 ?s2 ?s3 ?s4 ?s5 ?s6 A66.out).mono ?_); (case s1 => exact cC_ (Kd.N_reads' HO_5.out).2.2); (case s2 => exact (Kd.N_reads' HO_5.out).2.1); (case s3 => exact cC_ (Kd.R_reads' HO_902001.out).2.2); (case s4 => exact (Kd.R_reads' HO_902001.out).2.1); (case s5 => exact cC_ (Kd.R_reads' HO928.out).2.2); (case s6 => exact (Kd.R_reads' HO928.out).2.1); rintro e w97 ⟨rfl, hb⟩; replace HO_3 := A_ (Kd.N_below (vN_ HO_3.out) hb); replace HO_5 := A_ (Kd.N_below (vN_ HO_5.out) hb); replace HO_9 := A_ (Kd.N_below (vN_ HO_9.out) hb); replace HO_13 := A_ (Kd.R_below (vR_ HO_13.out) hb); replace HO_902001 := A_ (Kd.R_below (vR_ HO_902001.out) hb); replace HO928 := A_ (Kd.R_below (vR_ HO928.out) hb); replace BK901 := A_ (bw_ BK901.out hb); replace HB := A_ (below_step (bG_ GE901.out) hb); (try clear hb); obtain ⟨hcz98_0, hcz98_1, hcz98_2, hcz98_3, hcz98_4, hfz98_0, hfz98_1, hfz98_2, hfz98_3, hfz98_4⟩ := cz5_ BK901.out) | ((with_reducible refine gate_dst (N := 132) rfl ?_); (try (refine gate_guard (by rfl) ?_; dsimp only)); refine Kd.R_lit (Kd.int .i64) _ 3 ?hg (N := 132) ?hd (xs := ([t894] : List Int)) (inner := [.int .i64 t894]) (ok := fun _ => True) (okp := fun _ => True) ?hr ?hp (fun _ hk => hk) trivial (Below.refl _ _) (Nat.le_refl _) (by simp) ?_; (case hd => rfl); (case hg => rfl); (case hr => first | (go_simp; done) | (go_simp; rfl)); (case hp => exact (Reps.one (show Kd.M (Kd.int .i64) _ _ _ t894 [.int .i64 t894] from rfl) (Reps.none _ _))); intro v931 w99 ho100 hb hg_ hnew_; clear hg_ hnew_; (first | rw [← Ny930.out] at ho100 | (simp only [Int.reduceToNat] at ho100; rw [← Ny930.out] at ho100)); replace HO_3 := A_ (Kd.N_elder' (vN_ HO_3.out) (kb_ ho100) hb); replace HO_5 := A_ (Kd.N_elder' (vN_ HO_5.out) (kb_ ho100) hb); replace HO_9 := A_ (Kd.N_elder' (vN_ HO_9.out) (kb_ ho100) hb); replace HO_902001 := A_ (Kd.R_below (vR_ HO_902001.out) hb); have HO932 := A_ (Kd.R_lower (Kd.R_new' (Kd.R_new' ho100 (Kd.R_lt (vR_ HO_13.out))) (Kd.R_lt (vR_ HO928.out))) (below_size (bG_ GE901.out))); replace HO_13 := A_ (Kd.R_elder' (vR_ HO_13.out) (kb_ ho100) hb); replace HO928 := A_ (Kd.R_elder' (vR_ HO928.out) (kb_ ho100) hb); replace BK901 := A_ (bw_ BK901.out hb); replace HB := A_ (below_step (bG_ GE901.out) hb); clear hb ho100; obtain ⟨Ao101, co101, eo101⟩ := Kd.R_slice HO932.out; subst eo101) | (go_at_call 29; (with_reducible refine (impl_MayTurn.calls k3 _ _ t902 _ _ t895 false _ _ y930 t933 _ ?s1 ?s2 ?s3 ?s4 ?s5 ?s6 A88.out).mono ?_); (case s1 => exact cC_ (Kd.N_reads' HO_5.out).2.2); (case s2 => exact (Kd.N_reads' HO_5.out).2.1); (case s3 => exact cC_ (Kd.R_reads' HO_902001.out).2.2); (case s4 => exact (Kd.R_reads' HO_902001.out).2.1); (case s5 => exact cC_ (Kd.R_reads' HO932.out).2.2); (case s6 => exact (Kd.R_reads' HO932.out).2.1); rintro e w102 ⟨rfl, hb⟩; replace HO_3 := A_ (Kd.N_below (vN_ HO_3.out) hb); replace HO_5 := A_ (Kd.N_below (vN_ HO_5.out) hb); replace HO_9 := A_ (Kd.N_below (vN_ HO_9.out) hb); replace HO_13 := A_ (Kd.R_below (vR_ HO_13.out) hb); replace HO_902001 := A_ (Kd.R_below (vR_ HO_902001.out) hb); replace HO928 := A_ (Kd.R_below (vR_ HO928.out) hb); replace HO932 := A_ (Kd.R_below (vR_ HO932.out) hb); replace BK901 := A_ (bw_ BK901.out hb); replace HB := A_ (below_step (bG_ GE901.out) hb); (try clear hb)))
                         go_ret
                         exact ⟨rr_, bG_ GE901.out⟩
                   · replace c65 := Bool.eq_false_iff.mpr c65
                     subst c65
                     rw [if_neg nf_] at H
                     obtain rfl := Option.some.inj H
                     obtain ⟨Ao103, co103, eo103⟩ := Kd.R_slice HO_13.out
                     subst eo103
                     obtain ⟨Ao104, co104, eo104⟩ := Kd.N_slice HO_9.out
                     subst eo104
                     go_wp2_with (first | (go_at_call 54; (with_reducible refine (laws_sameLocks.calls k3 _ _ t912 _ _ t891 true _ ?s1 ?s2 ?s3 ?s4 A61.out).mono ?_); (case s1 => exact cC_ (Kd.N_reads' HO_9.out).2.2); (case s2 => exact (Kd.N_reads' HO_9.out).2.1); (case s3 => exact cC_ (Kd.N_reads' HO_3.out).2.2); (case s4 => exact (Kd.N_reads' HO_3.out).2.1); rintro e w105 ⟨rfl, hb⟩; replace HO_3 := A_ (Kd.N_below (vN_ HO_3.out) hb); replace HO_5 := A_ (Kd.N_below (vN_ HO_5.out) hb); replace HO_9 := A_ (Kd.N_below (vN_ HO_9.out) hb); replace HO_13 := A_ (Kd.R_below (vR_ HO_13.out) hb); replace HO_902001 := A_ (Kd.R_below (vR_ HO_902001.out) hb); replace BK901 := A_ (bw_ BK901.out hb); replace HB := A_ (below_step (bG_ GE901.out) hb); (try clear hb)) | (go_at_call 46; (with_reducible refine (impl_LocksOk.calls k3 _ _ t902 true _ ?s1 ?s2 A63.out).mono ?_); (case s1 => exact cC_ (Kd.N_reads' HO_5.out).2.2); (case s2 => exact (Kd.N_reads' HO_5.out).2.1); rintro e w106 ⟨rfl, hb⟩; replace HO_3 := A_ (Kd.N_below (vN_ HO_3.out) hb); replace HO_5 := A_ (Kd.N_below (vN_ HO_5.out) hb); replace HO_9 := A_ (Kd.N_below (vN_ HO_9.out) hb); replace HO_13 := A_ (Kd.R_below (vR_ HO_13.out) hb); replace HO_902001 := A_ (Kd.R_below (vR_ HO_902001.out) hb); replace BK901 := A_ (bw_ BK901.out hb); replace HB := A_ (below_step (bG_ GE901.out) hb); (try clear hb)))
                     go_ret
                     exact ⟨rr_, bG_ GE901.out⟩
                 · replace c64 := Bool.eq_false_iff.mpr c64
                   subst c64
                   rw [if_neg nf_] at H
                   obtain rfl := Option.some.inj H
                   obtain ⟨Ao107, co107, eo107⟩ := Kd.R_slice HO_13.out
                   subst eo107
                   obtain ⟨Ao108, co108, eo108⟩ := Kd.N_slice HO_9.out
                   subst eo108
                   go_wp2_with (first | (go_at_call 54; (with_reducible refine (laws_sameLocks.calls k3 _ _ t912 _ _ t891 true _ ?s1 ?s2 ?s3 ?s4 A61.out).mono ?_); (case s1 => exact cC_ (Kd.N_reads' HO_9.out).2.2); (case s2 => exact (Kd.N_reads' HO_9.out).2.1); (case s3 => exact cC_ (Kd.N_reads' HO_3.out).2.2); (case s4 => exact (Kd.N_reads' HO_3.out).2.1); rintro e w109 ⟨rfl, hb⟩; replace HO_3 := A_ (Kd.N_below (vN_ HO_3.out) hb); replace HO_5 := A_ (Kd.N_below (vN_ HO_5.out) hb); replace HO_9 := A_ (Kd.N_below (vN_ HO_9.out) hb); replace HO_13 := A_ (Kd.R_below (vR_ HO_13.out) hb); replace HO_902001 := A_ (Kd.R_below (vR_ HO_902001.out) hb); replace BK901 := A_ (bw_ BK901.out hb); replace HB := A_ (below_step (bG_ GE901.out) hb); (try clear hb)) | (go_at_call 46; (with_reducible refine (impl_LocksOk.calls k3 _ _ t902 false _ ?s1 ?s2 A63.out).mono ?_); (case s1 => exact cC_ (Kd.N_reads' HO_5.out).2.2); (case s2 => exact (Kd.N_reads' HO_5.out).2.1); rintro e w110 ⟨rfl, hb⟩; replace HO_3 := A_ (Kd.N_below (vN_ HO_3.out) hb); replace HO_5 := A_ (Kd.N_below (vN_ HO_5.out) hb); replace HO_9 := A_ (Kd.N_below (vN_ HO_9.out) hb); replace HO_13 := A_ (Kd.R_below (vR_ HO_13.out) hb); replace HO_902001 := A_ (Kd.R_below (vR_ HO_902001.out) hb); replace BK901 := A_ (bw_ BK901.out hb); replace HB := A_ (below_step (bG_ GE901.out) hb); (try clear hb)))
                   go_ret
                   exact ⟨rr_, bG_ GE901.out⟩
               · replace c62 := Bool.eq_false_iff.mpr c62
                 subst c62
                 rw [if_neg nf_] at H
                 obtain rfl := Option.some.inj H
                 obtain ⟨Ao111, co111, eo111⟩ := Kd.R_slice HO_13.out
                 subst eo111
                 obtain ⟨Ao112, co112, eo112⟩ := Kd.N_slice HO_9.out
                 subst eo112
                 go_wp2_with (first | (go_at_call 54; (with_reducible refine (laws_sameLocks.calls k3 _ _ t912 _ _ t891 false _ ?s1 ?s2 ?s3 ?s4 A61.out).mono ?_); (case s1 => exact cC_ (Kd.N_reads' HO_9.out).2.2); (case s2 => exact (Kd.N_reads' HO_9.out).2.1); (case s3 => exact cC_ (Kd.N_reads' HO_3.out).2.2); (case s4 => exact (Kd.N_reads' HO_3.out).2.1); rintro e w113 ⟨rfl, hb⟩; replace HO_3 := A_ (Kd.N_below (vN_ HO_3.out) hb); replace HO_5 := A_ (Kd.N_below (vN_ HO_5.out) hb); replace HO_9 := A_ (Kd.N_below (vN_ HO_9.out) hb); replace HO_13 := A_ (Kd.R_below (vR_ HO_13.out) hb); replace HO_902001 := A_ (Kd.R_below (vR_ HO_902001.out) hb); replace BK901 := A_ (bw_ BK901.out hb); replace HB := A_ (below_step (bG_ GE901.out) hb); (try clear hb)))
                 go_ret
                 exact ⟨rr_, bG_ GE901.out⟩
             · replace c60 := Bool.eq_false_iff.mpr c60
               subst c60
               rw [if_neg nf_] at H
               obtain rfl := Option.some.inj H
               obtain ⟨Ao114, co114, eo114⟩ := Kd.R_slice HO_13.out
               subst eo114
               go_wp2
               go_ret
               exact ⟨rr_, bG_ GE901.out⟩
         rw [if_pos c36] at H
         have c36b0 : decide (x11_2 < (t891.length : Int)) = true := decide_eq_true c36
         clear c36
         by_cases c37 : 0 ≤ x11_2
         rotate_left
         · exact absurd H (by rw [if_neg c37]; simp)
         rw [if_pos c37] at H
         have c37b0 : decide (0 ≤ x11_2) = true := decide_eq_true c37
         clear c37
         obtain ⟨t917, A38, H⟩ := bo_ H
         (try dsimp only at H)
         by_cases c39 : t917 = true
         · subst c39
           rw [if_pos rfl] at H
           obtain rfl := Option.some.inj H
           try go_wp2
           replace HO_3 := A_ (Kd.N_drew HO_3.out)
           replace HO_5 := A_ (Kd.N_drew HO_5.out)
           replace HO_9 := A_ (Kd.N_drew HO_9.out)
           replace HO_902001 := A_ (Kd.R_drew HO_902001.out)
           replace BK901 := A_ (blk_drew BK901.out)
           replace HB := A_ (below_drew1 HB.out)
           have p916 : 0 ≤ (x11_2 : Int) := of_decide_eq_true as_
           have q916 : x11_2 < (t891.length : Int) := of_decide_eq_true as_
           obtain ⟨ad916, A916_1, c916_1, e916, hx916_0, hx916_1, hx916_2, hx916_3, hx916_4, hl916_1, hi916_1⟩ := at_T28 (Kd.N_reads' HO_3.out).2.2 x11_2 p916 q916
           cases e916
           obtain ⟨ce916, hce916, hMe916, hcc916⟩ := Kd.N_get HO_3.out z28 x11_2 p916 (by first | exact q916 | exact of_decide_eq_true as_ | (have e_ := (Kd.N_reads' HO_3.out).1; omega))
           obtain ⟨ua916_1, uc916_1, rfl, ul916_1, ge916_1⟩ := k28_openF hMe916
           have hv916_1 := hcc916 1 _ rfl
           rw [add_field _ _ 1 (by omega)] at hv916_1
           replace hv916_1 := Option.some.inj (hv916_1.symm.trans hx916_1)
           injection hv916_1 with hva_ hvn_ hvc_
           rw [hva_] at ge916_1
           rw [hvc_] at ul916_1
           have HL916_1 := A_ (show Kd.V Kd.string 9 _ w.heap.size _ _ ((rd_T28 t891 x11_2).f1) from Kd.V_mk ul916_1 ge916_1)
           clear hva_ hvn_ hvc_ ge916_1 ul916_1
           clear hcc916 hce916
           have HR916_1 := Aside0.mk hi916_1
           have HC916_1 := Aside0.mk hl916_1
           clear hi916_1 hl916_1
           replace p916 := eq_true p916
           replace q916 := eq_true q916
           refine start_ (n := 14) (S := fun w' => w'.cell? ⟨gb901, 0, none⟩ = some (.int .i64 t894) ∧ w'.cell? ⟨gb901, 1, none⟩ = some (.slice Ao11 t895.length co11) ∧ w'.cell? ⟨gb901, 2, none⟩ = some (.bool t898) ∧ w'.cell? ⟨gb901, 3, none⟩ = some (.bool t899) ∧ w'.cell? ⟨gb901, 4, none⟩ = some (.int .i64 t900) ∧ w'.cell? (ad916.add ((x11_2).toNat * 5)) = some (.int .i64 ((rd_T28 t891 x11_2).f0)) ∧ w'.cell? ⟨(ad916.add ((x11_2).toNat * 5)).block, (ad916.add ((x11_2).toNat * 5)).off + 1, none⟩ = some (.slice A916_1 ((rd_T28 t891 x11_2).f1).length c916_1) ∧ w'.cell? ⟨(ad916.add ((x11_2).toNat * 5)).block, (ad916.add ((x11_2).toNat * 5)).off + 2, none⟩ = some (.bool ((rd_T28 t891 x11_2).f2)) ∧ w'.cell? ⟨(ad916.add ((x11_2).toNat * 5)).block, (ad916.add ((x11_2).toNat * 5)).off + 3, none⟩ = some (.bool ((rd_T28 t891 x11_2).f3)) ∧ w'.cell? ⟨(ad916.add ((x11_2).toNat * 5)).block, (ad916.add ((x11_2).toNat * 5)).off + 4, none⟩ = some (.int .i64 ((rd_T28 t891 x11_2).f4))) (ds := []) #[false, false, false, false, false, false, false, false, false, false, false, false, false, false] (by kernel_rfl) rfl rfl ⟨(blk_cell BK901.out 0).trans rfl, (blk_cell BK901.out 1).trans rfl, (blk_cell BK901.out 2).trans rfl, (blk_cell BK901.out 3).trans rfl, (blk_cell BK901.out 4).trans rfl, hx916_0, hx916_1, hx916_2, hx916_3, hx916_4⟩ (fun hHeld => ?_); refine with_tabW laws_FnLocks.tab12 laws_FnLocks.bits12 (fun HT_ HW_ => ?_)
           generalize wr.drew = w40 at HO_3 HO_5 HO_9 HO_902001 BK901 HB HL916_1 HR916_1 hx916_0 hx916_1 hx916_2 hx916_3 hx916_4 hHeld ⊢
           refine pu_ (i := 0) (N := some 68) ?_
           refine pu_ (i := 1) (N := some 69) ?_
           refine pu_ (i := 2) (N := some 70) ?_
           refine tk_ (i := 3) (N := some 71) hHeld ?_
           refine tk_ (i := 4) (N := some 72) hHeld ?_
           refine on_ (i := 5) (N := some 73) (fun K hK => ?_)
           refine goes_ Try.func24 (by kernel_rfl) rfl #[.agg #[.int .i64 ((rd_T28 t891 x11_2).f0), .slice A916_1 ((rd_T28 t891 x11_2).f1).length c916_1, .bool ((rd_T28 t891 x11_2).f2), .bool ((rd_T28 t891 x11_2).f3), .int .i64 ((rd_T28 t891 x11_2).f4)], .agg #[.int .i64 t894, .slice Ao11 t895.length co11, .bool t898, .bool t899, .int .i64 t900]] (by rfl) rfl rfl ml_ ?_
           with_reducible refine (impl_LockClash.calls k2 ((rd_T28 t891 x11_2).f0) _ _ ((rd_T28 t891 x11_2).f1) ((rd_T28 t891 x11_2).f2) ((rd_T28 t891 x11_2).f3) ((rd_T28 t891 x11_2).f4) t894 _ _ t895 t898 t899 t900 true _ ?s1 ?s2 ?s3 ?s4 A38.out).mono ?_
           (case s1 => repeat (first | exact (cC_ HR916_1.out) | (with_reducible refine Kd.C_alloc ?_ _) | (with_reducible refine Kd.C_drewN ?_ _) | (with_reducible refine Kd.C_drew ?_)))
           (case s2 => exact HC916_1.out)
           (case s3 => exact cC_ (Kd.R_reads' HO_902001.out).2.2)
           (case s4 => exact (Kd.R_reads' HO_902001.out).2.1)
           rintro e w41 ⟨rfl, hb⟩
           have HS5_ := (hb.cell (World.block_lt_of_cell? _ _ (hHeld.2.2.2.2.2.1))).trans (hHeld.2.2.2.2.2.1)
           have HS6_ := (hb.cell (World.block_lt_of_cell? _ _ (hHeld.2.2.2.2.2.2.1))).trans (hHeld.2.2.2.2.2.2.1)
           have HS7_ := (hb.cell (World.block_lt_of_cell? _ _ (hHeld.2.2.2.2.2.2.2.1))).trans (hHeld.2.2.2.2.2.2.2.1)
           have HS8_ := (hb.cell (World.block_lt_of_cell? _ _ (hHeld.2.2.2.2.2.2.2.2.1))).trans (hHeld.2.2.2.2.2.2.2.2.1)
           have HS9_ := (hb.cell (World.block_lt_of_cell? _ _ (hHeld.2.2.2.2.2.2.2.2.2))).trans (hHeld.2.2.2.2.2.2.2.2.2)
           refine ⟨_, rfl, ?_⟩
           replace HO_3 := A_ (Kd.N_below (vN_ HO_3.out) hb)
           replace HO_5 := A_ (Kd.N_below (vN_ HO_5.out) hb)
           replace HO_9 := A_ (Kd.N_below (vN_ HO_9.out) hb)
           replace HO_902001 := A_ (Kd.R_below (vR_ HO_902001.out) hb)
           replace HL916_1 := A_ (Kd.V_below (vV_ HL916_1.out) hb)
           replace BK901 := A_ (bw_ BK901.out hb)
           replace HR916_1 := A_ (Kd.C_below (cC_ HR916_1.out) hb)
           replace HB := A_ (below_step (bG_ GE901.out) hb)
           (try clear hb)
           (try clear hb2)
           (try clear hk)
           (try clear hi)
           refine hK.out _ _ ⟨(blk_cell BK901.out 0).trans rfl, (blk_cell BK901.out 1).trans rfl, (blk_cell BK901.out 2).trans rfl, (blk_cell BK901.out 3).trans rfl, (blk_cell BK901.out 4).trans rfl, HS5_, HS6_, HS7_, HS8_, HS9_⟩ (fun hHeld => ?_)
           clear hK K
           refine no_ (some 73) ?_
           refine pu_ (i := 6) (N := some 74) ?_
           refine pn_ (i := 7) (N := some 75) ?_
           refine pn_ (i := 8) (N := some 76) ?_
           refine pn_ (i := 9) (N := some 77) ?_
           refine pn_ (i := 10) (N := some 78) ?_
           refine pn_ (i := 11) (N := some 79) ?_
           refine pn_ (i := 12) (N := some 80) ?_
           refine pu_ (i := 13) (N := some 81) ?_
           refine done_ (done_of HT_.out (by kernel_rfl)) ?_
           (try clear hHeld)
           try go_wp2
           go_ret
           exact ⟨rr_, bG_ GE901.out⟩
         · replace c39 := Bool.eq_false_iff.mpr c39
           subst c39
           rw [if_neg nf_] at H
           obtain ⟨t919, A42, H⟩ := bo_ H
           (try dsimp only at H)
           by_cases c43 : t919 = true
           · subst c43
             rw [if_pos rfl] at H
             obtain rfl := Option.some.inj H
             try go_wp2
             replace HO_3 := A_ (Kd.N_drew HO_3.out)
             replace HO_5 := A_ (Kd.N_drew HO_5.out)
             replace HO_9 := A_ (Kd.N_drew HO_9.out)
             replace HO_902001 := A_ (Kd.R_drew HO_902001.out)
             replace BK901 := A_ (blk_drew BK901.out)
             replace HB := A_ (below_drew1 HB.out)
             have p916 : 0 ≤ (x11_2 : Int) := of_decide_eq_true as_
             have q916 : x11_2 < (t891.length : Int) := of_decide_eq_true as_
             obtain ⟨ad916, A916_1, c916_1, e916, hx916_0, hx916_1, hx916_2, hx916_3, hx916_4, hl916_1, hi916_1⟩ := at_T28 (Kd.N_reads' HO_3.out).2.2 x11_2 p916 q916
             cases e916
             obtain ⟨ce916, hce916, hMe916, hcc916⟩ := Kd.N_get HO_3.out z28 x11_2 p916 (by first | exact q916 | exact of_decide_eq_true as_ | (have e_ := (Kd.N_reads' HO_3.out).1; omega))
             obtain ⟨ua916_1, uc916_1, rfl, ul916_1, ge916_1⟩ := k28_openF hMe916
             have hv916_1 := hcc916 1 _ rfl
             rw [add_field _ _ 1 (by omega)] at hv916_1
             replace hv916_1 := Option.some.inj (hv916_1.symm.trans hx916_1)
             injection hv916_1 with hva_ hvn_ hvc_
             rw [hva_] at ge916_1
             rw [hvc_] at ul916_1
             have HL916_1 := A_ (show Kd.V Kd.string 9 _ w.heap.size _ _ ((rd_T28 t891 x11_2).f1) from Kd.V_mk ul916_1 ge916_1)
             clear hva_ hvn_ hvc_ ge916_1 ul916_1
             clear hcc916 hce916
             have HR916_1 := Aside0.mk hi916_1
             have HC916_1 := Aside0.mk hl916_1
             clear hi916_1 hl916_1
             replace p916 := eq_true p916
             replace q916 := eq_true q916
             have p918 : 0 ≤ (x11_2 : Int) := of_decide_eq_true as_
             have q918 : x11_2 < (t891.length : Int) := of_decide_eq_true as_
             obtain ⟨ad918, A918_1, c918_1, e918, hx918_0, hx918_1, hx918_2, hx918_3, hx918_4, hl918_1, hi918_1⟩ := at_T28 (Kd.N_reads' HO_3.out).2.2 x11_2 p918 q918
             obtain rfl : ad916 = ad918 := (by injection e918)
             injection (Option.some.inj (hx916_1.symm.trans hx918_1)) with ea_ en_ ec_
             subst ea_
             subst ec_
             clear en_
             obtain ⟨ce918, hce918, hMe918, hcc918⟩ := Kd.N_get HO_3.out z28 x11_2 p918 (by first | exact q918 | exact of_decide_eq_true as_ | (have e_ := (Kd.N_reads' HO_3.out).1; omega))
             obtain ⟨ua918_1, uc918_1, rfl, ul918_1, ge918_1⟩ := k28_openF hMe918
             have hv918_1 := hcc918 1 _ rfl
             rw [add_field _ _ 1 (by omega)] at hv918_1
             replace hv918_1 := Option.some.inj (hv918_1.symm.trans hx918_1)
             injection hv918_1 with hva_ hvn_ hvc_
             rw [hva_] at ge918_1
             rw [hvc_] at ul918_1
             have HL918_1 := A_ (show Kd.V Kd.string 9 _ w.heap.size _ _ ((rd_T28 t891 x11_2).f1) from Kd.V_mk ul918_1 ge918_1)
             clear hva_ hvn_ hvc_ ge918_1 ul918_1
             clear hcc918 hce918
             have HR918_1 := Aside0.mk hi918_1
             have HC918_1 := Aside0.mk hl918_1
             clear hi918_1 hl918_1
             replace p918 := eq_true p918
             replace q918 := eq_true q918
             refine start_ (n := 14) (S := fun w' => w'.cell? ⟨gb901, 0, none⟩ = some (.int .i64 t894) ∧ w'.cell? ⟨gb901, 1, none⟩ = some (.slice Ao11 t895.length co11) ∧ w'.cell? ⟨gb901, 2, none⟩ = some (.bool t898) ∧ w'.cell? ⟨gb901, 3, none⟩ = some (.bool t899) ∧ w'.cell? ⟨gb901, 4, none⟩ = some (.int .i64 t900) ∧ w'.cell? (ad916.add ((x11_2).toNat * 5)) = some (.int .i64 ((rd_T28 t891 x11_2).f0)) ∧ w'.cell? ⟨(ad916.add ((x11_2).toNat * 5)).block, (ad916.add ((x11_2).toNat * 5)).off + 1, none⟩ = some (.slice A916_1 ((rd_T28 t891 x11_2).f1).length c916_1) ∧ w'.cell? ⟨(ad916.add ((x11_2).toNat * 5)).block, (ad916.add ((x11_2).toNat * 5)).off + 2, none⟩ = some (.bool ((rd_T28 t891 x11_2).f2)) ∧ w'.cell? ⟨(ad916.add ((x11_2).toNat * 5)).block, (ad916.add ((x11_2).toNat * 5)).off + 3, none⟩ = some (.bool ((rd_T28 t891 x11_2).f3)) ∧ w'.cell? ⟨(ad916.add ((x11_2).toNat * 5)).block, (ad916.add ((x11_2).toNat * 5)).off + 4, none⟩ = some (.int .i64 ((rd_T28 t891 x11_2).f4)) ∧ w'.cell? (ad916.add ((x11_2).toNat * 5)) = some (.int .i64 ((rd_T28 t891 x11_2).f0)) ∧ w'.cell? ⟨(ad916.add ((x11_2).toNat * 5)).block, (ad916.add ((x11_2).toNat * 5)).off + 1, none⟩ = some (.slice A916_1 ((rd_T28 t891 x11_2).f1).length c916_1) ∧ w'.cell? ⟨(ad916.add ((x11_2).toNat * 5)).block, (ad916.add ((x11_2).toNat * 5)).off + 2, none⟩ = some (.bool ((rd_T28 t891 x11_2).f2)) ∧ w'.cell? ⟨(ad916.add ((x11_2).toNat * 5)).block, (ad916.add ((x11_2).toNat * 5)).off + 3, none⟩ = some (.bool ((rd_T28 t891 x11_2).f3)) ∧ w'.cell? ⟨(ad916.add ((x11_2).toNat * 5)).block, (ad916.add ((x11_2).toNat * 5)).off + 4, none⟩ = some (.int .i64 ((rd_T28 t891 x11_2).f4))) (ds := []) #[false, false, false, false, false, false, false, false, false, false, false, false, false, false] (by kernel_rfl) rfl rfl ⟨(blk_cell BK901.out 0).trans rfl, (blk_cell BK901.out 1).trans rfl, (blk_cell BK901.out 2).trans rfl, (blk_cell BK901.out 3).trans rfl, (blk_cell BK901.out 4).trans rfl, hx916_0, hx916_1, hx916_2, hx916_3, hx916_4, hx918_0, hx918_1, hx918_2, hx918_3, hx918_4⟩ (fun hHeld => ?_); refine with_tabW laws_FnLocks.tab12 laws_FnLocks.bits12 (fun HT_ HW_ => ?_)
             generalize wr.drew = w44 at HO_3 HO_5 HO_9 HO_902001 BK901 HB HL916_1 HL918_1 HR916_1 HR918_1 hx916_0 hx916_1 hx916_2 hx916_3 hx916_4 hx918_0 hx918_1 hx918_2 hx918_3 hx918_4 hHeld ⊢
             refine pu_ (i := 0) (N := some 68) ?_
             refine pu_ (i := 1) (N := some 69) ?_
             refine pu_ (i := 2) (N := some 70) ?_
             refine tk_ (i := 3) (N := some 71) hHeld ?_
             refine tk_ (i := 4) (N := some 72) hHeld ?_
             refine on_ (i := 5) (N := some 73) (fun K hK => ?_)
             (try (have HR918_1 := HR916_1))
             (try (have HL918_1 := HL916_1))
             refine goes_ Try.func24 (by kernel_rfl) rfl #[.agg #[.int .i64 ((rd_T28 t891 x11_2).f0), .slice A916_1 ((rd_T28 t891 x11_2).f1).length c916_1, .bool ((rd_T28 t891 x11_2).f2), .bool ((rd_T28 t891 x11_2).f3), .int .i64 ((rd_T28 t891 x11_2).f4)], .agg #[.int .i64 t894, .slice Ao11 t895.length co11, .bool t898, .bool t899, .int .i64 t900]] (by rfl) rfl rfl ml_ ?_
             with_reducible refine (impl_LockClash.calls k2 ((rd_T28 t891 x11_2).f0) _ _ ((rd_T28 t891 x11_2).f1) ((rd_T28 t891 x11_2).f2) ((rd_T28 t891 x11_2).f3) ((rd_T28 t891 x11_2).f4) t894 _ _ t895 t898 t899 t900 false _ ?s1 ?s2 ?s3 ?s4 A38.out).mono ?_
             (case s1 => repeat (first | exact (cC_ HR916_1.out) | (with_reducible refine Kd.C_alloc ?_ _) | (with_reducible refine Kd.C_drewN ?_ _) | (with_reducible refine Kd.C_drew ?_)))
             (case s2 => exact HC916_1.out)
             (case s3 => exact cC_ (Kd.R_reads' HO_902001.out).2.2)
             (case s4 => exact (Kd.R_reads' HO_902001.out).2.1)
             rintro e w45 ⟨rfl, hb⟩
             have HS5_ := (hb.cell (World.block_lt_of_cell? _ _ (hHeld.2.2.2.2.2.1))).trans (hHeld.2.2.2.2.2.1)
             have HS6_ := (hb.cell (World.block_lt_of_cell? _ _ (hHeld.2.2.2.2.2.2.1))).trans (hHeld.2.2.2.2.2.2.1)
             have HS7_ := (hb.cell (World.block_lt_of_cell? _ _ (hHeld.2.2.2.2.2.2.2.1))).trans (hHeld.2.2.2.2.2.2.2.1)
             have HS8_ := (hb.cell (World.block_lt_of_cell? _ _ (hHeld.2.2.2.2.2.2.2.2.1))).trans (hHeld.2.2.2.2.2.2.2.2.1)
             have HS9_ := (hb.cell (World.block_lt_of_cell? _ _ (hHeld.2.2.2.2.2.2.2.2.2.1))).trans (hHeld.2.2.2.2.2.2.2.2.2.1)
             have HS10_ := (hb.cell (World.block_lt_of_cell? _ _ (hHeld.2.2.2.2.2.2.2.2.2.2.1))).trans (hHeld.2.2.2.2.2.2.2.2.2.2.1)
             have HS11_ := (hb.cell (World.block_lt_of_cell? _ _ (hHeld.2.2.2.2.2.2.2.2.2.2.2.1))).trans (hHeld.2.2.2.2.2.2.2.2.2.2.2.1)
             have HS12_ := (hb.cell (World.block_lt_of_cell? _ _ (hHeld.2.2.2.2.2.2.2.2.2.2.2.2.1))).trans (hHeld.2.2.2.2.2.2.2.2.2.2.2.2.1)
             have HS13_ := (hb.cell (World.block_lt_of_cell? _ _ (hHeld.2.2.2.2.2.2.2.2.2.2.2.2.2.1))).trans (hHeld.2.2.2.2.2.2.2.2.2.2.2.2.2.1)
             have HS14_ := (hb.cell (World.block_lt_of_cell? _ _ (hHeld.2.2.2.2.2.2.2.2.2.2.2.2.2.2))).trans (hHeld.2.2.2.2.2.2.2.2.2.2.2.2.2.2)
             refine ⟨_, rfl, ?_⟩
             (try (have HR918_1 := A_ (Kd.C_below (cC_ HR918_1.out) hb)))
             replace HO_3 := A_ (Kd.N_below (vN_ HO_3.out) hb)
             replace HO_5 := A_ (Kd.N_below (vN_ HO_5.out) hb)
             replace HO_9 := A_ (Kd.N_below (vN_ HO_9.out) hb)
             replace HO_902001 := A_ (Kd.R_below (vR_ HO_902001.out) hb)
             replace HL916_1 := A_ (Kd.V_below (vV_ HL916_1.out) hb)
             replace BK901 := A_ (bw_ BK901.out hb)
             replace HR916_1 := A_ (Kd.C_below (cC_ HR916_1.out) hb)
             replace HB := A_ (below_step (bG_ GE901.out) hb)
             (try clear hb)
             (try clear hb2)
             (try clear hk)
             (try clear hi)
             refine hK.out _ _ ⟨(blk_cell BK901.out 0).trans rfl, (blk_cell BK901.out 1).trans rfl, (blk_cell BK901.out 2).trans rfl, (blk_cell BK901.out 3).trans rfl, (blk_cell BK901.out 4).trans rfl, HS5_, HS6_, HS7_, HS8_, HS9_, HS10_, HS11_, HS12_, HS13_, HS14_⟩ (fun hHeld => ?_)
             clear hK K
             refine no_ (some 73) ?_
             refine pu_ (i := 6) (N := some 74) ?_
             refine pu_ (i := 8) (N := some 76) ?_
             refine pu_ (i := 9) (N := some 77) ?_
             refine pu_ (i := 10) (N := some 78) ?_
             refine tk_ (i := 7) (N := some 75) hHeld ?_
             refine tk_ (i := 11) (N := some 79) hHeld ?_
             refine on_ (i := 12) (N := some 80) (fun K hK => ?_)
             (try (have HR918_1 := HR916_1))
             (try (have HL918_1 := HL916_1))
             refine goes_ Try.func24 (by kernel_rfl) rfl #[.agg #[.int .i64 t894, .slice Ao11 t895.length co11, .bool t898, .bool t899, .int .i64 t900], .agg #[.int .i64 ((rd_T28 t891 x11_2).f0), .slice A916_1 ((rd_T28 t891 x11_2).f1).length c916_1, .bool ((rd_T28 t891 x11_2).f2), .bool ((rd_T28 t891 x11_2).f3), .int .i64 ((rd_T28 t891 x11_2).f4)]] (by rfl) rfl rfl ml_ ?_
             with_reducible refine (impl_LockClash.calls k2 t894 _ _ t895 t898 t899 t900 ((rd_T28 t891 x11_2).f0) _ _ ((rd_T28 t891 x11_2).f1) ((rd_T28 t891 x11_2).f2) ((rd_T28 t891 x11_2).f3) ((rd_T28 t891 x11_2).f4) true _ ?s1 ?s2 ?s3 ?s4 A42.out).mono ?_
             (case s1 => exact cC_ (Kd.R_reads' HO_902001.out).2.2)
             (case s2 => exact (Kd.R_reads' HO_902001.out).2.1)
             (case s3 => repeat (first | exact (cC_ HR918_1.out) | (with_reducible refine Kd.C_alloc ?_ _) | (with_reducible refine Kd.C_drewN ?_ _) | (with_reducible refine Kd.C_drew ?_)))
             (case s4 => exact HC918_1.out)
             rintro e w46 ⟨rfl, hb⟩
             have HS5_ := (hb.cell (World.block_lt_of_cell? _ _ (hHeld.2.2.2.2.2.1))).trans (hHeld.2.2.2.2.2.1)
             have HS6_ := (hb.cell (World.block_lt_of_cell? _ _ (hHeld.2.2.2.2.2.2.1))).trans (hHeld.2.2.2.2.2.2.1)
             have HS7_ := (hb.cell (World.block_lt_of_cell? _ _ (hHeld.2.2.2.2.2.2.2.1))).trans (hHeld.2.2.2.2.2.2.2.1)
             have HS8_ := (hb.cell (World.block_lt_of_cell? _ _ (hHeld.2.2.2.2.2.2.2.2.1))).trans (hHeld.2.2.2.2.2.2.2.2.1)
             have HS9_ := (hb.cell (World.block_lt_of_cell? _ _ (hHeld.2.2.2.2.2.2.2.2.2.1))).trans (hHeld.2.2.2.2.2.2.2.2.2.1)
             have HS10_ := (hb.cell (World.block_lt_of_cell? _ _ (hHeld.2.2.2.2.2.2.2.2.2.2.1))).trans (hHeld.2.2.2.2.2.2.2.2.2.2.1)
             have HS11_ := (hb.cell (World.block_lt_of_cell? _ _ (hHeld.2.2.2.2.2.2.2.2.2.2.2.1))).trans (hHeld.2.2.2.2.2.2.2.2.2.2.2.1)
             have HS12_ := (hb.cell (World.block_lt_of_cell? _ _ (hHeld.2.2.2.2.2.2.2.2.2.2.2.2.1))).trans (hHeld.2.2.2.2.2.2.2.2.2.2.2.2.1)
             have HS13_ := (hb.cell (World.block_lt_of_cell? _ _ (hHeld.2.2.2.2.2.2.2.2.2.2.2.2.2.1))).trans (hHeld.2.2.2.2.2.2.2.2.2.2.2.2.2.1)
             have HS14_ := (hb.cell (World.block_lt_of_cell? _ _ (hHeld.2.2.2.2.2.2.2.2.2.2.2.2.2.2))).trans (hHeld.2.2.2.2.2.2.2.2.2.2.2.2.2.2)
             refine ⟨_, rfl, ?_⟩
             replace HO_3 := A_ (Kd.N_below (vN_ HO_3.out) hb)
             replace HO_5 := A_ (Kd.N_below (vN_ HO_5.out) hb)
             replace HO_9 := A_ (Kd.N_below (vN_ HO_9.out) hb)
             replace HO_902001 := A_ (Kd.R_below (vR_ HO_902001.out) hb)
             replace HL916_1 := A_ (Kd.V_below (vV_ HL916_1.out) hb)
             replace HL918_1 := A_ (Kd.V_below (vV_ HL918_1.out) hb)
             replace BK901 := A_ (bw_ BK901.out hb)
             replace HR916_1 := A_ (Kd.C_below (cC_ HR916_1.out) hb)
             replace HR918_1 := A_ (Kd.C_below (cC_ HR918_1.out) hb)
             replace HB := A_ (below_step (bG_ GE901.out) hb)
             (try clear hb)
             (try clear hb2)
             (try clear hk)
             (try clear hi)
             refine hK.out _ _ ⟨(blk_cell BK901.out 0).trans rfl, (blk_cell BK901.out 1).trans rfl, (blk_cell BK901.out 2).trans rfl, (blk_cell BK901.out 3).trans rfl, (blk_cell BK901.out 4).trans rfl, HS5_, HS6_, HS7_, HS8_, HS9_, HS10_, HS11_, HS12_, HS13_, HS14_⟩ (fun hHeld => ?_)
             clear hK K
             refine no_ (some 80) ?_
             refine pu_ (i := 13) (N := some 81) ?_
             refine done_ (done_of HT_.out (by kernel_rfl)) ?_
             (try clear hHeld)
             try go_wp2
             go_ret
             exact ⟨rr_, bG_ GE901.out⟩
           · replace c43 := Bool.eq_false_iff.mpr c43
             subst c43
             rw [if_neg nf_] at H
             have H' := Aside0.mk H
             clear H
             try go_wp2
             replace HO_3 := A_ (Kd.N_drew HO_3.out)
             replace HO_5 := A_ (Kd.N_drew HO_5.out)
             replace HO_9 := A_ (Kd.N_drew HO_9.out)
             replace HO_902001 := A_ (Kd.R_drew HO_902001.out)
             replace BK901 := A_ (blk_drew BK901.out)
             replace HB := A_ (below_drew1 HB.out)
             have p916 : 0 ≤ (x11_2 : Int) := of_decide_eq_true as_
             have q916 : x11_2 < (t891.length : Int) := of_decide_eq_true as_
             obtain ⟨ad916, A916_1, c916_1, e916, hx916_0, hx916_1, hx916_2, hx916_3, hx916_4, hl916_1, hi916_1⟩ := at_T28 (Kd.N_reads' HO_3.out).2.2 x11_2 p916 q916
             cases e916
             obtain ⟨ce916, hce916, hMe916, hcc916⟩ := Kd.N_get HO_3.out z28 x11_2 p916 (by first | exact q916 | exact of_decide_eq_true as_ | (have e_ := (Kd.N_reads' HO_3.out).1; omega))
             obtain ⟨ua916_1, uc916_1, rfl, ul916_1, ge916_1⟩ := k28_openF hMe916
             have hv916_1 := hcc916 1 _ rfl
             rw [add_field _ _ 1 (by omega)] at hv916_1
             replace hv916_1 := Option.some.inj (hv916_1.symm.trans hx916_1)
             injection hv916_1 with hva_ hvn_ hvc_
             rw [hva_] at ge916_1
             rw [hvc_] at ul916_1
             have HL916_1 := A_ (show Kd.V Kd.string 9 _ w.heap.size _ _ ((rd_T28 t891 x11_2).f1) from Kd.V_mk ul916_1 ge916_1)
             clear hva_ hvn_ hvc_ ge916_1 ul916_1
             clear hcc916 hce916
             have HR916_1 := Aside0.mk hi916_1
             have HC916_1 := Aside0.mk hl916_1
             clear hi916_1 hl916_1
             replace p916 := eq_true p916
             replace q916 := eq_true q916
             have p918 : 0 ≤ (x11_2 : Int) := of_decide_eq_true as_
             have q918 : x11_2 < (t891.length : Int) := of_decide_eq_true as_
             obtain ⟨ad918, A918_1, c918_1, e918, hx918_0, hx918_1, hx918_2, hx918_3, hx918_4, hl918_1, hi918_1⟩ := at_T28 (Kd.N_reads' HO_3.out).2.2 x11_2 p918 q918
             obtain rfl : ad916 = ad918 := (by injection e918)
             injection (Option.some.inj (hx916_1.symm.trans hx918_1)) with ea_ en_ ec_
             subst ea_
             subst ec_
             clear en_
             obtain ⟨ce918, hce918, hMe918, hcc918⟩ := Kd.N_get HO_3.out z28 x11_2 p918 (by first | exact q918 | exact of_decide_eq_true as_ | (have e_ := (Kd.N_reads' HO_3.out).1; omega))
             obtain ⟨ua918_1, uc918_1, rfl, ul918_1, ge918_1⟩ := k28_openF hMe918
             have hv918_1 := hcc918 1 _ rfl
             rw [add_field _ _ 1 (by omega)] at hv918_1
             replace hv918_1 := Option.some.inj (hv918_1.symm.trans hx918_1)
             injection hv918_1 with hva_ hvn_ hvc_
             rw [hva_] at ge918_1
             rw [hvc_] at ul918_1
             have HL918_1 := A_ (show Kd.V Kd.string 9 _ w.heap.size _ _ ((rd_T28 t891 x11_2).f1) from Kd.V_mk ul918_1 ge918_1)
             clear hva_ hvn_ hvc_ ge918_1 ul918_1
             clear hcc918 hce918
             have HR918_1 := Aside0.mk hi918_1
             have HC918_1 := Aside0.mk hl918_1
             clear hi918_1 hl918_1
             replace p918 := eq_true p918
             replace q918 := eq_true q918
             refine start_ (n := 14) (S := fun w' => w'.cell? ⟨gb901, 0, none⟩ = some (.int .i64 t894) ∧ w'.cell? ⟨gb901, 1, none⟩ = some (.slice Ao11 t895.length co11) ∧ w'.cell? ⟨gb901, 2, none⟩ = some (.bool t898) ∧ w'.cell? ⟨gb901, 3, none⟩ = some (.bool t899) ∧ w'.cell? ⟨gb901, 4, none⟩ = some (.int .i64 t900) ∧ w'.cell? (ad916.add ((x11_2).toNat * 5)) = some (.int .i64 ((rd_T28 t891 x11_2).f0)) ∧ w'.cell? ⟨(ad916.add ((x11_2).toNat * 5)).block, (ad916.add ((x11_2).toNat * 5)).off + 1, none⟩ = some (.slice A916_1 ((rd_T28 t891 x11_2).f1).length c916_1) ∧ w'.cell? ⟨(ad916.add ((x11_2).toNat * 5)).block, (ad916.add ((x11_2).toNat * 5)).off + 2, none⟩ = some (.bool ((rd_T28 t891 x11_2).f2)) ∧ w'.cell? ⟨(ad916.add ((x11_2).toNat * 5)).block, (ad916.add ((x11_2).toNat * 5)).off + 3, none⟩ = some (.bool ((rd_T28 t891 x11_2).f3)) ∧ w'.cell? ⟨(ad916.add ((x11_2).toNat * 5)).block, (ad916.add ((x11_2).toNat * 5)).off + 4, none⟩ = some (.int .i64 ((rd_T28 t891 x11_2).f4)) ∧ w'.cell? (ad916.add ((x11_2).toNat * 5)) = some (.int .i64 ((rd_T28 t891 x11_2).f0)) ∧ w'.cell? ⟨(ad916.add ((x11_2).toNat * 5)).block, (ad916.add ((x11_2).toNat * 5)).off + 1, none⟩ = some (.slice A916_1 ((rd_T28 t891 x11_2).f1).length c916_1) ∧ w'.cell? ⟨(ad916.add ((x11_2).toNat * 5)).block, (ad916.add ((x11_2).toNat * 5)).off + 2, none⟩ = some (.bool ((rd_T28 t891 x11_2).f2)) ∧ w'.cell? ⟨(ad916.add ((x11_2).toNat * 5)).block, (ad916.add ((x11_2).toNat * 5)).off + 3, none⟩ = some (.bool ((rd_T28 t891 x11_2).f3)) ∧ w'.cell? ⟨(ad916.add ((x11_2).toNat * 5)).block, (ad916.add ((x11_2).toNat * 5)).off + 4, none⟩ = some (.int .i64 ((rd_T28 t891 x11_2).f4))) (ds := []) #[false, false, false, false, false, false, false, false, false, false, false, false, false, false] (by kernel_rfl) rfl rfl ⟨(blk_cell BK901.out 0).trans rfl, (blk_cell BK901.out 1).trans rfl, (blk_cell BK901.out 2).trans rfl, (blk_cell BK901.out 3).trans rfl, (blk_cell BK901.out 4).trans rfl, hx916_0, hx916_1, hx916_2, hx916_3, hx916_4, hx918_0, hx918_1, hx918_2, hx918_3, hx918_4⟩ (fun hHeld => ?_); refine with_tabW laws_FnLocks.tab12 laws_FnLocks.bits12 (fun HT_ HW_ => ?_)
             generalize wr.drew = w47 at HO_3 HO_5 HO_9 HO_902001 BK901 HB HL916_1 HL918_1 HR916_1 HR918_1 hx916_0 hx916_1 hx916_2 hx916_3 hx916_4 hx918_0 hx918_1 hx918_2 hx918_3 hx918_4 hHeld ⊢
             refine pu_ (i := 0) (N := some 68) ?_
             refine pu_ (i := 1) (N := some 69) ?_
             refine pu_ (i := 2) (N := some 70) ?_
             refine tk_ (i := 3) (N := some 71) hHeld ?_
             refine tk_ (i := 4) (N := some 72) hHeld ?_
             refine on_ (i := 5) (N := some 73) (fun K hK => ?_)
             (try (have HR918_1 := HR916_1))
             (try (have HL918_1 := HL916_1))
             refine goes_ Try.func24 (by kernel_rfl) rfl #[.agg #[.int .i64 ((rd_T28 t891 x11_2).f0), .slice A916_1 ((rd_T28 t891 x11_2).f1).length c916_1, .bool ((rd_T28 t891 x11_2).f2), .bool ((rd_T28 t891 x11_2).f3), .int .i64 ((rd_T28 t891 x11_2).f4)], .agg #[.int .i64 t894, .slice Ao11 t895.length co11, .bool t898, .bool t899, .int .i64 t900]] (by rfl) rfl rfl ml_ ?_
             with_reducible refine (impl_LockClash.calls k2 ((rd_T28 t891 x11_2).f0) _ _ ((rd_T28 t891 x11_2).f1) ((rd_T28 t891 x11_2).f2) ((rd_T28 t891 x11_2).f3) ((rd_T28 t891 x11_2).f4) t894 _ _ t895 t898 t899 t900 false _ ?s1 ?s2 ?s3 ?s4 A38.out).mono ?_
             (case s1 => repeat (first | exact (cC_ HR916_1.out) | (with_reducible refine Kd.C_alloc ?_ _) | (with_reducible refine Kd.C_drewN ?_ _) | (with_reducible refine Kd.C_drew ?_)))
             (case s2 => exact HC916_1.out)
             (case s3 => exact cC_ (Kd.R_reads' HO_902001.out).2.2)
             (case s4 => exact (Kd.R_reads' HO_902001.out).2.1)
             rintro e w48 ⟨rfl, hb⟩
             have HS5_ := (hb.cell (World.block_lt_of_cell? _ _ (hHeld.2.2.2.2.2.1))).trans (hHeld.2.2.2.2.2.1)
             have HS6_ := (hb.cell (World.block_lt_of_cell? _ _ (hHeld.2.2.2.2.2.2.1))).trans (hHeld.2.2.2.2.2.2.1)
             have HS7_ := (hb.cell (World.block_lt_of_cell? _ _ (hHeld.2.2.2.2.2.2.2.1))).trans (hHeld.2.2.2.2.2.2.2.1)
             have HS8_ := (hb.cell (World.block_lt_of_cell? _ _ (hHeld.2.2.2.2.2.2.2.2.1))).trans (hHeld.2.2.2.2.2.2.2.2.1)
             have HS9_ := (hb.cell (World.block_lt_of_cell? _ _ (hHeld.2.2.2.2.2.2.2.2.2.1))).trans (hHeld.2.2.2.2.2.2.2.2.2.1)
             have HS10_ := (hb.cell (World.block_lt_of_cell? _ _ (hHeld.2.2.2.2.2.2.2.2.2.2.1))).trans (hHeld.2.2.2.2.2.2.2.2.2.2.1)
             have HS11_ := (hb.cell (World.block_lt_of_cell? _ _ (hHeld.2.2.2.2.2.2.2.2.2.2.2.1))).trans (hHeld.2.2.2.2.2.2.2.2.2.2.2.1)
             have HS12_ := (hb.cell (World.block_lt_of_cell? _ _ (hHeld.2.2.2.2.2.2.2.2.2.2.2.2.1))).trans (hHeld.2.2.2.2.2.2.2.2.2.2.2.2.1)
             have HS13_ := (hb.cell (World.block_lt_of_cell? _ _ (hHeld.2.2.2.2.2.2.2.2.2.2.2.2.2.1))).trans (hHeld.2.2.2.2.2.2.2.2.2.2.2.2.2.1)
             have HS14_ := (hb.cell (World.block_lt_of_cell? _ _ (hHeld.2.2.2.2.2.2.2.2.2.2.2.2.2.2))).trans (hHeld.2.2.2.2.2.2.2.2.2.2.2.2.2.2)
             refine ⟨_, rfl, ?_⟩
             (try (have HR918_1 := A_ (Kd.C_below (cC_ HR918_1.out) hb)))
             replace HO_3 := A_ (Kd.N_below (vN_ HO_3.out) hb)
             replace HO_5 := A_ (Kd.N_below (vN_ HO_5.out) hb)
             replace HO_9 := A_ (Kd.N_below (vN_ HO_9.out) hb)
             replace HO_902001 := A_ (Kd.R_below (vR_ HO_902001.out) hb)
             replace HL916_1 := A_ (Kd.V_below (vV_ HL916_1.out) hb)
             replace BK901 := A_ (bw_ BK901.out hb)
             replace HR916_1 := A_ (Kd.C_below (cC_ HR916_1.out) hb)
             replace HB := A_ (below_step (bG_ GE901.out) hb)
             (try clear hb)
             (try clear hb2)
             (try clear hk)
             (try clear hi)
             refine hK.out _ _ ⟨(blk_cell BK901.out 0).trans rfl, (blk_cell BK901.out 1).trans rfl, (blk_cell BK901.out 2).trans rfl, (blk_cell BK901.out 3).trans rfl, (blk_cell BK901.out 4).trans rfl, HS5_, HS6_, HS7_, HS8_, HS9_, HS10_, HS11_, HS12_, HS13_, HS14_⟩ (fun hHeld => ?_)
             clear hK K
             refine no_ (some 73) ?_
             refine pu_ (i := 6) (N := some 74) ?_
             refine pu_ (i := 8) (N := some 76) ?_
             refine pu_ (i := 9) (N := some 77) ?_
             refine pu_ (i := 10) (N := some 78) ?_
             refine tk_ (i := 7) (N := some 75) hHeld ?_
             refine tk_ (i := 11) (N := some 79) hHeld ?_
             refine on_ (i := 12) (N := some 80) (fun K hK => ?_)
             (try (have HR918_1 := HR916_1))
             (try (have HL918_1 := HL916_1))
             refine goes_ Try.func24 (by kernel_rfl) rfl #[.agg #[.int .i64 t894, .slice Ao11 t895.length co11, .bool t898, .bool t899, .int .i64 t900], .agg #[.int .i64 ((rd_T28 t891 x11_2).f0), .slice A916_1 ((rd_T28 t891 x11_2).f1).length c916_1, .bool ((rd_T28 t891 x11_2).f2), .bool ((rd_T28 t891 x11_2).f3), .int .i64 ((rd_T28 t891 x11_2).f4)]] (by rfl) rfl rfl ml_ ?_
             with_reducible refine (impl_LockClash.calls k2 t894 _ _ t895 t898 t899 t900 ((rd_T28 t891 x11_2).f0) _ _ ((rd_T28 t891 x11_2).f1) ((rd_T28 t891 x11_2).f2) ((rd_T28 t891 x11_2).f3) ((rd_T28 t891 x11_2).f4) false _ ?s1 ?s2 ?s3 ?s4 A42.out).mono ?_
             (case s1 => exact cC_ (Kd.R_reads' HO_902001.out).2.2)
             (case s2 => exact (Kd.R_reads' HO_902001.out).2.1)
             (case s3 => repeat (first | exact (cC_ HR918_1.out) | (with_reducible refine Kd.C_alloc ?_ _) | (with_reducible refine Kd.C_drewN ?_ _) | (with_reducible refine Kd.C_drew ?_)))
             (case s4 => exact HC918_1.out)
             rintro e w49 ⟨rfl, hb⟩
             have HS5_ := (hb.cell (World.block_lt_of_cell? _ _ (hHeld.2.2.2.2.2.1))).trans (hHeld.2.2.2.2.2.1)
             have HS6_ := (hb.cell (World.block_lt_of_cell? _ _ (hHeld.2.2.2.2.2.2.1))).trans (hHeld.2.2.2.2.2.2.1)
             have HS7_ := (hb.cell (World.block_lt_of_cell? _ _ (hHeld.2.2.2.2.2.2.2.1))).trans (hHeld.2.2.2.2.2.2.2.1)
             have HS8_ := (hb.cell (World.block_lt_of_cell? _ _ (hHeld.2.2.2.2.2.2.2.2.1))).trans (hHeld.2.2.2.2.2.2.2.2.1)
             have HS9_ := (hb.cell (World.block_lt_of_cell? _ _ (hHeld.2.2.2.2.2.2.2.2.2.1))).trans (hHeld.2.2.2.2.2.2.2.2.2.1)
             have HS10_ := (hb.cell (World.block_lt_of_cell? _ _ (hHeld.2.2.2.2.2.2.2.2.2.2.1))).trans (hHeld.2.2.2.2.2.2.2.2.2.2.1)
             have HS11_ := (hb.cell (World.block_lt_of_cell? _ _ (hHeld.2.2.2.2.2.2.2.2.2.2.2.1))).trans (hHeld.2.2.2.2.2.2.2.2.2.2.2.1)
             have HS12_ := (hb.cell (World.block_lt_of_cell? _ _ (hHeld.2.2.2.2.2.2.2.2.2.2.2.2.1))).trans (hHeld.2.2.2.2.2.2.2.2.2.2.2.2.1)
             have HS13_ := (hb.cell (World.block_lt_of_cell? _ _ (hHeld.2.2.2.2.2.2.2.2.2.2.2.2.2.1))).trans (hHeld.2.2.2.2.2.2.2.2.2.2.2.2.2.1)
             have HS14_ := (hb.cell (World.block_lt_of_cell? _ _ (hHeld.2.2.2.2.2.2.2.2.2.2.2.2.2.2))).trans (hHeld.2.2.2.2.2.2.2.2.2.2.2.2.2.2)
             refine ⟨_, rfl, ?_⟩
             replace HO_3 := A_ (Kd.N_below (vN_ HO_3.out) hb)
             replace HO_5 := A_ (Kd.N_below (vN_ HO_5.out) hb)
             replace HO_9 := A_ (Kd.N_below (vN_ HO_9.out) hb)
             replace HO_902001 := A_ (Kd.R_below (vR_ HO_902001.out) hb)
             replace HL916_1 := A_ (Kd.V_below (vV_ HL916_1.out) hb)
             replace HL918_1 := A_ (Kd.V_below (vV_ HL918_1.out) hb)
             replace BK901 := A_ (bw_ BK901.out hb)
             replace HR916_1 := A_ (Kd.C_below (cC_ HR916_1.out) hb)
             replace HR918_1 := A_ (Kd.C_below (cC_ HR918_1.out) hb)
             replace HB := A_ (below_step (bG_ GE901.out) hb)
             (try clear hb)
             (try clear hb2)
             (try clear hk)
             (try clear hi)
             refine hK.out _ _ ⟨(blk_cell BK901.out 0).trans rfl, (blk_cell BK901.out 1).trans rfl, (blk_cell BK901.out 2).trans rfl, (blk_cell BK901.out 3).trans rfl, (blk_cell BK901.out 4).trans rfl, HS5_, HS6_, HS7_, HS8_, HS9_, HS10_, HS11_, HS12_, HS13_, HS14_⟩ (fun hHeld => ?_)
             clear hK K
             refine no_ (some 80) ?_
             refine pu_ (i := 13) (N := some 81) ?_
             refine done_ (done_of HT_.out (by kernel_rfl)) ?_
             (try clear hHeld)
             try go_wp2
             go_roundg k2
             case measure => have := HJ6.out; have := HK2.out; omega
             case rel => exact ⟨(wrap64 (x11_2 + 1)), rs_, H', ⟨by have := HJ6.out; have := HK2.out; omega⟩, ⟨vN_ HO_3.out⟩, ⟨vN_ HO_5.out⟩, ⟨vN_ HO_9.out⟩, ⟨vR_ HO_902001.out⟩, ⟨vb_ BK901.out⟩, ⟨bG_ GE901.out⟩⟩
def laws_FnLocks.Pure : Prop := ∀ (l0 : List Int), l0.length ≤ maxLen → l0.length * 1 ≤ 140737488351232 → (∀ x ∈ l0, (Lit.int .u8 x).wf = true) → ∃ k, laws_FnLocks.f k l0 = some true
theorem laws_FnLocks.walk (P : laws_FnLocks.Pure) (a0 : Option Addr) (len0 cap0 : Nat) (z0 : List Int) (w : World) (w0 : (a0 = none ∧ len0 = 0 ∧ cap0 = 0 ∧ z0 = []) ∨ ∃ x, a0 = some x ∧ len0 ≤ cap0 ∧ cap0 ≤ maxLen ∧ z0.length = cap0 ∧ (∀ i, i < z0.length → w.cell? (x.add i) = some (.int .u8 (z0.getD i 0))) ∧ ∀ n ∈ z0, (Lit.int .u8 n).wf = true) (y0 : len0 * 1 ≤ 140737488351232) :
 Calls Try.prog 13 #[.slice a0 len0 cap0] w fun e w' => e = .returned (.bool true) ∧ Below w.heap.size w w' := by
 obtain ⟨l0, rfl, hr0, hm0, hw0, hc0⟩ := ReadsInt.ofRowC w0
 obtain ⟨k, h⟩ := P l0 hm0 y0 hw0
 refine (laws_FnLocks.calls k _ _ l0 true w (Kd.C_of_reads (d := (0 : Int)) (h1 := fun _ => rfl) hr0) hc0 h).mono ?_
 rintro e w' ⟨rfl, hd⟩
 exact ⟨rfl, hd⟩
end Go.Proofs.Ytiddgglidkbipaa.Q

/- What a reading of a parameter says of its cells, kind by kind: for the rows of laws whose parameters are slices and structs. No condition. -/
namespace Go.Proofs.Ytiddgglidkbipaa.Op
open Go.RowKit Go.ChangeShapes Go.WideShapes Go.Proofs.YtiddgglidkbipaaW.PrintWords
def Opens {α H : Type} (enc : TypeId × Value → H) (P : Program) (w : World) (t : TypeId) (d : Kd α) (G : α → Prop) : Prop :=
  ∀ fuel cs x, DataW.trod enc P w 0 (fun _ => true) true fuel t cs = some x → ∃ a, d.K w a cs ∧ G a
section
variable {H : Type} {enc : TypeId × Value → H} {P : Program} {w : World} {t : TypeId}
theorem opens_int {k : IntKind} (ht : P.underlying t = some (.int k)) : Opens enc P w t (Kd.int k) (fun n => (Lit.int k n).wf = true) := by
  intro fuel cs x h
  obtain ⟨n, rfl, _, hn⟩ := DataW.trod_int ht h
  exact ⟨n, rfl, hn⟩
theorem opens_slice {α : Type} [Inhabited α] {e : TypeId} {d : Kd α} {G : α → Prop} (ht : P.underlying t = some (.slice e)) (hc : P.cellsOf e = d.sz) (he : Opens enc P w e d G) :
    Opens enc P w t (Kd.slice e d) (fun l => l.length ≤ maxLen ∧ ∀ a ∈ l, G a) := by
  intro fuel cs x h
  rcases Go.Deep.open_slice ht h with ⟨rfl, _⟩ | ⟨a, len, cap, m, n, D, Pl, rfl, _, hl, hm, hmm, _, hx⟩
  · exact ⟨[], ⟨none, 0, rfl, Nat.le_refl _, Kd.C_nil d w⟩, by simp, by simp⟩
  · have hm' : m = cap := by simpa using hmm
    have each : ∀ i, i < len → ∃ y : α, G y ∧ ∃ c, d.K w y c ∧ ∀ j u, c[j]? = some u → w.cell? (a.add (i * d.sz + j)) = some u := fun i hi => by
      obtain ⟨cs', h1, h2⟩ := hx i (by omega)
      obtain ⟨y, hK, hG⟩ := he _ _ _ h2
      obtain ⟨_, h3, h4⟩ := World.cells?_some h1
      refine ⟨y, hG, cs', hK, fun j u hu => ?_⟩
      have hj : j < P.cellsOf e := by
        have := (List.getElem?_eq_some_iff.1 hu).1
        omega
      have h5 := h4 j hj
      rw [Go.Deep.add_add, hc, hu] at h5
      exact h5
    obtain ⟨f, hf⟩ := Go.Deep.choose_lt each
    have hmax : maxLen = 9223372036854775807 := by decide
    refine ⟨(List.range len).map f, ⟨some a, cap, by simp, by simpa using hl, ?_⟩, by simp; omega, ?_⟩
    · refine ⟨rfl, by simp; omega, fun _ => ⟨a, rfl, fun j p hj => ?_⟩⟩
      have hjl : j < len := by
        have := (List.getElem?_eq_some_iff.1 hj).1
        simpa using this
      have hp : f j = p := by
        rw [List.getElem?_map, List.getElem?_range hjl] at hj
        simpa using hj
      obtain ⟨_, c, hK, hcell⟩ := hf j hjl
      exact ⟨c, d.K_len hK, hp ▸ hK, hcell⟩
    · intro y hy
      obtain ⟨j, hj, rfl⟩ := List.mem_map.1 hy
      exact (hf j (List.mem_range.1 hj)).1
end
end Go.Proofs.Ytiddgglidkbipaa.Op

/- What a reading of a struct says of its cells. No condition. -/
namespace Go.Proofs.Ytiddgglidkbipaa.Q
open Go.RowKit Go.ChangeShapes Go.WideShapes Go.Proofs.YtiddgglidkbipaaW.PrintWords Go.Proofs.Ytiddgglidkbipaa
set_option linter.unusedVariables false
set_option linter.unusedSimpArgs false
instance : Inhabited S24 := ⟨z24⟩
end Go.Proofs.Ytiddgglidkbipaa.Q

/- Small lemmas for plain laws over rounds: indices as lengths of what was passed, bytes' equality. No condition. -/
set_option linter.unusedSimpArgs false
set_option linter.unusedVariables false
namespace Go.Proofs.Ytiddgglidkbipaa.L
open Go.RowKit Go.Proofs.YtiddgglidkbipaaW.PrintWords Go.Proofs.YtiddgglidkbipaaW.PrintLast
theorem ba_toList (s : ByteArray) : s.toList = s.data.toList := ByteArray.toList_eq s
theorem ba_inj {a b : ByteArray} (h : a.toList = b.toList) : a = b := by
  rw [ba_toList, ba_toList] at h
  cases a with | mk x => cases b with | mk y => congr 1; exact Array.toList_inj.1 h
theorem ba_eq {a b : ByteArray} : (a.toList = b.toList) = (a = b) := propext ⟨ba_inj, fun h => by rw [h]⟩
theorem maxLen_eq : maxLen = 9223372036854775807 := by decide
theorem wrap_id {x : Int} (h0 : -9223372036854775808 ≤ x) (h1 : x < 9223372036854775808) : wrap64 x = x := by
  unfold wrap64
  omega
section
variable {α : Type} {l pre suf : List α} {a : α}
theorem lt_at (h : l = pre ++ a :: suf) : ((pre.length : Nat) : Int) < (l.length : Int) := by subst h; simp; omega
theorem rd_at (d : α) (h : l = pre ++ a :: suf) : rdOf d l (pre.length : Int) = a := by subst h; simp [rdOf, List.getD_eq_getElem?_getD]
theorem getD_at (d : α) (h : l = pre ++ a :: suf) : l.getD ((pre.length : Nat) : Int).toNat d = a := by subst h; simp [List.getD_eq_getElem?_getD]
theorem next_at (h : l = pre ++ a :: suf) (hl : l.length ≤ maxLen) : wrap64 ((pre.length : Int) + 1) = ((pre ++ [a]).length : Int) := by
  have : l.length = pre.length + 1 + suf.length := by subst h; simp; omega
  rw [maxLen_eq] at hl
  rw [wrap_id (by omega) (by omega)]
  simp
theorem snoc_at (h : l = pre ++ a :: suf) : l = (pre ++ [a]) ++ suf := by subst h; simp
theorem end_at (h : l = pre ++ []) : ¬ ((pre.length : Nat) : Int) < (l.length : Int) := by subst h; simp
theorem nonneg_at (n : Nat) : (0 : Int) ≤ (n : Int) := Int.natCast_nonneg n
end
def IntOk (x : Int) : Prop := -9223372036854775808 ≤ x ∧ x < 9223372036854775808
def SmS (l : List ByteArray) : Prop := l.length ≤ 1048576 ∧ ∀ s ∈ l, s.size ≤ 1048576
theorem eq_loop {α : Type} [DecidableEq α] {a b : List α} (g : Nat → Int → Option Bool)
    (hend : Ev (fun k => g k a.length) true)
    (hstep : ∀ pre x su pre' y sv, a = pre ++ x :: su → b = pre' ++ y :: sv → pre.length = pre'.length → (x ≠ y → Ev (fun k => g k (pre.length : Int)) false) ∧ (x = y → ∀ r, Ev (fun k => g k ((pre ++ [x]).length : Int)) r → Ev (fun k => g k (pre.length : Int)) r)) :
    ∀ (su sv pu pv : List α), a = pu ++ su → b = pv ++ sv → pu.length = pv.length → su.length = sv.length → Ev (fun k => g k (pu.length : Int)) (decide (su = sv)) := by
  intro su
  induction su with
  | nil =>
    intro sv pu pv h h' hp hs
    obtain rfl : sv = [] := by simpa using hs.symm
    rw [h, List.append_nil] at hend
    exact hend
  | cons x su ih =>
    intro sv pu pv h h' hp hs
    cases sv with
    | nil => simp at hs
    | cons y sv =>
      obtain ⟨h1, h2⟩ := hstep pu x su pv y sv h h' hp
      by_cases e : x = y
      · have h3 := h2 e _ (ih sv (pu ++ [x]) (pv ++ [y]) (snoc_at h) (snoc_at h') (by simp [hp]) (by simpa using hs))
        simp only [e, List.cons.injEq, true_and]
        exact h3
      · rw [show decide (x :: su = y :: sv) = false from decide_eq_false (fun h => e (List.cons.inj h).1)]
        exact h1 e
theorem ev_cast {α : Type} {g : Nat → Option α} {r s : α} (h : Ev g r) (e : r = s) : Ev g s := e ▸ h
end Go.Proofs.Ytiddgglidkbipaa.L
