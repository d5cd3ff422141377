/- The law FnExactCopyTree: its way to 'true', and the walk over it. No condition. -/
import Derived.Test.YtbgggcgjijljkaaVCopyTreeG29
import Derived.Test.YtbgggcgjijljkaaVCopyTreeG32
import Derived.Test.YtbgggcgjijljkaaVCopyTreeG33
import Derived.Deep.Slices
import Derived.WideShapes
import Derived.Laws.Strings
import Derived.Lib.Bytealg
set_option linter.unusedVariables false
set_option linter.unusedSimpArgs false
namespace Go.Proofs.Ytbgggcgjijljkaa.Q
open Go.RowKit Go.Proofs.YtbgggcgjijljkaaW.PrintWords Go.Proofs.YtbgggcgjijljkaaW.PrintLast
theorem below_drawn_FnExactCopyTree {w w1 : World} {n : Nat} (h : w1 = w.drewN n) : Below w.heap.size w w1 := h ▸ pw_below_drewN (Below.refl _ _) n
def laws_FnExactCopyTree.f (k : Nat) (l0 : List (S79)) (l1 : List ByteArray) (l2 : List ByteArray) (a3 : Bool) (a4 : Int) : Option Bool := ((laws_szResS.f k l0 1048576).bind fun t1 => (if t1 < 0 then (some true) else ((laws_szStringS.f k l1 t1).bind fun t3 => (if t3 < 0 then (some true) else ((laws_szStringS.f k l2 t3).bind fun t5 => (if t5 < 0 then (some true) else ((laws_toResS.f k l0).bind fun t7 => ((laws_toStringS.f k l1).bind fun t10 => ((laws_toStringS.f k l2).bind fun t13 => ((spec_CopyTree.f k t7 t10 t13 a3 a4).bind fun bt16 => ((laws_toResS.f k l0).bind fun t20 => ((laws_toStringS.f k l1).bind fun t23 => ((laws_toStringS.f k l2).bind fun t26 => ((impl_CopyTreeX.f k t20 t23 t26 a3 a4).bind fun bt29 => ((laws_eqResS.f k bt29.1 bt16.1).bind fun t33 => (if t33 = true then (if bt29.2 = bt16.2 then ((laws_toResS.f k l0).bind fun t35 => ((laws_eqResS.f k t20 t35).bind fun t38 => (if t38 = true then ((laws_toStringS.f k l1).bind fun t40 => ((laws_eqStringS.f k t23 t40).bind fun t43 => (if t43 = true then ((laws_toStringS.f k l2).bind fun t45 => ((laws_eqStringS.f k t26 t45).bind fun t48 => (if t48 = true then ((laws_markResS.f k t20 1).bind fun bt50 => ((laws_markStringS.f k t23 bt50.1).bind fun bt54 => ((laws_markStringS.f k t26 bt54.1).bind fun bt58 => (if bt58.1 < 0 then none else ((laws_eqResS.f k bt29.1 bt16.1).bind fun t62 => (if t62 = true then (if bt29.2 = bt16.2 then ((laws_markResS.f k bt29.1 1).bind fun bt64 => ((laws_heldResS.f k bt64.2 1).bind fun t68 => (if t68 < 0 then none else (if t68 = bt64.1 then ((laws_toResS.f k l0).bind fun t70 => ((laws_toStringS.f k l1).bind fun t73 => ((laws_toStringS.f k l2).bind fun t76 => ((impl_CopyTreeX.f k t70 t73 t76 a3 a4).bind fun bt79 => ((laws_eqResS.f k bt79.1 bt16.1).bind fun t83 => (if t83 = true then (if bt79.2 = bt16.2 then ((laws_heldResS.f k bt64.2 1).bind fun t85 => (if t85 < 0 then none else (if t85 = bt64.1 then (some true) else none))) else none) else none)))))) else none)))) else none) else none)))))) else none))) else none))) else none))) else none) else none))))))))))))))))
set_option maxHeartbeats 16000000 in
set_option maxRecDepth 100000 in
theorem laws_FnExactCopyTree.calls (k : Nat) (A0 : Option Addr) (c0 : Nat) (l0 : List (S79)) (A1 : Option Addr) (c1 : Nat) (l1 : List ByteArray) (A2 : Option Addr) (c2 : Nat) (l2 : List ByteArray) (a3 : Bool) (a4 : Int) (r : Bool) (w : World) (hr0 : Kd.C k79 w A0 l0.length l0) (hc0 : l0.length <= c0) (hr1 : Kd.C Kd.string w A1 l1.length l1) (hc1 : l1.length <= c1) (hr2 : Kd.C Kd.string w A2 l2.length l2) (hc2 : l2.length <= c2) (h : laws_FnExactCopyTree.f k l0 l1 l2 a3 a4 = some r) :
 Calls Try.prog 7 #[.slice A0 l0.length c0, .slice A1 l1.length c1, .slice A2 l2.length c2, .bool a3, .int .i64 a4] w fun e w' => e = .returned (.bool r) /\ Below w.heap.size w w' := by
 have HR0 := A_ hr0
 have HC0 := A_ hc0
 have HR1 := A_ hr1
 have HC1 := A_ hc1
 have HR2 := A_ hr2
 have HC2 := A_ hc2
 clear hr0 hc0 hr1 hc1 hr2 hc2
 have HB := A_ (Below.refl w.heap.size w)
 have H : ((laws_szResS.f k l0 1048576).bind fun t1 => (if t1 < 0 then (some true) else ((laws_szStringS.f k l1 t1).bind fun t3 => (if t3 < 0 then (some true) else ((laws_szStringS.f k l2 t3).bind fun t5 => (if t5 < 0 then (some true) else ((laws_toResS.f k l0).bind fun t7 => ((laws_toStringS.f k l1).bind fun t10 => ((laws_toStringS.f k l2).bind fun t13 => ((spec_CopyTree.f k t7 t10 t13 a3 a4).bind fun bt16 => ((laws_toResS.f k l0).bind fun t20 => ((laws_toStringS.f k l1).bind fun t23 => ((laws_toStringS.f k l2).bind fun t26 => ((impl_CopyTreeX.f k t20 t23 t26 a3 a4).bind fun bt29 => ((laws_eqResS.f k bt29.1 bt16.1).bind fun t33 => (if t33 = true then (if bt29.2 = bt16.2 then ((laws_toResS.f k l0).bind fun t35 => ((laws_eqResS.f k t20 t35).bind fun t38 => (if t38 = true then ((laws_toStringS.f k l1).bind fun t40 => ((laws_eqStringS.f k t23 t40).bind fun t43 => (if t43 = true then ((laws_toStringS.f k l2).bind fun t45 => ((laws_eqStringS.f k t26 t45).bind fun t48 => (if t48 = true then ((laws_markResS.f k t20 1).bind fun bt50 => ((laws_markStringS.f k t23 bt50.1).bind fun bt54 => ((laws_markStringS.f k t26 bt54.1).bind fun bt58 => (if bt58.1 < 0 then none else ((laws_eqResS.f k bt29.1 bt16.1).bind fun t62 => (if t62 = true then (if bt29.2 = bt16.2 then ((laws_markResS.f k bt29.1 1).bind fun bt64 => ((laws_heldResS.f k bt64.2 1).bind fun t68 => (if t68 < 0 then none else (if t68 = bt64.1 then ((laws_toResS.f k l0).bind fun t70 => ((laws_toStringS.f k l1).bind fun t73 => ((laws_toStringS.f k l2).bind fun t76 => ((impl_CopyTreeX.f k t70 t73 t76 a3 a4).bind fun bt79 => ((laws_eqResS.f k bt79.1 bt16.1).bind fun t83 => (if t83 = true then (if bt79.2 = bt16.2 then ((laws_heldResS.f k bt64.2 1).bind fun t85 => (if t85 < 0 then none else (if t85 = bt64.1 then (some true) else none))) else none) else none)))))) else none)))) else none) else none)))))) else none))) else none))) else none))) else none) else none)))))))))))))))) = some r := h
 clear h
 replace H := Option.bind_eq_some_iff.mp H
 obtain ⟨t1, A0_, H⟩ := H
 (try dsimp only at H)
 have FA2 := A_ A0_
 clear A0_
 by_cases c87 : t1 < 0
 . rw [if_pos c87] at H
   have c87b0 := decide_eq_true c87
   clear c87
   obtain rfl := si_ H
   go_enter Try.func7, Try.ntmps7
   go_wp2_with (first | ((with_reducible refine gc_ (f := 13) rfl ?_); refine gL_ (some 26) Try.func13 #[.slice A0 l0.length c0, .int .i64 1048576] ?_; (with_reducible refine (laws_szResS.calls k A0 c0 l0 1048576 t1 _ ?s1 ?s2 FA2.out).mono ?_); (case s1 => exact cC_ (Kd.C_below HR0.out HB.out)); (case s2 => exact HC0.out); rintro e w_1 ⟨rfl, hb_⟩; refine ⟨_, rfl, ?_⟩; have n0_ : Aside0 (w.heap.size <= w_1.heap.size) := ⟨Nat.le_trans (below_size bR_) (below_size hb_)⟩; have m0_ := A_ (below_step bB_ hb_); clear HB; have HZ1 := n0_; have HB := m0_; clear n0_ m0_; (try clear hb_); (try clear hk_); (try clear hw_); (try clear hg_); (try clear hbox_); (try clear ho0_)))
   go_ret
   exact ⟨rfl, bB_⟩
 rw [if_neg c87] at H
 have c87b0 := decide_eq_false c87
 clear c87
 replace H := Option.bind_eq_some_iff.mp H
 obtain ⟨t3, A0_, H⟩ := H
 (try dsimp only at H)
 have FA4 := A_ A0_
 clear A0_
 by_cases c88 : t3 < 0
 . rw [if_pos c88] at H
   have c88b0 := decide_eq_true c88
   clear c88
   obtain rfl := si_ H
   go_enter Try.func7, Try.ntmps7
   go_wp2_with (first | ((with_reducible refine gc_ (f := 13) rfl ?_); refine gL_ (some 26) Try.func13 #[.slice A0 l0.length c0, .int .i64 1048576] ?_; (with_reducible refine (laws_szResS.calls k A0 c0 l0 1048576 t1 _ ?s1 ?s2 FA2.out).mono ?_); (case s1 => exact cC_ (Kd.C_below HR0.out HB.out)); (case s2 => exact HC0.out); rintro e w_1 ⟨rfl, hb_⟩; refine ⟨_, rfl, ?_⟩; have n0_ : Aside0 (w.heap.size <= w_1.heap.size) := ⟨Nat.le_trans (below_size bR_) (below_size hb_)⟩; have m0_ := A_ (below_step bB_ hb_); clear HB; have HZ1 := n0_; have HB := m0_; clear n0_ m0_; (try clear hb_); (try clear hk_); (try clear hw_); (try clear hg_); (try clear hbox_); (try clear ho0_)) | ((with_reducible refine gc_ (f := 14) rfl ?_); refine gL_ (some 31) Try.func14 #[.slice A1 l1.length c1, .int .i64 t1] ?_; (with_reducible refine (laws_szStringS.calls k A1 c1 l1 t1 t3 _ ?s1 ?s2 FA4.out).mono ?_); (case s1 => exact cC_ (Kd.C_below HR1.out HB.out)); (case s2 => exact HC1.out); rintro e w_2 ⟨rfl, ⟨nd_, hw_⟩⟩; refine ⟨_, rfl, ?_⟩; have hb_ := below_drawn_FnExactCopyTree hw_; clear hw_; have n0_ : Aside0 (w_1.heap.size <= w_2.heap.size) := ⟨Nat.le_trans (below_size bR_) (below_size hb_)⟩; have m0_ := A_ (below_step bB_ hb_); clear HB; have HZ2 := n0_; have HB := m0_; clear n0_ m0_; (try clear hb_); (try clear hk_); (try clear hw_); (try clear hg_); (try clear hbox_); (try clear ho0_)))
   go_ret
   exact ⟨rfl, bB_⟩
 rw [if_neg c88] at H
 have c88b0 := decide_eq_false c88
 clear c88
 replace H := Option.bind_eq_some_iff.mp H
 obtain ⟨t5, A0_, H⟩ := H
 (try dsimp only at H)
 have FA6 := A_ A0_
 clear A0_
 by_cases c89 : t5 < 0
 . rw [if_pos c89] at H
   have c89b0 := decide_eq_true c89
   clear c89
   obtain rfl := si_ H
   go_enter Try.func7, Try.ntmps7
   go_wp2_with (first | ((with_reducible refine gc_ (f := 13) rfl ?_); refine gL_ (some 26) Try.func13 #[.slice A0 l0.length c0, .int .i64 1048576] ?_; (with_reducible refine (laws_szResS.calls k A0 c0 l0 1048576 t1 _ ?s1 ?s2 FA2.out).mono ?_); (case s1 => exact cC_ (Kd.C_below HR0.out HB.out)); (case s2 => exact HC0.out); rintro e w_1 ⟨rfl, hb_⟩; refine ⟨_, rfl, ?_⟩; have n0_ : Aside0 (w.heap.size <= w_1.heap.size) := ⟨Nat.le_trans (below_size bR_) (below_size hb_)⟩; have m0_ := A_ (below_step bB_ hb_); clear HB; have HZ1 := n0_; have HB := m0_; clear n0_ m0_; (try clear hb_); (try clear hk_); (try clear hw_); (try clear hg_); (try clear hbox_); (try clear ho0_)) | ((with_reducible refine gc_ (f := 14) rfl ?_); refine gL_ (some 31) Try.func14 #[.slice A1 l1.length c1, .int .i64 t1] ?_; (with_reducible refine (laws_szStringS.calls k A1 c1 l1 t1 t3 _ ?s1 ?s2 FA4.out).mono ?_); (case s1 => exact cC_ (Kd.C_below HR1.out HB.out)); (case s2 => exact HC1.out); rintro e w_2 ⟨rfl, ⟨nd_, hw_⟩⟩; refine ⟨_, rfl, ?_⟩; have hb_ := below_drawn_FnExactCopyTree hw_; clear hw_; have n0_ : Aside0 (w_1.heap.size <= w_2.heap.size) := ⟨Nat.le_trans (below_size bR_) (below_size hb_)⟩; have m0_ := A_ (below_step bB_ hb_); clear HB; have HZ2 := n0_; have HB := m0_; clear n0_ m0_; (try clear hb_); (try clear hk_); (try clear hw_); (try clear hg_); (try clear hbox_); (try clear ho0_)) | ((with_reducible refine gc_ (f := 14) rfl ?_); refine gL_ (some 36) Try.func14 #[.slice A2 l2.length c2, .int .i64 t3] ?_; (with_reducible refine (laws_szStringS.calls k A2 c2 l2 t3 t5 _ ?s1 ?s2 FA6.out).mono ?_); (case s1 => exact cC_ (Kd.C_below HR2.out HB.out)); (case s2 => exact HC2.out); rintro e w_3 ⟨rfl, ⟨nd_, hw_⟩⟩; refine ⟨_, rfl, ?_⟩; have hb_ := below_drawn_FnExactCopyTree hw_; clear hw_; have n0_ : Aside0 (w_2.heap.size <= w_3.heap.size) := ⟨Nat.le_trans (below_size bR_) (below_size hb_)⟩; have m0_ := A_ (below_step bB_ hb_); clear HB; have HZ3 := n0_; have HB := m0_; clear n0_ m0_; (try clear hb_); (try clear hk_); (try clear hw_); (try clear hg_); (try clear hbox_); (try clear ho0_)))
   go_ret
   exact ⟨rfl, bB_⟩
 rw [if_neg c89] at H
 have c89b0 := decide_eq_false c89
 clear c89
 replace H := Option.bind_eq_some_iff.mp H
 obtain ⟨t7, A0_, H⟩ := H
 (try dsimp only at H)
 have FA8 := A_ A0_
 clear A0_
 replace H := Option.bind_eq_some_iff.mp H
 obtain ⟨t10, A0_, H⟩ := H
 (try dsimp only at H)
 have FA11 := A_ A0_
 clear A0_
 replace H := Option.bind_eq_some_iff.mp H
 obtain ⟨t13, A0_, H⟩ := H
 (try dsimp only at H)
 have FA14 := A_ A0_
 clear A0_
 replace H := Option.bind_eq_some_iff.mp H
 obtain ⟨⟨t16, t17⟩, A0_, H⟩ := H
 (try dsimp only at H)
 have FA18 := A_ A0_
 clear A0_
 replace H := Option.bind_eq_some_iff.mp H
 obtain ⟨t20, A0_, H⟩ := H
 (try dsimp only at H)
 have FA21 := A_ A0_
 clear A0_
 replace H := Option.bind_eq_some_iff.mp H
 obtain ⟨t23, A0_, H⟩ := H
 (try dsimp only at H)
 have FA24 := A_ A0_
 clear A0_
 replace H := Option.bind_eq_some_iff.mp H
 obtain ⟨t26, A0_, H⟩ := H
 (try dsimp only at H)
 have FA27 := A_ A0_
 clear A0_
 replace H := Option.bind_eq_some_iff.mp H
 obtain ⟨⟨t29, t30⟩, A0_, H⟩ := H
 (try dsimp only at H)
 have FA31 := A_ A0_
 clear A0_
 replace H := Option.bind_eq_some_iff.mp H
 obtain ⟨t33, A0_, H⟩ := H
 (try dsimp only at H)
 have FA34 := A_ A0_
 clear A0_
 by_cases c90 : t33 = true
 rotate_left
 . rw [if_neg c90] at H
   exact absurd H (by simp)
 subst c90
 rw [if_pos rfl] at H
 by_cases c91 : t30 = t17
 rotate_left
 . rw [if_neg c91] at H
   exact absurd H (by simp)
 rw [if_pos c91] at H
 obtain ⟨c91b0, c91b1⟩ := eT_ c91
 clear c91
 replace H := Option.bind_eq_some_iff.mp H
 obtain ⟨t35, A0_, H⟩ := H
 (try dsimp only at H)
 have FA36 := A_ A0_
 clear A0_
 replace H := Option.bind_eq_some_iff.mp H
 obtain ⟨t38, A0_, H⟩ := H
 (try dsimp only at H)
 have FA39 := A_ A0_
 clear A0_
 by_cases c92 : t38 = true
 rotate_left
 . rw [if_neg c92] at H
   exact absurd H (by simp)
 subst c92
 rw [if_pos rfl] at H
 replace H := Option.bind_eq_some_iff.mp H
 obtain ⟨t40, A0_, H⟩ := H
 (try dsimp only at H)
 have FA41 := A_ A0_
 clear A0_
 replace H := Option.bind_eq_some_iff.mp H
 obtain ⟨t43, A0_, H⟩ := H
 (try dsimp only at H)
 have FA44 := A_ A0_
 clear A0_
 by_cases c93 : t43 = true
 rotate_left
 . rw [if_neg c93] at H
   exact absurd H (by simp)
 subst c93
 rw [if_pos rfl] at H
 replace H := Option.bind_eq_some_iff.mp H
 obtain ⟨t45, A0_, H⟩ := H
 (try dsimp only at H)
 have FA46 := A_ A0_
 clear A0_
 replace H := Option.bind_eq_some_iff.mp H
 obtain ⟨t48, A0_, H⟩ := H
 (try dsimp only at H)
 have FA49 := A_ A0_
 clear A0_
 by_cases c94 : t48 = true
 rotate_left
 . rw [if_neg c94] at H
   exact absurd H (by simp)
 subst c94
 rw [if_pos rfl] at H
 replace H := Option.bind_eq_some_iff.mp H
 obtain ⟨⟨t50, t51⟩, A0_, H⟩ := H
 (try dsimp only at H)
 have FA52 := A_ A0_
 clear A0_
 replace H := Option.bind_eq_some_iff.mp H
 obtain ⟨⟨t54, t55⟩, A0_, H⟩ := H
 (try dsimp only at H)
 have FA56 := A_ A0_
 clear A0_
 replace H := Option.bind_eq_some_iff.mp H
 obtain ⟨⟨t58, t59⟩, A0_, H⟩ := H
 (try dsimp only at H)
 have FA60 := A_ A0_
 clear A0_
 by_cases c95 : t58 < 0
 . rw [if_pos c95] at H
   exact absurd H (by simp)
 rw [if_neg c95] at H
 have c95b0 := decide_eq_false c95
 clear c95
 replace H := Option.bind_eq_some_iff.mp H
 obtain ⟨t62, A0_, H⟩ := H
 (try dsimp only at H)
 have FA63 := A_ A0_
 clear A0_
 by_cases c96 : t62 = true
 rotate_left
 . rw [if_neg c96] at H
   exact absurd H (by simp)
 subst c96
 rw [if_pos rfl] at H
 by_cases c97 : t30 = t17
 rotate_left
 . rw [if_neg c97] at H
   exact absurd H (by simp)
 rw [if_pos c97] at H
 obtain ⟨c97b0, c97b1⟩ := eT_ c97
 clear c97
 replace H := Option.bind_eq_some_iff.mp H
 obtain ⟨⟨t64, t65⟩, A0_, H⟩ := H
 (try dsimp only at H)
 have FA66 := A_ A0_
 clear A0_
 replace H := Option.bind_eq_some_iff.mp H
 obtain ⟨t68, A0_, H⟩ := H
 (try dsimp only at H)
 have FA69 := A_ A0_
 clear A0_
 by_cases c98 : t68 < 0
 . rw [if_pos c98] at H
   exact absurd H (by simp)
 rw [if_neg c98] at H
 have c98b0 := decide_eq_false c98
 clear c98
 by_cases c99 : t68 = t64
 rotate_left
 . rw [if_neg c99] at H
   exact absurd H (by simp)
 rw [if_pos c99] at H
 obtain ⟨c99b0, c99b1⟩ := eT_ c99
 clear c99
 replace H := Option.bind_eq_some_iff.mp H
 obtain ⟨t70, A0_, H⟩ := H
 (try dsimp only at H)
 have FA71 := A_ A0_
 clear A0_
 replace H := Option.bind_eq_some_iff.mp H
 obtain ⟨t73, A0_, H⟩ := H
 (try dsimp only at H)
 have FA74 := A_ A0_
 clear A0_
 replace H := Option.bind_eq_some_iff.mp H
 obtain ⟨t76, A0_, H⟩ := H
 (try dsimp only at H)
 have FA77 := A_ A0_
 clear A0_
 replace H := Option.bind_eq_some_iff.mp H
 obtain ⟨⟨t79, t80⟩, A0_, H⟩ := H
 (try dsimp only at H)
 have FA81 := A_ A0_
 clear A0_
 replace H := Option.bind_eq_some_iff.mp H
 obtain ⟨t83, A0_, H⟩ := H
 (try dsimp only at H)
 have FA84 := A_ A0_
 clear A0_
 by_cases c4d : t83 = true
 rotate_left
 . rw [if_neg c4d] at H
   exact absurd H (by simp)
 subst c4d
 rw [if_pos rfl] at H
 by_cases c1d : t80 = t17
 rotate_left
 . rw [if_neg c1d] at H
   exact absurd H (by simp)
 rw [if_pos c1d] at H
 obtain ⟨c1db0, c1db1⟩ := eT_ c1d
 clear c1d
 replace H := Option.bind_eq_some_iff.mp H
 obtain ⟨t85, A0_, H⟩ := H
 (try dsimp only at H)
 have FA86 := A_ A0_
 clear A0_
 by_cases c3d : t85 < 0
 . rw [if_pos c3d] at H
   exact absurd H (by simp)
 rw [if_neg c3d] at H
 have c3db0 := decide_eq_false c3d
 clear c3d
 by_cases c2d : t85 = t64
 rotate_left
 . rw [if_neg c2d] at H
   exact absurd H (by simp)
 rw [if_pos c2d] at H
 obtain ⟨c2db0, c2db1⟩ := eT_ c2d
 clear c2d
 obtain rfl := si_ H
 go_enter Try.func7, Try.ntmps7
 go_wp2_with (first | ((with_reducible refine gc_ (f := 13) rfl ?_); refine gL_ (some 26) Try.func13 #[.slice A0 l0.length c0, .int .i64 1048576] ?_; (with_reducible refine (laws_szResS.calls k A0 c0 l0 1048576 t1 _ ?s1 ?s2 FA2.out).mono ?_); (case s1 => exact cC_ (Kd.C_below HR0.out HB.out)); (case s2 => exact HC0.out); rintro e w_1 ⟨rfl, hb_⟩; refine ⟨_, rfl, ?_⟩; have n0_ : Aside0 (w.heap.size <= w_1.heap.size) := ⟨Nat.le_trans (below_size bR_) (below_size hb_)⟩; have m0_ := A_ (below_step bB_ hb_); clear HB; have HZ1 := n0_; have HB := m0_; clear n0_ m0_; (try clear hb_); (try clear hk_); (try clear hw_); (try clear hg_); (try clear hbox_); (try clear ho0_)) | ((with_reducible refine gc_ (f := 14) rfl ?_); refine gL_ (some 31) Try.func14 #[.slice A1 l1.length c1, .int .i64 t1] ?_; (with_reducible refine (laws_szStringS.calls k A1 c1 l1 t1 t3 _ ?s1 ?s2 FA4.out).mono ?_); (case s1 => exact cC_ (Kd.C_below HR1.out HB.out)); (case s2 => exact HC1.out); rintro e w_2 ⟨rfl, ⟨nd_, hw_⟩⟩; refine ⟨_, rfl, ?_⟩; have hb_ := below_drawn_FnExactCopyTree hw_; clear hw_; have n0_ : Aside0 (w_1.heap.size <= w_2.heap.size) := ⟨Nat.le_trans (below_size bR_) (below_size hb_)⟩; have m0_ := A_ (below_step bB_ hb_); clear HB; have HZ2 := n0_; have HB := m0_; clear n0_ m0_; (try clear hb_); (try clear hk_); (try clear hw_); (try clear hg_); (try clear hbox_); (try clear ho0_)) | ((with_reducible refine gc_ (f := 14) rfl ?_); refine gL_ (some 36) Try.func14 #[.slice A2 l2.length c2, .int .i64 t3] ?_; (with_reducible refine (laws_szStringS.calls k A2 c2 l2 t3 t5 _ ?s1 ?s2 FA6.out).mono ?_); (case s1 => exact cC_ (Kd.C_below HR2.out HB.out)); (case s2 => exact HC2.out); rintro e w_3 ⟨rfl, ⟨nd_, hw_⟩⟩; refine ⟨_, rfl, ?_⟩; have hb_ := below_drawn_FnExactCopyTree hw_; clear hw_; have n0_ : Aside0 (w_2.heap.size <= w_3.heap.size) := ⟨Nat.le_trans (below_size bR_) (below_size hb_)⟩; have m0_ := A_ (below_step bB_ hb_); clear HB; have HZ3 := n0_; have HB := m0_; clear n0_ m0_; (try clear hb_); (try clear hk_); (try clear hw_); (try clear hg_); (try clear hbox_); (try clear ho0_)) | ((with_reducible refine gc_ (f := 16) rfl ?_); refine gL_ (some 41) Try.func16 #[.slice A0 l0.length c0] ?_; (with_reducible refine (laws_toResS.calls k A0 c0 l0 t7 _ ?s1 ?s2 FA8.out).mono ?_); (case s1 => exact cC_ (Kd.C_below HR0.out HB.out)); (case s2 => exact HC0.out); rintro e w_4 ⟨v5d, rfl, ho0_, hb_⟩; refine ⟨_, rfl, ?_⟩; have n0_ : Aside0 (w_3.heap.size <= w_4.heap.size) := ⟨Nat.le_trans (below_size bR_) (below_size hb_)⟩; have m0_ := A_ (below_step bB_ hb_); have m1_ := A_ (show Kd.S k57 57 w_4 w.heap.size (fun k_ => w_3.heap.size <= k_ /\ k_ < w_4.heap.size) v5d t7 from Kd.S_mono (Kd.S_lower (Kd.S_bound ho0_) (below_size bB_)) (fun k_ h_ => ⟨Nat.le_trans (below_size bR_) h_.2.1, h_.2.2.1⟩)); clear HB; have HZ4 := n0_; have HB := m0_; have HO9 := m1_; clear n0_ m0_ m1_; (try clear hb_); (try clear hk_); (try clear hw_); (try clear hg_); (try clear hbox_); (try clear ho0_); (try clear ho1_); obtain ⟨Ao9, co9, eo_⟩ := Kd.S_slice HO9.out; subst eo_) | ((with_reducible refine gc_ (f := 17) rfl ?_); refine gL_ (some 43) Try.func17 #[.slice A1 l1.length c1] ?_; (with_reducible refine (laws_toStringS.calls k A1 c1 l1 t10 _ ?s1 ?s2 FA11.out).mono ?_); (case s1 => exact cC_ (Kd.C_below HR1.out HB.out)); (case s2 => exact HC1.out); rintro e w_5 ⟨v6d, rfl, ho0_, hb_⟩; refine ⟨_, rfl, ?_⟩; have n0_ : Aside0 (w_4.heap.size <= w_5.heap.size) := ⟨Nat.le_trans (below_size bR_) (below_size hb_)⟩; have m0_ := A_ (Kd.S_below (vS_ HO9.out) hb_); have m1_ := A_ (below_step bB_ hb_); have m2_ := A_ (show Kd.R Kd.string 9 w_5 w.heap.size (fun k_ => w_4.heap.size <= k_ /\ k_ < w_5.heap.size) v6d t10 from Kd.R_mono (Kd.R_lower (Kd.R_bound ho0_) (below_size bB_)) (fun k_ h_ => ⟨Nat.le_trans (below_size bR_) h_.2.1, h_.2.2.1⟩)); clear HO9 HB; have HZ5 := n0_; have HO9 := m0_; have HB := m1_; have HO12 := m2_; clear n0_ m0_ m1_ m2_; (try clear hb_); (try clear hk_); (try clear hw_); (try clear hg_); (try clear hbox_); (try clear ho0_); (try clear ho1_); obtain ⟨Ao12, co12, eo_⟩ := Kd.R_slice HO12.out; subst eo_) | ((with_reducible refine gc_ (f := 17) rfl ?_); refine gL_ (some 45) Try.func17 #[.slice A2 l2.length c2] ?_; (with_reducible refine (laws_toStringS.calls k A2 c2 l2 t13 _ ?s1 ?s2 FA14.out).mono ?_); (case s1 => exact cC_ (Kd.C_below HR2.out HB.out)); (case s2 => exact HC2.out); rintro e w_6 ⟨v7d, rfl, ho0_, hb_⟩; refine ⟨_, rfl, ?_⟩; have n0_ : Aside0 (w_5.heap.size <= w_6.heap.size) := ⟨Nat.le_trans (below_size bR_) (below_size hb_)⟩; have m0_ := A_ (Kd.S_below (vS_ HO9.out) hb_); have m1_ := A_ (Kd.R_below (vR_ HO12.out) hb_); have m2_ := A_ (below_step bB_ hb_); have m3_ := A_ (show Kd.R Kd.string 9 w_6 w.heap.size (fun k_ => w_5.heap.size <= k_ /\ k_ < w_6.heap.size) v7d t13 from Kd.R_mono (Kd.R_lower (Kd.R_bound ho0_) (below_size bB_)) (fun k_ h_ => ⟨Nat.le_trans (below_size bR_) h_.2.1, h_.2.2.1⟩)); clear HO9 HO12 HB; have HZ6 := n0_; have HO9 := m0_; have HO12 := m1_; have HB := m2_; have HO15 := m3_; clear n0_ m0_ m1_ m2_ m3_; (try clear hb_); (try clear hk_); (try clear hw_); (try clear hg_); (try clear hbox_); (try clear ho0_); (try clear ho1_); obtain ⟨Ao15, co15, eo_⟩ := Kd.R_slice HO15.out; subst eo_) | ((with_reducible refine gc_ (f := 34) rfl ?_); refine gL_ (some 48) Try.func34 #[.slice Ao9 t7.length co9, .slice Ao12 t10.length co12, .slice Ao15 t13.length co15, .bool a3, .int .i64 a4] ?_; (with_reducible refine (spec_CopyTree.calls k Ao9 co9 t7 Ao12 co12 t10 Ao15 co15 t13 a3 a4 t16 t17 _ ?s1 ?s2 ?s3 ?s4 ?s5 ?s6 FA18.out).mono ?_); (case s1 => exact cC_ (Kd.S_reads' HO9.out).2.2); (case s2 => exact (Kd.S_reads' HO9.out).2.1); (case s3 => exact cC_ (Kd.R_reads' HO12.out).2.2); (case s4 => exact (Kd.R_reads' HO12.out).2.1); (case s5 => exact cC_ (Kd.R_reads' HO15.out).2.2); (case s6 => exact (Kd.R_reads' HO15.out).2.1); rintro e w_7 ⟨v8d, rfl, ho0_, hb_⟩; refine ⟨_, rfl, ?_⟩; have n0_ : Aside0 (w_6.heap.size <= w_7.heap.size) := ⟨Nat.le_trans (below_size bR_) (below_size hb_)⟩; have m0_ := A_ (Kd.S_below (vS_ HO9.out) hb_); have m1_ := A_ (Kd.R_below (vR_ HO12.out) hb_); have m2_ := A_ (Kd.R_below (vR_ HO15.out) hb_); have m3_ := A_ (below_step bB_ hb_); have m4_ := A_ (show Kd.S k57 57 w_7 w.heap.size (fun k_ => w_6.heap.size <= k_ /\ k_ < w_7.heap.size) v8d t16 from Kd.S_mono (Kd.S_lower (Kd.S_bound ho0_) (below_size bB_)) (fun k_ h_ => ⟨Nat.le_trans (below_size bR_) h_.2.1, h_.2.2.1⟩)); clear HO9 HO12 HO15 HB; have HZ7 := n0_; have HB := m3_; have HO19 := m4_; clear n0_ m0_ m1_ m2_ m3_ m4_; (try clear hb_); (try clear hk_); (try clear hw_); (try clear hg_); (try clear hbox_); (try clear ho0_); (try clear ho1_); obtain ⟨Ao19, co19, eo_⟩ := Kd.S_slice HO19.out; subst eo_) | ((with_reducible refine gc_ (f := 16) rfl ?_); refine gL_ (some 52) Try.func16 #[.slice A0 l0.length c0] ?_; (with_reducible refine (laws_toResS.calls k A0 c0 l0 t20 _ ?s1 ?s2 FA21.out).mono ?_); (case s1 => exact cC_ (Kd.C_below HR0.out HB.out)); (case s2 => exact HC0.out); rintro e w_8 ⟨v9d, rfl, ho0_, hb_⟩; refine ⟨_, rfl, ?_⟩; have n0_ : Aside0 (w_7.heap.size <= w_8.heap.size) := ⟨Nat.le_trans (below_size bR_) (below_size hb_)⟩; have m0_ := A_ (Kd.S_below (vS_ HO19.out) hb_); have m1_ := A_ (below_step bB_ hb_); have m2_ := A_ (show Kd.S k57 57 w_8 w.heap.size (fun k_ => w_7.heap.size <= k_ /\ k_ < w_8.heap.size) v9d t20 from Kd.S_mono (Kd.S_lower (Kd.S_bound ho0_) (below_size bB_)) (fun k_ h_ => ⟨Nat.le_trans (below_size bR_) h_.2.1, h_.2.2.1⟩)); clear HO19 HB; have HZ8 := n0_; have HO19 := m0_; have HB := m1_; have HO22 := m2_; clear n0_ m0_ m1_ m2_; (try clear hb_); (try clear hk_); (try clear hw_); (try clear hg_); (try clear hbox_); (try clear ho0_); (try clear ho1_); obtain ⟨Ao22, co22, eo_⟩ := Kd.S_slice HO22.out; subst eo_) | ((with_reducible refine gc_ (f := 17) rfl ?_); refine gL_ (some 54) Try.func17 #[.slice A1 l1.length c1] ?_; (with_reducible refine (laws_toStringS.calls k A1 c1 l1 t23 _ ?s1 ?s2 FA24.out).mono ?_); (case s1 => exact cC_ (Kd.C_below HR1.out HB.out)); (case s2 => exact HC1.out); rintro e w_9 ⟨v1e, rfl, ho0_, hb_⟩; refine ⟨_, rfl, ?_⟩; have n0_ : Aside0 (w_8.heap.size <= w_9.heap.size) := ⟨Nat.le_trans (below_size bR_) (below_size hb_)⟩; have m0_ := A_ (Kd.S_below (vS_ HO19.out) hb_); have m1_ := A_ (Kd.S_below (vS_ HO22.out) hb_); have m2_ := A_ (below_step bB_ hb_); have m3_ := A_ (show Kd.R Kd.string 9 w_9 w.heap.size (fun k_ => w_8.heap.size <= k_ /\ k_ < w_9.heap.size) v1e t23 from Kd.R_mono (Kd.R_lower (Kd.R_bound ho0_) (below_size bB_)) (fun k_ h_ => ⟨Nat.le_trans (below_size bR_) h_.2.1, h_.2.2.1⟩)); clear HO19 HO22 HB; have HZ9 := n0_; have HO19 := m0_; have HO22 := m1_; have HB := m2_; have HO25 := m3_; clear n0_ m0_ m1_ m2_ m3_; (try clear hb_); (try clear hk_); (try clear hw_); (try clear hg_); (try clear hbox_); (try clear ho0_); (try clear ho1_); obtain ⟨Ao25, co25, eo_⟩ := Kd.R_slice HO25.out; subst eo_) | ((with_reducible refine gc_ (f := 17) rfl ?_); refine gL_ (some 56) Try.func17 #[.slice A2 l2.length c2] ?_; (with_reducible refine (laws_toStringS.calls k A2 c2 l2 t26 _ ?s1 ?s2 FA27.out).mono ?_); (case s1 => exact cC_ (Kd.C_below HR2.out HB.out)); (case s2 => exact HC2.out); rintro e w_10 ⟨v2e, rfl, ho0_, hb_⟩; refine ⟨_, rfl, ?_⟩; have n0_ : Aside0 (w_9.heap.size <= w_10.heap.size) := ⟨Nat.le_trans (below_size bR_) (below_size hb_)⟩; have m0_ := A_ (Kd.S_below (vS_ HO19.out) hb_); have m1_ := A_ (Kd.S_below (vS_ HO22.out) hb_); have m2_ := A_ (Kd.R_below (vR_ HO25.out) hb_); have m3_ := A_ (below_step bB_ hb_); have m4_ := A_ (show Kd.R Kd.string 9 w_10 w.heap.size (fun k_ => w_9.heap.size <= k_ /\ k_ < w_10.heap.size) v2e t26 from Kd.R_mono (Kd.R_lower (Kd.R_bound ho0_) (below_size bB_)) (fun k_ h_ => ⟨Nat.le_trans (below_size bR_) h_.2.1, h_.2.2.1⟩)); clear HO19 HO22 HO25 HB; have HZ10 := n0_; have HO19 := m0_; have HO22 := m1_; have HO25 := m2_; have HB := m3_; have HO28 := m4_; clear n0_ m0_ m1_ m2_ m3_ m4_; (try clear hb_); (try clear hk_); (try clear hw_); (try clear hg_); (try clear hbox_); (try clear ho0_); (try clear ho1_); obtain ⟨Ao28, co28, eo_⟩ := Kd.R_slice HO28.out; subst eo_) | ((with_reducible refine gc_ (f := 35) rfl ?_); refine gL_ (some 63) Try.func35 #[.slice Ao22 t20.length co22, .slice Ao25 t23.length co25, .slice Ao28 t26.length co28, .bool a3, .int .i64 a4] ?_; (with_reducible refine (impl_CopyTreeX.calls k Ao22 co22 t20 Ao25 co25 t23 Ao28 co28 t26 a3 a4 t29 t30 _ ?s1 ?s2 ?s3 ?s4 ?s5 ?s6 FA31.out).mono ?_); (case s1 => exact cC_ (Kd.S_reads' HO22.out).2.2); (case s2 => exact (Kd.S_reads' HO22.out).2.1); (case s3 => exact cC_ (Kd.R_reads' HO25.out).2.2); (case s4 => exact (Kd.R_reads' HO25.out).2.1); (case s5 => exact cC_ (Kd.R_reads' HO28.out).2.2); (case s6 => exact (Kd.R_reads' HO28.out).2.1); rintro e w_11 ⟨v3e, rfl, ho0_, hb_⟩; refine ⟨_, rfl, ?_⟩; have n0_ : Aside0 (w_10.heap.size <= w_11.heap.size) := ⟨Nat.le_trans (below_size bR_) (below_size hb_)⟩; have m0_ := A_ (Kd.S_below (vS_ HO19.out) hb_); have m1_ := A_ (Kd.S_below (vS_ HO22.out) hb_); have m2_ := A_ (Kd.R_below (vR_ HO25.out) hb_); have m3_ := A_ (Kd.R_below (vR_ HO28.out) hb_); have m4_ := A_ (below_step bB_ hb_); have m5_ := A_ (show Kd.S k57 57 w_11 w.heap.size (fun k_ => w_10.heap.size <= k_ /\ k_ < w_11.heap.size) v3e t29 from Kd.S_mono (Kd.S_lower (Kd.S_bound ho0_) (below_size bB_)) (fun k_ h_ => ⟨Nat.le_trans (below_size bR_) h_.2.1, h_.2.2.1⟩)); clear HO19 HO22 HO25 HO28 HB; have HZ11 := n0_; have HO19 := m0_; have HO22 := m1_; have HO25 := m2_; have HO28 := m3_; have HB := m4_; have HO32 := m5_; clear n0_ m0_ m1_ m2_ m3_ m4_ m5_; (try clear hb_); (try clear hk_); (try clear hw_); (try clear hg_); (try clear hbox_); (try clear ho0_); (try clear ho1_); obtain ⟨Ao32, co32, eo_⟩ := Kd.S_slice HO32.out; subst eo_) | ((with_reducible refine gc_ (f := 19) rfl ?_); refine gL_ (some 68) Try.func19 #[.slice Ao32 t29.length co32, .slice Ao19 t16.length co19] ?_; (with_reducible refine (laws_eqResS.calls k Ao32 co32 t29 Ao19 co19 t16 true _ ?s1 ?s2 ?s3 ?s4 FA34.out).mono ?_); (case s1 => exact cC_ (Kd.S_reads' HO32.out).2.2); (case s2 => exact (Kd.S_reads' HO32.out).2.1); (case s3 => exact cC_ (Kd.S_reads' HO19.out).2.2); (case s4 => exact (Kd.S_reads' HO19.out).2.1); rintro e w_12 ⟨rfl, hb_⟩; refine ⟨_, rfl, ?_⟩; have n0_ : Aside0 (w_11.heap.size <= w_12.heap.size) := ⟨Nat.le_trans (below_size bR_) (below_size hb_)⟩; have m0_ := A_ (Kd.S_below (vS_ HO19.out) hb_); have m1_ := A_ (Kd.S_below (vS_ HO22.out) hb_); have m2_ := A_ (Kd.R_below (vR_ HO25.out) hb_); have m3_ := A_ (Kd.R_below (vR_ HO28.out) hb_); have m4_ := A_ (Kd.S_below (vS_ HO32.out) hb_); have m5_ := A_ (below_step bB_ hb_); clear HO19 HO22 HO25 HO28 HO32 HB; have HZ12 := n0_; have HO19 := m0_; have HO22 := m1_; have HO25 := m2_; have HO28 := m3_; have HO32 := m4_; have HB := m5_; clear n0_ m0_ m1_ m2_ m3_ m4_ m5_; (try clear hb_); (try clear hk_); (try clear hw_); (try clear hg_); (try clear hbox_); (try clear ho0_)) | ((with_reducible refine gc_ (f := 16) rfl ?_); refine gL_ (some 77) Try.func16 #[.slice A0 l0.length c0] ?_; (with_reducible refine (laws_toResS.calls k A0 c0 l0 t35 _ ?s1 ?s2 FA36.out).mono ?_); (case s1 => exact cC_ (Kd.C_below HR0.out HB.out)); (case s2 => exact HC0.out); rintro e w_13 ⟨v4e, rfl, ho0_, hb_⟩; refine ⟨_, rfl, ?_⟩; have n0_ : Aside0 (w_12.heap.size <= w_13.heap.size) := ⟨Nat.le_trans (below_size bR_) (below_size hb_)⟩; have m0_ := A_ (Kd.S_below (vS_ HO19.out) hb_); have m1_ := A_ (Kd.S_below (vS_ HO22.out) hb_); have m2_ := A_ (Kd.R_below (vR_ HO25.out) hb_); have m3_ := A_ (Kd.R_below (vR_ HO28.out) hb_); have m4_ := A_ (Kd.S_below (vS_ HO32.out) hb_); have m5_ := A_ (below_step bB_ hb_); have m6_ := A_ (show Kd.S k57 57 w_13 w.heap.size (fun k_ => w_12.heap.size <= k_ /\ k_ < w_13.heap.size) v4e t35 from Kd.S_mono (Kd.S_lower (Kd.S_bound ho0_) (below_size bB_)) (fun k_ h_ => ⟨Nat.le_trans (below_size bR_) h_.2.1, h_.2.2.1⟩)); clear HO19 HO22 HO25 HO28 HO32 HB; have HZ13 := n0_; have HO19 := m0_; have HO22 := m1_; have HO25 := m2_; have HO28 := m3_; have HO32 := m4_; have HB := m5_; have HO37 := m6_; clear n0_ m0_ m1_ m2_ m3_ m4_ m5_ m6_; (try clear hb_); (try clear hk_); (try clear hw_); (try clear hg_); (try clear hbox_); (try clear ho0_); (try clear ho1_); obtain ⟨Ao37, co37, eo_⟩ := Kd.S_slice HO37.out; subst eo_) | ((with_reducible refine gc_ (f := 19) rfl ?_); refine gL_ (some 78) Try.func19 #[.slice Ao22 t20.length co22, .slice Ao37 t35.length co37] ?_; (with_reducible refine (laws_eqResS.calls k Ao22 co22 t20 Ao37 co37 t35 true _ ?s1 ?s2 ?s3 ?s4 FA39.out).mono ?_); (case s1 => exact cC_ (Kd.S_reads' HO22.out).2.2); (case s2 => exact (Kd.S_reads' HO22.out).2.1); (case s3 => exact cC_ (Kd.S_reads' HO37.out).2.2); (case s4 => exact (Kd.S_reads' HO37.out).2.1); rintro e w_14 ⟨rfl, hb_⟩; refine ⟨_, rfl, ?_⟩; have n0_ : Aside0 (w_13.heap.size <= w_14.heap.size) := ⟨Nat.le_trans (below_size bR_) (below_size hb_)⟩; have m0_ := A_ (Kd.S_below (vS_ HO19.out) hb_); have m1_ := A_ (Kd.S_below (vS_ HO22.out) hb_); have m2_ := A_ (Kd.R_below (vR_ HO25.out) hb_); have m3_ := A_ (Kd.R_below (vR_ HO28.out) hb_); have m4_ := A_ (Kd.S_below (vS_ HO32.out) hb_); have m5_ := A_ (Kd.S_below (vS_ HO37.out) hb_); have m6_ := A_ (below_step bB_ hb_); clear HO19 HO22 HO25 HO28 HO32 HO37 HB; have HZ14 := n0_; have HO19 := m0_; have HO22 := m1_; have HO25 := m2_; have HO28 := m3_; have HO32 := m4_; have HB := m6_; clear n0_ m0_ m1_ m2_ m3_ m4_ m5_ m6_; (try clear hb_); (try clear hk_); (try clear hw_); (try clear hg_); (try clear hbox_); (try clear ho0_)) | ((with_reducible refine gc_ (f := 17) rfl ?_); refine gL_ (some 82) Try.func17 #[.slice A1 l1.length c1] ?_; (with_reducible refine (laws_toStringS.calls k A1 c1 l1 t40 _ ?s1 ?s2 FA41.out).mono ?_); (case s1 => exact cC_ (Kd.C_below HR1.out HB.out)); (case s2 => exact HC1.out); rintro e w_15 ⟨v5e, rfl, ho0_, hb_⟩; refine ⟨_, rfl, ?_⟩; have n0_ : Aside0 (w_14.heap.size <= w_15.heap.size) := ⟨Nat.le_trans (below_size bR_) (below_size hb_)⟩; have m0_ := A_ (Kd.S_below (vS_ HO19.out) hb_); have m1_ := A_ (Kd.S_below (vS_ HO22.out) hb_); have m2_ := A_ (Kd.R_below (vR_ HO25.out) hb_); have m3_ := A_ (Kd.R_below (vR_ HO28.out) hb_); have m4_ := A_ (Kd.S_below (vS_ HO32.out) hb_); have m5_ := A_ (below_step bB_ hb_); have m6_ := A_ (show Kd.R Kd.string 9 w_15 w.heap.size (fun k_ => w_14.heap.size <= k_ /\ k_ < w_15.heap.size) v5e t40 from Kd.R_mono (Kd.R_lower (Kd.R_bound ho0_) (below_size bB_)) (fun k_ h_ => ⟨Nat.le_trans (below_size bR_) h_.2.1, h_.2.2.1⟩)); clear HO19 HO22 HO25 HO28 HO32 HB; have HZ15 := n0_; have HO19 := m0_; have HO22 := m1_; have HO25 := m2_; have HO28 := m3_; have HO32 := m4_; have HB := m5_; have HO42 := m6_; clear n0_ m0_ m1_ m2_ m3_ m4_ m5_ m6_; (try clear hb_); (try clear hk_); (try clear hw_); (try clear hg_); (try clear hbox_); (try clear ho0_); (try clear ho1_); obtain ⟨Ao42, co42, eo_⟩ := Kd.R_slice HO42.out; subst eo_) | ((with_reducible refine gc_ (f := 20) rfl ?_); refine gL_ (some 83) Try.func20 #[.slice Ao25 t23.length co25, .slice Ao42 t40.length co42] ?_; (with_reducible refine (laws_eqStringS.calls k Ao25 co25 t23 Ao42 co42 t40 true _ ?s1 ?s2 ?s3 ?s4 FA44.out).mono ?_); (case s1 => exact cC_ (Kd.R_reads' HO25.out).2.2); (case s2 => exact (Kd.R_reads' HO25.out).2.1); (case s3 => exact cC_ (Kd.R_reads' HO42.out).2.2); (case s4 => exact (Kd.R_reads' HO42.out).2.1); rintro e w_16 ⟨rfl, ⟨nd_, hw_⟩⟩; refine ⟨_, rfl, ?_⟩; have hb_ := below_drawn_FnExactCopyTree hw_; clear hw_; have n0_ : Aside0 (w_15.heap.size <= w_16.heap.size) := ⟨Nat.le_trans (below_size bR_) (below_size hb_)⟩; have m0_ := A_ (Kd.S_below (vS_ HO19.out) hb_); have m1_ := A_ (Kd.S_below (vS_ HO22.out) hb_); have m2_ := A_ (Kd.R_below (vR_ HO25.out) hb_); have m3_ := A_ (Kd.R_below (vR_ HO28.out) hb_); have m4_ := A_ (Kd.S_below (vS_ HO32.out) hb_); have m5_ := A_ (Kd.R_below (vR_ HO42.out) hb_); have m6_ := A_ (below_step bB_ hb_); clear HO19 HO22 HO25 HO28 HO32 HO42 HB; have HZ16 := n0_; have HO19 := m0_; have HO22 := m1_; have HO25 := m2_; have HO28 := m3_; have HO32 := m4_; have HB := m6_; clear n0_ m0_ m1_ m2_ m3_ m4_ m5_ m6_; (try clear hb_); (try clear hk_); (try clear hw_); (try clear hg_); (try clear hbox_); (try clear ho0_)) | ((with_reducible refine gc_ (f := 17) rfl ?_); refine gL_ (some 87) Try.func17 #[.slice A2 l2.length c2] ?_; (with_reducible refine (laws_toStringS.calls k A2 c2 l2 t45 _ ?s1 ?s2 FA46.out).mono ?_); (case s1 => exact cC_ (Kd.C_below HR2.out HB.out)); (case s2 => exact HC2.out); rintro e w_17 ⟨v6e, rfl, ho0_, hb_⟩; refine ⟨_, rfl, ?_⟩; have n0_ : Aside0 (w_16.heap.size <= w_17.heap.size) := ⟨Nat.le_trans (below_size bR_) (below_size hb_)⟩; have m0_ := A_ (Kd.S_below (vS_ HO19.out) hb_); have m1_ := A_ (Kd.S_below (vS_ HO22.out) hb_); have m2_ := A_ (Kd.R_below (vR_ HO25.out) hb_); have m3_ := A_ (Kd.R_below (vR_ HO28.out) hb_); have m4_ := A_ (Kd.S_below (vS_ HO32.out) hb_); have m5_ := A_ (below_step bB_ hb_); have m6_ := A_ (show Kd.R Kd.string 9 w_17 w.heap.size (fun k_ => w_16.heap.size <= k_ /\ k_ < w_17.heap.size) v6e t45 from Kd.R_mono (Kd.R_lower (Kd.R_bound ho0_) (below_size bB_)) (fun k_ h_ => ⟨Nat.le_trans (below_size bR_) h_.2.1, h_.2.2.1⟩)); clear HO19 HO22 HO25 HO28 HO32 HB; have HZ17 := n0_; have HO19 := m0_; have HO22 := m1_; have HO25 := m2_; have HO28 := m3_; have HO32 := m4_; have HB := m5_; have HO47 := m6_; clear n0_ m0_ m1_ m2_ m3_ m4_ m5_ m6_; (try clear hb_); (try clear hk_); (try clear hw_); (try clear hg_); (try clear hbox_); (try clear ho0_); (try clear ho1_); obtain ⟨Ao47, co47, eo_⟩ := Kd.R_slice HO47.out; subst eo_) | ((with_reducible refine gc_ (f := 20) rfl ?_); refine gL_ (some 88) Try.func20 #[.slice Ao28 t26.length co28, .slice Ao47 t45.length co47] ?_; (with_reducible refine (laws_eqStringS.calls k Ao28 co28 t26 Ao47 co47 t45 true _ ?s1 ?s2 ?s3 ?s4 FA49.out).mono ?_); (case s1 => exact cC_ (Kd.R_reads' HO28.out).2.2); (case s2 => exact (Kd.R_reads' HO28.out).2.1); (case s3 => exact cC_ (Kd.R_reads' HO47.out).2.2); (case s4 => exact (Kd.R_reads' HO47.out).2.1); rintro e w_18 ⟨rfl, ⟨nd_, hw_⟩⟩; refine ⟨_, rfl, ?_⟩; have hb_ := below_drawn_FnExactCopyTree hw_; clear hw_; have n0_ : Aside0 (w_17.heap.size <= w_18.heap.size) := ⟨Nat.le_trans (below_size bR_) (below_size hb_)⟩; have m0_ := A_ (Kd.S_below (vS_ HO19.out) hb_); have m1_ := A_ (Kd.S_below (vS_ HO22.out) hb_); have m2_ := A_ (Kd.R_below (vR_ HO25.out) hb_); have m3_ := A_ (Kd.R_below (vR_ HO28.out) hb_); have m4_ := A_ (Kd.S_below (vS_ HO32.out) hb_); have m5_ := A_ (Kd.R_below (vR_ HO47.out) hb_); have m6_ := A_ (below_step bB_ hb_); clear HO19 HO22 HO25 HO28 HO32 HO47 HB; have HZ18 := n0_; have HO19 := m0_; have HO22 := m1_; have HO25 := m2_; have HO28 := m3_; have HO32 := m4_; have HB := m6_; clear n0_ m0_ m1_ m2_ m3_ m4_ m5_ m6_; (try clear hb_); (try clear hk_); (try clear hw_); (try clear hg_); (try clear hbox_); (try clear ho0_)) | ((with_reducible refine gc_ (f := 21) rfl ?_); refine gL_ (some 92) Try.func21 #[(.slice Ao22 t20.length co22), .int .i64 1] ?_; (with_reducible refine (laws_markResS.calls k (fun k_ => w_7.heap.size <= k_ /\ k_ < w_8.heap.size) (.slice Ao22 t20.length co22) t20 1 t50 t51 w _ ?s1 ?s2 FA52.out).mono ?_); (case s1 => exact bB_); (case s2 => exact (vS_ HO22.out)); rintro e w_19 ⟨rfl, ho0_, hb_, hk_⟩; refine ⟨_, rfl, ?_⟩; have n0_ : Aside0 (w_18.heap.size <= w_19.heap.size) := ⟨Nat.le_trans (below_size bR_) (hk_.1)⟩; have m0_ := A_ (Kd.S_step (vS_ HO19.out) (fun k_ h1_ h2_ => hk_.2 k_ h2_ (fun h3_ => by have := HZ1.out; have := HZ2.out; have := HZ3.out; have := HZ4.out; have := HZ5.out; have := HZ6.out; have := HZ7.out; have := HZ8.out; have := HZ9.out; have := HZ10.out; have := HZ11.out; have := HZ12.out; have := HZ13.out; have := HZ14.out; have := HZ15.out; have := HZ16.out; have := HZ17.out; have := HZ18.out; omega))); have m1_ := A_ (Kd.R_step (vR_ HO25.out) (fun k_ h1_ h2_ => hk_.2 k_ h2_ (fun h3_ => by have := HZ1.out; have := HZ2.out; have := HZ3.out; have := HZ4.out; have := HZ5.out; have := HZ6.out; have := HZ7.out; have := HZ8.out; have := HZ9.out; have := HZ10.out; have := HZ11.out; have := HZ12.out; have := HZ13.out; have := HZ14.out; have := HZ15.out; have := HZ16.out; have := HZ17.out; have := HZ18.out; omega))); have m2_ := A_ (Kd.R_step (vR_ HO28.out) (fun k_ h1_ h2_ => hk_.2 k_ h2_ (fun h3_ => by have := HZ1.out; have := HZ2.out; have := HZ3.out; have := HZ4.out; have := HZ5.out; have := HZ6.out; have := HZ7.out; have := HZ8.out; have := HZ9.out; have := HZ10.out; have := HZ11.out; have := HZ12.out; have := HZ13.out; have := HZ14.out; have := HZ15.out; have := HZ16.out; have := HZ17.out; have := HZ18.out; omega))); have m3_ := A_ (Kd.S_step (vS_ HO32.out) (fun k_ h1_ h2_ => hk_.2 k_ h2_ (fun h3_ => by have := HZ1.out; have := HZ2.out; have := HZ3.out; have := HZ4.out; have := HZ5.out; have := HZ6.out; have := HZ7.out; have := HZ8.out; have := HZ9.out; have := HZ10.out; have := HZ11.out; have := HZ12.out; have := HZ13.out; have := HZ14.out; have := HZ15.out; have := HZ16.out; have := HZ17.out; have := HZ18.out; omega))); have m4_ := A_ (Kd.S_mono ho0_ (fun _ h_ => h_)); have m5_ := A_ hb_; have m6_ := A_ (Kd.S_reads' ho0_).1; clear HO19 HO25 HO28 HO32 HO22 HB; have HZ19 := n0_; have HO19 := m0_; have HO25 := m1_; have HO28 := m2_; have HO32 := m3_; have HB := m5_; have HE53 := m6_; clear n0_ m0_ m1_ m2_ m3_ m4_ m5_ m6_; (try clear hb_); (try clear hk_); (try clear hw_); (try clear hg_); (try clear hbox_); (try clear ho0_); (try clear ho1_); (try clear ho2_)) | ((with_reducible refine gc_ (f := 22) rfl ?_); refine gL_ (some 95) Try.func22 #[(.slice Ao25 t23.length co25), .int .i64 t50] ?_; (with_reducible refine (laws_markStringS.calls k (fun k_ => w_8.heap.size <= k_ /\ k_ < w_9.heap.size) (.slice Ao25 t23.length co25) t23 t50 t54 t55 w _ ?s1 ?s2 FA56.out).mono ?_); (case s1 => exact bB_); (case s2 => exact (vR_ HO25.out)); rintro e w_20 ⟨rfl, ho0_, hb_, hk_⟩; refine ⟨_, rfl, ?_⟩; have n0_ : Aside0 (w_19.heap.size <= w_20.heap.size) := ⟨Nat.le_trans (below_size bR_) (hk_.1)⟩; have m0_ := A_ (Kd.S_step (vS_ HO19.out) (fun k_ h1_ h2_ => hk_.2 k_ h2_ (fun h3_ => by have := HZ1.out; have := HZ2.out; have := HZ3.out; have := HZ4.out; have := HZ5.out; have := HZ6.out; have := HZ7.out; have := HZ8.out; have := HZ9.out; have := HZ10.out; have := HZ11.out; have := HZ12.out; have := HZ13.out; have := HZ14.out; have := HZ15.out; have := HZ16.out; have := HZ17.out; have := HZ18.out; have := HZ19.out; omega))); have m1_ := A_ (Kd.R_step (vR_ HO28.out) (fun k_ h1_ h2_ => hk_.2 k_ h2_ (fun h3_ => by have := HZ1.out; have := HZ2.out; have := HZ3.out; have := HZ4.out; have := HZ5.out; have := HZ6.out; have := HZ7.out; have := HZ8.out; have := HZ9.out; have := HZ10.out; have := HZ11.out; have := HZ12.out; have := HZ13.out; have := HZ14.out; have := HZ15.out; have := HZ16.out; have := HZ17.out; have := HZ18.out; have := HZ19.out; omega))); have m2_ := A_ (Kd.S_step (vS_ HO32.out) (fun k_ h1_ h2_ => hk_.2 k_ h2_ (fun h3_ => by have := HZ1.out; have := HZ2.out; have := HZ3.out; have := HZ4.out; have := HZ5.out; have := HZ6.out; have := HZ7.out; have := HZ8.out; have := HZ9.out; have := HZ10.out; have := HZ11.out; have := HZ12.out; have := HZ13.out; have := HZ14.out; have := HZ15.out; have := HZ16.out; have := HZ17.out; have := HZ18.out; have := HZ19.out; omega))); have m3_ := A_ (Kd.R_mono (ok' := fun k_ => w_8.heap.size <= k_ /\ k_ < w_9.heap.size) (Kd.R_tight rfl ho0_) (fun k_ h_ => HO25.out.1 k_ h_.symm)); have m4_ := A_ hb_; have m5_ := A_ (Kd.R_reads' ho0_).1; clear HO19 HO28 HO32 HO25 HB; have HZ20 := n0_; have HO19 := m0_; have HO28 := m1_; have HO32 := m2_; have HB := m4_; have HE57 := m5_; clear n0_ m0_ m1_ m2_ m3_ m4_ m5_; (try clear hb_); (try clear hk_); (try clear hw_); (try clear hg_); (try clear hbox_); (try clear ho0_); (try clear ho1_); (try clear ho2_)) | ((with_reducible refine gc_ (f := 22) rfl ?_); refine gL_ (some 98) Try.func22 #[(.slice Ao28 t26.length co28), .int .i64 t54] ?_; (with_reducible refine (laws_markStringS.calls k (fun k_ => w_9.heap.size <= k_ /\ k_ < w_10.heap.size) (.slice Ao28 t26.length co28) t26 t54 t58 t59 w _ ?s1 ?s2 FA60.out).mono ?_); (case s1 => exact bB_); (case s2 => exact (vR_ HO28.out)); rintro e w_21 ⟨rfl, ho0_, hb_, hk_⟩; refine ⟨_, rfl, ?_⟩; have n0_ : Aside0 (w_20.heap.size <= w_21.heap.size) := ⟨Nat.le_trans (below_size bR_) (hk_.1)⟩; have m0_ := A_ (Kd.S_step (vS_ HO19.out) (fun k_ h1_ h2_ => hk_.2 k_ h2_ (fun h3_ => by have := HZ1.out; have := HZ2.out; have := HZ3.out; have := HZ4.out; have := HZ5.out; have := HZ6.out; have := HZ7.out; have := HZ8.out; have := HZ9.out; have := HZ10.out; have := HZ11.out; have := HZ12.out; have := HZ13.out; have := HZ14.out; have := HZ15.out; have := HZ16.out; have := HZ17.out; have := HZ18.out; have := HZ19.out; have := HZ20.out; omega))); have m1_ := A_ (Kd.S_step (vS_ HO32.out) (fun k_ h1_ h2_ => hk_.2 k_ h2_ (fun h3_ => by have := HZ1.out; have := HZ2.out; have := HZ3.out; have := HZ4.out; have := HZ5.out; have := HZ6.out; have := HZ7.out; have := HZ8.out; have := HZ9.out; have := HZ10.out; have := HZ11.out; have := HZ12.out; have := HZ13.out; have := HZ14.out; have := HZ15.out; have := HZ16.out; have := HZ17.out; have := HZ18.out; have := HZ19.out; have := HZ20.out; omega))); have m2_ := A_ (Kd.R_mono (ok' := fun k_ => w_9.heap.size <= k_ /\ k_ < w_10.heap.size) (Kd.R_tight rfl ho0_) (fun k_ h_ => HO28.out.1 k_ h_.symm)); have m3_ := A_ hb_; have m4_ := A_ (Kd.R_reads' ho0_).1; clear HO19 HO32 HO28 HB; have HZ21 := n0_; have HO19 := m0_; have HO32 := m1_; have HB := m3_; have HE61 := m4_; clear n0_ m0_ m1_ m2_ m3_ m4_; (try clear hb_); (try clear hk_); (try clear hw_); (try clear hg_); (try clear hbox_); (try clear ho0_); (try clear ho1_); (try clear ho2_)) | (go_at_call 19; (with_reducible refine (laws_eqResS.calls k Ao32 co32 t29 Ao19 co19 t16 true _ ?s1 ?s2 ?s3 ?s4 FA63.out).mono ?_); (case s1 => exact cC_ (Kd.S_reads' HO32.out).2.2); (case s2 => exact (Kd.S_reads' HO32.out).2.1); (case s3 => exact cC_ (Kd.S_reads' HO19.out).2.2); (case s4 => exact (Kd.S_reads' HO19.out).2.1); rintro e w_22 ⟨rfl, hb_⟩; have n0_ : Aside0 (w_21.heap.size <= w_22.heap.size) := ⟨Nat.le_trans (below_size bR_) (below_size hb_)⟩; have m0_ := A_ (Kd.S_below (vS_ HO19.out) hb_); have m1_ := A_ (Kd.S_below (vS_ HO32.out) hb_); have m2_ := A_ (below_step bB_ hb_); clear HO19 HO32 HB; have HZ22 := n0_; have HO19 := m0_; have HO32 := m1_; have HB := m2_; clear n0_ m0_ m1_ m2_; (try clear hb_); (try clear hk_); (try clear hw_); (try clear hg_); (try clear hbox_); (try clear ho0_)) | ((with_reducible refine gc_ (f := 21) rfl ?_); refine gL_ (some 114) Try.func21 #[(.slice Ao32 t29.length co32), .int .i64 1] ?_; (with_reducible refine (laws_markResS.calls k (fun k_ => w_10.heap.size <= k_ /\ k_ < w_11.heap.size) (.slice Ao32 t29.length co32) t29 1 t64 t65 w _ ?s1 ?s2 FA66.out).mono ?_); (case s1 => exact bB_); (case s2 => exact (vS_ HO32.out)); rintro e w_23 ⟨rfl, ho0_, hb_, hk_⟩; refine ⟨_, rfl, ?_⟩; have n0_ : Aside0 (w_22.heap.size <= w_23.heap.size) := ⟨Nat.le_trans (below_size bR_) (hk_.1)⟩; have m0_ := A_ (Kd.S_step (vS_ HO19.out) (fun k_ h1_ h2_ => hk_.2 k_ h2_ (fun h3_ => by have := HZ1.out; have := HZ2.out; have := HZ3.out; have := HZ4.out; have := HZ5.out; have := HZ6.out; have := HZ7.out; have := HZ8.out; have := HZ9.out; have := HZ10.out; have := HZ11.out; have := HZ12.out; have := HZ13.out; have := HZ14.out; have := HZ15.out; have := HZ16.out; have := HZ17.out; have := HZ18.out; have := HZ19.out; have := HZ20.out; have := HZ21.out; have := HZ22.out; omega))); have m1_ := A_ (Kd.S_mono ho0_ (fun _ h_ => h_)); have m2_ := A_ hb_; have m3_ := A_ (Kd.S_reads' ho0_).1; clear HO19 HO32 HB; have HZ23 := n0_; have HO19 := m0_; have HO32 := m1_; have HB := m2_; have HE67 := m3_; clear n0_ m0_ m1_ m2_ m3_; (try clear hb_); (try clear hk_); (try clear hw_); (try clear hg_); (try clear hbox_); (try clear ho0_); (try clear ho1_); (try clear ho2_)) | ((with_reducible refine gc_ (f := 23) rfl ?_); refine gL_ (some 117) Try.func23 #[.slice Ao32 t29.length co32, .int .i64 1] ?_; refine calls_of_args (args' := #[.slice Ao32 t65.length co32, .int .i64 1]) (by simp only [HE67.out]) ?_; (with_reducible refine (laws_heldResS.calls k Ao32 co32 t65 1 t68 _ ?s1 ?s2 FA69.out).mono ?_); (case s1 => repeat (first | (have h_ := Kd.S_reads' HO32.out; rw [HE67.out] at h_; exact h_.2.2) | (with_reducible refine Kd.C_alloc ?_ _) | (with_reducible refine Kd.C_drewN ?_ _) | (with_reducible refine Kd.C_drew ?_))); (case s2 => have h_ := Kd.S_reads' HO32.out; rw [HE67.out] at h_; exact h_.2.1); rintro e w_24 ⟨rfl, hb_⟩; refine ⟨_, rfl, ?_⟩; have n0_ : Aside0 (w_23.heap.size <= w_24.heap.size) := ⟨Nat.le_trans (below_size bR_) (below_size hb_)⟩; have m0_ := A_ (Kd.S_below (vS_ HO19.out) hb_); have m1_ := A_ (Kd.S_below (vS_ HO32.out) hb_); have m2_ := A_ (below_step bB_ hb_); clear HO19 HO32 HB; have HZ24 := n0_; have HO19 := m0_; have HO32 := m1_; have HB := m2_; clear n0_ m0_ m1_ m2_; (try clear hb_); (try clear hk_); (try clear hw_); (try clear hg_); (try clear hbox_); (try clear ho0_)) | ((with_reducible refine gc_ (f := 16) rfl ?_); refine gL_ (some 125) Try.func16 #[.slice A0 l0.length c0] ?_; (with_reducible refine (laws_toResS.calls k A0 c0 l0 t70 _ ?s1 ?s2 FA71.out).mono ?_); (case s1 => exact cC_ (Kd.C_below HR0.out HB.out)); (case s2 => exact HC0.out); rintro e w_25 ⟨v7e, rfl, ho0_, hb_⟩; refine ⟨_, rfl, ?_⟩; have n0_ : Aside0 (w_24.heap.size <= w_25.heap.size) := ⟨Nat.le_trans (below_size bR_) (below_size hb_)⟩; have m0_ := A_ (Kd.S_below (vS_ HO19.out) hb_); have m1_ := A_ (Kd.S_below (vS_ HO32.out) hb_); have m2_ := A_ (below_step bB_ hb_); have m3_ := A_ (show Kd.S k57 57 w_25 w.heap.size (fun k_ => w_24.heap.size <= k_ /\ k_ < w_25.heap.size) v7e t70 from Kd.S_mono (Kd.S_lower (Kd.S_bound ho0_) (below_size bB_)) (fun k_ h_ => ⟨Nat.le_trans (below_size bR_) h_.2.1, h_.2.2.1⟩)); clear HO19 HO32 HB; have HZ25 := n0_; have HO19 := m0_; have HO32 := m1_; have HB := m2_; have HO72 := m3_; clear n0_ m0_ m1_ m2_ m3_; (try clear hb_); (try clear hk_); (try clear hw_); (try clear hg_); (try clear hbox_); (try clear ho0_); (try clear ho1_); obtain ⟨Ao72, co72, eo_⟩ := Kd.S_slice HO72.out; subst eo_) | ((with_reducible refine gc_ (f := 17) rfl ?_); refine gL_ (some 127) Try.func17 #[.slice A1 l1.length c1] ?_; (with_reducible refine (laws_toStringS.calls k A1 c1 l1 t73 _ ?s1 ?s2 FA74.out).mono ?_); (case s1 => exact cC_ (Kd.C_below HR1.out HB.out)); (case s2 => exact HC1.out); rintro e w_26 ⟨v8e, rfl, ho0_, hb_⟩; refine ⟨_, rfl, ?_⟩; have n0_ : Aside0 (w_25.heap.size <= w_26.heap.size) := ⟨Nat.le_trans (below_size bR_) (below_size hb_)⟩; have m0_ := A_ (Kd.S_below (vS_ HO19.out) hb_); have m1_ := A_ (Kd.S_below (vS_ HO32.out) hb_); have m2_ := A_ (Kd.S_below (vS_ HO72.out) hb_); have m3_ := A_ (below_step bB_ hb_); have m4_ := A_ (show Kd.R Kd.string 9 w_26 w.heap.size (fun k_ => w_25.heap.size <= k_ /\ k_ < w_26.heap.size) v8e t73 from Kd.R_mono (Kd.R_lower (Kd.R_bound ho0_) (below_size bB_)) (fun k_ h_ => ⟨Nat.le_trans (below_size bR_) h_.2.1, h_.2.2.1⟩)); clear HO19 HO32 HO72 HB; have HZ26 := n0_; have HO19 := m0_; have HO32 := m1_; have HO72 := m2_; have HB := m3_; have HO75 := m4_; clear n0_ m0_ m1_ m2_ m3_ m4_; (try clear hb_); (try clear hk_); (try clear hw_); (try clear hg_); (try clear hbox_); (try clear ho0_); (try clear ho1_); obtain ⟨Ao75, co75, eo_⟩ := Kd.R_slice HO75.out; subst eo_) | ((with_reducible refine gc_ (f := 17) rfl ?_); refine gL_ (some 129) Try.func17 #[.slice A2 l2.length c2] ?_; (with_reducible refine (laws_toStringS.calls k A2 c2 l2 t76 _ ?s1 ?s2 FA77.out).mono ?_); (case s1 => exact cC_ (Kd.C_below HR2.out HB.out)); (case s2 => exact HC2.out); rintro e w_27 ⟨v9e, rfl, ho0_, hb_⟩; refine ⟨_, rfl, ?_⟩; have n0_ : Aside0 (w_26.heap.size <= w_27.heap.size) := ⟨Nat.le_trans (below_size bR_) (below_size hb_)⟩; have m0_ := A_ (Kd.S_below (vS_ HO19.out) hb_); have m1_ := A_ (Kd.S_below (vS_ HO32.out) hb_); have m2_ := A_ (Kd.S_below (vS_ HO72.out) hb_); have m3_ := A_ (Kd.R_below (vR_ HO75.out) hb_); have m4_ := A_ (below_step bB_ hb_); have m5_ := A_ (show Kd.R Kd.string 9 w_27 w.heap.size (fun k_ => w_26.heap.size <= k_ /\ k_ < w_27.heap.size) v9e t76 from Kd.R_mono (Kd.R_lower (Kd.R_bound ho0_) (below_size bB_)) (fun k_ h_ => ⟨Nat.le_trans (below_size bR_) h_.2.1, h_.2.2.1⟩)); clear HO19 HO32 HO72 HO75 HB; have HZ27 := n0_; have HO19 := m0_; have HO32 := m1_; have HO72 := m2_; have HO75 := m3_; have HB := m4_; have HO78 := m5_; clear n0_ m0_ m1_ m2_ m3_ m4_ m5_; (try clear hb_); (try clear hk_); (try clear hw_); (try clear hg_); (try clear hbox_); (try clear ho0_); (try clear ho1_); obtain ⟨Ao78, co78, eo_⟩ := Kd.R_slice HO78.out; subst eo_) | ((with_reducible refine gc_ (f := 35) rfl ?_); refine gL_ (some 132) Try.func35 #[.slice Ao72 t70.length co72, .slice Ao75 t73.length co75, .slice Ao78 t76.length co78, .bool a3, .int .i64 a4] ?_; (with_reducible refine (impl_CopyTreeX.calls k Ao72 co72 t70 Ao75 co75 t73 Ao78 co78 t76 a3 a4 t79 t80 _ ?s1 ?s2 ?s3 ?s4 ?s5 ?s6 FA81.out).mono ?_); (case s1 => exact cC_ (Kd.S_reads' HO72.out).2.2); (case s2 => exact (Kd.S_reads' HO72.out).2.1); (case s3 => exact cC_ (Kd.R_reads' HO75.out).2.2); (case s4 => exact (Kd.R_reads' HO75.out).2.1); (case s5 => exact cC_ (Kd.R_reads' HO78.out).2.2); (case s6 => exact (Kd.R_reads' HO78.out).2.1); rintro e w_28 ⟨v1f, rfl, ho0_, hb_⟩; refine ⟨_, rfl, ?_⟩; have n0_ : Aside0 (w_27.heap.size <= w_28.heap.size) := ⟨Nat.le_trans (below_size bR_) (below_size hb_)⟩; have m0_ := A_ (Kd.S_below (vS_ HO19.out) hb_); have m1_ := A_ (Kd.S_below (vS_ HO32.out) hb_); have m2_ := A_ (Kd.S_below (vS_ HO72.out) hb_); have m3_ := A_ (Kd.R_below (vR_ HO75.out) hb_); have m4_ := A_ (Kd.R_below (vR_ HO78.out) hb_); have m5_ := A_ (below_step bB_ hb_); have m6_ := A_ (show Kd.S k57 57 w_28 w.heap.size (fun k_ => w_27.heap.size <= k_ /\ k_ < w_28.heap.size) v1f t79 from Kd.S_mono (Kd.S_lower (Kd.S_bound ho0_) (below_size bB_)) (fun k_ h_ => ⟨Nat.le_trans (below_size bR_) h_.2.1, h_.2.2.1⟩)); clear HO19 HO32 HO72 HO75 HO78 HB; have HZ28 := n0_; have HO19 := m0_; have HO32 := m1_; have HB := m5_; have HO82 := m6_; clear n0_ m0_ m1_ m2_ m3_ m4_ m5_ m6_; (try clear hb_); (try clear hk_); (try clear hw_); (try clear hg_); (try clear hbox_); (try clear ho0_); (try clear ho1_); obtain ⟨Ao82, co82, eo_⟩ := Kd.S_slice HO82.out; subst eo_) | ((with_reducible refine gc_ (f := 19) rfl ?_); refine gL_ (some 137) Try.func19 #[.slice Ao82 t79.length co82, .slice Ao19 t16.length co19] ?_; (with_reducible refine (laws_eqResS.calls k Ao82 co82 t79 Ao19 co19 t16 true _ ?s1 ?s2 ?s3 ?s4 FA84.out).mono ?_); (case s1 => exact cC_ (Kd.S_reads' HO82.out).2.2); (case s2 => exact (Kd.S_reads' HO82.out).2.1); (case s3 => exact cC_ (Kd.S_reads' HO19.out).2.2); (case s4 => exact (Kd.S_reads' HO19.out).2.1); rintro e w_29 ⟨rfl, hb_⟩; refine ⟨_, rfl, ?_⟩; have n0_ : Aside0 (w_28.heap.size <= w_29.heap.size) := ⟨Nat.le_trans (below_size bR_) (below_size hb_)⟩; have m0_ := A_ (Kd.S_below (vS_ HO19.out) hb_); have m1_ := A_ (Kd.S_below (vS_ HO32.out) hb_); have m2_ := A_ (Kd.S_below (vS_ HO82.out) hb_); have m3_ := A_ (below_step bB_ hb_); clear HO19 HO32 HO82 HB; have HZ29 := n0_; have HO32 := m1_; have HB := m3_; clear n0_ m0_ m1_ m2_ m3_; (try clear hb_); (try clear hk_); (try clear hw_); (try clear hg_); (try clear hbox_); (try clear ho0_)) | ((with_reducible refine gc_ (f := 23) rfl ?_); refine gL_ (some 146) Try.func23 #[.slice Ao32 t29.length co32, .int .i64 1] ?_; refine calls_of_args (args' := #[.slice Ao32 t65.length co32, .int .i64 1]) (by simp only [HE67.out]) ?_; (with_reducible refine (laws_heldResS.calls k Ao32 co32 t65 1 t85 _ ?s1 ?s2 FA86.out).mono ?_); (case s1 => repeat (first | (have h_ := Kd.S_reads' HO32.out; rw [HE67.out] at h_; exact h_.2.2) | (with_reducible refine Kd.C_alloc ?_ _) | (with_reducible refine Kd.C_drewN ?_ _) | (with_reducible refine Kd.C_drew ?_))); (case s2 => have h_ := Kd.S_reads' HO32.out; rw [HE67.out] at h_; exact h_.2.1); rintro e w_30 ⟨rfl, hb_⟩; refine ⟨_, rfl, ?_⟩; have n0_ : Aside0 (w_29.heap.size <= w_30.heap.size) := ⟨Nat.le_trans (below_size bR_) (below_size hb_)⟩; have m0_ := A_ (Kd.S_below (vS_ HO32.out) hb_); have m1_ := A_ (below_step bB_ hb_); clear HO32 HB; have HZ30 := n0_; have HB := m1_; clear n0_ m0_ m1_; (try clear hb_); (try clear hk_); (try clear hw_); (try clear hg_); (try clear hbox_); (try clear ho0_)))
 go_ret
 exact ⟨rfl, bB_⟩
end Go.Proofs.Ytbgggcgjijljkaa.Q

/- What a reading of a parameter says of its cells, kind by kind: for the rows of laws whose parameters are slices and structs. No condition. -/
namespace Go.Proofs.Ytbgggcgjijljkaa.Op
open Go.RowKit Go.ChangeShapes Go.WideShapes Go.Proofs.YtbgggcgjijljkaaW.PrintWords
def Opens {α H : Type} (enc : TypeId × Value -> H) (P : Program) (w : World) (t : TypeId) (d : Kd α) (G : α -> Prop) : Prop :=
  ∀ fuel cs x, DataW.trod enc P w 0 (fun _ => true) true fuel t cs = some x -> ∃ a, d.K w a cs /\ G a
section
variable {H : Type} {enc : TypeId × Value -> H} {P : Program} {w : World} {t : TypeId}
theorem opens_string (ht : P.underlying t = some .string) : Opens enc P w t Kd.string (fun s => s.size <= maxLen) := by
  intro fuel cs x h
  obtain ⟨s, rfl, _, hs⟩ := DataW.trod_string ht h
  exact ⟨s, rfl, hs⟩
theorem opens_bool (ht : P.underlying t = some .bool) : Opens enc P w t Kd.bool (fun _ => True) := by
  intro fuel cs x h
  obtain ⟨s, rfl, _⟩ := DataW.trod_bool ht h
  exact ⟨s, rfl, trivial⟩
theorem opens_int {k : IntKind} (ht : P.underlying t = some (.int k)) : Opens enc P w t (Kd.int k) (fun n => (Lit.int k n).wf = true) := by
  intro fuel cs x h
  obtain ⟨n, rfl, _, hn⟩ := DataW.trod_int ht h
  exact ⟨n, rfl, hn⟩
theorem opens_slice {α : Type} [Inhabited α] {e : TypeId} {d : Kd α} {G : α -> Prop} (ht : P.underlying t = some (.slice e)) (hc : P.cellsOf e = d.sz) (he : Opens enc P w e d G) :
    Opens enc P w t (Kd.slice e d) (fun l => l.length <= maxLen /\ ∀ a ∈ l, G a) := by
  intro fuel cs x h
  rcases Go.Deep.open_slice ht h with ⟨rfl, _⟩ | ⟨a, len, cap, m, n, D, Pl, rfl, _, hl, hm, hmm, _, hx⟩
  . exact ⟨[], ⟨none, 0, rfl, Nat.le_refl _, Kd.C_nil d w⟩, by simp, by simp⟩
  . have hm' : m = cap := by simpa using hmm
    have each : ∀ i, i < len -> ∃ y : α, G y /\ ∃ c, d.K w y c /\ ∀ j u, c[j]? = some u -> w.cell? (a.add (i * d.sz + j)) = some u := fun i hi => by
      obtain ⟨cs', h1, h2⟩ := hx i (by omega)
      obtain ⟨y, hK, hG⟩ := he _ _ _ h2
      obtain ⟨_, h3, h4⟩ := World.cells?_some h1
      refine ⟨y, hG, cs', hK, fun j u hu => ?_⟩
      have hj : j < P.cellsOf e := by
        have := (List.getElem?_eq_some_iff.1 hu).1
        omega
      have h5 := h4 j hj
      rw [Go.Deep.add_add, hc, hu] at h5
      exact h5
    obtain ⟨f, hf⟩ := Go.Deep.choose_lt each
    have hmax : maxLen = 9223372036854775807 := by decide
    refine ⟨(List.range len).map f, ⟨some a, cap, by simp, by simpa using hl, ?_⟩, by simp; omega, ?_⟩
    . refine ⟨rfl, by simp; omega, fun _ => ⟨a, rfl, fun j p hj => ?_⟩⟩
      have hjl : j < len := by
        have := (List.getElem?_eq_some_iff.1 hj).1
        simpa using this
      have hp : f j = p := by
        rw [List.getElem?_map, List.getElem?_range hjl] at hj
        simpa using hj
      obtain ⟨_, c, hK, hcell⟩ := hf j hjl
      exact ⟨c, d.K_len hK, hp ▸ hK, hcell⟩
    . intro y hy
      obtain ⟨j, hj, rfl⟩ := List.mem_map.1 hy
      exact (hf j (List.mem_range.1 hj)).1
end
end Go.Proofs.Ytbgggcgjijljkaa.Op

/- What a reading of a struct says of its cells. No condition. -/
namespace Go.Proofs.Ytbgggcgjijljkaa.Q
open Go.RowKit Go.ChangeShapes Go.WideShapes Go.Proofs.YtbgggcgjijljkaaW.PrintWords Go.Proofs.Ytbgggcgjijljkaa
set_option linter.unusedVariables false
set_option linter.unusedSimpArgs false
theorem len3 {α : Type} {cs : List α} (h : cs.length = 3) : ∃ c0 c1 c2, cs = [c0, c1, c2] := by
  match cs, h with
  | [c0, c1, c2], _ => exact ⟨_, _, _, rfl⟩
theorem len5 {α : Type} {cs : List α} (h : cs.length = 5) : ∃ c0 c1 c2 c3 c4, cs = [c0, c1, c2, c3, c4] := by
  match cs, h with
  | [c0, c1, c2, c3, c4], _ => exact ⟨_, _, _, _, _, rfl⟩
instance : Inhabited S88 := ⟨z88⟩
instance : Inhabited S79 := ⟨z79⟩
instance : Inhabited S90 := ⟨z90⟩
def G88 (x : S88) : Prop := (fun s : ByteArray => s.size <= maxLen) x.f0 /\ (fun s : ByteArray => s.size <= maxLen) x.f1 /\ (fun s : ByteArray => s.size <= maxLen) x.f2
theorem opens88 {H : Type} {enc : TypeId × Value -> H} {w : World} : Op.Opens enc Try.prog w 88 k88 G88 := by
  intro fuel cs x h
  obtain ⟨xs, n, _, _, hl, hlen, hf⟩ := DataW.trod_struct Try.underlying88 h
  replace hl : cs.length = 3 := hl.trans (by kernel_rfl)
  replace hlen : xs.length = 3 := hlen.trans (by kernel_rfl)
  obtain ⟨c0, c1, c2, rfl⟩ := len3 hl
  have hc9_ : Try.prog.cellsOf 9 = 1 := by kernel_rfl
  obtain ⟨a0, k0_, g0_⟩ : ∃ a, Kd.string.K w a [c0] /\ (fun s : ByteArray => s.size <= maxLen) a := by
    have h1 : DataW.trod enc Try.prog w 0 (fun _ => true) true n 9 (([c0, c1, c2].drop 0).take (Try.prog.cellsOf 9)) = xs[0]? := hf 0 _ rfl
    have hlt : 0 < xs.length := by omega
    rw [List.getElem?_eq_getElem hlt] at h1
    simp only [hc9_, List.drop_zero, List.drop_succ_cons, List.take_succ_cons, List.take_zero] at h1
    exact (Op.opens_string Try.underlying9) n [c0] _ h1
  obtain ⟨a1, k1_, g1_⟩ : ∃ a, Kd.string.K w a [c1] /\ (fun s : ByteArray => s.size <= maxLen) a := by
    have h1 : DataW.trod enc Try.prog w 0 (fun _ => true) true n 9 (([c0, c1, c2].drop 1).take (Try.prog.cellsOf 9)) = xs[1]? := hf 1 _ rfl
    have hlt : 1 < xs.length := by omega
    rw [List.getElem?_eq_getElem hlt] at h1
    simp only [hc9_, List.drop_zero, List.drop_succ_cons, List.take_succ_cons, List.take_zero] at h1
    exact (Op.opens_string Try.underlying9) n [c1] _ h1
  obtain ⟨a2, k2_, g2_⟩ : ∃ a, Kd.string.K w a [c2] /\ (fun s : ByteArray => s.size <= maxLen) a := by
    have h1 : DataW.trod enc Try.prog w 0 (fun _ => true) true n 9 (([c0, c1, c2].drop 2).take (Try.prog.cellsOf 9)) = xs[2]? := hf 2 _ rfl
    have hlt : 2 < xs.length := by omega
    rw [List.getElem?_eq_getElem hlt] at h1
    simp only [hc9_, List.drop_zero, List.drop_succ_cons, List.take_succ_cons, List.take_zero] at h1
    exact (Op.opens_string Try.underlying9) n [c2] _ h1
  exact ⟨⟨a0, a1, a2⟩, ⟨[c0], [c1, c2], rfl, k0_, ⟨[c1], [c2], rfl, k1_, k2_⟩⟩, ⟨g0_, g1_, g2_⟩⟩
def G79 (x : S79) : Prop := (fun l : List ByteArray => l.length <= maxLen /\ ∀ a ∈ l, (fun s : ByteArray => s.size <= maxLen) a) x.f0 /\ (fun _ : Bool => True) x.f1 /\ (fun s : ByteArray => s.size <= maxLen) x.f2 /\ (fun x : Int => (Lit.int .i64 x).wf = true) x.f3 /\ (fun l : List (S88) => l.length <= maxLen /\ ∀ a ∈ l, G88 a) x.f4
theorem opens79 {H : Type} {enc : TypeId × Value -> H} {w : World} : Op.Opens enc Try.prog w 79 k79 G79 := by
  intro fuel cs x h
  obtain ⟨xs, n, _, _, hl, hlen, hf⟩ := DataW.trod_struct Try.underlying79 h
  replace hl : cs.length = 5 := hl.trans (by kernel_rfl)
  replace hlen : xs.length = 5 := hlen.trans (by kernel_rfl)
  obtain ⟨c0, c1, c2, c3, c4, rfl⟩ := len5 hl
  have hc23_ : Try.prog.cellsOf 23 = 1 := by kernel_rfl
  have hc4_ : Try.prog.cellsOf 4 = 1 := by kernel_rfl
  have hc9_ : Try.prog.cellsOf 9 = 1 := by kernel_rfl
  have hc3_ : Try.prog.cellsOf 3 = 1 := by kernel_rfl
  have hc77_ : Try.prog.cellsOf 77 = 1 := by kernel_rfl
  obtain ⟨a0, k0_, g0_⟩ : ∃ a, (Kd.slice 9 Kd.string).K w a [c0] /\ (fun l : List ByteArray => l.length <= maxLen /\ ∀ a ∈ l, (fun s : ByteArray => s.size <= maxLen) a) a := by
    have h1 : DataW.trod enc Try.prog w 0 (fun _ => true) true n 23 (([c0, c1, c2, c3, c4].drop 0).take (Try.prog.cellsOf 23)) = xs[0]? := hf 0 _ rfl
    have hlt : 0 < xs.length := by omega
    rw [List.getElem?_eq_getElem hlt] at h1
    simp only [hc23_, List.drop_zero, List.drop_succ_cons, List.take_succ_cons, List.take_zero] at h1
    exact (Op.opens_slice Try.underlying23 (by kernel_rfl) (Op.opens_string Try.underlying9)) n [c0] _ h1
  obtain ⟨a1, k1_, g1_⟩ : ∃ a, Kd.bool.K w a [c1] /\ (fun _ : Bool => True) a := by
    have h1 : DataW.trod enc Try.prog w 0 (fun _ => true) true n 4 (([c0, c1, c2, c3, c4].drop 1).take (Try.prog.cellsOf 4)) = xs[1]? := hf 1 _ rfl
    have hlt : 1 < xs.length := by omega
    rw [List.getElem?_eq_getElem hlt] at h1
    simp only [hc4_, List.drop_zero, List.drop_succ_cons, List.take_succ_cons, List.take_zero] at h1
    exact (Op.opens_bool Try.underlying4) n [c1] _ h1
  obtain ⟨a2, k2_, g2_⟩ : ∃ a, Kd.string.K w a [c2] /\ (fun s : ByteArray => s.size <= maxLen) a := by
    have h1 : DataW.trod enc Try.prog w 0 (fun _ => true) true n 9 (([c0, c1, c2, c3, c4].drop 2).take (Try.prog.cellsOf 9)) = xs[2]? := hf 2 _ rfl
    have hlt : 2 < xs.length := by omega
    rw [List.getElem?_eq_getElem hlt] at h1
    simp only [hc9_, List.drop_zero, List.drop_succ_cons, List.take_succ_cons, List.take_zero] at h1
    exact (Op.opens_string Try.underlying9) n [c2] _ h1
  obtain ⟨a3, k3_, g3_⟩ : ∃ a, (Kd.int .i64).K w a [c3] /\ (fun x : Int => (Lit.int .i64 x).wf = true) a := by
    have h1 : DataW.trod enc Try.prog w 0 (fun _ => true) true n 3 (([c0, c1, c2, c3, c4].drop 3).take (Try.prog.cellsOf 3)) = xs[3]? := hf 3 _ rfl
    have hlt : 3 < xs.length := by omega
    rw [List.getElem?_eq_getElem hlt] at h1
    simp only [hc3_, List.drop_zero, List.drop_succ_cons, List.take_succ_cons, List.take_zero] at h1
    exact (Op.opens_int Try.underlying3) n [c3] _ h1
  obtain ⟨a4, k4_, g4_⟩ : ∃ a, (Kd.slice 88 k88).K w a [c4] /\ (fun l : List (S88) => l.length <= maxLen /\ ∀ a ∈ l, G88 a) a := by
    have h1 : DataW.trod enc Try.prog w 0 (fun _ => true) true n 77 (([c0, c1, c2, c3, c4].drop 4).take (Try.prog.cellsOf 77)) = xs[4]? := hf 4 _ rfl
    have hlt : 4 < xs.length := by omega
    rw [List.getElem?_eq_getElem hlt] at h1
    simp only [hc77_, List.drop_zero, List.drop_succ_cons, List.take_succ_cons, List.take_zero] at h1
    exact (Op.opens_slice Try.underlying77 (by kernel_rfl) opens88) n [c4] _ h1
  exact ⟨⟨a0, a1, a2, a3, a4⟩, ⟨[c0], [c1, c2, c3, c4], rfl, k0_, ⟨[c1], [c2, c3, c4], rfl, k1_, ⟨[c2], [c3, c4], rfl, k2_, ⟨[c3], [c4], rfl, k3_, k4_⟩⟩⟩⟩, ⟨g0_, g1_, g2_, g3_, g4_⟩⟩
end Go.Proofs.Ytbgggcgjijljkaa.Q

/- Small lemmas for plain laws over rounds: indices as lengths of what was passed, bytes' equality. No condition. -/
set_option linter.unusedSimpArgs false
set_option linter.unusedVariables false
namespace Go.Proofs.Ytbgggcgjijljkaa.L
open Go.RowKit Go.Proofs.YtbgggcgjijljkaaW.PrintWords Go.Proofs.YtbgggcgjijljkaaW.PrintLast
theorem ba_toList (s : ByteArray) : s.toList = s.data.toList := ByteArray.toList_eq s
theorem ba_inj {a b : ByteArray} (h : a.toList = b.toList) : a = b := by
  rw [ba_toList, ba_toList] at h
  cases a with | mk x => cases b with | mk y => congr 1; exact Array.toList_inj.1 h
theorem ba_eq {a b : ByteArray} : (a.toList = b.toList) = (a = b) := propext ⟨ba_inj, fun h => by rw [h]⟩
theorem maxLen_eq : maxLen = 9223372036854775807 := by decide
theorem wrap_id {x : Int} (h0 : -9223372036854775808 <= x) (h1 : x < 9223372036854775808) : wrap64 x = x := by
  unfold wrap64
  omega
section
variable {α : Type} {l pre suf : List α} {a : α}
theorem lt_at (h : l = pre ++ a :: suf) : ((pre.length : Nat) : Int) < (l.length : Int) := by subst h; simp; omega
theorem rd_at (d : α) (h : l = pre ++ a :: suf) : rdOf d l (pre.length : Int) = a := by subst h; simp [rdOf, List.getD_eq_getElem?_getD]
theorem getD_at (d : α) (h : l = pre ++ a :: suf) : l.getD ((pre.length : Nat) : Int).toNat d = a := by subst h; simp [List.getD_eq_getElem?_getD]
theorem next_at (h : l = pre ++ a :: suf) (hl : l.length <= maxLen) : wrap64 ((pre.length : Int) + 1) = ((pre ++ [a]).length : Int) := by
  have : l.length = pre.length + 1 + suf.length := by subst h; simp; omega
  rw [maxLen_eq] at hl
  rw [wrap_id (by omega) (by omega)]
  simp
theorem snoc_at (h : l = pre ++ a :: suf) : l = (pre ++ [a]) ++ suf := by subst h; simp
theorem end_at (h : l = pre ++ []) : ¬ ((pre.length : Nat) : Int) < (l.length : Int) := by subst h; simp
theorem set_at {b : α} (h : l = pre ++ a :: suf) : l.set ((pre.length : Nat) : Int).toNat b = (pre ++ [b]) ++ suf := by subst h; simp
theorem nonneg_at (n : Nat) : (0 : Int) <= (n : Int) := Int.natCast_nonneg n
end
def Sz (g : Nat -> Option Int) (n : Int) (P : Prop) : Prop := Ev g (-1) \/ ∃ m : Int, 0 <= m /\ m <= n /\ Ev g m /\ P
theorem Sz.bind {g : Nat -> Option Int} {f : Nat -> Int -> Option Int} {n : Int} {P Q : Prop} (h : Sz g n P) (hk : ∀ m, 0 <= m -> m <= n -> P -> Sz (fun k => f k m) m Q) (hneg : Ev (fun k => f k (-1)) (-1)) : Sz (fun k => (g k).bind (f k)) n Q := by
  rcases h with h | ⟨m, h0, h1, h, hP⟩
  . exact .inl (Ev.bind h hneg)
  . rcases hk m h0 h1 hP with h2 | ⟨m', h0', h1', h2, hQ⟩
    . exact .inl (Ev.bind h h2)
    . exact .inr ⟨m', h0', by omega, Ev.bind h h2, hQ⟩
theorem Sz.sub {f : Nat -> Option Int} {n c : Int} {Q : Prop} (hc : 0 <= c) (hk : c <= n -> Sz f (n - c) Q) : Sz (fun k => if n - c < 0 then some (-1) else f k) n Q := by
  by_cases h : n - c < 0
  . simp only [if_pos h]; exact .inl (Ev.now _)
  . simp only [if_neg h]
    rcases hk (by omega) with h2 | ⟨m, h0, h1, h2, hQ⟩
    . exact .inl h2
    . exact .inr ⟨m, h0, by omega, h2, hQ⟩
theorem Sz.ev {α : Type} {g : Nat -> Option Int} {f : Nat -> Int -> Option α} {n : Int} {P : Prop} {r : α} (h : Sz g n P) (hneg : Ev (fun k => f k (-1)) r) (hk : ∀ m, 0 <= m -> m <= n -> P -> Ev (fun k => f k m) r) : Ev (fun k => (g k).bind (f k)) r := by
  rcases h with h | ⟨m, h0, h1, h, hP⟩
  . exact Ev.bind h hneg
  . exact Ev.bind h (hk m h0 h1 hP)
def IntOk (x : Int) : Prop := -9223372036854775808 <= x /\ x < 9223372036854775808
theorem wf_int {x : Int} (h : (Lit.int .i64 x).wf = true) : IntOk x := by
  unfold Lit.wf at h
  rw [Bool.and_eq_true, decide_eq_true_eq, decide_eq_true_eq] at h
  have h1 : IntKind.i64.min = -9223372036854775808 := by decide
  have h2 : IntKind.i64.max = 9223372036854775807 := by decide
  rw [h1, h2] at h
  exact ⟨h.1, by omega⟩
def SmS (l : List ByteArray) : Prop := l.length <= 1048576 /\ ∀ s ∈ l, s.size <= 1048576
theorem sz_loop {α : Type} {l : List α} {P : α -> Prop} (g : Nat -> Int -> Int -> Option Int)
    (hend : ∀ n, Ev (fun k => g k n l.length) n)
    (hstep : ∀ pre a suf n, l = pre ++ a :: suf -> 0 <= n -> n <= 1048576 -> Ev (fun k => g k n (pre.length : Int)) (-1) \/ ∃ m, 0 <= m /\ m <= n /\ P a /\ ∀ r, Ev (fun k => g k m ((pre ++ [a]).length : Int)) r -> Ev (fun k => g k n (pre.length : Int)) r) :
    ∀ (suf pre : List α) (n : Int), l = pre ++ suf -> 0 <= n -> n <= 1048576 -> Sz (fun k => g k n (pre.length : Int)) n (∀ a ∈ suf, P a) := by
  intro suf
  induction suf with
  | nil =>
    intro pre n h h0 h1
    have := hend n
    rw [h, List.append_nil] at this
    exact .inr ⟨n, h0, Int.le_refl _, this, by simp⟩
  | cons a suf ih =>
    intro pre n h h0 h1
    rcases hstep pre a suf n h h0 h1 with h2 | ⟨m, hm0, hm1, hP, hr⟩
    . exact .inl h2
    . rcases ih (pre ++ [a]) m (snoc_at h) hm0 (by omega) with h3 | ⟨m', hm0', hm1', h3, h4⟩
      . exact .inl (hr _ h3)
      . exact .inr ⟨m', hm0', by omega, hr _ h3, fun x hx => by
          rcases List.mem_cons.1 hx with rfl | hx
          . exact hP
          . exact h4 x hx⟩
theorem to_loop {α β : Type} {l : List α} {f : α -> β} (g : Nat -> List β -> Int -> Option (List β))
    (hend : ∀ out, Ev (fun k => g k out l.length) out)
    (hstep : ∀ pre a suf (out : List β), l = pre ++ a :: suf -> ((pre.length : Nat) : Int) < (out.length : Int) -> ∀ r, Ev (fun k => g k (out.set ((pre.length : Nat) : Int).toNat (f a)) ((pre ++ [a]).length : Int)) r -> Ev (fun k => g k out (pre.length : Int)) r) :
    ∀ (suf pre : List α) (out rest : List β), l = pre ++ suf -> out = pre.map f ++ rest -> rest.length = suf.length -> Ev (fun k => g k out (pre.length : Int)) (l.map f) := by
  intro suf
  induction suf with
  | nil =>
    intro pre out rest h ho hr
    obtain rfl : rest = [] := by simpa using hr
    have := hend out
    rw [h, List.append_nil] at this ⊢
    rw [ho, List.append_nil] at this ⊢
    exact this
  | cons a suf ih =>
    intro pre out rest h ho hr
    obtain ⟨b, rest, rfl⟩ : ∃ b r, rest = b :: r := by
      cases rest with
      | nil => simp at hr
      | cons b r => exact ⟨b, r, rfl⟩
    have hlen : ((pre.length : Nat) : Int) < (out.length : Int) := by rw [ho]; simp; omega
    refine hstep pre a suf out h hlen _ (ih (pre ++ [a]) _ rest (snoc_at h) ?_ (by simpa using hr))
    rw [ho]
    simp [List.set_append]
theorem eq_loop {α : Type} [DecidableEq α] {a b : List α} (g : Nat -> Int -> Option Bool)
    (hend : Ev (fun k => g k a.length) true)
    (hstep : ∀ pre x su pre' y sv, a = pre ++ x :: su -> b = pre' ++ y :: sv -> pre.length = pre'.length -> (x ≠ y -> Ev (fun k => g k (pre.length : Int)) false) /\ (x = y -> ∀ r, Ev (fun k => g k ((pre ++ [x]).length : Int)) r -> Ev (fun k => g k (pre.length : Int)) r)) :
    ∀ (su sv pu pv : List α), a = pu ++ su -> b = pv ++ sv -> pu.length = pv.length -> su.length = sv.length -> Ev (fun k => g k (pu.length : Int)) (decide (su = sv)) := by
  intro su
  induction su with
  | nil =>
    intro sv pu pv h h' hp hs
    obtain rfl : sv = [] := by simpa using hs.symm
    rw [h, List.append_nil] at hend
    exact hend
  | cons x su ih =>
    intro sv pu pv h h' hp hs
    cases sv with
    | nil => simp at hs
    | cons y sv =>
      obtain ⟨h1, h2⟩ := hstep pu x su pv y sv h h' hp
      by_cases e : x = y
      . have h3 := h2 e _ (ih sv (pu ++ [x]) (pv ++ [y]) (snoc_at h) (snoc_at h') (by simp [hp]) (by simpa using hs))
        simp only [e, List.cons.injEq, true_and]
        exact h3
      . rw [show decide (x :: su = y :: sv) = false from decide_eq_false (fun h => e (List.cons.inj h).1)]
        exact h1 e
theorem ev_cast {α : Type} {g : Nat -> Option α} {r s : α} (h : Ev g r) (e : r = s) : Ev g s := e ▸ h
end Go.Proofs.Ytbgggcgjijljkaa.L

/- Texts byte by byte: plain texts, small names, as the program and the reference have them. No condition. -/
set_option linter.unusedSimpArgs false
set_option linter.unusedVariables false
namespace Go.Proofs.Ytbgggcgjijljkaa.L
open Go.RowKit Go.Proofs.YtbgggcgjijljkaaW.PrintWords Go.Proofs.YtbgggcgjijljkaaW.PrintLast Go.Proofs.Ytbgggcgjijljkaa.Q
abbrev bl (s : ByteArray) : List UInt8 := s.data.toList
theorem bl_len (s : ByteArray) : (bl s).length = s.size := data_length s
section
variable {s : ByteArray} {pre suf : List UInt8} {c : UInt8}
theorem blt_at (h : bl s = pre ++ c :: suf) : ((pre.length : Nat) : Int) < (s.size : Int) := by
  have := bl_len s
  rw [h] at this
  simp at this
  omega
theorem bend_at (h : bl s = pre ++ []) : ¬ ((pre.length : Nat) : Int) < (s.size : Int) := by
  have := bl_len s
  rw [h] at this
  simp at this
  omega
theorem bt_at' (h : bl s = pre ++ c :: suf) : bt s (pre.length : Int) = (c.toNat : Int) := by
  have hlt := blt_at h
  have h2 : pre.length < s.size := by omega
  rw [← bt_at s (pre.length : Int) (by simpa using h2)]
  have h3 : pre.length < (bl s).length := by rw [bl_len]; exact h2
  have h4 : (bl s)[pre.length] = c := by simp [h]
  have h5 : s[pre.length]'h2 = (bl s)[pre.length] := by
    show s.data[pre.length] = _
    simp
  simp only [Int.toNat_natCast, h5, h4]
theorem bnext_at (h : bl s = pre ++ c :: suf) (hs : s.size <= maxLen) : wrap64 ((pre.length : Int) + 1) = ((pre ++ [c]).length : Int) := by
  have := blt_at h
  rw [maxLen_eq] at hs
  rw [wrap_id (by omega) (by omega)]
  simp
end
theorem byte_bounds (c : UInt8) : 0 <= (c.toNat : Int) /\ (c.toNat : Int) <= 255 := ⟨by omega, by have := c.toNat_lt; omega⟩
theorem wrap_byte (c : UInt8) : wrap64 (c.toNat : Int) = (c.toNat : Int) := wrap_id (by omega) (by have := byte_bounds c; omega)
def inB (lo hi : Int) (c : UInt8) : Bool := decide (lo <= (c.toNat : Int) /\ (c.toNat : Int) <= hi)
theorem specIn (a b c : Int) : spec_l1In.f a b c = some (decide (b <= a /\ a <= c)) := by
  unfold spec_l1In.f
  by_cases h : a >= b
  . rw [if_pos h]; simp [show b <= a from h]
  . rw [if_neg h]; simp [show ¬ b <= a from h]
theorem implIn (a b c : Int) : impl_in.f a b c = some (decide (b <= a /\ a <= c)) := by
  unfold impl_in.f
  by_cases h : a >= b
  . rw [if_pos h]; simp [show b <= a from h]
  . rw [if_neg h]; simp [show ¬ b <= a from h]
theorem implIsPlain (c : UInt8) : impl_isPlain.f (c.toNat : Int) = some (inB 32 126 c) := by
  unfold impl_isPlain.f inB
  by_cases h : (c.toNat : Int) >= 32
  . rw [if_pos h]; simp only [show (32 : Int) <= c.toNat from h, true_and]
  . rw [if_neg h]; simp only [show ¬ (32 : Int) <= c.toNat from h, false_and, decide_false]
theorem implIsSmall (c : UInt8) : impl_isSmall.f (c.toNat : Int) = some (inB 97 122 c) := by
  unfold impl_isSmall.f inB
  by_cases h : (c.toNat : Int) >= 97
  . rw [if_pos h]; simp only [show (97 : Int) <= c.toNat from h, true_and]
  . rw [if_neg h]; simp only [show ¬ (97 : Int) <= c.toNat from h, false_and, decide_false]
theorem implIsDigit (c : UInt8) : impl_isDigit.f (c.toNat : Int) = some (inB 48 57 c) := by
  unfold impl_isDigit.f inB
  by_cases h : (c.toNat : Int) >= 48
  . rw [if_pos h]; simp only [show (48 : Int) <= c.toNat from h, true_and]
  . rw [if_neg h]; simp only [show ¬ (48 : Int) <= c.toNat from h, false_and, decide_false]
theorem specSmall1 (c : UInt8) : spec_l1Small.f (c.toNat : Int) = some (inB 97 122 c) := by
  unfold spec_l1Small.f; rw [wrap_byte, specIn]; rfl
theorem specDigit1 (c : UInt8) : spec_l1Digit.f (c.toNat : Int) = some (inB 48 57 c) := by
  unfold spec_l1Digit.f; rw [wrap_byte, specIn]; rfl
def plainL (l : List UInt8) : Bool := l.all (inB 32 126)
theorem specPlain_loop {s : ByteArray} (hs : s.size <= maxLen) : ∀ (suf pre : List UInt8), bl s = pre ++ suf -> Ev (fun k => spec_Plain.l0 k s pre.length) (plainL suf) := by
  intro suf
  induction suf with
  | nil =>
    intro pre h
    refine Ev.step (fun k => spec_Plain.l0.eq_2 ..) ?_
    simp only [if_neg (bend_at h)]
    exact Ev.now _
  | cons c suf ih =>
    intro pre h
    refine Ev.step (fun k => spec_Plain.l0.eq_2 ..) ?_
    simp only [if_pos (blt_at h), if_pos (nonneg_at _), bt_at' h, wrap_byte, specIn, Option.bind_some, bnext_at h hs]
    have := ih (pre ++ [c]) (snoc_at h)
    simp only [plainL, List.all_cons, inB] at this ⊢
    by_cases e : (32 : Int) <= c.toNat /\ (c.toNat : Int) <= 126
    . simp only [e, and_self, decide_true, if_true, Bool.true_and]
      exact this
    . simp only [e, decide_false, Bool.false_eq_true, if_false, Bool.false_and]
      exact Ev.now _
theorem specPlain {s : ByteArray} (hs : s.size <= maxLen) : Ev (fun k => spec_Plain.f k s) (plainL (bl s)) := specPlain_loop hs _ [] rfl
theorem implPlain_loop {s : ByteArray} (hs : s.size <= maxLen) : ∀ (suf pre : List UInt8), bl s = pre ++ suf -> Ev (fun k => impl_Plain.l0 k s pre.length) (plainL suf) := by
  intro suf
  induction suf with
  | nil =>
    intro pre h
    refine Ev.step (fun k => impl_Plain.l0.eq_2 ..) ?_
    simp only [if_neg (bend_at h)]
    exact Ev.now _
  | cons c suf ih =>
    intro pre h
    refine Ev.step (fun k => impl_Plain.l0.eq_2 ..) ?_
    simp only [if_pos (blt_at h), if_pos (nonneg_at _), bt_at' h, implIsPlain, Option.bind_some, bnext_at h hs]
    have := ih (pre ++ [c]) (snoc_at h)
    simp only [plainL, List.all_cons] at this ⊢
    by_cases e : inB 32 126 c = true
    . simp only [e, if_true, Bool.true_and]
      exact this
    . simp only [e, if_false, Bool.false_and]
      exact Ev.now _
theorem implPlain {s : ByteArray} (hs : s.size <= maxLen) : Ev (fun k => impl_Plain.f k s) (plainL (bl s)) := implPlain_loop hs _ [] rfl
def smallL : Bool -> List UInt8 -> Bool
  | _, [] => true
  | first, c :: l => (inB 97 122 c || (!first && (inB 48 57 c || decide (c = 45)))) && smallL false l
theorem eq45 (c : UInt8) : ((c.toNat : Int) = 45) = (c = 45) := by
  apply propext
  constructor
  . intro h
    apply UInt8.toNat_inj.1
    show c.toNat = 45
    omega
  . rintro rfl
    rfl
def smallName (s : ByteArray) : Bool := smallL true (bl s) && decide (1 <= (s.size : Int) /\ (s.size : Int) <= 20)
theorem specSmall_loop {s : ByteArray} (hs : s.size <= maxLen) : ∀ (suf pre : List UInt8), bl s = pre ++ suf -> Ev (fun k => spec_SmallName.l0 k s pre.length) (smallL (decide (pre = [])) suf && decide (1 <= (s.size : Int) /\ (s.size : Int) <= 20)) := by
  intro suf
  induction suf with
  | nil =>
    intro pre h
    refine Ev.step (fun k => spec_SmallName.l0.eq_2 ..) ?_
    simp only [if_neg (bend_at h), specIn, Option.bind_some, smallL, Bool.true_and]
    exact Ev.now _
  | cons c suf ih =>
    intro pre h
    refine Ev.step (fun k => spec_SmallName.l0.eq_2 ..) ?_
    simp only [if_pos (blt_at h), if_pos (nonneg_at _), bt_at' h, specSmall1, specDigit1, Option.bind_some, bnext_at h hs, eq45]
    have := ih (pre ++ [c]) (snoc_at h)
    rw [show decide (pre ++ [c] = []) = false by simp] at this
    simp only [smallL]
    by_cases e : inB 97 122 c = true
    . simp only [e, if_true, Bool.true_or, Bool.true_and]
      exact this
    . simp only [e, Bool.false_eq_true, if_false, Bool.false_or]
      by_cases e0 : pre = []
      . subst e0
        simp only [List.length_nil, Int.natCast_zero, if_true, decide_true, Bool.not_true, Bool.false_and]
        exact Ev.now _
      . have hp : ¬ ((pre.length : Nat) : Int) = 0 := by
          intro h0
          exact e0 (List.eq_nil_of_length_eq_zero (by omega))
        simp only [if_neg hp, e0, decide_false, Bool.not_false, Bool.true_and]
        by_cases e1 : inB 48 57 c = true
        . simp only [e1, if_true, Bool.true_or, Bool.true_and]
          exact this
        . simp only [e1, Bool.false_eq_true, if_false, Bool.false_or]
          by_cases e2 : c = 45
          . simp only [e2, if_true, decide_true, Bool.true_and]
            subst e2
            exact this
          . simp only [e2, if_false, decide_false, Bool.false_and]
            exact Ev.now _
theorem specSmall {s : ByteArray} (hs : s.size <= maxLen) : Ev (fun k => spec_SmallName.f k s) (smallName s) := specSmall_loop hs _ [] rfl
theorem implSmall_loop {s : ByteArray} (hs : s.size <= maxLen) : ∀ (suf pre : List UInt8), bl s = pre ++ suf -> Ev (fun k => impl_SmallName.l0 k s pre.length) (smallL (decide (pre = [])) suf && decide (1 <= (s.size : Int) /\ (s.size : Int) <= 20)) := by
  intro suf
  induction suf with
  | nil =>
    intro pre h
    refine Ev.step (fun k => impl_SmallName.l0.eq_2 ..) ?_
    simp only [if_neg (bend_at h), implIn, Option.bind_some, smallL, Bool.true_and]
    exact Ev.now _
  | cons c suf ih =>
    intro pre h
    refine Ev.step (fun k => impl_SmallName.l0.eq_2 ..) ?_
    simp only [if_pos (blt_at h), if_pos (nonneg_at _), bt_at' h, implIsSmall, implIsDigit, Option.bind_some, bnext_at h hs, eq45]
    have := ih (pre ++ [c]) (snoc_at h)
    rw [show decide (pre ++ [c] = []) = false by simp] at this
    simp only [smallL]
    by_cases e : inB 97 122 c = true
    . simp only [e, if_true, Bool.true_or, Bool.true_and]
      exact this
    . simp only [e, Bool.false_eq_true, if_false, Bool.false_or]
      by_cases e0 : pre = []
      . subst e0
        simp only [List.length_nil, Int.natCast_zero, if_true, decide_true, Bool.not_true, Bool.false_and]
        exact Ev.now _
      . have hp : ¬ ((pre.length : Nat) : Int) = 0 := by
          intro h0
          exact e0 (List.eq_nil_of_length_eq_zero (by omega))
        simp only [if_neg hp, e0, decide_false, Bool.not_false, Bool.true_and]
        by_cases e1 : inB 48 57 c = true
        . simp only [e1, if_true, Bool.true_or, Bool.true_and]
          exact this
        . simp only [e1, Bool.false_eq_true, if_false, Bool.false_or]
          by_cases e2 : c = 45
          . simp only [e2, if_true, decide_true, Bool.true_and]
            subst e2
            exact this
          . simp only [e2, if_false, decide_false, Bool.false_and]
            exact Ev.now _
theorem implSmall {s : ByteArray} (hs : s.size <= maxLen) : Ev (fun k => impl_SmallName.f k s) (smallName s) := implSmall_loop hs _ [] rfl
end Go.Proofs.Ytbgggcgjijljkaa.L

/- Names and paths: are they right; as the program and the reference have it. No condition. -/
set_option linter.unusedSimpArgs false
set_option linter.unusedVariables false
namespace Go.Proofs.Ytbgggcgjijljkaa.L
open Go.RowKit Go.Proofs.YtbgggcgjijljkaaW.PrintWords Go.Proofs.YtbgggcgjijljkaaW.PrintLast Go.Proofs.Ytbgggcgjijljkaa.Q
theorem indexByte_mem (l : List UInt8) (c : UInt8) : (0 <= Lib.indexByte l c) ↔ c ∈ l := by
  induction l with
  | nil => simp [Lib.indexByte]
  | cons b l ih =>
    have hge := Lib.indexByte_ge l c
    unfold Lib.indexByte
    by_cases e : b = c
    . simp [e]
    . have e' : ¬ c = b := fun h => e h.symm
      simp only [beq_iff_eq, e, if_false, List.mem_cons, e', false_or]
      rw [← ih]
      by_cases h : Lib.indexByte l c = -1
      . simp [h]
      . simp only [h, if_false]; omega
theorem ba_toList_eq (s : ByteArray) (l : List UInt8) : (s.toList = l) = (bl s = l) := by rw [ba_toList]
def nameOk (s : ByteArray) : Bool := decide (47 ∉ bl s) && (decide (1 <= (s.size : Int) /\ (s.size : Int) <= 8) && (plainL (bl s) && (decide (bl s ≠ [46]) && decide (bl s ≠ [46, 46]))))
theorem eq47 (c : UInt8) : ((c.toNat : Int) = 47) = (c = 47) := by
  apply propext
  constructor
  . intro h
    apply UInt8.toNat_inj.1
    show c.toNat = 47
    omega
  . rintro rfl
    rfl
theorem bne_dec {α : Type} [BEq α] [LawfulBEq α] [DecidableEq α] (a b : α) : (a != b) = decide (a ≠ b) := by
  by_cases e : a = b <;> simp [e]
theorem specNameOk {s : ByteArray} (hs : s.size <= 1048576) : Ev (fun k => spec_NameOk.f k s) (nameOk s) := by
  have hm : s.size <= maxLen := by rw [maxLen_eq]; omega
  have key : ∀ (suf pre : List UInt8), bl s = pre ++ suf -> Ev (fun k => spec_NameOk.l0 k s pre.length) (decide (47 ∉ suf) && (decide (1 <= (s.size : Int) /\ (s.size : Int) <= 8) && (plainL (bl s) && (decide (bl s ≠ [46]) && decide (bl s ≠ [46, 46]))))) := by
    intro suf
    induction suf with
    | nil =>
      intro pre h
      refine Ev.step (fun k => spec_NameOk.l0.eq_2 ..) ?_
      simp only [if_neg (bend_at h), specIn, Option.bind_some, List.not_mem_nil, not_false_eq_true, decide_true, Bool.true_and]
      by_cases c0 : 1 <= (s.size : Int) /\ (s.size : Int) <= 8
      . simp only [c0, decide_true, if_true, and_self, Bool.true_and]
        refine Ev.bind (specPlain hm) ?_
        by_cases c1 : plainL (bl s) = true
        . simp only [c1, if_true, Bool.true_and, ba_toList_eq, bne_dec, ba_toList]
          by_cases c2 : bl s = [46]
          . simp only [c2, if_true]
            exact Ev.now _
          . simp only [c2, if_false, ne_eq, not_false_eq_true, decide_true, Bool.true_and]
            exact Ev.now _
        . simp only [c1, Bool.false_eq_true, if_false, Bool.false_and]
          exact Ev.now _
      . simp only [c0, decide_false, Bool.false_eq_true, if_false, Bool.false_and]
        exact Ev.now _
    | cons c suf ih =>
      intro pre h
      refine Ev.step (fun k => spec_NameOk.l0.eq_2 ..) ?_
      simp only [if_pos (blt_at h), if_pos (nonneg_at _), bt_at' h, eq47, bnext_at h hm]
      by_cases e : c = 47
      . simp only [e, if_true, List.mem_cons, true_or, not_true_eq_false, decide_false, Bool.false_and]
        exact Ev.now _
      . have e' : ¬ 47 = c := fun h => e h.symm
        simp only [e, if_false, List.mem_cons, e', false_or]
        exact ih (pre ++ [c]) (snoc_at h)
  exact key _ [] rfl
theorem implNameOk {s : ByteArray} (hs : s.size <= 1048576) : Ev (fun k => impl_NameOk.f k s) (nameOk s) := by
  have hm : s.size <= maxLen := by rw [maxLen_eq]; omega
  unfold impl_NameOk.f nameOk
  simp only [implIn, Option.bind_some]
  by_cases c0 : 1 <= (s.size : Int) /\ (s.size : Int) <= 8
  . simp only [c0, decide_true, if_true, and_self, Bool.true_and]
    refine Ev.bind (implPlain hm) ?_
    by_cases c1 : plainL (bl s) = true
    . simp only [c1, if_true, Bool.true_and, strings_Contains.f, Option.bind_some, decide_eq_true_eq, indexByte_mem, ba_toList_eq, bne_dec, ba_toList]
      by_cases c2 : (47 : UInt8) ∈ s.data.toList
      . simp only [c2, if_true, not_true_eq_false, decide_false, Bool.false_and]
        exact Ev.now _
      . simp only [c2, if_false, not_false_eq_true, decide_true, Bool.true_and]
        by_cases c3 : bl s = [46]
        . simp only [c3, if_true]
          exact Ev.now _
        . simp only [c3, if_false, ne_eq, not_false_eq_true, decide_true, Bool.true_and]
          exact Ev.now _
    . simp only [c1, Bool.false_eq_true, if_false, Bool.false_and, Bool.and_false]
      exact Ev.now _
  . simp only [c0, decide_false, Bool.false_eq_true, if_false, Bool.false_and, Bool.and_false]
    exact Ev.now _
def pathOk (p : List ByteArray) : Bool := p.all nameOk && decide ((p.length : Int) <= 4)
theorem specPathOk {p : List ByteArray} (hp : SmS p) : Ev (fun k => spec_PathOk.f k p) (pathOk p) := by
  have hl : p.length <= maxLen := by have := hp.1; rw [maxLen_eq]; omega
  have key : ∀ (suf pre : List ByteArray), p = pre ++ suf -> Ev (fun k => spec_PathOk.l0 k p pre.length) (suf.all nameOk && decide ((p.length : Int) <= 4)) := by
    intro suf
    induction suf with
    | nil =>
      intro pre h
      refine Ev.step (fun k => spec_PathOk.l0.eq_2 ..) ?_
      simp only [if_neg (end_at h), List.all_nil, Bool.true_and]
      exact Ev.now _
    | cons a suf ih =>
      intro pre h
      refine Ev.step (fun k => spec_PathOk.l0.eq_2 ..) ?_
      simp only [if_pos (lt_at h), if_pos (nonneg_at _), rd_at _ h, next_at h hl]
      refine Ev.bind (specNameOk (hp.2 a (by rw [h]; simp))) ?_
      simp only [List.all_cons]
      by_cases e : nameOk a = true
      . simp only [e, if_true, Bool.true_and]
        exact ih (pre ++ [a]) (snoc_at h)
      . simp only [e, Bool.false_eq_true, if_false, Bool.false_and]
        exact Ev.now _
  exact key p [] rfl
theorem implPathOk {p : List ByteArray} (hp : SmS p) : Ev (fun k => impl_PathOk.f k p) (pathOk p) := by
  have hl : p.length <= maxLen := by have := hp.1; rw [maxLen_eq]; omega
  have key : ∀ (suf pre : List ByteArray), p = pre ++ suf -> Ev (fun k => impl_PathOk.l0 k p p (p.length : Int) pre.length) (suf.all nameOk && decide ((p.length : Int) <= 4)) := by
    intro suf
    induction suf with
    | nil =>
      intro pre h
      refine Ev.step (fun k => impl_PathOk.l0.eq_2 ..) ?_
      simp only [if_neg (end_at h), List.all_nil, Bool.true_and]
      exact Ev.now _
    | cons a suf ih =>
      intro pre h
      refine Ev.step (fun k => impl_PathOk.l0.eq_2 ..) ?_
      simp only [if_pos (lt_at h), if_pos (nonneg_at _), rd_at _ h, next_at h hl]
      refine Ev.bind (implNameOk (hp.2 a (by rw [h]; simp))) ?_
      simp only [List.all_cons]
      by_cases e : nameOk a = true
      . simp only [e, if_true, Bool.true_and]
        exact ih (pre ++ [a]) (snoc_at h)
      . simp only [e, Bool.false_eq_true, if_false, Bool.false_and]
        exact Ev.now _
  exact key p [] rfl
end Go.Proofs.Ytbgggcgjijljkaa.L

/- A path without its last name; as the program and the reference have it. No condition. -/
set_option linter.unusedSimpArgs false
set_option linter.unusedVariables false
namespace Go.Proofs.Ytbgggcgjijljkaa.L
open Go.RowKit Go.Proofs.YtbgggcgjijljkaaW.PrintWords Go.Proofs.YtbgggcgjijljkaaW.PrintLast Go.Proofs.Ytbgggcgjijljkaa.Q
def above (p : List ByteArray) : List ByteArray := p.take (p.length - 1)
theorem above_wrap {p : List ByteArray} (hp : p.length <= 1048576) (h : ¬ (p.length : Int) = 0) : wrap64 ((p.length : Int) - 1) = ((p.length - 1 : Nat) : Int) := by
  rw [wrap_id (by omega) (by omega)]; omega
theorem implCopyPath {p : List ByteArray} (hp : p.length <= 1048576) : impl_copyPath.f p = some p := by
  unfold impl_copyPath.f
  rw [if_pos (by simp; omega)]; rfl
theorem specAbove {p : List ByteArray} (hp : p.length <= 1048576) : spec_Above.f p = some (above p) := by
  unfold spec_Above.f above
  by_cases h : (p.length : Int) = 0
  . rw [if_pos h]
    have : p = [] := List.eq_nil_of_length_eq_zero (by omega)
    rw [this]; rfl
  . simp only [if_neg h, Option.bind_some, above_wrap hp h, if_pos (Int.natCast_nonneg _), Int.toNat_natCast]
    rw [if_pos (by omega), if_pos (by simp; omega)]; rfl
theorem implAbove {p : List ByteArray} (hp : p.length <= 1048576) : impl_Above.f p = some (above p) := by
  unfold impl_Above.f above
  by_cases h : (p.length : Int) = 0
  . rw [if_pos h]
    have : p = [] := List.eq_nil_of_length_eq_zero (by omega)
    rw [this]; rfl
  . simp only [if_neg h, above_wrap hp h, if_pos (Int.natCast_nonneg _), Int.toNat_natCast]
    rw [if_pos (by omega), implCopyPath (by simp; omega)]; rfl
end Go.Proofs.Ytbgggcgjijljkaa.L

/- The laws' own functions over a mirrored struct (Prop): size, copy, equality. No condition. -/
set_option linter.unusedSimpArgs false
set_option linter.unusedVariables false
namespace Go.Proofs.Ytbgggcgjijljkaa.L
open Go.RowKit Go.Proofs.YtbgggcgjijljkaaW.PrintWords Go.Proofs.YtbgggcgjijljkaaW.PrintLast Go.Proofs.Ytbgggcgjijljkaa.Q
instance : DecidableEq S72 := fun a b => if h : a.f0 = b.f0 /\ a.f1 = b.f1 /\ a.f2 = b.f2 then .isTrue (by cases a; cases b; simp_all) else .isFalse (fun e => h (by rw [e]; exact ⟨rfl, rfl, rfl⟩))
theorem rd_lawsProp {l pre suf : List S88} {a : S88} (h : l = pre ++ a :: suf) : rd_T88 l (pre.length : Int) = a := getD_at _ h
theorem rd_implProp {l pre suf : List S72} {a : S72} (h : l = pre ++ a :: suf) : rd_T72 l (pre.length : Int) = a := getD_at _ h
def toProp (p : S88) : S72 := ⟨p.f0, p.f1, p.f2⟩
def SmProp (p : S72) : Prop := p.f0.size <= 1048576 /\ p.f1.size <= 1048576 /\ p.f2.size <= 1048576
def GGProp (x : S88) : Prop := x.f0.size <= maxLen /\ x.f1.size <= maxLen /\ x.f2.size <= maxLen
theorem szProp {p : S88} (hp : GGProp p) {n : Int} (h0 : 0 <= n) (h1 : n <= 1048576) : Sz (fun k => laws_szProp.f p.f0 p.f1 p.f2 n) n (SmProp (toProp p)) := by
  obtain ⟨g0, g1, g2⟩ := hp
  unfold laws_szProp.f
  have e0 := wrap_id (x := n - (p.f0.size : Int)) (by rw [maxLen_eq] at g0; omega) (by omega)
  simp only [e0]
  refine Sz.sub (by omega) (fun c0 => ?_)
  obtain ⟨n0, hn0⟩ : ∃ m, m = n - (p.f0.size : Int) := ⟨_, rfl⟩
  simp only [← hn0]
  have e1 := wrap_id (x := n0 - (p.f1.size : Int)) (by rw [maxLen_eq] at g1; omega) (by omega)
  simp only [e1]
  refine Sz.sub (by omega) (fun c1 => ?_)
  obtain ⟨n1, hn1⟩ : ∃ m, m = n0 - (p.f1.size : Int) := ⟨_, rfl⟩
  simp only [← hn1]
  have e2 := wrap_id (x := n1 - (p.f2.size : Int)) (by rw [maxLen_eq] at g2; omega) (by omega)
  simp only [e2]
  refine Sz.sub (by omega) (fun c2 => ?_)
  obtain ⟨n2, hn2⟩ : ∃ m, m = n1 - (p.f2.size : Int) := ⟨_, rfl⟩
  simp only [← hn2]
  exact .inr ⟨n2, by omega, by omega, Ev.now _, by show p.f0.size <= 1048576; omega, by show p.f1.size <= 1048576; omega, by show p.f2.size <= 1048576; omega⟩
theorem toProp1 {p : S88} (hp : SmProp (toProp p)) : Ev (fun k => laws_toProp.f p.f0 p.f1 p.f2) (p.f0, p.f1, p.f2) := by
  obtain ⟨g0, g1, g2⟩ := hp
  unfold laws_toProp.f
  exact Ev.now _
theorem eqProp1 {p q : S72} (hp : SmProp p) : Ev (fun k => laws_eqProp.f p.f0 p.f1 p.f2 q.f0 q.f1 q.f2) (decide (p = q)) := by
  obtain ⟨g0, g1, g2⟩ := hp
  unfold laws_eqProp.f
  by_cases e0 : p.f0 = q.f0
  rotate_left
  . rw [show decide (p = q) = false from decide_eq_false (fun h => e0 (by rw [h]))]
    simp only [ba_eq, e0, bne_iff_ne, ne_eq, not_false_eq_true, not_true_eq_false, if_true, if_false]
    exact Ev.now _
  simp only [ba_eq, e0, bne_self_eq_false, Bool.false_eq_true, if_true, if_false]
  by_cases e1 : p.f1 = q.f1
  rotate_left
  . rw [show decide (p = q) = false from decide_eq_false (fun h => e1 (by rw [h]))]
    simp only [ba_eq, e1, bne_iff_ne, ne_eq, not_false_eq_true, not_true_eq_false, if_true, if_false]
    exact Ev.now _
  simp only [ba_eq, e1, bne_self_eq_false, Bool.false_eq_true, if_true, if_false]
  by_cases e2 : p.f2 = q.f2
  rotate_left
  . rw [show decide (p = q) = false from decide_eq_false (fun h => e2 (by rw [h]))]
    simp only [ba_eq, e2, bne_iff_ne, ne_eq, not_false_eq_true, not_true_eq_false, if_true, if_false]
    exact Ev.now _
  simp only [ba_eq, e2, bne_self_eq_false, Bool.false_eq_true, if_true, if_false]
  rw [show decide (p = q) = true from decide_eq_true (by cases p; cases q; simp_all)]
  exact Ev.now _
def SmProps (l : List S72) : Prop := l.length <= 1048576 /\ ∀ p ∈ l, SmProp p
theorem szPropS {l : List S88} (hl : l.length <= maxLen) (hs : ∀ s ∈ l, GGProp s) {n : Int} (h0 : 0 <= n) (h1 : n <= 1048576) : Sz (fun k => laws_szPropS.f k l n) n (SmProps (l.map toProp)) := by
  have hl' := hl
  rw [maxLen_eq] at hl'
  unfold laws_szPropS.f
  simp only [wrap_id (x := n - (l.length : Int)) (by omega) (by omega)]
  refine Sz.sub (by omega) (fun hlt => ?_)
  have key : Sz (fun k => laws_szPropS.l0 k l (n - l.length) 0) (n - l.length) (∀ p ∈ l, SmProp (toProp p)) := by
    refine sz_loop (l := l) (P := fun p => SmProp (toProp p)) (fun k n i => laws_szPropS.l0 k l n i) ?_ ?_ l [] (n - l.length) rfl (by omega) (by omega)
    . intro n
      refine Ev.step (fun k => laws_szPropS.l0.eq_2 ..) ?_
      simp only [Int.lt_irrefl, if_false]
      exact Ev.now _
    . intro pre a suf n h h0 h1
      rcases szProp (hs a (by rw [h]; simp)) h0 h1 with h2 | ⟨m, hm0, hm1, h2, h3⟩
      . left
        refine Ev.step (fun k => laws_szPropS.l0.eq_2 ..) ?_
        simp only [if_pos (lt_at h), if_pos (nonneg_at _), rd_lawsProp h]
        refine Ev.bind h2 ?_
        simp only [show (-1 : Int) < 0 by omega, if_true]
        exact Ev.now _
      . refine .inr ⟨m, hm0, hm1, h3, fun r hr => ?_⟩
        refine Ev.step (fun k => laws_szPropS.l0.eq_2 ..) ?_
        simp only [if_pos (lt_at h), if_pos (nonneg_at _), rd_lawsProp h]
        refine Ev.bind h2 ?_
        simp only [if_neg (show ¬ m < 0 by omega), next_at h hl]
        exact hr
  rcases key with h | ⟨m, hm0, hm1, h2, h3⟩
  . exact .inl h
  . refine .inr ⟨m, hm0, hm1, h2, by simp; omega, fun p hp => ?_⟩
    obtain ⟨q, hq, rfl⟩ := List.mem_map.1 hp
    exact h3 q hq
theorem toPropS {p : List S88} (hp : SmProps (p.map toProp)) : Ev (fun k => laws_toPropS.f k p) (p.map toProp) := by
  obtain ⟨hl0, hs⟩ := hp
  rw [List.length_map] at hl0
  have hl2 : p.length <= maxLen := by rw [maxLen_eq]; omega
  unfold laws_toPropS.f
  simp only [if_pos (nonneg_at _), Int.toNat_natCast, if_pos (show p.length <= 5864062014805 by omega)]
  refine to_loop (l := p) (f := toProp) (fun k out i => laws_toPropS.l0 k p out i) ?_ ?_ p [] _ (List.replicate p.length z72) rfl rfl (by simp)
  . intro out
    refine Ev.step (fun k => laws_toPropS.l0.eq_2 ..) ?_
    simp only [Int.lt_irrefl, if_false]
    exact Ev.now _
  . intro pre a suf out h ho r hr
    refine Ev.step (fun k => laws_toPropS.l0.eq_2 ..) ?_
    simp only [if_pos (lt_at h), if_pos (nonneg_at _), rd_lawsProp h]
    refine Ev.bind (toProp1 (hs _ (List.mem_map.2 ⟨a, by rw [h]; simp, rfl⟩))) ?_
    simp only [if_pos ho, next_at h hl2]
    exact hr
theorem eqPropS {a b : List S72} (ha : SmProps a) : Ev (fun k => laws_eqPropS.f k a b) (decide (a = b)) := by
  have hl : a.length <= maxLen := by have := ha.1; rw [maxLen_eq]; omega
  unfold laws_eqPropS.f
  by_cases e : (a.length : Int) = (b.length : Int)
  . simp only [if_pos e]
    refine eq_loop (a := a) (b := b) (fun k i => laws_eqPropS.l0 k a b i) ?_ ?_ a b [] [] rfl rfl rfl (by omega)
    . refine Ev.step (fun k => laws_eqPropS.l0.eq_2 ..) ?_
      simp only [Int.lt_irrefl, if_false]
      exact Ev.now _
    . intro pre x su pre' y sv h h' hp
      have h3 := rd_implProp h'
      have h4 := lt_at h'
      rw [← hp] at h3 h4
      have h5 := eqProp1 (q := y) (ha.2 x (by rw [h]; simp))
      refine ⟨fun hne => ?_, fun heq r hr => ?_⟩
      . refine Ev.step (fun k => laws_eqPropS.l0.eq_2 ..) ?_
        simp only [if_pos (lt_at h), if_pos (nonneg_at _), if_pos h4, rd_implProp h, h3]
        refine Ev.bind h5 ?_
        simp only [hne, decide_false, Bool.false_eq_true, if_false]
        exact Ev.now _
      . refine Ev.step (fun k => laws_eqPropS.l0.eq_2 ..) ?_
        simp only [if_pos (lt_at h), if_pos (nonneg_at _), if_pos h4, rd_implProp h, h3]
        refine Ev.bind h5 ?_
        simp only [heq, decide_true, if_true, next_at h hl]
        rw [heq] at hr
        exact hr
  . simp only [if_neg e]
    rw [show decide (a = b) = false from decide_eq_false (fun h => e (by rw [h]))]
    exact Ev.now _
end Go.Proofs.Ytbgggcgjijljkaa.L

/- The laws' own functions over lists of texts: their size, their copy, their equality. No condition. -/
set_option linter.unusedSimpArgs false
set_option linter.unusedVariables false
namespace Go.Proofs.Ytbgggcgjijljkaa.L
open Go.RowKit Go.Proofs.YtbgggcgjijljkaaW.PrintWords Go.Proofs.YtbgggcgjijljkaaW.PrintLast Go.Proofs.Ytbgggcgjijljkaa.Q
theorem szS_loop {l : List ByteArray} (hl : l.length <= maxLen) (hs : ∀ s ∈ l, s.size <= maxLen) : ∀ (suf pre : List ByteArray) (n : Int), l = pre ++ suf -> 0 <= n -> n <= 1048576 ->
    Ev (fun k => laws_szStringS.l0 k l n pre.length) (-1) \/ ∃ m : Int, 0 <= m /\ m <= n /\ Ev (fun k => laws_szStringS.l0 k l n pre.length) m /\ ∀ s ∈ suf, (s.size : Int) <= n := by
  intro suf
  induction suf with
  | nil =>
    intro pre n h h0 h1
    refine .inr ⟨n, h0, Int.le_refl _, Ev.step (fun k => laws_szStringS.l0.eq_2 ..) ?_, by simp⟩
    simp only [if_neg (end_at h)]
    exact Ev.now _
  | cons a suf ih =>
    intro pre n h h0 h1
    have ha : a.size <= maxLen := hs a (by rw [h]; simp)
    rw [maxLen_eq] at ha
    have hw : wrap64 (n - (a.size : Int)) = n - a.size := wrap_id (by omega) (by omega)
    by_cases hlt : n - (a.size : Int) < 0
    . left
      refine Ev.step (fun k => laws_szStringS.l0.eq_2 ..) ?_
      simp only [if_pos (lt_at h), if_pos (nonneg_at _), rd_at _ h, hw, if_pos hlt]
      exact Ev.now _
    . have st : ∀ r, Ev (fun k => laws_szStringS.l0 k l (n - a.size) (pre ++ [a]).length) r -> Ev (fun k => laws_szStringS.l0 k l n pre.length) r := fun r hr => by
        refine Ev.step (fun k => laws_szStringS.l0.eq_2 ..) ?_
        simp only [if_pos (lt_at h), if_pos (nonneg_at _), rd_at _ h, hw, if_neg hlt, next_at h hl]
        exact hr
      rcases ih (pre ++ [a]) (n - a.size) (snoc_at h) (by omega) (by omega) with h2 | ⟨m, hm0, hm1, h2, h3⟩
      . exact .inl (st _ h2)
      . refine .inr ⟨m, hm0, by omega, st _ h2, fun s hs' => ?_⟩
        rcases List.mem_cons.1 hs' with rfl | hs'
        . omega
        . have := h3 s hs'
          omega
theorem szS {l : List ByteArray} (hl : l.length <= maxLen) (hs : ∀ s ∈ l, s.size <= maxLen) {n : Int} (h0 : 0 <= n) (h1 : n <= 1048576) : Sz (fun k => laws_szStringS.f k l n) n (SmS l) := by
  have hl' := hl
  rw [maxLen_eq] at hl'
  unfold laws_szStringS.f
  simp only [wrap_id (x := n - (l.length : Int)) (by omega) (by omega)]
  refine Sz.sub (by omega) (fun hlt => ?_)
  rcases szS_loop hl hs l [] (n - l.length) rfl (by omega) (by omega) with h | ⟨m, hm0, hm1, h2, h3⟩
  . exact .inl h
  . exact .inr ⟨m, hm0, hm1, h2, by omega, fun s hs' => by have := h3 s hs'; omega⟩
theorem toS_loop {l : List ByteArray} (hl : l.length <= maxLen) : ∀ (suf pre rest : List ByteArray), l = pre ++ suf -> rest.length = suf.length -> Ev (fun k => laws_toStringS.l0 k l (pre ++ rest) pre.length) l := by
  intro suf
  induction suf with
  | nil =>
    intro pre rest h hr
    refine Ev.step (fun k => laws_toStringS.l0.eq_2 ..) ?_
    simp only [if_neg (end_at h)]
    obtain rfl : rest = [] := by simpa using hr
    rw [← h]
    exact Ev.now _
  | cons a suf ih =>
    intro pre rest h hr
    obtain ⟨b, rest, rfl⟩ : ∃ b r, rest = b :: r := by
      cases rest with
      | nil => simp at hr
      | cons b r => exact ⟨b, r, rfl⟩
    refine Ev.step (fun k => laws_toStringS.l0.eq_2 ..) ?_
    have h2 : pre ++ b :: rest = pre ++ b :: rest := rfl
    simp only [if_pos (lt_at h), if_pos (nonneg_at _), rd_at _ h, if_pos (lt_at h2), next_at h hl, set_at h2]
    exact ih (pre ++ [a]) rest (snoc_at h) (by simpa using hr)
theorem toS {l : List ByteArray} (hl : (l.length : Int) <= 1048576) : Ev (fun k => laws_toStringS.f k l) l := by
  unfold laws_toStringS.f
  simp only [if_pos (nonneg_at _), Int.toNat_natCast, if_pos (show l.length <= 17592186044416 by omega)]
  have := toS_loop (l := l) (by rw [maxLen_eq]; omega) l [] (List.replicate l.length (⟨#[]⟩ : ByteArray)) rfl (by simp)
  simpa using this
theorem eqS_loop {a b : List ByteArray} (hl : a.length <= maxLen) : ∀ (su sv pu pv : List ByteArray), a = pu ++ su -> b = pv ++ sv -> pu.length = pv.length -> su.length = sv.length ->
    Ev (fun k => laws_eqStringS.l0 k a b pu.length) (decide (su = sv)) := by
  intro su
  induction su with
  | nil =>
    intro sv pu pv h h' hp hs
    obtain rfl : sv = [] := by simpa using hs.symm
    refine Ev.step (fun k => laws_eqStringS.l0.eq_2 ..) ?_
    simp only [if_neg (end_at h)]
    exact Ev.now _
  | cons x su ih =>
    intro sv pu pv h h' hp hs
    cases sv with
    | nil => simp at hs
    | cons y sv =>
      refine Ev.step (fun k => laws_eqStringS.l0.eq_2 ..) ?_
      have h3 := rd_at ByteArray.empty h'
      have h4 := lt_at h'
      rw [← hp] at h3 h4
      by_cases e : x = y
      . subst e
        simp only [if_pos (lt_at h), if_pos (nonneg_at _), if_pos h4, rd_at _ h, h3, if_true, next_at h hl, List.cons.injEq, true_and]
        exact ih sv (pu ++ [x]) (pv ++ [x]) (snoc_at h) (snoc_at h') (by simp [hp]) (by simpa using hs)
      . simp only [if_pos (lt_at h), if_pos (nonneg_at _), if_pos h4, rd_at _ h, h3, ba_eq, if_neg e, List.cons.injEq, e, false_and, decide_false]
        exact Ev.now _
theorem eqS {a b : List ByteArray} (hl : a.length <= maxLen) : Ev (fun k => laws_eqStringS.f k a b) (decide (a = b)) := by
  unfold laws_eqStringS.f
  by_cases e : (a.length : Int) = (b.length : Int)
  . simp only [if_pos e]
    exact eqS_loop hl a b [] [] rfl rfl rfl (by omega)
  . simp only [if_neg e]
    rw [show decide (a = b) = false from decide_eq_false (fun h => e (by rw [h]))]
    exact Ev.now _
end Go.Proofs.Ytbgggcgjijljkaa.L
