/- The law FnExactPutFile: its way to 'true', and the walk over it. No condition. -/
import Derived.Test.YtbgggcgjijljkaaVPutFileG12
import Derived.Test.YtbgggcgjijljkaaVPutFileG30
import Derived.Test.YtbgggcgjijljkaaVPutFileG33
import Derived.Test.YtbgggcgjijljkaaVPutFileG29
import Derived.Test.YtbgggcgjijljkaaVPutFileG34
import Derived.Test.YtbgggcgjijljkaaVPutFileG22
import Derived.Test.YtbgggcgjijljkaaVPutFileG25
import Derived.Test.YtbgggcgjijljkaaVPutFileG26
import Derived.Test.YtbgggcgjijljkaaVPutFileWWords
import Derived.Test.YtbgggcgjijljkaaVPutFileWApart
import Derived.Deep.Slices
import Derived.WideShapes
import Derived.Laws.Strings
import Derived.Test.YtbgggcgjijljkaaVPutFileWLast
import Derived.Test.YtbgggcgjijljkaaVPutFileWMore
import Derived.Lib.Bytealg
import Derived.Test.YtbgggcgjijljkaaVPutFileG27
import Derived.Test.YtbgggcgjijljkaaVPutFileG23
set_option linter.unusedVariables false
set_option linter.unusedSimpArgs false
namespace Go.Proofs.Ytbgggcgjijljkaa.Q
open Go.RowKit Go.Proofs.YtbgggcgjijljkaaW.PrintWords Go.Proofs.YtbgggcgjijljkaaW.PrintLast
theorem below_drawn_FnExactPutFile {w w1 : World} {n : Nat} (h : w1 = w.drewN n) : Below w.heap.size w w1 := h ▸ pw_below_drewN (Below.refl _ _) n
def laws_FnExactPutFile.f (k : Nat) (l0 : List (S79)) (l1 : List ByteArray) (a2 : ByteArray) (a3 : Int) : Option Bool := (if (a2.size : Int) > 1048576 then (some true) else ((laws_szResS.f k l0 1048576).bind fun t1 => (if t1 < 0 then (some true) else ((laws_szStringS.f k l1 t1).bind fun t3 => (if t3 < 0 then (some true) else ((laws_toResS.f k l0).bind fun t5 => ((laws_toStringS.f k l1).bind fun t8 => ((spec_PutFileX.f k t5 t8 a2 a3).bind fun bt11 => ((laws_toResS.f k l0).bind fun t15 => ((laws_toStringS.f k l1).bind fun t18 => ((impl_PutFileX.f k t15 t18 a2 a3).bind fun bt21 => ((laws_eqResS.f k bt21.1 bt11.1).bind fun t25 => (if t25 = true then (if bt21.2 = bt11.2 then ((laws_toResS.f k l0).bind fun t27 => ((laws_eqResS.f k t15 t27).bind fun t30 => (if t30 = true then ((laws_toStringS.f k l1).bind fun t32 => ((laws_eqStringS.f k t18 t32).bind fun t35 => (if t35 = true then ((laws_markResS.f k t15 1).bind fun bt37 => ((laws_markStringS.f k t18 bt37.1).bind fun bt41 => (if bt41.1 < 0 then none else ((laws_eqResS.f k bt21.1 bt11.1).bind fun t45 => (if t45 = true then (if bt21.2 = bt11.2 then ((laws_markResS.f k bt21.1 1).bind fun bt47 => ((laws_heldResS.f k bt47.2 1).bind fun t51 => (if t51 < 0 then none else (if t51 = bt47.1 then ((laws_toResS.f k l0).bind fun t53 => ((laws_toStringS.f k l1).bind fun t56 => ((impl_PutFileX.f k t53 t56 a2 a3).bind fun bt59 => ((laws_eqResS.f k bt59.1 bt11.1).bind fun t63 => (if t63 = true then (if bt59.2 = bt11.2 then ((laws_heldResS.f k bt47.2 1).bind fun t65 => (if t65 < 0 then none else (if t65 = bt47.1 then (some true) else none))) else none) else none))))) else none)))) else none) else none))))) else none))) else none))) else none) else none)))))))))))))
set_option maxHeartbeats 16000000 in
set_option maxRecDepth 100000 in
theorem laws_FnExactPutFile.calls (k : Nat) (A0 : Option Addr) (c0 : Nat) (l0 : List (S79)) (A1 : Option Addr) (c1 : Nat) (l1 : List ByteArray) (a2 : ByteArray) (a3 : Int) (r : Bool) (w : World) (hr0 : Kd.C k79 w A0 l0.length l0) (hc0 : l0.length ≤ c0) (hr1 : Kd.C Kd.string w A1 l1.length l1) (hc1 : l1.length ≤ c1) (h : laws_FnExactPutFile.f k l0 l1 a2 a3 = some r) :
 Calls Try.prog 5 #[.slice A0 l0.length c0, .slice A1 l1.length c1, .string a2, .int .i64 a3] w fun e w' => e = .returned (.bool r) ∧ Below w.heap.size w w' := by
 have HR0 := Aside0.mk hr0
 have HC0 := Aside0.mk hc0
 have HR1 := Aside0.mk hr1
 have HC1 := Aside0.mk hc1
 clear hr0 hc0 hr1 hc1
 have HB := Aside0.mk (Below.refl w.heap.size w)
 have H : (if (a2.size : Int) > 1048576 then (some true) else ((laws_szResS.f k l0 1048576).bind fun t1 => (if t1 < 0 then (some true) else ((laws_szStringS.f k l1 t1).bind fun t3 => (if t3 < 0 then (some true) else ((laws_toResS.f k l0).bind fun t5 => ((laws_toStringS.f k l1).bind fun t8 => ((spec_PutFileX.f k t5 t8 a2 a3).bind fun bt11 => ((laws_toResS.f k l0).bind fun t15 => ((laws_toStringS.f k l1).bind fun t18 => ((impl_PutFileX.f k t15 t18 a2 a3).bind fun bt21 => ((laws_eqResS.f k bt21.1 bt11.1).bind fun t25 => (if t25 = true then (if bt21.2 = bt11.2 then ((laws_toResS.f k l0).bind fun t27 => ((laws_eqResS.f k t15 t27).bind fun t30 => (if t30 = true then ((laws_toStringS.f k l1).bind fun t32 => ((laws_eqStringS.f k t18 t32).bind fun t35 => (if t35 = true then ((laws_markResS.f k t15 1).bind fun bt37 => ((laws_markStringS.f k t18 bt37.1).bind fun bt41 => (if bt41.1 < 0 then none else ((laws_eqResS.f k bt21.1 bt11.1).bind fun t45 => (if t45 = true then (if bt21.2 = bt11.2 then ((laws_markResS.f k bt21.1 1).bind fun bt47 => ((laws_heldResS.f k bt47.2 1).bind fun t51 => (if t51 < 0 then none else (if t51 = bt47.1 then ((laws_toResS.f k l0).bind fun t53 => ((laws_toStringS.f k l1).bind fun t56 => ((impl_PutFileX.f k t53 t56 a2 a3).bind fun bt59 => ((laws_eqResS.f k bt59.1 bt11.1).bind fun t63 => (if t63 = true then (if bt59.2 = bt11.2 then ((laws_heldResS.f k bt47.2 1).bind fun t65 => (if t65 < 0 then none else (if t65 = bt47.1 then (some true) else none))) else none) else none))))) else none)))) else none) else none))))) else none))) else none))) else none) else none))))))))))))) = some r := h
 clear h
 by_cases c67 : (a2.size : Int) > 1048576
 · rw [if_pos c67] at H
   have c67b0 : decide (1048576 < (a2.size : Int)) = true := decide_eq_true c67
   (try (have c67b1 : decide (1048576 < a2.size) = true := decide_eq_true (by omega)))
   clear c67
   obtain rfl := Option.some.inj H
   go_enter Try.func5, Try.ntmps5
   go_wp2
   go_ret
   exact ⟨rfl, bB_⟩
 rw [if_neg c67] at H
 have c67b0 : decide (1048576 < (a2.size : Int)) = false := decide_eq_false c67
 (try (have c67b1 : decide (1048576 < a2.size) = false := decide_eq_false (by omega)))
 clear c67
 replace H := Option.bind_eq_some_iff.mp H
 obtain ⟨t1, A0_, H⟩ := H
 (try dsimp only at H)
 have FA2 := Aside0.mk A0_
 clear A0_
 by_cases c68 : t1 < 0
 · rw [if_pos c68] at H
   have c68b0 : decide (t1 < 0) = true := decide_eq_true c68
   clear c68
   obtain rfl := Option.some.inj H
   go_enter Try.func5, Try.ntmps5
   go_wp2_with (first | ((with_reducible refine gate_callee (f := 13) rfl ?_); refine gL_ (some 26) Try.func13 #[.slice A0 l0.length c0, .int .i64 1048576] ?_; (with_reducible refine (laws_szResS.calls k A0 c0 l0 1048576 t1 _ ?side1 ?side2 FA2.out).mono ?_); (case side1 => exact cC_ (Kd.C_below HR0.out HB.out)); (case side2 => exact HC0.out); rintro e w_1 ⟨rfl, hb_⟩; refine ⟨_, rfl, ?_⟩; have n0_ : Aside0 (w.heap.size ≤ w_1.heap.size) := ⟨Nat.le_trans (below_size bR_) (below_size hb_)⟩; have m0_ := Aside0.mk (below_step bB_ hb_); clear HB; have HZ1 := n0_; have HB := m0_; clear n0_ m0_; (try clear hb_); (try clear hk_); (try clear hw_); (try clear hg_); (try clear hbox_); (try clear ho0_)))
   go_ret
   exact ⟨rfl, bB_⟩
 rw [if_neg c68] at H
 have c68b0 : decide (t1 < 0) = false := decide_eq_false c68
 clear c68
 replace H := Option.bind_eq_some_iff.mp H
 obtain ⟨t3, A0_, H⟩ := H
 (try dsimp only at H)
 have FA4 := Aside0.mk A0_
 clear A0_
 by_cases c69 : t3 < 0
 · rw [if_pos c69] at H
   have c69b0 : decide (t3 < 0) = true := decide_eq_true c69
   clear c69
   obtain rfl := Option.some.inj H
   go_enter Try.func5, Try.ntmps5
   go_wp2_with (first | ((with_reducible refine gate_callee (f := 13) rfl ?_); refine gL_ (some 26) Try.func13 #[.slice A0 l0.length c0, .int .i64 1048576] ?_; (with_reducible refine (laws_szResS.calls k A0 c0 l0 1048576 t1 _ ?side1 ?side2 FA2.out).mono ?_); (case side1 => exact cC_ (Kd.C_below HR0.out HB.out)); (case side2 => exact HC0.out); rintro e w_1 ⟨rfl, hb_⟩; refine ⟨_, rfl, ?_⟩; have n0_ : Aside0 (w.heap.size ≤ w_1.heap.size) := ⟨Nat.le_trans (below_size bR_) (below_size hb_)⟩; have m0_ := Aside0.mk (below_step bB_ hb_); clear HB; have HZ1 := n0_; have HB := m0_; clear n0_ m0_; (try clear hb_); (try clear hk_); (try clear hw_); (try clear hg_); (try clear hbox_); (try clear ho0_)) | ((with_reducible refine gate_callee (f := 14) rfl ?_); refine gL_ (some 31) Try.func14 #[.slice A1 l1.length c1, .int .i64 t1] ?_; (with_reducible refine (laws_szStringS.calls k A1 c1 l1 t1 t3 _ ?side1 ?side2 FA4.out).mono ?_); (case side1 => exact cC_ (Kd.C_below HR1.out HB.out)); (case side2 => exact HC1.out); rintro e w_2 ⟨rfl, ⟨nd_, hw_⟩⟩; refine ⟨_, rfl, ?_⟩; have hb_ := below_drawn_FnExactPutFile hw_; clear hw_; have n0_ : Aside0 (w_1.heap.size ≤ w_2.heap.size) := ⟨Nat.le_trans (below_size bR_) (below_size hb_)⟩; have m0_ := Aside0.mk (below_step bB_ hb_); clear HB; have HZ2 := n0_; have HB := m0_; clear n0_ m0_; (try clear hb_); (try clear hk_); (try clear hw_); (try clear hg_); (try clear hbox_); (try clear ho0_)))
   go_ret
   exact ⟨rfl, bB_⟩
 rw [if_neg c69] at H
 have c69b0 : decide (t3 < 0) = false := decide_eq_false c69
 clear c69
 replace H := Option.bind_eq_some_iff.mp H
 obtain ⟨t5, A0_, H⟩ := H
 (try dsimp only at H)
 have FA6 := Aside0.mk A0_
 clear A0_
 replace H := Option.bind_eq_some_iff.mp H
 obtain ⟨t8, A0_, H⟩ := H
 (try dsimp only at H)
 have FA9 := Aside0.mk A0_
 clear A0_
 replace H := Option.bind_eq_some_iff.mp H
 obtain ⟨⟨t11, t12⟩, A0_, H⟩ := H
 (try dsimp only at H)
 have FA13 := Aside0.mk A0_
 clear A0_
 replace H := Option.bind_eq_some_iff.mp H
 obtain ⟨t15, A0_, H⟩ := H
 (try dsimp only at H)
 have FA16 := Aside0.mk A0_
 clear A0_
 replace H := Option.bind_eq_some_iff.mp H
 obtain ⟨t18, A0_, H⟩ := H
 (try dsimp only at H)
 have FA19 := Aside0.mk A0_
 clear A0_
 replace H := Option.bind_eq_some_iff.mp H
 obtain ⟨⟨t21, t22⟩, A0_, H⟩ := H
 (try dsimp only at H)
 have FA23 := Aside0.mk A0_
 clear A0_
 replace H := Option.bind_eq_some_iff.mp H
 obtain ⟨t25, A0_, H⟩ := H
 (try dsimp only at H)
 have FA26 := Aside0.mk A0_
 clear A0_
 by_cases c70 : t25 = true
 rotate_left
 · rw [if_neg c70] at H
   exact absurd H (by simp)
 subst c70
 rw [if_pos rfl] at H
 by_cases c71 : t22 = t12
 rotate_left
 · rw [if_neg c71] at H
   exact absurd H (by simp)
 rw [if_pos c71] at H
 have c71b0 : (t22 == t12) = true := beq_iff_eq.mpr c71
 have c71b1 : (t22 != t12) = false := bne_eq_false_iff_eq.mpr c71
 clear c71
 replace H := Option.bind_eq_some_iff.mp H
 obtain ⟨t27, A0_, H⟩ := H
 (try dsimp only at H)
 have FA28 := Aside0.mk A0_
 clear A0_
 replace H := Option.bind_eq_some_iff.mp H
 obtain ⟨t30, A0_, H⟩ := H
 (try dsimp only at H)
 have FA31 := Aside0.mk A0_
 clear A0_
 by_cases c72 : t30 = true
 rotate_left
 · rw [if_neg c72] at H
   exact absurd H (by simp)
 subst c72
 rw [if_pos rfl] at H
 replace H := Option.bind_eq_some_iff.mp H
 obtain ⟨t32, A0_, H⟩ := H
 (try dsimp only at H)
 have FA33 := Aside0.mk A0_
 clear A0_
 replace H := Option.bind_eq_some_iff.mp H
 obtain ⟨t35, A0_, H⟩ := H
 (try dsimp only at H)
 have FA36 := Aside0.mk A0_
 clear A0_
 by_cases c73 : t35 = true
 rotate_left
 · rw [if_neg c73] at H
   exact absurd H (by simp)
 subst c73
 rw [if_pos rfl] at H
 replace H := Option.bind_eq_some_iff.mp H
 obtain ⟨⟨t37, t38⟩, A0_, H⟩ := H
 (try dsimp only at H)
 have FA39 := Aside0.mk A0_
 clear A0_
 replace H := Option.bind_eq_some_iff.mp H
 obtain ⟨⟨t41, t42⟩, A0_, H⟩ := H
 (try dsimp only at H)
 have FA43 := Aside0.mk A0_
 clear A0_
 by_cases c74 : t41 < 0
 · rw [if_pos c74] at H
   exact absurd H (by simp)
 rw [if_neg c74] at H
 have c74b0 : decide (t41 < 0) = false := decide_eq_false c74
 clear c74
 replace H := Option.bind_eq_some_iff.mp H
 obtain ⟨t45, A0_, H⟩ := H
 (try dsimp only at H)
 have FA46 := Aside0.mk A0_
 clear A0_
 by_cases c75 : t45 = true
 rotate_left
 · rw [if_neg c75] at H
   exact absurd H (by simp)
 subst c75
 rw [if_pos rfl] at H
 by_cases c76 : t22 = t12
 rotate_left
 · rw [if_neg c76] at H
   exact absurd H (by simp)
 rw [if_pos c76] at H
 have c76b0 : (t22 == t12) = true := beq_iff_eq.mpr c76
 have c76b1 : (t22 != t12) = false := bne_eq_false_iff_eq.mpr c76
 clear c76
 replace H := Option.bind_eq_some_iff.mp H
 obtain ⟨⟨t47, t48⟩, A0_, H⟩ := H
 (try dsimp only at H)
 have FA49 := Aside0.mk A0_
 clear A0_
 replace H := Option.bind_eq_some_iff.mp H
 obtain ⟨t51, A0_, H⟩ := H
 (try dsimp only at H)
 have FA52 := Aside0.mk A0_
 clear A0_
 by_cases c77 : t51 < 0
 · rw [if_pos c77] at H
   exact absurd H (by simp)
 rw [if_neg c77] at H
 have c77b0 : decide (t51 < 0) = false := decide_eq_false c77
 clear c77
 by_cases c78 : t51 = t47
 rotate_left
 · rw [if_neg c78] at H
   exact absurd H (by simp)
 rw [if_pos c78] at H
 have c78b0 : (t51 == t47) = true := beq_iff_eq.mpr c78
 have c78b1 : (t51 != t47) = false := bne_eq_false_iff_eq.mpr c78
 clear c78
 replace H := Option.bind_eq_some_iff.mp H
 obtain ⟨t53, A0_, H⟩ := H
 (try dsimp only at H)
 have FA54 := Aside0.mk A0_
 clear A0_
 replace H := Option.bind_eq_some_iff.mp H
 obtain ⟨t56, A0_, H⟩ := H
 (try dsimp only at H)
 have FA57 := Aside0.mk A0_
 clear A0_
 replace H := Option.bind_eq_some_iff.mp H
 obtain ⟨⟨t59, t60⟩, A0_, H⟩ := H
 (try dsimp only at H)
 have FA61 := Aside0.mk A0_
 clear A0_
 replace H := Option.bind_eq_some_iff.mp H
 obtain ⟨t63, A0_, H⟩ := H
 (try dsimp only at H)
 have FA64 := Aside0.mk A0_
 clear A0_
 by_cases c79 : t63 = true
 rotate_left
 · rw [if_neg c79] at H
   exact absurd H (by simp)
 subst c79
 rw [if_pos rfl] at H
 by_cases c80 : t60 = t12
 rotate_left
 · rw [if_neg c80] at H
   exact absurd H (by simp)
 rw [if_pos c80] at H
 have c80b0 : (t60 == t12) = true := beq_iff_eq.mpr c80
 have c80b1 : (t60 != t12) = false := bne_eq_false_iff_eq.mpr c80
 clear c80
 replace H := Option.bind_eq_some_iff.mp H
 obtain ⟨t65, A0_, H⟩ := H
 (try dsimp only at H)
 have FA66 := Aside0.mk A0_
 clear A0_
 by_cases c81 : t65 < 0
 · rw [if_pos c81] at H
   exact absurd H (by simp)
 rw [if_neg c81] at H
 have c81b0 : decide (t65 < 0) = false := decide_eq_false c81
 clear c81
 by_cases c82 : t65 = t47
 rotate_left
 · rw [if_neg c82] at H
   exact absurd H (by simp)
 rw [if_pos c82] at H
 have c82b0 : (t65 == t47) = true := beq_iff_eq.mpr c82
 have c82b1 : (t65 != t47) = false := bne_eq_false_iff_eq.mpr c82
 clear c82
 obtain rfl := Option.some.inj H
 go_enter Try.func5, Try.ntmps5
 go_wp2_with (first | ((with_reducible refine gate_callee (f := 13) rfl ?_); refine gL_ (some 26) Try.func13 #[.slice A0 l0.length c0, .int .i64 1048576] ?_; (with_reducible refine (laws_szResS.calls k A0 c0 l0 1048576 t1 _ ?side1 ?side2 FA2.out).mono ?_); (case side1 => exact cC_ (Kd.C_below HR0.out HB.out)); (case side2 => exact HC0.out); rintro e w_1 ⟨rfl, hb_⟩; refine ⟨_, rfl, ?_⟩; have n0_ : Aside0 (w.heap.size ≤ w_1.heap.size) := ⟨Nat.le_trans (below_size bR_) (below_size hb_)⟩; have m0_ := Aside0.mk (below_step bB_ hb_); clear HB; have HZ1 := n0_; have HB := m0_; clear n0_ m0_; (try clear hb_); (try clear hk_); (try clear hw_); (try clear hg_); (try clear hbox_); (try clear ho0_)) | ((with_reducible refine gate_callee (f := 14) rfl ?_); refine gL_ (some 31) Try.func14 #[.slice A1 l1.length c1, .int .i64 t1] ?_; (with_reducible refine (laws_szStringS.calls k A1 c1 l1 t1 t3 _ ?side1 ?side2 FA4.out).mono ?_); (case side1 => exact cC_ (Kd.C_below HR1.out HB.out)); (case side2 => exact HC1.out); rintro e w_2 ⟨rfl, ⟨nd_, hw_⟩⟩; refine ⟨_, rfl, ?_⟩; have hb_ := below_drawn_FnExactPutFile hw_; clear hw_; have n0_ : Aside0 (w_1.heap.size ≤ w_2.heap.size) := ⟨Nat.le_trans (below_size bR_) (below_size hb_)⟩; have m0_ := Aside0.mk (below_step bB_ hb_); clear HB; have HZ2 := n0_; have HB := m0_; clear n0_ m0_; (try clear hb_); (try clear hk_); (try clear hw_); (try clear hg_); (try clear hbox_); (try clear ho0_)) | ((with_reducible refine gate_callee (f := 16) rfl ?_); refine gL_ (some 36) Try.func16 #[.slice A0 l0.length c0] ?_; (with_reducible refine (laws_toResS.calls k A0 c0 l0 t5 _ ?side1 ?side2 FA6.out).mono ?_); (case side1 => exact cC_ (Kd.C_below HR0.out HB.out)); (case side2 => exact HC0.out); rintro e w_3 ⟨v83, rfl, ho0_, hb_⟩; refine ⟨_, rfl, ?_⟩; have n0_ : Aside0 (w_2.heap.size ≤ w_3.heap.size) := ⟨Nat.le_trans (below_size bR_) (below_size hb_)⟩; have m0_ := Aside0.mk (below_step bB_ hb_); have m1_ := Aside0.mk (show Kd.S k57 57 w_3 w.heap.size (fun k_ => w_2.heap.size ≤ k_ ∧ k_ < w_3.heap.size) v83 t5 from Kd.S_mono (Kd.S_lower (Kd.S_bound ho0_) (below_size bB_)) (fun k_ h_ => ⟨Nat.le_trans (below_size bR_) h_.2.1, h_.2.2.1⟩)); clear HB; have HZ3 := n0_; have HB := m0_; have HO7 := m1_; clear n0_ m0_ m1_; (try clear hb_); (try clear hk_); (try clear hw_); (try clear hg_); (try clear hbox_); (try clear ho0_); (try clear ho1_); obtain ⟨Ao7, co7, eo_⟩ := Kd.S_slice HO7.out; subst eo_) | ((with_reducible refine gate_callee (f := 17) rfl ?_); refine gL_ (some 38) Try.func17 #[.slice A1 l1.length c1] ?_; (with_reducible refine (laws_toStringS.calls k A1 c1 l1 t8 _ ?side1 ?side2 FA9.out).mono ?_); (case side1 => exact cC_ (Kd.C_below HR1.out HB.out)); (case side2 => exact HC1.out); rintro e w_4 ⟨v84, rfl, ho0_, hb_⟩; refine ⟨_, rfl, ?_⟩; have n0_ : Aside0 (w_3.heap.size ≤ w_4.heap.size) := ⟨Nat.le_trans (below_size bR_) (below_size hb_)⟩; have m0_ := Aside0.mk (Kd.S_below (vS_ HO7.out) hb_); have m1_ := Aside0.mk (below_step bB_ hb_); have m2_ := Aside0.mk (show Kd.R Kd.string 9 w_4 w.heap.size (fun k_ => w_3.heap.size ≤ k_ ∧ k_ < w_4.heap.size) v84 t8 from Kd.R_mono (Kd.R_lower (Kd.R_bound ho0_) (below_size bB_)) (fun k_ h_ => ⟨Nat.le_trans (below_size bR_) h_.2.1, h_.2.2.1⟩)); clear HO7 HB; have HZ4 := n0_; have HO7 := m0_; have HB := m1_; have HO10 := m2_; clear n0_ m0_ m1_ m2_; (try clear hb_); (try clear hk_); (try clear hw_); (try clear hg_); (try clear hbox_); (try clear ho0_); (try clear ho1_); obtain ⟨Ao10, co10, eo_⟩ := Kd.R_slice HO10.out; subst eo_) | ((with_reducible refine gate_callee (f := 26) rfl ?_); refine gL_ (some 41) Try.func26 #[.slice Ao7 t5.length co7, .slice Ao10 t8.length co10, .string a2, .int .i64 a3] ?_; (with_reducible refine (spec_PutFileX.calls k Ao7 co7 t5 Ao10 co10 t8 a2 a3 t11 t12 _ ?side1 ?side2 ?side3 ?side4 FA13.out).mono ?_); (case side1 => exact cC_ (Kd.S_reads' HO7.out).2.2); (case side2 => exact (Kd.S_reads' HO7.out).2.1); (case side3 => exact cC_ (Kd.R_reads' HO10.out).2.2); (case side4 => exact (Kd.R_reads' HO10.out).2.1); rintro e w_5 ⟨v85, rfl, ho0_, hb_⟩; refine ⟨_, rfl, ?_⟩; have n0_ : Aside0 (w_4.heap.size ≤ w_5.heap.size) := ⟨Nat.le_trans (below_size bR_) (below_size hb_)⟩; have m0_ := Aside0.mk (Kd.S_below (vS_ HO7.out) hb_); have m1_ := Aside0.mk (Kd.R_below (vR_ HO10.out) hb_); have m2_ := Aside0.mk (below_step bB_ hb_); have m3_ := Aside0.mk (show Kd.S k57 57 w_5 w.heap.size (fun k_ => w_4.heap.size ≤ k_ ∧ k_ < w_5.heap.size) v85 t11 from Kd.S_mono (Kd.S_lower (Kd.S_bound ho0_) (below_size bB_)) (fun k_ h_ => ⟨Nat.le_trans (below_size bR_) h_.2.1, h_.2.2.1⟩)); clear HO7 HO10 HB; have HZ5 := n0_; have HO7 := m0_; have HO10 := m1_; have HB := m2_; have HO14 := m3_; clear n0_ m0_ m1_ m2_ m3_; (try clear hb_); (try clear hk_); (try clear hw_); (try clear hg_); (try clear hbox_); (try clear ho0_); (try clear ho1_); obtain ⟨Ao14, co14, eo_⟩ := Kd.S_slice HO14.out; subst eo_) | ((with_reducible refine gate_callee (f := 16) rfl ?_); refine gL_ (some 45) Try.func16 #[.slice A0 l0.length c0] ?_; (with_reducible refine (laws_toResS.calls k A0 c0 l0 t15 _ ?side1 ?side2 FA16.out).mono ?_); (case side1 => exact cC_ (Kd.C_below HR0.out HB.out)); (case side2 => exact HC0.out); rintro e w_6 ⟨v86, rfl, ho0_, hb_⟩; refine ⟨_, rfl, ?_⟩; have n0_ : Aside0 (w_5.heap.size ≤ w_6.heap.size) := ⟨Nat.le_trans (below_size bR_) (below_size hb_)⟩; have m0_ := Aside0.mk (Kd.S_below (vS_ HO14.out) hb_); have m1_ := Aside0.mk (below_step bB_ hb_); have m2_ := Aside0.mk (show Kd.S k57 57 w_6 w.heap.size (fun k_ => w_5.heap.size ≤ k_ ∧ k_ < w_6.heap.size) v86 t15 from Kd.S_mono (Kd.S_lower (Kd.S_bound ho0_) (below_size bB_)) (fun k_ h_ => ⟨Nat.le_trans (below_size bR_) h_.2.1, h_.2.2.1⟩)); clear HO14 HB; have HZ6 := n0_; have HO14 := m0_; have HB := m1_; have HO17 := m2_; clear n0_ m0_ m1_ m2_; (try clear hb_); (try clear hk_); (try clear hw_); (try clear hg_); (try clear hbox_); (try clear ho0_); (try clear ho1_); obtain ⟨Ao17, co17, eo_⟩ := Kd.S_slice HO17.out; subst eo_) | ((with_reducible refine gate_callee (f := 17) rfl ?_); refine gL_ (some 47) Try.func17 #[.slice A1 l1.length c1] ?_; (with_reducible refine (laws_toStringS.calls k A1 c1 l1 t18 _ ?side1 ?side2 FA19.out).mono ?_); (case side1 => exact cC_ (Kd.C_below HR1.out HB.out)); (case side2 => exact HC1.out); rintro e w_7 ⟨v87, rfl, ho0_, hb_⟩; refine ⟨_, rfl, ?_⟩; have n0_ : Aside0 (w_6.heap.size ≤ w_7.heap.size) := ⟨Nat.le_trans (below_size bR_) (below_size hb_)⟩; have m0_ := Aside0.mk (Kd.S_below (vS_ HO14.out) hb_); have m1_ := Aside0.mk (Kd.S_below (vS_ HO17.out) hb_); have m2_ := Aside0.mk (below_step bB_ hb_); have m3_ := Aside0.mk (show Kd.R Kd.string 9 w_7 w.heap.size (fun k_ => w_6.heap.size ≤ k_ ∧ k_ < w_7.heap.size) v87 t18 from Kd.R_mono (Kd.R_lower (Kd.R_bound ho0_) (below_size bB_)) (fun k_ h_ => ⟨Nat.le_trans (below_size bR_) h_.2.1, h_.2.2.1⟩)); clear HO14 HO17 HB; have HZ7 := n0_; have HO14 := m0_; have HO17 := m1_; have HB := m2_; have HO20 := m3_; clear n0_ m0_ m1_ m2_ m3_; (try clear hb_); (try clear hk_); (try clear hw_); (try clear hg_); (try clear hbox_); (try clear ho0_); (try clear ho1_); obtain ⟨Ao20, co20, eo_⟩ := Kd.R_slice HO20.out; subst eo_) | ((with_reducible refine gate_callee (f := 27) rfl ?_); refine gL_ (some 53) Try.func27 #[.slice Ao17 t15.length co17, .slice Ao20 t18.length co20, .string a2, .int .i64 a3] ?_; (with_reducible refine (impl_PutFileX.calls k Ao17 co17 t15 Ao20 co20 t18 a2 a3 t21 t22 _ ?side1 ?side2 ?side3 ?side4 FA23.out).mono ?_); (case side1 => exact cC_ (Kd.S_reads' HO17.out).2.2); (case side2 => exact (Kd.S_reads' HO17.out).2.1); (case side3 => exact cC_ (Kd.R_reads' HO20.out).2.2); (case side4 => exact (Kd.R_reads' HO20.out).2.1); rintro e w_8 ⟨v88, rfl, ho0_, hb_⟩; refine ⟨_, rfl, ?_⟩; have n0_ : Aside0 (w_7.heap.size ≤ w_8.heap.size) := ⟨Nat.le_trans (below_size bR_) (below_size hb_)⟩; have m0_ := Aside0.mk (Kd.S_below (vS_ HO14.out) hb_); have m1_ := Aside0.mk (Kd.S_below (vS_ HO17.out) hb_); have m2_ := Aside0.mk (Kd.R_below (vR_ HO20.out) hb_); have m3_ := Aside0.mk (below_step bB_ hb_); have m4_ := Aside0.mk (show Kd.S k57 57 w_8 w.heap.size (fun k_ => w_7.heap.size ≤ k_ ∧ k_ < w_8.heap.size) v88 t21 from Kd.S_mono (Kd.S_lower (Kd.S_bound ho0_) (below_size bB_)) (fun k_ h_ => ⟨Nat.le_trans (below_size bR_) h_.2.1, h_.2.2.1⟩)); clear HO14 HO17 HO20 HB; have HZ8 := n0_; have HO14 := m0_; have HO17 := m1_; have HO20 := m2_; have HB := m3_; have HO24 := m4_; clear n0_ m0_ m1_ m2_ m3_ m4_; (try clear hb_); (try clear hk_); (try clear hw_); (try clear hg_); (try clear hbox_); (try clear ho0_); (try clear ho1_); obtain ⟨Ao24, co24, eo_⟩ := Kd.S_slice HO24.out; subst eo_) | ((with_reducible refine gate_callee (f := 19) rfl ?_); refine gL_ (some 58) Try.func19 #[.slice Ao24 t21.length co24, .slice Ao14 t11.length co14] ?_; (with_reducible refine (laws_eqResS.calls k Ao24 co24 t21 Ao14 co14 t11 true _ ?side1 ?side2 ?side3 ?side4 FA26.out).mono ?_); (case side1 => exact cC_ (Kd.S_reads' HO24.out).2.2); (case side2 => exact (Kd.S_reads' HO24.out).2.1); (case side3 => exact cC_ (Kd.S_reads' HO14.out).2.2); (case side4 => exact (Kd.S_reads' HO14.out).2.1); rintro e w_9 ⟨rfl, hb_⟩; refine ⟨_, rfl, ?_⟩; have n0_ : Aside0 (w_8.heap.size ≤ w_9.heap.size) := ⟨Nat.le_trans (below_size bR_) (below_size hb_)⟩; have m0_ := Aside0.mk (Kd.S_below (vS_ HO14.out) hb_); have m1_ := Aside0.mk (Kd.S_below (vS_ HO17.out) hb_); have m2_ := Aside0.mk (Kd.R_below (vR_ HO20.out) hb_); have m3_ := Aside0.mk (Kd.S_below (vS_ HO24.out) hb_); have m4_ := Aside0.mk (below_step bB_ hb_); clear HO14 HO17 HO20 HO24 HB; have HZ9 := n0_; have HO14 := m0_; have HO17 := m1_; have HO20 := m2_; have HO24 := m3_; have HB := m4_; clear n0_ m0_ m1_ m2_ m3_ m4_; (try clear hb_); (try clear hk_); (try clear hw_); (try clear hg_); (try clear hbox_); (try clear ho0_)) | ((with_reducible refine gate_callee (f := 16) rfl ?_); refine gL_ (some 67) Try.func16 #[.slice A0 l0.length c0] ?_; (with_reducible refine (laws_toResS.calls k A0 c0 l0 t27 _ ?side1 ?side2 FA28.out).mono ?_); (case side1 => exact cC_ (Kd.C_below HR0.out HB.out)); (case side2 => exact HC0.out); rintro e w_10 ⟨v89, rfl, ho0_, hb_⟩; refine ⟨_, rfl, ?_⟩; have n0_ : Aside0 (w_9.heap.size ≤ w_10.heap.size) := ⟨Nat.le_trans (below_size bR_) (below_size hb_)⟩; have m0_ := Aside0.mk (Kd.S_below (vS_ HO14.out) hb_); have m1_ := Aside0.mk (Kd.S_below (vS_ HO17.out) hb_); have m2_ := Aside0.mk (Kd.R_below (vR_ HO20.out) hb_); have m3_ := Aside0.mk (Kd.S_below (vS_ HO24.out) hb_); have m4_ := Aside0.mk (below_step bB_ hb_); have m5_ := Aside0.mk (show Kd.S k57 57 w_10 w.heap.size (fun k_ => w_9.heap.size ≤ k_ ∧ k_ < w_10.heap.size) v89 t27 from Kd.S_mono (Kd.S_lower (Kd.S_bound ho0_) (below_size bB_)) (fun k_ h_ => ⟨Nat.le_trans (below_size bR_) h_.2.1, h_.2.2.1⟩)); clear HO14 HO17 HO20 HO24 HB; have HZ10 := n0_; have HO14 := m0_; have HO17 := m1_; have HO20 := m2_; have HO24 := m3_; have HB := m4_; have HO29 := m5_; clear n0_ m0_ m1_ m2_ m3_ m4_ m5_; (try clear hb_); (try clear hk_); (try clear hw_); (try clear hg_); (try clear hbox_); (try clear ho0_); (try clear ho1_); obtain ⟨Ao29, co29, eo_⟩ := Kd.S_slice HO29.out; subst eo_) | ((with_reducible refine gate_callee (f := 19) rfl ?_); refine gL_ (some 68) Try.func19 #[.slice Ao17 t15.length co17, .slice Ao29 t27.length co29] ?_; (with_reducible refine (laws_eqResS.calls k Ao17 co17 t15 Ao29 co29 t27 true _ ?side1 ?side2 ?side3 ?side4 FA31.out).mono ?_); (case side1 => exact cC_ (Kd.S_reads' HO17.out).2.2); (case side2 => exact (Kd.S_reads' HO17.out).2.1); (case side3 => exact cC_ (Kd.S_reads' HO29.out).2.2); (case side4 => exact (Kd.S_reads' HO29.out).2.1); rintro e w_11 ⟨rfl, hb_⟩; refine ⟨_, rfl, ?_⟩; have n0_ : Aside0 (w_10.heap.size ≤ w_11.heap.size) := ⟨Nat.le_trans (below_size bR_) (below_size hb_)⟩; have m0_ := Aside0.mk (Kd.S_below (vS_ HO14.out) hb_); have m1_ := Aside0.mk (Kd.S_below (vS_ HO17.out) hb_); have m2_ := Aside0.mk (Kd.R_below (vR_ HO20.out) hb_); have m3_ := Aside0.mk (Kd.S_below (vS_ HO24.out) hb_); have m4_ := Aside0.mk (Kd.S_below (vS_ HO29.out) hb_); have m5_ := Aside0.mk (below_step bB_ hb_); clear HO14 HO17 HO20 HO24 HO29 HB; have HZ11 := n0_; have HO14 := m0_; have HO17 := m1_; have HO20 := m2_; have HO24 := m3_; have HO29 := m4_; have HB := m5_; clear n0_ m0_ m1_ m2_ m3_ m4_ m5_; (try clear hb_); (try clear hk_); (try clear hw_); (try clear hg_); (try clear hbox_); (try clear ho0_)) | ((with_reducible refine gate_callee (f := 17) rfl ?_); refine gL_ (some 72) Try.func17 #[.slice A1 l1.length c1] ?_; (with_reducible refine (laws_toStringS.calls k A1 c1 l1 t32 _ ?side1 ?side2 FA33.out).mono ?_); (case side1 => exact cC_ (Kd.C_below HR1.out HB.out)); (case side2 => exact HC1.out); rintro e w_12 ⟨v90, rfl, ho0_, hb_⟩; refine ⟨_, rfl, ?_⟩; have n0_ : Aside0 (w_11.heap.size ≤ w_12.heap.size) := ⟨Nat.le_trans (below_size bR_) (below_size hb_)⟩; have m0_ := Aside0.mk (Kd.S_below (vS_ HO14.out) hb_); have m1_ := Aside0.mk (Kd.S_below (vS_ HO17.out) hb_); have m2_ := Aside0.mk (Kd.R_below (vR_ HO20.out) hb_); have m3_ := Aside0.mk (Kd.S_below (vS_ HO24.out) hb_); have m4_ := Aside0.mk (below_step bB_ hb_); have m5_ := Aside0.mk (show Kd.R Kd.string 9 w_12 w.heap.size (fun k_ => w_11.heap.size ≤ k_ ∧ k_ < w_12.heap.size) v90 t32 from Kd.R_mono (Kd.R_lower (Kd.R_bound ho0_) (below_size bB_)) (fun k_ h_ => ⟨Nat.le_trans (below_size bR_) h_.2.1, h_.2.2.1⟩)); clear HO14 HO17 HO20 HO24 HB; have HZ12 := n0_; have HO14 := m0_; have HO17 := m1_; have HO20 := m2_; have HO24 := m3_; have HB := m4_; have HO34 := m5_; clear n0_ m0_ m1_ m2_ m3_ m4_ m5_; (try clear hb_); (try clear hk_); (try clear hw_); (try clear hg_); (try clear hbox_); (try clear ho0_); (try clear ho1_); obtain ⟨Ao34, co34, eo_⟩ := Kd.R_slice HO34.out; subst eo_) | ((with_reducible refine gate_callee (f := 20) rfl ?_); refine gL_ (some 73) Try.func20 #[.slice Ao20 t18.length co20, .slice Ao34 t32.length co34] ?_; (with_reducible refine (laws_eqStringS.calls k Ao20 co20 t18 Ao34 co34 t32 true _ ?side1 ?side2 ?side3 ?side4 FA36.out).mono ?_); (case side1 => exact cC_ (Kd.R_reads' HO20.out).2.2); (case side2 => exact (Kd.R_reads' HO20.out).2.1); (case side3 => exact cC_ (Kd.R_reads' HO34.out).2.2); (case side4 => exact (Kd.R_reads' HO34.out).2.1); rintro e w_13 ⟨rfl, ⟨nd_, hw_⟩⟩; refine ⟨_, rfl, ?_⟩; have hb_ := below_drawn_FnExactPutFile hw_; clear hw_; have n0_ : Aside0 (w_12.heap.size ≤ w_13.heap.size) := ⟨Nat.le_trans (below_size bR_) (below_size hb_)⟩; have m0_ := Aside0.mk (Kd.S_below (vS_ HO14.out) hb_); have m1_ := Aside0.mk (Kd.S_below (vS_ HO17.out) hb_); have m2_ := Aside0.mk (Kd.R_below (vR_ HO20.out) hb_); have m3_ := Aside0.mk (Kd.S_below (vS_ HO24.out) hb_); have m4_ := Aside0.mk (Kd.R_below (vR_ HO34.out) hb_); have m5_ := Aside0.mk (below_step bB_ hb_); clear HO14 HO17 HO20 HO24 HO34 HB; have HZ13 := n0_; have HO14 := m0_; have HO17 := m1_; have HO20 := m2_; have HO24 := m3_; have HO34 := m4_; have HB := m5_; clear n0_ m0_ m1_ m2_ m3_ m4_ m5_; (try clear hb_); (try clear hk_); (try clear hw_); (try clear hg_); (try clear hbox_); (try clear ho0_)) | ((with_reducible refine gate_callee (f := 21) rfl ?_); refine gL_ (some 77) Try.func21 #[(.slice Ao17 t15.length co17), .int .i64 1] ?_; (with_reducible refine (laws_markResS.calls k (fun k_ => w_5.heap.size ≤ k_ ∧ k_ < w_6.heap.size) (.slice Ao17 t15.length co17) t15 1 t37 t38 w _ ?side1 ?side2 FA39.out).mono ?_); (case side1 => exact bB_); (case side2 => exact (vS_ HO17.out)); rintro e w_14 ⟨rfl, ho0_, hb_, hk_⟩; refine ⟨_, rfl, ?_⟩; have n0_ : Aside0 (w_13.heap.size ≤ w_14.heap.size) := ⟨Nat.le_trans (below_size bR_) (hk_.1)⟩; have m0_ := Aside0.mk (Kd.S_step (vS_ HO14.out) (fun k_ h1_ h2_ => hk_.2 k_ h2_ (fun h3_ => by have := HZ1.out; have := HZ2.out; have := HZ3.out; have := HZ4.out; have := HZ5.out; have := HZ6.out; have := HZ7.out; have := HZ8.out; have := HZ9.out; have := HZ10.out; have := HZ11.out; have := HZ12.out; have := HZ13.out; omega))); have m1_ := Aside0.mk (Kd.R_step (vR_ HO20.out) (fun k_ h1_ h2_ => hk_.2 k_ h2_ (fun h3_ => by have := HZ1.out; have := HZ2.out; have := HZ3.out; have := HZ4.out; have := HZ5.out; have := HZ6.out; have := HZ7.out; have := HZ8.out; have := HZ9.out; have := HZ10.out; have := HZ11.out; have := HZ12.out; have := HZ13.out; omega))); have m2_ := Aside0.mk (Kd.S_step (vS_ HO24.out) (fun k_ h1_ h2_ => hk_.2 k_ h2_ (fun h3_ => by have := HZ1.out; have := HZ2.out; have := HZ3.out; have := HZ4.out; have := HZ5.out; have := HZ6.out; have := HZ7.out; have := HZ8.out; have := HZ9.out; have := HZ10.out; have := HZ11.out; have := HZ12.out; have := HZ13.out; omega))); have m3_ := Aside0.mk (Kd.S_mono ho0_ (fun _ h_ => h_)); have m4_ := Aside0.mk hb_; have m5_ := Aside0.mk (Kd.S_reads' ho0_).1; clear HO14 HO20 HO24 HO17 HB; have HZ14 := n0_; have HO14 := m0_; have HO20 := m1_; have HO24 := m2_; have HO17 := m3_; have HB := m4_; have HE40 := m5_; clear n0_ m0_ m1_ m2_ m3_ m4_ m5_; (try clear hb_); (try clear hk_); (try clear hw_); (try clear hg_); (try clear hbox_); (try clear ho0_); (try clear ho1_); (try clear ho2_)) | ((with_reducible refine gate_callee (f := 22) rfl ?_); refine gL_ (some 80) Try.func22 #[(.slice Ao20 t18.length co20), .int .i64 t37] ?_; (with_reducible refine (laws_markStringS.calls k (fun k_ => w_6.heap.size ≤ k_ ∧ k_ < w_7.heap.size) (.slice Ao20 t18.length co20) t18 t37 t41 t42 w _ ?side1 ?side2 FA43.out).mono ?_); (case side1 => exact bB_); (case side2 => exact (vR_ HO20.out)); rintro e w_15 ⟨rfl, ho0_, hb_, hk_⟩; refine ⟨_, rfl, ?_⟩; have n0_ : Aside0 (w_14.heap.size ≤ w_15.heap.size) := ⟨Nat.le_trans (below_size bR_) (hk_.1)⟩; have m0_ := Aside0.mk (Kd.S_step (vS_ HO14.out) (fun k_ h1_ h2_ => hk_.2 k_ h2_ (fun h3_ => by have := HZ1.out; have := HZ2.out; have := HZ3.out; have := HZ4.out; have := HZ5.out; have := HZ6.out; have := HZ7.out; have := HZ8.out; have := HZ9.out; have := HZ10.out; have := HZ11.out; have := HZ12.out; have := HZ13.out; have := HZ14.out; omega))); have m1_ := Aside0.mk (Kd.S_step (vS_ HO24.out) (fun k_ h1_ h2_ => hk_.2 k_ h2_ (fun h3_ => by have := HZ1.out; have := HZ2.out; have := HZ3.out; have := HZ4.out; have := HZ5.out; have := HZ6.out; have := HZ7.out; have := HZ8.out; have := HZ9.out; have := HZ10.out; have := HZ11.out; have := HZ12.out; have := HZ13.out; have := HZ14.out; omega))); have m2_ := Aside0.mk (Kd.R_mono (ok' := fun k_ => w_6.heap.size ≤ k_ ∧ k_ < w_7.heap.size) (Kd.R_tight rfl ho0_) (fun k_ h_ => HO20.out.1 k_ h_.symm)); have m3_ := Aside0.mk hb_; have m4_ := Aside0.mk (Kd.R_reads' ho0_).1; clear HO14 HO24 HO20 HB; have HZ15 := n0_; have HO14 := m0_; have HO24 := m1_; have HO20 := m2_; have HB := m3_; have HE44 := m4_; clear n0_ m0_ m1_ m2_ m3_ m4_; (try clear hb_); (try clear hk_); (try clear hw_); (try clear hg_); (try clear hbox_); (try clear ho0_); (try clear ho1_); (try clear ho2_)) | (go_at_call 19; (with_reducible refine (laws_eqResS.calls k Ao24 co24 t21 Ao14 co14 t11 true _ ?side1 ?side2 ?side3 ?side4 FA46.out).mono ?_); (case side1 => exact cC_ (Kd.S_reads' HO24.out).2.2); (case side2 => exact (Kd.S_reads' HO24.out).2.1); (case side3 => exact cC_ (Kd.S_reads' HO14.out).2.2); (case side4 => exact (Kd.S_reads' HO14.out).2.1); rintro e w_16 ⟨rfl, hb_⟩; have n0_ : Aside0 (w_15.heap.size ≤ w_16.heap.size) := ⟨Nat.le_trans (below_size bR_) (below_size hb_)⟩; have m0_ := Aside0.mk (Kd.S_below (vS_ HO14.out) hb_); have m1_ := Aside0.mk (Kd.S_below (vS_ HO24.out) hb_); have m2_ := Aside0.mk (below_step bB_ hb_); clear HO14 HO24 HB; have HZ16 := n0_; have HO14 := m0_; have HO24 := m1_; have HB := m2_; clear n0_ m0_ m1_ m2_; (try clear hb_); (try clear hk_); (try clear hw_); (try clear hg_); (try clear hbox_); (try clear ho0_)) | ((with_reducible refine gate_callee (f := 21) rfl ?_); refine gL_ (some 96) Try.func21 #[(.slice Ao24 t21.length co24), .int .i64 1] ?_; (with_reducible refine (laws_markResS.calls k (fun k_ => w_7.heap.size ≤ k_ ∧ k_ < w_8.heap.size) (.slice Ao24 t21.length co24) t21 1 t47 t48 w _ ?side1 ?side2 FA49.out).mono ?_); (case side1 => exact bB_); (case side2 => exact (vS_ HO24.out)); rintro e w_17 ⟨rfl, ho0_, hb_, hk_⟩; refine ⟨_, rfl, ?_⟩; have n0_ : Aside0 (w_16.heap.size ≤ w_17.heap.size) := ⟨Nat.le_trans (below_size bR_) (hk_.1)⟩; have m0_ := Aside0.mk (Kd.S_step (vS_ HO14.out) (fun k_ h1_ h2_ => hk_.2 k_ h2_ (fun h3_ => by have := HZ1.out; have := HZ2.out; have := HZ3.out; have := HZ4.out; have := HZ5.out; have := HZ6.out; have := HZ7.out; have := HZ8.out; have := HZ9.out; have := HZ10.out; have := HZ11.out; have := HZ12.out; have := HZ13.out; have := HZ14.out; have := HZ15.out; have := HZ16.out; omega))); have m1_ := Aside0.mk (Kd.S_mono ho0_ (fun _ h_ => h_)); have m2_ := Aside0.mk hb_; have m3_ := Aside0.mk (Kd.S_reads' ho0_).1; clear HO14 HO24 HB; have HZ17 := n0_; have HO14 := m0_; have HO24 := m1_; have HB := m2_; have HE50 := m3_; clear n0_ m0_ m1_ m2_ m3_; (try clear hb_); (try clear hk_); (try clear hw_); (try clear hg_); (try clear hbox_); (try clear ho0_); (try clear ho1_); (try clear ho2_)) | ((with_reducible refine gate_callee (f := 23) rfl ?_); refine gL_ (some 99) Try.func23 #[.slice Ao24 t21.length co24, .int .i64 1] ?_; refine calls_of_args (args' := #[.slice Ao24 t48.length co24, .int .i64 1]) (by simp only [HE50.out]) ?_; (with_reducible refine (laws_heldResS.calls k Ao24 co24 t48 1 t51 _ ?side1 ?side2 FA52.out).mono ?_); (case side1 => repeat (first | (have h_ := Kd.S_reads' HO24.out; rw [HE50.out] at h_; exact h_.2.2) | (with_reducible refine Kd.C_alloc ?_ _) | (with_reducible refine Kd.C_drewN ?_ _) | (with_reducible refine Kd.C_drew ?_))); (case side2 => have h_ := Kd.S_reads' HO24.out; rw [HE50.out] at h_; exact h_.2.1); rintro e w_18 ⟨rfl, hb_⟩; refine ⟨_, rfl, ?_⟩; have n0_ : Aside0 (w_17.heap.size ≤ w_18.heap.size) := ⟨Nat.le_trans (below_size bR_) (below_size hb_)⟩; have m0_ := Aside0.mk (Kd.S_below (vS_ HO14.out) hb_); have m1_ := Aside0.mk (Kd.S_below (vS_ HO24.out) hb_); have m2_ := Aside0.mk (below_step bB_ hb_); clear HO14 HO24 HB; have HZ18 := n0_; have HO14 := m0_; have HO24 := m1_; have HB := m2_; clear n0_ m0_ m1_ m2_; (try clear hb_); (try clear hk_); (try clear hw_); (try clear hg_); (try clear hbox_); (try clear ho0_)) | ((with_reducible refine gate_callee (f := 16) rfl ?_); refine gL_ (some 107) Try.func16 #[.slice A0 l0.length c0] ?_; (with_reducible refine (laws_toResS.calls k A0 c0 l0 t53 _ ?side1 ?side2 FA54.out).mono ?_); (case side1 => exact cC_ (Kd.C_below HR0.out HB.out)); (case side2 => exact HC0.out); rintro e w_19 ⟨v91, rfl, ho0_, hb_⟩; refine ⟨_, rfl, ?_⟩; have n0_ : Aside0 (w_18.heap.size ≤ w_19.heap.size) := ⟨Nat.le_trans (below_size bR_) (below_size hb_)⟩; have m0_ := Aside0.mk (Kd.S_below (vS_ HO14.out) hb_); have m1_ := Aside0.mk (Kd.S_below (vS_ HO24.out) hb_); have m2_ := Aside0.mk (below_step bB_ hb_); have m3_ := Aside0.mk (show Kd.S k57 57 w_19 w.heap.size (fun k_ => w_18.heap.size ≤ k_ ∧ k_ < w_19.heap.size) v91 t53 from Kd.S_mono (Kd.S_lower (Kd.S_bound ho0_) (below_size bB_)) (fun k_ h_ => ⟨Nat.le_trans (below_size bR_) h_.2.1, h_.2.2.1⟩)); clear HO14 HO24 HB; have HZ19 := n0_; have HO14 := m0_; have HO24 := m1_; have HB := m2_; have HO55 := m3_; clear n0_ m0_ m1_ m2_ m3_; (try clear hb_); (try clear hk_); (try clear hw_); (try clear hg_); (try clear hbox_); (try clear ho0_); (try clear ho1_); obtain ⟨Ao55, co55, eo_⟩ := Kd.S_slice HO55.out; subst eo_) | ((with_reducible refine gate_callee (f := 17) rfl ?_); refine gL_ (some 109) Try.func17 #[.slice A1 l1.length c1] ?_; (with_reducible refine (laws_toStringS.calls k A1 c1 l1 t56 _ ?side1 ?side2 FA57.out).mono ?_); (case side1 => exact cC_ (Kd.C_below HR1.out HB.out)); (case side2 => exact HC1.out); rintro e w_20 ⟨v92, rfl, ho0_, hb_⟩; refine ⟨_, rfl, ?_⟩; have n0_ : Aside0 (w_19.heap.size ≤ w_20.heap.size) := ⟨Nat.le_trans (below_size bR_) (below_size hb_)⟩; have m0_ := Aside0.mk (Kd.S_below (vS_ HO14.out) hb_); have m1_ := Aside0.mk (Kd.S_below (vS_ HO24.out) hb_); have m2_ := Aside0.mk (Kd.S_below (vS_ HO55.out) hb_); have m3_ := Aside0.mk (below_step bB_ hb_); have m4_ := Aside0.mk (show Kd.R Kd.string 9 w_20 w.heap.size (fun k_ => w_19.heap.size ≤ k_ ∧ k_ < w_20.heap.size) v92 t56 from Kd.R_mono (Kd.R_lower (Kd.R_bound ho0_) (below_size bB_)) (fun k_ h_ => ⟨Nat.le_trans (below_size bR_) h_.2.1, h_.2.2.1⟩)); clear HO14 HO24 HO55 HB; have HZ20 := n0_; have HO14 := m0_; have HO24 := m1_; have HO55 := m2_; have HB := m3_; have HO58 := m4_; clear n0_ m0_ m1_ m2_ m3_ m4_; (try clear hb_); (try clear hk_); (try clear hw_); (try clear hg_); (try clear hbox_); (try clear ho0_); (try clear ho1_); obtain ⟨Ao58, co58, eo_⟩ := Kd.R_slice HO58.out; subst eo_) | ((with_reducible refine gate_callee (f := 27) rfl ?_); refine gL_ (some 112) Try.func27 #[.slice Ao55 t53.length co55, .slice Ao58 t56.length co58, .string a2, .int .i64 a3] ?_; (with_reducible refine (impl_PutFileX.calls k Ao55 co55 t53 Ao58 co58 t56 a2 a3 t59 t60 _ ?side1 ?side2 ?side3 ?side4 FA61.out).mono ?_); (case side1 => exact cC_ (Kd.S_reads' HO55.out).2.2); (case side2 => exact (Kd.S_reads' HO55.out).2.1); (case side3 => exact cC_ (Kd.R_reads' HO58.out).2.2); (case side4 => exact (Kd.R_reads' HO58.out).2.1); rintro e w_21 ⟨v93, rfl, ho0_, hb_⟩; refine ⟨_, rfl, ?_⟩; have n0_ : Aside0 (w_20.heap.size ≤ w_21.heap.size) := ⟨Nat.le_trans (below_size bR_) (below_size hb_)⟩; have m0_ := Aside0.mk (Kd.S_below (vS_ HO14.out) hb_); have m1_ := Aside0.mk (Kd.S_below (vS_ HO24.out) hb_); have m2_ := Aside0.mk (Kd.S_below (vS_ HO55.out) hb_); have m3_ := Aside0.mk (Kd.R_below (vR_ HO58.out) hb_); have m4_ := Aside0.mk (below_step bB_ hb_); have m5_ := Aside0.mk (show Kd.S k57 57 w_21 w.heap.size (fun k_ => w_20.heap.size ≤ k_ ∧ k_ < w_21.heap.size) v93 t59 from Kd.S_mono (Kd.S_lower (Kd.S_bound ho0_) (below_size bB_)) (fun k_ h_ => ⟨Nat.le_trans (below_size bR_) h_.2.1, h_.2.2.1⟩)); clear HO14 HO24 HO55 HO58 HB; have HZ21 := n0_; have HO14 := m0_; have HO24 := m1_; have HO55 := m2_; have HO58 := m3_; have HB := m4_; have HO62 := m5_; clear n0_ m0_ m1_ m2_ m3_ m4_ m5_; (try clear hb_); (try clear hk_); (try clear hw_); (try clear hg_); (try clear hbox_); (try clear ho0_); (try clear ho1_); obtain ⟨Ao62, co62, eo_⟩ := Kd.S_slice HO62.out; subst eo_) | ((with_reducible refine gate_callee (f := 19) rfl ?_); refine gL_ (some 117) Try.func19 #[.slice Ao62 t59.length co62, .slice Ao14 t11.length co14] ?_; (with_reducible refine (laws_eqResS.calls k Ao62 co62 t59 Ao14 co14 t11 true _ ?side1 ?side2 ?side3 ?side4 FA64.out).mono ?_); (case side1 => exact cC_ (Kd.S_reads' HO62.out).2.2); (case side2 => exact (Kd.S_reads' HO62.out).2.1); (case side3 => exact cC_ (Kd.S_reads' HO14.out).2.2); (case side4 => exact (Kd.S_reads' HO14.out).2.1); rintro e w_22 ⟨rfl, hb_⟩; refine ⟨_, rfl, ?_⟩; have n0_ : Aside0 (w_21.heap.size ≤ w_22.heap.size) := ⟨Nat.le_trans (below_size bR_) (below_size hb_)⟩; have m0_ := Aside0.mk (Kd.S_below (vS_ HO14.out) hb_); have m1_ := Aside0.mk (Kd.S_below (vS_ HO24.out) hb_); have m2_ := Aside0.mk (Kd.S_below (vS_ HO62.out) hb_); have m3_ := Aside0.mk (below_step bB_ hb_); clear HO14 HO24 HO62 HB; have HZ22 := n0_; have HO14 := m0_; have HO24 := m1_; have HO62 := m2_; have HB := m3_; clear n0_ m0_ m1_ m2_ m3_; (try clear hb_); (try clear hk_); (try clear hw_); (try clear hg_); (try clear hbox_); (try clear ho0_)) | ((with_reducible refine gate_callee (f := 23) rfl ?_); refine gL_ (some 126) Try.func23 #[.slice Ao24 t21.length co24, .int .i64 1] ?_; refine calls_of_args (args' := #[.slice Ao24 t48.length co24, .int .i64 1]) (by simp only [HE50.out]) ?_; (with_reducible refine (laws_heldResS.calls k Ao24 co24 t48 1 t65 _ ?side1 ?side2 FA66.out).mono ?_); (case side1 => repeat (first | (have h_ := Kd.S_reads' HO24.out; rw [HE50.out] at h_; exact h_.2.2) | (with_reducible refine Kd.C_alloc ?_ _) | (with_reducible refine Kd.C_drewN ?_ _) | (with_reducible refine Kd.C_drew ?_))); (case side2 => have h_ := Kd.S_reads' HO24.out; rw [HE50.out] at h_; exact h_.2.1); rintro e w_23 ⟨rfl, hb_⟩; refine ⟨_, rfl, ?_⟩; have n0_ : Aside0 (w_22.heap.size ≤ w_23.heap.size) := ⟨Nat.le_trans (below_size bR_) (below_size hb_)⟩; have m0_ := Aside0.mk (Kd.S_below (vS_ HO24.out) hb_); have m1_ := Aside0.mk (below_step bB_ hb_); clear HO24 HB; have HZ23 := n0_; have HO24 := m0_; have HB := m1_; clear n0_ m0_ m1_; (try clear hb_); (try clear hk_); (try clear hw_); (try clear hg_); (try clear hbox_); (try clear ho0_)))
 go_ret
 exact ⟨rfl, bB_⟩
end Go.Proofs.Ytbgggcgjijljkaa.Q

/- What a reading of a parameter says of its cells, kind by kind: for the rows of laws whose parameters are slices and structs. No condition. -/
namespace Go.Proofs.Ytbgggcgjijljkaa.Op
open Go.RowKit Go.ChangeShapes Go.WideShapes Go.Proofs.YtbgggcgjijljkaaW.PrintWords
def Opens {α H : Type} (enc : TypeId × Value → H) (P : Program) (w : World) (t : TypeId) (d : Kd α) (G : α → Prop) : Prop :=
  ∀ fuel cs x, DataW.trod enc P w 0 (fun _ => true) true fuel t cs = some x → ∃ a, d.K w a cs ∧ G a
section
variable {H : Type} {enc : TypeId × Value → H} {P : Program} {w : World} {t : TypeId}
theorem opens_string (ht : P.underlying t = some .string) : Opens enc P w t Kd.string (fun s => s.size ≤ maxLen) := by
  intro fuel cs x h
  obtain ⟨s, rfl, _, hs⟩ := DataW.trod_string ht h
  exact ⟨s, rfl, hs⟩
theorem opens_bool (ht : P.underlying t = some .bool) : Opens enc P w t Kd.bool (fun _ => True) := by
  intro fuel cs x h
  obtain ⟨s, rfl, _⟩ := DataW.trod_bool ht h
  exact ⟨s, rfl, trivial⟩
theorem opens_int {k : IntKind} (ht : P.underlying t = some (.int k)) : Opens enc P w t (Kd.int k) (fun n => (Lit.int k n).wf = true) := by
  intro fuel cs x h
  obtain ⟨n, rfl, _, hn⟩ := DataW.trod_int ht h
  exact ⟨n, rfl, hn⟩
theorem opens_slice {α : Type} [Inhabited α] {e : TypeId} {d : Kd α} {G : α → Prop} (ht : P.underlying t = some (.slice e)) (hc : P.cellsOf e = d.sz) (he : Opens enc P w e d G) :
    Opens enc P w t (Kd.slice e d) (fun l => l.length ≤ maxLen ∧ ∀ a ∈ l, G a) := by
  intro fuel cs x h
  rcases Go.Deep.open_slice ht h with ⟨rfl, _⟩ | ⟨a, len, cap, m, n, D, Pl, rfl, _, hl, hm, hmm, _, hx⟩
  · exact ⟨[], ⟨none, 0, rfl, Nat.le_refl _, Kd.C_nil d w⟩, by simp, by simp⟩
  · have hm' : m = cap := by simpa using hmm
    have each : ∀ i, i < len → ∃ y : α, G y ∧ ∃ c, d.K w y c ∧ ∀ j u, c[j]? = some u → w.cell? (a.add (i * d.sz + j)) = some u := fun i hi => by
      obtain ⟨cs', h1, h2⟩ := hx i (by omega)
      obtain ⟨y, hK, hG⟩ := he _ _ _ h2
      obtain ⟨_, h3, h4⟩ := World.cells?_some h1
      refine ⟨y, hG, cs', hK, fun j u hu => ?_⟩
      have hj : j < P.cellsOf e := by
        have := (List.getElem?_eq_some_iff.1 hu).1
        omega
      have h5 := h4 j hj
      rw [Go.Deep.add_add, hc, hu] at h5
      exact h5
    obtain ⟨f, hf⟩ := Go.Deep.choose_lt each
    have hmax : maxLen = 9223372036854775807 := by decide
    refine ⟨(List.range len).map f, ⟨some a, cap, by simp, by simpa using hl, ?_⟩, by simp; omega, ?_⟩
    · refine ⟨rfl, by simp; omega, fun _ => ⟨a, rfl, fun j p hj => ?_⟩⟩
      have hjl : j < len := by
        have := (List.getElem?_eq_some_iff.1 hj).1
        simpa using this
      have hp : f j = p := by
        rw [List.getElem?_map, List.getElem?_range hjl] at hj
        simpa using hj
      obtain ⟨_, c, hK, hcell⟩ := hf j hjl
      exact ⟨c, d.K_len hK, hp ▸ hK, hcell⟩
    · intro y hy
      obtain ⟨j, hj, rfl⟩ := List.mem_map.1 hy
      exact (hf j (List.mem_range.1 hj)).1
end
end Go.Proofs.Ytbgggcgjijljkaa.Op

/- What a reading of a struct says of its cells. No condition. -/
namespace Go.Proofs.Ytbgggcgjijljkaa.Q
open Go.RowKit Go.ChangeShapes Go.WideShapes Go.Proofs.YtbgggcgjijljkaaW.PrintWords Go.Proofs.Ytbgggcgjijljkaa
set_option linter.unusedVariables false
set_option linter.unusedSimpArgs false
theorem len3 {α : Type} {cs : List α} (h : cs.length = 3) : ∃ c0 c1 c2, cs = [c0, c1, c2] := by
  match cs, h with
  | [c0, c1, c2], _ => exact ⟨_, _, _, rfl⟩
theorem len5 {α : Type} {cs : List α} (h : cs.length = 5) : ∃ c0 c1 c2 c3 c4, cs = [c0, c1, c2, c3, c4] := by
  match cs, h with
  | [c0, c1, c2, c3, c4], _ => exact ⟨_, _, _, _, _, rfl⟩
instance : Inhabited S88 := ⟨z88⟩
instance : Inhabited S79 := ⟨z79⟩
instance : Inhabited S90 := ⟨z90⟩
def G88 (x : S88) : Prop := (fun s : ByteArray => s.size ≤ maxLen) x.f0 ∧ (fun s : ByteArray => s.size ≤ maxLen) x.f1 ∧ (fun s : ByteArray => s.size ≤ maxLen) x.f2
theorem opens88 {H : Type} {enc : TypeId × Value → H} {w : World} : Op.Opens enc Try.prog w 88 k88 G88 := by
  intro fuel cs x h
  obtain ⟨xs, n, _, _, hl, hlen, hf⟩ := DataW.trod_struct Try.underlying88 h
  replace hl : cs.length = 3 := hl.trans (by kernel_rfl)
  replace hlen : xs.length = 3 := hlen.trans (by kernel_rfl)
  obtain ⟨c0, c1, c2, rfl⟩ := len3 hl
  have hc9_ : Try.prog.cellsOf 9 = 1 := by kernel_rfl
  obtain ⟨a0, k0_, g0_⟩ : ∃ a, Kd.string.K w a [c0] ∧ (fun s : ByteArray => s.size ≤ maxLen) a := by
    have h1 : DataW.trod enc Try.prog w 0 (fun _ => true) true n 9 (([c0, c1, c2].drop 0).take (Try.prog.cellsOf 9)) = xs[0]? := hf 0 _ rfl
    have hlt : 0 < xs.length := by omega
    rw [List.getElem?_eq_getElem hlt] at h1
    simp only [hc9_, List.drop_zero, List.drop_succ_cons, List.take_succ_cons, List.take_zero] at h1
    exact (Op.opens_string Try.underlying9) n [c0] _ h1
  obtain ⟨a1, k1_, g1_⟩ : ∃ a, Kd.string.K w a [c1] ∧ (fun s : ByteArray => s.size ≤ maxLen) a := by
    have h1 : DataW.trod enc Try.prog w 0 (fun _ => true) true n 9 (([c0, c1, c2].drop 1).take (Try.prog.cellsOf 9)) = xs[1]? := hf 1 _ rfl
    have hlt : 1 < xs.length := by omega
    rw [List.getElem?_eq_getElem hlt] at h1
    simp only [hc9_, List.drop_zero, List.drop_succ_cons, List.take_succ_cons, List.take_zero] at h1
    exact (Op.opens_string Try.underlying9) n [c1] _ h1
  obtain ⟨a2, k2_, g2_⟩ : ∃ a, Kd.string.K w a [c2] ∧ (fun s : ByteArray => s.size ≤ maxLen) a := by
    have h1 : DataW.trod enc Try.prog w 0 (fun _ => true) true n 9 (([c0, c1, c2].drop 2).take (Try.prog.cellsOf 9)) = xs[2]? := hf 2 _ rfl
    have hlt : 2 < xs.length := by omega
    rw [List.getElem?_eq_getElem hlt] at h1
    simp only [hc9_, List.drop_zero, List.drop_succ_cons, List.take_succ_cons, List.take_zero] at h1
    exact (Op.opens_string Try.underlying9) n [c2] _ h1
  exact ⟨⟨a0, a1, a2⟩, ⟨[c0], [c1, c2], rfl, k0_, ⟨[c1], [c2], rfl, k1_, k2_⟩⟩, ⟨g0_, g1_, g2_⟩⟩
def G79 (x : S79) : Prop := (fun l : List ByteArray => l.length ≤ maxLen ∧ ∀ a ∈ l, (fun s : ByteArray => s.size ≤ maxLen) a) x.f0 ∧ (fun _ : Bool => True) x.f1 ∧ (fun s : ByteArray => s.size ≤ maxLen) x.f2 ∧ (fun x : Int => (Lit.int .i64 x).wf = true) x.f3 ∧ (fun l : List (S88) => l.length ≤ maxLen ∧ ∀ a ∈ l, G88 a) x.f4
theorem opens79 {H : Type} {enc : TypeId × Value → H} {w : World} : Op.Opens enc Try.prog w 79 k79 G79 := by
  intro fuel cs x h
  obtain ⟨xs, n, _, _, hl, hlen, hf⟩ := DataW.trod_struct Try.underlying79 h
  replace hl : cs.length = 5 := hl.trans (by kernel_rfl)
  replace hlen : xs.length = 5 := hlen.trans (by kernel_rfl)
  obtain ⟨c0, c1, c2, c3, c4, rfl⟩ := len5 hl
  have hc23_ : Try.prog.cellsOf 23 = 1 := by kernel_rfl
  have hc4_ : Try.prog.cellsOf 4 = 1 := by kernel_rfl
  have hc9_ : Try.prog.cellsOf 9 = 1 := by kernel_rfl
  have hc3_ : Try.prog.cellsOf 3 = 1 := by kernel_rfl
  have hc77_ : Try.prog.cellsOf 77 = 1 := by kernel_rfl
  obtain ⟨a0, k0_, g0_⟩ : ∃ a, (Kd.slice 9 Kd.string).K w a [c0] ∧ (fun l : List ByteArray => l.length ≤ maxLen ∧ ∀ a ∈ l, (fun s : ByteArray => s.size ≤ maxLen) a) a := by
    have h1 : DataW.trod enc Try.prog w 0 (fun _ => true) true n 23 (([c0, c1, c2, c3, c4].drop 0).take (Try.prog.cellsOf 23)) = xs[0]? := hf 0 _ rfl
    have hlt : 0 < xs.length := by omega
    rw [List.getElem?_eq_getElem hlt] at h1
    simp only [hc23_, List.drop_zero, List.drop_succ_cons, List.take_succ_cons, List.take_zero] at h1
    exact (Op.opens_slice Try.underlying23 (by kernel_rfl) (Op.opens_string Try.underlying9)) n [c0] _ h1
  obtain ⟨a1, k1_, g1_⟩ : ∃ a, Kd.bool.K w a [c1] ∧ (fun _ : Bool => True) a := by
    have h1 : DataW.trod enc Try.prog w 0 (fun _ => true) true n 4 (([c0, c1, c2, c3, c4].drop 1).take (Try.prog.cellsOf 4)) = xs[1]? := hf 1 _ rfl
    have hlt : 1 < xs.length := by omega
    rw [List.getElem?_eq_getElem hlt] at h1
    simp only [hc4_, List.drop_zero, List.drop_succ_cons, List.take_succ_cons, List.take_zero] at h1
    exact (Op.opens_bool Try.underlying4) n [c1] _ h1
  obtain ⟨a2, k2_, g2_⟩ : ∃ a, Kd.string.K w a [c2] ∧ (fun s : ByteArray => s.size ≤ maxLen) a := by
    have h1 : DataW.trod enc Try.prog w 0 (fun _ => true) true n 9 (([c0, c1, c2, c3, c4].drop 2).take (Try.prog.cellsOf 9)) = xs[2]? := hf 2 _ rfl
    have hlt : 2 < xs.length := by omega
    rw [List.getElem?_eq_getElem hlt] at h1
    simp only [hc9_, List.drop_zero, List.drop_succ_cons, List.take_succ_cons, List.take_zero] at h1
    exact (Op.opens_string Try.underlying9) n [c2] _ h1
  obtain ⟨a3, k3_, g3_⟩ : ∃ a, (Kd.int .i64).K w a [c3] ∧ (fun x : Int => (Lit.int .i64 x).wf = true) a := by
    have h1 : DataW.trod enc Try.prog w 0 (fun _ => true) true n 3 (([c0, c1, c2, c3, c4].drop 3).take (Try.prog.cellsOf 3)) = xs[3]? := hf 3 _ rfl
    have hlt : 3 < xs.length := by omega
    rw [List.getElem?_eq_getElem hlt] at h1
    simp only [hc3_, List.drop_zero, List.drop_succ_cons, List.take_succ_cons, List.take_zero] at h1
    exact (Op.opens_int Try.underlying3) n [c3] _ h1
  obtain ⟨a4, k4_, g4_⟩ : ∃ a, (Kd.slice 88 k88).K w a [c4] ∧ (fun l : List (S88) => l.length ≤ maxLen ∧ ∀ a ∈ l, G88 a) a := by
    have h1 : DataW.trod enc Try.prog w 0 (fun _ => true) true n 77 (([c0, c1, c2, c3, c4].drop 4).take (Try.prog.cellsOf 77)) = xs[4]? := hf 4 _ rfl
    have hlt : 4 < xs.length := by omega
    rw [List.getElem?_eq_getElem hlt] at h1
    simp only [hc77_, List.drop_zero, List.drop_succ_cons, List.take_succ_cons, List.take_zero] at h1
    exact (Op.opens_slice Try.underlying77 (by kernel_rfl) opens88) n [c4] _ h1
  exact ⟨⟨a0, a1, a2, a3, a4⟩, ⟨[c0], [c1, c2, c3, c4], rfl, k0_, ⟨[c1], [c2, c3, c4], rfl, k1_, ⟨[c2], [c3, c4], rfl, k2_, ⟨[c3], [c4], rfl, k3_, k4_⟩⟩⟩⟩, ⟨g0_, g1_, g2_, g3_, g4_⟩⟩
end Go.Proofs.Ytbgggcgjijljkaa.Q

/- Small lemmas for plain laws over rounds: indices as lengths of what was passed, bytes' equality. No condition. -/
set_option linter.unusedSimpArgs false
set_option linter.unusedVariables false
namespace Go.Proofs.Ytbgggcgjijljkaa.L
open Go.RowKit Go.Proofs.YtbgggcgjijljkaaW.PrintWords Go.Proofs.YtbgggcgjijljkaaW.PrintLast
theorem ba_toList (s : ByteArray) : s.toList = s.data.toList := ByteArray.toList_eq s
theorem ba_inj {a b : ByteArray} (h : a.toList = b.toList) : a = b := by
  rw [ba_toList, ba_toList] at h
  cases a with | mk x => cases b with | mk y => congr 1; exact Array.toList_inj.1 h
theorem ba_eq {a b : ByteArray} : (a.toList = b.toList) = (a = b) := propext ⟨ba_inj, fun h => by rw [h]⟩
theorem maxLen_eq : maxLen = 9223372036854775807 := by decide
theorem wrap_id {x : Int} (h0 : -9223372036854775808 ≤ x) (h1 : x < 9223372036854775808) : wrap64 x = x := by
  unfold wrap64
  omega
section
variable {α : Type} {l pre suf : List α} {a : α}
theorem lt_at (h : l = pre ++ a :: suf) : ((pre.length : Nat) : Int) < (l.length : Int) := by subst h; simp; omega
theorem rd_at (d : α) (h : l = pre ++ a :: suf) : rdOf d l (pre.length : Int) = a := by subst h; simp [rdOf, List.getD_eq_getElem?_getD]
theorem getD_at (d : α) (h : l = pre ++ a :: suf) : l.getD ((pre.length : Nat) : Int).toNat d = a := by subst h; simp [List.getD_eq_getElem?_getD]
theorem next_at (h : l = pre ++ a :: suf) (hl : l.length ≤ maxLen) : wrap64 ((pre.length : Int) + 1) = ((pre ++ [a]).length : Int) := by
  have : l.length = pre.length + 1 + suf.length := by subst h; simp; omega
  rw [maxLen_eq] at hl
  rw [wrap_id (by omega) (by omega)]
  simp
theorem snoc_at (h : l = pre ++ a :: suf) : l = (pre ++ [a]) ++ suf := by subst h; simp
theorem end_at (h : l = pre ++ []) : ¬ ((pre.length : Nat) : Int) < (l.length : Int) := by subst h; simp
theorem set_at {b : α} (h : l = pre ++ a :: suf) : l.set ((pre.length : Nat) : Int).toNat b = (pre ++ [b]) ++ suf := by subst h; simp
theorem nonneg_at (n : Nat) : (0 : Int) ≤ (n : Int) := Int.natCast_nonneg n
end
def Sz (g : Nat → Option Int) (n : Int) (P : Prop) : Prop := Ev g (-1) ∨ ∃ m : Int, 0 ≤ m ∧ m ≤ n ∧ Ev g m ∧ P
theorem Sz.bind {g : Nat → Option Int} {f : Nat → Int → Option Int} {n : Int} {P Q : Prop} (h : Sz g n P) (hk : ∀ m, 0 ≤ m → m ≤ n → P → Sz (fun k => f k m) m Q) (hneg : Ev (fun k => f k (-1)) (-1)) : Sz (fun k => (g k).bind (f k)) n Q := by
  rcases h with h | ⟨m, h0, h1, h, hP⟩
  · exact .inl (Ev.bind h hneg)
  · rcases hk m h0 h1 hP with h2 | ⟨m', h0', h1', h2, hQ⟩
    · exact .inl (Ev.bind h h2)
    · exact .inr ⟨m', h0', by omega, Ev.bind h h2, hQ⟩
theorem Sz.sub {f : Nat → Option Int} {n c : Int} {Q : Prop} (hc : 0 ≤ c) (hk : c ≤ n → Sz f (n - c) Q) : Sz (fun k => if n - c < 0 then some (-1) else f k) n Q := by
  by_cases h : n - c < 0
  · simp only [if_pos h]; exact .inl (Ev.now _)
  · simp only [if_neg h]
    rcases hk (by omega) with h2 | ⟨m, h0, h1, h2, hQ⟩
    · exact .inl h2
    · exact .inr ⟨m, h0, by omega, h2, hQ⟩
theorem Sz.ev {α : Type} {g : Nat → Option Int} {f : Nat → Int → Option α} {n : Int} {P : Prop} {r : α} (h : Sz g n P) (hneg : Ev (fun k => f k (-1)) r) (hk : ∀ m, 0 ≤ m → m ≤ n → P → Ev (fun k => f k m) r) : Ev (fun k => (g k).bind (f k)) r := by
  rcases h with h | ⟨m, h0, h1, h, hP⟩
  · exact Ev.bind h hneg
  · exact Ev.bind h (hk m h0 h1 hP)
def IntOk (x : Int) : Prop := -9223372036854775808 ≤ x ∧ x < 9223372036854775808
theorem wf_int {x : Int} (h : (Lit.int .i64 x).wf = true) : IntOk x := by
  unfold Lit.wf at h
  rw [Bool.and_eq_true, decide_eq_true_eq, decide_eq_true_eq] at h
  have h1 : IntKind.i64.min = -9223372036854775808 := by decide
  have h2 : IntKind.i64.max = 9223372036854775807 := by decide
  rw [h1, h2] at h
  exact ⟨h.1, by omega⟩
def SmS (l : List ByteArray) : Prop := l.length ≤ 1048576 ∧ ∀ s ∈ l, s.size ≤ 1048576
theorem sz_loop {α : Type} {l : List α} {P : α → Prop} (g : Nat → Int → Int → Option Int)
    (hend : ∀ n, Ev (fun k => g k n l.length) n)
    (hstep : ∀ pre a suf n, l = pre ++ a :: suf → 0 ≤ n → n ≤ 1048576 → Ev (fun k => g k n (pre.length : Int)) (-1) ∨ ∃ m, 0 ≤ m ∧ m ≤ n ∧ P a ∧ ∀ r, Ev (fun k => g k m ((pre ++ [a]).length : Int)) r → Ev (fun k => g k n (pre.length : Int)) r) :
    ∀ (suf pre : List α) (n : Int), l = pre ++ suf → 0 ≤ n → n ≤ 1048576 → Sz (fun k => g k n (pre.length : Int)) n (∀ a ∈ suf, P a) := by
  intro suf
  induction suf with
  | nil =>
    intro pre n h h0 h1
    have := hend n
    rw [h, List.append_nil] at this
    exact .inr ⟨n, h0, Int.le_refl _, this, by simp⟩
  | cons a suf ih =>
    intro pre n h h0 h1
    rcases hstep pre a suf n h h0 h1 with h2 | ⟨m, hm0, hm1, hP, hr⟩
    · exact .inl h2
    · rcases ih (pre ++ [a]) m (snoc_at h) hm0 (by omega) with h3 | ⟨m', hm0', hm1', h3, h4⟩
      · exact .inl (hr _ h3)
      · exact .inr ⟨m', hm0', by omega, hr _ h3, fun x hx => by
          rcases List.mem_cons.1 hx with rfl | hx
          · exact hP
          · exact h4 x hx⟩
theorem to_loop {α β : Type} {l : List α} {f : α → β} (g : Nat → List β → Int → Option (List β))
    (hend : ∀ out, Ev (fun k => g k out l.length) out)
    (hstep : ∀ pre a suf (out : List β), l = pre ++ a :: suf → ((pre.length : Nat) : Int) < (out.length : Int) → ∀ r, Ev (fun k => g k (out.set ((pre.length : Nat) : Int).toNat (f a)) ((pre ++ [a]).length : Int)) r → Ev (fun k => g k out (pre.length : Int)) r) :
    ∀ (suf pre : List α) (out rest : List β), l = pre ++ suf → out = pre.map f ++ rest → rest.length = suf.length → Ev (fun k => g k out (pre.length : Int)) (l.map f) := by
  intro suf
  induction suf with
  | nil =>
    intro pre out rest h ho hr
    obtain rfl : rest = [] := by simpa using hr
    have := hend out
    rw [h, List.append_nil] at this ⊢
    rw [ho, List.append_nil] at this ⊢
    exact this
  | cons a suf ih =>
    intro pre out rest h ho hr
    obtain ⟨b, rest, rfl⟩ : ∃ b r, rest = b :: r := by
      cases rest with
      | nil => simp at hr
      | cons b r => exact ⟨b, r, rfl⟩
    have hlen : ((pre.length : Nat) : Int) < (out.length : Int) := by rw [ho]; simp; omega
    refine hstep pre a suf out h hlen _ (ih (pre ++ [a]) _ rest (snoc_at h) ?_ (by simpa using hr))
    rw [ho]
    simp [List.set_append]
theorem eq_loop {α : Type} [DecidableEq α] {a b : List α} (g : Nat → Int → Option Bool)
    (hend : Ev (fun k => g k a.length) true)
    (hstep : ∀ pre x su pre' y sv, a = pre ++ x :: su → b = pre' ++ y :: sv → pre.length = pre'.length → (x ≠ y → Ev (fun k => g k (pre.length : Int)) false) ∧ (x = y → ∀ r, Ev (fun k => g k ((pre ++ [x]).length : Int)) r → Ev (fun k => g k (pre.length : Int)) r)) :
    ∀ (su sv pu pv : List α), a = pu ++ su → b = pv ++ sv → pu.length = pv.length → su.length = sv.length → Ev (fun k => g k (pu.length : Int)) (decide (su = sv)) := by
  intro su
  induction su with
  | nil =>
    intro sv pu pv h h' hp hs
    obtain rfl : sv = [] := by simpa using hs.symm
    rw [h, List.append_nil] at hend
    exact hend
  | cons x su ih =>
    intro sv pu pv h h' hp hs
    cases sv with
    | nil => simp at hs
    | cons y sv =>
      obtain ⟨h1, h2⟩ := hstep pu x su pv y sv h h' hp
      by_cases e : x = y
      · have h3 := h2 e _ (ih sv (pu ++ [x]) (pv ++ [y]) (snoc_at h) (snoc_at h') (by simp [hp]) (by simpa using hs))
        simp only [e, List.cons.injEq, true_and]
        exact h3
      · rw [show decide (x :: su = y :: sv) = false from decide_eq_false (fun h => e (List.cons.inj h).1)]
        exact h1 e
theorem ev_cast {α : Type} {g : Nat → Option α} {r s : α} (h : Ev g r) (e : r = s) : Ev g s := e ▸ h
end Go.Proofs.Ytbgggcgjijljkaa.L

/- Texts byte by byte: plain texts, small names, as the program and the reference have them. No condition. -/
set_option linter.unusedSimpArgs false
set_option linter.unusedVariables false
namespace Go.Proofs.Ytbgggcgjijljkaa.L
open Go.RowKit Go.Proofs.YtbgggcgjijljkaaW.PrintWords Go.Proofs.YtbgggcgjijljkaaW.PrintLast Go.Proofs.Ytbgggcgjijljkaa.Q
abbrev bl (s : ByteArray) : List UInt8 := s.data.toList
theorem bl_len (s : ByteArray) : (bl s).length = s.size := data_length s
section
variable {s : ByteArray} {pre suf : List UInt8} {c : UInt8}
theorem blt_at (h : bl s = pre ++ c :: suf) : ((pre.length : Nat) : Int) < (s.size : Int) := by
  have := bl_len s
  rw [h] at this
  simp at this
  omega
theorem bend_at (h : bl s = pre ++ []) : ¬ ((pre.length : Nat) : Int) < (s.size : Int) := by
  have := bl_len s
  rw [h] at this
  simp at this
  omega
theorem bt_at' (h : bl s = pre ++ c :: suf) : bt s (pre.length : Int) = (c.toNat : Int) := by
  have hlt := blt_at h
  have h2 : pre.length < s.size := by omega
  rw [← bt_at s (pre.length : Int) (by simpa using h2)]
  have h3 : pre.length < (bl s).length := by rw [bl_len]; exact h2
  have h4 : (bl s)[pre.length] = c := by simp [h]
  have h5 : s[pre.length]'h2 = (bl s)[pre.length] := by
    show s.data[pre.length] = _
    simp
  simp only [Int.toNat_natCast, h5, h4]
theorem bnext_at (h : bl s = pre ++ c :: suf) (hs : s.size ≤ maxLen) : wrap64 ((pre.length : Int) + 1) = ((pre ++ [c]).length : Int) := by
  have := blt_at h
  rw [maxLen_eq] at hs
  rw [wrap_id (by omega) (by omega)]
  simp
end
theorem byte_bounds (c : UInt8) : 0 ≤ (c.toNat : Int) ∧ (c.toNat : Int) ≤ 255 := ⟨by omega, by have := c.toNat_lt; omega⟩
theorem wrap_byte (c : UInt8) : wrap64 (c.toNat : Int) = (c.toNat : Int) := wrap_id (by omega) (by have := byte_bounds c; omega)
def inB (lo hi : Int) (c : UInt8) : Bool := decide (lo ≤ (c.toNat : Int) ∧ (c.toNat : Int) ≤ hi)
theorem specIn (a b c : Int) : spec_l1In.f a b c = some (decide (b ≤ a ∧ a ≤ c)) := by
  unfold spec_l1In.f
  by_cases h : a ≥ b
  · rw [if_pos h]; simp [show b ≤ a from h]
  · rw [if_neg h]; simp [show ¬ b ≤ a from h]
theorem implIn (a b c : Int) : impl_in.f a b c = some (decide (b ≤ a ∧ a ≤ c)) := by
  unfold impl_in.f
  by_cases h : a ≥ b
  · rw [if_pos h]; simp [show b ≤ a from h]
  · rw [if_neg h]; simp [show ¬ b ≤ a from h]
theorem implIsPlain (c : UInt8) : impl_isPlain.f (c.toNat : Int) = some (inB 32 126 c) := by
  unfold impl_isPlain.f inB
  by_cases h : (c.toNat : Int) ≥ 32
  · rw [if_pos h]; simp only [show (32 : Int) ≤ c.toNat from h, true_and]
  · rw [if_neg h]; simp only [show ¬ (32 : Int) ≤ c.toNat from h, false_and, decide_false]
theorem implIsSmall (c : UInt8) : impl_isSmall.f (c.toNat : Int) = some (inB 97 122 c) := by
  unfold impl_isSmall.f inB
  by_cases h : (c.toNat : Int) ≥ 97
  · rw [if_pos h]; simp only [show (97 : Int) ≤ c.toNat from h, true_and]
  · rw [if_neg h]; simp only [show ¬ (97 : Int) ≤ c.toNat from h, false_and, decide_false]
theorem implIsDigit (c : UInt8) : impl_isDigit.f (c.toNat : Int) = some (inB 48 57 c) := by
  unfold impl_isDigit.f inB
  by_cases h : (c.toNat : Int) ≥ 48
  · rw [if_pos h]; simp only [show (48 : Int) ≤ c.toNat from h, true_and]
  · rw [if_neg h]; simp only [show ¬ (48 : Int) ≤ c.toNat from h, false_and, decide_false]
theorem specSmall1 (c : UInt8) : spec_l1Small.f (c.toNat : Int) = some (inB 97 122 c) := by
  unfold spec_l1Small.f; rw [wrap_byte, specIn]; rfl
theorem specDigit1 (c : UInt8) : spec_l1Digit.f (c.toNat : Int) = some (inB 48 57 c) := by
  unfold spec_l1Digit.f; rw [wrap_byte, specIn]; rfl
def plainL (l : List UInt8) : Bool := l.all (inB 32 126)
theorem specPlain_loop {s : ByteArray} (hs : s.size ≤ maxLen) : ∀ (suf pre : List UInt8), bl s = pre ++ suf → Ev (fun k => spec_Plain.l0 k s pre.length) (plainL suf) := by
  intro suf
  induction suf with
  | nil =>
    intro pre h
    refine Ev.step (fun k => spec_Plain.l0.eq_2 ..) ?_
    simp only [if_neg (bend_at h)]
    exact Ev.now _
  | cons c suf ih =>
    intro pre h
    refine Ev.step (fun k => spec_Plain.l0.eq_2 ..) ?_
    simp only [if_pos (blt_at h), if_pos (nonneg_at _), bt_at' h, wrap_byte, specIn, Option.bind_some, bnext_at h hs]
    have := ih (pre ++ [c]) (snoc_at h)
    simp only [plainL, List.all_cons, inB] at this ⊢
    by_cases e : (32 : Int) ≤ c.toNat ∧ (c.toNat : Int) ≤ 126
    · simp only [e, and_self, decide_true, if_true, Bool.true_and]
      exact this
    · simp only [e, decide_false, Bool.false_eq_true, if_false, Bool.false_and]
      exact Ev.now _
theorem specPlain {s : ByteArray} (hs : s.size ≤ maxLen) : Ev (fun k => spec_Plain.f k s) (plainL (bl s)) := specPlain_loop hs _ [] rfl
theorem implPlain_loop {s : ByteArray} (hs : s.size ≤ maxLen) : ∀ (suf pre : List UInt8), bl s = pre ++ suf → Ev (fun k => impl_Plain.l0 k s pre.length) (plainL suf) := by
  intro suf
  induction suf with
  | nil =>
    intro pre h
    refine Ev.step (fun k => impl_Plain.l0.eq_2 ..) ?_
    simp only [if_neg (bend_at h)]
    exact Ev.now _
  | cons c suf ih =>
    intro pre h
    refine Ev.step (fun k => impl_Plain.l0.eq_2 ..) ?_
    simp only [if_pos (blt_at h), if_pos (nonneg_at _), bt_at' h, implIsPlain, Option.bind_some, bnext_at h hs]
    have := ih (pre ++ [c]) (snoc_at h)
    simp only [plainL, List.all_cons] at this ⊢
    by_cases e : inB 32 126 c = true
    · simp only [e, if_true, Bool.true_and]
      exact this
    · simp only [e, if_false, Bool.false_and]
      exact Ev.now _
theorem implPlain {s : ByteArray} (hs : s.size ≤ maxLen) : Ev (fun k => impl_Plain.f k s) (plainL (bl s)) := implPlain_loop hs _ [] rfl
def smallL : Bool → List UInt8 → Bool
  | _, [] => true
  | first, c :: l => (inB 97 122 c || (!first && (inB 48 57 c || decide (c = 45)))) && smallL false l
theorem eq45 (c : UInt8) : ((c.toNat : Int) = 45) = (c = 45) := by
  apply propext
  constructor
  · intro h
    apply UInt8.toNat_inj.1
    show c.toNat = 45
    omega
  · rintro rfl
    rfl
def smallName (s : ByteArray) : Bool := smallL true (bl s) && decide (1 ≤ (s.size : Int) ∧ (s.size : Int) ≤ 20)
theorem specSmall_loop {s : ByteArray} (hs : s.size ≤ maxLen) : ∀ (suf pre : List UInt8), bl s = pre ++ suf → Ev (fun k => spec_SmallName.l0 k s pre.length) (smallL (decide (pre = [])) suf && decide (1 ≤ (s.size : Int) ∧ (s.size : Int) ≤ 20)) := by
  intro suf
  induction suf with
  | nil =>
    intro pre h
    refine Ev.step (fun k => spec_SmallName.l0.eq_2 ..) ?_
    simp only [if_neg (bend_at h), specIn, Option.bind_some, smallL, Bool.true_and]
    exact Ev.now _
  | cons c suf ih =>
    intro pre h
    refine Ev.step (fun k => spec_SmallName.l0.eq_2 ..) ?_
    simp only [if_pos (blt_at h), if_pos (nonneg_at _), bt_at' h, specSmall1, specDigit1, Option.bind_some, bnext_at h hs, eq45]
    have := ih (pre ++ [c]) (snoc_at h)
    rw [show decide (pre ++ [c] = []) = false by simp] at this
    simp only [smallL]
    by_cases e : inB 97 122 c = true
    · simp only [e, if_true, Bool.true_or, Bool.true_and]
      exact this
    · simp only [e, Bool.false_eq_true, if_false, Bool.false_or]
      by_cases e0 : pre = []
      · subst e0
        simp only [List.length_nil, Int.natCast_zero, if_true, decide_true, Bool.not_true, Bool.false_and]
        exact Ev.now _
      · have hp : ¬ ((pre.length : Nat) : Int) = 0 := by
          intro h0
          exact e0 (List.eq_nil_of_length_eq_zero (by omega))
        simp only [if_neg hp, e0, decide_false, Bool.not_false, Bool.true_and]
        by_cases e1 : inB 48 57 c = true
        · simp only [e1, if_true, Bool.true_or, Bool.true_and]
          exact this
        · simp only [e1, Bool.false_eq_true, if_false, Bool.false_or]
          by_cases e2 : c = 45
          · simp only [e2, if_true, decide_true, Bool.true_and]
            subst e2
            exact this
          · simp only [e2, if_false, decide_false, Bool.false_and]
            exact Ev.now _
theorem specSmall {s : ByteArray} (hs : s.size ≤ maxLen) : Ev (fun k => spec_SmallName.f k s) (smallName s) := specSmall_loop hs _ [] rfl
theorem implSmall_loop {s : ByteArray} (hs : s.size ≤ maxLen) : ∀ (suf pre : List UInt8), bl s = pre ++ suf → Ev (fun k => impl_SmallName.l0 k s pre.length) (smallL (decide (pre = [])) suf && decide (1 ≤ (s.size : Int) ∧ (s.size : Int) ≤ 20)) := by
  intro suf
  induction suf with
  | nil =>
    intro pre h
    refine Ev.step (fun k => impl_SmallName.l0.eq_2 ..) ?_
    simp only [if_neg (bend_at h), implIn, Option.bind_some, smallL, Bool.true_and]
    exact Ev.now _
  | cons c suf ih =>
    intro pre h
    refine Ev.step (fun k => impl_SmallName.l0.eq_2 ..) ?_
    simp only [if_pos (blt_at h), if_pos (nonneg_at _), bt_at' h, implIsSmall, implIsDigit, Option.bind_some, bnext_at h hs, eq45]
    have := ih (pre ++ [c]) (snoc_at h)
    rw [show decide (pre ++ [c] = []) = false by simp] at this
    simp only [smallL]
    by_cases e : inB 97 122 c = true
    · simp only [e, if_true, Bool.true_or, Bool.true_and]
      exact this
    · simp only [e, Bool.false_eq_true, if_false, Bool.false_or]
      by_cases e0 : pre = []
      · subst e0
        simp only [List.length_nil, Int.natCast_zero, if_true, decide_true, Bool.not_true, Bool.false_and]
        exact Ev.now _
      · have hp : ¬ ((pre.length : Nat) : Int) = 0 := by
          intro h0
          exact e0 (List.eq_nil_of_length_eq_zero (by omega))
        simp only [if_neg hp, e0, decide_false, Bool.not_false, Bool.true_and]
        by_cases e1 : inB 48 57 c = true
        · simp only [e1, if_true, Bool.true_or, Bool.true_and]
          exact this
        · simp only [e1, Bool.false_eq_true, if_false, Bool.false_or]
          by_cases e2 : c = 45
          · simp only [e2, if_true, decide_true, Bool.true_and]
            subst e2
            exact this
          · simp only [e2, if_false, decide_false, Bool.false_and]
            exact Ev.now _
theorem implSmall {s : ByteArray} (hs : s.size ≤ maxLen) : Ev (fun k => impl_SmallName.f k s) (smallName s) := implSmall_loop hs _ [] rfl
end Go.Proofs.Ytbgggcgjijljkaa.L

/- Names and paths: are they right; as the program and the reference have it. No condition. -/
set_option linter.unusedSimpArgs false
set_option linter.unusedVariables false
namespace Go.Proofs.Ytbgggcgjijljkaa.L
open Go.RowKit Go.Proofs.YtbgggcgjijljkaaW.PrintWords Go.Proofs.YtbgggcgjijljkaaW.PrintLast Go.Proofs.Ytbgggcgjijljkaa.Q
theorem indexByte_mem (l : List UInt8) (c : UInt8) : (0 ≤ Lib.indexByte l c) ↔ c ∈ l := by
  induction l with
  | nil => simp [Lib.indexByte]
  | cons b l ih =>
    have hge := Lib.indexByte_ge l c
    unfold Lib.indexByte
    by_cases e : b = c
    · simp [e]
    · have e' : ¬ c = b := fun h => e h.symm
      simp only [beq_iff_eq, e, if_false, List.mem_cons, e', false_or]
      rw [← ih]
      by_cases h : Lib.indexByte l c = -1
      · simp [h]
      · simp only [h, if_false]; omega
theorem ba_toList_eq (s : ByteArray) (l : List UInt8) : (s.toList = l) = (bl s = l) := by rw [ba_toList]
def nameOk (s : ByteArray) : Bool := decide (47 ∉ bl s) && (decide (1 ≤ (s.size : Int) ∧ (s.size : Int) ≤ 8) && (plainL (bl s) && (decide (bl s ≠ [46]) && decide (bl s ≠ [46, 46]))))
theorem eq47 (c : UInt8) : ((c.toNat : Int) = 47) = (c = 47) := by
  apply propext
  constructor
  · intro h
    apply UInt8.toNat_inj.1
    show c.toNat = 47
    omega
  · rintro rfl
    rfl
theorem bne_dec {α : Type} [BEq α] [LawfulBEq α] [DecidableEq α] (a b : α) : (a != b) = decide (a ≠ b) := by
  by_cases e : a = b <;> simp [e]
theorem specNameOk {s : ByteArray} (hs : s.size ≤ 1048576) : Ev (fun k => spec_NameOk.f k s) (nameOk s) := by
  have hm : s.size ≤ maxLen := by rw [maxLen_eq]; omega
  have key : ∀ (suf pre : List UInt8), bl s = pre ++ suf → Ev (fun k => spec_NameOk.l0 k s pre.length) (decide (47 ∉ suf) && (decide (1 ≤ (s.size : Int) ∧ (s.size : Int) ≤ 8) && (plainL (bl s) && (decide (bl s ≠ [46]) && decide (bl s ≠ [46, 46]))))) := by
    intro suf
    induction suf with
    | nil =>
      intro pre h
      refine Ev.step (fun k => spec_NameOk.l0.eq_2 ..) ?_
      simp only [if_neg (bend_at h), specIn, Option.bind_some, List.not_mem_nil, not_false_eq_true, decide_true, Bool.true_and]
      by_cases c0 : 1 ≤ (s.size : Int) ∧ (s.size : Int) ≤ 8
      · simp only [c0, decide_true, if_true, and_self, Bool.true_and]
        refine Ev.bind (specPlain hm) ?_
        by_cases c1 : plainL (bl s) = true
        · simp only [c1, if_true, Bool.true_and, ba_toList_eq, bne_dec, ba_toList]
          by_cases c2 : bl s = [46]
          · simp only [c2, if_true]
            exact Ev.now _
          · simp only [c2, if_false, ne_eq, not_false_eq_true, decide_true, Bool.true_and]
            exact Ev.now _
        · simp only [c1, Bool.false_eq_true, if_false, Bool.false_and]
          exact Ev.now _
      · simp only [c0, decide_false, Bool.false_eq_true, if_false, Bool.false_and]
        exact Ev.now _
    | cons c suf ih =>
      intro pre h
      refine Ev.step (fun k => spec_NameOk.l0.eq_2 ..) ?_
      simp only [if_pos (blt_at h), if_pos (nonneg_at _), bt_at' h, eq47, bnext_at h hm]
      by_cases e : c = 47
      · simp only [e, if_true, List.mem_cons, true_or, not_true_eq_false, decide_false, Bool.false_and]
        exact Ev.now _
      · have e' : ¬ 47 = c := fun h => e h.symm
        simp only [e, if_false, List.mem_cons, e', false_or]
        exact ih (pre ++ [c]) (snoc_at h)
  exact key _ [] rfl
theorem implNameOk {s : ByteArray} (hs : s.size ≤ 1048576) : Ev (fun k => impl_NameOk.f k s) (nameOk s) := by
  have hm : s.size ≤ maxLen := by rw [maxLen_eq]; omega
  unfold impl_NameOk.f nameOk
  simp only [implIn, Option.bind_some]
  by_cases c0 : 1 ≤ (s.size : Int) ∧ (s.size : Int) ≤ 8
  · simp only [c0, decide_true, if_true, and_self, Bool.true_and]
    refine Ev.bind (implPlain hm) ?_
    by_cases c1 : plainL (bl s) = true
    · simp only [c1, if_true, Bool.true_and, strings_Contains.f, Option.bind_some, decide_eq_true_eq, indexByte_mem, ba_toList_eq, bne_dec, ba_toList]
      by_cases c2 : (47 : UInt8) ∈ s.data.toList
      · simp only [c2, if_true, not_true_eq_false, decide_false, Bool.false_and]
        exact Ev.now _
      · simp only [c2, if_false, not_false_eq_true, decide_true, Bool.true_and]
        by_cases c3 : bl s = [46]
        · simp only [c3, if_true]
          exact Ev.now _
        · simp only [c3, if_false, ne_eq, not_false_eq_true, decide_true, Bool.true_and]
          exact Ev.now _
    · simp only [c1, Bool.false_eq_true, if_false, Bool.false_and, Bool.and_false]
      exact Ev.now _
  · simp only [c0, decide_false, Bool.false_eq_true, if_false, Bool.false_and, Bool.and_false]
    exact Ev.now _
def pathOk (p : List ByteArray) : Bool := p.all nameOk && decide ((p.length : Int) ≤ 4)
theorem specPathOk {p : List ByteArray} (hp : SmS p) : Ev (fun k => spec_PathOk.f k p) (pathOk p) := by
  have hl : p.length ≤ maxLen := by have := hp.1; rw [maxLen_eq]; omega
  have key : ∀ (suf pre : List ByteArray), p = pre ++ suf → Ev (fun k => spec_PathOk.l0 k p pre.length) (suf.all nameOk && decide ((p.length : Int) ≤ 4)) := by
    intro suf
    induction suf with
    | nil =>
      intro pre h
      refine Ev.step (fun k => spec_PathOk.l0.eq_2 ..) ?_
      simp only [if_neg (end_at h), List.all_nil, Bool.true_and]
      exact Ev.now _
    | cons a suf ih =>
      intro pre h
      refine Ev.step (fun k => spec_PathOk.l0.eq_2 ..) ?_
      simp only [if_pos (lt_at h), if_pos (nonneg_at _), rd_at _ h, next_at h hl]
      refine Ev.bind (specNameOk (hp.2 a (by rw [h]; simp))) ?_
      simp only [List.all_cons]
      by_cases e : nameOk a = true
      · simp only [e, if_true, Bool.true_and]
        exact ih (pre ++ [a]) (snoc_at h)
      · simp only [e, Bool.false_eq_true, if_false, Bool.false_and]
        exact Ev.now _
  exact key p [] rfl
theorem implPathOk {p : List ByteArray} (hp : SmS p) : Ev (fun k => impl_PathOk.f k p) (pathOk p) := by
  have hl : p.length ≤ maxLen := by have := hp.1; rw [maxLen_eq]; omega
  have key : ∀ (suf pre : List ByteArray), p = pre ++ suf → Ev (fun k => impl_PathOk.l0 k p p (p.length : Int) pre.length) (suf.all nameOk && decide ((p.length : Int) ≤ 4)) := by
    intro suf
    induction suf with
    | nil =>
      intro pre h
      refine Ev.step (fun k => impl_PathOk.l0.eq_2 ..) ?_
      simp only [if_neg (end_at h), List.all_nil, Bool.true_and]
      exact Ev.now _
    | cons a suf ih =>
      intro pre h
      refine Ev.step (fun k => impl_PathOk.l0.eq_2 ..) ?_
      simp only [if_pos (lt_at h), if_pos (nonneg_at _), rd_at _ h, next_at h hl]
      refine Ev.bind (implNameOk (hp.2 a (by rw [h]; simp))) ?_
      simp only [List.all_cons]
      by_cases e : nameOk a = true
      · simp only [e, if_true, Bool.true_and]
        exact ih (pre ++ [a]) (snoc_at h)
      · simp only [e, Bool.false_eq_true, if_false, Bool.false_and]
        exact Ev.now _
  exact key p [] rfl
end Go.Proofs.Ytbgggcgjijljkaa.L

/- A path without its last name; as the program and the reference have it. No condition. -/
set_option linter.unusedSimpArgs false
set_option linter.unusedVariables false
namespace Go.Proofs.Ytbgggcgjijljkaa.L
open Go.RowKit Go.Proofs.YtbgggcgjijljkaaW.PrintWords Go.Proofs.YtbgggcgjijljkaaW.PrintLast Go.Proofs.Ytbgggcgjijljkaa.Q
def above (p : List ByteArray) : List ByteArray := p.take (p.length - 1)
theorem above_wrap {p : List ByteArray} (hp : p.length ≤ 1048576) (h : ¬ (p.length : Int) = 0) : wrap64 ((p.length : Int) - 1) = ((p.length - 1 : Nat) : Int) := by
  rw [wrap_id (by omega) (by omega)]; omega
theorem implCopyPath {p : List ByteArray} (hp : p.length ≤ 1048576) : impl_copyPath.f p = some p := by
  unfold impl_copyPath.f
  rw [if_pos (by simp; omega)]; rfl
theorem specAbove {p : List ByteArray} (hp : p.length ≤ 1048576) : spec_Above.f p = some (above p) := by
  unfold spec_Above.f above
  by_cases h : (p.length : Int) = 0
  · rw [if_pos h]
    have : p = [] := List.eq_nil_of_length_eq_zero (by omega)
    rw [this]; rfl
  · simp only [if_neg h, Option.bind_some, above_wrap hp h, if_pos (Int.natCast_nonneg _), Int.toNat_natCast]
    rw [if_pos (by omega), if_pos (by simp; omega)]; rfl
theorem implAbove {p : List ByteArray} (hp : p.length ≤ 1048576) : impl_Above.f p = some (above p) := by
  unfold impl_Above.f above
  by_cases h : (p.length : Int) = 0
  · rw [if_pos h]
    have : p = [] := List.eq_nil_of_length_eq_zero (by omega)
    rw [this]; rfl
  · simp only [if_neg h, above_wrap hp h, if_pos (Int.natCast_nonneg _), Int.toNat_natCast]
    rw [if_pos (by omega), implCopyPath (by simp; omega)]; rfl
end Go.Proofs.Ytbgggcgjijljkaa.L

/- The laws' own functions over a mirrored struct (Prop): size, copy, equality. No condition. -/
set_option linter.unusedSimpArgs false
set_option linter.unusedVariables false
namespace Go.Proofs.Ytbgggcgjijljkaa.L
open Go.RowKit Go.Proofs.YtbgggcgjijljkaaW.PrintWords Go.Proofs.YtbgggcgjijljkaaW.PrintLast Go.Proofs.Ytbgggcgjijljkaa.Q
instance : DecidableEq S72 := fun a b => if h : a.f0 = b.f0 ∧ a.f1 = b.f1 ∧ a.f2 = b.f2 then .isTrue (by cases a; cases b; simp_all) else .isFalse (fun e => h (by rw [e]; exact ⟨rfl, rfl, rfl⟩))
theorem rd_lawsProp {l pre suf : List S88} {a : S88} (h : l = pre ++ a :: suf) : rd_T88 l (pre.length : Int) = a := getD_at _ h
theorem rd_implProp {l pre suf : List S72} {a : S72} (h : l = pre ++ a :: suf) : rd_T72 l (pre.length : Int) = a := getD_at _ h
def toProp (p : S88) : S72 := ⟨p.f0, p.f1, p.f2⟩
def SmProp (p : S72) : Prop := p.f0.size ≤ 1048576 ∧ p.f1.size ≤ 1048576 ∧ p.f2.size ≤ 1048576
def GGProp (x : S88) : Prop := x.f0.size ≤ maxLen ∧ x.f1.size ≤ maxLen ∧ x.f2.size ≤ maxLen
theorem szProp {p : S88} (hp : GGProp p) {n : Int} (h0 : 0 ≤ n) (h1 : n ≤ 1048576) : Sz (fun k => laws_szProp.f p.f0 p.f1 p.f2 n) n (SmProp (toProp p)) := by
  obtain ⟨g0, g1, g2⟩ := hp
  unfold laws_szProp.f
  have e0 := wrap_id (x := n - (p.f0.size : Int)) (by rw [maxLen_eq] at g0; omega) (by omega)
  simp only [e0]
  refine Sz.sub (by omega) (fun c0 => ?_)
  obtain ⟨n0, hn0⟩ : ∃ m, m = n - (p.f0.size : Int) := ⟨_, rfl⟩
  simp only [← hn0]
  have e1 := wrap_id (x := n0 - (p.f1.size : Int)) (by rw [maxLen_eq] at g1; omega) (by omega)
  simp only [e1]
  refine Sz.sub (by omega) (fun c1 => ?_)
  obtain ⟨n1, hn1⟩ : ∃ m, m = n0 - (p.f1.size : Int) := ⟨_, rfl⟩
  simp only [← hn1]
  have e2 := wrap_id (x := n1 - (p.f2.size : Int)) (by rw [maxLen_eq] at g2; omega) (by omega)
  simp only [e2]
  refine Sz.sub (by omega) (fun c2 => ?_)
  obtain ⟨n2, hn2⟩ : ∃ m, m = n1 - (p.f2.size : Int) := ⟨_, rfl⟩
  simp only [← hn2]
  exact .inr ⟨n2, by omega, by omega, Ev.now _, by show p.f0.size ≤ 1048576; omega, by show p.f1.size ≤ 1048576; omega, by show p.f2.size ≤ 1048576; omega⟩
theorem toProp1 {p : S88} (hp : SmProp (toProp p)) : Ev (fun k => laws_toProp.f p.f0 p.f1 p.f2) (p.f0, p.f1, p.f2) := by
  obtain ⟨g0, g1, g2⟩ := hp
  unfold laws_toProp.f
  exact Ev.now _
theorem eqProp1 {p q : S72} (hp : SmProp p) : Ev (fun k => laws_eqProp.f p.f0 p.f1 p.f2 q.f0 q.f1 q.f2) (decide (p = q)) := by
  obtain ⟨g0, g1, g2⟩ := hp
  unfold laws_eqProp.f
  by_cases e0 : p.f0 = q.f0
  rotate_left
  · rw [show decide (p = q) = false from decide_eq_false (fun h => e0 (by rw [h]))]
    simp only [ba_eq, e0, bne_iff_ne, ne_eq, not_false_eq_true, not_true_eq_false, if_true, if_false]
    exact Ev.now _
  simp only [ba_eq, e0, bne_self_eq_false, Bool.false_eq_true, if_true, if_false]
  by_cases e1 : p.f1 = q.f1
  rotate_left
  · rw [show decide (p = q) = false from decide_eq_false (fun h => e1 (by rw [h]))]
    simp only [ba_eq, e1, bne_iff_ne, ne_eq, not_false_eq_true, not_true_eq_false, if_true, if_false]
    exact Ev.now _
  simp only [ba_eq, e1, bne_self_eq_false, Bool.false_eq_true, if_true, if_false]
  by_cases e2 : p.f2 = q.f2
  rotate_left
  · rw [show decide (p = q) = false from decide_eq_false (fun h => e2 (by rw [h]))]
    simp only [ba_eq, e2, bne_iff_ne, ne_eq, not_false_eq_true, not_true_eq_false, if_true, if_false]
    exact Ev.now _
  simp only [ba_eq, e2, bne_self_eq_false, Bool.false_eq_true, if_true, if_false]
  rw [show decide (p = q) = true from decide_eq_true (by cases p; cases q; simp_all)]
  exact Ev.now _
def SmProps (l : List S72) : Prop := l.length ≤ 1048576 ∧ ∀ p ∈ l, SmProp p
theorem szPropS {l : List S88} (hl : l.length ≤ maxLen) (hs : ∀ s ∈ l, GGProp s) {n : Int} (h0 : 0 ≤ n) (h1 : n ≤ 1048576) : Sz (fun k => laws_szPropS.f k l n) n (SmProps (l.map toProp)) := by
  have hl' := hl
  rw [maxLen_eq] at hl'
  unfold laws_szPropS.f
  simp only [wrap_id (x := n - (l.length : Int)) (by omega) (by omega)]
  refine Sz.sub (by omega) (fun hlt => ?_)
  have key : Sz (fun k => laws_szPropS.l0 k l (n - l.length) 0) (n - l.length) (∀ p ∈ l, SmProp (toProp p)) := by
    refine sz_loop (l := l) (P := fun p => SmProp (toProp p)) (fun k n i => laws_szPropS.l0 k l n i) ?_ ?_ l [] (n - l.length) rfl (by omega) (by omega)
    · intro n
      refine Ev.step (fun k => laws_szPropS.l0.eq_2 ..) ?_
      simp only [Int.lt_irrefl, if_false]
      exact Ev.now _
    · intro pre a suf n h h0 h1
      rcases szProp (hs a (by rw [h]; simp)) h0 h1 with h2 | ⟨m, hm0, hm1, h2, h3⟩
      · left
        refine Ev.step (fun k => laws_szPropS.l0.eq_2 ..) ?_
        simp only [if_pos (lt_at h), if_pos (nonneg_at _), rd_lawsProp h]
        refine Ev.bind h2 ?_
        simp only [show (-1 : Int) < 0 by omega, if_true]
        exact Ev.now _
      · refine .inr ⟨m, hm0, hm1, h3, fun r hr => ?_⟩
        refine Ev.step (fun k => laws_szPropS.l0.eq_2 ..) ?_
        simp only [if_pos (lt_at h), if_pos (nonneg_at _), rd_lawsProp h]
        refine Ev.bind h2 ?_
        simp only [if_neg (show ¬ m < 0 by omega), next_at h hl]
        exact hr
  rcases key with h | ⟨m, hm0, hm1, h2, h3⟩
  · exact .inl h
  · refine .inr ⟨m, hm0, hm1, h2, by simp; omega, fun p hp => ?_⟩
    obtain ⟨q, hq, rfl⟩ := List.mem_map.1 hp
    exact h3 q hq
theorem toPropS {p : List S88} (hp : SmProps (p.map toProp)) : Ev (fun k => laws_toPropS.f k p) (p.map toProp) := by
  obtain ⟨hl0, hs⟩ := hp
  rw [List.length_map] at hl0
  have hl2 : p.length ≤ maxLen := by rw [maxLen_eq]; omega
  unfold laws_toPropS.f
  simp only [if_pos (nonneg_at _), Int.toNat_natCast, if_pos (show p.length ≤ 5864062014805 by omega)]
  refine to_loop (l := p) (f := toProp) (fun k out i => laws_toPropS.l0 k p out i) ?_ ?_ p [] _ (List.replicate p.length z72) rfl rfl (by simp)
  · intro out
    refine Ev.step (fun k => laws_toPropS.l0.eq_2 ..) ?_
    simp only [Int.lt_irrefl, if_false]
    exact Ev.now _
  · intro pre a suf out h ho r hr
    refine Ev.step (fun k => laws_toPropS.l0.eq_2 ..) ?_
    simp only [if_pos (lt_at h), if_pos (nonneg_at _), rd_lawsProp h]
    refine Ev.bind (toProp1 (hs _ (List.mem_map.2 ⟨a, by rw [h]; simp, rfl⟩))) ?_
    simp only [if_pos ho, next_at h hl2]
    exact hr
theorem eqPropS {a b : List S72} (ha : SmProps a) : Ev (fun k => laws_eqPropS.f k a b) (decide (a = b)) := by
  have hl : a.length ≤ maxLen := by have := ha.1; rw [maxLen_eq]; omega
  unfold laws_eqPropS.f
  by_cases e : (a.length : Int) = (b.length : Int)
  · simp only [if_pos e]
    refine eq_loop (a := a) (b := b) (fun k i => laws_eqPropS.l0 k a b i) ?_ ?_ a b [] [] rfl rfl rfl (by omega)
    · refine Ev.step (fun k => laws_eqPropS.l0.eq_2 ..) ?_
      simp only [Int.lt_irrefl, if_false]
      exact Ev.now _
    · intro pre x su pre' y sv h h' hp
      have h3 := rd_implProp h'
      have h4 := lt_at h'
      rw [← hp] at h3 h4
      have h5 := eqProp1 (q := y) (ha.2 x (by rw [h]; simp))
      refine ⟨fun hne => ?_, fun heq r hr => ?_⟩
      · refine Ev.step (fun k => laws_eqPropS.l0.eq_2 ..) ?_
        simp only [if_pos (lt_at h), if_pos (nonneg_at _), if_pos h4, rd_implProp h, h3]
        refine Ev.bind h5 ?_
        simp only [hne, decide_false, Bool.false_eq_true, if_false]
        exact Ev.now _
      · refine Ev.step (fun k => laws_eqPropS.l0.eq_2 ..) ?_
        simp only [if_pos (lt_at h), if_pos (nonneg_at _), if_pos h4, rd_implProp h, h3]
        refine Ev.bind h5 ?_
        simp only [heq, decide_true, if_true, next_at h hl]
        rw [heq] at hr
        exact hr
  · simp only [if_neg e]
    rw [show decide (a = b) = false from decide_eq_false (fun h => e (by rw [h]))]
    exact Ev.now _
end Go.Proofs.Ytbgggcgjijljkaa.L

/- The laws' own functions over lists of texts: their size, their copy, their equality. No condition. -/
set_option linter.unusedSimpArgs false
set_option linter.unusedVariables false
namespace Go.Proofs.Ytbgggcgjijljkaa.L
open Go.RowKit Go.Proofs.YtbgggcgjijljkaaW.PrintWords Go.Proofs.YtbgggcgjijljkaaW.PrintLast Go.Proofs.Ytbgggcgjijljkaa.Q
theorem szS_loop {l : List ByteArray} (hl : l.length ≤ maxLen) (hs : ∀ s ∈ l, s.size ≤ maxLen) : ∀ (suf pre : List ByteArray) (n : Int), l = pre ++ suf → 0 ≤ n → n ≤ 1048576 →
    Ev (fun k => laws_szStringS.l0 k l n pre.length) (-1) ∨ ∃ m : Int, 0 ≤ m ∧ m ≤ n ∧ Ev (fun k => laws_szStringS.l0 k l n pre.length) m ∧ ∀ s ∈ suf, (s.size : Int) ≤ n := by
  intro suf
  induction suf with
  | nil =>
    intro pre n h h0 h1
    refine .inr ⟨n, h0, Int.le_refl _, Ev.step (fun k => laws_szStringS.l0.eq_2 ..) ?_, by simp⟩
    simp only [if_neg (end_at h)]
    exact Ev.now _
  | cons a suf ih =>
    intro pre n h h0 h1
    have ha : a.size ≤ maxLen := hs a (by rw [h]; simp)
    rw [maxLen_eq] at ha
    have hw : wrap64 (n - (a.size : Int)) = n - a.size := wrap_id (by omega) (by omega)
    by_cases hlt : n - (a.size : Int) < 0
    · left
      refine Ev.step (fun k => laws_szStringS.l0.eq_2 ..) ?_
      simp only [if_pos (lt_at h), if_pos (nonneg_at _), rd_at _ h, hw, if_pos hlt]
      exact Ev.now _
    · have st : ∀ r, Ev (fun k => laws_szStringS.l0 k l (n - a.size) (pre ++ [a]).length) r → Ev (fun k => laws_szStringS.l0 k l n pre.length) r := fun r hr => by
        refine Ev.step (fun k => laws_szStringS.l0.eq_2 ..) ?_
        simp only [if_pos (lt_at h), if_pos (nonneg_at _), rd_at _ h, hw, if_neg hlt, next_at h hl]
        exact hr
      rcases ih (pre ++ [a]) (n - a.size) (snoc_at h) (by omega) (by omega) with h2 | ⟨m, hm0, hm1, h2, h3⟩
      · exact .inl (st _ h2)
      · refine .inr ⟨m, hm0, by omega, st _ h2, fun s hs' => ?_⟩
        rcases List.mem_cons.1 hs' with rfl | hs'
        · omega
        · have := h3 s hs'
          omega
theorem szS {l : List ByteArray} (hl : l.length ≤ maxLen) (hs : ∀ s ∈ l, s.size ≤ maxLen) {n : Int} (h0 : 0 ≤ n) (h1 : n ≤ 1048576) : Sz (fun k => laws_szStringS.f k l n) n (SmS l) := by
  have hl' := hl
  rw [maxLen_eq] at hl'
  unfold laws_szStringS.f
  simp only [wrap_id (x := n - (l.length : Int)) (by omega) (by omega)]
  refine Sz.sub (by omega) (fun hlt => ?_)
  rcases szS_loop hl hs l [] (n - l.length) rfl (by omega) (by omega) with h | ⟨m, hm0, hm1, h2, h3⟩
  · exact .inl h
  · exact .inr ⟨m, hm0, hm1, h2, by omega, fun s hs' => by have := h3 s hs'; omega⟩
theorem toS_loop {l : List ByteArray} (hl : l.length ≤ maxLen) : ∀ (suf pre rest : List ByteArray), l = pre ++ suf → rest.length = suf.length → Ev (fun k => laws_toStringS.l0 k l (pre ++ rest) pre.length) l := by
  intro suf
  induction suf with
  | nil =>
    intro pre rest h hr
    refine Ev.step (fun k => laws_toStringS.l0.eq_2 ..) ?_
    simp only [if_neg (end_at h)]
    obtain rfl : rest = [] := by simpa using hr
    rw [← h]
    exact Ev.now _
  | cons a suf ih =>
    intro pre rest h hr
    obtain ⟨b, rest, rfl⟩ : ∃ b r, rest = b :: r := by
      cases rest with
      | nil => simp at hr
      | cons b r => exact ⟨b, r, rfl⟩
    refine Ev.step (fun k => laws_toStringS.l0.eq_2 ..) ?_
    have h2 : pre ++ b :: rest = pre ++ b :: rest := rfl
    simp only [if_pos (lt_at h), if_pos (nonneg_at _), rd_at _ h, if_pos (lt_at h2), next_at h hl, set_at h2]
    exact ih (pre ++ [a]) rest (snoc_at h) (by simpa using hr)
theorem toS {l : List ByteArray} (hl : (l.length : Int) ≤ 1048576) : Ev (fun k => laws_toStringS.f k l) l := by
  unfold laws_toStringS.f
  simp only [if_pos (nonneg_at _), Int.toNat_natCast, if_pos (show l.length ≤ 17592186044416 by omega)]
  have := toS_loop (l := l) (by rw [maxLen_eq]; omega) l [] (List.replicate l.length (⟨#[]⟩ : ByteArray)) rfl (by simp)
  simpa using this
theorem eqS_loop {a b : List ByteArray} (hl : a.length ≤ maxLen) : ∀ (su sv pu pv : List ByteArray), a = pu ++ su → b = pv ++ sv → pu.length = pv.length → su.length = sv.length →
    Ev (fun k => laws_eqStringS.l0 k a b pu.length) (decide (su = sv)) := by
  intro su
  induction su with
  | nil =>
    intro sv pu pv h h' hp hs
    obtain rfl : sv = [] := by simpa using hs.symm
    refine Ev.step (fun k => laws_eqStringS.l0.eq_2 ..) ?_
    simp only [if_neg (end_at h)]
    exact Ev.now _
  | cons x su ih =>
    intro sv pu pv h h' hp hs
    cases sv with
    | nil => simp at hs
    | cons y sv =>
      refine Ev.step (fun k => laws_eqStringS.l0.eq_2 ..) ?_
      have h3 := rd_at ByteArray.empty h'
      have h4 := lt_at h'
      rw [← hp] at h3 h4
      by_cases e : x = y
      · subst e
        simp only [if_pos (lt_at h), if_pos (nonneg_at _), if_pos h4, rd_at _ h, h3, if_true, next_at h hl, List.cons.injEq, true_and]
        exact ih sv (pu ++ [x]) (pv ++ [x]) (snoc_at h) (snoc_at h') (by simp [hp]) (by simpa using hs)
      · simp only [if_pos (lt_at h), if_pos (nonneg_at _), if_pos h4, rd_at _ h, h3, ba_eq, if_neg e, List.cons.injEq, e, false_and, decide_false]
        exact Ev.now _
theorem eqS {a b : List ByteArray} (hl : a.length ≤ maxLen) : Ev (fun k => laws_eqStringS.f k a b) (decide (a = b)) := by
  unfold laws_eqStringS.f
  by_cases e : (a.length : Int) = (b.length : Int)
  · simp only [if_pos e]
    exact eqS_loop hl a b [] [] rfl rfl rfl (by omega)
  · simp only [if_neg e]
    rw [show decide (a = b) = false from decide_eq_false (fun h => e (by rw [h]))]
    exact Ev.now _
end Go.Proofs.Ytbgggcgjijljkaa.L

/- The laws' own functions over a mirrored struct (Res): size, copy, equality. No condition. -/
set_option linter.unusedSimpArgs false
set_option linter.unusedVariables false
namespace Go.Proofs.Ytbgggcgjijljkaa.L
open Go.RowKit Go.Proofs.YtbgggcgjijljkaaW.PrintWords Go.Proofs.YtbgggcgjijljkaaW.PrintLast Go.Proofs.Ytbgggcgjijljkaa.Q
instance : DecidableEq S57 := fun a b => if h : a.f0 = b.f0 ∧ a.f1 = b.f1 ∧ a.f2 = b.f2 ∧ a.f3 = b.f3 ∧ a.f4 = b.f4 then .isTrue (by cases a; cases b; simp_all) else .isFalse (fun e => h (by rw [e]; exact ⟨rfl, rfl, rfl, rfl, rfl⟩))
theorem rd_lawsRes {l pre suf : List S79} {a : S79} (h : l = pre ++ a :: suf) : rd_T79 l (pre.length : Int) = a := getD_at _ h
theorem rd_implRes {l pre suf : List S57} {a : S57} (h : l = pre ++ a :: suf) : rd_T57 l (pre.length : Int) = a := getD_at _ h
def toRes (p : S79) : S57 := ⟨p.f0, p.f1, p.f2, p.f3, p.f4.map toProp⟩
def SmRes (p : S57) : Prop := SmS p.f0 ∧ True ∧ p.f2.size ≤ 1048576 ∧ IntOk p.f3 ∧ SmProps p.f4
def GGRes (x : S79) : Prop := (x.f0.length ≤ maxLen ∧ ∀ s ∈ x.f0, s.size ≤ maxLen) ∧ True ∧ x.f2.size ≤ maxLen ∧ (Lit.int .i64 x.f3).wf = true ∧ (x.f4.length ≤ maxLen ∧ ∀ y ∈ x.f4, GGProp y)
theorem szRes {p : S79} (hp : GGRes p) {n : Int} (h0 : 0 ≤ n) (h1 : n ≤ 1048576) : Sz (fun k => laws_szRes.f k p.f0 p.f1 p.f2 p.f3 p.f4 n) n (SmRes (toRes p)) := by
  obtain ⟨g0, g1, g2, g3, g4⟩ := hp
  unfold laws_szRes.f
  refine Sz.bind (szS g0.1 g0.2 (by omega) (by omega)) (fun n0 a0 b0 s0 => ?_) (by simp only [show (-1 : Int) < 0 by omega, if_true]; exact Ev.now _)
  simp only [if_neg (show ¬ n0 < 0 by omega)]
  have e2 := wrap_id (x := n0 - (p.f2.size : Int)) (by rw [maxLen_eq] at g2; omega) (by omega)
  simp only [e2]
  refine Sz.sub (by omega) (fun c2 => ?_)
  obtain ⟨n2, hn2⟩ : ∃ m, m = n0 - (p.f2.size : Int) := ⟨_, rfl⟩
  simp only [← hn2]
  refine Sz.bind (szPropS g4.1 g4.2 (by omega) (by omega)) (fun n4 a4 b4 s4 => ?_) (by simp only [show (-1 : Int) < 0 by omega, if_true]; exact Ev.now _)
  simp only [if_neg (show ¬ n4 < 0 by omega)]
  exact .inr ⟨n4, by omega, by omega, Ev.now _, s0, trivial, by show p.f2.size ≤ 1048576; omega, wf_int g3, s4⟩
theorem toRes1 {p : S79} (hp : SmRes (toRes p)) : Ev (fun k => laws_toRes.f k p.f0 p.f1 p.f2 p.f3 p.f4) (p.f0, p.f1, p.f2, p.f3, p.f4.map toProp) := by
  obtain ⟨g0, g1, g2, g3, g4⟩ := hp
  unfold laws_toRes.f
  refine Ev.bind (toS (by have := g0.1; simp only [toRes] at this; omega)) ?_
  refine Ev.bind (toPropS (p := p.f4) (by simpa only [toRes] using g4)) ?_
  exact Ev.now _
theorem eqRes1 {p q : S57} (hp : SmRes p) : Ev (fun k => laws_eqRes.f k p.f0 p.f1 p.f2 p.f3 p.f4 q.f0 q.f1 q.f2 q.f3 q.f4) (decide (p = q)) := by
  obtain ⟨g0, g1, g2, g3, g4⟩ := hp
  unfold laws_eqRes.f
  refine Ev.bind (eqS (by have := g0.1; rw [maxLen_eq]; omega)) ?_
  by_cases e0 : p.f0 = q.f0
  rotate_left
  · rw [show decide (p = q) = false from decide_eq_false (fun h => e0 (by rw [h]))]
    simp only [e0, decide_false, Bool.false_eq_true, if_false]
    exact Ev.now _
  simp only [e0, decide_true, if_true]
  by_cases e1 : p.f1 = q.f1
  rotate_left
  · rw [show decide (p = q) = false from decide_eq_false (fun h => e1 (by rw [h]))]
    simp only [ba_eq, e1, bne_iff_ne, ne_eq, not_false_eq_true, not_true_eq_false, if_true, if_false]
    exact Ev.now _
  simp only [ba_eq, e1, bne_self_eq_false, Bool.false_eq_true, if_true, if_false]
  by_cases e2 : p.f2 = q.f2
  rotate_left
  · rw [show decide (p = q) = false from decide_eq_false (fun h => e2 (by rw [h]))]
    simp only [ba_eq, e2, bne_iff_ne, ne_eq, not_false_eq_true, not_true_eq_false, if_true, if_false]
    exact Ev.now _
  simp only [ba_eq, e2, bne_self_eq_false, Bool.false_eq_true, if_true, if_false]
  by_cases e3 : p.f3 = q.f3
  rotate_left
  · rw [show decide (p = q) = false from decide_eq_false (fun h => e3 (by rw [h]))]
    simp only [ba_eq, e3, bne_iff_ne, ne_eq, not_false_eq_true, not_true_eq_false, if_true, if_false]
    exact Ev.now _
  simp only [ba_eq, e3, bne_self_eq_false, Bool.false_eq_true, if_true, if_false]
  refine Ev.bind (eqPropS g4) ?_
  by_cases e4 : p.f4 = q.f4
  rotate_left
  · rw [show decide (p = q) = false from decide_eq_false (fun h => e4 (by rw [h]))]
    simp only [e4, decide_false, Bool.false_eq_true, if_false]
    exact Ev.now _
  simp only [e4, decide_true, if_true]
  rw [show decide (p = q) = true from decide_eq_true (by cases p; cases q; simp_all)]
  exact Ev.now _
def SmRess (l : List S57) : Prop := l.length ≤ 1048576 ∧ ∀ p ∈ l, SmRes p
theorem szResS {l : List S79} (hl : l.length ≤ maxLen) (hs : ∀ s ∈ l, GGRes s) {n : Int} (h0 : 0 ≤ n) (h1 : n ≤ 1048576) : Sz (fun k => laws_szResS.f k l n) n (SmRess (l.map toRes)) := by
  have hl' := hl
  rw [maxLen_eq] at hl'
  unfold laws_szResS.f
  simp only [wrap_id (x := n - (l.length : Int)) (by omega) (by omega)]
  refine Sz.sub (by omega) (fun hlt => ?_)
  have key : Sz (fun k => laws_szResS.l0 k l (n - l.length) 0) (n - l.length) (∀ p ∈ l, SmRes (toRes p)) := by
    refine sz_loop (l := l) (P := fun p => SmRes (toRes p)) (fun k n i => laws_szResS.l0 k l n i) ?_ ?_ l [] (n - l.length) rfl (by omega) (by omega)
    · intro n
      refine Ev.step (fun k => laws_szResS.l0.eq_2 ..) ?_
      simp only [Int.lt_irrefl, if_false]
      exact Ev.now _
    · intro pre a suf n h h0 h1
      rcases szRes (hs a (by rw [h]; simp)) h0 h1 with h2 | ⟨m, hm0, hm1, h2, h3⟩
      · left
        refine Ev.step (fun k => laws_szResS.l0.eq_2 ..) ?_
        simp only [if_pos (lt_at h), if_pos (nonneg_at _), rd_lawsRes h]
        refine Ev.bind h2 ?_
        simp only [show (-1 : Int) < 0 by omega, if_true]
        exact Ev.now _
      · refine .inr ⟨m, hm0, hm1, h3, fun r hr => ?_⟩
        refine Ev.step (fun k => laws_szResS.l0.eq_2 ..) ?_
        simp only [if_pos (lt_at h), if_pos (nonneg_at _), rd_lawsRes h]
        refine Ev.bind h2 ?_
        simp only [if_neg (show ¬ m < 0 by omega), next_at h hl]
        exact hr
  rcases key with h | ⟨m, hm0, hm1, h2, h3⟩
  · exact .inl h
  · refine .inr ⟨m, hm0, hm1, h2, by simp; omega, fun p hp => ?_⟩
    obtain ⟨q, hq, rfl⟩ := List.mem_map.1 hp
    exact h3 q hq
theorem toResS {p : List S79} (hp : SmRess (p.map toRes)) : Ev (fun k => laws_toResS.f k p) (p.map toRes) := by
  obtain ⟨hl0, hs⟩ := hp
  rw [List.length_map] at hl0
  have hl2 : p.length ≤ maxLen := by rw [maxLen_eq]; omega
  unfold laws_toResS.f
  simp only [if_pos (nonneg_at _), Int.toNat_natCast, if_pos (show p.length ≤ 3518437208883 by omega)]
  refine to_loop (l := p) (f := toRes) (fun k out i => laws_toResS.l0 k p out i) ?_ ?_ p [] _ (List.replicate p.length z57) rfl rfl (by simp)
  · intro out
    refine Ev.step (fun k => laws_toResS.l0.eq_2 ..) ?_
    simp only [Int.lt_irrefl, if_false]
    exact Ev.now _
  · intro pre a suf out h ho r hr
    refine Ev.step (fun k => laws_toResS.l0.eq_2 ..) ?_
    simp only [if_pos (lt_at h), if_pos (nonneg_at _), rd_lawsRes h]
    refine Ev.bind (toRes1 (hs _ (List.mem_map.2 ⟨a, by rw [h]; simp, rfl⟩))) ?_
    simp only [if_pos ho, next_at h hl2]
    exact hr
theorem eqResS {a b : List S57} (ha : SmRess a) : Ev (fun k => laws_eqResS.f k a b) (decide (a = b)) := by
  have hl : a.length ≤ maxLen := by have := ha.1; rw [maxLen_eq]; omega
  unfold laws_eqResS.f
  by_cases e : (a.length : Int) = (b.length : Int)
  · simp only [if_pos e]
    refine eq_loop (a := a) (b := b) (fun k i => laws_eqResS.l0 k a b i) ?_ ?_ a b [] [] rfl rfl rfl (by omega)
    · refine Ev.step (fun k => laws_eqResS.l0.eq_2 ..) ?_
      simp only [Int.lt_irrefl, if_false]
      exact Ev.now _
    · intro pre x su pre' y sv h h' hp
      have h3 := rd_implRes h'
      have h4 := lt_at h'
      rw [← hp] at h3 h4
      have h5 := eqRes1 (q := y) (ha.2 x (by rw [h]; simp))
      refine ⟨fun hne => ?_, fun heq r hr => ?_⟩
      · refine Ev.step (fun k => laws_eqResS.l0.eq_2 ..) ?_
        simp only [if_pos (lt_at h), if_pos (nonneg_at _), if_pos h4, rd_implRes h, h3]
        refine Ev.bind h5 ?_
        simp only [hne, decide_false, Bool.false_eq_true, if_false]
        exact Ev.now _
      · refine Ev.step (fun k => laws_eqResS.l0.eq_2 ..) ?_
        simp only [if_pos (lt_at h), if_pos (nonneg_at _), if_pos h4, rd_implRes h, h3]
        refine Ev.bind h5 ?_
        simp only [heq, decide_true, if_true, next_at h hl]
        rw [heq] at hr
        exact hr
  · simp only [if_neg e]
    rw [show decide (a = b) = false from decide_eq_false (fun h => e (by rw [h]))]
    exact Ev.now _
end Go.Proofs.Ytbgggcgjijljkaa.L

/- Paths: are they the same, is one under the other; as the program and the reference have it. No condition. -/
set_option linter.unusedSimpArgs false
set_option linter.unusedVariables false
namespace Go.Proofs.Ytbgggcgjijljkaa.L
open Go.RowKit Go.Proofs.YtbgggcgjijljkaaW.PrintWords Go.Proofs.YtbgggcgjijljkaaW.PrintLast Go.Proofs.Ytbgggcgjijljkaa.Q
theorem specSame {a b : List ByteArray} (hl : a.length ≤ maxLen) : Ev (fun k => spec_SamePath.f k a b) (decide (a = b)) := by
  unfold spec_SamePath.f
  by_cases e : (a.length : Int) = (b.length : Int)
  · simp only [if_pos e]
    refine eq_loop (a := a) (b := b) (fun k i => spec_SamePath.l0 k a b i) ?_ ?_ a b [] [] rfl rfl rfl (by omega)
    · refine Ev.step (fun k => spec_SamePath.l0.eq_2 ..) ?_
      simp only [Int.lt_irrefl, if_false]
      exact Ev.now _
    · intro pre x su pre' y sv h h' hp
      have h3 := rd_at ByteArray.empty h'
      have h4 := lt_at h'
      rw [← hp] at h3 h4
      refine ⟨fun hne => ?_, fun heq r hr => ?_⟩
      · refine Ev.step (fun k => spec_SamePath.l0.eq_2 ..) ?_
        simp only [if_pos (lt_at h), if_pos (nonneg_at _), if_pos h4, rd_at _ h, h3, ba_eq, hne, if_false]
        exact Ev.now _
      · refine Ev.step (fun k => spec_SamePath.l0.eq_2 ..) ?_
        simp only [if_pos (lt_at h), if_pos (nonneg_at _), if_pos h4, rd_at _ h, h3, heq, if_true, next_at h hl]
        rw [heq] at hr
        exact hr
  · simp only [if_neg e]
    rw [show decide (a = b) = false from decide_eq_false (fun h => e (by rw [h]))]
    exact Ev.now _
theorem implSame {a b : List ByteArray} (hl : a.length ≤ maxLen) : Ev (fun k => impl_SamePath.f k a b) (decide (a = b)) := by
  unfold impl_SamePath.f
  by_cases e : (a.length : Int) = (b.length : Int)
  · simp only [if_pos e]
    refine eq_loop (a := a) (b := b) (fun k i => impl_SamePath.l0 k a b (a.length : Int) i) ?_ ?_ a b [] [] rfl rfl rfl (by omega)
    · refine Ev.step (fun k => impl_SamePath.l0.eq_2 ..) ?_
      simp only [Int.lt_irrefl, if_false]
      exact Ev.now _
    · intro pre x su pre' y sv h h' hp
      have h3 := rd_at ByteArray.empty h'
      have h4 := lt_at h'
      rw [← hp] at h3 h4
      refine ⟨fun hne => ?_, fun heq r hr => ?_⟩
      · refine Ev.step (fun k => impl_SamePath.l0.eq_2 ..) ?_
        simp only [if_pos (lt_at h), if_pos (nonneg_at _), if_pos h4, rd_at _ h, h3, ba_eq, hne, if_false]
        exact Ev.now _
      · refine Ev.step (fun k => impl_SamePath.l0.eq_2 ..) ?_
        simp only [if_pos (lt_at h), if_pos (nonneg_at _), if_pos h4, rd_at _ h, h3, heq, if_true, next_at h hl]
        rw [heq] at hr
        exact hr
  · simp only [if_neg e]
    rw [show decide (a = b) = false from decide_eq_false (fun h => e (by rw [h]))]
    exact Ev.now _
end Go.Proofs.Ytbgggcgjijljkaa.L
