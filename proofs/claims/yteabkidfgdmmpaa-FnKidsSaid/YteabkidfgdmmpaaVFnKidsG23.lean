-- PRINTED by print.py (a twelfth state) out of the translation. Not trusted: Lean checks it.
import Derived.Test.YteabkidfgdmmpaaVFnKidsG12
import Derived.Test.YteabkidfgdmmpaaVFnKidsG22
namespace Go.Proofs.Yteabkidfgdmmpaa.Q
open Go.RowKit Go.Proofs.YteabkidfgdmmpaaW.PrintWords Go.Proofs.YteabkidfgdmmpaaW.PrintLast Go.Proofs.YteabkidfgdmmpaaW.PrintMore
attribute [local go_sem] max2_int min2_int max_two min_two max_three min_three max_four min_four   -- for this text's walks alone
set_option linter.unusedVariables false
set_option linter.unusedSimpArgs false
def spec_SamePath.l0 : Nat → List ByteArray → List ByteArray → Int → Option (Bool)
 | 0, _, _, _ => none
 | k + 1, x0, x1, x5 => if x5 < (x0.length : Int) then (if 0 ≤ x5 then (if x5 < (x1.length : Int) then (if (rdOf ByteArray.empty x0 x5).toList = (rdOf ByteArray.empty x1 x5).toList then (spec_SamePath.l0 k x0 x1 (wrap64 (x5 + 1))) else (some false)) else (none)) else (none)) else (some true)
def spec_SamePath.f (k : Nat) (l0 : List ByteArray) (l1 : List ByteArray) : Option (Bool) := if (l0.length : Int) = (l1.length : Int) then (spec_SamePath.l0 k l0 l1 0) else (some false)
set_option maxHeartbeats 8000000 in
set_option maxRecDepth 100000 in
theorem spec_SamePath.calls (k : Nat) (A0 : Option Addr) (c0 : Nat) (l0 : List ByteArray) (A1 : Option Addr) (c1 : Nat) (l1 : List ByteArray) (r : Bool) (w : World) (hr0 : Kd.C Kd.string w A0 l0.length l0) (hc0 : l0.length ≤ c0) (hr1 : Kd.C Kd.string w A1 l1.length l1) (hc1 : l1.length ≤ c1) (h : spec_SamePath.f k l0 l1 = some r) :
 Calls Try.prog 74 #[.slice A0 l0.length c0, .slice A1 l1.length c1] w fun e w' => e = .returned (.bool r) ∧ Drawn0 w w' := by
 have HR0 := Aside0.mk hr0
 have HC0 := Aside0.mk hc0
 clear hr0 hc0
 have HR1 := Aside0.mk hr1
 have HC1 := Aside0.mk hc1
 clear hr1 hc1
 have H : (if (l0.length : Int) = (l1.length : Int) then (spec_SamePath.l0 k l0 l1 0) else (some false)) = some r := h
 clear h
 by_cases c3 : (l0.length : Int) = (l1.length : Int)
 rotate_left
 · rw [if_neg c3] at H
   have c3b0 : ((l0.length : Int) == (l1.length : Int)) = false := beq_eq_false_iff_ne.mpr c3
   have c3b1 : ((l0.length : Int) != (l1.length : Int)) = true := bne_iff_ne.mpr c3
   have c3b2 : (l0.length == l1.length) = false := by first | simpa using c3 | (simp at c3 ⊢; omega)
   obtain rfl := Option.some.inj H
   go_enter Try.func74, Try.ntmps74
   go_wp2
   repeat (go_quiet (fail); try go_wp2)
   go_ret
   exact ⟨rs_, dr_⟩
 rw [if_pos c3] at H
 have c3b0 : ((l0.length : Int) == (l1.length : Int)) = true := beq_iff_eq.mpr c3
 have c3b1 : ((l0.length : Int) != (l1.length : Int)) = false := bne_eq_false_iff_eq.mpr c3
 have c3b2 : (l0.length == l1.length) = true := by first | simpa using c3 | (simp at c3 ⊢; omega)
 clear c3
 have H' := Aside0.mk H
 clear H
 go_enter Try.func74, Try.ntmps74
 go_wp2
 repeat (go_quiet (fail); try go_wp2)
 go_loopg [5] k (fun kq v5 w' => ∃ (x5_1 : Int), v5 = .int .i64 x5_1 ∧ Aside0 (spec_SamePath.l0 kq l0 l1 x5_1 = some r) ∧ Aside0 (kq ≤ k) ∧ Drawn0 w w')
 case atStart => exact ⟨(0), rs_, H', ⟨Nat.le_refl _⟩, dr_⟩
 case round =>
  clear H'
  try clear c1
  try clear p2
  try clear c3
  try clear c3b0
  try clear c3b1
  try clear c3b2
  obtain ⟨x5_1, rfl, HA, HK1, ⟨m1, rfl⟩⟩ := hrel
  cases gk with
  | zero => exact absurd HA.out (by simp [spec_SamePath.l0])
  | succ k1 =>
   have H := HA.out
   clear HA
   simp only [spec_SamePath.l0] at H
   by_cases c4 : x5_1 < (l0.length : Int)
   rotate_left
   · rw [if_neg c4] at H
     have c4b0 : decide (x5_1 < (l0.length : Int)) = false := decide_eq_false c4
     clear c4
     obtain rfl := Option.some.inj H
     go_wp2
     repeat (go_quiet (fail); try go_wp2)
     go_ret
     exact ⟨rs_, dr_⟩
   rw [if_pos c4] at H
   have c4b0 : decide (x5_1 < (l0.length : Int)) = true := decide_eq_true c4
   clear c4
   by_cases c5 : 0 ≤ x5_1
   rotate_left
   · exact absurd H (by rw [if_neg c5]; simp)
   rw [if_pos c5] at H
   have c5b0 : decide (0 ≤ x5_1) = true := decide_eq_true c5
   clear c5
   by_cases c6 : x5_1 < (l1.length : Int)
   rotate_left
   · exact absurd H (by rw [if_neg c6]; simp)
   rw [if_pos c6] at H
   have c6b0 : decide (x5_1 < (l1.length : Int)) = true := decide_eq_true c6
   clear c6
   by_cases c7 : (rdOf ByteArray.empty l0 x5_1).toList = (rdOf ByteArray.empty l1 x5_1).toList
   rotate_left
   · rw [if_neg c7] at H
     have c7b0 : ((rdOf ByteArray.empty l0 x5_1).toList == (rdOf ByteArray.empty l1 x5_1).toList) = false := beq_eq_false_iff_ne.mpr c7
     have c7b1 : ((rdOf ByteArray.empty l0 x5_1).toList != (rdOf ByteArray.empty l1 x5_1).toList) = true := bne_iff_ne.mpr c7
     obtain rfl := Option.some.inj H
     have p332 : 0 ≤ (x5_1 : Int) := of_decide_eq_true as_
     have q332 : x5_1 < (l0.length : Int) := of_decide_eq_true as_
     obtain ⟨ad332, e332, hx332_0⟩ := Kd.at_string HR0.out x5_1 p332 q332
     cases e332
     replace p332 := eq_true p332
     replace q332 := eq_true q332
     have p333 : 0 ≤ (x5_1 : Int) := of_decide_eq_true as_
     have q333 : x5_1 < (l1.length : Int) := of_decide_eq_true as_
     obtain ⟨ad333, e333, hx333_0⟩ := Kd.at_string HR1.out x5_1 p333 q333
     cases e333
     replace p333 := eq_true p333
     replace q333 := eq_true q333
     go_wp2
     repeat (go_quiet (fail); try go_wp2)
     go_ret
     exact ⟨rs_, dr_⟩
   rw [if_pos c7] at H
   have c7b0 : ((rdOf ByteArray.empty l0 x5_1).toList == (rdOf ByteArray.empty l1 x5_1).toList) = true := beq_iff_eq.mpr c7
   have c7b1 : ((rdOf ByteArray.empty l0 x5_1).toList != (rdOf ByteArray.empty l1 x5_1).toList) = false := bne_eq_false_iff_eq.mpr c7
   clear c7
   have H' := Aside0.mk H
   clear H
   have p332 : 0 ≤ (x5_1 : Int) := of_decide_eq_true as_
   have q332 : x5_1 < (l0.length : Int) := of_decide_eq_true as_
   obtain ⟨ad332, e332, hx332_0⟩ := Kd.at_string HR0.out x5_1 p332 q332
   cases e332
   replace p332 := eq_true p332
   replace q332 := eq_true q332
   have p333 : 0 ≤ (x5_1 : Int) := of_decide_eq_true as_
   have q333 : x5_1 < (l1.length : Int) := of_decide_eq_true as_
   obtain ⟨ad333, e333, hx333_0⟩ := Kd.at_string HR1.out x5_1 p333 q333
   cases e333
   replace p333 := eq_true p333
   replace q333 := eq_true q333
   go_wp2
   repeat (go_quiet (fail); try go_wp2)
   go_roundg k1
   case measure => have := HK1.out; omega
   case rel => exact ⟨(wrap64 (x5_1 + 1)), rs_, H', ⟨by have := HK1.out; omega⟩, dr_⟩
def spec_FindRes.l0 : Nat → List (S59) → List ByteArray → Int → Option (Int)
 | 0, _, _, _ => none
 | k + 1, x0, x1, x5 => if x5 < (x0.length : Int) then (if 0 ≤ x5 then ((spec_SamePath.f k ((rd_T59 x0 x5).f0) x1).bind fun t335 => (if t335 = true then (some x5) else (spec_FindRes.l0 k x0 x1 (wrap64 (x5 + 1))))) else (none)) else (some (-1))
def spec_FindRes.f (k : Nat) (l0 : List (S59)) (l1 : List ByteArray) : Option (Int) := spec_FindRes.l0 k l0 l1 0
set_option maxHeartbeats 8000000 in
set_option maxRecDepth 100000 in
theorem spec_FindRes.calls (k : Nat) (A0 : Option Addr) (c0 : Nat) (l0 : List (S59)) (A1 : Option Addr) (c1 : Nat) (l1 : List ByteArray) (r : Int) (w : World) (hr0 : Kd.C k59 w A0 l0.length l0) (hc0 : l0.length ≤ c0) (hr1 : Kd.C Kd.string w A1 l1.length l1) (hc1 : l1.length ≤ c1) (h : spec_FindRes.f k l0 l1 = some r) :
 Calls Try.prog 36 #[.slice A0 l0.length c0, .slice A1 l1.length c1] w fun e w' => e = .returned (.int .i64 r) ∧ Drawn0 w w' := by
 have HR0 := Aside0.mk hr0
 have HC0 := Aside0.mk hc0
 clear hr0 hc0
 have HR1 := Aside0.mk hr1
 have HC1 := Aside0.mk hc1
 clear hr1 hc1
 have H : (spec_FindRes.l0 k l0 l1 0) = some r := h
 clear h
 have H' := Aside0.mk H
 clear H
 go_enter Try.func36, Try.ntmps36
 go_wp2
 go_loopg [5] k (fun kq v5 w' => ∃ (x5_1 : Int), v5 = .int .i64 x5_1 ∧ Aside0 (spec_FindRes.l0 kq l0 l1 x5_1 = some r) ∧ Aside0 (kq ≤ k) ∧ Drawn0 w w')
 case atStart => exact ⟨(0), rs_, H', ⟨Nat.le_refl _⟩, dr_⟩
 case round =>
  clear H'
  try clear c1
  try clear p2
  obtain ⟨x5_1, rfl, HA, HK1, ⟨m1, rfl⟩⟩ := hrel
  cases gk with
  | zero => exact absurd HA.out (by simp [spec_FindRes.l0])
  | succ k1 =>
   have H := HA.out
   clear HA
   simp only [spec_FindRes.l0] at H
   by_cases c3 : x5_1 < (l0.length : Int)
   rotate_left
   · rw [if_neg c3] at H
     have c3b0 : decide (x5_1 < (l0.length : Int)) = false := decide_eq_false c3
     clear c3
     obtain rfl := Option.some.inj H
     go_wp2
     go_ret
     exact ⟨rs_, dr_⟩
   rw [if_pos c3] at H
   have c3b0 : decide (x5_1 < (l0.length : Int)) = true := decide_eq_true c3
   clear c3
   by_cases c4 : 0 ≤ x5_1
   rotate_left
   · exact absurd H (by rw [if_neg c4]; simp)
   rw [if_pos c4] at H
   have c4b0 : decide (0 ≤ x5_1) = true := decide_eq_true c4
   clear c4
   obtain ⟨t335, A5, H⟩ := bo_ H
   (try dsimp only at H)
   by_cases c6 : t335 = true
   · subst c6
     rw [if_pos rfl] at H
     obtain rfl := Option.some.inj H
     have p334 : 0 ≤ (x5_1 : Int) := of_decide_eq_true as_
     have q334 : x5_1 < (l0.length : Int) := of_decide_eq_true as_
     obtain ⟨ad334, A334_0, c334_0, A334_4, c334_4, e334, hx334_0, hx334_1, hx334_2, hx334_3, hx334_4, hl334_0, hi334_0, hl334_4, hi334_4⟩ := at_T59 HR0.out x5_1 p334 q334
     cases e334
     have HR334_0 := Aside0.mk hi334_0
     have HC334_0 := Aside0.mk hl334_0
     clear hi334_0 hl334_0
     have HR334_4 := Aside0.mk hi334_4
     have HC334_4 := Aside0.mk hl334_4
     clear hi334_4 hl334_4
     replace p334 := eq_true p334
     replace q334 := eq_true q334
     go_wp2_with (first | ((with_reducible refine gate_callee (f := 74) rfl ?_); refine gL_ (some 18) Try.func74 #[.slice A334_0 ((rd_T59 l0 x5_1).f0).length c334_0, .slice A1 l1.length c1] ?_; (with_reducible refine (spec_SamePath.calls k1 _ _ ((rd_T59 l0 x5_1).f0) _ _ l1 true _ ?s1 ?s2 ?s3 ?s4 A5.out).mono ?_); (case s1 => exact cC_ HR334_0.out); (case s2 => exact HC334_0.out); (case s3 => exact cC_ HR1.out); (case s4 => exact HC1.out); rintro e w' ⟨rfl, ⟨nd, rfl⟩⟩; refine ⟨_, rfl, ?_⟩))
     go_ret
     exact ⟨rs_, dr_⟩
   · replace c6 := Bool.eq_false_iff.mpr c6
     subst c6
     rw [if_neg nf_] at H
     have H' := Aside0.mk H
     clear H
     have p334 : 0 ≤ (x5_1 : Int) := of_decide_eq_true as_
     have q334 : x5_1 < (l0.length : Int) := of_decide_eq_true as_
     obtain ⟨ad334, A334_0, c334_0, A334_4, c334_4, e334, hx334_0, hx334_1, hx334_2, hx334_3, hx334_4, hl334_0, hi334_0, hl334_4, hi334_4⟩ := at_T59 HR0.out x5_1 p334 q334
     cases e334
     have HR334_0 := Aside0.mk hi334_0
     have HC334_0 := Aside0.mk hl334_0
     clear hi334_0 hl334_0
     have HR334_4 := Aside0.mk hi334_4
     have HC334_4 := Aside0.mk hl334_4
     clear hi334_4 hl334_4
     replace p334 := eq_true p334
     replace q334 := eq_true q334
     go_wp2_with (first | ((with_reducible refine gate_callee (f := 74) rfl ?_); refine gL_ (some 18) Try.func74 #[.slice A334_0 ((rd_T59 l0 x5_1).f0).length c334_0, .slice A1 l1.length c1] ?_; (with_reducible refine (spec_SamePath.calls k1 _ _ ((rd_T59 l0 x5_1).f0) _ _ l1 false _ ?s1 ?s2 ?s3 ?s4 A5.out).mono ?_); (case s1 => exact cC_ HR334_0.out); (case s2 => exact HC334_0.out); (case s3 => exact cC_ HR1.out); (case s4 => exact HC1.out); rintro e w' ⟨rfl, ⟨nd, rfl⟩⟩; refine ⟨_, rfl, ?_⟩))
     go_roundg k1
     case measure => have := HK1.out; omega
     case rel => exact ⟨(wrap64 (x5_1 + 1)), rs_, H', ⟨by have := HK1.out; omega⟩, dr_⟩
def impl_SamePath.l0 : Nat → List ByteArray → List ByteArray → Int → Int → Option (Bool)
 | 0, _, _, _, _ => none
 | k + 1, x0, x1, x12, x13 => if x13 < x12 then (if 0 ≤ x13 then (if x13 < (x0.length : Int) then (if x13 < (x1.length : Int) then (if (rdOf ByteArray.empty x0 x13).toList = (rdOf ByteArray.empty x1 x13).toList then (impl_SamePath.l0 k x0 x1 x12 (wrap64 (x13 + 1))) else (some false)) else (none)) else (none)) else (none)) else (some true)
def impl_SamePath.f (k : Nat) (l0 : List ByteArray) (l1 : List ByteArray) : Option (Bool) := if (l0.length : Int) = (l1.length : Int) then (impl_SamePath.l0 k l0 l1 (l0.length : Int) 0) else (some false)
set_option maxHeartbeats 8000000 in
set_option maxRecDepth 100000 in
theorem impl_SamePath.calls (k : Nat) (A0 : Option Addr) (c0 : Nat) (l0 : List ByteArray) (A1 : Option Addr) (c1 : Nat) (l1 : List ByteArray) (r : Bool) (w : World) (hr0 : Kd.C Kd.string w A0 l0.length l0) (hc0 : l0.length ≤ c0) (hr1 : Kd.C Kd.string w A1 l1.length l1) (hc1 : l1.length ≤ c1) (h : impl_SamePath.f k l0 l1 = some r) :
 Calls Try.prog 53 #[.slice A0 l0.length c0, .slice A1 l1.length c1] w fun e w' => e = .returned (.bool r) ∧ Drawn0 w w' := by
 have HR0 := Aside0.mk hr0
 have HC0 := Aside0.mk hc0
 clear hr0 hc0
 have HR1 := Aside0.mk hr1
 have HC1 := Aside0.mk hc1
 clear hr1 hc1
 have H : (if (l0.length : Int) = (l1.length : Int) then (impl_SamePath.l0 k l0 l1 (l0.length : Int) 0) else (some false)) = some r := h
 clear h
 by_cases c3 : (l0.length : Int) = (l1.length : Int)
 rotate_left
 · rw [if_neg c3] at H
   have c3b0 : ((l0.length : Int) == (l1.length : Int)) = false := beq_eq_false_iff_ne.mpr c3
   have c3b1 : ((l0.length : Int) != (l1.length : Int)) = true := bne_iff_ne.mpr c3
   have c3b2 : (l0.length == l1.length) = false := by first | simpa using c3 | (simp at c3 ⊢; omega)
   obtain rfl := Option.some.inj H
   go_enter Try.func53, Try.ntmps53
   go_wp2
   repeat (go_quiet (fail); try go_wp2)
   go_ret
   exact ⟨rs_, dr_⟩
 rw [if_pos c3] at H
 have c3b0 : ((l0.length : Int) == (l1.length : Int)) = true := beq_iff_eq.mpr c3
 have c3b1 : ((l0.length : Int) != (l1.length : Int)) = false := bne_eq_false_iff_eq.mpr c3
 have c3b2 : (l0.length == l1.length) = true := by first | simpa using c3 | (simp at c3 ⊢; omega)
 clear c3
 have H' := Aside0.mk H
 clear H
 go_enter Try.func53, Try.ntmps53
 go_wp2
 repeat (go_quiet (fail); try go_wp2)
 go_loopg [13] k (fun kq v13 w' => ∃ (x13_1 : Int), v13 = .int .i64 x13_1 ∧ Aside0 (impl_SamePath.l0 kq l0 l1 (l0.length : Int) x13_1 = some r) ∧ Aside0 (kq ≤ k) ∧ Drawn0 w w')
 case atStart => exact ⟨(0), rs_, H', ⟨Nat.le_refl _⟩, dr_⟩
 case round =>
  clear H'
  try clear c1
  try clear p2
  try clear c3
  try clear c3b0
  try clear c3b1
  try clear c3b2
  obtain ⟨x13_1, rfl, HA, HK1, ⟨m1, rfl⟩⟩ := hrel
  cases gk with
  | zero => exact absurd HA.out (by simp [impl_SamePath.l0])
  | succ k1 =>
   have H := HA.out
   clear HA
   simp only [impl_SamePath.l0] at H
   by_cases c4 : x13_1 < (l0.length : Int)
   rotate_left
   · rw [if_neg c4] at H
     have c4b0 : decide (x13_1 < (l0.length : Int)) = false := decide_eq_false c4
     clear c4
     obtain rfl := Option.some.inj H
     go_wp2
     repeat (go_quiet (fail); try go_wp2)
     go_ret
     exact ⟨rs_, dr_⟩
   rw [if_pos c4] at H
   have c4b0 : decide (x13_1 < (l0.length : Int)) = true := decide_eq_true c4
   clear c4
   by_cases c5 : 0 ≤ x13_1
   rotate_left
   · exact absurd H (by rw [if_neg c5]; simp)
   rw [if_pos c5] at H
   have c5b0 : decide (0 ≤ x13_1) = true := decide_eq_true c5
   clear c5
   by_cases c6 : x13_1 < (l0.length : Int)
   rotate_left
   · exact absurd H (by rw [if_neg c6]; simp)
   rw [if_pos c6] at H
   have c6b0 : decide (x13_1 < (l0.length : Int)) = true := decide_eq_true c6
   clear c6
   by_cases c7 : x13_1 < (l1.length : Int)
   rotate_left
   · exact absurd H (by rw [if_neg c7]; simp)
   rw [if_pos c7] at H
   have c7b0 : decide (x13_1 < (l1.length : Int)) = true := decide_eq_true c7
   clear c7
   by_cases c8 : (rdOf ByteArray.empty l0 x13_1).toList = (rdOf ByteArray.empty l1 x13_1).toList
   rotate_left
   · rw [if_neg c8] at H
     have c8b0 : ((rdOf ByteArray.empty l0 x13_1).toList == (rdOf ByteArray.empty l1 x13_1).toList) = false := beq_eq_false_iff_ne.mpr c8
     have c8b1 : ((rdOf ByteArray.empty l0 x13_1).toList != (rdOf ByteArray.empty l1 x13_1).toList) = true := bne_iff_ne.mpr c8
     obtain rfl := Option.some.inj H
     have p336 : 0 ≤ (x13_1 : Int) := of_decide_eq_true as_
     have q336 : x13_1 < (l0.length : Int) := of_decide_eq_true as_
     obtain ⟨ad336, e336, hx336_0⟩ := Kd.at_string HR0.out x13_1 p336 q336
     cases e336
     replace p336 := eq_true p336
     replace q336 := eq_true q336
     have p337 : 0 ≤ (x13_1 : Int) := of_decide_eq_true as_
     have q337 : x13_1 < (l1.length : Int) := of_decide_eq_true as_
     obtain ⟨ad337, e337, hx337_0⟩ := Kd.at_string HR1.out x13_1 p337 q337
     cases e337
     replace p337 := eq_true p337
     replace q337 := eq_true q337
     go_wp2
     repeat (go_quiet (fail); try go_wp2)
     go_ret
     exact ⟨rs_, dr_⟩
   rw [if_pos c8] at H
   have c8b0 : ((rdOf ByteArray.empty l0 x13_1).toList == (rdOf ByteArray.empty l1 x13_1).toList) = true := beq_iff_eq.mpr c8
   have c8b1 : ((rdOf ByteArray.empty l0 x13_1).toList != (rdOf ByteArray.empty l1 x13_1).toList) = false := bne_eq_false_iff_eq.mpr c8
   clear c8
   have H' := Aside0.mk H
   clear H
   have p336 : 0 ≤ (x13_1 : Int) := of_decide_eq_true as_
   have q336 : x13_1 < (l0.length : Int) := of_decide_eq_true as_
   obtain ⟨ad336, e336, hx336_0⟩ := Kd.at_string HR0.out x13_1 p336 q336
   cases e336
   replace p336 := eq_true p336
   replace q336 := eq_true q336
   have p337 : 0 ≤ (x13_1 : Int) := of_decide_eq_true as_
   have q337 : x13_1 < (l1.length : Int) := of_decide_eq_true as_
   obtain ⟨ad337, e337, hx337_0⟩ := Kd.at_string HR1.out x13_1 p337 q337
   cases e337
   replace p337 := eq_true p337
   replace q337 := eq_true q337
   go_wp2
   repeat (go_quiet (fail); try go_wp2)
   go_roundg k1
   case measure => have := HK1.out; omega
   case rel => exact ⟨(wrap64 (x13_1 + 1)), rs_, H', ⟨by have := HK1.out; omega⟩, dr_⟩
def impl_FindRes.l0 : Nat → List ByteArray → List (S59) → Int → Int → Option (Int)
 | 0, _, _, _, _ => none
 | k + 1, x1, x7, x8, x9 => if x9 < x8 then (if 0 ≤ x9 then (if x9 < (x7.length : Int) then ((impl_SamePath.f k ((rd_T59 x7 x9).f0) x1).bind fun t340 => (if t340 = true then (some x9) else (impl_FindRes.l0 k x1 x7 x8 (wrap64 (x9 + 1))))) else (none)) else (none)) else (some (-1))
def impl_FindRes.f (k : Nat) (l0 : List (S59)) (l1 : List ByteArray) : Option (Int) := impl_FindRes.l0 k l1 l0 (l0.length : Int) 0
set_option maxHeartbeats 8000000 in
set_option maxRecDepth 100000 in
theorem impl_FindRes.calls (k : Nat) (A0 : Option Addr) (c0 : Nat) (l0 : List (S59)) (A1 : Option Addr) (c1 : Nat) (l1 : List ByteArray) (r : Int) (w : World) (hr0 : Kd.C k59 w A0 l0.length l0) (hc0 : l0.length ≤ c0) (hr1 : Kd.C Kd.string w A1 l1.length l1) (hc1 : l1.length ≤ c1) (h : impl_FindRes.f k l0 l1 = some r) :
 Calls Try.prog 37 #[.slice A0 l0.length c0, .slice A1 l1.length c1] w fun e w' => e = .returned (.int .i64 r) ∧ Below w.heap.size w w' := by
 have hu59 := Try.underlying59
 have HR0 := Aside0.mk hr0
 have HC0 := Aside0.mk hc0
 clear hr0 hc0
 have HR1 := Aside0.mk hr1
 have HC1 := Aside0.mk hc1
 clear hr1 hc1
 have HB := A_ (Below.refl w.heap.size w)
 have H : (impl_FindRes.l0 k l1 l0 (l0.length : Int) 0) = some r := h
 clear h
 have H' := Aside0.mk H
 clear H
 go_enter Try.func37, Try.ntmps37
 go_wp2
 go_loopg [9] k (fun kq v9 w' => ∃ (x9_1 : Int), v9 = .int .i64 x9_1 ∧ Aside0 (impl_FindRes.l0 kq l1 l0 (l0.length : Int) x9_1 = some r) ∧ Aside0 (kq ≤ k) ∧ Aside0 (Below w.heap.size w w'))
 case atStart => exact ⟨(0), rs_, H', ⟨Nat.le_refl _⟩, ⟨bB_⟩⟩
 case round =>
  clear H'
  try clear c1
  try clear p2
  obtain ⟨x9_1, rfl, HA, HK1, HB⟩ := hrel
  cases gk with
  | zero => exact absurd HA.out (by simp [impl_FindRes.l0])
  | succ k1 =>
   have H := HA.out
   clear HA
   simp only [impl_FindRes.l0] at H
   by_cases c3 : x9_1 < (l0.length : Int)
   rotate_left
   · rw [if_neg c3] at H
     have c3b0 : decide (x9_1 < (l0.length : Int)) = false := decide_eq_false c3
     clear c3
     obtain rfl := Option.some.inj H
     go_wp2
     go_ret
     exact ⟨rr_, bB_⟩
   rw [if_pos c3] at H
   have c3b0 : decide (x9_1 < (l0.length : Int)) = true := decide_eq_true c3
   clear c3
   by_cases c4 : 0 ≤ x9_1
   rotate_left
   · exact absurd H (by rw [if_neg c4]; simp)
   rw [if_pos c4] at H
   have c4b0 : decide (0 ≤ x9_1) = true := decide_eq_true c4
   clear c4
   by_cases c5 : x9_1 < (l0.length : Int)
   rotate_left
   · exact absurd H (by rw [if_neg c5]; simp)
   rw [if_pos c5] at H
   have c5b0 : decide (x9_1 < (l0.length : Int)) = true := decide_eq_true c5
   clear c5
   obtain ⟨t340, A6, H⟩ := bo_ H
   (try dsimp only at H)
   by_cases c7 : t340 = true
   · subst c7
     rw [if_pos rfl] at H
     obtain rfl := Option.some.inj H
     have p338 : 0 ≤ (x9_1 : Int) := of_decide_eq_true as_
     have q338 : x9_1 < (l0.length : Int) := of_decide_eq_true as_
     obtain ⟨ad338, A338_0, c338_0, A338_4, c338_4, e338, hx338_0, hx338_1, hx338_2, hx338_3, hx338_4, hl338_0, hi338_0, hl338_4, hi338_4⟩ := at_T59 HR0.out x9_1 p338 q338
     cases e338
     replace hx338_0 := bc_ HB.out hx338_0
     replace hx338_1 := bc_ HB.out hx338_1
     replace hx338_2 := bc_ HB.out hx338_2
     replace hx338_3 := bc_ HB.out hx338_3
     replace hx338_4 := bc_ HB.out hx338_4
     have HR338_0 := Aside0.mk hi338_0
     have HC338_0 := Aside0.mk hl338_0
     clear hi338_0 hl338_0
     have HR338_4 := Aside0.mk hi338_4
     have HC338_4 := Aside0.mk hl338_4
     clear hi338_4 hl338_4
     replace p338 := eq_true p338
     replace q338 := eq_true q338
     go_wp2_with (first | ((with_reducible refine gate_dst (N := 6) rfl ?_); refine bx_ (N := 6) (cs := #[.slice none 0 0, .bool false, .string (⟨#[]⟩ : ByteArray), .int .i64 0, .slice none 0 0]) (t := 59) ?_; intro gb339 hg w8 hbox hb; have BK339 := A_ (hbox); have GW339 := A_ (ge_ hg bB_ : w.heap.size ≤ gb339); have GE339 := A_ (ge_ hg bB_ : w.heap.size ≤ gb339); replace HB := A_ (below_step bB_ hb); clear hb hbox hg; obtain ⟨hcz9_0, hcz9_1, hcz9_2, hcz9_3, hcz9_4, hfz9_0, hfz9_1, hfz9_2, hfz9_3, hfz9_4⟩ := cz5_ BK339.out) | ((with_reducible refine gate_callee (f := 53) rfl ?_); refine gL_ (some 17) Try.func53 #[.slice A338_0 ((rd_T59 l0 x9_1).f0).length c338_0, .slice A1 l1.length c1] ?_; (with_reducible refine (impl_SamePath.calls k1 _ _ ((rd_T59 l0 x9_1).f0) _ _ l1 true _ ?s1 ?s2 ?s3 ?s4 A6.out).mono ?_); (case s1 => exact Kd.C_below HR338_0.out (bG_ GE339.out)); (case s2 => exact HC338_0.out); (case s3 => exact Kd.C_below HR1.out (bG_ GE339.out)); (case s4 => exact HC1.out); rintro e w' ⟨rfl, ⟨nd, rfl⟩⟩; refine ⟨_, rfl, ?_⟩))
     go_ret
     exact ⟨rr_, bG_ GE339.out⟩
   · replace c7 := Bool.eq_false_iff.mpr c7
     subst c7
     rw [if_neg nf_] at H
     have H' := Aside0.mk H
     clear H
     have p338 : 0 ≤ (x9_1 : Int) := of_decide_eq_true as_
     have q338 : x9_1 < (l0.length : Int) := of_decide_eq_true as_
     obtain ⟨ad338, A338_0, c338_0, A338_4, c338_4, e338, hx338_0, hx338_1, hx338_2, hx338_3, hx338_4, hl338_0, hi338_0, hl338_4, hi338_4⟩ := at_T59 HR0.out x9_1 p338 q338
     cases e338
     replace hx338_0 := bc_ HB.out hx338_0
     replace hx338_1 := bc_ HB.out hx338_1
     replace hx338_2 := bc_ HB.out hx338_2
     replace hx338_3 := bc_ HB.out hx338_3
     replace hx338_4 := bc_ HB.out hx338_4
     have HR338_0 := Aside0.mk hi338_0
     have HC338_0 := Aside0.mk hl338_0
     clear hi338_0 hl338_0
     have HR338_4 := Aside0.mk hi338_4
     have HC338_4 := Aside0.mk hl338_4
     clear hi338_4 hl338_4
     replace p338 := eq_true p338
     replace q338 := eq_true q338
     go_wp2_with (first | ((with_reducible refine gate_dst (N := 6) rfl ?_); refine bx_ (N := 6) (cs := #[.slice none 0 0, .bool false, .string (⟨#[]⟩ : ByteArray), .int .i64 0, .slice none 0 0]) (t := 59) ?_; intro gb339 hg w10 hbox hb; have BK339 := A_ (hbox); have GW339 := A_ (ge_ hg bB_ : w.heap.size ≤ gb339); have GE339 := A_ (ge_ hg bB_ : w.heap.size ≤ gb339); replace HB := A_ (below_step bB_ hb); clear hb hbox hg; obtain ⟨hcz11_0, hcz11_1, hcz11_2, hcz11_3, hcz11_4, hfz11_0, hfz11_1, hfz11_2, hfz11_3, hfz11_4⟩ := cz5_ BK339.out) | ((with_reducible refine gate_callee (f := 53) rfl ?_); refine gL_ (some 17) Try.func53 #[.slice A338_0 ((rd_T59 l0 x9_1).f0).length c338_0, .slice A1 l1.length c1] ?_; (with_reducible refine (impl_SamePath.calls k1 _ _ ((rd_T59 l0 x9_1).f0) _ _ l1 false _ ?s1 ?s2 ?s3 ?s4 A6.out).mono ?_); (case s1 => exact Kd.C_below HR338_0.out (bG_ GE339.out)); (case s2 => exact HC338_0.out); (case s3 => exact Kd.C_below HR1.out (bG_ GE339.out)); (case s4 => exact HC1.out); rintro e w' ⟨rfl, ⟨nd, rfl⟩⟩; refine ⟨_, rfl, ?_⟩))
     go_roundg k1
     case measure => have := HK1.out; omega
     case rel => exact ⟨(wrap64 (x9_1 + 1)), rs_, H', ⟨by have := HK1.out; omega⟩, ⟨bG_ GE339.out⟩⟩
def spec_IsColl.f (k : Nat) (l0 : List (S59)) (l1 : List ByteArray) : Option (Bool) := (spec_FindRes.f k l0 l1).bind fun t365 => (if (l1.length : Int) = 0 then (some true) else (if t365 ≥ 0 then (if 0 ≤ t365 then (if t365 < (l0.length : Int) then (some ((rd_T59 l0 t365).f1)) else (none)) else (none)) else (some false)))
set_option maxHeartbeats 8000000 in
set_option maxRecDepth 100000 in
theorem spec_IsColl.calls (k : Nat) (A0 : Option Addr) (c0 : Nat) (l0 : List (S59)) (A1 : Option Addr) (c1 : Nat) (l1 : List ByteArray) (r : Bool) (w : World) (hr0 : Kd.C k59 w A0 l0.length l0) (hc0 : l0.length ≤ c0) (hr1 : Kd.C Kd.string w A1 l1.length l1) (hc1 : l1.length ≤ c1) (h : spec_IsColl.f k l0 l1 = some r) :
 Calls Try.prog 38 #[.slice A0 l0.length c0, .slice A1 l1.length c1] w fun e w' => e = .returned (.bool r) ∧ Drawn0 w w' := by
 have HR0 := Aside0.mk hr0
 have HC0 := Aside0.mk hc0
 clear hr0 hc0
 have HR1 := Aside0.mk hr1
 have HC1 := Aside0.mk hc1
 clear hr1 hc1
 have H : ((spec_FindRes.f k l0 l1).bind fun t365 => (if (l1.length : Int) = 0 then (some true) else (if t365 ≥ 0 then (if 0 ≤ t365 then (if t365 < (l0.length : Int) then (some ((rd_T59 l0 t365).f1)) else (none)) else (none)) else (some false)))) = some r := h
 clear h
 obtain ⟨t365, A3, H⟩ := bo_ H
 (try dsimp only at H)
 by_cases c4 : (l1.length : Int) = 0
 · rw [if_pos c4] at H
   have c4b0 : ((l1.length : Int) == 0) = true := beq_iff_eq.mpr c4
   have c4b1 : ((l1.length : Int) != 0) = false := bne_eq_false_iff_eq.mpr c4
   clear c4
   obtain rfl := Option.some.inj H
   go_enter Try.func38, Try.ntmps38
   go_wp2_with (first | ((with_reducible refine gate_callee (f := 36) rfl ?_); refine gL_ (some 8) Try.func36 #[.slice A0 l0.length c0, .slice A1 l1.length c1] ?_; (with_reducible refine (spec_FindRes.calls k _ _ l0 _ _ l1 t365 _ ?s1 ?s2 ?s3 ?s4 A3.out).mono ?_); (case s1 => exact cC_ HR0.out); (case s2 => exact HC0.out); (case s3 => exact cC_ HR1.out); (case s4 => exact HC1.out); rintro e w' ⟨rfl, ⟨nd, rfl⟩⟩; refine ⟨_, rfl, ?_⟩))
   go_ret
   exact ⟨rs_, dr_⟩
 rw [if_neg c4] at H
 have c4b0 : ((l1.length : Int) == 0) = false := beq_eq_false_iff_ne.mpr c4
 have c4b1 : ((l1.length : Int) != 0) = true := bne_iff_ne.mpr c4
 have c4b2 : ¬ (l1 = []) := fun h_ => c4 (by rw [h_]; rfl)
 by_cases c5 : t365 ≥ 0
 rotate_left
 · rw [if_neg c5] at H
   have c5b0 : decide (0 ≤ t365) = false := decide_eq_false c5
   clear c5
   obtain rfl := Option.some.inj H
   go_enter Try.func38, Try.ntmps38
   go_wp2_with (first | ((with_reducible refine gate_callee (f := 36) rfl ?_); refine gL_ (some 8) Try.func36 #[.slice A0 l0.length c0, .slice A1 l1.length c1] ?_; (with_reducible refine (spec_FindRes.calls k _ _ l0 _ _ l1 t365 _ ?s1 ?s2 ?s3 ?s4 A3.out).mono ?_); (case s1 => exact cC_ HR0.out); (case s2 => exact HC0.out); (case s3 => exact cC_ HR1.out); (case s4 => exact HC1.out); rintro e w' ⟨rfl, ⟨nd, rfl⟩⟩; refine ⟨_, rfl, ?_⟩))
   go_ret
   exact ⟨rs_, dr_⟩
 rw [if_pos c5] at H
 have c5b0 : decide (0 ≤ t365) = true := decide_eq_true c5
 clear c5
 by_cases c6 : 0 ≤ t365
 rotate_left
 · exact absurd H (by rw [if_neg c6]; simp)
 rw [if_pos c6] at H
 have c6b0 : decide (0 ≤ t365) = true := decide_eq_true c6
 clear c6
 by_cases c7 : t365 < (l0.length : Int)
 rotate_left
 · exact absurd H (by rw [if_neg c7]; simp)
 rw [if_pos c7] at H
 have c7b0 : decide (t365 < (l0.length : Int)) = true := decide_eq_true c7
 clear c7
 obtain rfl := Option.some.inj H
 go_enter Try.func38, Try.ntmps38
 go_wp2_with (first | ((with_reducible refine gate_callee (f := 36) rfl ?_); refine gL_ (some 8) Try.func36 #[.slice A0 l0.length c0, .slice A1 l1.length c1] ?_; (with_reducible refine (spec_FindRes.calls k _ _ l0 _ _ l1 t365 _ ?s1 ?s2 ?s3 ?s4 A3.out).mono ?_); (case s1 => exact cC_ HR0.out); (case s2 => exact HC0.out); (case s3 => exact cC_ HR1.out); (case s4 => exact HC1.out); rintro e w' ⟨rfl, ⟨nd, rfl⟩⟩; refine ⟨_, rfl, ?_⟩; have p366 : 0 ≤ (t365 : Int) := of_decide_eq_true as_; have q366 : t365 < (l0.length : Int) := of_decide_eq_true as_; obtain ⟨ad366, A366_0, c366_0, A366_4, c366_4, e366, hx366_0, hx366_1, hx366_2, hx366_3, hx366_4, hl366_0, hi366_0, hl366_4, hi366_4⟩ := at_T59 HR0.out t365 p366 q366; cases e366; have HR366_0 := Aside0.mk hi366_0; have HC366_0 := Aside0.mk hl366_0; clear hi366_0 hl366_0; have HR366_4 := Aside0.mk hi366_4; have HC366_4 := Aside0.mk hl366_4; clear hi366_4 hl366_4; replace p366 := eq_true p366; replace q366 := eq_true q366))
 go_ret
 exact ⟨rs_, dr_⟩
def impl_IsColl.f (k : Nat) (l0 : List (S59)) (l1 : List ByteArray) : Option (Bool) := if (l1.length : Int) = 0 then (some true) else ((impl_FindRes.f k l0 l1).bind fun t367 => (if t367 ≥ 0 then (if 0 ≤ t367 then (if t367 < (l0.length : Int) then (some ((rd_T59 l0 t367).f1)) else (none)) else (none)) else (some false)))
set_option maxHeartbeats 8000000 in
set_option maxRecDepth 100000 in
theorem impl_IsColl.calls (k : Nat) (A0 : Option Addr) (c0 : Nat) (l0 : List (S59)) (A1 : Option Addr) (c1 : Nat) (l1 : List ByteArray) (r : Bool) (w : World) (hr0 : Kd.C k59 w A0 l0.length l0) (hc0 : l0.length ≤ c0) (hr1 : Kd.C Kd.string w A1 l1.length l1) (hc1 : l1.length ≤ c1) (h : impl_IsColl.f k l0 l1 = some r) :
 Calls Try.prog 39 #[.slice A0 l0.length c0, .slice A1 l1.length c1] w fun e w' => e = .returned (.bool r) ∧ Below w.heap.size w w' := by
 have HR0 := Aside0.mk hr0
 have HC0 := Aside0.mk hc0
 clear hr0 hc0
 have HR1 := Aside0.mk hr1
 have HC1 := Aside0.mk hc1
 clear hr1 hc1
 have HB := A_ (Below.refl w.heap.size w)
 have H : (if (l1.length : Int) = 0 then (some true) else ((impl_FindRes.f k l0 l1).bind fun t367 => (if t367 ≥ 0 then (if 0 ≤ t367 then (if t367 < (l0.length : Int) then (some ((rd_T59 l0 t367).f1)) else (none)) else (none)) else (some false)))) = some r := h
 clear h
 by_cases c3 : (l1.length : Int) = 0
 · rw [if_pos c3] at H
   have c3b0 : ((l1.length : Int) == 0) = true := beq_iff_eq.mpr c3
   have c3b1 : ((l1.length : Int) != 0) = false := bne_eq_false_iff_eq.mpr c3
   clear c3
   obtain rfl := Option.some.inj H
   go_enter Try.func39, Try.ntmps39
   go_wp2
   go_ret
   exact ⟨rr_, bB_⟩
 rw [if_neg c3] at H
 have c3b0 : ((l1.length : Int) == 0) = false := beq_eq_false_iff_ne.mpr c3
 have c3b1 : ((l1.length : Int) != 0) = true := bne_iff_ne.mpr c3
 have c3b2 : ¬ (l1 = []) := fun h_ => c3 (by rw [h_]; rfl)
 obtain ⟨t367, A4, H⟩ := bo_ H
 (try dsimp only at H)
 by_cases c5 : t367 ≥ 0
 rotate_left
 · rw [if_neg c5] at H
   have c5b0 : decide (0 ≤ t367) = false := decide_eq_false c5
   clear c5
   obtain rfl := Option.some.inj H
   go_enter Try.func39, Try.ntmps39
   go_wp2_with (first | ((with_reducible refine gate_callee (f := 37) rfl ?_); refine gL_ (some 11) Try.func37 #[.slice A0 l0.length c0, .slice A1 l1.length c1] ?_; (with_reducible refine (impl_FindRes.calls k _ _ l0 _ _ l1 t367 _ ?s1 ?s2 ?s3 ?s4 A4.out).mono ?_); (case s1 => exact cC_ HR0.out); (case s2 => exact HC0.out); (case s3 => exact cC_ HR1.out); (case s4 => exact HC1.out); rintro e w9 ⟨rfl, hb⟩; refine ⟨_, rfl, ?_⟩; replace HB := A_ (below_step bB_ hb); (try clear hb)))
   go_ret
   exact ⟨rr_, bB_⟩
 rw [if_pos c5] at H
 have c5b0 : decide (0 ≤ t367) = true := decide_eq_true c5
 clear c5
 by_cases c6 : 0 ≤ t367
 rotate_left
 · exact absurd H (by rw [if_neg c6]; simp)
 rw [if_pos c6] at H
 have c6b0 : decide (0 ≤ t367) = true := decide_eq_true c6
 clear c6
 by_cases c7 : t367 < (l0.length : Int)
 rotate_left
 · exact absurd H (by rw [if_neg c7]; simp)
 rw [if_pos c7] at H
 have c7b0 : decide (t367 < (l0.length : Int)) = true := decide_eq_true c7
 clear c7
 obtain rfl := Option.some.inj H
 go_enter Try.func39, Try.ntmps39
 go_wp2_with (first | ((with_reducible refine gate_callee (f := 37) rfl ?_); refine gL_ (some 11) Try.func37 #[.slice A0 l0.length c0, .slice A1 l1.length c1] ?_; (with_reducible refine (impl_FindRes.calls k _ _ l0 _ _ l1 t367 _ ?s1 ?s2 ?s3 ?s4 A4.out).mono ?_); (case s1 => exact cC_ HR0.out); (case s2 => exact HC0.out); (case s3 => exact cC_ HR1.out); (case s4 => exact HC1.out); rintro e w8 ⟨rfl, hb⟩; refine ⟨_, rfl, ?_⟩; replace HB := A_ (below_step bB_ hb); (try clear hb); have p368 : 0 ≤ (t367 : Int) := of_decide_eq_true as_; have q368 : t367 < (l0.length : Int) := of_decide_eq_true as_; obtain ⟨ad368, A368_0, c368_0, A368_4, c368_4, e368, hx368_0, hx368_1, hx368_2, hx368_3, hx368_4, hl368_0, hi368_0, hl368_4, hi368_4⟩ := at_T59 HR0.out t367 p368 q368; cases e368; replace hx368_0 := bc_ HB.out hx368_0; replace hx368_1 := bc_ HB.out hx368_1; replace hx368_2 := bc_ HB.out hx368_2; replace hx368_3 := bc_ HB.out hx368_3; replace hx368_4 := bc_ HB.out hx368_4; have HR368_0 := Aside0.mk hi368_0; have HC368_0 := Aside0.mk hl368_0; clear hi368_0 hl368_0; have HR368_4 := Aside0.mk hi368_4; have HC368_4 := Aside0.mk hl368_4; clear hi368_4 hl368_4; replace p368 := eq_true p368; replace q368 := eq_true q368))
 go_ret
 exact ⟨rr_, bB_⟩
def impl_Under.f (k : Nat) (l0 : List ByteArray) (l1 : List ByteArray) : Option (Bool) := if (l0.length : Int) > (l1.length : Int) then (if 0 ≤ (l1.length : Int) then (if (l1.length : Int) ≤ (l0.length : Int) then ((impl_SamePath.f k (l0.take ((l1.length : Int) : Int).toNat) l1).bind fun t412 => (some t412)) else (none)) else (none)) else (some false)
set_option maxHeartbeats 8000000 in
set_option maxRecDepth 100000 in
theorem impl_Under.calls (k : Nat) (A0 : Option Addr) (c0 : Nat) (l0 : List ByteArray) (A1 : Option Addr) (c1 : Nat) (l1 : List ByteArray) (r : Bool) (w : World) (hr0 : Kd.C Kd.string w A0 l0.length l0) (hc0 : l0.length ≤ c0) (hr1 : Kd.C Kd.string w A1 l1.length l1) (hc1 : l1.length ≤ c1) (h : impl_Under.f k l0 l1 = some r) :
 Calls Try.prog 76 #[.slice A0 l0.length c0, .slice A1 l1.length c1] w fun e w' => e = .returned (.bool r) ∧ Drawn0 w w' := by
 have HR0 := Aside0.mk hr0
 have HC0 := Aside0.mk hc0
 clear hr0 hc0
 have HR1 := Aside0.mk hr1
 have HC1 := Aside0.mk hc1
 clear hr1 hc1
 have H : (if (l0.length : Int) > (l1.length : Int) then (if 0 ≤ (l1.length : Int) then (if (l1.length : Int) ≤ (l0.length : Int) then ((impl_SamePath.f k (l0.take ((l1.length : Int) : Int).toNat) l1).bind fun t412 => (some t412)) else (none)) else (none)) else (some false)) = some r := h
 clear h
 by_cases c3 : (l0.length : Int) > (l1.length : Int)
 rotate_left
 · rw [if_neg c3] at H
   have c3b0 : decide ((l1.length : Int) < (l0.length : Int)) = false := decide_eq_false c3
   have c3b1 : decide (l1.length < l0.length) = false := decide_eq_false (fun h => c3 (Int.ofNat_lt.mpr h))
   clear c3
   obtain rfl := Option.some.inj H
   go_enter Try.func76, Try.ntmps76
   go_wp2
   go_ret
   exact ⟨rs_, dr_⟩
 rw [if_pos c3] at H
 have c3b0 : decide ((l1.length : Int) < (l0.length : Int)) = true := decide_eq_true c3
 have c3b1 : decide (l1.length < l0.length) = true := decide_eq_true (Int.ofNat_lt.mp c3)
 clear c3
 by_cases c4 : 0 ≤ (l1.length : Int)
 rotate_left
 · exact absurd H (by rw [if_neg c4]; simp)
 rw [if_pos c4] at H
 have c4b0 := eq_true c4
 have c4b1 : decide (0 ≤ (l1.length : Int)) = true := decide_eq_true c4
 clear c4
 by_cases c5 : (l1.length : Int) ≤ (l0.length : Int)
 rotate_left
 · exact absurd H (by rw [if_neg c5]; simp)
 rw [if_pos c5] at H
 have c5b0 := eq_true c5
 have c5b1 : decide ((l1.length : Int) ≤ (l0.length : Int)) = true := decide_eq_true c5
 clear c5
 obtain ⟨t412, A6, H⟩ := bo_ H
 (try dsimp only at H)
 obtain rfl := Option.some.inj H
 obtain ⟨i07, hi07, _, hsz7, _⟩ := info_parts info9
 obtain ⟨hcut7, hA7, hC7⟩ := print_take_of (P := Try.prog) Value.string (⟨#[]⟩ : ByteArray) 22 9 .i64 Try.underlying22 hi07 hsz7 A0 c0 l0 (l1.length : Int) (of_decide_eq_true as_) (of_decide_eq_true as_) HC0.out
 have HR411 := A_ (Kd.C_of_reads (h1 := fun _ => rfl) (hA7 _ (Kd.reads_of_C HR0.out)))
 have HC411 := Aside0.mk hC7
 clear hA7 hC7 hi07 hsz7
 go_enter Try.func76, Try.ntmps76
 go_wp2_with (first | (go_at_call 53; refine calls_of_args (args' := #[.slice A0 (l0.take ((l1.length : Int) : Int).toNat).length c0, .slice A1 l1.length c1]) (by first | (simp only [List.length_take, List.length_drop, Int.toNat_natCast]; done) | (rw [show (l0.take ((l1.length : Int) : Int).toNat).length = (l1.length : Int).toNat from (by rw [List.length_take]; have h_ : ((l1.length : Int) : Int) ≤ (l0.length : Int) := of_decide_eq_true as_; omega)] <;> rfl) | rfl) ?_; (with_reducible refine (impl_SamePath.calls k _ _ (l0.take ((l1.length : Int) : Int).toNat) _ _ l1 t412 _ ?s1 ?s2 ?s3 ?s4 A6.out).mono ?_); (case s1 => exact cC_ HR411.out); (case s2 => exact HC411.out); (case s3 => exact cC_ HR1.out); (case s4 => exact HC1.out); rintro e w' ⟨rfl, ⟨nd, rfl⟩⟩))
 go_ret
 exact ⟨rs_, dr_⟩
def impl_KidsOf.l0 : Nat → List ByteArray → List (List ByteArray) → List (S59) → Int → Int → Option ((List (List ByteArray)))
 | 0, _, _, _, _, _ => none
 | k + 1, x1, x5, x8, x9, x10 => if x10 < x9 then (if 0 ≤ x10 then (if x10 < (x8.length : Int) then (if (((rd_T59 x8 x10).f0).length : Int) = (wrap64 ((x1.length : Int) + 1)) then ((impl_Under.f k ((rd_T59 x8 x10).f0) x1).bind fun t415 => (if t415 = true then ((impl_copyPath.f ((rd_T59 x8 x10).f0)).bind fun t416 => (if x5.length < 5864062014805 then (impl_KidsOf.l0 k x1 (x5 ++ [t416]) x8 x9 (wrap64 (x10 + 1))) else (none))) else (impl_KidsOf.l0 k x1 x5 x8 x9 (wrap64 (x10 + 1))))) else (impl_KidsOf.l0 k x1 x5 x8 x9 (wrap64 (x10 + 1)))) else (none)) else (none)) else (some x5)
def impl_KidsOf.f (k : Nat) (l0 : List (S59)) (l1 : List ByteArray) : Option ((List (List ByteArray))) := impl_KidsOf.l0 k l1 ([] : List (List ByteArray)) l0 (l0.length : Int) 0
set_option maxHeartbeats 8000000 in
set_option maxRecDepth 100000 in
theorem impl_KidsOf.calls (k : Nat) (A0 : Option Addr) (c0 : Nat) (l0 : List (S59)) (A1 : Option Addr) (c1 : Nat) (l1 : List ByteArray) (r : List (List ByteArray)) (w : World) (hr0 : Kd.C k59 w A0 l0.length l0) (hc0 : l0.length ≤ c0) (hr1 : Kd.C Kd.string w A1 l1.length l1) (hc1 : l1.length ≤ c1) (h : impl_KidsOf.f k l0 l1 = some r) :
 Calls Try.prog 41 #[.slice A0 l0.length c0, .slice A1 l1.length c1] w fun e w' => ∃ v0_ : Value, e = .returned (v0_) ∧ Kd.S (Kd.slice 9 Kd.string) 22 w' w.heap.size (fun _ => True) v0_ r ∧ Below w.heap.size w w' := by
 have hu59 := Try.underlying59
 have HR0 := Aside0.mk hr0
 have HC0 := Aside0.mk hc0
 clear hr0 hc0
 have HR1 := Aside0.mk hr1
 have HC1 := Aside0.mk hc1
 clear hr1 hc1
 have HB := A_ (Below.refl w.heap.size w)
 have H : (impl_KidsOf.l0 k l1 ([] : List (List ByteArray)) l0 (l0.length : Int) 0) = some r := h
 clear h
 have H' := Aside0.mk H
 clear H
 go_enter Try.func41, Try.ntmps41
 go_wp2
 go_loopg [5, 10] k (fun kq v5 v10 w' => ∃ (x5_1 : List (List ByteArray)) (x10_1 : Int), v10 = .int .i64 x10_1 ∧ Aside0 (impl_KidsOf.l0 kq l1 x5_1 l0 (l0.length : Int) x10_1 = some r) ∧ Aside0 (kq ≤ k) ∧ Aside0 (Kd.S (Kd.slice 9 Kd.string) 22 w' w.heap.size (fun _ => True) v5 x5_1) ∧ Aside0 (Below w.heap.size w w'))
 case atStart => exact ⟨(([] : List (List ByteArray))), (0), rs_, H', ⟨Nat.le_refl _⟩, ⟨by first | exact Kd.S_nil _ _ _ _ _ | exact Kd.N_nil _ _ _ _ _ | exact Kd.V_nil _ _ _ _ _ | exact Kd.Q_nil _ _ _ _ _ | exact Kd.R_nil _ _ _ _ _⟩, ⟨bB_⟩⟩
 case round =>
  clear H'
  try clear c1
  try clear p2
  obtain ⟨x5_1, x10_1, rfl, HA, HK1, HO_5, HB⟩ := hrel
  cases gk with
  | zero => exact absurd HA.out (by simp [impl_KidsOf.l0])
  | succ k1 =>
   have H := HA.out
   clear HA
   simp only [impl_KidsOf.l0] at H
   by_cases c3 : x10_1 < (l0.length : Int)
   rotate_left
   · rw [if_neg c3] at H
     have c3b0 : decide (x10_1 < (l0.length : Int)) = false := decide_eq_false c3
     clear c3
     obtain rfl := Option.some.inj H
     go_wp2
     go_ret
     exact ⟨_, rr_, by (with_reducible repeat (first | apply Kd.S_alloc | apply Kd.S_drewN | apply Kd.S_drew)); exact HO_5.out, bB_⟩
   rw [if_pos c3] at H
   have c3b0 : decide (x10_1 < (l0.length : Int)) = true := decide_eq_true c3
   clear c3
   by_cases c4 : 0 ≤ x10_1
   rotate_left
   · exact absurd H (by rw [if_neg c4]; simp)
   rw [if_pos c4] at H
   have c4b0 : decide (0 ≤ x10_1) = true := decide_eq_true c4
   clear c4
   by_cases c5 : x10_1 < (l0.length : Int)
   rotate_left
   · exact absurd H (by rw [if_neg c5]; simp)
   rw [if_pos c5] at H
   have c5b0 : decide (x10_1 < (l0.length : Int)) = true := decide_eq_true c5
   clear c5
   by_cases c6 : (((rd_T59 l0 x10_1).f0).length : Int) = (wrap64 ((l1.length : Int) + 1))
   rotate_left
   · rw [if_neg c6] at H
     have c6b0 : ((((rd_T59 l0 x10_1).f0).length : Int) == (wrap64 ((l1.length : Int) + 1))) = false := beq_eq_false_iff_ne.mpr c6
     have c6b1 : ((((rd_T59 l0 x10_1).f0).length : Int) != (wrap64 ((l1.length : Int) + 1))) = true := bne_iff_ne.mpr c6
     have H' := Aside0.mk H
     clear H
     have p413 : 0 ≤ (x10_1 : Int) := of_decide_eq_true as_
     have q413 : x10_1 < (l0.length : Int) := of_decide_eq_true as_
     obtain ⟨ad413, A413_0, c413_0, A413_4, c413_4, e413, hx413_0, hx413_1, hx413_2, hx413_3, hx413_4, hl413_0, hi413_0, hl413_4, hi413_4⟩ := at_T59 HR0.out x10_1 p413 q413
     cases e413
     replace hx413_0 := bc_ HB.out hx413_0
     replace hx413_1 := bc_ HB.out hx413_1
     replace hx413_2 := bc_ HB.out hx413_2
     replace hx413_3 := bc_ HB.out hx413_3
     replace hx413_4 := bc_ HB.out hx413_4
     have HR413_0 := Aside0.mk hi413_0
     have HC413_0 := Aside0.mk hl413_0
     clear hi413_0 hl413_0
     have HR413_4 := Aside0.mk hi413_4
     have HC413_4 := Aside0.mk hl413_4
     clear hi413_4 hl413_4
     replace p413 := eq_true p413
     replace q413 := eq_true q413
     go_wp2_with (first | ((with_reducible refine gate_dst (N := 7) rfl ?_); refine bx_ (N := 7) (cs := #[.slice none 0 0, .bool false, .string (⟨#[]⟩ : ByteArray), .int .i64 0, .slice none 0 0]) (t := 59) ?_; intro gb414 hg w18 hbox hb; replace HO_5 := A_ (Kd.S_below (vS_ HO_5.out) hb); have BK414 := A_ (hbox); have GW414 := A_ (ge_ hg bB_ : w.heap.size ≤ gb414); have GE414 := A_ (ge_ hg bB_ : w.heap.size ≤ gb414); replace HB := A_ (below_step bB_ hb); clear hb hbox hg; obtain ⟨hcz19_0, hcz19_1, hcz19_2, hcz19_3, hcz19_4, hfz19_0, hfz19_1, hfz19_2, hfz19_3, hfz19_4⟩ := cz5_ BK414.out))
     go_roundg k1
     case measure => have := HK1.out; omega
     case rel => exact ⟨(x5_1), (wrap64 (x10_1 + 1)), rs_, H', ⟨by have := HK1.out; omega⟩, ⟨by (with_reducible repeat (first | apply Kd.S_alloc | apply Kd.S_drewN | apply Kd.S_drew)); exact Kd.S_mono (Kd.S_far (p := ⟨gb414, 4, none⟩) (Kd.S_far (p := ⟨gb414, 3, none⟩) (Kd.S_far (p := ⟨gb414, 2, none⟩) (Kd.S_far (p := ⟨gb414, 1, none⟩) (Kd.S_far (p := ⟨gb414, 0, none⟩) (Kd.S_types HO_5.out BK414.out (by decide)) (fun _ hk => hk.2) (.slice A413_0 ((rd_T59 l0 x10_1).f0).length c413_0)) (fun _ hk => hk.2) (.bool ((rd_T59 l0 x10_1).f1))) (fun _ hk => hk.2) (.string ((rd_T59 l0 x10_1).f2))) (fun _ hk => hk.2) (.int .i64 ((rd_T59 l0 x10_1).f3))) (fun _ hk => hk.2) (.slice A413_4 ((rd_T59 l0 x10_1).f4).length c413_4)) (fun _ hk => trivial)⟩, ⟨bG_ GE414.out⟩⟩
   rw [if_pos c6] at H
   have c6b0 : ((((rd_T59 l0 x10_1).f0).length : Int) == (wrap64 ((l1.length : Int) + 1))) = true := beq_iff_eq.mpr c6
   have c6b1 : ((((rd_T59 l0 x10_1).f0).length : Int) != (wrap64 ((l1.length : Int) + 1))) = false := bne_eq_false_iff_eq.mpr c6
   clear c6
   obtain ⟨t415, A7, H⟩ := bo_ H
   (try dsimp only at H)
   by_cases c8 : t415 = true
   · subst c8
     rw [if_pos rfl] at H
     obtain ⟨t416, A9, H⟩ := bo_ H
     (try dsimp only at H)
     by_cases c10 : x5_1.length < 5864062014805
     rotate_left
     · exact absurd H (by rw [if_neg c10]; simp)
     rw [if_pos c10] at H
     have LMc10 := Aside0.mk c10
     clear c10
     obtain ⟨y419, hy419⟩ : ∃ y_ : List (List ByteArray), y_ = (x5_1 ++ [t416]) := ⟨_, rfl⟩
     replace H : (impl_KidsOf.l0 k1 l1 y419 l0 (l0.length : Int) (wrap64 (x10_1 + 1))) = some r := hy_ hy419 H
     have Ny419 := Aside0.mk hy419
     clear hy419
     have H' := Aside0.mk H
     clear H
     have p413 : 0 ≤ (x10_1 : Int) := of_decide_eq_true as_
     have q413 : x10_1 < (l0.length : Int) := of_decide_eq_true as_
     obtain ⟨ad413, A413_0, c413_0, A413_4, c413_4, e413, hx413_0, hx413_1, hx413_2, hx413_3, hx413_4, hl413_0, hi413_0, hl413_4, hi413_4⟩ := at_T59 HR0.out x10_1 p413 q413
     cases e413
     replace hx413_0 := bc_ HB.out hx413_0
     replace hx413_1 := bc_ HB.out hx413_1
     replace hx413_2 := bc_ HB.out hx413_2
     replace hx413_3 := bc_ HB.out hx413_3
     replace hx413_4 := bc_ HB.out hx413_4
     have HR413_0 := Aside0.mk hi413_0
     have HC413_0 := Aside0.mk hl413_0
     clear hi413_0 hl413_0
     have HR413_4 := Aside0.mk hi413_4
     have HC413_4 := Aside0.mk hl413_4
     clear hi413_4 hl413_4
     replace p413 := eq_true p413
     replace q413 := eq_true q413
     go_wp2_with (first | ((with_reducible refine gate_dst (N := 7) rfl ?_); refine bx_ (N := 7) (cs := #[.slice none 0 0, .bool false, .string (⟨#[]⟩ : ByteArray), .int .i64 0, .slice none 0 0]) (t := 59) ?_; intro gb414 hg w11 hbox hb; replace HO_5 := A_ (Kd.S_below (vS_ HO_5.out) hb); have BK414 := A_ (hbox); have GW414 := A_ (ge_ hg bB_ : w.heap.size ≤ gb414); have GE414 := A_ (ge_ hg bB_ : w.heap.size ≤ gb414); replace HB := A_ (below_step bB_ hb); clear hb hbox hg; obtain ⟨hcz12_0, hcz12_1, hcz12_2, hcz12_3, hcz12_4, hfz12_0, hfz12_1, hfz12_2, hfz12_3, hfz12_4⟩ := cz5_ BK414.out) | (go_at_call 76; (with_reducible refine (impl_Under.calls k1 _ _ ((rd_T59 l0 x10_1).f0) _ _ l1 true _ ?s1 ?s2 ?s3 ?s4 A7.out).mono ?_); (case s1 => exact Kd.C_below HR413_0.out (bG_ GE414.out)); (case s2 => exact HC413_0.out); (case s3 => exact Kd.C_below HR1.out (bG_ GE414.out)); (case s4 => exact HC1.out); rintro e w' ⟨rfl, ⟨nd, rfl⟩⟩) | ((with_reducible refine gate_callee (f := 62) rfl ?_); refine gL_ (some 30) Try.func62 #[.slice A413_0 ((rd_T59 l0 x10_1).f0).length c413_0] ?_; (with_reducible refine (impl_copyPath.calls _ _ ((rd_T59 l0 x10_1).f0) t416 _ ?s1 ?s2 A9.out).mono ?_); (case s1 => exact Kd.C_below HR413_0.out (bG_ GE414.out)); (case s2 => exact HC413_0.out); rintro e w13 ⟨v417, rfl, ho0, hb⟩; refine ⟨_, rfl, ?_⟩; replace HO_5 := A_ (Kd.S_elder' (by (with_reducible repeat (first | apply Kd.S_alloc | apply Kd.S_drewN | apply Kd.S_drew)); exact (Kd.S_mono (Kd.S_far (p := ⟨gb414, 4, none⟩) (Kd.S_far (p := ⟨gb414, 3, none⟩) (Kd.S_far (p := ⟨gb414, 2, none⟩) (Kd.S_far (p := ⟨gb414, 1, none⟩) (Kd.S_far (p := ⟨gb414, 0, none⟩) (Kd.S_types HO_5.out BK414.out (by decide)) (fun _ hk => hk.2) (.slice A413_0 ((rd_T59 l0 x10_1).f0).length c413_0)) (fun _ hk => hk.2) (.bool ((rd_T59 l0 x10_1).f1))) (fun _ hk => hk.2) (.string ((rd_T59 l0 x10_1).f2))) (fun _ hk => hk.2) (.int .i64 ((rd_T59 l0 x10_1).f3))) (fun _ hk => hk.2) (.slice A413_4 ((rd_T59 l0 x10_1).f4).length c413_4)) (fun _ h_ => h_.1))) (kb_ ho0) hb); have HO418 := A_ (Kd.R_lower ho0 (below_size (bG_ GE414.out))); replace BK414 := A_ (blk_below (g := gb414) (o := .cells #[.slice A413_0 ((rd_T59 l0 x10_1).f0).length c413_0, .bool ((rd_T59 l0 x10_1).f1), .string ((rd_T59 l0 x10_1).f2), .int .i64 ((rd_T59 l0 x10_1).f3), .slice A413_4 ((rd_T59 l0 x10_1).f4).length c413_4] 59 (0, 0)) (by (with_reducible repeat (first | refine blk_drewN ?_ _ | refine blk_drew ?_ | refine blk_alloc ?_ _)); refine blk_put (cs := #[.slice A413_0 ((rd_T59 l0 x10_1).f0).length c413_0, .bool ((rd_T59 l0 x10_1).f1), .string ((rd_T59 l0 x10_1).f2), .int .i64 ((rd_T59 l0 x10_1).f3), .slice none 0 0]) ?_ 4 _ rfl; (with_reducible repeat (first | refine blk_drewN ?_ _ | refine blk_drew ?_ | refine blk_alloc ?_ _)); refine blk_put (cs := #[.slice A413_0 ((rd_T59 l0 x10_1).f0).length c413_0, .bool ((rd_T59 l0 x10_1).f1), .string ((rd_T59 l0 x10_1).f2), .int .i64 0, .slice none 0 0]) ?_ 3 _ rfl; (with_reducible repeat (first | refine blk_drewN ?_ _ | refine blk_drew ?_ | refine blk_alloc ?_ _)); refine blk_put (cs := #[.slice A413_0 ((rd_T59 l0 x10_1).f0).length c413_0, .bool ((rd_T59 l0 x10_1).f1), .string (⟨#[]⟩ : ByteArray), .int .i64 0, .slice none 0 0]) ?_ 2 _ rfl; (with_reducible repeat (first | refine blk_drewN ?_ _ | refine blk_drew ?_ | refine blk_alloc ?_ _)); refine blk_put (cs := #[.slice A413_0 ((rd_T59 l0 x10_1).f0).length c413_0, .bool false, .string (⟨#[]⟩ : ByteArray), .int .i64 0, .slice none 0 0]) ?_ 1 _ rfl; (with_reducible repeat (first | refine blk_drewN ?_ _ | refine blk_drew ?_ | refine blk_alloc ?_ _)); refine blk_put (cs := #[.slice none 0 0, .bool false, .string (⟨#[]⟩ : ByteArray), .int .i64 0, .slice none 0 0]) ?_ 0 _ rfl; (with_reducible repeat (first | refine blk_drewN ?_ _ | refine blk_drew ?_ | refine blk_alloc ?_ _)); exact BK414.out) hb); replace HB := A_ (below_step (bG_ GE414.out) hb); (try clear hb); (try clear ho0); obtain ⟨Ao15, co15, eo15⟩ := Kd.R_slice HO418.out; subst eo15) | ((with_reducible refine gate_builtin (b := .append) (xs := #[.tmp 27, .tmp 31]) rfl ?_); at_builtin; refine Kd.S_append (Kd.slice 9 Kd.string) (w0 := w) w.heap.size rfl (.tmp 27) (.tmp 31) 47 22 (.slice none 0 0) 24 rfl Try.underlying47 info22 rfl (by decide) (by omega) u5 x5_1 t416 [.slice Ao15 t416.length co15] (fun _ => True) (fun k_ => some k_ = (.slice Ao15 t416.length co15 : Value).ownBlock) rfl rfl ?aP (fun k_ hk_ => ((Kd.R_mono (ok' := fun k_ => ((fun _ => True)) k_ ∧ some k_ ≠ (u5 : Value).ownBlock) (Kd.R_apart' (HO418.out) (Kd.S_typed HO_5.out) (by decide)) (fun k_ hk => ⟨trivial, hk.2⟩))).1 k_ hk_.symm) ?aF ?aO ?aB ?aS ?aL ?_; (case aP => exact Kd.M_row (Kd.R_mono (Kd.R_tight rfl (Kd.R_mono (ok' := fun k_ => ((fun _ => True)) k_ ∧ some k_ ≠ (u5 : Value).ownBlock) (Kd.R_apart' (HO418.out) (Kd.S_typed HO_5.out) (by decide)) (fun k_ hk => ⟨trivial, hk.2⟩))) (fun _ h_ => h_))); (case aB => exact (bG_ GE414.out)); (case aF => exact (fun _ _ => trivial)); (case aO => exact (by (with_reducible repeat (first | apply Kd.S_alloc | apply Kd.S_drewN | apply Kd.S_drew)); exact Kd.S_mono HO_5.out (fun k_ hk => ⟨trivial, fun e_ => hk.2 e_⟩))); (case aS => exact (below_size (bG_ GE414.out))); (case aL => have := LMc10.out; omega); intro v420 w14 ho hb hg hat; rw [← Ny419.out] at ho; replace BK414 := A_ (blk_grown (g := gb414) (o := .cells #[.slice A413_0 ((rd_T59 l0 x10_1).f0).length c413_0, .bool ((rd_T59 l0 x10_1).f1), .string ((rd_T59 l0 x10_1).f2), .int .i64 ((rd_T59 l0 x10_1).f3), .slice A413_4 ((rd_T59 l0 x10_1).f4).length c413_4] 59 (0, 0)) (vb_ BK414.out) hg (Kd.S_ne HO_5.out BK414.out (by decide))); replace HB := A_ (hb); have HO421 := A_ (ho); clear HO_5 HO418; clear ho hb hg hat))
     go_roundg k1
     case measure => have := HK1.out; omega
     case rel => exact ⟨(y419), (wrap64 (x10_1 + 1)), rs_, H', ⟨by have := HK1.out; omega⟩, ⟨vS_ HO421.out⟩, ⟨bG_ GE414.out⟩⟩
   · replace c8 := Bool.eq_false_iff.mpr c8
     subst c8
     rw [if_neg nf_] at H
     have H' := Aside0.mk H
     clear H
     have p413 : 0 ≤ (x10_1 : Int) := of_decide_eq_true as_
     have q413 : x10_1 < (l0.length : Int) := of_decide_eq_true as_
     obtain ⟨ad413, A413_0, c413_0, A413_4, c413_4, e413, hx413_0, hx413_1, hx413_2, hx413_3, hx413_4, hl413_0, hi413_0, hl413_4, hi413_4⟩ := at_T59 HR0.out x10_1 p413 q413
     cases e413
     replace hx413_0 := bc_ HB.out hx413_0
     replace hx413_1 := bc_ HB.out hx413_1
     replace hx413_2 := bc_ HB.out hx413_2
     replace hx413_3 := bc_ HB.out hx413_3
     replace hx413_4 := bc_ HB.out hx413_4
     have HR413_0 := Aside0.mk hi413_0
     have HC413_0 := Aside0.mk hl413_0
     clear hi413_0 hl413_0
     have HR413_4 := Aside0.mk hi413_4
     have HC413_4 := Aside0.mk hl413_4
     clear hi413_4 hl413_4
     replace p413 := eq_true p413
     replace q413 := eq_true q413
     go_wp2_with (first | ((with_reducible refine gate_dst (N := 7) rfl ?_); refine bx_ (N := 7) (cs := #[.slice none 0 0, .bool false, .string (⟨#[]⟩ : ByteArray), .int .i64 0, .slice none 0 0]) (t := 59) ?_; intro gb414 hg w16 hbox hb; replace HO_5 := A_ (Kd.S_below (vS_ HO_5.out) hb); have BK414 := A_ (hbox); have GW414 := A_ (ge_ hg bB_ : w.heap.size ≤ gb414); have GE414 := A_ (ge_ hg bB_ : w.heap.size ≤ gb414); replace HB := A_ (below_step bB_ hb); clear hb hbox hg; obtain ⟨hcz17_0, hcz17_1, hcz17_2, hcz17_3, hcz17_4, hfz17_0, hfz17_1, hfz17_2, hfz17_3, hfz17_4⟩ := cz5_ BK414.out) | (go_at_call 76; (with_reducible refine (impl_Under.calls k1 _ _ ((rd_T59 l0 x10_1).f0) _ _ l1 false _ ?s1 ?s2 ?s3 ?s4 A7.out).mono ?_); (case s1 => exact Kd.C_below HR413_0.out (bG_ GE414.out)); (case s2 => exact HC413_0.out); (case s3 => exact Kd.C_below HR1.out (bG_ GE414.out)); (case s4 => exact HC1.out); rintro e w' ⟨rfl, ⟨nd, rfl⟩⟩))
     go_roundg k1
     case measure => have := HK1.out; omega
     case rel => exact ⟨(x5_1), (wrap64 (x10_1 + 1)), rs_, H', ⟨by have := HK1.out; omega⟩, ⟨by (with_reducible repeat (first | apply Kd.S_alloc | apply Kd.S_drewN | apply Kd.S_drew)); exact Kd.S_mono (Kd.S_far (p := ⟨gb414, 4, none⟩) (Kd.S_far (p := ⟨gb414, 3, none⟩) (Kd.S_far (p := ⟨gb414, 2, none⟩) (Kd.S_far (p := ⟨gb414, 1, none⟩) (Kd.S_far (p := ⟨gb414, 0, none⟩) (Kd.S_types HO_5.out BK414.out (by decide)) (fun _ hk => hk.2) (.slice A413_0 ((rd_T59 l0 x10_1).f0).length c413_0)) (fun _ hk => hk.2) (.bool ((rd_T59 l0 x10_1).f1))) (fun _ hk => hk.2) (.string ((rd_T59 l0 x10_1).f2))) (fun _ hk => hk.2) (.int .i64 ((rd_T59 l0 x10_1).f3))) (fun _ hk => hk.2) (.slice A413_4 ((rd_T59 l0 x10_1).f4).length c413_4)) (fun _ hk => trivial)⟩, ⟨bG_ GE414.out⟩⟩
end Go.Proofs.Yteabkidfgdmmpaa.Q
