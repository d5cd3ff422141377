-- PRINTED by print.py (a twelfth state) out of the translation. Not trusted: Lean checks it.
import Derived.Test.YtbgggcgjijljkaaVFnShelvesG22
import Derived.Test.YtbgggcgjijljkaaVFnShelvesG30
import Derived.Test.YtbgggcgjijljkaaVFnShelvesG24
import Derived.Test.YtbgggcgjijljkaaVFnShelvesG26
import Derived.Test.YtbgggcgjijljkaaVFnShelvesG28
import Derived.Test.YtbgggcgjijljkaaVFnShelvesG29
import Derived.Test.YtbgggcgjijljkaaVFnShelvesWWords
import Derived.Test.YtbgggcgjijljkaaVFnShelvesWApart
import Derived.Deep.Slices
import Derived.WideShapes
import Derived.Laws.Strings
import Derived.Test.YtbgggcgjijljkaaVFnShelvesWLast
import Derived.Test.YtbgggcgjijljkaaVFnShelvesWMore
import Derived.Test.YtbgggcgjijljkaaVFnShelvesWKept
import Derived.Lib.Bytealg
import Derived.Test.YtbgggcgjijljkaaVFnShelvesG25
namespace Go.Proofs.Ytbgggcgjijljkaa.Q
open Go.RowKit Go.Proofs.YtbgggcgjijljkaaW.PrintWords Go.Proofs.YtbgggcgjijljkaaW.PrintLast Go.Proofs.YtbgggcgjijljkaaW.PrintMore
attribute [local go_sem] max2_int min2_int max_two min_two max_three min_three max_four min_four   -- for this text's walks alone
set_option linter.unusedVariables false
set_option linter.unusedSimpArgs false
attribute [local go_sem high] eqA72
def laws_sameTexts.l0 : Nat → List ByteArray → List ByteArray → Int → Option (Bool)
 | 0, _, _, _ => none
 | k + 1, x0, x1, x5 => if x5 < (x0.length : Int) then (if 0 ≤ x5 then (if x5 < (x1.length : Int) then (if (rdOf ByteArray.empty x0 x5).toList = (rdOf ByteArray.empty x1 x5).toList then (laws_sameTexts.l0 k x0 x1 (wrap64 (x5 + 1))) else (some false)) else (none)) else (none)) else (some true)
def laws_sameTexts.f (k : Nat) (l0 : List ByteArray) (l1 : List ByteArray) : Option (Bool) := if (l0.length : Int) = (l1.length : Int) then (laws_sameTexts.l0 k l0 l1 0) else (some false)
set_option maxHeartbeats 8000000 in
set_option maxRecDepth 100000 in
theorem laws_sameTexts.calls (k : Nat) (A0 : Option Addr) (c0 : Nat) (l0 : List ByteArray) (A1 : Option Addr) (c1 : Nat) (l1 : List ByteArray) (r : Bool) (w : World) (hr0 : Kd.C Kd.string w A0 l0.length l0) (hc0 : l0.length ≤ c0) (hr1 : Kd.C Kd.string w A1 l1.length l1) (hc1 : l1.length ≤ c1) (h : laws_sameTexts.f k l0 l1 = some r) :
 Calls Try.prog 45 #[.slice A0 l0.length c0, .slice A1 l1.length c1] w fun e w' => e = .returned (.bool r) ∧ Drawn0 w w' := by
 have HR0 := Aside0.mk hr0
 have HC0 := Aside0.mk hc0
 clear hr0 hc0
 have HR1 := Aside0.mk hr1
 have HC1 := Aside0.mk hc1
 clear hr1 hc1
 have H : (if (l0.length : Int) = (l1.length : Int) then (laws_sameTexts.l0 k l0 l1 0) else (some false)) = some r := h
 clear h
 by_cases c3 : (l0.length : Int) = (l1.length : Int)
 rotate_left
 · rw [if_neg c3] at H
   have c3b0 : ((l0.length : Int) == (l1.length : Int)) = false := beq_eq_false_iff_ne.mpr c3
   have c3b1 : ((l0.length : Int) != (l1.length : Int)) = true := bne_iff_ne.mpr c3
   have c3b2 : (l0.length == l1.length) = false := by first | simpa using c3 | (simp at c3 ⊢; omega)
   obtain rfl := Option.some.inj H
   go_enter Try.func45, Try.ntmps45
   go_wp2
   repeat (go_quiet (fail); try go_wp2)
   go_ret
   exact ⟨rs_, dr_⟩
 rw [if_pos c3] at H
 have c3b0 : ((l0.length : Int) == (l1.length : Int)) = true := beq_iff_eq.mpr c3
 have c3b1 : ((l0.length : Int) != (l1.length : Int)) = false := bne_eq_false_iff_eq.mpr c3
 have c3b2 : (l0.length == l1.length) = true := by first | simpa using c3 | (simp at c3 ⊢; omega)
 clear c3
 have H' := Aside0.mk H
 clear H
 go_enter Try.func45, Try.ntmps45
 go_wp2
 repeat (go_quiet (fail); try go_wp2)
 go_loopg [5] k (fun kq v5 w' => ∃ (x5_1 : Int), v5 = .int .i64 x5_1 ∧ Aside0 (laws_sameTexts.l0 kq l0 l1 x5_1 = some r) ∧ Aside0 (kq ≤ k) ∧ Drawn0 w w')
 case atStart => exact ⟨(0), rs_, H', ⟨Nat.le_refl _⟩, dr_⟩
 case round =>
  clear H'
  try clear c1
  try clear p2
  try clear c3
  try clear c3b0
  try clear c3b1
  try clear c3b2
  obtain ⟨x5_1, rfl, HA, HK1, ⟨m1, rfl⟩⟩ := hrel
  cases gk with
  | zero => exact absurd HA.out (by simp [laws_sameTexts.l0])
  | succ k1 =>
   have H := HA.out
   clear HA
   simp only [laws_sameTexts.l0] at H
   by_cases c4 : x5_1 < (l0.length : Int)
   rotate_left
   · rw [if_neg c4] at H
     have c4b0 : decide (x5_1 < (l0.length : Int)) = false := decide_eq_false c4
     clear c4
     obtain rfl := Option.some.inj H
     go_wp2
     repeat (go_quiet (fail); try go_wp2)
     go_ret
     exact ⟨rs_, dr_⟩
   rw [if_pos c4] at H
   have c4b0 : decide (x5_1 < (l0.length : Int)) = true := decide_eq_true c4
   clear c4
   by_cases c5 : 0 ≤ x5_1
   rotate_left
   · exact absurd H (by rw [if_neg c5]; simp)
   rw [if_pos c5] at H
   have c5b0 : decide (0 ≤ x5_1) = true := decide_eq_true c5
   clear c5
   by_cases c6 : x5_1 < (l1.length : Int)
   rotate_left
   · exact absurd H (by rw [if_neg c6]; simp)
   rw [if_pos c6] at H
   have c6b0 : decide (x5_1 < (l1.length : Int)) = true := decide_eq_true c6
   clear c6
   by_cases c7 : (rdOf ByteArray.empty l0 x5_1).toList = (rdOf ByteArray.empty l1 x5_1).toList
   rotate_left
   · rw [if_neg c7] at H
     have c7b0 : ((rdOf ByteArray.empty l0 x5_1).toList == (rdOf ByteArray.empty l1 x5_1).toList) = false := beq_eq_false_iff_ne.mpr c7
     have c7b1 : ((rdOf ByteArray.empty l0 x5_1).toList != (rdOf ByteArray.empty l1 x5_1).toList) = true := bne_iff_ne.mpr c7
     obtain rfl := Option.some.inj H
     have p1237 : 0 ≤ (x5_1 : Int) := of_decide_eq_true as_
     have q1237 : x5_1 < (l0.length : Int) := of_decide_eq_true as_
     obtain ⟨ad1237, e1237, hx1237_0⟩ := Kd.at_string HR0.out x5_1 p1237 q1237
     cases e1237
     replace p1237 := eq_true p1237
     replace q1237 := eq_true q1237
     have p1238 : 0 ≤ (x5_1 : Int) := of_decide_eq_true as_
     have q1238 : x5_1 < (l1.length : Int) := of_decide_eq_true as_
     obtain ⟨ad1238, e1238, hx1238_0⟩ := Kd.at_string HR1.out x5_1 p1238 q1238
     cases e1238
     replace p1238 := eq_true p1238
     replace q1238 := eq_true q1238
     go_wp2
     repeat (go_quiet (fail); try go_wp2)
     go_ret
     exact ⟨rs_, dr_⟩
   rw [if_pos c7] at H
   have c7b0 : ((rdOf ByteArray.empty l0 x5_1).toList == (rdOf ByteArray.empty l1 x5_1).toList) = true := beq_iff_eq.mpr c7
   have c7b1 : ((rdOf ByteArray.empty l0 x5_1).toList != (rdOf ByteArray.empty l1 x5_1).toList) = false := bne_eq_false_iff_eq.mpr c7
   clear c7
   have H' := Aside0.mk H
   clear H
   have p1237 : 0 ≤ (x5_1 : Int) := of_decide_eq_true as_
   have q1237 : x5_1 < (l0.length : Int) := of_decide_eq_true as_
   obtain ⟨ad1237, e1237, hx1237_0⟩ := Kd.at_string HR0.out x5_1 p1237 q1237
   cases e1237
   replace p1237 := eq_true p1237
   replace q1237 := eq_true q1237
   have p1238 : 0 ≤ (x5_1 : Int) := of_decide_eq_true as_
   have q1238 : x5_1 < (l1.length : Int) := of_decide_eq_true as_
   obtain ⟨ad1238, e1238, hx1238_0⟩ := Kd.at_string HR1.out x5_1 p1238 q1238
   cases e1238
   replace p1238 := eq_true p1238
   replace q1238 := eq_true q1238
   go_wp2
   repeat (go_quiet (fail); try go_wp2)
   go_roundg k1
   case measure => have := HK1.out; omega
   case rel => exact ⟨(wrap64 (x5_1 + 1)), rs_, H', ⟨by have := HK1.out; omega⟩, dr_⟩
def laws_sameProps.l0 : Nat → List (S72) → List (S72) → Int → Option (Bool)
 | 0, _, _, _ => none
 | k + 1, x0, x1, x5 => if x5 < (x0.length : Int) then (if 0 ≤ x5 then (if x5 < (x1.length : Int) then (if (!((((rd_T72 x0 x5).f0).toList) == (((rd_T72 x1 x5).f0).toList)) || (!((((rd_T72 x0 x5).f1).toList) == (((rd_T72 x1 x5).f1).toList)) || (!((((rd_T72 x0 x5).f2).toList) == (((rd_T72 x1 x5).f2).toList))))) = true then (some false) else (laws_sameProps.l0 k x0 x1 (wrap64 (x5 + 1)))) else (none)) else (none)) else (some true)
def laws_sameProps.f (k : Nat) (l0 : List (S72)) (l1 : List (S72)) : Option (Bool) := if (l0.length : Int) = (l1.length : Int) then (laws_sameProps.l0 k l0 l1 0) else (some false)
set_option maxHeartbeats 8000000 in
set_option maxRecDepth 100000 in
theorem laws_sameProps.calls (k : Nat) (A0 : Option Addr) (c0 : Nat) (l0 : List (S72)) (A1 : Option Addr) (c1 : Nat) (l1 : List (S72)) (r : Bool) (w : World) (hr0 : Kd.C k72 w A0 l0.length l0) (hc0 : l0.length ≤ c0) (hr1 : Kd.C k72 w A1 l1.length l1) (hc1 : l1.length ≤ c1) (h : laws_sameProps.f k l0 l1 = some r) :
 Calls Try.prog 51 #[.slice A0 l0.length c0, .slice A1 l1.length c1] w fun e w' => e = .returned (.bool r) ∧ Drawn0 w w' := by
 have hu72 := Try.underlying72
 have HR0 := Aside0.mk hr0
 have HC0 := Aside0.mk hc0
 clear hr0 hc0
 have HR1 := Aside0.mk hr1
 have HC1 := Aside0.mk hc1
 clear hr1 hc1
 have H : (if (l0.length : Int) = (l1.length : Int) then (laws_sameProps.l0 k l0 l1 0) else (some false)) = some r := h
 clear h
 by_cases c3 : (l0.length : Int) = (l1.length : Int)
 rotate_left
 · rw [if_neg c3] at H
   have c3b0 : ((l0.length : Int) == (l1.length : Int)) = false := beq_eq_false_iff_ne.mpr c3
   have c3b1 : ((l0.length : Int) != (l1.length : Int)) = true := bne_iff_ne.mpr c3
   have c3b2 : (l0.length == l1.length) = false := by first | simpa using c3 | (simp at c3 ⊢; omega)
   obtain rfl := Option.some.inj H
   go_enter Try.func51, Try.ntmps51
   go_wp2
   repeat (go_quiet (fail); try go_wp2)
   go_ret
   exact ⟨rs_, dr_⟩
 rw [if_pos c3] at H
 have c3b0 : ((l0.length : Int) == (l1.length : Int)) = true := beq_iff_eq.mpr c3
 have c3b1 : ((l0.length : Int) != (l1.length : Int)) = false := bne_eq_false_iff_eq.mpr c3
 have c3b2 : (l0.length == l1.length) = true := by first | simpa using c3 | (simp at c3 ⊢; omega)
 clear c3
 have H' := Aside0.mk H
 clear H
 go_enter Try.func51, Try.ntmps51
 go_wp2
 repeat (go_quiet (fail); try go_wp2)
 go_loopg [5] k (fun kq v5 w' => ∃ (x5_1 : Int), v5 = .int .i64 x5_1 ∧ Aside0 (laws_sameProps.l0 kq l0 l1 x5_1 = some r) ∧ Aside0 (kq ≤ k) ∧ Drawn0 w w')
 case atStart => exact ⟨(0), rs_, H', ⟨Nat.le_refl _⟩, dr_⟩
 case round =>
  clear H'
  try clear c1
  try clear p2
  try clear c3
  try clear c3b0
  try clear c3b1
  try clear c3b2
  obtain ⟨x5_1, rfl, HA, HK1, ⟨m1, rfl⟩⟩ := hrel
  cases gk with
  | zero => exact absurd HA.out (by simp [laws_sameProps.l0])
  | succ k1 =>
   have H := HA.out
   clear HA
   simp only [laws_sameProps.l0] at H
   by_cases c4 : x5_1 < (l0.length : Int)
   rotate_left
   · rw [if_neg c4] at H
     have c4b0 : decide (x5_1 < (l0.length : Int)) = false := decide_eq_false c4
     clear c4
     obtain rfl := Option.some.inj H
     go_wp2
     repeat (go_quiet (fail); try go_wp2)
     go_ret
     exact ⟨rs_, dr_⟩
   rw [if_pos c4] at H
   have c4b0 : decide (x5_1 < (l0.length : Int)) = true := decide_eq_true c4
   clear c4
   by_cases c5 : 0 ≤ x5_1
   rotate_left
   · exact absurd H (by rw [if_neg c5]; simp)
   rw [if_pos c5] at H
   have c5b0 : decide (0 ≤ x5_1) = true := decide_eq_true c5
   clear c5
   by_cases c6 : x5_1 < (l1.length : Int)
   rotate_left
   · exact absurd H (by rw [if_neg c6]; simp)
   rw [if_pos c6] at H
   have c6b0 : decide (x5_1 < (l1.length : Int)) = true := decide_eq_true c6
   clear c6
   by_cases c7 : (!((((rd_T72 l0 x5_1).f0).toList) == (((rd_T72 l1 x5_1).f0).toList)) || (!((((rd_T72 l0 x5_1).f1).toList) == (((rd_T72 l1 x5_1).f1).toList)) || (!((((rd_T72 l0 x5_1).f2).toList) == (((rd_T72 l1 x5_1).f2).toList))))) = true
   · rw [if_pos c7] at H
     have c7b0 : (!((((rd_T72 l0 x5_1).f0).toList) == (((rd_T72 l1 x5_1).f0).toList)) || (!((((rd_T72 l0 x5_1).f1).toList) == (((rd_T72 l1 x5_1).f1).toList)) || (!((((rd_T72 l0 x5_1).f2).toList) == (((rd_T72 l1 x5_1).f2).toList))))) = true := c7
     clear c7
     obtain rfl := Option.some.inj H
     have p1239 : 0 ≤ (x5_1 : Int) := of_decide_eq_true as_
     have q1239 : x5_1 < (l0.length : Int) := of_decide_eq_true as_
     obtain ⟨ad1239, e1239, hx1239_0, hx1239_1, hx1239_2⟩ := at_T72 HR0.out x5_1 p1239 q1239
     cases e1239
     replace p1239 := eq_true p1239
     replace q1239 := eq_true q1239
     have p1240 : 0 ≤ (x5_1 : Int) := of_decide_eq_true as_
     have q1240 : x5_1 < (l1.length : Int) := of_decide_eq_true as_
     obtain ⟨ad1240, e1240, hx1240_0, hx1240_1, hx1240_2⟩ := at_T72 HR1.out x5_1 p1240 q1240
     cases e1240
     replace p1240 := eq_true p1240
     replace q1240 := eq_true q1240
     go_wp2
     repeat (go_quiet (fail); try go_wp2)
     go_ret
     exact ⟨rs_, dr_⟩
   rw [if_neg c7] at H
   have c7b0 : (!((((rd_T72 l0 x5_1).f0).toList) == (((rd_T72 l1 x5_1).f0).toList)) || (!((((rd_T72 l0 x5_1).f1).toList) == (((rd_T72 l1 x5_1).f1).toList)) || (!((((rd_T72 l0 x5_1).f2).toList) == (((rd_T72 l1 x5_1).f2).toList))))) = false := by simpa using c7
   clear c7
   have H' := Aside0.mk H
   clear H
   have p1239 : 0 ≤ (x5_1 : Int) := of_decide_eq_true as_
   have q1239 : x5_1 < (l0.length : Int) := of_decide_eq_true as_
   obtain ⟨ad1239, e1239, hx1239_0, hx1239_1, hx1239_2⟩ := at_T72 HR0.out x5_1 p1239 q1239
   cases e1239
   replace p1239 := eq_true p1239
   replace q1239 := eq_true q1239
   have p1240 : 0 ≤ (x5_1 : Int) := of_decide_eq_true as_
   have q1240 : x5_1 < (l1.length : Int) := of_decide_eq_true as_
   obtain ⟨ad1240, e1240, hx1240_0, hx1240_1, hx1240_2⟩ := at_T72 HR1.out x5_1 p1240 q1240
   cases e1240
   replace p1240 := eq_true p1240
   replace q1240 := eq_true q1240
   go_wp2
   repeat (go_quiet (fail); try go_wp2)
   go_roundg k1
   case measure => have := HK1.out; omega
   case rel => exact ⟨(wrap64 (x5_1 + 1)), rs_, H', ⟨by have := HK1.out; omega⟩, dr_⟩
def laws_sameRes.f (k : Nat) (l0_0 : List ByteArray) (a0_1 : Bool) (a0_2 : ByteArray) (a0_3 : Int) (l0_4 : List (S72)) (l1_0 : List ByteArray) (a1_1 : Bool) (a1_2 : ByteArray) (a1_3 : Int) (l1_4 : List (S72)) : Option (Bool) := (laws_sameTexts.f k l0_0 l1_0).bind fun t1243 => (if t1243 = true then (if (a0_1 == a1_1) = true then (if a0_2.toList = a1_2.toList then (if a0_3 = a1_3 then ((laws_sameProps.f k l0_4 l1_4).bind fun t1244 => (some t1244)) else (some false)) else (some false)) else (some false)) else (some false))
set_option maxHeartbeats 8000000 in
set_option maxRecDepth 100000 in
theorem laws_sameRes.calls (k : Nat) (A0_0 : Option Addr) (c0_0 : Nat) (l0_0 : List ByteArray) (a0_1 : Bool) (a0_2 : ByteArray) (a0_3 : Int) (A0_4 : Option Addr) (c0_4 : Nat) (l0_4 : List (S72)) (A1_0 : Option Addr) (c1_0 : Nat) (l1_0 : List ByteArray) (a1_1 : Bool) (a1_2 : ByteArray) (a1_3 : Int) (A1_4 : Option Addr) (c1_4 : Nat) (l1_4 : List (S72)) (r : Bool) (w : World) (hr0_0 : Kd.C Kd.string w A0_0 l0_0.length l0_0) (hc0_0 : l0_0.length ≤ c0_0) (hr0_4 : Kd.C k72 w A0_4 l0_4.length l0_4) (hc0_4 : l0_4.length ≤ c0_4) (hr1_0 : Kd.C Kd.string w A1_0 l1_0.length l1_0) (hc1_0 : l1_0.length ≤ c1_0) (hr1_4 : Kd.C k72 w A1_4 l1_4.length l1_4) (hc1_4 : l1_4.length ≤ c1_4) (h : laws_sameRes.f k l0_0 a0_1 a0_2 a0_3 l0_4 l1_0 a1_1 a1_2 a1_3 l1_4 = some r) :
 Calls Try.prog 46 #[.agg #[.slice A0_0 l0_0.length c0_0, .bool a0_1, .string a0_2, .int .i64 a0_3, .slice A0_4 l0_4.length c0_4], .agg #[.slice A1_0 l1_0.length c1_0, .bool a1_1, .string a1_2, .int .i64 a1_3, .slice A1_4 l1_4.length c1_4]] w fun e w' => e = .returned (.bool r) ∧ Below w.heap.size w w' := by
 have hu57 := Try.underlying57
 have HR0_0 := Aside0.mk hr0_0
 have HC0_0 := Aside0.mk hc0_0
 clear hr0_0 hc0_0
 have HR0_4 := Aside0.mk hr0_4
 have HC0_4 := Aside0.mk hc0_4
 clear hr0_4 hc0_4
 have HR1_0 := Aside0.mk hr1_0
 have HC1_0 := Aside0.mk hc1_0
 clear hr1_0 hc1_0
 have HR1_4 := Aside0.mk hr1_4
 have HC1_4 := Aside0.mk hc1_4
 clear hr1_4 hc1_4
 have HB := A_ (Below.refl w.heap.size w)
 have H : ((laws_sameTexts.f k l0_0 l1_0).bind fun t1243 => (if t1243 = true then (if (a0_1 == a1_1) = true then (if a0_2.toList = a1_2.toList then (if a0_3 = a1_3 then ((laws_sameProps.f k l0_4 l1_4).bind fun t1244 => (some t1244)) else (some false)) else (some false)) else (some false)) else (some false))) = some r := h
 clear h
 obtain ⟨t1243, A3, H⟩ := bo_ H
 (try dsimp only at H)
 by_cases c4 : t1243 = true
 · subst c4
   rw [if_pos rfl] at H
   by_cases c5 : (a0_1 == a1_1) = true
   rotate_left
   · rw [if_neg c5] at H
     have c5b0 : (a0_1 == a1_1) = false := by simpa using c5
     (try (have c5b1 : decide (a0_1 = a1_1) = false := by simpa using c5))
     (try (have c5b2 : (a0_1 == a1_1) = false := by simpa using c5))
     (try (have c5b3 : ¬ (a0_1 = a1_1) := by simpa using c5))
     clear c5
     obtain rfl := Option.some.inj H
     go_enter Try.func46, Try.ntmps46
     go_wp2_with (first | ((with_reducible refine gate_dst (N := 2) rfl ?_); refine bx_ (N := 2) (cs := #[.slice A0_0 l0_0.length c0_0, .bool a0_1, .string a0_2, .int .i64 a0_3, .slice A0_4 l0_4.length c0_4]) (t := 57) ?_; intro gb1241 hg w24 hbox hb; have BK1241 := A_ (hbox); have GW1241 := A_ (ge_ hg bB_ : w.heap.size ≤ gb1241); have GE1241 := A_ (ge_ hg bB_ : w.heap.size ≤ gb1241); replace HB := A_ (below_step bB_ hb); clear hb hbox hg) | ((with_reducible refine gate_dst (N := 3) rfl ?_); refine bx_ (N := 3) (cs := #[.slice A1_0 l1_0.length c1_0, .bool a1_1, .string a1_2, .int .i64 a1_3, .slice A1_4 l1_4.length c1_4]) (t := 57) ?_; intro gb1242 hg w25 hbox hb; have BK1242 := A_ (hbox); have GW1242 := A_ (ge_ hg (bG_ GE1241.out) : w.heap.size ≤ gb1242); have GE1242 := A_ (ge_ hg (bG_ GE1241.out) : w.heap.size ≤ gb1242); replace HB := A_ (below_step (bG_ GE1241.out) hb); have NB1241_1242 := A_ (gm_ hg BK1241.out); have NB1242_1241 := A_ (gn_ hg BK1241.out); replace BK1241 := A_ (bw_ BK1241.out hb); clear hb hbox hg; have hnb26 := NB1241_1242.out; have hnc26 := NB1242_1241.out; obtain ⟨hcz27_0, hcz27_1, hcz27_2, hcz27_3, hcz27_4, hfz27_0, hfz27_1, hfz27_2, hfz27_3, hfz27_4⟩ := cz5_ BK1241.out; obtain ⟨hcz28_0, hcz28_1, hcz28_2, hcz28_3, hcz28_4, hfz28_0, hfz28_1, hfz28_2, hfz28_3, hfz28_4⟩ := cz5_ BK1242.out) | ((with_reducible refine gate_callee (f := 45) rfl ?_); refine gL_ (some 9) Try.func45 #[.slice A0_0 l0_0.length c0_0, .slice A1_0 l1_0.length c1_0] ?_; (with_reducible refine (laws_sameTexts.calls k _ _ l0_0 _ _ l1_0 true _ ?s1 ?s2 ?s3 ?s4 A3.out).mono ?_); (case s1 => exact cC_ (Kd.C_below HR0_0.out HB.out)); (case s2 => exact HC0_0.out); (case s3 => exact cC_ (Kd.C_below HR1_0.out HB.out)); (case s4 => exact HC1_0.out); rintro e w' ⟨rfl, ⟨nd, rfl⟩⟩; refine ⟨_, rfl, ?_⟩))
     go_ret
     exact ⟨rr_, by repeat (first | (with_reducible first | exact HB.out | apply below_alloc | apply pw_below_drewN | apply below_drew1 | refine below_set ?_ GE1241.out | refine below_set ?_ GE1242.out) | exact HB.out)⟩
   rw [if_pos c5] at H
   have c5b0 : (a0_1 == a1_1) = true := c5
   (try (have c5b1 : decide (a0_1 = a1_1) = true := by simpa using c5))
   (try (have c5b2 : (a0_1 == a1_1) = true := by simpa using c5))
   clear c5
   by_cases c6 : a0_2.toList = a1_2.toList
   rotate_left
   · rw [if_neg c6] at H
     have c6b0 : (a0_2.toList == a1_2.toList) = false := beq_eq_false_iff_ne.mpr c6
     have c6b1 : (a0_2.toList != a1_2.toList) = true := bne_iff_ne.mpr c6
     obtain rfl := Option.some.inj H
     go_enter Try.func46, Try.ntmps46
     go_wp2_with (first | ((with_reducible refine gate_dst (N := 2) rfl ?_); refine bx_ (N := 2) (cs := #[.slice A0_0 l0_0.length c0_0, .bool a0_1, .string a0_2, .int .i64 a0_3, .slice A0_4 l0_4.length c0_4]) (t := 57) ?_; intro gb1241 hg w19 hbox hb; have BK1241 := A_ (hbox); have GW1241 := A_ (ge_ hg bB_ : w.heap.size ≤ gb1241); have GE1241 := A_ (ge_ hg bB_ : w.heap.size ≤ gb1241); replace HB := A_ (below_step bB_ hb); clear hb hbox hg) | ((with_reducible refine gate_dst (N := 3) rfl ?_); refine bx_ (N := 3) (cs := #[.slice A1_0 l1_0.length c1_0, .bool a1_1, .string a1_2, .int .i64 a1_3, .slice A1_4 l1_4.length c1_4]) (t := 57) ?_; intro gb1242 hg w20 hbox hb; have BK1242 := A_ (hbox); have GW1242 := A_ (ge_ hg (bG_ GE1241.out) : w.heap.size ≤ gb1242); have GE1242 := A_ (ge_ hg (bG_ GE1241.out) : w.heap.size ≤ gb1242); replace HB := A_ (below_step (bG_ GE1241.out) hb); have NB1241_1242 := A_ (gm_ hg BK1241.out); have NB1242_1241 := A_ (gn_ hg BK1241.out); replace BK1241 := A_ (bw_ BK1241.out hb); clear hb hbox hg; have hnb21 := NB1241_1242.out; have hnc21 := NB1242_1241.out; obtain ⟨hcz22_0, hcz22_1, hcz22_2, hcz22_3, hcz22_4, hfz22_0, hfz22_1, hfz22_2, hfz22_3, hfz22_4⟩ := cz5_ BK1241.out; obtain ⟨hcz23_0, hcz23_1, hcz23_2, hcz23_3, hcz23_4, hfz23_0, hfz23_1, hfz23_2, hfz23_3, hfz23_4⟩ := cz5_ BK1242.out) | ((with_reducible refine gate_callee (f := 45) rfl ?_); refine gL_ (some 9) Try.func45 #[.slice A0_0 l0_0.length c0_0, .slice A1_0 l1_0.length c1_0] ?_; (with_reducible refine (laws_sameTexts.calls k _ _ l0_0 _ _ l1_0 true _ ?s1 ?s2 ?s3 ?s4 A3.out).mono ?_); (case s1 => exact cC_ (Kd.C_below HR0_0.out HB.out)); (case s2 => exact HC0_0.out); (case s3 => exact cC_ (Kd.C_below HR1_0.out HB.out)); (case s4 => exact HC1_0.out); rintro e w' ⟨rfl, ⟨nd, rfl⟩⟩; refine ⟨_, rfl, ?_⟩))
     go_ret
     exact ⟨rr_, by repeat (first | (with_reducible first | exact HB.out | apply below_alloc | apply pw_below_drewN | apply below_drew1 | refine below_set ?_ GE1241.out | refine below_set ?_ GE1242.out) | exact HB.out)⟩
   rw [if_pos c6] at H
   have c6b0 : (a0_2.toList == a1_2.toList) = true := beq_iff_eq.mpr c6
   have c6b1 : (a0_2.toList != a1_2.toList) = false := bne_eq_false_iff_eq.mpr c6
   clear c6
   by_cases c7 : a0_3 = a1_3
   rotate_left
   · rw [if_neg c7] at H
     have c7b0 : (a0_3 == a1_3) = false := beq_eq_false_iff_ne.mpr c7
     have c7b1 : (a0_3 != a1_3) = true := bne_iff_ne.mpr c7
     obtain rfl := Option.some.inj H
     go_enter Try.func46, Try.ntmps46
     go_wp2_with (first | ((with_reducible refine gate_dst (N := 2) rfl ?_); refine bx_ (N := 2) (cs := #[.slice A0_0 l0_0.length c0_0, .bool a0_1, .string a0_2, .int .i64 a0_3, .slice A0_4 l0_4.length c0_4]) (t := 57) ?_; intro gb1241 hg w14 hbox hb; have BK1241 := A_ (hbox); have GW1241 := A_ (ge_ hg bB_ : w.heap.size ≤ gb1241); have GE1241 := A_ (ge_ hg bB_ : w.heap.size ≤ gb1241); replace HB := A_ (below_step bB_ hb); clear hb hbox hg) | ((with_reducible refine gate_dst (N := 3) rfl ?_); refine bx_ (N := 3) (cs := #[.slice A1_0 l1_0.length c1_0, .bool a1_1, .string a1_2, .int .i64 a1_3, .slice A1_4 l1_4.length c1_4]) (t := 57) ?_; intro gb1242 hg w15 hbox hb; have BK1242 := A_ (hbox); have GW1242 := A_ (ge_ hg (bG_ GE1241.out) : w.heap.size ≤ gb1242); have GE1242 := A_ (ge_ hg (bG_ GE1241.out) : w.heap.size ≤ gb1242); replace HB := A_ (below_step (bG_ GE1241.out) hb); have NB1241_1242 := A_ (gm_ hg BK1241.out); have NB1242_1241 := A_ (gn_ hg BK1241.out); replace BK1241 := A_ (bw_ BK1241.out hb); clear hb hbox hg; have hnb16 := NB1241_1242.out; have hnc16 := NB1242_1241.out; obtain ⟨hcz17_0, hcz17_1, hcz17_2, hcz17_3, hcz17_4, hfz17_0, hfz17_1, hfz17_2, hfz17_3, hfz17_4⟩ := cz5_ BK1241.out; obtain ⟨hcz18_0, hcz18_1, hcz18_2, hcz18_3, hcz18_4, hfz18_0, hfz18_1, hfz18_2, hfz18_3, hfz18_4⟩ := cz5_ BK1242.out) | ((with_reducible refine gate_callee (f := 45) rfl ?_); refine gL_ (some 9) Try.func45 #[.slice A0_0 l0_0.length c0_0, .slice A1_0 l1_0.length c1_0] ?_; (with_reducible refine (laws_sameTexts.calls k _ _ l0_0 _ _ l1_0 true _ ?s1 ?s2 ?s3 ?s4 A3.out).mono ?_); (case s1 => exact cC_ (Kd.C_below HR0_0.out HB.out)); (case s2 => exact HC0_0.out); (case s3 => exact cC_ (Kd.C_below HR1_0.out HB.out)); (case s4 => exact HC1_0.out); rintro e w' ⟨rfl, ⟨nd, rfl⟩⟩; refine ⟨_, rfl, ?_⟩))
     go_ret
     exact ⟨rr_, by repeat (first | (with_reducible first | exact HB.out | apply below_alloc | apply pw_below_drewN | apply below_drew1 | refine below_set ?_ GE1241.out | refine below_set ?_ GE1242.out) | exact HB.out)⟩
   rw [if_pos c7] at H
   have c7b0 : (a0_3 == a1_3) = true := beq_iff_eq.mpr c7
   have c7b1 : (a0_3 != a1_3) = false := bne_eq_false_iff_eq.mpr c7
   clear c7
   obtain ⟨t1244, A8, H⟩ := bo_ H
   (try dsimp only at H)
   obtain rfl := Option.some.inj H
   go_enter Try.func46, Try.ntmps46
   go_wp2_with (first | ((with_reducible refine gate_dst (N := 2) rfl ?_); refine bx_ (N := 2) (cs := #[.slice A0_0 l0_0.length c0_0, .bool a0_1, .string a0_2, .int .i64 a0_3, .slice A0_4 l0_4.length c0_4]) (t := 57) ?_; intro gb1241 hg w9 hbox hb; have BK1241 := A_ (hbox); have GW1241 := A_ (ge_ hg bB_ : w.heap.size ≤ gb1241); have GE1241 := A_ (ge_ hg bB_ : w.heap.size ≤ gb1241); replace HB := A_ (below_step bB_ hb); clear hb hbox hg) | ((with_reducible refine gate_dst (N := 3) rfl ?_); refine bx_ (N := 3) (cs := #[.slice A1_0 l1_0.length c1_0, .bool a1_1, .string a1_2, .int .i64 a1_3, .slice A1_4 l1_4.length c1_4]) (t := 57) ?_; intro gb1242 hg w10 hbox hb; have BK1242 := A_ (hbox); have GW1242 := A_ (ge_ hg (bG_ GE1241.out) : w.heap.size ≤ gb1242); have GE1242 := A_ (ge_ hg (bG_ GE1241.out) : w.heap.size ≤ gb1242); replace HB := A_ (below_step (bG_ GE1241.out) hb); have NB1241_1242 := A_ (gm_ hg BK1241.out); have NB1242_1241 := A_ (gn_ hg BK1241.out); replace BK1241 := A_ (bw_ BK1241.out hb); clear hb hbox hg; have hnb11 := NB1241_1242.out; have hnc11 := NB1242_1241.out; obtain ⟨hcz12_0, hcz12_1, hcz12_2, hcz12_3, hcz12_4, hfz12_0, hfz12_1, hfz12_2, hfz12_3, hfz12_4⟩ := cz5_ BK1241.out; obtain ⟨hcz13_0, hcz13_1, hcz13_2, hcz13_3, hcz13_4, hfz13_0, hfz13_1, hfz13_2, hfz13_3, hfz13_4⟩ := cz5_ BK1242.out) | ((with_reducible refine gate_callee (f := 45) rfl ?_); refine gL_ (some 9) Try.func45 #[.slice A0_0 l0_0.length c0_0, .slice A1_0 l1_0.length c1_0] ?_; (with_reducible refine (laws_sameTexts.calls k _ _ l0_0 _ _ l1_0 true _ ?s1 ?s2 ?s3 ?s4 A3.out).mono ?_); (case s1 => exact cC_ (Kd.C_below HR0_0.out HB.out)); (case s2 => exact HC0_0.out); (case s3 => exact cC_ (Kd.C_below HR1_0.out HB.out)); (case s4 => exact HC1_0.out); rintro e w' ⟨rfl, ⟨nd, rfl⟩⟩; refine ⟨_, rfl, ?_⟩) | (go_at_call 51; (with_reducible refine (laws_sameProps.calls k _ _ l0_4 _ _ l1_4 t1244 _ ?s1 ?s2 ?s3 ?s4 A8.out).mono ?_); (case s1 => repeat (first | exact (Kd.C_below HR0_4.out (by repeat (first | (with_reducible first | exact HB.out | apply below_alloc | apply pw_below_drewN | apply below_drew1 | refine below_set ?_ GE1241.out | refine below_set ?_ GE1242.out) | exact HB.out))) | (with_reducible refine Kd.C_alloc ?_ _) | (with_reducible refine Kd.C_drewN ?_ _) | (with_reducible refine Kd.C_drew ?_))); (case s2 => exact HC0_4.out); (case s3 => repeat (first | exact (Kd.C_below HR1_4.out (by repeat (first | (with_reducible first | exact HB.out | apply below_alloc | apply pw_below_drewN | apply below_drew1 | refine below_set ?_ GE1241.out | refine below_set ?_ GE1242.out) | exact HB.out))) | (with_reducible refine Kd.C_alloc ?_ _) | (with_reducible refine Kd.C_drewN ?_ _) | (with_reducible refine Kd.C_drew ?_))); (case s4 => exact HC1_4.out); rintro e w' ⟨rfl, ⟨nd, rfl⟩⟩))
   go_ret
   exact ⟨rr_, by repeat (first | (with_reducible first | exact HB.out | apply below_alloc | apply pw_below_drewN | apply below_drew1 | refine below_set ?_ GE1241.out | refine below_set ?_ GE1242.out) | exact HB.out)⟩
 · replace c4 := Bool.eq_false_iff.mpr c4
   subst c4
   rw [if_neg nf_] at H
   obtain rfl := Option.some.inj H
   go_enter Try.func46, Try.ntmps46
   go_wp2_with (first | ((with_reducible refine gate_dst (N := 2) rfl ?_); refine bx_ (N := 2) (cs := #[.slice A0_0 l0_0.length c0_0, .bool a0_1, .string a0_2, .int .i64 a0_3, .slice A0_4 l0_4.length c0_4]) (t := 57) ?_; intro gb1241 hg w29 hbox hb; have BK1241 := A_ (hbox); have GW1241 := A_ (ge_ hg bB_ : w.heap.size ≤ gb1241); have GE1241 := A_ (ge_ hg bB_ : w.heap.size ≤ gb1241); replace HB := A_ (below_step bB_ hb); clear hb hbox hg) | ((with_reducible refine gate_dst (N := 3) rfl ?_); refine bx_ (N := 3) (cs := #[.slice A1_0 l1_0.length c1_0, .bool a1_1, .string a1_2, .int .i64 a1_3, .slice A1_4 l1_4.length c1_4]) (t := 57) ?_; intro gb1242 hg w30 hbox hb; have BK1242 := A_ (hbox); have GW1242 := A_ (ge_ hg (bG_ GE1241.out) : w.heap.size ≤ gb1242); have GE1242 := A_ (ge_ hg (bG_ GE1241.out) : w.heap.size ≤ gb1242); replace HB := A_ (below_step (bG_ GE1241.out) hb); have NB1241_1242 := A_ (gm_ hg BK1241.out); have NB1242_1241 := A_ (gn_ hg BK1241.out); replace BK1241 := A_ (bw_ BK1241.out hb); clear hb hbox hg; have hnb31 := NB1241_1242.out; have hnc31 := NB1242_1241.out; obtain ⟨hcz32_0, hcz32_1, hcz32_2, hcz32_3, hcz32_4, hfz32_0, hfz32_1, hfz32_2, hfz32_3, hfz32_4⟩ := cz5_ BK1241.out; obtain ⟨hcz33_0, hcz33_1, hcz33_2, hcz33_3, hcz33_4, hfz33_0, hfz33_1, hfz33_2, hfz33_3, hfz33_4⟩ := cz5_ BK1242.out) | ((with_reducible refine gate_callee (f := 45) rfl ?_); refine gL_ (some 9) Try.func45 #[.slice A0_0 l0_0.length c0_0, .slice A1_0 l1_0.length c1_0] ?_; (with_reducible refine (laws_sameTexts.calls k _ _ l0_0 _ _ l1_0 false _ ?s1 ?s2 ?s3 ?s4 A3.out).mono ?_); (case s1 => exact cC_ (Kd.C_below HR0_0.out HB.out)); (case s2 => exact HC0_0.out); (case s3 => exact cC_ (Kd.C_below HR1_0.out HB.out)); (case s4 => exact HC1_0.out); rintro e w' ⟨rfl, ⟨nd, rfl⟩⟩; refine ⟨_, rfl, ?_⟩))
   go_ret
   exact ⟨rr_, by repeat (first | (with_reducible first | exact HB.out | apply below_alloc | apply pw_below_drewN | apply below_drew1 | refine below_set ?_ GE1241.out | refine below_set ?_ GE1242.out) | exact HB.out)⟩
def laws_sameTree.l0 : Nat → List (S57) → List (S57) → Int → Option (Bool)
 | 0, _, _, _ => none
 | k + 1, x0, x1, x5 => if x5 < (x0.length : Int) then (if 0 ≤ x5 then (if x5 < (x1.length : Int) then ((laws_sameRes.f k ((rd_T57 x0 x5).f0) ((rd_T57 x0 x5).f1) ((rd_T57 x0 x5).f2) ((rd_T57 x0 x5).f3) ((rd_T57 x0 x5).f4) ((rd_T57 x1 x5).f0) ((rd_T57 x1 x5).f1) ((rd_T57 x1 x5).f2) ((rd_T57 x1 x5).f3) ((rd_T57 x1 x5).f4)).bind fun t1247 => (if t1247 = true then (laws_sameTree.l0 k x0 x1 (wrap64 (x5 + 1))) else (some false))) else (none)) else (none)) else (some true)
def laws_sameTree.f (k : Nat) (l0 : List (S57)) (l1 : List (S57)) : Option (Bool) := if (l0.length : Int) = (l1.length : Int) then (laws_sameTree.l0 k l0 l1 0) else (some false)
def laws_sameTree.T6 : Bool × List (List Nat × List Nat) := (true, [([], []), ([], []), ([0, 1], [0, 1]), ([2], [2]), ([], []), ([], []), ([4, 5], [4, 5]), ([6], [6]), ([3, 7], [3, 7]), ([8], [8])])
def laws_sameTree.B6 : List Nat := [0, 0, 3, 7, 0, 0, 48, 112, 255, 511]
theorem laws_sameTree.tab6 : rtab .any (opsOf Try.f41 6) = laws_sameTree.T6 := by kernel_rfl
theorem laws_sameTree.bits6 : waitsOk laws_sameTree.T6.2 laws_sameTree.B6 = true := by kernel_rfl
set_option maxHeartbeats 8000000 in
set_option maxRecDepth 100000 in
theorem laws_sameTree.calls (k : Nat) (A0 : Option Addr) (c0 : Nat) (l0 : List (S57)) (A1 : Option Addr) (c1 : Nat) (l1 : List (S57)) (r : Bool) (w : World) (hr0 : Kd.C k57 w A0 l0.length l0) (hc0 : l0.length ≤ c0) (hr1 : Kd.C k57 w A1 l1.length l1) (hc1 : l1.length ≤ c1) (h : laws_sameTree.f k l0 l1 = some r) :
 Calls Try.prog 41 #[.slice A0 l0.length c0, .slice A1 l1.length c1] w fun e w' => e = .returned (.bool r) ∧ Below w.heap.size w w' := by
 have hu57 := Try.underlying57
 have HR0 := Aside0.mk hr0
 have HC0 := Aside0.mk hc0
 clear hr0 hc0
 have HR1 := Aside0.mk hr1
 have HC1 := Aside0.mk hc1
 clear hr1 hc1
 have HB := A_ (Below.refl w.heap.size w)
 have H : (if (l0.length : Int) = (l1.length : Int) then (laws_sameTree.l0 k l0 l1 0) else (some false)) = some r := h
 clear h
 by_cases c3 : (l0.length : Int) = (l1.length : Int)
 rotate_left
 · rw [if_neg c3] at H
   have c3b0 : ((l0.length : Int) == (l1.length : Int)) = false := beq_eq_false_iff_ne.mpr c3
   have c3b1 : ((l0.length : Int) != (l1.length : Int)) = true := bne_iff_ne.mpr c3
   have c3b2 : (l0.length == l1.length) = false := by first | simpa using c3 | (simp at c3 ⊢; omega)
   obtain rfl := Option.some.inj H
   go_enter Try.func41, Try.ntmps41
   go_wp2
   go_ret
   exact ⟨rr_, bB_⟩
 rw [if_pos c3] at H
 have c3b0 : ((l0.length : Int) == (l1.length : Int)) = true := beq_iff_eq.mpr c3
 have c3b1 : ((l0.length : Int) != (l1.length : Int)) = false := bne_eq_false_iff_eq.mpr c3
 have c3b2 : (l0.length == l1.length) = true := by first | simpa using c3 | (simp at c3 ⊢; omega)
 clear c3
 have H' := Aside0.mk H
 clear H
 go_enter Try.func41, Try.ntmps41
 go_wp2
 go_loopg [5] k (fun kq v5 w' => ∃ (x5_1 : Int), v5 = .int .i64 x5_1 ∧ Aside0 (laws_sameTree.l0 kq l0 l1 x5_1 = some r) ∧ Aside0 (kq ≤ k) ∧ Aside0 (Below w.heap.size w w'))
 case atStart => exact ⟨(0), rs_, H', ⟨Nat.le_refl _⟩, ⟨bB_⟩⟩
 case round =>
  clear H'
  try clear c1
  try clear p2
  try clear c3
  try clear c3b0
  try clear c3b1
  try clear c3b2
  obtain ⟨x5_1, rfl, HA, HK1, HB⟩ := hrel
  cases gk with
  | zero => exact absurd HA.out (by simp [laws_sameTree.l0])
  | succ k1 =>
   have H := HA.out
   clear HA
   simp only [laws_sameTree.l0] at H
   by_cases c4 : x5_1 < (l0.length : Int)
   rotate_left
   · rw [if_neg c4] at H
     have c4b0 : decide (x5_1 < (l0.length : Int)) = false := decide_eq_false c4
     clear c4
     obtain rfl := Option.some.inj H
     go_wp2
     go_ret
     exact ⟨rr_, bB_⟩
   rw [if_pos c4] at H
   have c4b0 : decide (x5_1 < (l0.length : Int)) = true := decide_eq_true c4
   clear c4
   by_cases c5 : 0 ≤ x5_1
   rotate_left
   · exact absurd H (by rw [if_neg c5]; simp)
   rw [if_pos c5] at H
   have c5b0 : decide (0 ≤ x5_1) = true := decide_eq_true c5
   clear c5
   by_cases c6 : x5_1 < (l1.length : Int)
   rotate_left
   · exact absurd H (by rw [if_neg c6]; simp)
   rw [if_pos c6] at H
   have c6b0 : decide (x5_1 < (l1.length : Int)) = true := decide_eq_true c6
   clear c6
   obtain ⟨t1247, A7, H⟩ := bo_ H
   (try dsimp only at H)
   by_cases c8 : t1247 = true
   · subst c8
     rw [if_pos rfl] at H
     have H' := Aside0.mk H
     clear H
     try go_wp2
     replace HB := A_ (below_drew1 HB.out)
     have p1245 : 0 ≤ (x5_1 : Int) := of_decide_eq_true as_
     have q1245 : x5_1 < (l0.length : Int) := of_decide_eq_true as_
     obtain ⟨ad1245, A1245_0, c1245_0, A1245_4, c1245_4, e1245, hx1245_0, hx1245_1, hx1245_2, hx1245_3, hx1245_4, hl1245_0, hi1245_0, hl1245_4, hi1245_4⟩ := at_T57 HR0.out x5_1 p1245 q1245
     have hw1245_4 := hx1245_4
     have hw1245_3 := hx1245_3
     have hw1245_2 := hx1245_2
     have hw1245_1 := hx1245_1
     have hw1245_0 := hx1245_0
     cases e1245
     replace hx1245_0 := bc_ HB.out hx1245_0
     replace hx1245_1 := bc_ HB.out hx1245_1
     replace hx1245_2 := bc_ HB.out hx1245_2
     replace hx1245_3 := bc_ HB.out hx1245_3
     replace hx1245_4 := bc_ HB.out hx1245_4
     have HR1245_0 := Aside0.mk hi1245_0
     have HC1245_0 := Aside0.mk hl1245_0
     clear hi1245_0 hl1245_0
     have HR1245_4 := Aside0.mk hi1245_4
     have HC1245_4 := Aside0.mk hl1245_4
     clear hi1245_4 hl1245_4
     replace p1245 := eq_true p1245
     replace q1245 := eq_true q1245
     have p1246 : 0 ≤ (x5_1 : Int) := of_decide_eq_true as_
     have q1246 : x5_1 < (l1.length : Int) := of_decide_eq_true as_
     obtain ⟨ad1246, A1246_0, c1246_0, A1246_4, c1246_4, e1246, hx1246_0, hx1246_1, hx1246_2, hx1246_3, hx1246_4, hl1246_0, hi1246_0, hl1246_4, hi1246_4⟩ := at_T57 HR1.out x5_1 p1246 q1246
     have hw1246_4 := hx1246_4
     have hw1246_3 := hx1246_3
     have hw1246_2 := hx1246_2
     have hw1246_1 := hx1246_1
     have hw1246_0 := hx1246_0
     cases e1246
     replace hx1246_0 := bc_ HB.out hx1246_0
     replace hx1246_1 := bc_ HB.out hx1246_1
     replace hx1246_2 := bc_ HB.out hx1246_2
     replace hx1246_3 := bc_ HB.out hx1246_3
     replace hx1246_4 := bc_ HB.out hx1246_4
     have HR1246_0 := Aside0.mk hi1246_0
     have HC1246_0 := Aside0.mk hl1246_0
     clear hi1246_0 hl1246_0
     have HR1246_4 := Aside0.mk hi1246_4
     have HC1246_4 := Aside0.mk hl1246_4
     clear hi1246_4 hl1246_4
     replace p1246 := eq_true p1246
     replace q1246 := eq_true q1246
     refine start_ (n := 10) (S := fun w' => w'.cell? (ad1245.add ((x5_1).toNat * 5)) = some (.slice A1245_0 ((rd_T57 l0 x5_1).f0).length c1245_0) ∧ w'.cell? ⟨(ad1245.add ((x5_1).toNat * 5)).block, (ad1245.add ((x5_1).toNat * 5)).off + 1, none⟩ = some (.bool ((rd_T57 l0 x5_1).f1)) ∧ w'.cell? ⟨(ad1245.add ((x5_1).toNat * 5)).block, (ad1245.add ((x5_1).toNat * 5)).off + 2, none⟩ = some (.string ((rd_T57 l0 x5_1).f2)) ∧ w'.cell? ⟨(ad1245.add ((x5_1).toNat * 5)).block, (ad1245.add ((x5_1).toNat * 5)).off + 3, none⟩ = some (.int .i64 ((rd_T57 l0 x5_1).f3)) ∧ w'.cell? ⟨(ad1245.add ((x5_1).toNat * 5)).block, (ad1245.add ((x5_1).toNat * 5)).off + 4, none⟩ = some (.slice A1245_4 ((rd_T57 l0 x5_1).f4).length c1245_4) ∧ w'.cell? (ad1246.add ((x5_1).toNat * 5)) = some (.slice A1246_0 ((rd_T57 l1 x5_1).f0).length c1246_0) ∧ w'.cell? ⟨(ad1246.add ((x5_1).toNat * 5)).block, (ad1246.add ((x5_1).toNat * 5)).off + 1, none⟩ = some (.bool ((rd_T57 l1 x5_1).f1)) ∧ w'.cell? ⟨(ad1246.add ((x5_1).toNat * 5)).block, (ad1246.add ((x5_1).toNat * 5)).off + 2, none⟩ = some (.string ((rd_T57 l1 x5_1).f2)) ∧ w'.cell? ⟨(ad1246.add ((x5_1).toNat * 5)).block, (ad1246.add ((x5_1).toNat * 5)).off + 3, none⟩ = some (.int .i64 ((rd_T57 l1 x5_1).f3)) ∧ w'.cell? ⟨(ad1246.add ((x5_1).toNat * 5)).block, (ad1246.add ((x5_1).toNat * 5)).off + 4, none⟩ = some (.slice A1246_4 ((rd_T57 l1 x5_1).f4).length c1246_4)) (ds := []) #[false, false, false, false, false, false, false, false, false, false] (by kernel_rfl) rfl rfl ⟨((HB.out.cell (World.block_lt_of_cell? w _ hw1245_0)).trans hw1245_0), ((HB.out.cell (World.block_lt_of_cell? w _ hw1245_1)).trans hw1245_1), ((HB.out.cell (World.block_lt_of_cell? w _ hw1245_2)).trans hw1245_2), ((HB.out.cell (World.block_lt_of_cell? w _ hw1245_3)).trans hw1245_3), ((HB.out.cell (World.block_lt_of_cell? w _ hw1245_4)).trans hw1245_4), ((HB.out.cell (World.block_lt_of_cell? w _ hw1246_0)).trans hw1246_0), ((HB.out.cell (World.block_lt_of_cell? w _ hw1246_1)).trans hw1246_1), ((HB.out.cell (World.block_lt_of_cell? w _ hw1246_2)).trans hw1246_2), ((HB.out.cell (World.block_lt_of_cell? w _ hw1246_3)).trans hw1246_3), ((HB.out.cell (World.block_lt_of_cell? w _ hw1246_4)).trans hw1246_4)⟩ (fun hHeld => ?_); refine with_tabW laws_sameTree.tab6 laws_sameTree.bits6 (fun HT_ HW_ => ?_)
     generalize wr.drew = w9 at HB HR1245_0 HR1245_4 HR1246_0 HR1246_4 hx1245_0 hx1245_1 hx1245_2 hx1245_3 hx1245_4 hx1246_0 hx1246_1 hx1246_2 hx1246_3 hx1246_4 hHeld ⊢
     refine pu_ (i := 0) (N := some 17) ?_
     refine pu_ (i := 1) (N := some 18) ?_
     refine pu_ (i := 2) (N := some 19) ?_
     refine pu_ (i := 4) (N := some 21) ?_
     refine pu_ (i := 5) (N := some 22) ?_
     refine pu_ (i := 6) (N := some 23) ?_
     refine tk_ (i := 3) (N := some 20) hHeld ?_
     refine tk_ (i := 7) (N := some 24) hHeld ?_
     refine on_ (i := 8) (N := some 25) (fun K hK => ?_)
     refine goes_ Try.func46 (by kernel_rfl) rfl #[.agg #[.slice A1245_0 ((rd_T57 l0 x5_1).f0).length c1245_0, .bool ((rd_T57 l0 x5_1).f1), .string ((rd_T57 l0 x5_1).f2), .int .i64 ((rd_T57 l0 x5_1).f3), .slice A1245_4 ((rd_T57 l0 x5_1).f4).length c1245_4], .agg #[.slice A1246_0 ((rd_T57 l1 x5_1).f0).length c1246_0, .bool ((rd_T57 l1 x5_1).f1), .string ((rd_T57 l1 x5_1).f2), .int .i64 ((rd_T57 l1 x5_1).f3), .slice A1246_4 ((rd_T57 l1 x5_1).f4).length c1246_4]] (by rfl) rfl rfl ml_ ?_
     with_reducible refine (laws_sameRes.calls k1 _ _ ((rd_T57 l0 x5_1).f0) ((rd_T57 l0 x5_1).f1) ((rd_T57 l0 x5_1).f2) ((rd_T57 l0 x5_1).f3) _ _ ((rd_T57 l0 x5_1).f4) _ _ ((rd_T57 l1 x5_1).f0) ((rd_T57 l1 x5_1).f1) ((rd_T57 l1 x5_1).f2) ((rd_T57 l1 x5_1).f3) _ _ ((rd_T57 l1 x5_1).f4) true _ ?s1 ?s2 ?s3 ?s4 ?s5 ?s6 ?s7 ?s8 A7.out).mono ?_
     (case s1 => exact cC_ (Kd.C_below HR1245_0.out HB.out))
     (case s2 => exact HC1245_0.out)
     (case s3 => exact cC_ (Kd.C_below HR1245_4.out HB.out))
     (case s4 => exact HC1245_4.out)
     (case s5 => exact cC_ (Kd.C_below HR1246_0.out HB.out))
     (case s6 => exact HC1246_0.out)
     (case s7 => exact cC_ (Kd.C_below HR1246_4.out HB.out))
     (case s8 => exact HC1246_4.out)
     rintro e w10 ⟨rfl, hb⟩
     refine ⟨_, rfl, ?_⟩
     replace HB := A_ (below_step bB_ hb)
     (try clear hb)
     (try clear hb2)
     (try clear hk)
     (try clear hi)
     refine hK.out _ _ ⟨((HB.out.cell (World.block_lt_of_cell? w _ hw1245_0)).trans hw1245_0), ((HB.out.cell (World.block_lt_of_cell? w _ hw1245_1)).trans hw1245_1), ((HB.out.cell (World.block_lt_of_cell? w _ hw1245_2)).trans hw1245_2), ((HB.out.cell (World.block_lt_of_cell? w _ hw1245_3)).trans hw1245_3), ((HB.out.cell (World.block_lt_of_cell? w _ hw1245_4)).trans hw1245_4), ((HB.out.cell (World.block_lt_of_cell? w _ hw1246_0)).trans hw1246_0), ((HB.out.cell (World.block_lt_of_cell? w _ hw1246_1)).trans hw1246_1), ((HB.out.cell (World.block_lt_of_cell? w _ hw1246_2)).trans hw1246_2), ((HB.out.cell (World.block_lt_of_cell? w _ hw1246_3)).trans hw1246_3), ((HB.out.cell (World.block_lt_of_cell? w _ hw1246_4)).trans hw1246_4)⟩ (fun hHeld => ?_)
     clear hK K
     refine no_ (some 25) ?_
     refine pu_ (i := 9) (N := some 26) ?_
     refine done_ (done_of HT_.out (by kernel_rfl)) ?_
     (try clear hHeld)
     try go_wp2
     go_roundg k1
     case measure => have := HK1.out; omega
     case rel => exact ⟨(wrap64 (x5_1 + 1)), rs_, H', ⟨by have := HK1.out; omega⟩, ⟨bB_⟩⟩
   · replace c8 := Bool.eq_false_iff.mpr c8
     subst c8
     rw [if_neg nf_] at H
     obtain rfl := Option.some.inj H
     try go_wp2
     replace HB := A_ (below_drew1 HB.out)
     have p1245 : 0 ≤ (x5_1 : Int) := of_decide_eq_true as_
     have q1245 : x5_1 < (l0.length : Int) := of_decide_eq_true as_
     obtain ⟨ad1245, A1245_0, c1245_0, A1245_4, c1245_4, e1245, hx1245_0, hx1245_1, hx1245_2, hx1245_3, hx1245_4, hl1245_0, hi1245_0, hl1245_4, hi1245_4⟩ := at_T57 HR0.out x5_1 p1245 q1245
     have hw1245_4 := hx1245_4
     have hw1245_3 := hx1245_3
     have hw1245_2 := hx1245_2
     have hw1245_1 := hx1245_1
     have hw1245_0 := hx1245_0
     cases e1245
     replace hx1245_0 := bc_ HB.out hx1245_0
     replace hx1245_1 := bc_ HB.out hx1245_1
     replace hx1245_2 := bc_ HB.out hx1245_2
     replace hx1245_3 := bc_ HB.out hx1245_3
     replace hx1245_4 := bc_ HB.out hx1245_4
     have HR1245_0 := Aside0.mk hi1245_0
     have HC1245_0 := Aside0.mk hl1245_0
     clear hi1245_0 hl1245_0
     have HR1245_4 := Aside0.mk hi1245_4
     have HC1245_4 := Aside0.mk hl1245_4
     clear hi1245_4 hl1245_4
     replace p1245 := eq_true p1245
     replace q1245 := eq_true q1245
     have p1246 : 0 ≤ (x5_1 : Int) := of_decide_eq_true as_
     have q1246 : x5_1 < (l1.length : Int) := of_decide_eq_true as_
     obtain ⟨ad1246, A1246_0, c1246_0, A1246_4, c1246_4, e1246, hx1246_0, hx1246_1, hx1246_2, hx1246_3, hx1246_4, hl1246_0, hi1246_0, hl1246_4, hi1246_4⟩ := at_T57 HR1.out x5_1 p1246 q1246
     have hw1246_4 := hx1246_4
     have hw1246_3 := hx1246_3
     have hw1246_2 := hx1246_2
     have hw1246_1 := hx1246_1
     have hw1246_0 := hx1246_0
     cases e1246
     replace hx1246_0 := bc_ HB.out hx1246_0
     replace hx1246_1 := bc_ HB.out hx1246_1
     replace hx1246_2 := bc_ HB.out hx1246_2
     replace hx1246_3 := bc_ HB.out hx1246_3
     replace hx1246_4 := bc_ HB.out hx1246_4
     have HR1246_0 := Aside0.mk hi1246_0
     have HC1246_0 := Aside0.mk hl1246_0
     clear hi1246_0 hl1246_0
     have HR1246_4 := Aside0.mk hi1246_4
     have HC1246_4 := Aside0.mk hl1246_4
     clear hi1246_4 hl1246_4
     replace p1246 := eq_true p1246
     replace q1246 := eq_true q1246
     refine start_ (n := 10) (S := fun w' => w'.cell? (ad1245.add ((x5_1).toNat * 5)) = some (.slice A1245_0 ((rd_T57 l0 x5_1).f0).length c1245_0) ∧ w'.cell? ⟨(ad1245.add ((x5_1).toNat * 5)).block, (ad1245.add ((x5_1).toNat * 5)).off + 1, none⟩ = some (.bool ((rd_T57 l0 x5_1).f1)) ∧ w'.cell? ⟨(ad1245.add ((x5_1).toNat * 5)).block, (ad1245.add ((x5_1).toNat * 5)).off + 2, none⟩ = some (.string ((rd_T57 l0 x5_1).f2)) ∧ w'.cell? ⟨(ad1245.add ((x5_1).toNat * 5)).block, (ad1245.add ((x5_1).toNat * 5)).off + 3, none⟩ = some (.int .i64 ((rd_T57 l0 x5_1).f3)) ∧ w'.cell? ⟨(ad1245.add ((x5_1).toNat * 5)).block, (ad1245.add ((x5_1).toNat * 5)).off + 4, none⟩ = some (.slice A1245_4 ((rd_T57 l0 x5_1).f4).length c1245_4) ∧ w'.cell? (ad1246.add ((x5_1).toNat * 5)) = some (.slice A1246_0 ((rd_T57 l1 x5_1).f0).length c1246_0) ∧ w'.cell? ⟨(ad1246.add ((x5_1).toNat * 5)).block, (ad1246.add ((x5_1).toNat * 5)).off + 1, none⟩ = some (.bool ((rd_T57 l1 x5_1).f1)) ∧ w'.cell? ⟨(ad1246.add ((x5_1).toNat * 5)).block, (ad1246.add ((x5_1).toNat * 5)).off + 2, none⟩ = some (.string ((rd_T57 l1 x5_1).f2)) ∧ w'.cell? ⟨(ad1246.add ((x5_1).toNat * 5)).block, (ad1246.add ((x5_1).toNat * 5)).off + 3, none⟩ = some (.int .i64 ((rd_T57 l1 x5_1).f3)) ∧ w'.cell? ⟨(ad1246.add ((x5_1).toNat * 5)).block, (ad1246.add ((x5_1).toNat * 5)).off + 4, none⟩ = some (.slice A1246_4 ((rd_T57 l1 x5_1).f4).length c1246_4)) (ds := []) #[false, false, false, false, false, false, false, false, false, false] (by kernel_rfl) rfl rfl ⟨((HB.out.cell (World.block_lt_of_cell? w _ hw1245_0)).trans hw1245_0), ((HB.out.cell (World.block_lt_of_cell? w _ hw1245_1)).trans hw1245_1), ((HB.out.cell (World.block_lt_of_cell? w _ hw1245_2)).trans hw1245_2), ((HB.out.cell (World.block_lt_of_cell? w _ hw1245_3)).trans hw1245_3), ((HB.out.cell (World.block_lt_of_cell? w _ hw1245_4)).trans hw1245_4), ((HB.out.cell (World.block_lt_of_cell? w _ hw1246_0)).trans hw1246_0), ((HB.out.cell (World.block_lt_of_cell? w _ hw1246_1)).trans hw1246_1), ((HB.out.cell (World.block_lt_of_cell? w _ hw1246_2)).trans hw1246_2), ((HB.out.cell (World.block_lt_of_cell? w _ hw1246_3)).trans hw1246_3), ((HB.out.cell (World.block_lt_of_cell? w _ hw1246_4)).trans hw1246_4)⟩ (fun hHeld => ?_); refine with_tabW laws_sameTree.tab6 laws_sameTree.bits6 (fun HT_ HW_ => ?_)
     generalize wr.drew = w11 at HB HR1245_0 HR1245_4 HR1246_0 HR1246_4 hx1245_0 hx1245_1 hx1245_2 hx1245_3 hx1245_4 hx1246_0 hx1246_1 hx1246_2 hx1246_3 hx1246_4 hHeld ⊢
     refine pu_ (i := 0) (N := some 17) ?_
     refine pu_ (i := 1) (N := some 18) ?_
     refine pu_ (i := 2) (N := some 19) ?_
     refine pu_ (i := 4) (N := some 21) ?_
     refine pu_ (i := 5) (N := some 22) ?_
     refine pu_ (i := 6) (N := some 23) ?_
     refine tk_ (i := 3) (N := some 20) hHeld ?_
     refine tk_ (i := 7) (N := some 24) hHeld ?_
     refine on_ (i := 8) (N := some 25) (fun K hK => ?_)
     refine goes_ Try.func46 (by kernel_rfl) rfl #[.agg #[.slice A1245_0 ((rd_T57 l0 x5_1).f0).length c1245_0, .bool ((rd_T57 l0 x5_1).f1), .string ((rd_T57 l0 x5_1).f2), .int .i64 ((rd_T57 l0 x5_1).f3), .slice A1245_4 ((rd_T57 l0 x5_1).f4).length c1245_4], .agg #[.slice A1246_0 ((rd_T57 l1 x5_1).f0).length c1246_0, .bool ((rd_T57 l1 x5_1).f1), .string ((rd_T57 l1 x5_1).f2), .int .i64 ((rd_T57 l1 x5_1).f3), .slice A1246_4 ((rd_T57 l1 x5_1).f4).length c1246_4]] (by rfl) rfl rfl ml_ ?_
     with_reducible refine (laws_sameRes.calls k1 _ _ ((rd_T57 l0 x5_1).f0) ((rd_T57 l0 x5_1).f1) ((rd_T57 l0 x5_1).f2) ((rd_T57 l0 x5_1).f3) _ _ ((rd_T57 l0 x5_1).f4) _ _ ((rd_T57 l1 x5_1).f0) ((rd_T57 l1 x5_1).f1) ((rd_T57 l1 x5_1).f2) ((rd_T57 l1 x5_1).f3) _ _ ((rd_T57 l1 x5_1).f4) false _ ?s1 ?s2 ?s3 ?s4 ?s5 ?s6 ?s7 ?s8 A7.out).mono ?_
     (case s1 => exact cC_ (Kd.C_below HR1245_0.out HB.out))
     (case s2 => exact HC1245_0.out)
     (case s3 => exact cC_ (Kd.C_below HR1245_4.out HB.out))
     (case s4 => exact HC1245_4.out)
     (case s5 => exact cC_ (Kd.C_below HR1246_0.out HB.out))
     (case s6 => exact HC1246_0.out)
     (case s7 => exact cC_ (Kd.C_below HR1246_4.out HB.out))
     (case s8 => exact HC1246_4.out)
     rintro e w12 ⟨rfl, hb⟩
     refine ⟨_, rfl, ?_⟩
     replace HB := A_ (below_step bB_ hb)
     (try clear hb)
     (try clear hb2)
     (try clear hk)
     (try clear hi)
     refine hK.out _ _ ⟨((HB.out.cell (World.block_lt_of_cell? w _ hw1245_0)).trans hw1245_0), ((HB.out.cell (World.block_lt_of_cell? w _ hw1245_1)).trans hw1245_1), ((HB.out.cell (World.block_lt_of_cell? w _ hw1245_2)).trans hw1245_2), ((HB.out.cell (World.block_lt_of_cell? w _ hw1245_3)).trans hw1245_3), ((HB.out.cell (World.block_lt_of_cell? w _ hw1245_4)).trans hw1245_4), ((HB.out.cell (World.block_lt_of_cell? w _ hw1246_0)).trans hw1246_0), ((HB.out.cell (World.block_lt_of_cell? w _ hw1246_1)).trans hw1246_1), ((HB.out.cell (World.block_lt_of_cell? w _ hw1246_2)).trans hw1246_2), ((HB.out.cell (World.block_lt_of_cell? w _ hw1246_3)).trans hw1246_3), ((HB.out.cell (World.block_lt_of_cell? w _ hw1246_4)).trans hw1246_4)⟩ (fun hHeld => ?_)
     clear hK K
     refine no_ (some 25) ?_
     refine pu_ (i := 9) (N := some 26) ?_
     refine done_ (done_of HT_.out (by kernel_rfl)) ?_
     (try clear hHeld)
     try go_wp2
     go_ret
     exact ⟨rr_, bB_⟩
mutual
def laws_FnShelves.j0 : Nat → List (S57) → List ByteArray → List ByteArray → List (S57) → Int → Bool → Option (Bool)
  | 0, _, _, _, _, _, _ => none
  | k + 1, x3, x4, x5, x6, x7, x51 => if x51 = true then (some false) else (if x7 = 201 then (laws_FnShelves.j1 k x3 x4 x5 x6 x7 false) else (laws_FnShelves.j1 k x3 x4 x5 x6 x7 (x7 != 204)))
def laws_FnShelves.j1 : Nat → List (S57) → List ByteArray → List ByteArray → List (S57) → Int → Bool → Option (Bool)
  | 0, _, _, _, _, _, _ => none
  | k + 1, x3, x4, x5, x6, x7, x57 => if x57 = true then ((laws_sameTree.f k x6 x3).bind fun t1269 => (some t1269)) else ((impl_FindRes.f k x6 x4).bind fun t1270 => ((impl_FindRes.f k x3 x5).bind fun t1271 => ((impl_FindRes.f k x6 x5).bind fun t1272 => (if t1270 < 0 then (laws_FnShelves.j2 k x3 x4 x5 x6 t1271 t1272 true) else (if 0 ≤ t1270 then (if t1270 < (x6.length : Int) then (if ((rd_T57 x6 t1270).f2).toList = ([110, 101, 119] : List UInt8) then (if ((rd_T57 x6 t1270).f3) = 77 then ((impl_Above.f x4).bind fun t1275 => ((impl_IsColl.f k x6 t1275).bind fun t1278 => (if t1278 = true then ((impl_FindRes.f k x3 x4).bind fun t1279 => (laws_FnShelves.j2 k x3 x4 x5 x6 t1271 t1272 ((x7 == 201) != (decide (t1279 < 0))))) else (laws_FnShelves.j2 k x3 x4 x5 x6 t1271 t1272 true)))) else (laws_FnShelves.j2 k x3 x4 x5 x6 t1271 t1272 true)) else (laws_FnShelves.j2 k x3 x4 x5 x6 t1271 t1272 true)) else (none)) else (none))))))
def laws_FnShelves.j2 : Nat → List (S57) → List ByteArray → List ByteArray → List (S57) → Int → Int → Bool → Option (Bool)
  | 0, _, _, _, _, _, _, _ => none
  | k + 1, x3, x4, x5, x6, x11, x12, x103 => if x103 = true then (some false) else ((laws_sameTexts.f k x4 x5).bind fun t1280 => (if t1280 = true then (some true) else (if ((decide (x11 < 0)) == (decide (x12 < 0))) = true then (if x11 < 0 then (some true) else (if 0 ≤ x11 then (if x11 < (x3.length : Int) then (if 0 ≤ x12 then (if x12 < (x6.length : Int) then ((laws_sameRes.f k ((rd_T57 x3 x11).f0) ((rd_T57 x3 x11).f1) ((rd_T57 x3 x11).f2) ((rd_T57 x3 x11).f3) ((rd_T57 x3 x11).f4) ((rd_T57 x6 x12).f0) ((rd_T57 x6 x12).f1) ((rd_T57 x6 x12).f2) ((rd_T57 x6 x12).f3) ((rd_T57 x6 x12).f4)).bind fun t1283 => (some t1283)) else (none)) else (none)) else (none)) else (none))) else (some false))))
end
def laws_FnShelves.f (k : Nat) (l0 : List Int) : Option (Bool) := (laws_big.f l0).bind fun t1248 => (if t1248 = true then (some true) else ((spec_DrawShelves.f k l0).bind fun bt1249 => ((impl_PutFile.f k bt1249.1 bt1249.2.1 (⟨#[110, 101, 119]⟩ : ByteArray) 77).bind fun bt1258 => ((spec_PutFile.f k bt1249.1 bt1249.2.1 (⟨#[110, 101, 119]⟩ : ByteArray) 77).bind fun bt1262 => ((impl_TreeOk.f k bt1249.1).bind fun t1266 => (if t1266 = true then (if bt1258.2 = bt1262.2 then ((laws_sameTree.f k bt1258.1 bt1262.1).bind fun t1267 => (if t1267 = true then ((impl_TreeOk.f k bt1258.1).bind fun t1268 => (laws_FnShelves.j0 k bt1249.1 bt1249.2.1 bt1249.2.2 bt1258.1 bt1258.2 (!t1268))) else (laws_FnShelves.j0 k bt1249.1 bt1249.2.1 bt1249.2.2 bt1258.1 bt1258.2 true))) else (laws_FnShelves.j0 k bt1249.1 bt1249.2.1 bt1249.2.2 bt1258.1 bt1258.2 true)) else (laws_FnShelves.j0 k bt1249.1 bt1249.2.1 bt1249.2.2 bt1258.1 bt1258.2 true)))))))
def laws_FnShelves.T15 : Bool × List (List Nat × List Nat) := (true, [([], []), ([], []), ([0, 1], [0, 1]), ([2, 2], [2]), ([3], [3]), ([4, 3], [3, 4]), ([3], [3]), ([6, 3], [3, 6]), ([5, 7, 3], [3, 5, 7]), ([8, 3, 3], [3, 8]), ([9], [9]), ([10, 9], [9, 10]), ([11, 9, 9], [9, 11]), ([12], [12]), ([12], [12]), ([13, 14, 12], [12, 13, 14]), ([15, 12], [12, 15]), ([12], [12]), ([12], [12]), ([17, 18, 12], [12, 17, 18]), ([19, 12], [12, 19]), ([16, 20, 12, 12], [12, 16, 20]), ([12, 21, 9], [9, 12, 21]), ([9, 22, 3], [3, 9, 22]), ([3, 23], [3, 23]), ([24, 21, 0, 1, 2, 3, 4, 5, 6, 7, 8, 9, 10, 11, 12, 13, 14, 15, 16, 17, 18, 19, 20, 21, 22, 23, 24], [24])])
def laws_FnShelves.B15 : List Nat := [0, 0, 3, 7, 15, 31, 15, 79, 255, 511, 1023, 2047, 4095, 8191, 8191, 32767, 65535, 8191, 8191, 401407, 925695, 2097151, 4194303, 8388607, 16777215, 33554431]
theorem laws_FnShelves.tab15 : rtab .any (opsOf Try.f9 15) = laws_FnShelves.T15 := by kernel_rfl
theorem laws_FnShelves.bits15 : waitsOk laws_FnShelves.T15.2 laws_FnShelves.B15 = true := by kernel_rfl
end Go.Proofs.Ytbgggcgjijljkaa.Q

/- What a reading of a parameter says of its cells, kind by kind: for the rows of laws whose parameters are slices and structs. No condition. -/
namespace Go.Proofs.Ytbgggcgjijljkaa.Op
open Go.RowKit Go.ChangeShapes Go.WideShapes Go.Proofs.YtbgggcgjijljkaaW.PrintWords
def Opens {α H : Type} (enc : TypeId × Value → H) (P : Program) (w : World) (t : TypeId) (d : Kd α) (G : α → Prop) : Prop :=
  ∀ fuel cs x, DataW.trod enc P w 0 (fun _ => true) true fuel t cs = some x → ∃ a, d.K w a cs ∧ G a
section
variable {H : Type} {enc : TypeId × Value → H} {P : Program} {w : World} {t : TypeId}
theorem opens_int {k : IntKind} (ht : P.underlying t = some (.int k)) : Opens enc P w t (Kd.int k) (fun n => (Lit.int k n).wf = true) := by
  intro fuel cs x h
  obtain ⟨n, rfl, _, hn⟩ := DataW.trod_int ht h
  exact ⟨n, rfl, hn⟩
theorem opens_slice {α : Type} [Inhabited α] {e : TypeId} {d : Kd α} {G : α → Prop} (ht : P.underlying t = some (.slice e)) (hc : P.cellsOf e = d.sz) (he : Opens enc P w e d G) :
    Opens enc P w t (Kd.slice e d) (fun l => l.length ≤ maxLen ∧ ∀ a ∈ l, G a) := by
  intro fuel cs x h
  rcases Go.Deep.open_slice ht h with ⟨rfl, _⟩ | ⟨a, len, cap, m, n, D, Pl, rfl, _, hl, hm, hmm, _, hx⟩
  · exact ⟨[], ⟨none, 0, rfl, Nat.le_refl _, Kd.C_nil d w⟩, by simp, by simp⟩
  · have hm' : m = cap := by simpa using hmm
    have each : ∀ i, i < len → ∃ y : α, G y ∧ ∃ c, d.K w y c ∧ ∀ j u, c[j]? = some u → w.cell? (a.add (i * d.sz + j)) = some u := fun i hi => by
      obtain ⟨cs', h1, h2⟩ := hx i (by omega)
      obtain ⟨y, hK, hG⟩ := he _ _ _ h2
      obtain ⟨_, h3, h4⟩ := World.cells?_some h1
      refine ⟨y, hG, cs', hK, fun j u hu => ?_⟩
      have hj : j < P.cellsOf e := by
        have := (List.getElem?_eq_some_iff.1 hu).1
        omega
      have h5 := h4 j hj
      rw [Go.Deep.add_add, hc, hu] at h5
      exact h5
    obtain ⟨f, hf⟩ := Go.Deep.choose_lt each
    have hmax : maxLen = 9223372036854775807 := by decide
    refine ⟨(List.range len).map f, ⟨some a, cap, by simp, by simpa using hl, ?_⟩, by simp; omega, ?_⟩
    · refine ⟨rfl, by simp; omega, fun _ => ⟨a, rfl, fun j p hj => ?_⟩⟩
      have hjl : j < len := by
        have := (List.getElem?_eq_some_iff.1 hj).1
        simpa using this
      have hp : f j = p := by
        rw [List.getElem?_map, List.getElem?_range hjl] at hj
        simpa using hj
      obtain ⟨_, c, hK, hcell⟩ := hf j hjl
      exact ⟨c, d.K_len hK, hp ▸ hK, hcell⟩
    · intro y hy
      obtain ⟨j, hj, rfl⟩ := List.mem_map.1 hy
      exact (hf j (List.mem_range.1 hj)).1
end
end Go.Proofs.Ytbgggcgjijljkaa.Op

/- What a reading of a struct says of its cells. No condition. -/
namespace Go.Proofs.Ytbgggcgjijljkaa.Q
open Go.RowKit Go.ChangeShapes Go.WideShapes Go.Proofs.YtbgggcgjijljkaaW.PrintWords Go.Proofs.Ytbgggcgjijljkaa
set_option linter.unusedVariables false
set_option linter.unusedSimpArgs false
instance : Inhabited S88 := ⟨z88⟩
instance : Inhabited S79 := ⟨z79⟩
instance : Inhabited S90 := ⟨z90⟩
end Go.Proofs.Ytbgggcgjijljkaa.Q

/- Small lemmas for plain laws over rounds: indices as lengths of what was passed, bytes' equality. No condition. -/
set_option linter.unusedSimpArgs false
set_option linter.unusedVariables false
namespace Go.Proofs.Ytbgggcgjijljkaa.L
open Go.RowKit Go.Proofs.YtbgggcgjijljkaaW.PrintWords Go.Proofs.YtbgggcgjijljkaaW.PrintLast
theorem ba_toList (s : ByteArray) : s.toList = s.data.toList := ByteArray.toList_eq s
theorem ba_inj {a b : ByteArray} (h : a.toList = b.toList) : a = b := by
  rw [ba_toList, ba_toList] at h
  cases a with | mk x => cases b with | mk y => congr 1; exact Array.toList_inj.1 h
theorem ba_eq {a b : ByteArray} : (a.toList = b.toList) = (a = b) := propext ⟨ba_inj, fun h => by rw [h]⟩
theorem maxLen_eq : maxLen = 9223372036854775807 := by decide
theorem wrap_id {x : Int} (h0 : -9223372036854775808 ≤ x) (h1 : x < 9223372036854775808) : wrap64 x = x := by
  unfold wrap64
  omega
section
variable {α : Type} {l pre suf : List α} {a : α}
theorem lt_at (h : l = pre ++ a :: suf) : ((pre.length : Nat) : Int) < (l.length : Int) := by subst h; simp; omega
theorem rd_at (d : α) (h : l = pre ++ a :: suf) : rdOf d l (pre.length : Int) = a := by subst h; simp [rdOf, List.getD_eq_getElem?_getD]
theorem getD_at (d : α) (h : l = pre ++ a :: suf) : l.getD ((pre.length : Nat) : Int).toNat d = a := by subst h; simp [List.getD_eq_getElem?_getD]
theorem next_at (h : l = pre ++ a :: suf) (hl : l.length ≤ maxLen) : wrap64 ((pre.length : Int) + 1) = ((pre ++ [a]).length : Int) := by
  have : l.length = pre.length + 1 + suf.length := by subst h; simp; omega
  rw [maxLen_eq] at hl
  rw [wrap_id (by omega) (by omega)]
  simp
theorem snoc_at (h : l = pre ++ a :: suf) : l = (pre ++ [a]) ++ suf := by subst h; simp
theorem end_at (h : l = pre ++ []) : ¬ ((pre.length : Nat) : Int) < (l.length : Int) := by subst h; simp
theorem set_at {b : α} (h : l = pre ++ a :: suf) : l.set ((pre.length : Nat) : Int).toNat b = (pre ++ [b]) ++ suf := by subst h; simp
theorem nonneg_at (n : Nat) : (0 : Int) ≤ (n : Int) := Int.natCast_nonneg n
end
def IntOk (x : Int) : Prop := -9223372036854775808 ≤ x ∧ x < 9223372036854775808
def SmS (l : List ByteArray) : Prop := l.length ≤ 1048576 ∧ ∀ s ∈ l, s.size ≤ 1048576
theorem eq_loop {α : Type} [DecidableEq α] {a b : List α} (g : Nat → Int → Option Bool)
    (hend : Ev (fun k => g k a.length) true)
    (hstep : ∀ pre x su pre' y sv, a = pre ++ x :: su → b = pre' ++ y :: sv → pre.length = pre'.length → (x ≠ y → Ev (fun k => g k (pre.length : Int)) false) ∧ (x = y → ∀ r, Ev (fun k => g k ((pre ++ [x]).length : Int)) r → Ev (fun k => g k (pre.length : Int)) r)) :
    ∀ (su sv pu pv : List α), a = pu ++ su → b = pv ++ sv → pu.length = pv.length → su.length = sv.length → Ev (fun k => g k (pu.length : Int)) (decide (su = sv)) := by
  intro su
  induction su with
  | nil =>
    intro sv pu pv h h' hp hs
    obtain rfl : sv = [] := by simpa using hs.symm
    rw [h, List.append_nil] at hend
    exact hend
  | cons x su ih =>
    intro sv pu pv h h' hp hs
    cases sv with
    | nil => simp at hs
    | cons y sv =>
      obtain ⟨h1, h2⟩ := hstep pu x su pv y sv h h' hp
      by_cases e : x = y
      · have h3 := h2 e _ (ih sv (pu ++ [x]) (pv ++ [y]) (snoc_at h) (snoc_at h') (by simp [hp]) (by simpa using hs))
        simp only [e, List.cons.injEq, true_and]
        exact h3
      · rw [show decide (x :: su = y :: sv) = false from decide_eq_false (fun h => e (List.cons.inj h).1)]
        exact h1 e
theorem ev_cast {α : Type} {g : Nat → Option α} {r s : α} (h : Ev g r) (e : r = s) : Ev g s := e ▸ h
end Go.Proofs.Ytbgggcgjijljkaa.L

/- Draws from a code: the cursor's bytes and its place. No condition. -/
set_option linter.unusedSimpArgs false
set_option linter.unusedVariables false
namespace Go.Proofs.Ytbgggcgjijljkaa.L
open Go.RowKit Go.Proofs.YtbgggcgjijljkaaW.PrintWords Go.Proofs.YtbgggcgjijljkaaW.PrintLast Go.Proofs.Ytbgggcgjijljkaa.Q
def Cur (b : List Int) (p : Int) : Prop := 0 ≤ p ∧ p ≤ (b.length : Int) ∧ b.length ≤ 1048576
theorem wrapI64 {x : Int} (h0 : -9223372036854775808 ≤ x) (h1 : x < 9223372036854775808) : IntKind.i64.wrap x = x := by
  rw [i64_w, wrap_id h0 h1]
theorem and255 (x : Int) : 0 ≤ Go.bits .and .i64 x 255 ∧ Go.bits .and .i64 x 255 ≤ 255 := by
  unfold Go.bits
  have h : (BitVec.ofInt IntKind.i64.bits x &&& BitVec.ofInt IntKind.i64.bits 255).toNat ≤ 255 := by
    rw [BitVec.toNat_and]
    exact Nat.le_trans Nat.and_le_right (by decide)
  simp only
  rw [wrapI64 (by omega) (by omega)]
  omega
theorem byteD {b : List Int} {p : Int} (h : Cur b p) (s : Int) : ∃ v p' s', spec_l1Byte.f b p s = some (v, p', s') ∧ 0 ≤ v ∧ v ≤ 255 ∧ Cur b p' := by
  obtain ⟨h0, h1, h2⟩ := h
  unfold spec_l1Byte.f
  by_cases c : p < (b.length : Int)
  · rw [if_pos c, if_pos h0]
    refine ⟨_, _, _, rfl, (and255 _).1, (and255 _).2, ?_⟩
    rw [wrap_id (by omega) (by omega)]
    exact ⟨by omega, by omega, h2⟩
  · rw [if_neg c]
    exact ⟨_, _, _, rfl, (and255 _).1, (and255 _).2, h0, h1, h2⟩
theorem belowD {b : List Int} {p : Int} (h : Cur b p) (s : Int) {n : Int} (hn : 0 < n) : ∃ v p' s', spec_l1Below.f b p s n = some (v, p', s') ∧ 0 ≤ v ∧ v < n ∧ Cur b p' := by
  unfold spec_l1Below.f
  rw [if_neg (by omega)]
  by_cases c : n ≤ 256
  · rw [if_pos c]
    obtain ⟨v, p1, s1, e, v0, v1, h'⟩ := byteD h s
    simp only [e, Option.bind_some, if_neg (show ¬ n = 0 by omega)]
    exact ⟨_, _, _, rfl, Int.tmod_nonneg _ v0, Int.tmod_lt_of_pos _ hn, h'⟩
  · rw [if_neg c]
    obtain ⟨v, p1, s1, e, v0, v1, h1⟩ := byteD h s
    simp only [e, Option.bind_some]
    obtain ⟨v', p2, s2, e, v0', v1', h2⟩ := byteD h1 s1
    simp only [e, Option.bind_some]
    obtain ⟨v'', p3, s3, e, v0'', v1'', h3⟩ := byteD h2 s2
    simp only [e, Option.bind_some, if_neg (show ¬ n = 0 by omega)]
    rw [wrap_id (x := v * 65536) (by omega) (by omega), wrap_id (x := v' * 256) (by omega) (by omega), wrap_id (x := v * 65536 + v' * 256) (by omega) (by omega), wrap_id (by omega) (by omega)]
    exact ⟨_, _, _, rfl, Int.tmod_nonneg _ (by omega), Int.tmod_lt_of_pos _ hn, h3⟩
theorem belowD0 {b : List Int} {p : Int} (h : Cur b p) (s n : Int) : ∃ v p' s', spec_l1Below.f b p s n = some (v, p', s') ∧ 0 ≤ v ∧ Cur b p' := by
  by_cases c : 0 < n
  · obtain ⟨v, p', s', e, h0, _, h'⟩ := belowD h s c
    exact ⟨v, p', s', e, h0, h'⟩
  · unfold spec_l1Below.f
    rw [if_pos (by omega)]
    exact ⟨_, _, _, rfl, Int.le_refl _, h⟩
theorem onceD {b : List Int} {p : Int} (h : Cur b p) (s n : Int) : ∃ v p' s', spec_l1Once.f b p s n = some (v, p', s') ∧ Cur b p' := by
  obtain ⟨v, p', s', e, h0, h'⟩ := belowD0 h s n
  unfold spec_l1Once.f
  rw [e]
  exact ⟨_, _, _, rfl, h'⟩
theorem strD {b : List Int} {p : Int} (h : Cur b p) (s : Int) {l : List ByteArray} (hl : l ≠ []) : ∃ v p' s', spec_l1Str.f b p s l = some (v, p', s') ∧ v ∈ l ∧ Cur b p' := by
  have hpos : 0 < l.length := List.length_pos_iff.2 hl
  obtain ⟨v, p', s', e, h0, h1, h'⟩ := belowD h s (n := (l.length : Int)) (by omega)
  unfold spec_l1Str.f
  rw [e]
  simp only [Option.bind_some, if_pos h0, if_pos h1]
  refine ⟨_, _, _, rfl, ?_, h'⟩
  have hlt : v.toNat < l.length := by omega
  unfold rdOf
  rw [List.getD_eq_getElem?_getD, List.getElem?_eq_getElem hlt]
  exact List.getElem_mem hlt
theorem newD {l : List Int} (hl : l.length ≤ 1048576) : ∃ s, Ev (fun k => spec_l1New.f k l) (l, 0, s) := by
  have key : ∀ (suf pre : List Int) (x : Int), l = pre ++ suf → ∃ s, Ev (fun k => spec_l1New.l0 k l x pre.length) (l, 0, s) := by
    intro suf
    induction suf with
    | nil =>
      intro pre x h
      refine ⟨x, ?_⟩
      refine Ev.step (fun k => spec_l1New.l0.eq_2 ..) ?_
      simp only [if_neg (end_at h)]
      exact Ev.now _
    | cons a suf ih =>
      intro pre x h
      by_cases c : (pre.length : Int) < 4000
      · obtain ⟨s, hs⟩ := ih (pre ++ [a]) _ (snoc_at h)
        refine ⟨s, ?_⟩
        refine Ev.step (fun k => spec_l1New.l0.eq_2 ..) ?_
        simp only [if_pos (lt_at h), if_pos c, if_pos (nonneg_at _), next_at h (show l.length ≤ maxLen by rw [maxLen_eq]; omega)]
        exact hs
      · refine ⟨x, ?_⟩
        refine Ev.step (fun k => spec_l1New.l0.eq_2 ..) ?_
        simp only [if_pos (lt_at h), if_neg c]
        exact Ev.now _
  exact key l [] _ rfl
theorem cur0 {l : List Int} (hl : l.length ≤ 1048576) : Cur l 0 := ⟨Int.le_refl _, by omega, hl⟩
end Go.Proofs.Ytbgggcgjijljkaa.L

/- Draws of paths. No condition. -/
set_option linter.unusedSimpArgs false
set_option linter.unusedVariables false
namespace Go.Proofs.Ytbgggcgjijljkaa.L
open Go.RowKit Go.Proofs.YtbgggcgjijljkaaW.PrintWords Go.Proofs.YtbgggcgjijljkaaW.PrintLast Go.Proofs.Ytbgggcgjijljkaa.Q
theorem split_at {α : Type} {t : List α} {i : Int} (h0 : 0 ≤ i) (h1 : i < (t.length : Int)) : ∃ pre r suf, t = pre ++ r :: suf ∧ i = (pre.length : Int) := by
  have hj : i.toNat < t.length := by omega
  refine ⟨t.take i.toNat, t[i.toNat], t.drop (i.toNat + 1), ?_, ?_⟩
  · rw [List.getElem_cons_drop, List.take_append_drop]
  · rw [List.length_take]; omega
def SmP (n : Nat) (l : List ByteArray) : Prop := l.length ≤ n ∧ ∀ x ∈ l, x.size ≤ 1000
theorem SmP.sm {n : Nat} {l : List ByteArray} (h : SmP n l) (hn : n ≤ 1048576) : SmS l := ⟨Nat.le_trans h.1 hn, fun x hx => Nat.le_trans (h.2 x hx) (by omega)⟩
theorem mem_sz2 {v : ByteArray} {l : List ByteArray} (h : v ∈ l) (hl : l.all (fun x => decide (x.size ≤ 1000)) = true) : v.size ≤ 1000 := of_decide_eq_true (List.all_eq_true.1 hl v h)
theorem nameD {b : List Int} {p : Int} (h : Cur b p) (s : Int) : ∃ v p' s', spec_l2Name.f b p s = some (v, p', s') ∧ v.size ≤ 1000 ∧ Cur b p' := by
  unfold spec_l2Name.f
  obtain ⟨v, p1, s1, e, m, h1⟩ := strD h s (l := [(⟨#[97]⟩ : ByteArray), (⟨#[98]⟩ : ByteArray), (⟨#[99]⟩ : ByteArray), (⟨#[97, 32, 98]⟩ : ByteArray), (⟨#[120, 37, 121]⟩ : ByteArray), (⟨#[97]⟩ : ByteArray), (⟨#[98]⟩ : ByteArray)]) (by simp)
  simp only [e, Option.bind_some]
  exact ⟨_, _, _, rfl, mem_sz2 m (by decide), h1⟩
theorem l2DrawD {b : List Int} {p : Int} (h : Cur b p) (s : Int) : ∃ l p' s', Ev (fun k => spec_l2Draw.f k b p s) (l, p', s') ∧ SmP 3 l ∧ Cur b p' := by
  unfold spec_l2Draw.f
  obtain ⟨v, p1, s1, e, v0, v1, h1⟩ := belowD h s (n := 4) (by omega)
  simp only [e, Option.bind_some]
  have key : ∀ (n : Nat) (out : List ByteArray) (q t : Int), (out.length + n ≤ 3 ∧ ∀ x ∈ out, x.size ≤ 1000) → Cur b q → ∃ l p' s', Ev (fun k => spec_l2Draw.l0 k out (n : Int) b q t) (l, p', s') ∧ SmP 3 l ∧ Cur b p' := by
    intro n
    induction n with
    | zero =>
      intro out q t ho hq
      refine ⟨out, q, t, ?_, ⟨by omega, ho.2⟩, hq⟩
      refine Ev.step (fun k => spec_l2Draw.l0.eq_2 ..) ?_
      simp only [if_neg (show ¬ ((0 : Nat) : Int) > 0 by decide)]
      exact Ev.now _
    | succ n ih =>
      intro out q t ho hq
      obtain ⟨x, q1, t1, e, m, hq1⟩ := nameD hq t
      obtain ⟨l, q2, t2, he, hl, hq2⟩ := ih (out ++ [x]) q1 t1 ⟨by simp; omega, fun y hy => by
        rcases List.mem_append.1 hy with hy | hy
        · exact ho.2 y hy
        · simp at hy; subst hy; exact m⟩ hq1
      refine ⟨l, q2, t2, ?_, hl, hq2⟩
      refine Ev.step (fun k => spec_l2Draw.l0.eq_2 ..) ?_
      simp only [if_pos (show ((n + 1 : Nat) : Int) > 0 by omega), e, Option.bind_some, if_pos (show out.length < 8796093022208 by omega)]
      rw [show wrap64 (((n + 1 : Nat) : Int) - 1) = (n : Int) by rw [wrap_id (by omega) (by omega)]; omega]
      exact he
  obtain ⟨n, rfl⟩ := Int.eq_ofNat_of_zero_le v0
  exact key n [] p1 s1 ⟨by simp; omega, by simp⟩ h1
end Go.Proofs.Ytbgggcgjijljkaa.L

/- Rows whose elements' rows lie apart (S): their tags told anew; one appended to the other, or a part of one. No condition. -/
set_option linter.unusedSimpArgs false
set_option linter.unusedVariables false
namespace Go.Proofs.Ytbgggcgjijljkaa.Q
open Go.RowKit Go.Proofs.YtbgggcgjijljkaaW.PrintWords Go.Proofs.YtbgggcgjijljkaaW.PrintLast
namespace SR
section
variable {α : Type} {d : Kd α} {e n c base : Nat} {ok okp : Nat → Prop} {w W : World} {v : Value} {A : Option Addr} {f : Nat → Nat}
open Classical in
theorem S_of_tags {zs : List (α × Nat)} (h : (Kd.tag f d).R e w base ok v zs) (hn : ∀ (i j : Nat) (x y : α × Nat), zs[i]? = some x → zs[j]? = some y → x.2 = y.2 → i = j) : Kd.S d e w base ok v (zs.map Prod.fst) := by
  obtain ⟨h0, inner, ho, hr⟩ := h
  refine ⟨fun k => if h : ∃ (j : Nat) (x : α × Nat), zs[j]? = some x ∧ x.2 = f k then h.choose else 0, h0, inner, by rw [List.length_zipIdx, List.length_map]; exact ho, by rw [List.length_zipIdx, List.length_map]; exact hr.1, fun j p hj => ?_⟩
  rw [List.getElem?_zipIdx, Nat.zero_add, List.getElem?_map] at hj
  obtain ⟨x, hx, rfl⟩ := Option.map_eq_some_iff.1 hj
  obtain ⟨z, hz, rfl⟩ := Option.map_eq_some_iff.1 hx
  refine d.M_mono (fun k hk => ⟨hk.1, ?_⟩) (hr.2 j z hz)
  have h : ∃ (j : Nat) (x : α × Nat), zs[j]? = some x ∧ x.2 = f k := ⟨j, z, hz, hk.2.symm⟩
  obtain ⟨x, h1, h2⟩ := h.choose_spec
  exact (dif_pos h).trans (hn _ _ x z h1 hz (h2.trans hk.2))
end
section
variable {P : Program} {ops : Array Oper} {rest : List Oper} {o : Oper} {a : Act} {Q : Exit → Act → World → Prop} {Kc : Act → World → Prop} {α : Type}
end
def fixT {α : Type} (f : Nat → Nat) (w : World) (base : Nat) (okM : Nat → Prop) (d : Kd α) : Kd (α × Nat) where
  sz := d.sz
  E := []
  K := fun W x cs => d.K W x.1 cs ∧ (Kd.tag f d).M w base okM x cs
  M := fun _ _ _ _ _ => False
  K_len := fun h => d.K_len h.1
  K_one := fun h => d.K_one h.1
  K_below := fun hb h => ⟨d.K_below hb h.1, h.2⟩
  K_of_M := fun h => h.elim
  M_mono := fun _ h => h
  M_bound := fun h => h
  M_move := fun _ h => h
  M_lower := fun _ h => h
section
variable {α : Type} {d : Kd α} {e n c base base' : Nat} {ok okM : Nat → Prop} {w W : World} {v : Value} {A : Option Addr} {f : Nat → Nat}
theorem F_fix {zs : List (α × Nat)} (h : (Kd.tag f d).R e w base ok (.slice A n c) zs) (hM : ∀ k, ok k → some k ≠ (Value.slice A n c).ownBlock → okM k) (hlt : ∀ k, ok k → k < w.heap.size) : Kd.F (fixT f w base okM d) w ok A n zs := by
  intro W' hW
  obtain ⟨h0, inner, ho, hr⟩ := h
  have hm : ∀ k, ok k → W'.heap[k]? = w.heap[k]? := fun k hk => hW k hk (hlt k hk)
  have h2 : OwnRow (fun x cs => d.K W' x.1 cs ∧ (Kd.tag f d).M w base okM x cs) e d.sz W' base (.slice A n c) zs :=
    ⟨inner, own_move ho (fun k hk => hm k (h0 k hk)), hr.1, fun j p hj => ⟨d.K_of_M (d.M_move (fun k hk => hm k hk.1.1) (hr.2 j p hj)), d.M_mono (fun k hk => ⟨hM k hk.1.1 hk.1.2, hk.2⟩) (hr.2 j p hj)⟩⟩
  obtain ⟨A', c', he, hl, hr2⟩ := OwnRow.reads h2
  injection he with h1 h2 h3
  subst h1 h2 h3
  exact hr2
theorem S_of_fix {zs : List (α × Nat)} (h : Kd.N (fixT f w base okM d) e W base' ok v zs) (hb : Below w.heap.size w W) (h1 : base ≤ base') (h2 : w.heap.size ≤ base') (hlt : ∀ k, okM k → k < w.heap.size) (hn : ∀ (i j : Nat) (x y : α × Nat), zs[i]? = some x → zs[j]? = some y → x.2 = y.2 → i = j) :
    Kd.S d e W base (fun k => okM k ∨ w.heap.size ≤ k) v (zs.map Prod.fst) := by
  obtain ⟨_, rows, hl, ⟨h0, inner, ho, hr⟩, hf⟩ := h
  have hbase : ∀ k, v.ownBlock = some k → base' ≤ k := fun k hk => own_base ho k hk
  refine S_of_tags (f := f) (zs := zs) ⟨fun k hk => .inr (Nat.le_trans h2 (hbase k hk)), inner, by rw [← hl]; exact own_weaken ho h1, by rw [← hl]; exact hr.1, fun j z hj => ?_⟩ hn
  have hjl : j < rows.length := by have := (List.getElem?_eq_some_iff.1 hj).1; omega
  have hc := hr.2 j _ (List.getElem?_eq_getElem hjl)
  have hk := (Kd.FK_now (hf j z _ hj (List.getElem?_eq_getElem hjl))).2
  rw [← hc.1] at hk
  refine d.M_mono (fun k hk => ⟨⟨.inl hk.1, fun e_ => ?_⟩, hk.2⟩) (Kd.M_below (d := d) (d.M_mono (fun k hk => hk) hk) hb)
  have := hbase k e_.symm
  have := hlt k hk.1
  omega
theorem FK_fix {ok' : Nat → Prop} {x : α} {m : Nat} {cs : List Value} (h : Kd.FK d W ok' x cs) (hM : (Kd.tag f d).M w base okM (x, m) cs) : Kd.FK (fixT f w base okM d) W ok' (x, m) cs := fun W' hW => ⟨h W' hW, hM⟩
theorem put_tags {α : Type} (l : List α) (x : α) (n : Nat) : ∀ (i j : Nat) (a b : α × Nat), (([] ++ l.zipIdx.take n) ++ [(x, l.length)] ++ l.zipIdx.drop n)[i]? = some a → (([] ++ l.zipIdx.take n) ++ [(x, l.length)] ++ l.zipIdx.drop n)[j]? = some b → a.2 = b.2 → i = j := by
  have hn : ((([] ++ l.zipIdx.take n) ++ [(x, l.length)] ++ l.zipIdx.drop n).map Prod.snd).Nodup := by
    have h0 : (l.zipIdx.map Prod.snd) = List.range l.length := by
      apply List.ext_getElem?
      intro i
      rw [List.getElem?_map, List.getElem?_zipIdx]
      by_cases h : i < l.length
      · rw [List.getElem?_eq_getElem h]; simp [h]
      · rw [List.getElem?_eq_none (by omega)]; simp [h]
    simp only [List.nil_append, List.map_append, List.map_take, List.map_drop, List.map_cons, List.map_nil, h0]
    rw [List.append_assoc, List.singleton_append]
    have hp : ((List.range l.length).take n ++ l.length :: (List.range l.length).drop n).Perm (l.length :: List.range l.length) := by
      refine List.perm_middle.trans ?_
      rw [List.take_append_drop]
    refine hp.nodup_iff.2 (List.nodup_cons.2 ⟨by simp, List.nodup_range⟩)
  intro i j a b ha hb hab
  have h1 : ((([] ++ l.zipIdx.take n) ++ [(x, l.length)] ++ l.zipIdx.drop n).map Prod.snd)[i]? = some a.2 := by rw [List.getElem?_map, ha]; rfl
  have h2 : ((([] ++ l.zipIdx.take n) ++ [(x, l.length)] ++ l.zipIdx.drop n).map Prod.snd)[j]? = some a.2 := by rw [List.getElem?_map, hb, hab]; rfl
  have hi : i < ((([] ++ l.zipIdx.take n) ++ [(x, l.length)] ++ l.zipIdx.drop n).map Prod.snd).length := (List.getElem?_eq_some_iff.1 h1).1
  exact (List.getElem?_inj hi hn).1 (h1.trans h2.symm)
theorem put_list {α : Type} (l : List α) (x : α) (n : Nat) : ((([] ++ l.zipIdx.take n) ++ [(x, l.length)] ++ l.zipIdx.drop n).map Prod.fst) = (([] ++ l.take n) ++ [x]) ++ l.drop n := by
  have h0 : l.zipIdx.map Prod.fst = l := by
    apply List.ext_getElem?
    intro i
    rw [List.getElem?_map, List.getElem?_zipIdx]
    cases l[i]? <;> rfl
  simp only [List.nil_append, List.map_append, List.map_take, List.map_drop, h0, List.map_cons, List.map_nil]
end
end SR
end Go.Proofs.Ytbgggcgjijljkaa.Q

/- Texts byte by byte: plain texts, small names, as the program and the reference have them. No condition. -/
set_option linter.unusedSimpArgs false
set_option linter.unusedVariables false
namespace Go.Proofs.Ytbgggcgjijljkaa.L
open Go.RowKit Go.Proofs.YtbgggcgjijljkaaW.PrintWords Go.Proofs.YtbgggcgjijljkaaW.PrintLast Go.Proofs.Ytbgggcgjijljkaa.Q
abbrev bl (s : ByteArray) : List UInt8 := s.data.toList
theorem bl_len (s : ByteArray) : (bl s).length = s.size := data_length s
section
variable {s : ByteArray} {pre suf : List UInt8} {c : UInt8}
theorem blt_at (h : bl s = pre ++ c :: suf) : ((pre.length : Nat) : Int) < (s.size : Int) := by
  have := bl_len s
  rw [h] at this
  simp at this
  omega
theorem bend_at (h : bl s = pre ++ []) : ¬ ((pre.length : Nat) : Int) < (s.size : Int) := by
  have := bl_len s
  rw [h] at this
  simp at this
  omega
theorem bt_at' (h : bl s = pre ++ c :: suf) : bt s (pre.length : Int) = (c.toNat : Int) := by
  have hlt := blt_at h
  have h2 : pre.length < s.size := by omega
  rw [← bt_at s (pre.length : Int) (by simpa using h2)]
  have h3 : pre.length < (bl s).length := by rw [bl_len]; exact h2
  have h4 : (bl s)[pre.length] = c := by simp [h]
  have h5 : s[pre.length]'h2 = (bl s)[pre.length] := by
    show s.data[pre.length] = _
    simp
  simp only [Int.toNat_natCast, h5, h4]
theorem bnext_at (h : bl s = pre ++ c :: suf) (hs : s.size ≤ maxLen) : wrap64 ((pre.length : Int) + 1) = ((pre ++ [c]).length : Int) := by
  have := blt_at h
  rw [maxLen_eq] at hs
  rw [wrap_id (by omega) (by omega)]
  simp
end
theorem byte_bounds (c : UInt8) : 0 ≤ (c.toNat : Int) ∧ (c.toNat : Int) ≤ 255 := ⟨by omega, by have := c.toNat_lt; omega⟩
theorem wrap_byte (c : UInt8) : wrap64 (c.toNat : Int) = (c.toNat : Int) := wrap_id (by omega) (by have := byte_bounds c; omega)
def inB (lo hi : Int) (c : UInt8) : Bool := decide (lo ≤ (c.toNat : Int) ∧ (c.toNat : Int) ≤ hi)
theorem specIn (a b c : Int) : spec_l1In.f a b c = some (decide (b ≤ a ∧ a ≤ c)) := by
  unfold spec_l1In.f
  by_cases h : a ≥ b
  · rw [if_pos h]; simp [show b ≤ a from h]
  · rw [if_neg h]; simp [show ¬ b ≤ a from h]
theorem implIn (a b c : Int) : impl_in.f a b c = some (decide (b ≤ a ∧ a ≤ c)) := by
  unfold impl_in.f
  by_cases h : a ≥ b
  · rw [if_pos h]; simp [show b ≤ a from h]
  · rw [if_neg h]; simp [show ¬ b ≤ a from h]
theorem implIsPlain (c : UInt8) : impl_isPlain.f (c.toNat : Int) = some (inB 32 126 c) := by
  unfold impl_isPlain.f inB
  by_cases h : (c.toNat : Int) ≥ 32
  · rw [if_pos h]; simp only [show (32 : Int) ≤ c.toNat from h, true_and]
  · rw [if_neg h]; simp only [show ¬ (32 : Int) ≤ c.toNat from h, false_and, decide_false]
theorem implIsSmall (c : UInt8) : impl_isSmall.f (c.toNat : Int) = some (inB 97 122 c) := by
  unfold impl_isSmall.f inB
  by_cases h : (c.toNat : Int) ≥ 97
  · rw [if_pos h]; simp only [show (97 : Int) ≤ c.toNat from h, true_and]
  · rw [if_neg h]; simp only [show ¬ (97 : Int) ≤ c.toNat from h, false_and, decide_false]
theorem implIsDigit (c : UInt8) : impl_isDigit.f (c.toNat : Int) = some (inB 48 57 c) := by
  unfold impl_isDigit.f inB
  by_cases h : (c.toNat : Int) ≥ 48
  · rw [if_pos h]; simp only [show (48 : Int) ≤ c.toNat from h, true_and]
  · rw [if_neg h]; simp only [show ¬ (48 : Int) ≤ c.toNat from h, false_and, decide_false]
theorem specSmall1 (c : UInt8) : spec_l1Small.f (c.toNat : Int) = some (inB 97 122 c) := by
  unfold spec_l1Small.f; rw [wrap_byte, specIn]; rfl
theorem specDigit1 (c : UInt8) : spec_l1Digit.f (c.toNat : Int) = some (inB 48 57 c) := by
  unfold spec_l1Digit.f; rw [wrap_byte, specIn]; rfl
def plainL (l : List UInt8) : Bool := l.all (inB 32 126)
theorem specPlain_loop {s : ByteArray} (hs : s.size ≤ maxLen) : ∀ (suf pre : List UInt8), bl s = pre ++ suf → Ev (fun k => spec_Plain.l0 k s pre.length) (plainL suf) := by
  intro suf
  induction suf with
  | nil =>
    intro pre h
    refine Ev.step (fun k => spec_Plain.l0.eq_2 ..) ?_
    simp only [if_neg (bend_at h)]
    exact Ev.now _
  | cons c suf ih =>
    intro pre h
    refine Ev.step (fun k => spec_Plain.l0.eq_2 ..) ?_
    simp only [if_pos (blt_at h), if_pos (nonneg_at _), bt_at' h, wrap_byte, specIn, Option.bind_some, bnext_at h hs]
    have := ih (pre ++ [c]) (snoc_at h)
    simp only [plainL, List.all_cons, inB] at this ⊢
    by_cases e : (32 : Int) ≤ c.toNat ∧ (c.toNat : Int) ≤ 126
    · simp only [e, and_self, decide_true, if_true, Bool.true_and]
      exact this
    · simp only [e, decide_false, Bool.false_eq_true, if_false, Bool.false_and]
      exact Ev.now _
theorem specPlain {s : ByteArray} (hs : s.size ≤ maxLen) : Ev (fun k => spec_Plain.f k s) (plainL (bl s)) := specPlain_loop hs _ [] rfl
theorem implPlain_loop {s : ByteArray} (hs : s.size ≤ maxLen) : ∀ (suf pre : List UInt8), bl s = pre ++ suf → Ev (fun k => impl_Plain.l0 k s pre.length) (plainL suf) := by
  intro suf
  induction suf with
  | nil =>
    intro pre h
    refine Ev.step (fun k => impl_Plain.l0.eq_2 ..) ?_
    simp only [if_neg (bend_at h)]
    exact Ev.now _
  | cons c suf ih =>
    intro pre h
    refine Ev.step (fun k => impl_Plain.l0.eq_2 ..) ?_
    simp only [if_pos (blt_at h), if_pos (nonneg_at _), bt_at' h, implIsPlain, Option.bind_some, bnext_at h hs]
    have := ih (pre ++ [c]) (snoc_at h)
    simp only [plainL, List.all_cons] at this ⊢
    by_cases e : inB 32 126 c = true
    · simp only [e, if_true, Bool.true_and]
      exact this
    · simp only [e, if_false, Bool.false_and]
      exact Ev.now _
theorem implPlain {s : ByteArray} (hs : s.size ≤ maxLen) : Ev (fun k => impl_Plain.f k s) (plainL (bl s)) := implPlain_loop hs _ [] rfl
def smallL : Bool → List UInt8 → Bool
  | _, [] => true
  | first, c :: l => (inB 97 122 c || (!first && (inB 48 57 c || decide (c = 45)))) && smallL false l
theorem eq45 (c : UInt8) : ((c.toNat : Int) = 45) = (c = 45) := by
  apply propext
  constructor
  · intro h
    apply UInt8.toNat_inj.1
    show c.toNat = 45
    omega
  · rintro rfl
    rfl
def smallName (s : ByteArray) : Bool := smallL true (bl s) && decide (1 ≤ (s.size : Int) ∧ (s.size : Int) ≤ 20)
theorem specSmall_loop {s : ByteArray} (hs : s.size ≤ maxLen) : ∀ (suf pre : List UInt8), bl s = pre ++ suf → Ev (fun k => spec_SmallName.l0 k s pre.length) (smallL (decide (pre = [])) suf && decide (1 ≤ (s.size : Int) ∧ (s.size : Int) ≤ 20)) := by
  intro suf
  induction suf with
  | nil =>
    intro pre h
    refine Ev.step (fun k => spec_SmallName.l0.eq_2 ..) ?_
    simp only [if_neg (bend_at h), specIn, Option.bind_some, smallL, Bool.true_and]
    exact Ev.now _
  | cons c suf ih =>
    intro pre h
    refine Ev.step (fun k => spec_SmallName.l0.eq_2 ..) ?_
    simp only [if_pos (blt_at h), if_pos (nonneg_at _), bt_at' h, specSmall1, specDigit1, Option.bind_some, bnext_at h hs, eq45]
    have := ih (pre ++ [c]) (snoc_at h)
    rw [show decide (pre ++ [c] = []) = false by simp] at this
    simp only [smallL]
    by_cases e : inB 97 122 c = true
    · simp only [e, if_true, Bool.true_or, Bool.true_and]
      exact this
    · simp only [e, Bool.false_eq_true, if_false, Bool.false_or]
      by_cases e0 : pre = []
      · subst e0
        simp only [List.length_nil, Int.natCast_zero, if_true, decide_true, Bool.not_true, Bool.false_and]
        exact Ev.now _
      · have hp : ¬ ((pre.length : Nat) : Int) = 0 := by
          intro h0
          exact e0 (List.eq_nil_of_length_eq_zero (by omega))
        simp only [if_neg hp, e0, decide_false, Bool.not_false, Bool.true_and]
        by_cases e1 : inB 48 57 c = true
        · simp only [e1, if_true, Bool.true_or, Bool.true_and]
          exact this
        · simp only [e1, Bool.false_eq_true, if_false, Bool.false_or]
          by_cases e2 : c = 45
          · simp only [e2, if_true, decide_true, Bool.true_and]
            subst e2
            exact this
          · simp only [e2, if_false, decide_false, Bool.false_and]
            exact Ev.now _
theorem specSmall {s : ByteArray} (hs : s.size ≤ maxLen) : Ev (fun k => spec_SmallName.f k s) (smallName s) := specSmall_loop hs _ [] rfl
theorem implSmall_loop {s : ByteArray} (hs : s.size ≤ maxLen) : ∀ (suf pre : List UInt8), bl s = pre ++ suf → Ev (fun k => impl_SmallName.l0 k s pre.length) (smallL (decide (pre = [])) suf && decide (1 ≤ (s.size : Int) ∧ (s.size : Int) ≤ 20)) := by
  intro suf
  induction suf with
  | nil =>
    intro pre h
    refine Ev.step (fun k => impl_SmallName.l0.eq_2 ..) ?_
    simp only [if_neg (bend_at h), implIn, Option.bind_some, smallL, Bool.true_and]
    exact Ev.now _
  | cons c suf ih =>
    intro pre h
    refine Ev.step (fun k => impl_SmallName.l0.eq_2 ..) ?_
    simp only [if_pos (blt_at h), if_pos (nonneg_at _), bt_at' h, implIsSmall, implIsDigit, Option.bind_some, bnext_at h hs, eq45]
    have := ih (pre ++ [c]) (snoc_at h)
    rw [show decide (pre ++ [c] = []) = false by simp] at this
    simp only [smallL]
    by_cases e : inB 97 122 c = true
    · simp only [e, if_true, Bool.true_or, Bool.true_and]
      exact this
    · simp only [e, Bool.false_eq_true, if_false, Bool.false_or]
      by_cases e0 : pre = []
      · subst e0
        simp only [List.length_nil, Int.natCast_zero, if_true, decide_true, Bool.not_true, Bool.false_and]
        exact Ev.now _
      · have hp : ¬ ((pre.length : Nat) : Int) = 0 := by
          intro h0
          exact e0 (List.eq_nil_of_length_eq_zero (by omega))
        simp only [if_neg hp, e0, decide_false, Bool.not_false, Bool.true_and]
        by_cases e1 : inB 48 57 c = true
        · simp only [e1, if_true, Bool.true_or, Bool.true_and]
          exact this
        · simp only [e1, Bool.false_eq_true, if_false, Bool.false_or]
          by_cases e2 : c = 45
          · simp only [e2, if_true, decide_true, Bool.true_and]
            subst e2
            exact this
          · simp only [e2, if_false, decide_false, Bool.false_and]
            exact Ev.now _
theorem implSmall {s : ByteArray} (hs : s.size ≤ maxLen) : Ev (fun k => impl_SmallName.f k s) (smallName s) := implSmall_loop hs _ [] rfl
end Go.Proofs.Ytbgggcgjijljkaa.L

/- Names and paths: are they right; as the program and the reference have it. No condition. -/
set_option linter.unusedSimpArgs false
set_option linter.unusedVariables false
namespace Go.Proofs.Ytbgggcgjijljkaa.L
open Go.RowKit Go.Proofs.YtbgggcgjijljkaaW.PrintWords Go.Proofs.YtbgggcgjijljkaaW.PrintLast Go.Proofs.Ytbgggcgjijljkaa.Q
theorem indexByte_mem (l : List UInt8) (c : UInt8) : (0 ≤ Lib.indexByte l c) ↔ c ∈ l := by
  induction l with
  | nil => simp [Lib.indexByte]
  | cons b l ih =>
    have hge := Lib.indexByte_ge l c
    unfold Lib.indexByte
    by_cases e : b = c
    · simp [e]
    · have e' : ¬ c = b := fun h => e h.symm
      simp only [beq_iff_eq, e, if_false, List.mem_cons, e', false_or]
      rw [← ih]
      by_cases h : Lib.indexByte l c = -1
      · simp [h]
      · simp only [h, if_false]; omega
theorem ba_toList_eq (s : ByteArray) (l : List UInt8) : (s.toList = l) = (bl s = l) := by rw [ba_toList]
def nameOk (s : ByteArray) : Bool := decide (47 ∉ bl s) && (decide (1 ≤ (s.size : Int) ∧ (s.size : Int) ≤ 8) && (plainL (bl s) && (decide (bl s ≠ [46]) && decide (bl s ≠ [46, 46]))))
theorem eq47 (c : UInt8) : ((c.toNat : Int) = 47) = (c = 47) := by
  apply propext
  constructor
  · intro h
    apply UInt8.toNat_inj.1
    show c.toNat = 47
    omega
  · rintro rfl
    rfl
theorem bne_dec {α : Type} [BEq α] [LawfulBEq α] [DecidableEq α] (a b : α) : (a != b) = decide (a ≠ b) := by
  by_cases e : a = b <;> simp [e]
theorem specNameOk {s : ByteArray} (hs : s.size ≤ 1048576) : Ev (fun k => spec_NameOk.f k s) (nameOk s) := by
  have hm : s.size ≤ maxLen := by rw [maxLen_eq]; omega
  have key : ∀ (suf pre : List UInt8), bl s = pre ++ suf → Ev (fun k => spec_NameOk.l0 k s pre.length) (decide (47 ∉ suf) && (decide (1 ≤ (s.size : Int) ∧ (s.size : Int) ≤ 8) && (plainL (bl s) && (decide (bl s ≠ [46]) && decide (bl s ≠ [46, 46]))))) := by
    intro suf
    induction suf with
    | nil =>
      intro pre h
      refine Ev.step (fun k => spec_NameOk.l0.eq_2 ..) ?_
      simp only [if_neg (bend_at h), specIn, Option.bind_some, List.not_mem_nil, not_false_eq_true, decide_true, Bool.true_and]
      by_cases c0 : 1 ≤ (s.size : Int) ∧ (s.size : Int) ≤ 8
      · simp only [c0, decide_true, if_true, and_self, Bool.true_and]
        refine Ev.bind (specPlain hm) ?_
        by_cases c1 : plainL (bl s) = true
        · simp only [c1, if_true, Bool.true_and, ba_toList_eq, bne_dec, ba_toList]
          by_cases c2 : bl s = [46]
          · simp only [c2, if_true]
            exact Ev.now _
          · simp only [c2, if_false, ne_eq, not_false_eq_true, decide_true, Bool.true_and]
            exact Ev.now _
        · simp only [c1, Bool.false_eq_true, if_false, Bool.false_and]
          exact Ev.now _
      · simp only [c0, decide_false, Bool.false_eq_true, if_false, Bool.false_and]
        exact Ev.now _
    | cons c suf ih =>
      intro pre h
      refine Ev.step (fun k => spec_NameOk.l0.eq_2 ..) ?_
      simp only [if_pos (blt_at h), if_pos (nonneg_at _), bt_at' h, eq47, bnext_at h hm]
      by_cases e : c = 47
      · simp only [e, if_true, List.mem_cons, true_or, not_true_eq_false, decide_false, Bool.false_and]
        exact Ev.now _
      · have e' : ¬ 47 = c := fun h => e h.symm
        simp only [e, if_false, List.mem_cons, e', false_or]
        exact ih (pre ++ [c]) (snoc_at h)
  exact key _ [] rfl
theorem implNameOk {s : ByteArray} (hs : s.size ≤ 1048576) : Ev (fun k => impl_NameOk.f k s) (nameOk s) := by
  have hm : s.size ≤ maxLen := by rw [maxLen_eq]; omega
  unfold impl_NameOk.f nameOk
  simp only [implIn, Option.bind_some]
  by_cases c0 : 1 ≤ (s.size : Int) ∧ (s.size : Int) ≤ 8
  · simp only [c0, decide_true, if_true, and_self, Bool.true_and]
    refine Ev.bind (implPlain hm) ?_
    by_cases c1 : plainL (bl s) = true
    · simp only [c1, if_true, Bool.true_and, strings_Contains.f, Option.bind_some, decide_eq_true_eq, indexByte_mem, ba_toList_eq, bne_dec, ba_toList]
      by_cases c2 : (47 : UInt8) ∈ s.data.toList
      · simp only [c2, if_true, not_true_eq_false, decide_false, Bool.false_and]
        exact Ev.now _
      · simp only [c2, if_false, not_false_eq_true, decide_true, Bool.true_and]
        by_cases c3 : bl s = [46]
        · simp only [c3, if_true]
          exact Ev.now _
        · simp only [c3, if_false, ne_eq, not_false_eq_true, decide_true, Bool.true_and]
          exact Ev.now _
    · simp only [c1, Bool.false_eq_true, if_false, Bool.false_and, Bool.and_false]
      exact Ev.now _
  · simp only [c0, decide_false, Bool.false_eq_true, if_false, Bool.false_and, Bool.and_false]
    exact Ev.now _
def pathOk (p : List ByteArray) : Bool := p.all nameOk && decide ((p.length : Int) ≤ 4)
theorem specPathOk {p : List ByteArray} (hp : SmS p) : Ev (fun k => spec_PathOk.f k p) (pathOk p) := by
  have hl : p.length ≤ maxLen := by have := hp.1; rw [maxLen_eq]; omega
  have key : ∀ (suf pre : List ByteArray), p = pre ++ suf → Ev (fun k => spec_PathOk.l0 k p pre.length) (suf.all nameOk && decide ((p.length : Int) ≤ 4)) := by
    intro suf
    induction suf with
    | nil =>
      intro pre h
      refine Ev.step (fun k => spec_PathOk.l0.eq_2 ..) ?_
      simp only [if_neg (end_at h), List.all_nil, Bool.true_and]
      exact Ev.now _
    | cons a suf ih =>
      intro pre h
      refine Ev.step (fun k => spec_PathOk.l0.eq_2 ..) ?_
      simp only [if_pos (lt_at h), if_pos (nonneg_at _), rd_at _ h, next_at h hl]
      refine Ev.bind (specNameOk (hp.2 a (by rw [h]; simp))) ?_
      simp only [List.all_cons]
      by_cases e : nameOk a = true
      · simp only [e, if_true, Bool.true_and]
        exact ih (pre ++ [a]) (snoc_at h)
      · simp only [e, Bool.false_eq_true, if_false, Bool.false_and]
        exact Ev.now _
  exact key p [] rfl
theorem implPathOk {p : List ByteArray} (hp : SmS p) : Ev (fun k => impl_PathOk.f k p) (pathOk p) := by
  have hl : p.length ≤ maxLen := by have := hp.1; rw [maxLen_eq]; omega
  have key : ∀ (suf pre : List ByteArray), p = pre ++ suf → Ev (fun k => impl_PathOk.l0 k p p (p.length : Int) pre.length) (suf.all nameOk && decide ((p.length : Int) ≤ 4)) := by
    intro suf
    induction suf with
    | nil =>
      intro pre h
      refine Ev.step (fun k => impl_PathOk.l0.eq_2 ..) ?_
      simp only [if_neg (end_at h), List.all_nil, Bool.true_and]
      exact Ev.now _
    | cons a suf ih =>
      intro pre h
      refine Ev.step (fun k => impl_PathOk.l0.eq_2 ..) ?_
      simp only [if_pos (lt_at h), if_pos (nonneg_at _), rd_at _ h, next_at h hl]
      refine Ev.bind (implNameOk (hp.2 a (by rw [h]; simp))) ?_
      simp only [List.all_cons]
      by_cases e : nameOk a = true
      · simp only [e, if_true, Bool.true_and]
        exact ih (pre ++ [a]) (snoc_at h)
      · simp only [e, Bool.false_eq_true, if_false, Bool.false_and]
        exact Ev.now _
  exact key p [] rfl
end Go.Proofs.Ytbgggcgjijljkaa.L

/- A path without its last name; as the program and the reference have it. No condition. -/
set_option linter.unusedSimpArgs false
set_option linter.unusedVariables false
namespace Go.Proofs.Ytbgggcgjijljkaa.L
open Go.RowKit Go.Proofs.YtbgggcgjijljkaaW.PrintWords Go.Proofs.YtbgggcgjijljkaaW.PrintLast Go.Proofs.Ytbgggcgjijljkaa.Q
def above (p : List ByteArray) : List ByteArray := p.take (p.length - 1)
theorem above_wrap {p : List ByteArray} (hp : p.length ≤ 1048576) (h : ¬ (p.length : Int) = 0) : wrap64 ((p.length : Int) - 1) = ((p.length - 1 : Nat) : Int) := by
  rw [wrap_id (by omega) (by omega)]; omega
theorem implCopyPath {p : List ByteArray} (hp : p.length ≤ 1048576) : impl_copyPath.f p = some p := by
  unfold impl_copyPath.f
  rw [if_pos (by simp; omega)]; rfl
theorem specAbove {p : List ByteArray} (hp : p.length ≤ 1048576) : spec_Above.f p = some (above p) := by
  unfold spec_Above.f above
  by_cases h : (p.length : Int) = 0
  · rw [if_pos h]
    have : p = [] := List.eq_nil_of_length_eq_zero (by omega)
    rw [this]; rfl
  · simp only [if_neg h, Option.bind_some, above_wrap hp h, if_pos (Int.natCast_nonneg _), Int.toNat_natCast]
    rw [if_pos (by omega), if_pos (by simp; omega)]; rfl
theorem implAbove {p : List ByteArray} (hp : p.length ≤ 1048576) : impl_Above.f p = some (above p) := by
  unfold impl_Above.f above
  by_cases h : (p.length : Int) = 0
  · rw [if_pos h]
    have : p = [] := List.eq_nil_of_length_eq_zero (by omega)
    rw [this]; rfl
  · simp only [if_neg h, above_wrap hp h, if_pos (Int.natCast_nonneg _), Int.toNat_natCast]
    rw [if_pos (by omega), implCopyPath (by simp; omega)]; rfl
end Go.Proofs.Ytbgggcgjijljkaa.L

/- The laws' own functions over a mirrored struct (Prop): size, copy, equality. No condition. -/
set_option linter.unusedSimpArgs false
set_option linter.unusedVariables false
namespace Go.Proofs.Ytbgggcgjijljkaa.L
open Go.RowKit Go.Proofs.YtbgggcgjijljkaaW.PrintWords Go.Proofs.YtbgggcgjijljkaaW.PrintLast Go.Proofs.Ytbgggcgjijljkaa.Q
instance : DecidableEq S72 := fun a b => if h : a.f0 = b.f0 ∧ a.f1 = b.f1 ∧ a.f2 = b.f2 then .isTrue (by cases a; cases b; simp_all) else .isFalse (fun e => h (by rw [e]; exact ⟨rfl, rfl, rfl⟩))
theorem rd_implProp {l pre suf : List S72} {a : S72} (h : l = pre ++ a :: suf) : rd_T72 l (pre.length : Int) = a := getD_at _ h
def SmProp (p : S72) : Prop := p.f0.size ≤ 1048576 ∧ p.f1.size ≤ 1048576 ∧ p.f2.size ≤ 1048576
def SmProps (l : List S72) : Prop := l.length ≤ 1048576 ∧ ∀ p ∈ l, SmProp p
end Go.Proofs.Ytbgggcgjijljkaa.L

/- The laws' own functions over a mirrored struct (Res): size, copy, equality. No condition. -/
set_option linter.unusedSimpArgs false
set_option linter.unusedVariables false
namespace Go.Proofs.Ytbgggcgjijljkaa.L
open Go.RowKit Go.Proofs.YtbgggcgjijljkaaW.PrintWords Go.Proofs.YtbgggcgjijljkaaW.PrintLast Go.Proofs.Ytbgggcgjijljkaa.Q
instance : DecidableEq S57 := fun a b => if h : a.f0 = b.f0 ∧ a.f1 = b.f1 ∧ a.f2 = b.f2 ∧ a.f3 = b.f3 ∧ a.f4 = b.f4 then .isTrue (by cases a; cases b; simp_all) else .isFalse (fun e => h (by rw [e]; exact ⟨rfl, rfl, rfl, rfl, rfl⟩))
theorem rd_implRes {l pre suf : List S57} {a : S57} (h : l = pre ++ a :: suf) : rd_T57 l (pre.length : Int) = a := getD_at _ h
def SmRes (p : S57) : Prop := SmS p.f0 ∧ True ∧ p.f2.size ≤ 1048576 ∧ IntOk p.f3 ∧ SmProps p.f4
def SmRess (l : List S57) : Prop := l.length ≤ 1048576 ∧ ∀ p ∈ l, SmRes p
end Go.Proofs.Ytbgggcgjijljkaa.L

/- Paths: are they the same, is one under the other; as the program and the reference have it. No condition. -/
set_option linter.unusedSimpArgs false
set_option linter.unusedVariables false
namespace Go.Proofs.Ytbgggcgjijljkaa.L
open Go.RowKit Go.Proofs.YtbgggcgjijljkaaW.PrintWords Go.Proofs.YtbgggcgjijljkaaW.PrintLast Go.Proofs.Ytbgggcgjijljkaa.Q
theorem specSame {a b : List ByteArray} (hl : a.length ≤ maxLen) : Ev (fun k => spec_SamePath.f k a b) (decide (a = b)) := by
  unfold spec_SamePath.f
  by_cases e : (a.length : Int) = (b.length : Int)
  · simp only [if_pos e]
    refine eq_loop (a := a) (b := b) (fun k i => spec_SamePath.l0 k a b i) ?_ ?_ a b [] [] rfl rfl rfl (by omega)
    · refine Ev.step (fun k => spec_SamePath.l0.eq_2 ..) ?_
      simp only [Int.lt_irrefl, if_false]
      exact Ev.now _
    · intro pre x su pre' y sv h h' hp
      have h3 := rd_at ByteArray.empty h'
      have h4 := lt_at h'
      rw [← hp] at h3 h4
      refine ⟨fun hne => ?_, fun heq r hr => ?_⟩
      · refine Ev.step (fun k => spec_SamePath.l0.eq_2 ..) ?_
        simp only [if_pos (lt_at h), if_pos (nonneg_at _), if_pos h4, rd_at _ h, h3, ba_eq, hne, if_false]
        exact Ev.now _
      · refine Ev.step (fun k => spec_SamePath.l0.eq_2 ..) ?_
        simp only [if_pos (lt_at h), if_pos (nonneg_at _), if_pos h4, rd_at _ h, h3, heq, if_true, next_at h hl]
        rw [heq] at hr
        exact hr
  · simp only [if_neg e]
    rw [show decide (a = b) = false from decide_eq_false (fun h => e (by rw [h]))]
    exact Ev.now _
theorem implSame {a b : List ByteArray} (hl : a.length ≤ maxLen) : Ev (fun k => impl_SamePath.f k a b) (decide (a = b)) := by
  unfold impl_SamePath.f
  by_cases e : (a.length : Int) = (b.length : Int)
  · simp only [if_pos e]
    refine eq_loop (a := a) (b := b) (fun k i => impl_SamePath.l0 k a b (a.length : Int) i) ?_ ?_ a b [] [] rfl rfl rfl (by omega)
    · refine Ev.step (fun k => impl_SamePath.l0.eq_2 ..) ?_
      simp only [Int.lt_irrefl, if_false]
      exact Ev.now _
    · intro pre x su pre' y sv h h' hp
      have h3 := rd_at ByteArray.empty h'
      have h4 := lt_at h'
      rw [← hp] at h3 h4
      refine ⟨fun hne => ?_, fun heq r hr => ?_⟩
      · refine Ev.step (fun k => impl_SamePath.l0.eq_2 ..) ?_
        simp only [if_pos (lt_at h), if_pos (nonneg_at _), if_pos h4, rd_at _ h, h3, ba_eq, hne, if_false]
        exact Ev.now _
      · refine Ev.step (fun k => impl_SamePath.l0.eq_2 ..) ?_
        simp only [if_pos (lt_at h), if_pos (nonneg_at _), if_pos h4, rd_at _ h, h3, heq, if_true, next_at h hl]
        rw [heq] at hr
        exact hr
  · simp only [if_neg e]
    rw [show decide (a = b) = false from decide_eq_false (fun h => e (by rw [h]))]
    exact Ev.now _
end Go.Proofs.Ytbgggcgjijljkaa.L

/- Shelves: the place of a thing, is it a shelf; as the program and the reference have it. No condition. -/
set_option linter.unusedSimpArgs false
set_option linter.unusedVariables false
namespace Go.Proofs.Ytbgggcgjijljkaa.L
open Go.RowKit Go.Proofs.YtbgggcgjijljkaaW.PrintWords Go.Proofs.YtbgggcgjijljkaaW.PrintLast Go.Proofs.Ytbgggcgjijljkaa.Q
def findFrom (p : List ByteArray) : List S57 → Nat → Int
  | [], _ => -1
  | r :: t, i => if r.f0 = p then (i : Int) else findFrom p t (i + 1)
def findR (t : List S57) (p : List ByteArray) : Int := findFrom p t 0
theorem findFrom_cases (p : List ByteArray) : ∀ (t : List S57) (i : Nat), findFrom p t i = -1 ∧ (∀ r ∈ t, r.f0 ≠ p) ∨ ∃ j, ∃ r, findFrom p t i = ((i + j : Nat) : Int) ∧ t[j]? = some r ∧ r.f0 = p ∧ ∀ j', j' < j → ∀ r', t[j']? = some r' → r'.f0 ≠ p := by
  intro t
  induction t with
  | nil => exact fun i => .inl ⟨rfl, by simp⟩
  | cons r t ih =>
    intro i
    by_cases e : r.f0 = p
    · refine .inr ⟨0, r, by simp [findFrom, e], rfl, e, fun j' h => absurd h (Nat.not_lt_zero _)⟩
    · rcases ih (i + 1) with ⟨h, h2⟩ | ⟨j, r', h, h2, h3, h4⟩
      · exact .inl ⟨by simp [findFrom, e, h], fun x hx => by
          rcases List.mem_cons.1 hx with rfl | hx
          · exact e
          · exact h2 x hx⟩
      · refine .inr ⟨j + 1, r', by simp [findFrom, e, h]; omega, h2, h3, fun j' hj' x hx => ?_⟩
        cases j' with
        | zero =>
          simp at hx
          rw [← hx]
          exact e
        | succ j' => exact h4 j' (by omega) x hx
theorem specFind {t : List S57} {p : List ByteArray} (ht : SmRess t) : Ev (fun k => spec_FindRes.f k t p) (findR t p) := by
  have hl : t.length ≤ maxLen := by have := ht.1; rw [maxLen_eq]; omega
  have key : ∀ (suf pre : List S57), t = pre ++ suf → Ev (fun k => spec_FindRes.l0 k t p pre.length) (findFrom p suf pre.length) := by
    intro suf
    induction suf with
    | nil =>
      intro pre h
      refine Ev.step (fun k => spec_FindRes.l0.eq_2 ..) ?_
      simp only [if_neg (end_at h)]
      exact Ev.now _
    | cons a suf ih =>
      intro pre h
      have hs := (ht.2 a (by rw [h]; simp)).1.1
      refine Ev.step (fun k => spec_FindRes.l0.eq_2 ..) ?_
      simp only [if_pos (lt_at h), if_pos (nonneg_at _), rd_implRes h]
      refine Ev.bind (specSame (by rw [maxLen_eq]; omega)) ?_
      simp only [findFrom, next_at h hl]
      by_cases e : a.f0 = p
      · simp only [e, decide_true, if_true]
        exact Ev.now _
      · simp only [e, decide_false, Bool.false_eq_true, if_false]
        have := ih (pre ++ [a]) (snoc_at h)
        rw [List.length_append, List.length_singleton] at this ⊢
        exact this
  exact key t [] rfl
theorem implFind {t : List S57} {p : List ByteArray} (ht : SmRess t) : Ev (fun k => impl_FindRes.f k t p) (findR t p) := by
  have hl : t.length ≤ maxLen := by have := ht.1; rw [maxLen_eq]; omega
  have key : ∀ (suf pre : List S57), t = pre ++ suf → Ev (fun k => impl_FindRes.l0 k p t (t.length : Int) pre.length) (findFrom p suf pre.length) := by
    intro suf
    induction suf with
    | nil =>
      intro pre h
      refine Ev.step (fun k => impl_FindRes.l0.eq_2 ..) ?_
      simp only [if_neg (end_at h)]
      exact Ev.now _
    | cons a suf ih =>
      intro pre h
      have hs := (ht.2 a (by rw [h]; simp)).1.1
      refine Ev.step (fun k => impl_FindRes.l0.eq_2 ..) ?_
      simp only [if_pos (lt_at h), if_pos (nonneg_at _), rd_implRes h]
      refine Ev.bind (implSame (by rw [maxLen_eq]; omega)) ?_
      simp only [findFrom, next_at h hl]
      by_cases e : a.f0 = p
      · simp only [e, decide_true, if_true]
        exact Ev.now _
      · simp only [e, decide_false, Bool.false_eq_true, if_false]
        have := ih (pre ++ [a]) (snoc_at h)
        rw [List.length_append, List.length_singleton] at this ⊢
        exact this
  exact key t [] rfl
def isColl (t : List S57) (p : List ByteArray) : Bool := decide (p = []) || (decide (0 ≤ findR t p) && (rd_T57 t (findR t p)).f1)
theorem findR_lt (t : List S57) (p : List ByteArray) (h : 0 ≤ findR t p) : findR t p < (t.length : Int) := by
  rcases findFrom_cases p t 0 with ⟨h1, _⟩ | ⟨j, r, h1, h2, _⟩
  · unfold findR at h; omega
  · unfold findR
    have := (List.getElem?_eq_some_iff.1 h2).1
    omega
theorem nil_len {α : Type} (p : List α) : ((p.length : Int) = 0) = (p = []) := propext ⟨fun h => List.eq_nil_of_length_eq_zero (by omega), fun h => by rw [h]; rfl⟩
theorem specIsColl {t : List S57} {p : List ByteArray} (ht : SmRess t) : Ev (fun k => spec_IsColl.f k t p) (isColl t p) := by
  unfold spec_IsColl.f
  refine Ev.bind (specFind ht) ?_
  simp only [nil_len, isColl]
  by_cases e : p = []
  · simp only [e, if_true, decide_true, Bool.true_or]
    exact Ev.now _
  · simp only [e, if_false, decide_false, Bool.false_or]
    by_cases h : 0 ≤ findR t p
    · simp only [ge_iff_le, h, if_true, if_pos (findR_lt t p h), decide_true, Bool.true_and]
      exact Ev.now _
    · simp only [ge_iff_le, h, if_false, decide_false, Bool.false_and]
      exact Ev.now _
theorem implIsColl {t : List S57} {p : List ByteArray} (ht : SmRess t) : Ev (fun k => impl_IsColl.f k t p) (isColl t p) := by
  unfold impl_IsColl.f
  simp only [nil_len, isColl]
  by_cases e : p = []
  · simp only [e, if_true, decide_true, Bool.true_or]
    exact Ev.now _
  · simp only [e, if_false, decide_false, Bool.false_or]
    refine Ev.bind (implFind ht) ?_
    by_cases h : 0 ≤ findR t p
    · simp only [ge_iff_le, h, if_true, if_pos (findR_lt t p h), decide_true, Bool.true_and]
      exact Ev.now _
    · simp only [ge_iff_le, h, if_false, decide_false, Bool.false_and]
      exact Ev.now _
end Go.Proofs.Ytbgggcgjijljkaa.L
