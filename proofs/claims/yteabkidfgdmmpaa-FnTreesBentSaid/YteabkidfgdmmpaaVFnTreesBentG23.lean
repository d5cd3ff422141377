-- PRINTED by print.py (a twelfth state) out of the translation. Not trusted: Lean checks it.
import Derived.Test.YteabkidfgdmmpaaVFnTreesBentG22
set_option maxHeartbeats 8000000
set_option maxRecDepth 100000
namespace Go.Proofs.Yteabkidfgdmmpaa.Q
open Go.RowKit Go.Proofs.YteabkidfgdmmpaaW.PrintWords Go.Proofs.YteabkidfgdmmpaaW.PrintLast Go.Proofs.YteabkidfgdmmpaaW.PrintMore
attribute [local go_sem] max2_int min2_int max_two min_two max_three min_three max_four min_four   -- for this text's walks alone
set_option linter.unusedVariables false
set_option linter.unusedSimpArgs false
def impl_isPlain.f (a0 : Int) : Option (Bool) := if a0 ≥ 32 then (some (decide (a0 ≤ 126))) else (some false)
theorem impl_isPlain.calls (a0 : Int) (r : Bool) (w : World) (h : impl_isPlain.f a0 = some r) :
 Calls Try.prog 114 #[.int .u8 a0] w fun e w' => e = .returned (.bool r) ∧ Drawn0 w w' := by
 have H : (if a0 ≥ 32 then (some (decide (a0 ≤ 126))) else (some false)) = some r := h
 clear h
 by_cases c2 : a0 ≥ 32
 · rw [if_pos c2] at H
   have c2b0 : decide (32 ≤ a0) = true := decide_eq_true c2
   clear c2
   obtain rfl := si_ H
   go_enter Try.func114, Try.ntmps114
   go_wp2
   go_ret
   exact ⟨rs_, dr_⟩
 rw [if_neg c2] at H
 have c2b0 : decide (32 ≤ a0) = false := decide_eq_false c2
 clear c2
 obtain rfl := si_ H
 go_enter Try.func114, Try.ntmps114
 go_wp2
 go_ret
 exact ⟨rs_, dr_⟩
def impl_Plain.l0 : Nat → ByteArray → Int → Option (Bool)
 | 0, _, _ => none
 | k + 1, x0, x3 => if x3 < (x0.size : Int) then (if 0 ≤ x3 then ((impl_isPlain.f (bt x0 x3)).bind fun t253 => (if t253 = true then (impl_Plain.l0 k x0 (wrap64 (x3 + 1))) else (some false))) else (none)) else (some true)
def impl_Plain.f (k : Nat) (a0 : ByteArray) : Option (Bool) := impl_Plain.l0 k a0 0
theorem impl_Plain.calls (k : Nat) (a0 : ByteArray) (r : Bool) (w : World) (h : impl_Plain.f k a0 = some r) :
 Calls Try.prog 97 #[.string a0] w fun e w' => e = .returned (.bool r) ∧ Drawn0 w w' := by
 have H : (impl_Plain.l0 k a0 0) = some r := h
 clear h
 have H' := A_ H
 clear H
 go_enter Try.func97, Try.ntmps97
 go_wp2
 go_loopg [3] k (fun kq v3 w' => ∃ (x3_1 : Int), v3 = .int .i64 x3_1 ∧ Aside0 (impl_Plain.l0 kq a0 x3_1 = some r) ∧ Aside0 (kq ≤ k) ∧ Drawn0 w w')
 case atStart => exact ⟨(0), rs_, H', ⟨Nat.le_refl _⟩, dr_⟩
 case round =>
  clear H'
  obtain ⟨x3_1, rfl, HA, HK1, ⟨m1, rfl⟩⟩ := hrel
  cases gk with
  | zero => exact absurd HA.out (by simp [impl_Plain.l0])
  | succ k1 =>
   have H := HA.out
   clear HA
   simp only [impl_Plain.l0] at H
   by_cases c2 : x3_1 < (a0.size : Int)
   rotate_left
   · rw [if_neg c2] at H
     have c2b0 : decide (x3_1 < (a0.size : Int)) = false := decide_eq_false c2
     clear c2
     obtain rfl := si_ H
     go_wp2
     go_ret
     exact ⟨rs_, dr_⟩
   rw [if_pos c2] at H
   have c2b0 : decide (x3_1 < (a0.size : Int)) = true := decide_eq_true c2
   clear c2
   by_cases c3 : 0 ≤ x3_1
   rotate_left
   · exact absurd H (by rw [if_neg c3]; simp)
   rw [if_pos c3] at H
   have c3b0 : decide (0 ≤ x3_1) = true := decide_eq_true c3
   clear c3
   obtain ⟨t253, A5, H⟩ := bo_ H
   (try dsimp only at H)
   by_cases c6 : t253 = true
   · subst c6
     rw [if_pos rfl] at H
     have H' := A_ H
     clear H
     have p4 : 0 ≤ (x3_1 : Int) := od_
     have q4 : x3_1 < (a0.size : Int) := od_
     have hx4 := bt_at a0 x3_1
     replace p4 := eq_true p4
     replace q4 := eq_true q4
     go_wp2_with (first | ((with_reducible refine gc_ (f := 114) rfl ?_); refine gL_ (some 13) Try.func114 #[.int .u8 (bt a0 x3_1)] ?_; (with_reducible refine (impl_isPlain.calls (bt a0 x3_1) true _ A5.out).mono ?_); rintro e w' ⟨rfl, ⟨nd, rfl⟩⟩; refine ⟨_, rfl, ?_⟩))
     go_roundg k1
     case measure => have := HK1.out; omega
     case rel => exact ⟨(wrap64 (x3_1 + 1)), rs_, H', ⟨by have := HK1.out; omega⟩, dr_⟩
   · replace c6 := Bool.eq_false_iff.mpr c6
     subst c6
     rw [if_neg nf_] at H
     obtain rfl := si_ H
     have p4 : 0 ≤ (x3_1 : Int) := od_
     have q4 : x3_1 < (a0.size : Int) := od_
     have hx4 := bt_at a0 x3_1
     replace p4 := eq_true p4
     replace q4 := eq_true q4
     go_wp2_with (first | ((with_reducible refine gc_ (f := 114) rfl ?_); refine gL_ (some 13) Try.func114 #[.int .u8 (bt a0 x3_1)] ?_; (with_reducible refine (impl_isPlain.calls (bt a0 x3_1) false _ A5.out).mono ?_); rintro e w' ⟨rfl, ⟨nd, rfl⟩⟩; refine ⟨_, rfl, ?_⟩))
     go_ret
     exact ⟨rs_, dr_⟩
def impl_in.f (a0 : Int) (a1 : Int) (a2 : Int) : Option (Bool) := if a0 ≥ a1 then (some (decide (a0 ≤ a2))) else (some false)
theorem impl_in.calls (a0 : Int) (a1 : Int) (a2 : Int) (r : Bool) (w : World) (h : impl_in.f a0 a1 a2 = some r) :
 Calls Try.prog 101 #[.int .i64 a0, .int .i64 a1, .int .i64 a2] w fun e w' => e = .returned (.bool r) ∧ Drawn0 w w' := by
 have H : (if a0 ≥ a1 then (some (decide (a0 ≤ a2))) else (some false)) = some r := h
 clear h
 by_cases c4 : a0 ≥ a1
 · rw [if_pos c4] at H
   have c4b0 : decide (a1 ≤ a0) = true := decide_eq_true c4
   clear c4
   obtain rfl := si_ H
   go_enter Try.func101, Try.ntmps101
   go_wp2
   go_ret
   exact ⟨rs_, dr_⟩
 rw [if_neg c4] at H
 have c4b0 : decide (a1 ≤ a0) = false := decide_eq_false c4
 clear c4
 obtain rfl := si_ H
 go_enter Try.func101, Try.ntmps101
 go_wp2
 go_ret
 exact ⟨rs_, dr_⟩
def impl_isSmall.f (a0 : Int) : Option (Bool) := if a0 ≥ 97 then (some (decide (a0 ≤ 122))) else (some false)
theorem impl_isSmall.calls (a0 : Int) (r : Bool) (w : World) (h : impl_isSmall.f a0 = some r) :
 Calls Try.prog 115 #[.int .u8 a0] w fun e w' => e = .returned (.bool r) ∧ Drawn0 w w' := by
 have H : (if a0 ≥ 97 then (some (decide (a0 ≤ 122))) else (some false)) = some r := h
 clear h
 by_cases c2 : a0 ≥ 97
 · rw [if_pos c2] at H
   have c2b0 : decide (97 ≤ a0) = true := decide_eq_true c2
   clear c2
   obtain rfl := si_ H
   go_enter Try.func115, Try.ntmps115
   go_wp2
   go_ret
   exact ⟨rs_, dr_⟩
 rw [if_neg c2] at H
 have c2b0 : decide (97 ≤ a0) = false := decide_eq_false c2
 clear c2
 obtain rfl := si_ H
 go_enter Try.func115, Try.ntmps115
 go_wp2
 go_ret
 exact ⟨rs_, dr_⟩
def impl_isDigit.f (a0 : Int) : Option (Bool) := if a0 ≥ 48 then (some (decide (a0 ≤ 57))) else (some false)
theorem impl_isDigit.calls (a0 : Int) (r : Bool) (w : World) (h : impl_isDigit.f a0 = some r) :
 Calls Try.prog 116 #[.int .u8 a0] w fun e w' => e = .returned (.bool r) ∧ Drawn0 w w' := by
 have H : (if a0 ≥ 48 then (some (decide (a0 ≤ 57))) else (some false)) = some r := h
 clear h
 by_cases c2 : a0 ≥ 48
 · rw [if_pos c2] at H
   have c2b0 : decide (48 ≤ a0) = true := decide_eq_true c2
   clear c2
   obtain rfl := si_ H
   go_enter Try.func116, Try.ntmps116
   go_wp2
   go_ret
   exact ⟨rs_, dr_⟩
 rw [if_neg c2] at H
 have c2b0 : decide (48 ≤ a0) = false := decide_eq_false c2
 clear c2
 obtain rfl := si_ H
 go_enter Try.func116, Try.ntmps116
 go_wp2
 go_ret
 exact ⟨rs_, dr_⟩
def impl_SmallName.l0 : Nat → ByteArray → Int → Option (Bool)
 | 0, _, _ => none
 | k + 1, x0, x3 => if x3 < (x0.size : Int) then (if 0 ≤ x3 then ((impl_isSmall.f (bt x0 x3)).bind fun t255 => (if t255 = true then (impl_SmallName.l0 k x0 (wrap64 (x3 + 1))) else (if x3 = 0 then (some false) else ((impl_isDigit.f (bt x0 x3)).bind fun t256 => (if t256 = true then (impl_SmallName.l0 k x0 (wrap64 (x3 + 1))) else (if (bt x0 x3) = 45 then (impl_SmallName.l0 k x0 (wrap64 (x3 + 1))) else (some false))))))) else (none)) else ((impl_in.f (x0.size : Int) 1 20).bind fun t254 => (some t254))
def impl_SmallName.f (k : Nat) (a0 : ByteArray) : Option (Bool) := impl_SmallName.l0 k a0 0
theorem impl_SmallName.calls (k : Nat) (a0 : ByteArray) (r : Bool) (w : World) (h : impl_SmallName.f k a0 = some r) :
 Calls Try.prog 98 #[.string a0] w fun e w' => e = .returned (.bool r) ∧ Drawn0 w w' := by
 have H : (impl_SmallName.l0 k a0 0) = some r := h
 clear h
 have H' := A_ H
 clear H
 go_enter Try.func98, Try.ntmps98
 go_wp2
 go_loopg [3] k (fun kq v3 w' => ∃ (x3_1 : Int), v3 = .int .i64 x3_1 ∧ Aside0 (impl_SmallName.l0 kq a0 x3_1 = some r) ∧ Aside0 (kq ≤ k) ∧ Drawn0 w w')
 case atStart => exact ⟨(0), rs_, H', ⟨Nat.le_refl _⟩, dr_⟩
 case round =>
  clear H'
  obtain ⟨x3_1, rfl, HA, HK1, ⟨m1, rfl⟩⟩ := hrel
  cases gk with
  | zero => exact absurd HA.out (by simp [impl_SmallName.l0])
  | succ k1 =>
   have H := HA.out
   clear HA
   simp only [impl_SmallName.l0] at H
   by_cases c2 : x3_1 < (a0.size : Int)
   rotate_left
   · rw [if_neg c2] at H
     have c2b0 : decide (x3_1 < (a0.size : Int)) = false := decide_eq_false c2
     clear c2
     obtain ⟨t254, A13, H⟩ := bo_ H
     (try dsimp only at H)
     obtain rfl := si_ H
     go_wp2_with (first | ((with_reducible refine gc_ (f := 101) rfl ?_); refine gL_ (some 34) Try.func101 #[.int .i64 (a0.size : Int), .int .i64 1, .int .i64 20] ?_; (with_reducible refine (impl_in.calls (a0.size : Int) 1 20 t254 _ A13.out).mono ?_); rintro e w' ⟨rfl, ⟨nd, rfl⟩⟩; refine ⟨_, rfl, ?_⟩))
     go_ret
     exact ⟨rs_, dr_⟩
   rw [if_pos c2] at H
   have c2b0 : decide (x3_1 < (a0.size : Int)) = true := decide_eq_true c2
   clear c2
   by_cases c3 : 0 ≤ x3_1
   rotate_left
   · exact absurd H (by rw [if_neg c3]; simp)
   rw [if_pos c3] at H
   have c3b0 : decide (0 ≤ x3_1) = true := decide_eq_true c3
   clear c3
   obtain ⟨t255, A5, H⟩ := bo_ H
   (try dsimp only at H)
   by_cases c6 : t255 = true
   · subst c6
     rw [if_pos rfl] at H
     have H' := A_ H
     clear H
     have p4 : 0 ≤ (x3_1 : Int) := od_
     have q4 : x3_1 < (a0.size : Int) := od_
     have hx4 := bt_at a0 x3_1
     replace p4 := eq_true p4
     replace q4 := eq_true q4
     go_wp2_with (first | ((with_reducible refine gc_ (f := 115) rfl ?_); refine gL_ (some 13) Try.func115 #[.int .u8 (bt a0 x3_1)] ?_; (with_reducible refine (impl_isSmall.calls (bt a0 x3_1) true _ A5.out).mono ?_); rintro e w' ⟨rfl, ⟨nd, rfl⟩⟩; refine ⟨_, rfl, ?_⟩))
     go_roundg k1
     case measure => have := HK1.out; omega
     case rel => exact ⟨(wrap64 (x3_1 + 1)), rs_, H', ⟨by have := HK1.out; omega⟩, dr_⟩
   · replace c6 := Bool.eq_false_iff.mpr c6
     subst c6
     rw [if_neg nf_] at H
     by_cases c7 : x3_1 = 0
     · rw [if_pos c7] at H
       have c7b0 : (x3_1 == 0) = true := beq_iff_eq.mpr c7
       have c7b1 : (x3_1 != 0) = false := bne_eq_false_iff_eq.mpr c7
       clear c7
       obtain rfl := si_ H
       have p4 : 0 ≤ (x3_1 : Int) := od_
       have q4 : x3_1 < (a0.size : Int) := od_
       have hx4 := bt_at a0 x3_1
       replace p4 := eq_true p4
       replace q4 := eq_true q4
       go_wp2_with (first | ((with_reducible refine gc_ (f := 115) rfl ?_); refine gL_ (some 13) Try.func115 #[.int .u8 (bt a0 x3_1)] ?_; (with_reducible refine (impl_isSmall.calls (bt a0 x3_1) false _ A5.out).mono ?_); rintro e w' ⟨rfl, ⟨nd, rfl⟩⟩; refine ⟨_, rfl, ?_⟩))
       go_ret
       exact ⟨rs_, dr_⟩
     rw [if_neg c7] at H
     have c7b0 : (x3_1 == 0) = false := beq_eq_false_iff_ne.mpr c7
     have c7b1 : (x3_1 != 0) = true := bne_iff_ne.mpr c7
     obtain ⟨t256, A9, H⟩ := bo_ H
     (try dsimp only at H)
     by_cases c10 : t256 = true
     · subst c10
       rw [if_pos rfl] at H
       have H' := A_ H
       clear H
       have p4 : 0 ≤ (x3_1 : Int) := od_
       have q4 : x3_1 < (a0.size : Int) := od_
       have hx4 := bt_at a0 x3_1
       replace p4 := eq_true p4
       replace q4 := eq_true q4
       go_wp2_with (first | ((with_reducible refine gc_ (f := 115) rfl ?_); refine gL_ (some 13) Try.func115 #[.int .u8 (bt a0 x3_1)] ?_; (with_reducible refine (impl_isSmall.calls (bt a0 x3_1) false _ A5.out).mono ?_); rintro e w' ⟨rfl, ⟨nd, rfl⟩⟩; refine ⟨_, rfl, ?_⟩; have p8 : 0 ≤ (x3_1 : Int) := od_; have q8 : x3_1 < (a0.size : Int) := od_; have hx8 := bt_at a0 x3_1; replace p8 := eq_true p8; replace q8 := eq_true q8) | (go_at_call 116; (with_reducible refine (impl_isDigit.calls (bt a0 x3_1) true _ A9.out).mono ?_); rintro e w' ⟨rfl, ⟨nd, rfl⟩⟩))
       go_roundg k1
       case measure => have := HK1.out; omega
       case rel => exact ⟨(wrap64 (x3_1 + 1)), rs_, H', ⟨by have := HK1.out; omega⟩, dr_⟩
     · replace c10 := Bool.eq_false_iff.mpr c10
       subst c10
       rw [if_neg nf_] at H
       by_cases c12 : (bt a0 x3_1) = 45
       rotate_left
       · rw [if_neg c12] at H
         have c12b0 : ((bt a0 x3_1) == 45) = false := beq_eq_false_iff_ne.mpr c12
         have c12b1 : ((bt a0 x3_1) != 45) = true := bne_iff_ne.mpr c12
         obtain rfl := si_ H
         have p4 : 0 ≤ (x3_1 : Int) := od_
         have q4 : x3_1 < (a0.size : Int) := od_
         have hx4 := bt_at a0 x3_1
         replace p4 := eq_true p4
         replace q4 := eq_true q4
         go_wp2_with (first | ((with_reducible refine gc_ (f := 115) rfl ?_); refine gL_ (some 13) Try.func115 #[.int .u8 (bt a0 x3_1)] ?_; (with_reducible refine (impl_isSmall.calls (bt a0 x3_1) false _ A5.out).mono ?_); rintro e w' ⟨rfl, ⟨nd, rfl⟩⟩; refine ⟨_, rfl, ?_⟩; have p8 : 0 ≤ (x3_1 : Int) := od_; have q8 : x3_1 < (a0.size : Int) := od_; have hx8 := bt_at a0 x3_1; replace p8 := eq_true p8; replace q8 := eq_true q8) | (go_at_call 116; (with_reducible refine (impl_isDigit.calls (bt a0 x3_1) false _ A9.out).mono ?_); rintro e w' ⟨rfl, ⟨nd, rfl⟩⟩; have p11 : 0 ≤ (x3_1 : Int) := od_; have q11 : x3_1 < (a0.size : Int) := od_; have hx11 := bt_at a0 x3_1; replace p11 := eq_true p11; replace q11 := eq_true q11))
         go_ret
         exact ⟨rs_, dr_⟩
       rw [if_pos c12] at H
       have c12b0 : ((bt a0 x3_1) == 45) = true := beq_iff_eq.mpr c12
       have c12b1 : ((bt a0 x3_1) != 45) = false := bne_eq_false_iff_eq.mpr c12
       clear c12
       have H' := A_ H
       clear H
       have p4 : 0 ≤ (x3_1 : Int) := od_
       have q4 : x3_1 < (a0.size : Int) := od_
       have hx4 := bt_at a0 x3_1
       replace p4 := eq_true p4
       replace q4 := eq_true q4
       go_wp2_with (first | ((with_reducible refine gc_ (f := 115) rfl ?_); refine gL_ (some 13) Try.func115 #[.int .u8 (bt a0 x3_1)] ?_; (with_reducible refine (impl_isSmall.calls (bt a0 x3_1) false _ A5.out).mono ?_); rintro e w' ⟨rfl, ⟨nd, rfl⟩⟩; refine ⟨_, rfl, ?_⟩; have p8 : 0 ≤ (x3_1 : Int) := od_; have q8 : x3_1 < (a0.size : Int) := od_; have hx8 := bt_at a0 x3_1; replace p8 := eq_true p8; replace q8 := eq_true q8) | (go_at_call 116; (with_reducible refine (impl_isDigit.calls (bt a0 x3_1) false _ A9.out).mono ?_); rintro e w' ⟨rfl, ⟨nd, rfl⟩⟩; have p11 : 0 ≤ (x3_1 : Int) := od_; have q11 : x3_1 < (a0.size : Int) := od_; have hx11 := bt_at a0 x3_1; replace p11 := eq_true p11; replace q11 := eq_true q11))
       go_roundg k1
       case measure => have := HK1.out; omega
       case rel => exact ⟨(wrap64 (x3_1 + 1)), rs_, H', ⟨by have := HK1.out; omega⟩, dr_⟩
def impl_propOk.f (k : Nat) (a0_0 : ByteArray) (a0_1 : ByteArray) (a0_2 : ByteArray) : Option (Bool) := if (a0_0.size : Int) ≤ 20 then ((impl_Plain.f k a0_0).bind fun t258 => (if t258 = true then ((impl_SmallName.f k a0_1).bind fun t259 => (if t259 = true then (if (a0_2.size : Int) ≤ 20 then ((impl_Plain.f k a0_2).bind fun t260 => (some t260)) else (some false)) else (some false))) else (some false))) else (some false)
theorem impl_propOk.calls (k : Nat) (a0_0 : ByteArray) (a0_1 : ByteArray) (a0_2 : ByteArray) (r : Bool) (w : World) (h : impl_propOk.f k a0_0 a0_1 a0_2 = some r) :
 Calls Try.prog 69 #[.agg #[.string a0_0, .string a0_1, .string a0_2]] w fun e w' => e = .returned (.bool r) ∧ Below w.heap.size w w' := by
 have hu71 := Try.underlying71
 have HB := A_ (Below.refl w.heap.size w)
 have H : (if (a0_0.size : Int) ≤ 20 then ((impl_Plain.f k a0_0).bind fun t258 => (if t258 = true then ((impl_SmallName.f k a0_1).bind fun t259 => (if t259 = true then (if (a0_2.size : Int) ≤ 20 then ((impl_Plain.f k a0_2).bind fun t260 => (some t260)) else (some false)) else (some false))) else (some false))) else (some false)) = some r := h
 clear h
 by_cases c2 : (a0_0.size : Int) ≤ 20
 rotate_left
 · rw [if_neg c2] at H
   have c2b0 : decide ((a0_0.size : Int) ≤ 20) = false := decide_eq_false c2
   have c2b1 : decide (a0_0.size ≤ 20) = false := decide_eq_false (by omega)
   clear c2
   obtain rfl := si_ H
   go_enter Try.func69, Try.ntmps69
   go_wp2_with (first | ((with_reducible refine gd_ (N := 1) rfl ?_); (try (refine gate_guard (by rfl) ?_; dsimp only)); refine bx_ (N := 1) (cs := #[.string a0_0, .string a0_1, .string a0_2]) (t := 71) ?_; intro gb257 hg w17 hbox hb; have BK257 := A_ (hbox); have GW257 := A_ (ge_ hg bB_ : w.heap.size ≤ gb257); have GE257 := A_ (ge_ hg bB_ : w.heap.size ≤ gb257); replace HB := A_ (below_step bB_ hb); clear hb hbox hg; obtain ⟨hcz18_0, hcz18_1, hcz18_2, hfz18_0, hfz18_1, hfz18_2⟩ := cz3_ BK257.out))
   go_ret
   exact ⟨rr_, bG_ GE257.out⟩
 rw [if_pos c2] at H
 have c2b0 : decide ((a0_0.size : Int) ≤ 20) = true := decide_eq_true c2
 have c2b1 : decide (a0_0.size ≤ 20) = true := decide_eq_true (by omega)
 clear c2
 obtain ⟨t258, A3, H⟩ := bo_ H
 (try dsimp only at H)
 by_cases c4 : t258 = true
 · subst c4
   rw [if_pos rfl] at H
   obtain ⟨t259, A5, H⟩ := bo_ H
   (try dsimp only at H)
   by_cases c6 : t259 = true
   · subst c6
     rw [if_pos rfl] at H
     by_cases c7 : (a0_2.size : Int) ≤ 20
     rotate_left
     · rw [if_neg c7] at H
       have c7b0 : decide ((a0_2.size : Int) ≤ 20) = false := decide_eq_false c7
       have c7b1 : decide (a0_2.size ≤ 20) = false := decide_eq_false (by omega)
       clear c7
       obtain rfl := si_ H
       go_enter Try.func69, Try.ntmps69
       go_wp2_with (first | ((with_reducible refine gd_ (N := 1) rfl ?_); (try (refine gate_guard (by rfl) ?_; dsimp only)); refine bx_ (N := 1) (cs := #[.string a0_0, .string a0_1, .string a0_2]) (t := 71) ?_; intro gb257 hg w11 hbox hb; have BK257 := A_ (hbox); have GW257 := A_ (ge_ hg bB_ : w.heap.size ≤ gb257); have GE257 := A_ (ge_ hg bB_ : w.heap.size ≤ gb257); replace HB := A_ (below_step bB_ hb); clear hb hbox hg; obtain ⟨hcz12_0, hcz12_1, hcz12_2, hfz12_0, hfz12_1, hfz12_2⟩ := cz3_ BK257.out) | (go_at_call 97; (with_reducible refine (impl_Plain.calls k a0_0 true _ A3.out).mono ?_); rintro e w' ⟨rfl, ⟨nd, rfl⟩⟩) | (go_at_call 98; (with_reducible refine (impl_SmallName.calls k a0_1 true _ A5.out).mono ?_); rintro e w' ⟨rfl, ⟨nd, rfl⟩⟩))
       go_ret
       exact ⟨rr_, bG_ GE257.out⟩
     rw [if_pos c7] at H
     have c7b0 : decide ((a0_2.size : Int) ≤ 20) = true := decide_eq_true c7
     have c7b1 : decide (a0_2.size ≤ 20) = true := decide_eq_true (by omega)
     clear c7
     obtain ⟨t260, A8, H⟩ := bo_ H
     (try dsimp only at H)
     obtain rfl := si_ H
     go_enter Try.func69, Try.ntmps69
     go_wp2_with (first | ((with_reducible refine gd_ (N := 1) rfl ?_); (try (refine gate_guard (by rfl) ?_; dsimp only)); refine bx_ (N := 1) (cs := #[.string a0_0, .string a0_1, .string a0_2]) (t := 71) ?_; intro gb257 hg w9 hbox hb; have BK257 := A_ (hbox); have GW257 := A_ (ge_ hg bB_ : w.heap.size ≤ gb257); have GE257 := A_ (ge_ hg bB_ : w.heap.size ≤ gb257); replace HB := A_ (below_step bB_ hb); clear hb hbox hg; obtain ⟨hcz10_0, hcz10_1, hcz10_2, hfz10_0, hfz10_1, hfz10_2⟩ := cz3_ BK257.out) | (go_at_call 97; (with_reducible refine (impl_Plain.calls k a0_0 true _ A3.out).mono ?_); rintro e w' ⟨rfl, ⟨nd, rfl⟩⟩) | (go_at_call 98; (with_reducible refine (impl_SmallName.calls k a0_1 true _ A5.out).mono ?_); rintro e w' ⟨rfl, ⟨nd, rfl⟩⟩) | (go_at_call 97; (with_reducible refine (impl_Plain.calls k a0_2 t260 _ A8.out).mono ?_); rintro e w' ⟨rfl, ⟨nd, rfl⟩⟩))
     go_ret
     exact ⟨rr_, bG_ GE257.out⟩
   · replace c6 := Bool.eq_false_iff.mpr c6
     subst c6
     rw [if_neg nf_] at H
     obtain rfl := si_ H
     go_enter Try.func69, Try.ntmps69
     go_wp2_with (first | ((with_reducible refine gd_ (N := 1) rfl ?_); (try (refine gate_guard (by rfl) ?_; dsimp only)); refine bx_ (N := 1) (cs := #[.string a0_0, .string a0_1, .string a0_2]) (t := 71) ?_; intro gb257 hg w13 hbox hb; have BK257 := A_ (hbox); have GW257 := A_ (ge_ hg bB_ : w.heap.size ≤ gb257); have GE257 := A_ (ge_ hg bB_ : w.heap.size ≤ gb257); replace HB := A_ (below_step bB_ hb); clear hb hbox hg; obtain ⟨hcz14_0, hcz14_1, hcz14_2, hfz14_0, hfz14_1, hfz14_2⟩ := cz3_ BK257.out) | (go_at_call 97; (with_reducible refine (impl_Plain.calls k a0_0 true _ A3.out).mono ?_); rintro e w' ⟨rfl, ⟨nd, rfl⟩⟩) | (go_at_call 98; (with_reducible refine (impl_SmallName.calls k a0_1 false _ A5.out).mono ?_); rintro e w' ⟨rfl, ⟨nd, rfl⟩⟩))
     go_ret
     exact ⟨rr_, bG_ GE257.out⟩
 · replace c4 := Bool.eq_false_iff.mpr c4
   subst c4
   rw [if_neg nf_] at H
   obtain rfl := si_ H
   go_enter Try.func69, Try.ntmps69
   go_wp2_with (first | ((with_reducible refine gd_ (N := 1) rfl ?_); (try (refine gate_guard (by rfl) ?_; dsimp only)); refine bx_ (N := 1) (cs := #[.string a0_0, .string a0_1, .string a0_2]) (t := 71) ?_; intro gb257 hg w15 hbox hb; have BK257 := A_ (hbox); have GW257 := A_ (ge_ hg bB_ : w.heap.size ≤ gb257); have GE257 := A_ (ge_ hg bB_ : w.heap.size ≤ gb257); replace HB := A_ (below_step bB_ hb); clear hb hbox hg; obtain ⟨hcz16_0, hcz16_1, hcz16_2, hfz16_0, hfz16_1, hfz16_2⟩ := cz3_ BK257.out) | (go_at_call 97; (with_reducible refine (impl_Plain.calls k a0_0 false _ A3.out).mono ?_); rintro e w' ⟨rfl, ⟨nd, rfl⟩⟩))
   go_ret
   exact ⟨rr_, bG_ GE257.out⟩
def impl_lessProp.f (a0_0 : ByteArray) (a0_1 : ByteArray) (a0_2 : ByteArray) (a1_0 : ByteArray) (a1_1 : ByteArray) (a1_2 : ByteArray) : Option (Bool) := if (Op.bytesLess a0_0.toList a1_0.toList) = true then (some true) else (if a0_0.toList = a1_0.toList then (some (Op.bytesLess a0_1.toList a1_1.toList)) else (some false))
theorem impl_lessProp.calls (a0_0 : ByteArray) (a0_1 : ByteArray) (a0_2 : ByteArray) (a1_0 : ByteArray) (a1_1 : ByteArray) (a1_2 : ByteArray) (r : Bool) (w : World) (h : impl_lessProp.f a0_0 a0_1 a0_2 a1_0 a1_1 a1_2 = some r) :
 Calls Try.prog 70 #[.agg #[.string a0_0, .string a0_1, .string a0_2], .agg #[.string a1_0, .string a1_1, .string a1_2]] w fun e w' => e = .returned (.bool r) ∧ Below w.heap.size w w' := by
 have hu71 := Try.underlying71
 have HB := A_ (Below.refl w.heap.size w)
 have H : (if (Op.bytesLess a0_0.toList a1_0.toList) = true then (some true) else (if a0_0.toList = a1_0.toList then (some (Op.bytesLess a0_1.toList a1_1.toList)) else (some false))) = some r := h
 clear h
 by_cases c3 : (Op.bytesLess a0_0.toList a1_0.toList) = true
 · rw [if_pos c3] at H
   have c3b0 : (Op.bytesLess a0_0.toList a1_0.toList) = true := c3
   clear c3
   obtain rfl := si_ H
   go_enter Try.func70, Try.ntmps70
   go_wp2_with (first | ((with_reducible refine gd_ (N := 2) rfl ?_); refine bx_ (N := 2) (cs := #[.string a0_0, .string a0_1, .string a0_2]) (t := 71) ?_; intro gb261 hg w4 hbox hb; have BK261 := A_ (hbox); have GW261 := A_ (ge_ hg bB_ : w.heap.size ≤ gb261); have GE261 := A_ (ge_ hg bB_ : w.heap.size ≤ gb261); replace HB := A_ (below_step bB_ hb); clear hb hbox hg) | ((with_reducible refine gd_ (N := 3) rfl ?_); refine bx_ (N := 3) (cs := #[.string a1_0, .string a1_1, .string a1_2]) (t := 71) ?_; intro gb262 hg w5 hbox hb; have BK262 := A_ (hbox); have GW262 := A_ (ge_ hg (bG_ GE261.out) : w.heap.size ≤ gb262); have GE262 := A_ (ge_ hg (bG_ GE261.out) : w.heap.size ≤ gb262); replace HB := A_ (below_step (bG_ GE261.out) hb); have NB261_262 := A_ (gm_ hg BK261.out); have NB262_261 := A_ (gn_ hg BK261.out); replace BK261 := A_ (bw_ BK261.out hb); clear hb hbox hg; have hnb6 := NB261_262.out; have hnc6 := NB262_261.out; obtain ⟨hcz7_0, hcz7_1, hcz7_2, hfz7_0, hfz7_1, hfz7_2⟩ := cz3_ BK261.out; obtain ⟨hcz8_0, hcz8_1, hcz8_2, hfz8_0, hfz8_1, hfz8_2⟩ := cz3_ BK262.out))
   go_ret
   exact ⟨rr_, by repeat (first | (with_reducible first | exact HB.out | apply below_alloc | apply pw_below_drewN | apply below_drew1 | refine below_set ?_ GE261.out | refine below_set ?_ GE262.out) | exact HB.out)⟩
 rw [if_neg c3] at H
 have c3b0 : (Op.bytesLess a0_0.toList a1_0.toList) = false := by simpa using c3
 clear c3
 by_cases c9 : a0_0.toList = a1_0.toList
 rotate_left
 · rw [if_neg c9] at H
   have c9b0 : (a0_0.toList == a1_0.toList) = false := beq_eq_false_iff_ne.mpr c9
   have c9b1 : (a0_0.toList != a1_0.toList) = true := bne_iff_ne.mpr c9
   obtain rfl := si_ H
   go_enter Try.func70, Try.ntmps70
   go_wp2_with (first | ((with_reducible refine gd_ (N := 2) rfl ?_); refine bx_ (N := 2) (cs := #[.string a0_0, .string a0_1, .string a0_2]) (t := 71) ?_; intro gb261 hg w15 hbox hb; have BK261 := A_ (hbox); have GW261 := A_ (ge_ hg bB_ : w.heap.size ≤ gb261); have GE261 := A_ (ge_ hg bB_ : w.heap.size ≤ gb261); replace HB := A_ (below_step bB_ hb); clear hb hbox hg) | ((with_reducible refine gd_ (N := 3) rfl ?_); refine bx_ (N := 3) (cs := #[.string a1_0, .string a1_1, .string a1_2]) (t := 71) ?_; intro gb262 hg w16 hbox hb; have BK262 := A_ (hbox); have GW262 := A_ (ge_ hg (bG_ GE261.out) : w.heap.size ≤ gb262); have GE262 := A_ (ge_ hg (bG_ GE261.out) : w.heap.size ≤ gb262); replace HB := A_ (below_step (bG_ GE261.out) hb); have NB261_262 := A_ (gm_ hg BK261.out); have NB262_261 := A_ (gn_ hg BK261.out); replace BK261 := A_ (bw_ BK261.out hb); clear hb hbox hg; have hnb17 := NB261_262.out; have hnc17 := NB262_261.out; obtain ⟨hcz18_0, hcz18_1, hcz18_2, hfz18_0, hfz18_1, hfz18_2⟩ := cz3_ BK261.out; obtain ⟨hcz19_0, hcz19_1, hcz19_2, hfz19_0, hfz19_1, hfz19_2⟩ := cz3_ BK262.out))
   go_ret
   exact ⟨rr_, by repeat (first | (with_reducible first | exact HB.out | apply below_alloc | apply pw_below_drewN | apply below_drew1 | refine below_set ?_ GE261.out | refine below_set ?_ GE262.out) | exact HB.out)⟩
 rw [if_pos c9] at H
 have c9b0 : (a0_0.toList == a1_0.toList) = true := beq_iff_eq.mpr c9
 have c9b1 : (a0_0.toList != a1_0.toList) = false := bne_eq_false_iff_eq.mpr c9
 clear c9
 obtain rfl := si_ H
 go_enter Try.func70, Try.ntmps70
 go_wp2_with (first | ((with_reducible refine gd_ (N := 2) rfl ?_); refine bx_ (N := 2) (cs := #[.string a0_0, .string a0_1, .string a0_2]) (t := 71) ?_; intro gb261 hg w10 hbox hb; have BK261 := A_ (hbox); have GW261 := A_ (ge_ hg bB_ : w.heap.size ≤ gb261); have GE261 := A_ (ge_ hg bB_ : w.heap.size ≤ gb261); replace HB := A_ (below_step bB_ hb); clear hb hbox hg) | ((with_reducible refine gd_ (N := 3) rfl ?_); refine bx_ (N := 3) (cs := #[.string a1_0, .string a1_1, .string a1_2]) (t := 71) ?_; intro gb262 hg w11 hbox hb; have BK262 := A_ (hbox); have GW262 := A_ (ge_ hg (bG_ GE261.out) : w.heap.size ≤ gb262); have GE262 := A_ (ge_ hg (bG_ GE261.out) : w.heap.size ≤ gb262); replace HB := A_ (below_step (bG_ GE261.out) hb); have NB261_262 := A_ (gm_ hg BK261.out); have NB262_261 := A_ (gn_ hg BK261.out); replace BK261 := A_ (bw_ BK261.out hb); clear hb hbox hg; have hnb12 := NB261_262.out; have hnc12 := NB262_261.out; obtain ⟨hcz13_0, hcz13_1, hcz13_2, hfz13_0, hfz13_1, hfz13_2⟩ := cz3_ BK261.out; obtain ⟨hcz14_0, hcz14_1, hcz14_2, hfz14_0, hfz14_1, hfz14_2⟩ := cz3_ BK262.out))
 go_ret
 exact ⟨rr_, by repeat (first | (with_reducible first | exact HB.out | apply below_alloc | apply pw_below_drewN | apply below_drew1 | refine below_set ?_ GE261.out | refine below_set ?_ GE262.out) | exact HB.out)⟩
def impl_PropsOk.l0 : Nat → List (S71) → List (S71) → Int → Int → Option (Bool)
 | 0, _, _, _, _ => none
 | k + 1, x0, x5, x6, x7 => if x7 < x6 then (if 0 ≤ x7 then (if x7 < (x5.length : Int) then ((impl_propOk.f k ((rd_T71 x5 x7).f0) ((rd_T71 x5 x7).f1) ((rd_T71 x5 x7).f2)).bind fun t265 => (if t265 = true then (if x7 > 0 then (if 0 ≤ (wrap64 (x7 - 1)) then (if (wrap64 (x7 - 1)) < (x0.length : Int) then ((impl_lessProp.f ((rd_T71 x0 (wrap64 (x7 - 1))).f0) ((rd_T71 x0 (wrap64 (x7 - 1))).f1) ((rd_T71 x0 (wrap64 (x7 - 1))).f2) ((rd_T71 x5 x7).f0) ((rd_T71 x5 x7).f1) ((rd_T71 x5 x7).f2)).bind fun t267 => (if t267 = true then (impl_PropsOk.l0 k x0 x5 x6 (wrap64 (x7 + 1))) else (some false))) else (none)) else (none)) else (impl_PropsOk.l0 k x0 x5 x6 (wrap64 (x7 + 1)))) else (some false))) else (none)) else (none)) else (some (decide ((x0.length : Int) ≤ 4)))
def impl_PropsOk.f (k : Nat) (l0 : List (S71)) : Option (Bool) := impl_PropsOk.l0 k l0 l0 (l0.length : Int) 0
def impl_PropsOk.T4 : Bool × List (List Nat × List Nat) := (true, [([], []), ([0], [0]), ([1], [1]), ([2, 1], [2]), ([3], [3]), ([4, 3], [3, 4]), ([5, 3, 3], [3, 5]), ([6], [6]), ([6], [6]), ([8, 6], [6, 8]), ([7, 9, 6], [6, 7, 9]), ([10, 6], [6, 10]), ([6], [6]), ([11, 12, 6, 6], [6, 11, 12]), ([13, 6], [6, 13]), ([6, 14, 3], [3, 6, 14]), ([3, 15], [3, 15])])
def impl_PropsOk.B4 : List Nat := [0, 1, 3, 7, 15, 31, 63, 127, 127, 383, 1023, 2047, 127, 8191, 16383, 32767, 65535]
theorem impl_PropsOk.tab4 : rtab .any (opsOf Try.f30 4) = impl_PropsOk.T4 := by kernel_rfl
theorem impl_PropsOk.bits4 : waitsOk impl_PropsOk.T4.2 impl_PropsOk.B4 = true := by kernel_rfl
set_option maxHeartbeats 8000000 in
set_option maxRecDepth 100000 in
theorem impl_PropsOk.calls (k : Nat) (A0 : Option Addr) (c0 : Nat) (l0 : List (S71)) (r : Bool) (w : World) (hr0 : Kd.C k71 w A0 l0.length l0) (hc0 : l0.length ≤ c0) (h : impl_PropsOk.f k l0 = some r) :
 Calls Try.prog 30 #[.slice A0 l0.length c0] w fun e w' => e = .returned (.bool r) ∧ Below w.heap.size w w' := by
 have hu71 := Try.underlying71
 have HR0 := A_ hr0
 have HC0 := A_ hc0
 clear hr0 hc0
 have HB := A_ (Below.refl w.heap.size w)
 have H : (impl_PropsOk.l0 k l0 l0 (l0.length : Int) 0) = some r := h
 clear h
 have H' := A_ H
 clear H
 go_enter Try.func30, Try.ntmps30
 go_wp2
 go_loopg [7] k (fun kq v7 w' => ∃ (x7_1 : Int), v7 = .int .i64 x7_1 ∧ Aside0 (impl_PropsOk.l0 kq l0 l0 (l0.length : Int) x7_1 = some r) ∧ Aside0 (kq ≤ k) ∧ Aside0 (Below w.heap.size w w'))
 case atStart => exact ⟨(0), rs_, H', ⟨Nat.le_refl _⟩, ⟨bB_⟩⟩
 case round =>
  clear H'
  obtain ⟨x7_1, rfl, HA, HK1, HB⟩ := hrel
  cases gk with
  | zero => exact absurd HA.out (by simp [impl_PropsOk.l0])
  | succ k1 =>
   have H := HA.out
   clear HA
   simp only [impl_PropsOk.l0] at H
   by_cases c2 : x7_1 < (l0.length : Int)
   rotate_left
   · rw [if_neg c2] at H
     have c2b0 : decide (x7_1 < (l0.length : Int)) = false := decide_eq_false c2
     clear c2
     obtain rfl := si_ H
     go_wp2
     go_ret
     exact ⟨rr_, bB_⟩
   rw [if_pos c2] at H
   have c2b0 : decide (x7_1 < (l0.length : Int)) = true := decide_eq_true c2
   clear c2
   by_cases c3 : 0 ≤ x7_1
   rotate_left
   · exact absurd H (by rw [if_neg c3]; simp)
   rw [if_pos c3] at H
   have c3b0 : decide (0 ≤ x7_1) = true := decide_eq_true c3
   clear c3
   by_cases c4 : x7_1 < (l0.length : Int)
   rotate_left
   · exact absurd H (by rw [if_neg c4]; simp)
   rw [if_pos c4] at H
   have c4b0 : decide (x7_1 < (l0.length : Int)) = true := decide_eq_true c4
   clear c4
   obtain ⟨t265, A5, H⟩ := bo_ H
   (try dsimp only at H)
   by_cases c6 : t265 = true
   · subst c6
     rw [if_pos rfl] at H
     by_cases c7 : x7_1 > 0
     rotate_left
     · rw [if_neg c7] at H
       have c7b0 : decide (0 < x7_1) = false := decide_eq_false c7
       clear c7
       have H' := A_ H
       clear H
       have p263 : 0 ≤ (x7_1 : Int) := od_
       have q263 : x7_1 < (l0.length : Int) := od_
       obtain ⟨ad263, e263, hx263_0, hx263_1, hx263_2⟩ := at_T71 HR0.out x7_1 p263 q263
       cases e263
       replace hx263_0 := bc_ HB.out hx263_0
       replace hx263_1 := bc_ HB.out hx263_1
       replace hx263_2 := bc_ HB.out hx263_2
       replace p263 := eq_true p263
       replace q263 := eq_true q263
       try go_wp2_with (first | ((with_reducible refine gd_ (N := 4) rfl ?_); refine bx_ (N := 4) (cs := #[.string (⟨#[]⟩ : ByteArray), .string (⟨#[]⟩ : ByteArray), .string (⟨#[]⟩ : ByteArray)]) (t := 71) ?_; intro gb264 hg w25 hbox hb; have BK264 := A_ (hbox); have GW264 := A_ (ge_ hg bB_ : w.heap.size ≤ gb264); have GE264 := A_ (ge_ hg bB_ : w.heap.size ≤ gb264); replace HB := A_ (below_step bB_ hb); clear hb hbox hg; obtain ⟨hcz26_0, hcz26_1, hcz26_2, hfz26_0, hfz26_1, hfz26_2⟩ := cz3_ BK264.out))
       have n0_ : Aside0 ((((w25.setCell ⟨gb264, 0, none⟩ (.string ((rd_T71 l0 x7_1).f0))).setCell ⟨gb264, 1, none⟩ (.string ((rd_T71 l0 x7_1).f1))).setCell ⟨gb264, 2, none⟩ (.string ((rd_T71 l0 x7_1).f2))).heap[gb264]? = some (.cells #[.string ((rd_T71 l0 x7_1).f0), .string ((rd_T71 l0 x7_1).f1), .string ((rd_T71 l0 x7_1).f2)] 71 (0, 0))) := ⟨by (with_reducible repeat (first | refine blk_drewN ?_ _ | refine blk_drew ?_ | refine blk_alloc ?_ _)); refine blk_put (cs := #[.string ((rd_T71 l0 x7_1).f0), .string ((rd_T71 l0 x7_1).f1), .string (⟨#[]⟩ : ByteArray)]) ?_ 2 _ rfl; (with_reducible repeat (first | refine blk_drewN ?_ _ | refine blk_drew ?_ | refine blk_alloc ?_ _)); refine blk_put (cs := #[.string ((rd_T71 l0 x7_1).f0), .string (⟨#[]⟩ : ByteArray), .string (⟨#[]⟩ : ByteArray)]) ?_ 1 _ rfl; (with_reducible repeat (first | refine blk_drewN ?_ _ | refine blk_drew ?_ | refine blk_alloc ?_ _)); refine blk_put (cs := #[.string (⟨#[]⟩ : ByteArray), .string (⟨#[]⟩ : ByteArray), .string (⟨#[]⟩ : ByteArray)]) ?_ 0 _ rfl; (with_reducible repeat (first | refine blk_drewN ?_ _ | refine blk_drew ?_ | refine blk_alloc ?_ _)); exact BK264.out⟩
       have n1_ : Aside0 (Below w.heap.size w (((w25.setCell ⟨gb264, 0, none⟩ (.string ((rd_T71 l0 x7_1).f0))).setCell ⟨gb264, 1, none⟩ (.string ((rd_T71 l0 x7_1).f1))).setCell ⟨gb264, 2, none⟩ (.string ((rd_T71 l0 x7_1).f2)))) := ⟨bG_ GE264.out⟩
       (try clear BK264)
       (try clear HB)
       generalize (((w25.setCell ⟨gb264, 0, none⟩ (.string ((rd_T71 l0 x7_1).f0))).setCell ⟨gb264, 1, none⟩ (.string ((rd_T71 l0 x7_1).f1))).setCell ⟨gb264, 2, none⟩ (.string ((rd_T71 l0 x7_1).f2))) = w27 at n0_ n1_ ⊢
       have BK264 := n0_
       have HB := n1_
       clear n0_ n1_
       replace BK264 := A_ (blk_drew BK264.out)
       replace HB := A_ (below_drew1 HB.out)
       refine start_ (n := 17) (S := fun w' => w'.cell? ⟨gb264, 0, none⟩ = some (.string ((rd_T71 l0 x7_1).f0)) ∧ w'.cell? ⟨gb264, 1, none⟩ = some (.string ((rd_T71 l0 x7_1).f1)) ∧ w'.cell? ⟨gb264, 2, none⟩ = some (.string ((rd_T71 l0 x7_1).f2))) (ds := []) #[false, false, false, false, false, false, false, false, false, false, false, false, false, false, false, false, false] (by kernel_rfl) rfl rfl (hl_ BK264.out) (fun hHeld => ?_); refine with_tabW impl_PropsOk.tab4 impl_PropsOk.bits4 (fun HT_ HW_ => ?_)
       generalize w27.drew = w28 at BK264 HB hHeld ⊢
       refine tk_ (i := 0) (N := some 12) hHeld ?_
       refine on_ (i := 1) (N := some 13) (fun K hK => ?_)
       refine goes_ Try.func69 (by kernel_rfl) rfl #[.agg #[.string ((rd_T71 l0 x7_1).f0), .string ((rd_T71 l0 x7_1).f1), .string ((rd_T71 l0 x7_1).f2)]] (by rfl) rfl rfl ml_ ?_
       with_reducible refine (impl_propOk.calls k1 ((rd_T71 l0 x7_1).f0) ((rd_T71 l0 x7_1).f1) ((rd_T71 l0 x7_1).f2) true _ A5.out).mono ?_
       rintro e w29 ⟨rfl, hb⟩
       refine ⟨_, rfl, ?_⟩
       replace BK264 := A_ (bw_ BK264.out hb)
       replace HB := A_ (below_step (bG_ GE264.out) hb)
       (try clear hb)
       (try clear hb2)
       (try clear hk)
       (try clear hi)
       refine hK.out _ _ (hl_ BK264.out) (fun hHeld => ?_)
       clear hK K
       refine no_ (some 13) ?_
       refine pu_ (i := 2) (N := some 14) ?_
       refine pu_ (i := 3) (N := some 15) ?_
       refine pu_ (i := 4) (N := some 16) ?_
       refine pu_ (i := 5) (N := some 17) ?_
       refine pu_ (i := 6) (N := some 18) ?_
       refine pn_ (i := 7) (N := some 19) ?_
       refine pn_ (i := 8) (N := some 20) ?_
       refine pn_ (i := 9) (N := some 21) ?_
       refine pn_ (i := 10) (N := some 22) ?_
       refine pn_ (i := 11) (N := some 23) ?_
       refine pn_ (i := 12) (N := some 24) ?_
       refine pn_ (i := 13) (N := some 25) ?_
       refine pn_ (i := 14) (N := some 26) ?_
       refine pu_ (i := 15) (N := some 27) ?_
       refine pu_ (i := 16) (N := some 28) ?_
       refine done_ (done_of HT_.out (by kernel_rfl)) ?_
       (try clear hHeld)
       try go_wp2
       go_roundg k1
       case measure => have := HK1.out; omega
       case rel => exact ⟨(wrap64 (x7_1 + 1)), rs_, H', ⟨by have := HK1.out; omega⟩, ⟨bG_ GE264.out⟩⟩
     rw [if_pos c7] at H
     have c7b0 : decide (0 < x7_1) = true := decide_eq_true c7
     clear c7
     obtain ⟨ji8, hji8⟩ : ∃ j_ : Int, (wrap64 (x7_1 - 1)) = j_ := ⟨_, rfl⟩
     replace H : (if 0 ≤ (ji8) then (if (ji8) < (l0.length : Int) then ((impl_lessProp.f ((rd_T71 l0 (ji8)).f0) ((rd_T71 l0 (ji8)).f1) ((rd_T71 l0 (ji8)).f2) ((rd_T71 l0 x7_1).f0) ((rd_T71 l0 x7_1).f1) ((rd_T71 l0 x7_1).f2)).bind fun t267 => (if t267 = true then (impl_PropsOk.l0 k1 l0 l0 (l0.length : Int) (wrap64 (x7_1 + 1))) else (some false))) else (none)) else (none)) = some r := by first | (rw [hji8] at H; exact H) | (simp only [hji8] at H ⊢; exact H)
     (try rw [hji8] at A5)
     have hji8w : (IntKind.i64.wrap (x7_1 - 1)) = ji8 := (i64_w _).trans hji8
     by_cases c9 : 0 ≤ (ji8)
     rotate_left
     · exact absurd H (by rw [if_neg c9]; simp)
     rw [if_pos c9] at H
     have c9b0 : decide (0 ≤ (ji8)) = true := decide_eq_true c9
     clear c9
     by_cases c10 : (ji8) < (l0.length : Int)
     rotate_left
     · exact absurd H (by rw [if_neg c10]; simp)
     rw [if_pos c10] at H
     have c10b0 : decide ((ji8) < (l0.length : Int)) = true := decide_eq_true c10
     clear c10
     obtain ⟨t267, A11, H⟩ := bo_ H
     (try dsimp only at H)
     by_cases c12 : t267 = true
     · subst c12
       rw [if_pos rfl] at H
       have H' := A_ H
       clear H
       have p263 : 0 ≤ (x7_1 : Int) := od_
       have q263 : x7_1 < (l0.length : Int) := od_
       obtain ⟨ad263, e263, hx263_0, hx263_1, hx263_2⟩ := at_T71 HR0.out x7_1 p263 q263
       cases e263
       replace hx263_0 := bc_ HB.out hx263_0
       replace hx263_1 := bc_ HB.out hx263_1
       replace hx263_2 := bc_ HB.out hx263_2
       replace p263 := eq_true p263
       replace q263 := eq_true q263
       try go_wp2_with (first | ((with_reducible refine gd_ (N := 4) rfl ?_); refine bx_ (N := 4) (cs := #[.string (⟨#[]⟩ : ByteArray), .string (⟨#[]⟩ : ByteArray), .string (⟨#[]⟩ : ByteArray)]) (t := 71) ?_; intro gb264 hg w13 hbox hb; have BK264 := A_ (hbox); have GW264 := A_ (ge_ hg bB_ : w.heap.size ≤ gb264); have GE264 := A_ (ge_ hg bB_ : w.heap.size ≤ gb264); replace HB := A_ (below_step bB_ hb); clear hb hbox hg; obtain ⟨hcz14_0, hcz14_1, hcz14_2, hfz14_0, hfz14_1, hfz14_2⟩ := cz3_ BK264.out))
       have n0_ : Aside0 ((((w13.setCell ⟨gb264, 0, none⟩ (.string ((rd_T71 l0 x7_1).f0))).setCell ⟨gb264, 1, none⟩ (.string ((rd_T71 l0 x7_1).f1))).setCell ⟨gb264, 2, none⟩ (.string ((rd_T71 l0 x7_1).f2))).heap[gb264]? = some (.cells #[.string ((rd_T71 l0 x7_1).f0), .string ((rd_T71 l0 x7_1).f1), .string ((rd_T71 l0 x7_1).f2)] 71 (0, 0))) := ⟨by (with_reducible repeat (first | refine blk_drewN ?_ _ | refine blk_drew ?_ | refine blk_alloc ?_ _)); refine blk_put (cs := #[.string ((rd_T71 l0 x7_1).f0), .string ((rd_T71 l0 x7_1).f1), .string (⟨#[]⟩ : ByteArray)]) ?_ 2 _ rfl; (with_reducible repeat (first | refine blk_drewN ?_ _ | refine blk_drew ?_ | refine blk_alloc ?_ _)); refine blk_put (cs := #[.string ((rd_T71 l0 x7_1).f0), .string (⟨#[]⟩ : ByteArray), .string (⟨#[]⟩ : ByteArray)]) ?_ 1 _ rfl; (with_reducible repeat (first | refine blk_drewN ?_ _ | refine blk_drew ?_ | refine blk_alloc ?_ _)); refine blk_put (cs := #[.string (⟨#[]⟩ : ByteArray), .string (⟨#[]⟩ : ByteArray), .string (⟨#[]⟩ : ByteArray)]) ?_ 0 _ rfl; (with_reducible repeat (first | refine blk_drewN ?_ _ | refine blk_drew ?_ | refine blk_alloc ?_ _)); exact BK264.out⟩
       have n1_ : Aside0 (Below w.heap.size w (((w13.setCell ⟨gb264, 0, none⟩ (.string ((rd_T71 l0 x7_1).f0))).setCell ⟨gb264, 1, none⟩ (.string ((rd_T71 l0 x7_1).f1))).setCell ⟨gb264, 2, none⟩ (.string ((rd_T71 l0 x7_1).f2)))) := ⟨bG_ GE264.out⟩
       (try clear BK264)
       (try clear HB)
       generalize (((w13.setCell ⟨gb264, 0, none⟩ (.string ((rd_T71 l0 x7_1).f0))).setCell ⟨gb264, 1, none⟩ (.string ((rd_T71 l0 x7_1).f1))).setCell ⟨gb264, 2, none⟩ (.string ((rd_T71 l0 x7_1).f2))) = w15 at n0_ n1_ ⊢
       have BK264 := n0_
       have HB := n1_
       clear n0_ n1_
       replace BK264 := A_ (blk_drew BK264.out)
       replace HB := A_ (below_drew1 HB.out)
       have p266 : 0 ≤ ((ji8) : Int) := od_
       have q266 : (ji8) < (l0.length : Int) := od_
       obtain ⟨ad266, e266, hx266_0, hx266_1, hx266_2⟩ := at_T71 HR0.out (ji8) p266 q266
       have hw266_2 := hx266_2
       have hw266_1 := hx266_1
       have hw266_0 := hx266_0
       obtain rfl : ad263 = ad266 := (by injection e266)
       replace hx266_0 := bc_ HB.out hx266_0
       replace hx266_1 := bc_ HB.out hx266_1
       replace hx266_2 := bc_ HB.out hx266_2
       replace p266 := eq_true p266
       replace q266 := eq_true q266
       refine start_ (n := 17) (S := fun w' => w'.cell? ⟨gb264, 0, none⟩ = some (.string ((rd_T71 l0 x7_1).f0)) ∧ w'.cell? ⟨gb264, 1, none⟩ = some (.string ((rd_T71 l0 x7_1).f1)) ∧ w'.cell? ⟨gb264, 2, none⟩ = some (.string ((rd_T71 l0 x7_1).f2)) ∧ w'.cell? (ad263.add (((ji8)).toNat * 3)) = some (.string ((rd_T71 l0 (ji8)).f0)) ∧ w'.cell? ⟨(ad263.add (((ji8)).toNat * 3)).block, (ad263.add (((ji8)).toNat * 3)).off + 1, none⟩ = some (.string ((rd_T71 l0 (ji8)).f1)) ∧ w'.cell? ⟨(ad263.add (((ji8)).toNat * 3)).block, (ad263.add (((ji8)).toNat * 3)).off + 2, none⟩ = some (.string ((rd_T71 l0 (ji8)).f2))) (ds := []) #[false, false, false, false, false, false, false, false, false, false, false, false, false, false, false, false, false] (by kernel_rfl) rfl rfl ⟨bl_ BK264.out 0, bl_ BK264.out 1, bl_ BK264.out 2, (be_ hw266_0), (be_ hw266_1), (be_ hw266_2)⟩ (fun hHeld => ?_); refine with_tabW impl_PropsOk.tab4 impl_PropsOk.bits4 (fun HT_ HW_ => ?_)
       generalize w15.drew = w16 at BK264 HB hx266_0 hx266_1 hx266_2 hHeld ⊢
       refine tk_ (i := 0) (N := some 12) hHeld ?_
       refine on_ (i := 1) (N := some 13) (fun K hK => ?_)
       refine goes_ Try.func69 (by kernel_rfl) rfl #[.agg #[.string ((rd_T71 l0 x7_1).f0), .string ((rd_T71 l0 x7_1).f1), .string ((rd_T71 l0 x7_1).f2)]] (by rfl) rfl rfl ml_ ?_
       with_reducible refine (impl_propOk.calls k1 ((rd_T71 l0 x7_1).f0) ((rd_T71 l0 x7_1).f1) ((rd_T71 l0 x7_1).f2) true _ A5.out).mono ?_
       rintro e w17 ⟨rfl, hb⟩
       refine ⟨_, rfl, ?_⟩
       replace BK264 := A_ (bw_ BK264.out hb)
       replace HB := A_ (below_step (bG_ GE264.out) hb)
       (try clear hb)
       (try clear hb2)
       (try clear hk)
       (try clear hi)
       refine hK.out _ _ ⟨bl_ BK264.out 0, bl_ BK264.out 1, bl_ BK264.out 2, (be_ hw266_0), (be_ hw266_1), (be_ hw266_2)⟩ (fun hHeld => ?_)
       clear hK K
       refine no_ (some 13) ?_
       refine pu_ (i := 2) (N := some 14) ?_
       refine pu_ (i := 3) (N := some 15) ?_
       refine pu_ (i := 4) (N := some 16) ?_
       refine pu_ (i := 5) (N := some 17) ?_
       refine pu_ (i := 6) (N := some 18) ?_
       refine pu_ (i := 7) (N := some 19) ?_
       refine pu_ (i := 8) (N := some 20) ?_
       refine pu_ (i := 9) (N := some 21) ?_
       refine pu_ (i := 10) (N := some 22) ?_
       refine tk_ (i := 11) (N := some 23) hHeld ?_
       refine tk_ (i := 12) (N := some 24) hHeld ?_
       refine on_ (i := 13) (N := some 25) (fun K hK => ?_)
       refine goes_ Try.func70 (by kernel_rfl) rfl #[.agg #[.string ((rd_T71 l0 (ji8)).f0), .string ((rd_T71 l0 (ji8)).f1), .string ((rd_T71 l0 (ji8)).f2)], .agg #[.string ((rd_T71 l0 x7_1).f0), .string ((rd_T71 l0 x7_1).f1), .string ((rd_T71 l0 x7_1).f2)]] (by rfl) rfl rfl (by (try simp only [List.map_toArray, List.map_cons, List.map_nil]); first | done | (simp only [hji8]; rfl) | rfl | (simp only [List.length_drop, List.length_take]; rfl)) ?_
       with_reducible refine (impl_lessProp.calls ((rd_T71 l0 (ji8)).f0) ((rd_T71 l0 (ji8)).f1) ((rd_T71 l0 (ji8)).f2) ((rd_T71 l0 x7_1).f0) ((rd_T71 l0 x7_1).f1) ((rd_T71 l0 x7_1).f2) true _ A11.out).mono ?_
       rintro e w18 ⟨rfl, hb⟩
       refine ⟨_, rfl, ?_⟩
       replace BK264 := A_ (bw_ BK264.out hb)
       replace HB := A_ (below_step (bG_ GE264.out) hb)
       (try clear hb)
       (try clear hb2)
       (try clear hk)
       (try clear hi)
       refine hK.out _ _ ⟨bl_ BK264.out 0, bl_ BK264.out 1, bl_ BK264.out 2, (be_ hw266_0), (be_ hw266_1), (be_ hw266_2)⟩ (fun hHeld => ?_)
       clear hK K
       refine no_ (some 25) ?_
       refine pu_ (i := 14) (N := some 26) ?_
       refine pu_ (i := 15) (N := some 27) ?_
       refine pu_ (i := 16) (N := some 28) ?_
       refine done_ (done_of HT_.out (by kernel_rfl)) ?_
       (try clear hHeld)
       try go_wp2
       go_roundg k1
       case measure => have := HK1.out; omega
       case rel => exact ⟨(wrap64 (x7_1 + 1)), rs_, H', ⟨by have := HK1.out; omega⟩, ⟨bG_ GE264.out⟩⟩
     · replace c12 := Bool.eq_false_iff.mpr c12
       subst c12
       rw [if_neg nf_] at H
       obtain rfl := si_ H
       have p263 : 0 ≤ (x7_1 : Int) := od_
       have q263 : x7_1 < (l0.length : Int) := od_
       obtain ⟨ad263, e263, hx263_0, hx263_1, hx263_2⟩ := at_T71 HR0.out x7_1 p263 q263
       cases e263
       replace hx263_0 := bc_ HB.out hx263_0
       replace hx263_1 := bc_ HB.out hx263_1
       replace hx263_2 := bc_ HB.out hx263_2
       replace p263 := eq_true p263
       replace q263 := eq_true q263
       try go_wp2_with (first | ((with_reducible refine gd_ (N := 4) rfl ?_); refine bx_ (N := 4) (cs := #[.string (⟨#[]⟩ : ByteArray), .string (⟨#[]⟩ : ByteArray), .string (⟨#[]⟩ : ByteArray)]) (t := 71) ?_; intro gb264 hg w19 hbox hb; have BK264 := A_ (hbox); have GW264 := A_ (ge_ hg bB_ : w.heap.size ≤ gb264); have GE264 := A_ (ge_ hg bB_ : w.heap.size ≤ gb264); replace HB := A_ (below_step bB_ hb); clear hb hbox hg; obtain ⟨hcz20_0, hcz20_1, hcz20_2, hfz20_0, hfz20_1, hfz20_2⟩ := cz3_ BK264.out))
       have n0_ : Aside0 ((((w19.setCell ⟨gb264, 0, none⟩ (.string ((rd_T71 l0 x7_1).f0))).setCell ⟨gb264, 1, none⟩ (.string ((rd_T71 l0 x7_1).f1))).setCell ⟨gb264, 2, none⟩ (.string ((rd_T71 l0 x7_1).f2))).heap[gb264]? = some (.cells #[.string ((rd_T71 l0 x7_1).f0), .string ((rd_T71 l0 x7_1).f1), .string ((rd_T71 l0 x7_1).f2)] 71 (0, 0))) := ⟨by (with_reducible repeat (first | refine blk_drewN ?_ _ | refine blk_drew ?_ | refine blk_alloc ?_ _)); refine blk_put (cs := #[.string ((rd_T71 l0 x7_1).f0), .string ((rd_T71 l0 x7_1).f1), .string (⟨#[]⟩ : ByteArray)]) ?_ 2 _ rfl; (with_reducible repeat (first | refine blk_drewN ?_ _ | refine blk_drew ?_ | refine blk_alloc ?_ _)); refine blk_put (cs := #[.string ((rd_T71 l0 x7_1).f0), .string (⟨#[]⟩ : ByteArray), .string (⟨#[]⟩ : ByteArray)]) ?_ 1 _ rfl; (with_reducible repeat (first | refine blk_drewN ?_ _ | refine blk_drew ?_ | refine blk_alloc ?_ _)); refine blk_put (cs := #[.string (⟨#[]⟩ : ByteArray), .string (⟨#[]⟩ : ByteArray), .string (⟨#[]⟩ : ByteArray)]) ?_ 0 _ rfl; (with_reducible repeat (first | refine blk_drewN ?_ _ | refine blk_drew ?_ | refine blk_alloc ?_ _)); exact BK264.out⟩
       have n1_ : Aside0 (Below w.heap.size w (((w19.setCell ⟨gb264, 0, none⟩ (.string ((rd_T71 l0 x7_1).f0))).setCell ⟨gb264, 1, none⟩ (.string ((rd_T71 l0 x7_1).f1))).setCell ⟨gb264, 2, none⟩ (.string ((rd_T71 l0 x7_1).f2)))) := ⟨bG_ GE264.out⟩
       (try clear BK264)
       (try clear HB)
       generalize (((w19.setCell ⟨gb264, 0, none⟩ (.string ((rd_T71 l0 x7_1).f0))).setCell ⟨gb264, 1, none⟩ (.string ((rd_T71 l0 x7_1).f1))).setCell ⟨gb264, 2, none⟩ (.string ((rd_T71 l0 x7_1).f2))) = w21 at n0_ n1_ ⊢
       have BK264 := n0_
       have HB := n1_
       clear n0_ n1_
       replace BK264 := A_ (blk_drew BK264.out)
       replace HB := A_ (below_drew1 HB.out)
       have p266 : 0 ≤ ((ji8) : Int) := od_
       have q266 : (ji8) < (l0.length : Int) := od_
       obtain ⟨ad266, e266, hx266_0, hx266_1, hx266_2⟩ := at_T71 HR0.out (ji8) p266 q266
       have hw266_2 := hx266_2
       have hw266_1 := hx266_1
       have hw266_0 := hx266_0
       obtain rfl : ad263 = ad266 := (by injection e266)
       replace hx266_0 := bc_ HB.out hx266_0
       replace hx266_1 := bc_ HB.out hx266_1
       replace hx266_2 := bc_ HB.out hx266_2
       replace p266 := eq_true p266
       replace q266 := eq_true q266
       refine start_ (n := 17) (S := fun w' => w'.cell? ⟨gb264, 0, none⟩ = some (.string ((rd_T71 l0 x7_1).f0)) ∧ w'.cell? ⟨gb264, 1, none⟩ = some (.string ((rd_T71 l0 x7_1).f1)) ∧ w'.cell? ⟨gb264, 2, none⟩ = some (.string ((rd_T71 l0 x7_1).f2)) ∧ w'.cell? (ad263.add (((ji8)).toNat * 3)) = some (.string ((rd_T71 l0 (ji8)).f0)) ∧ w'.cell? ⟨(ad263.add (((ji8)).toNat * 3)).block, (ad263.add (((ji8)).toNat * 3)).off + 1, none⟩ = some (.string ((rd_T71 l0 (ji8)).f1)) ∧ w'.cell? ⟨(ad263.add (((ji8)).toNat * 3)).block, (ad263.add (((ji8)).toNat * 3)).off + 2, none⟩ = some (.string ((rd_T71 l0 (ji8)).f2))) (ds := []) #[false, false, false, false, false, false, false, false, false, false, false, false, false, false, false, false, false] (by kernel_rfl) rfl rfl ⟨bl_ BK264.out 0, bl_ BK264.out 1, bl_ BK264.out 2, (be_ hw266_0), (be_ hw266_1), (be_ hw266_2)⟩ (fun hHeld => ?_); refine with_tabW impl_PropsOk.tab4 impl_PropsOk.bits4 (fun HT_ HW_ => ?_)
       generalize w21.drew = w22 at BK264 HB hx266_0 hx266_1 hx266_2 hHeld ⊢
       refine tk_ (i := 0) (N := some 12) hHeld ?_
       refine on_ (i := 1) (N := some 13) (fun K hK => ?_)
       refine goes_ Try.func69 (by kernel_rfl) rfl #[.agg #[.string ((rd_T71 l0 x7_1).f0), .string ((rd_T71 l0 x7_1).f1), .string ((rd_T71 l0 x7_1).f2)]] (by rfl) rfl rfl ml_ ?_
       with_reducible refine (impl_propOk.calls k1 ((rd_T71 l0 x7_1).f0) ((rd_T71 l0 x7_1).f1) ((rd_T71 l0 x7_1).f2) true _ A5.out).mono ?_
       rintro e w23 ⟨rfl, hb⟩
       refine ⟨_, rfl, ?_⟩
       replace BK264 := A_ (bw_ BK264.out hb)
       replace HB := A_ (below_step (bG_ GE264.out) hb)
       (try clear hb)
       (try clear hb2)
       (try clear hk)
       (try clear hi)
       refine hK.out _ _ ⟨bl_ BK264.out 0, bl_ BK264.out 1, bl_ BK264.out 2, (be_ hw266_0), (be_ hw266_1), (be_ hw266_2)⟩ (fun hHeld => ?_)
       clear hK K
       refine no_ (some 13) ?_
       refine pu_ (i := 2) (N := some 14) ?_
       refine pu_ (i := 3) (N := some 15) ?_
       refine pu_ (i := 4) (N := some 16) ?_
       refine pu_ (i := 5) (N := some 17) ?_
       refine pu_ (i := 6) (N := some 18) ?_
       refine pu_ (i := 7) (N := some 19) ?_
       refine pu_ (i := 8) (N := some 20) ?_
       refine pu_ (i := 9) (N := some 21) ?_
       refine pu_ (i := 10) (N := some 22) ?_
       refine tk_ (i := 11) (N := some 23) hHeld ?_
       refine tk_ (i := 12) (N := some 24) hHeld ?_
       refine on_ (i := 13) (N := some 25) (fun K hK => ?_)
       refine goes_ Try.func70 (by kernel_rfl) rfl #[.agg #[.string ((rd_T71 l0 (ji8)).f0), .string ((rd_T71 l0 (ji8)).f1), .string ((rd_T71 l0 (ji8)).f2)], .agg #[.string ((rd_T71 l0 x7_1).f0), .string ((rd_T71 l0 x7_1).f1), .string ((rd_T71 l0 x7_1).f2)]] (by rfl) rfl rfl (by (try simp only [List.map_toArray, List.map_cons, List.map_nil]); first | done | (simp only [hji8]; rfl) | rfl | (simp only [List.length_drop, List.length_take]; rfl)) ?_
       with_reducible refine (impl_lessProp.calls ((rd_T71 l0 (ji8)).f0) ((rd_T71 l0 (ji8)).f1) ((rd_T71 l0 (ji8)).f2) ((rd_T71 l0 x7_1).f0) ((rd_T71 l0 x7_1).f1) ((rd_T71 l0 x7_1).f2) false _ A11.out).mono ?_
       rintro e w24 ⟨rfl, hb⟩
       refine ⟨_, rfl, ?_⟩
       replace BK264 := A_ (bw_ BK264.out hb)
       replace HB := A_ (below_step (bG_ GE264.out) hb)
       (try clear hb)
       (try clear hb2)
       (try clear hk)
       (try clear hi)
       refine hK.out _ _ ⟨bl_ BK264.out 0, bl_ BK264.out 1, bl_ BK264.out 2, (be_ hw266_0), (be_ hw266_1), (be_ hw266_2)⟩ (fun hHeld => ?_)
       clear hK K
       refine no_ (some 25) ?_
       refine pu_ (i := 14) (N := some 26) ?_
       refine pu_ (i := 15) (N := some 27) ?_
       refine pu_ (i := 16) (N := some 28) ?_
       refine done_ (done_of HT_.out (by kernel_rfl)) ?_
       (try clear hHeld)
       try go_wp2
       go_ret
       exact ⟨by first | rfl | (simp [errW_none, errW_some] <;> rfl) | (simp only [← hji8]; first | rfl | (simp [errW_none, errW_some] <;> rfl)) | (simp [*, errW_none, errW_some] <;> rfl), bG_ GE264.out⟩
   · replace c6 := Bool.eq_false_iff.mpr c6
     subst c6
     rw [if_neg nf_] at H
     obtain rfl := si_ H
     have p263 : 0 ≤ (x7_1 : Int) := od_
     have q263 : x7_1 < (l0.length : Int) := od_
     obtain ⟨ad263, e263, hx263_0, hx263_1, hx263_2⟩ := at_T71 HR0.out x7_1 p263 q263
     cases e263
     replace hx263_0 := bc_ HB.out hx263_0
     replace hx263_1 := bc_ HB.out hx263_1
     replace hx263_2 := bc_ HB.out hx263_2
     replace p263 := eq_true p263
     replace q263 := eq_true q263
     try go_wp2_with (first | ((with_reducible refine gd_ (N := 4) rfl ?_); refine bx_ (N := 4) (cs := #[.string (⟨#[]⟩ : ByteArray), .string (⟨#[]⟩ : ByteArray), .string (⟨#[]⟩ : ByteArray)]) (t := 71) ?_; intro gb264 hg w30 hbox hb; have BK264 := A_ (hbox); have GW264 := A_ (ge_ hg bB_ : w.heap.size ≤ gb264); have GE264 := A_ (ge_ hg bB_ : w.heap.size ≤ gb264); replace HB := A_ (below_step bB_ hb); clear hb hbox hg; obtain ⟨hcz31_0, hcz31_1, hcz31_2, hfz31_0, hfz31_1, hfz31_2⟩ := cz3_ BK264.out))
     have n0_ : Aside0 ((((w30.setCell ⟨gb264, 0, none⟩ (.string ((rd_T71 l0 x7_1).f0))).setCell ⟨gb264, 1, none⟩ (.string ((rd_T71 l0 x7_1).f1))).setCell ⟨gb264, 2, none⟩ (.string ((rd_T71 l0 x7_1).f2))).heap[gb264]? = some (.cells #[.string ((rd_T71 l0 x7_1).f0), .string ((rd_T71 l0 x7_1).f1), .string ((rd_T71 l0 x7_1).f2)] 71 (0, 0))) := ⟨by (with_reducible repeat (first | refine blk_drewN ?_ _ | refine blk_drew ?_ | refine blk_alloc ?_ _)); refine blk_put (cs := #[.string ((rd_T71 l0 x7_1).f0), .string ((rd_T71 l0 x7_1).f1), .string (⟨#[]⟩ : ByteArray)]) ?_ 2 _ rfl; (with_reducible repeat (first | refine blk_drewN ?_ _ | refine blk_drew ?_ | refine blk_alloc ?_ _)); refine blk_put (cs := #[.string ((rd_T71 l0 x7_1).f0), .string (⟨#[]⟩ : ByteArray), .string (⟨#[]⟩ : ByteArray)]) ?_ 1 _ rfl; (with_reducible repeat (first | refine blk_drewN ?_ _ | refine blk_drew ?_ | refine blk_alloc ?_ _)); refine blk_put (cs := #[.string (⟨#[]⟩ : ByteArray), .string (⟨#[]⟩ : ByteArray), .string (⟨#[]⟩ : ByteArray)]) ?_ 0 _ rfl; (with_reducible repeat (first | refine blk_drewN ?_ _ | refine blk_drew ?_ | refine blk_alloc ?_ _)); exact BK264.out⟩
     have n1_ : Aside0 (Below w.heap.size w (((w30.setCell ⟨gb264, 0, none⟩ (.string ((rd_T71 l0 x7_1).f0))).setCell ⟨gb264, 1, none⟩ (.string ((rd_T71 l0 x7_1).f1))).setCell ⟨gb264, 2, none⟩ (.string ((rd_T71 l0 x7_1).f2)))) := ⟨bG_ GE264.out⟩
     (try clear BK264)
     (try clear HB)
     generalize (((w30.setCell ⟨gb264, 0, none⟩ (.string ((rd_T71 l0 x7_1).f0))).setCell ⟨gb264, 1, none⟩ (.string ((rd_T71 l0 x7_1).f1))).setCell ⟨gb264, 2, none⟩ (.string ((rd_T71 l0 x7_1).f2))) = w32 at n0_ n1_ ⊢
     have BK264 := n0_
     have HB := n1_
     clear n0_ n1_
     replace BK264 := A_ (blk_drew BK264.out)
     replace HB := A_ (below_drew1 HB.out)
     refine start_ (n := 17) (S := fun w' => w'.cell? ⟨gb264, 0, none⟩ = some (.string ((rd_T71 l0 x7_1).f0)) ∧ w'.cell? ⟨gb264, 1, none⟩ = some (.string ((rd_T71 l0 x7_1).f1)) ∧ w'.cell? ⟨gb264, 2, none⟩ = some (.string ((rd_T71 l0 x7_1).f2))) (ds := []) #[false, false, false, false, false, false, false, false, false, false, false, false, false, false, false, false, false] (by kernel_rfl) rfl rfl (hl_ BK264.out) (fun hHeld => ?_); refine with_tabW impl_PropsOk.tab4 impl_PropsOk.bits4 (fun HT_ HW_ => ?_)
     generalize w32.drew = w33 at BK264 HB hHeld ⊢
     refine tk_ (i := 0) (N := some 12) hHeld ?_
     refine on_ (i := 1) (N := some 13) (fun K hK => ?_)
     refine goes_ Try.func69 (by kernel_rfl) rfl #[.agg #[.string ((rd_T71 l0 x7_1).f0), .string ((rd_T71 l0 x7_1).f1), .string ((rd_T71 l0 x7_1).f2)]] (by rfl) rfl rfl ml_ ?_
     with_reducible refine (impl_propOk.calls k1 ((rd_T71 l0 x7_1).f0) ((rd_T71 l0 x7_1).f1) ((rd_T71 l0 x7_1).f2) false _ A5.out).mono ?_
     rintro e w34 ⟨rfl, hb⟩
     refine ⟨_, rfl, ?_⟩
     replace BK264 := A_ (bw_ BK264.out hb)
     replace HB := A_ (below_step (bG_ GE264.out) hb)
     (try clear hb)
     (try clear hb2)
     (try clear hk)
     (try clear hi)
     refine hK.out _ _ (hl_ BK264.out) (fun hHeld => ?_)
     clear hK K
     refine no_ (some 13) ?_
     refine pu_ (i := 2) (N := some 14) ?_
     refine pu_ (i := 3) (N := some 15) ?_
     refine pn_ (i := 4) (N := some 16) ?_
     refine pn_ (i := 5) (N := some 17) ?_
     refine pn_ (i := 6) (N := some 18) ?_
     refine pn_ (i := 7) (N := some 19) ?_
     refine pn_ (i := 8) (N := some 20) ?_
     refine pn_ (i := 9) (N := some 21) ?_
     refine pn_ (i := 10) (N := some 22) ?_
     refine pn_ (i := 11) (N := some 23) ?_
     refine pn_ (i := 12) (N := some 24) ?_
     refine pn_ (i := 13) (N := some 25) ?_
     refine pn_ (i := 14) (N := some 26) ?_
     refine pn_ (i := 15) (N := some 27) ?_
     refine pu_ (i := 16) (N := some 28) ?_
     refine done_ (done_of HT_.out (by kernel_rfl)) ?_
     (try clear hHeld)
     try go_wp2
     go_ret
     exact ⟨rr_, bG_ GE264.out⟩
set_option maxHeartbeats 8000000
set_option maxRecDepth 100000
def spec_SamePath.l0 : Nat → List ByteArray → List ByteArray → Int → Option (Bool)
 | 0, _, _, _ => none
 | k + 1, x0, x1, x5 => if x5 < (x0.length : Int) then (if 0 ≤ x5 then (if x5 < (x1.length : Int) then (if (rdOf ByteArray.empty x0 x5).toList = (rdOf ByteArray.empty x1 x5).toList then (spec_SamePath.l0 k x0 x1 (wrap64 (x5 + 1))) else (some false)) else (none)) else (none)) else (some true)
def spec_SamePath.f (k : Nat) (l0 : List ByteArray) (l1 : List ByteArray) : Option (Bool) := if (l0.length : Int) = (l1.length : Int) then (spec_SamePath.l0 k l0 l1 0) else (some false)
theorem spec_SamePath.calls (k : Nat) (A0 : Option Addr) (c0 : Nat) (l0 : List ByteArray) (A1 : Option Addr) (c1 : Nat) (l1 : List ByteArray) (r : Bool) (w : World) (hr0 : Kd.C Kd.string w A0 l0.length l0) (hc0 : l0.length ≤ c0) (hr1 : Kd.C Kd.string w A1 l1.length l1) (hc1 : l1.length ≤ c1) (h : spec_SamePath.f k l0 l1 = some r) :
 Calls Try.prog 74 #[.slice A0 l0.length c0, .slice A1 l1.length c1] w fun e w' => e = .returned (.bool r) ∧ Drawn0 w w' := by
 have HR0 := A_ hr0
 have HC0 := A_ hc0
 clear hr0 hc0
 have HR1 := A_ hr1
 have HC1 := A_ hc1
 clear hr1 hc1
 have H : (if (l0.length : Int) = (l1.length : Int) then (spec_SamePath.l0 k l0 l1 0) else (some false)) = some r := h
 clear h
 by_cases c3 : (l0.length : Int) = (l1.length : Int)
 rotate_left
 · rw [if_neg c3] at H
   have c3b0 : ((l0.length : Int) == (l1.length : Int)) = false := beq_eq_false_iff_ne.mpr c3
   have c3b1 : ((l0.length : Int) != (l1.length : Int)) = true := bne_iff_ne.mpr c3
   have c3b2 : (l0.length == l1.length) = false := by first | simpa using c3 | (simp at c3 ⊢; omega)
   obtain rfl := si_ H
   go_enter Try.func74, Try.ntmps74
   go_wp2
   repeat (go_quiet (fail); try go_wp2)
   go_ret
   exact ⟨rs_, dr_⟩
 rw [if_pos c3] at H
 have c3b0 : ((l0.length : Int) == (l1.length : Int)) = true := beq_iff_eq.mpr c3
 have c3b1 : ((l0.length : Int) != (l1.length : Int)) = false := bne_eq_false_iff_eq.mpr c3
 have c3b2 : (l0.length == l1.length) = true := by first | simpa using c3 | (simp at c3 ⊢; omega)
 clear c3
 have H' := A_ H
 clear H
 go_enter Try.func74, Try.ntmps74
 go_wp2
 repeat (go_quiet (fail); try go_wp2)
 go_loopg [5] k (fun kq v5 w' => ∃ (x5_1 : Int), v5 = .int .i64 x5_1 ∧ Aside0 (spec_SamePath.l0 kq l0 l1 x5_1 = some r) ∧ Aside0 (kq ≤ k) ∧ Drawn0 w w')
 case atStart => exact ⟨(0), rs_, H', ⟨Nat.le_refl _⟩, dr_⟩
 case round =>
  clear H'
  try clear c1
  try clear p2
  try clear c3
  try clear c3b0
  try clear c3b1
  try clear c3b2
  obtain ⟨x5_1, rfl, HA, HK1, ⟨m1, rfl⟩⟩ := hrel
  cases gk with
  | zero => exact absurd HA.out (by simp [spec_SamePath.l0])
  | succ k1 =>
   have H := HA.out
   clear HA
   simp only [spec_SamePath.l0] at H
   by_cases c4 : x5_1 < (l0.length : Int)
   rotate_left
   · rw [if_neg c4] at H
     have c4b0 : decide (x5_1 < (l0.length : Int)) = false := decide_eq_false c4
     clear c4
     obtain rfl := si_ H
     go_wp2
     repeat (go_quiet (fail); try go_wp2)
     go_ret
     exact ⟨rs_, dr_⟩
   rw [if_pos c4] at H
   have c4b0 : decide (x5_1 < (l0.length : Int)) = true := decide_eq_true c4
   clear c4
   by_cases c5 : 0 ≤ x5_1
   rotate_left
   · exact absurd H (by rw [if_neg c5]; simp)
   rw [if_pos c5] at H
   have c5b0 : decide (0 ≤ x5_1) = true := decide_eq_true c5
   clear c5
   by_cases c6 : x5_1 < (l1.length : Int)
   rotate_left
   · exact absurd H (by rw [if_neg c6]; simp)
   rw [if_pos c6] at H
   have c6b0 : decide (x5_1 < (l1.length : Int)) = true := decide_eq_true c6
   clear c6
   by_cases c7 : (rdOf ByteArray.empty l0 x5_1).toList = (rdOf ByteArray.empty l1 x5_1).toList
   rotate_left
   · rw [if_neg c7] at H
     have c7b0 : ((rdOf ByteArray.empty l0 x5_1).toList == (rdOf ByteArray.empty l1 x5_1).toList) = false := beq_eq_false_iff_ne.mpr c7
     have c7b1 : ((rdOf ByteArray.empty l0 x5_1).toList != (rdOf ByteArray.empty l1 x5_1).toList) = true := bne_iff_ne.mpr c7
     obtain rfl := si_ H
     have p332 : 0 ≤ (x5_1 : Int) := od_
     have q332 : x5_1 < (l0.length : Int) := od_
     obtain ⟨ad332, e332, hx332_0⟩ := Kd.at_string HR0.out x5_1 p332 q332
     cases e332
     replace p332 := eq_true p332
     replace q332 := eq_true q332
     have p333 : 0 ≤ (x5_1 : Int) := od_
     have q333 : x5_1 < (l1.length : Int) := od_
     obtain ⟨ad333, e333, hx333_0⟩ := Kd.at_string HR1.out x5_1 p333 q333
     cases e333
     replace p333 := eq_true p333
     replace q333 := eq_true q333
     go_wp2
     repeat (go_quiet (fail); try go_wp2)
     go_ret
     exact ⟨rs_, dr_⟩
   rw [if_pos c7] at H
   have c7b0 : ((rdOf ByteArray.empty l0 x5_1).toList == (rdOf ByteArray.empty l1 x5_1).toList) = true := beq_iff_eq.mpr c7
   have c7b1 : ((rdOf ByteArray.empty l0 x5_1).toList != (rdOf ByteArray.empty l1 x5_1).toList) = false := bne_eq_false_iff_eq.mpr c7
   clear c7
   have H' := A_ H
   clear H
   have p332 : 0 ≤ (x5_1 : Int) := od_
   have q332 : x5_1 < (l0.length : Int) := od_
   obtain ⟨ad332, e332, hx332_0⟩ := Kd.at_string HR0.out x5_1 p332 q332
   cases e332
   replace p332 := eq_true p332
   replace q332 := eq_true q332
   have p333 : 0 ≤ (x5_1 : Int) := od_
   have q333 : x5_1 < (l1.length : Int) := od_
   obtain ⟨ad333, e333, hx333_0⟩ := Kd.at_string HR1.out x5_1 p333 q333
   cases e333
   replace p333 := eq_true p333
   replace q333 := eq_true q333
   go_wp2
   repeat (go_quiet (fail); try go_wp2)
   go_roundg k1
   case measure => have := HK1.out; omega
   case rel => exact ⟨(wrap64 (x5_1 + 1)), rs_, H', ⟨by have := HK1.out; omega⟩, dr_⟩
def spec_FindRes.l0 : Nat → List (S59) → List ByteArray → Int → Option (Int)
 | 0, _, _, _ => none
 | k + 1, x0, x1, x5 => if x5 < (x0.length : Int) then (if 0 ≤ x5 then ((spec_SamePath.f k ((rd_T59 x0 x5).f0) x1).bind fun t335 => (if t335 = true then (some x5) else (spec_FindRes.l0 k x0 x1 (wrap64 (x5 + 1))))) else (none)) else (some (-1))
def spec_FindRes.f (k : Nat) (l0 : List (S59)) (l1 : List ByteArray) : Option (Int) := spec_FindRes.l0 k l0 l1 0
theorem spec_FindRes.calls (k : Nat) (A0 : Option Addr) (c0 : Nat) (l0 : List (S59)) (A1 : Option Addr) (c1 : Nat) (l1 : List ByteArray) (r : Int) (w : World) (hr0 : Kd.C k59 w A0 l0.length l0) (hc0 : l0.length ≤ c0) (hr1 : Kd.C Kd.string w A1 l1.length l1) (hc1 : l1.length ≤ c1) (h : spec_FindRes.f k l0 l1 = some r) :
 Calls Try.prog 36 #[.slice A0 l0.length c0, .slice A1 l1.length c1] w fun e w' => e = .returned (.int .i64 r) ∧ Drawn0 w w' := by
 have HR0 := A_ hr0
 have HC0 := A_ hc0
 clear hr0 hc0
 have HR1 := A_ hr1
 have HC1 := A_ hc1
 clear hr1 hc1
 have H : (spec_FindRes.l0 k l0 l1 0) = some r := h
 clear h
 have H' := A_ H
 clear H
 go_enter Try.func36, Try.ntmps36
 go_wp2
 go_loopg [5] k (fun kq v5 w' => ∃ (x5_1 : Int), v5 = .int .i64 x5_1 ∧ Aside0 (spec_FindRes.l0 kq l0 l1 x5_1 = some r) ∧ Aside0 (kq ≤ k) ∧ Drawn0 w w')
 case atStart => exact ⟨(0), rs_, H', ⟨Nat.le_refl _⟩, dr_⟩
 case round =>
  clear H'
  try clear c1
  try clear p2
  obtain ⟨x5_1, rfl, HA, HK1, ⟨m1, rfl⟩⟩ := hrel
  cases gk with
  | zero => exact absurd HA.out (by simp [spec_FindRes.l0])
  | succ k1 =>
   have H := HA.out
   clear HA
   simp only [spec_FindRes.l0] at H
   by_cases c3 : x5_1 < (l0.length : Int)
   rotate_left
   · rw [if_neg c3] at H
     have c3b0 : decide (x5_1 < (l0.length : Int)) = false := decide_eq_false c3
     clear c3
     obtain rfl := si_ H
     go_wp2
     go_ret
     exact ⟨rs_, dr_⟩
   rw [if_pos c3] at H
   have c3b0 : decide (x5_1 < (l0.length : Int)) = true := decide_eq_true c3
   clear c3
   by_cases c4 : 0 ≤ x5_1
   rotate_left
   · exact absurd H (by rw [if_neg c4]; simp)
   rw [if_pos c4] at H
   have c4b0 : decide (0 ≤ x5_1) = true := decide_eq_true c4
   clear c4
   obtain ⟨t335, A5, H⟩ := bo_ H
   (try dsimp only at H)
   by_cases c6 : t335 = true
   · subst c6
     rw [if_pos rfl] at H
     obtain rfl := si_ H
     have p334 : 0 ≤ (x5_1 : Int) := od_
     have q334 : x5_1 < (l0.length : Int) := od_
     obtain ⟨ad334, A334_0, c334_0, A334_4, c334_4, e334, hx334_0, hx334_1, hx334_2, hx334_3, hx334_4, hl334_0, hi334_0, hl334_4, hi334_4⟩ := at_T59 HR0.out x5_1 p334 q334
     cases e334
     have HR334_0 := A_ hi334_0
     have HC334_0 := A_ hl334_0
     clear hi334_0 hl334_0
     have HR334_4 := A_ hi334_4
     have HC334_4 := A_ hl334_4
     clear hi334_4 hl334_4
     replace p334 := eq_true p334
     replace q334 := eq_true q334
     go_wp2_with (first | ((with_reducible refine gc_ (f := 74) rfl ?_); refine gL_ (some 18) Try.func74 #[.slice A334_0 ((rd_T59 l0 x5_1).f0).length c334_0, .slice A1 l1.length c1] ?_; (with_reducible refine (spec_SamePath.calls k1 _ _ ((rd_T59 l0 x5_1).f0) _ _ l1 true _ ?s1 ?s2 ?s3 ?s4 A5.out).mono ?_); (case s1 => exact cC_ HR334_0.out); (case s2 => exact HC334_0.out); (case s3 => exact cC_ HR1.out); (case s4 => exact HC1.out); rintro e w' ⟨rfl, ⟨nd, rfl⟩⟩; refine ⟨_, rfl, ?_⟩))
     go_ret
     exact ⟨rs_, dr_⟩
   · replace c6 := Bool.eq_false_iff.mpr c6
     subst c6
     rw [if_neg nf_] at H
     have H' := A_ H
     clear H
     have p334 : 0 ≤ (x5_1 : Int) := od_
     have q334 : x5_1 < (l0.length : Int) := od_
     obtain ⟨ad334, A334_0, c334_0, A334_4, c334_4, e334, hx334_0, hx334_1, hx334_2, hx334_3, hx334_4, hl334_0, hi334_0, hl334_4, hi334_4⟩ := at_T59 HR0.out x5_1 p334 q334
     cases e334
     have HR334_0 := A_ hi334_0
     have HC334_0 := A_ hl334_0
     clear hi334_0 hl334_0
     have HR334_4 := A_ hi334_4
     have HC334_4 := A_ hl334_4
     clear hi334_4 hl334_4
     replace p334 := eq_true p334
     replace q334 := eq_true q334
     go_wp2_with (first | ((with_reducible refine gc_ (f := 74) rfl ?_); refine gL_ (some 18) Try.func74 #[.slice A334_0 ((rd_T59 l0 x5_1).f0).length c334_0, .slice A1 l1.length c1] ?_; (with_reducible refine (spec_SamePath.calls k1 _ _ ((rd_T59 l0 x5_1).f0) _ _ l1 false _ ?s1 ?s2 ?s3 ?s4 A5.out).mono ?_); (case s1 => exact cC_ HR334_0.out); (case s2 => exact HC334_0.out); (case s3 => exact cC_ HR1.out); (case s4 => exact HC1.out); rintro e w' ⟨rfl, ⟨nd, rfl⟩⟩; refine ⟨_, rfl, ?_⟩))
     go_roundg k1
     case measure => have := HK1.out; omega
     case rel => exact ⟨(wrap64 (x5_1 + 1)), rs_, H', ⟨by have := HK1.out; omega⟩, dr_⟩
set_option maxHeartbeats 8000000
set_option maxRecDepth 100000
def impl_SamePath.l0 : Nat → List ByteArray → List ByteArray → Int → Int → Option (Bool)
 | 0, _, _, _, _ => none
 | k + 1, x0, x1, x12, x13 => if x13 < x12 then (if 0 ≤ x13 then (if x13 < (x0.length : Int) then (if x13 < (x1.length : Int) then (if (rdOf ByteArray.empty x0 x13).toList = (rdOf ByteArray.empty x1 x13).toList then (impl_SamePath.l0 k x0 x1 x12 (wrap64 (x13 + 1))) else (some false)) else (none)) else (none)) else (none)) else (some true)
def impl_SamePath.f (k : Nat) (l0 : List ByteArray) (l1 : List ByteArray) : Option (Bool) := if (l0.length : Int) = (l1.length : Int) then (impl_SamePath.l0 k l0 l1 (l0.length : Int) 0) else (some false)
theorem impl_SamePath.calls (k : Nat) (A0 : Option Addr) (c0 : Nat) (l0 : List ByteArray) (A1 : Option Addr) (c1 : Nat) (l1 : List ByteArray) (r : Bool) (w : World) (hr0 : Kd.C Kd.string w A0 l0.length l0) (hc0 : l0.length ≤ c0) (hr1 : Kd.C Kd.string w A1 l1.length l1) (hc1 : l1.length ≤ c1) (h : impl_SamePath.f k l0 l1 = some r) :
 Calls Try.prog 53 #[.slice A0 l0.length c0, .slice A1 l1.length c1] w fun e w' => e = .returned (.bool r) ∧ Drawn0 w w' := by
 have HR0 := A_ hr0
 have HC0 := A_ hc0
 clear hr0 hc0
 have HR1 := A_ hr1
 have HC1 := A_ hc1
 clear hr1 hc1
 have H : (if (l0.length : Int) = (l1.length : Int) then (impl_SamePath.l0 k l0 l1 (l0.length : Int) 0) else (some false)) = some r := h
 clear h
 by_cases c3 : (l0.length : Int) = (l1.length : Int)
 rotate_left
 · rw [if_neg c3] at H
   have c3b0 : ((l0.length : Int) == (l1.length : Int)) = false := beq_eq_false_iff_ne.mpr c3
   have c3b1 : ((l0.length : Int) != (l1.length : Int)) = true := bne_iff_ne.mpr c3
   have c3b2 : (l0.length == l1.length) = false := by first | simpa using c3 | (simp at c3 ⊢; omega)
   obtain rfl := si_ H
   go_enter Try.func53, Try.ntmps53
   go_wp2
   repeat (go_quiet (fail); try go_wp2)
   go_ret
   exact ⟨rs_, dr_⟩
 rw [if_pos c3] at H
 have c3b0 : ((l0.length : Int) == (l1.length : Int)) = true := beq_iff_eq.mpr c3
 have c3b1 : ((l0.length : Int) != (l1.length : Int)) = false := bne_eq_false_iff_eq.mpr c3
 have c3b2 : (l0.length == l1.length) = true := by first | simpa using c3 | (simp at c3 ⊢; omega)
 clear c3
 have H' := A_ H
 clear H
 go_enter Try.func53, Try.ntmps53
 go_wp2
 repeat (go_quiet (fail); try go_wp2)
 go_loopg [13] k (fun kq v13 w' => ∃ (x13_1 : Int), v13 = .int .i64 x13_1 ∧ Aside0 (impl_SamePath.l0 kq l0 l1 (l0.length : Int) x13_1 = some r) ∧ Aside0 (kq ≤ k) ∧ Drawn0 w w')
 case atStart => exact ⟨(0), rs_, H', ⟨Nat.le_refl _⟩, dr_⟩
 case round =>
  clear H'
  try clear c1
  try clear p2
  try clear c3
  try clear c3b0
  try clear c3b1
  try clear c3b2
  obtain ⟨x13_1, rfl, HA, HK1, ⟨m1, rfl⟩⟩ := hrel
  cases gk with
  | zero => exact absurd HA.out (by simp [impl_SamePath.l0])
  | succ k1 =>
   have H := HA.out
   clear HA
   simp only [impl_SamePath.l0] at H
   by_cases c4 : x13_1 < (l0.length : Int)
   rotate_left
   · rw [if_neg c4] at H
     have c4b0 : decide (x13_1 < (l0.length : Int)) = false := decide_eq_false c4
     clear c4
     obtain rfl := si_ H
     go_wp2
     repeat (go_quiet (fail); try go_wp2)
     go_ret
     exact ⟨rs_, dr_⟩
   rw [if_pos c4] at H
   have c4b0 : decide (x13_1 < (l0.length : Int)) = true := decide_eq_true c4
   clear c4
   by_cases c5 : 0 ≤ x13_1
   rotate_left
   · exact absurd H (by rw [if_neg c5]; simp)
   rw [if_pos c5] at H
   have c5b0 : decide (0 ≤ x13_1) = true := decide_eq_true c5
   clear c5
   by_cases c6 : x13_1 < (l0.length : Int)
   rotate_left
   · exact absurd H (by rw [if_neg c6]; simp)
   rw [if_pos c6] at H
   have c6b0 : decide (x13_1 < (l0.length : Int)) = true := decide_eq_true c6
   clear c6
   by_cases c7 : x13_1 < (l1.length : Int)
   rotate_left
   · exact absurd H (by rw [if_neg c7]; simp)
   rw [if_pos c7] at H
   have c7b0 : decide (x13_1 < (l1.length : Int)) = true := decide_eq_true c7
   clear c7
   by_cases c8 : (rdOf ByteArray.empty l0 x13_1).toList = (rdOf ByteArray.empty l1 x13_1).toList
   rotate_left
   · rw [if_neg c8] at H
     have c8b0 : ((rdOf ByteArray.empty l0 x13_1).toList == (rdOf ByteArray.empty l1 x13_1).toList) = false := beq_eq_false_iff_ne.mpr c8
     have c8b1 : ((rdOf ByteArray.empty l0 x13_1).toList != (rdOf ByteArray.empty l1 x13_1).toList) = true := bne_iff_ne.mpr c8
     obtain rfl := si_ H
     have p336 : 0 ≤ (x13_1 : Int) := od_
     have q336 : x13_1 < (l0.length : Int) := od_
     obtain ⟨ad336, e336, hx336_0⟩ := Kd.at_string HR0.out x13_1 p336 q336
     cases e336
     replace p336 := eq_true p336
     replace q336 := eq_true q336
     have p337 : 0 ≤ (x13_1 : Int) := od_
     have q337 : x13_1 < (l1.length : Int) := od_
     obtain ⟨ad337, e337, hx337_0⟩ := Kd.at_string HR1.out x13_1 p337 q337
     cases e337
     replace p337 := eq_true p337
     replace q337 := eq_true q337
     go_wp2
     repeat (go_quiet (fail); try go_wp2)
     go_ret
     exact ⟨rs_, dr_⟩
   rw [if_pos c8] at H
   have c8b0 : ((rdOf ByteArray.empty l0 x13_1).toList == (rdOf ByteArray.empty l1 x13_1).toList) = true := beq_iff_eq.mpr c8
   have c8b1 : ((rdOf ByteArray.empty l0 x13_1).toList != (rdOf ByteArray.empty l1 x13_1).toList) = false := bne_eq_false_iff_eq.mpr c8
   clear c8
   have H' := A_ H
   clear H
   have p336 : 0 ≤ (x13_1 : Int) := od_
   have q336 : x13_1 < (l0.length : Int) := od_
   obtain ⟨ad336, e336, hx336_0⟩ := Kd.at_string HR0.out x13_1 p336 q336
   cases e336
   replace p336 := eq_true p336
   replace q336 := eq_true q336
   have p337 : 0 ≤ (x13_1 : Int) := od_
   have q337 : x13_1 < (l1.length : Int) := od_
   obtain ⟨ad337, e337, hx337_0⟩ := Kd.at_string HR1.out x13_1 p337 q337
   cases e337
   replace p337 := eq_true p337
   replace q337 := eq_true q337
   go_wp2
   repeat (go_quiet (fail); try go_wp2)
   go_roundg k1
   case measure => have := HK1.out; omega
   case rel => exact ⟨(wrap64 (x13_1 + 1)), rs_, H', ⟨by have := HK1.out; omega⟩, dr_⟩
def impl_FindRes.l0 : Nat → List ByteArray → List (S59) → Int → Int → Option (Int)
 | 0, _, _, _, _ => none
 | k + 1, x1, x7, x8, x9 => if x9 < x8 then (if 0 ≤ x9 then (if x9 < (x7.length : Int) then ((impl_SamePath.f k ((rd_T59 x7 x9).f0) x1).bind fun t340 => (if t340 = true then (some x9) else (impl_FindRes.l0 k x1 x7 x8 (wrap64 (x9 + 1))))) else (none)) else (none)) else (some (-1))
def impl_FindRes.f (k : Nat) (l0 : List (S59)) (l1 : List ByteArray) : Option (Int) := impl_FindRes.l0 k l1 l0 (l0.length : Int) 0
theorem impl_FindRes.calls (k : Nat) (A0 : Option Addr) (c0 : Nat) (l0 : List (S59)) (A1 : Option Addr) (c1 : Nat) (l1 : List ByteArray) (r : Int) (w : World) (hr0 : Kd.C k59 w A0 l0.length l0) (hc0 : l0.length ≤ c0) (hr1 : Kd.C Kd.string w A1 l1.length l1) (hc1 : l1.length ≤ c1) (h : impl_FindRes.f k l0 l1 = some r) :
 Calls Try.prog 37 #[.slice A0 l0.length c0, .slice A1 l1.length c1] w fun e w' => e = .returned (.int .i64 r) ∧ Below w.heap.size w w' := by
 have hu59 := Try.underlying59
 have HR0 := A_ hr0
 have HC0 := A_ hc0
 clear hr0 hc0
 have HR1 := A_ hr1
 have HC1 := A_ hc1
 clear hr1 hc1
 have HB := A_ (Below.refl w.heap.size w)
 have H : (impl_FindRes.l0 k l1 l0 (l0.length : Int) 0) = some r := h
 clear h
 have H' := A_ H
 clear H
 go_enter Try.func37, Try.ntmps37
 go_wp2
 go_loopg [9] k (fun kq v9 w' => ∃ (x9_1 : Int), v9 = .int .i64 x9_1 ∧ Aside0 (impl_FindRes.l0 kq l1 l0 (l0.length : Int) x9_1 = some r) ∧ Aside0 (kq ≤ k) ∧ Aside0 (Below w.heap.size w w'))
 case atStart => exact ⟨(0), rs_, H', ⟨Nat.le_refl _⟩, ⟨bB_⟩⟩
 case round =>
  clear H'
  try clear c1
  try clear p2
  obtain ⟨x9_1, rfl, HA, HK1, HB⟩ := hrel
  cases gk with
  | zero => exact absurd HA.out (by simp [impl_FindRes.l0])
  | succ k1 =>
   have H := HA.out
   clear HA
   simp only [impl_FindRes.l0] at H
   by_cases c3 : x9_1 < (l0.length : Int)
   rotate_left
   · rw [if_neg c3] at H
     have c3b0 : decide (x9_1 < (l0.length : Int)) = false := decide_eq_false c3
     clear c3
     obtain rfl := si_ H
     go_wp2
     go_ret
     exact ⟨rr_, bB_⟩
   rw [if_pos c3] at H
   have c3b0 : decide (x9_1 < (l0.length : Int)) = true := decide_eq_true c3
   clear c3
   by_cases c4 : 0 ≤ x9_1
   rotate_left
   · exact absurd H (by rw [if_neg c4]; simp)
   rw [if_pos c4] at H
   have c4b0 : decide (0 ≤ x9_1) = true := decide_eq_true c4
   clear c4
   by_cases c5 : x9_1 < (l0.length : Int)
   rotate_left
   · exact absurd H (by rw [if_neg c5]; simp)
   rw [if_pos c5] at H
   have c5b0 : decide (x9_1 < (l0.length : Int)) = true := decide_eq_true c5
   clear c5
   obtain ⟨t340, A6, H⟩ := bo_ H
   (try dsimp only at H)
   by_cases c7 : t340 = true
   · subst c7
     rw [if_pos rfl] at H
     obtain rfl := si_ H
     have p338 : 0 ≤ (x9_1 : Int) := od_
     have q338 : x9_1 < (l0.length : Int) := od_
     obtain ⟨ad338, A338_0, c338_0, A338_4, c338_4, e338, hx338_0, hx338_1, hx338_2, hx338_3, hx338_4, hl338_0, hi338_0, hl338_4, hi338_4⟩ := at_T59 HR0.out x9_1 p338 q338
     cases e338
     replace hx338_0 := bc_ HB.out hx338_0
     replace hx338_1 := bc_ HB.out hx338_1
     replace hx338_2 := bc_ HB.out hx338_2
     replace hx338_3 := bc_ HB.out hx338_3
     replace hx338_4 := bc_ HB.out hx338_4
     have HR338_0 := A_ hi338_0
     have HC338_0 := A_ hl338_0
     clear hi338_0 hl338_0
     have HR338_4 := A_ hi338_4
     have HC338_4 := A_ hl338_4
     clear hi338_4 hl338_4
     replace p338 := eq_true p338
     replace q338 := eq_true q338
     go_wp2_with (first | ((with_reducible refine gd_ (N := 6) rfl ?_); refine bx_ (N := 6) (cs := #[.slice none 0 0, .bool false, .string (⟨#[]⟩ : ByteArray), .int .i64 0, .slice none 0 0]) (t := 59) ?_; intro gb339 hg w8 hbox hb; have BK339 := A_ (hbox); have GW339 := A_ (ge_ hg bB_ : w.heap.size ≤ gb339); have GE339 := A_ (ge_ hg bB_ : w.heap.size ≤ gb339); replace HB := A_ (below_step bB_ hb); clear hb hbox hg; obtain ⟨hcz9_0, hcz9_1, hcz9_2, hcz9_3, hcz9_4, hfz9_0, hfz9_1, hfz9_2, hfz9_3, hfz9_4⟩ := cz5_ BK339.out) | ((with_reducible refine gc_ (f := 53) rfl ?_); refine gL_ (some 17) Try.func53 #[.slice A338_0 ((rd_T59 l0 x9_1).f0).length c338_0, .slice A1 l1.length c1] ?_; (with_reducible refine (impl_SamePath.calls k1 _ _ ((rd_T59 l0 x9_1).f0) _ _ l1 true _ ?s1 ?s2 ?s3 ?s4 A6.out).mono ?_); (case s1 => exact Kd.C_below HR338_0.out (bG_ GE339.out)); (case s2 => exact HC338_0.out); (case s3 => exact Kd.C_below HR1.out (bG_ GE339.out)); (case s4 => exact HC1.out); rintro e w' ⟨rfl, ⟨nd, rfl⟩⟩; refine ⟨_, rfl, ?_⟩))
     go_ret
     exact ⟨rr_, bG_ GE339.out⟩
   · replace c7 := Bool.eq_false_iff.mpr c7
     subst c7
     rw [if_neg nf_] at H
     have H' := A_ H
     clear H
     have p338 : 0 ≤ (x9_1 : Int) := od_
     have q338 : x9_1 < (l0.length : Int) := od_
     obtain ⟨ad338, A338_0, c338_0, A338_4, c338_4, e338, hx338_0, hx338_1, hx338_2, hx338_3, hx338_4, hl338_0, hi338_0, hl338_4, hi338_4⟩ := at_T59 HR0.out x9_1 p338 q338
     cases e338
     replace hx338_0 := bc_ HB.out hx338_0
     replace hx338_1 := bc_ HB.out hx338_1
     replace hx338_2 := bc_ HB.out hx338_2
     replace hx338_3 := bc_ HB.out hx338_3
     replace hx338_4 := bc_ HB.out hx338_4
     have HR338_0 := A_ hi338_0
     have HC338_0 := A_ hl338_0
     clear hi338_0 hl338_0
     have HR338_4 := A_ hi338_4
     have HC338_4 := A_ hl338_4
     clear hi338_4 hl338_4
     replace p338 := eq_true p338
     replace q338 := eq_true q338
     go_wp2_with (first | ((with_reducible refine gd_ (N := 6) rfl ?_); refine bx_ (N := 6) (cs := #[.slice none 0 0, .bool false, .string (⟨#[]⟩ : ByteArray), .int .i64 0, .slice none 0 0]) (t := 59) ?_; intro gb339 hg w10 hbox hb; have BK339 := A_ (hbox); have GW339 := A_ (ge_ hg bB_ : w.heap.size ≤ gb339); have GE339 := A_ (ge_ hg bB_ : w.heap.size ≤ gb339); replace HB := A_ (below_step bB_ hb); clear hb hbox hg; obtain ⟨hcz11_0, hcz11_1, hcz11_2, hcz11_3, hcz11_4, hfz11_0, hfz11_1, hfz11_2, hfz11_3, hfz11_4⟩ := cz5_ BK339.out) | ((with_reducible refine gc_ (f := 53) rfl ?_); refine gL_ (some 17) Try.func53 #[.slice A338_0 ((rd_T59 l0 x9_1).f0).length c338_0, .slice A1 l1.length c1] ?_; (with_reducible refine (impl_SamePath.calls k1 _ _ ((rd_T59 l0 x9_1).f0) _ _ l1 false _ ?s1 ?s2 ?s3 ?s4 A6.out).mono ?_); (case s1 => exact Kd.C_below HR338_0.out (bG_ GE339.out)); (case s2 => exact HC338_0.out); (case s3 => exact Kd.C_below HR1.out (bG_ GE339.out)); (case s4 => exact HC1.out); rintro e w' ⟨rfl, ⟨nd, rfl⟩⟩; refine ⟨_, rfl, ?_⟩))
     go_roundg k1
     case measure => have := HK1.out; omega
     case rel => exact ⟨(wrap64 (x9_1 + 1)), rs_, H', ⟨by have := HK1.out; omega⟩, ⟨bG_ GE339.out⟩⟩
def spec_IsColl.f (k : Nat) (l0 : List (S59)) (l1 : List ByteArray) : Option (Bool) := (spec_FindRes.f k l0 l1).bind fun t365 => (if (l1.length : Int) = 0 then (some true) else (if t365 ≥ 0 then (if 0 ≤ t365 then (if t365 < (l0.length : Int) then (some ((rd_T59 l0 t365).f1)) else (none)) else (none)) else (some false)))
theorem spec_IsColl.calls (k : Nat) (A0 : Option Addr) (c0 : Nat) (l0 : List (S59)) (A1 : Option Addr) (c1 : Nat) (l1 : List ByteArray) (r : Bool) (w : World) (hr0 : Kd.C k59 w A0 l0.length l0) (hc0 : l0.length ≤ c0) (hr1 : Kd.C Kd.string w A1 l1.length l1) (hc1 : l1.length ≤ c1) (h : spec_IsColl.f k l0 l1 = some r) :
 Calls Try.prog 38 #[.slice A0 l0.length c0, .slice A1 l1.length c1] w fun e w' => e = .returned (.bool r) ∧ Drawn0 w w' := by
 have HR0 := A_ hr0
 have HC0 := A_ hc0
 clear hr0 hc0
 have HR1 := A_ hr1
 have HC1 := A_ hc1
 clear hr1 hc1
 have H : ((spec_FindRes.f k l0 l1).bind fun t365 => (if (l1.length : Int) = 0 then (some true) else (if t365 ≥ 0 then (if 0 ≤ t365 then (if t365 < (l0.length : Int) then (some ((rd_T59 l0 t365).f1)) else (none)) else (none)) else (some false)))) = some r := h
 clear h
 obtain ⟨t365, A3, H⟩ := bo_ H
 (try dsimp only at H)
 by_cases c4 : (l1.length : Int) = 0
 · rw [if_pos c4] at H
   have c4b0 : ((l1.length : Int) == 0) = true := beq_iff_eq.mpr c4
   have c4b1 : ((l1.length : Int) != 0) = false := bne_eq_false_iff_eq.mpr c4
   clear c4
   obtain rfl := si_ H
   go_enter Try.func38, Try.ntmps38
   go_wp2_with (first | ((with_reducible refine gc_ (f := 36) rfl ?_); refine gL_ (some 8) Try.func36 #[.slice A0 l0.length c0, .slice A1 l1.length c1] ?_; (with_reducible refine (spec_FindRes.calls k _ _ l0 _ _ l1 t365 _ ?s1 ?s2 ?s3 ?s4 A3.out).mono ?_); (case s1 => exact cC_ HR0.out); (case s2 => exact HC0.out); (case s3 => exact cC_ HR1.out); (case s4 => exact HC1.out); rintro e w' ⟨rfl, ⟨nd, rfl⟩⟩; refine ⟨_, rfl, ?_⟩))
   go_ret
   exact ⟨rs_, dr_⟩
 rw [if_neg c4] at H
 have c4b0 : ((l1.length : Int) == 0) = false := beq_eq_false_iff_ne.mpr c4
 have c4b1 : ((l1.length : Int) != 0) = true := bne_iff_ne.mpr c4
 have c4b2 : ¬ (l1 = []) := fun h_ => c4 (by rw [h_]; rfl)
 by_cases c5 : t365 ≥ 0
 rotate_left
 · rw [if_neg c5] at H
   have c5b0 : decide (0 ≤ t365) = false := decide_eq_false c5
   clear c5
   obtain rfl := si_ H
   go_enter Try.func38, Try.ntmps38
   go_wp2_with (first | ((with_reducible refine gc_ (f := 36) rfl ?_); refine gL_ (some 8) Try.func36 #[.slice A0 l0.length c0, .slice A1 l1.length c1] ?_; (with_reducible refine (spec_FindRes.calls k _ _ l0 _ _ l1 t365 _ ?s1 ?s2 ?s3 ?s4 A3.out).mono ?_); (case s1 => exact cC_ HR0.out); (case s2 => exact HC0.out); (case s3 => exact cC_ HR1.out); (case s4 => exact HC1.out); rintro e w' ⟨rfl, ⟨nd, rfl⟩⟩; refine ⟨_, rfl, ?_⟩))
   go_ret
   exact ⟨rs_, dr_⟩
 rw [if_pos c5] at H
 have c5b0 : decide (0 ≤ t365) = true := decide_eq_true c5
 clear c5
 by_cases c6 : 0 ≤ t365
 rotate_left
 · exact absurd H (by rw [if_neg c6]; simp)
 rw [if_pos c6] at H
 have c6b0 : decide (0 ≤ t365) = true := decide_eq_true c6
 clear c6
 by_cases c7 : t365 < (l0.length : Int)
 rotate_left
 · exact absurd H (by rw [if_neg c7]; simp)
 rw [if_pos c7] at H
 have c7b0 : decide (t365 < (l0.length : Int)) = true := decide_eq_true c7
 clear c7
 obtain rfl := si_ H
 go_enter Try.func38, Try.ntmps38
 go_wp2_with (first | ((with_reducible refine gc_ (f := 36) rfl ?_); refine gL_ (some 8) Try.func36 #[.slice A0 l0.length c0, .slice A1 l1.length c1] ?_; (with_reducible refine (spec_FindRes.calls k _ _ l0 _ _ l1 t365 _ ?s1 ?s2 ?s3 ?s4 A3.out).mono ?_); (case s1 => exact cC_ HR0.out); (case s2 => exact HC0.out); (case s3 => exact cC_ HR1.out); (case s4 => exact HC1.out); rintro e w' ⟨rfl, ⟨nd, rfl⟩⟩; refine ⟨_, rfl, ?_⟩; have p366 : 0 ≤ (t365 : Int) := od_; have q366 : t365 < (l0.length : Int) := od_; obtain ⟨ad366, A366_0, c366_0, A366_4, c366_4, e366, hx366_0, hx366_1, hx366_2, hx366_3, hx366_4, hl366_0, hi366_0, hl366_4, hi366_4⟩ := at_T59 HR0.out t365 p366 q366; cases e366; have HR366_0 := A_ hi366_0; have HC366_0 := A_ hl366_0; clear hi366_0 hl366_0; have HR366_4 := A_ hi366_4; have HC366_4 := A_ hl366_4; clear hi366_4 hl366_4; replace p366 := eq_true p366; replace q366 := eq_true q366))
 go_ret
 exact ⟨rs_, dr_⟩
def impl_IsColl.f (k : Nat) (l0 : List (S59)) (l1 : List ByteArray) : Option (Bool) := if (l1.length : Int) = 0 then (some true) else ((impl_FindRes.f k l0 l1).bind fun t367 => (if t367 ≥ 0 then (if 0 ≤ t367 then (if t367 < (l0.length : Int) then (some ((rd_T59 l0 t367).f1)) else (none)) else (none)) else (some false)))
theorem impl_IsColl.calls (k : Nat) (A0 : Option Addr) (c0 : Nat) (l0 : List (S59)) (A1 : Option Addr) (c1 : Nat) (l1 : List ByteArray) (r : Bool) (w : World) (hr0 : Kd.C k59 w A0 l0.length l0) (hc0 : l0.length ≤ c0) (hr1 : Kd.C Kd.string w A1 l1.length l1) (hc1 : l1.length ≤ c1) (h : impl_IsColl.f k l0 l1 = some r) :
 Calls Try.prog 39 #[.slice A0 l0.length c0, .slice A1 l1.length c1] w fun e w' => e = .returned (.bool r) ∧ Below w.heap.size w w' := by
 have HR0 := A_ hr0
 have HC0 := A_ hc0
 clear hr0 hc0
 have HR1 := A_ hr1
 have HC1 := A_ hc1
 clear hr1 hc1
 have HB := A_ (Below.refl w.heap.size w)
 have H : (if (l1.length : Int) = 0 then (some true) else ((impl_FindRes.f k l0 l1).bind fun t367 => (if t367 ≥ 0 then (if 0 ≤ t367 then (if t367 < (l0.length : Int) then (some ((rd_T59 l0 t367).f1)) else (none)) else (none)) else (some false)))) = some r := h
 clear h
 by_cases c3 : (l1.length : Int) = 0
 · rw [if_pos c3] at H
   have c3b0 : ((l1.length : Int) == 0) = true := beq_iff_eq.mpr c3
   have c3b1 : ((l1.length : Int) != 0) = false := bne_eq_false_iff_eq.mpr c3
   clear c3
   obtain rfl := si_ H
   go_enter Try.func39, Try.ntmps39
   go_wp2
   go_ret
   exact ⟨rr_, bB_⟩
 rw [if_neg c3] at H
 have c3b0 : ((l1.length : Int) == 0) = false := beq_eq_false_iff_ne.mpr c3
 have c3b1 : ((l1.length : Int) != 0) = true := bne_iff_ne.mpr c3
 have c3b2 : ¬ (l1 = []) := fun h_ => c3 (by rw [h_]; rfl)
 obtain ⟨t367, A4, H⟩ := bo_ H
 (try dsimp only at H)
 by_cases c5 : t367 ≥ 0
 rotate_left
 · rw [if_neg c5] at H
   have c5b0 : decide (0 ≤ t367) = false := decide_eq_false c5
   clear c5
   obtain rfl := si_ H
   go_enter Try.func39, Try.ntmps39
   go_wp2_with (first | ((with_reducible refine gc_ (f := 37) rfl ?_); refine gL_ (some 11) Try.func37 #[.slice A0 l0.length c0, .slice A1 l1.length c1] ?_; (with_reducible refine (impl_FindRes.calls k _ _ l0 _ _ l1 t367 _ ?s1 ?s2 ?s3 ?s4 A4.out).mono ?_); (case s1 => exact cC_ HR0.out); (case s2 => exact HC0.out); (case s3 => exact cC_ HR1.out); (case s4 => exact HC1.out); rintro e w9 ⟨rfl, hb⟩; refine ⟨_, rfl, ?_⟩; replace HB := A_ (below_step bB_ hb); (try clear hb)))
   go_ret
   exact ⟨rr_, bB_⟩
 rw [if_pos c5] at H
 have c5b0 : decide (0 ≤ t367) = true := decide_eq_true c5
 clear c5
 by_cases c6 : 0 ≤ t367
 rotate_left
 · exact absurd H (by rw [if_neg c6]; simp)
 rw [if_pos c6] at H
 have c6b0 : decide (0 ≤ t367) = true := decide_eq_true c6
 clear c6
 by_cases c7 : t367 < (l0.length : Int)
 rotate_left
 · exact absurd H (by rw [if_neg c7]; simp)
 rw [if_pos c7] at H
 have c7b0 : decide (t367 < (l0.length : Int)) = true := decide_eq_true c7
 clear c7
 obtain rfl := si_ H
 go_enter Try.func39, Try.ntmps39
 go_wp2_with (first | ((with_reducible refine gc_ (f := 37) rfl ?_); refine gL_ (some 11) Try.func37 #[.slice A0 l0.length c0, .slice A1 l1.length c1] ?_; (with_reducible refine (impl_FindRes.calls k _ _ l0 _ _ l1 t367 _ ?s1 ?s2 ?s3 ?s4 A4.out).mono ?_); (case s1 => exact cC_ HR0.out); (case s2 => exact HC0.out); (case s3 => exact cC_ HR1.out); (case s4 => exact HC1.out); rintro e w8 ⟨rfl, hb⟩; refine ⟨_, rfl, ?_⟩; replace HB := A_ (below_step bB_ hb); (try clear hb); have p368 : 0 ≤ (t367 : Int) := od_; have q368 : t367 < (l0.length : Int) := od_; obtain ⟨ad368, A368_0, c368_0, A368_4, c368_4, e368, hx368_0, hx368_1, hx368_2, hx368_3, hx368_4, hl368_0, hi368_0, hl368_4, hi368_4⟩ := at_T59 HR0.out t367 p368 q368; cases e368; replace hx368_0 := bc_ HB.out hx368_0; replace hx368_1 := bc_ HB.out hx368_1; replace hx368_2 := bc_ HB.out hx368_2; replace hx368_3 := bc_ HB.out hx368_3; replace hx368_4 := bc_ HB.out hx368_4; have HR368_0 := A_ hi368_0; have HC368_0 := A_ hl368_0; clear hi368_0 hl368_0; have HR368_4 := A_ hi368_4; have HC368_4 := A_ hl368_4; clear hi368_4 hl368_4; replace p368 := eq_true p368; replace q368 := eq_true q368))
 go_ret
 exact ⟨rr_, bB_⟩
def spec_Under.f (k : Nat) (l0 : List ByteArray) (l1 : List ByteArray) : Option (Bool) := if (l0.length : Int) > (l1.length : Int) then (if 0 ≤ (l1.length : Int) then (if (l1.length : Int) ≤ (l0.length : Int) then ((spec_SamePath.f k (l0.take ((l1.length : Int) : Int).toNat) l1).bind fun t394 => (some t394)) else (none)) else (none)) else (some false)
theorem spec_Under.calls (k : Nat) (A0 : Option Addr) (c0 : Nat) (l0 : List ByteArray) (A1 : Option Addr) (c1 : Nat) (l1 : List ByteArray) (r : Bool) (w : World) (hr0 : Kd.C Kd.string w A0 l0.length l0) (hc0 : l0.length ≤ c0) (hr1 : Kd.C Kd.string w A1 l1.length l1) (hc1 : l1.length ≤ c1) (h : spec_Under.f k l0 l1 = some r) :
 Calls Try.prog 75 #[.slice A0 l0.length c0, .slice A1 l1.length c1] w fun e w' => e = .returned (.bool r) ∧ Drawn0 w w' := by
 have HR0 := A_ hr0
 have HC0 := A_ hc0
 clear hr0 hc0
 have HR1 := A_ hr1
 have HC1 := A_ hc1
 clear hr1 hc1
 have H : (if (l0.length : Int) > (l1.length : Int) then (if 0 ≤ (l1.length : Int) then (if (l1.length : Int) ≤ (l0.length : Int) then ((spec_SamePath.f k (l0.take ((l1.length : Int) : Int).toNat) l1).bind fun t394 => (some t394)) else (none)) else (none)) else (some false)) = some r := h
 clear h
 by_cases c3 : (l0.length : Int) > (l1.length : Int)
 rotate_left
 · rw [if_neg c3] at H
   have c3b0 : decide ((l1.length : Int) < (l0.length : Int)) = false := decide_eq_false c3
   have c3b1 : decide (l1.length < l0.length) = false := decide_eq_false (fun h => c3 (Int.ofNat_lt.mpr h))
   clear c3
   obtain rfl := si_ H
   go_enter Try.func75, Try.ntmps75
   go_wp2
   go_ret
   exact ⟨rs_, dr_⟩
 rw [if_pos c3] at H
 have c3b0 : decide ((l1.length : Int) < (l0.length : Int)) = true := decide_eq_true c3
 have c3b1 : decide (l1.length < l0.length) = true := decide_eq_true (Int.ofNat_lt.mp c3)
 clear c3
 by_cases c4 : 0 ≤ (l1.length : Int)
 rotate_left
 · exact absurd H (by rw [if_neg c4]; simp)
 rw [if_pos c4] at H
 have c4b0 := eq_true c4
 have c4b1 : decide (0 ≤ (l1.length : Int)) = true := decide_eq_true c4
 clear c4
 by_cases c5 : (l1.length : Int) ≤ (l0.length : Int)
 rotate_left
 · exact absurd H (by rw [if_neg c5]; simp)
 rw [if_pos c5] at H
 have c5b0 := eq_true c5
 have c5b1 : decide ((l1.length : Int) ≤ (l0.length : Int)) = true := decide_eq_true c5
 clear c5
 obtain ⟨t394, A6, H⟩ := bo_ H
 (try dsimp only at H)
 obtain rfl := si_ H
 obtain ⟨i07, hi07, _, hsz7, _⟩ := info_parts info9
 obtain ⟨hcut7, hA7, hC7⟩ := print_take_of (P := Try.prog) Value.string (⟨#[]⟩ : ByteArray) 22 9 .i64 Try.underlying22 hi07 hsz7 A0 c0 l0 (l1.length : Int) od_ od_ HC0.out
 have HR393 := A_ (Kd.C_of_reads (h1 := fun _ => rfl) (hA7 _ (Kd.reads_of_C HR0.out)))
 have HC393 := A_ hC7
 clear hA7 hC7 hi07 hsz7
 go_enter Try.func75, Try.ntmps75
 go_wp2_with (first | (go_at_call 74; refine calls_of_args (args' := #[.slice A0 (l0.take ((l1.length : Int) : Int).toNat).length c0, .slice A1 l1.length c1]) (by first | (simp only [List.length_take, List.length_drop, Int.toNat_natCast]; done) | (rw [show (l0.take ((l1.length : Int) : Int).toNat).length = (l1.length : Int).toNat from (by rw [List.length_take]; have h_ : ((l1.length : Int) : Int) ≤ (l0.length : Int) := od_; omega)] <;> rfl) | rfl) ?_; (with_reducible refine (spec_SamePath.calls k _ _ (l0.take ((l1.length : Int) : Int).toNat) _ _ l1 t394 _ ?s1 ?s2 ?s3 ?s4 A6.out).mono ?_); (case s1 => exact cC_ HR393.out); (case s2 => exact HC393.out); (case s3 => exact cC_ HR1.out); (case s4 => exact HC1.out); rintro e w' ⟨rfl, ⟨nd, rfl⟩⟩))
 go_ret
 exact ⟨rs_, dr_⟩
end Go.Proofs.Yteabkidfgdmmpaa.Q
