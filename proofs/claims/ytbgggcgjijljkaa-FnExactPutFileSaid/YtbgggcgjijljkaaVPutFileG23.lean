-- PRINTED by print.py (a twelfth state) out of the translation. Not trusted: Lean checks it.
import Derived.Test.YtbgggcgjijljkaaVPutFileG12
import Derived.Test.YtbgggcgjijljkaaVPutFileG22
namespace Go.Proofs.Ytbgggcgjijljkaa.Q
open Go.RowKit Go.Proofs.YtbgggcgjijljkaaW.PrintWords Go.Proofs.YtbgggcgjijljkaaW.PrintLast Go.Proofs.YtbgggcgjijljkaaW.PrintMore
attribute [local go_sem] max2_int min2_int max_two min_two max_three min_three max_four min_four   -- for this text's walks alone
set_option linter.unusedVariables false
set_option linter.unusedSimpArgs false
def spec_NameOk.l0 : Nat → ByteArray → Int → Option (Bool)
 | 0, _, _ => none
 | k + 1, x0, x3 => if x3 < (x0.size : Int) then (if 0 ≤ x3 then (if (bt x0 x3) = 47 then (some false) else (spec_NameOk.l0 k x0 (wrap64 (x3 + 1)))) else (none)) else ((spec_l1In.f (x0.size : Int) 1 8).bind fun t143 => (if t143 = true then ((spec_Plain.f k x0).bind fun t144 => (if t144 = true then (if x0.toList = ([46] : List UInt8) then (some false) else (some (x0.toList != ([46, 46] : List UInt8)))) else (some false))) else (some false)))
def spec_NameOk.f (k : Nat) (a0 : ByteArray) : Option (Bool) := spec_NameOk.l0 k a0 0
set_option maxHeartbeats 8000000 in
set_option maxRecDepth 100000 in
theorem spec_NameOk.calls (k : Nat) (a0 : ByteArray) (r : Bool) (w : World) (h : spec_NameOk.f k a0 = some r) :
 Calls Try.prog 129 #[.string a0] w fun e w' => e = .returned (.bool r) ∧ Drawn0 w w' := by
 have H : (spec_NameOk.l0 k a0 0) = some r := h
 clear h
 have H' := Aside0.mk H
 clear H
 go_enter Try.func129, Try.ntmps129
 go_wp2
 go_loopg [3] k (fun kq v3 w' => ∃ (x3_1 : Int), v3 = .int .i64 x3_1 ∧ Aside0 (spec_NameOk.l0 kq a0 x3_1 = some r) ∧ Aside0 (kq ≤ k) ∧ Drawn0 w w')
 case atStart => exact ⟨(0), rs_, H', ⟨Nat.le_refl _⟩, dr_⟩
 case round =>
  clear H'
  try clear c1
  obtain ⟨x3_1, rfl, HA, HK1, ⟨m1, rfl⟩⟩ := hrel
  cases gk with
  | zero => exact absurd HA.out (by simp [spec_NameOk.l0])
  | succ k1 =>
   have H := HA.out
   clear HA
   simp only [spec_NameOk.l0] at H
   by_cases c2 : x3_1 < (a0.size : Int)
   · rw [if_pos c2] at H
     have c2b0 : decide (x3_1 < (a0.size : Int)) = true := decide_eq_true c2
     clear c2
     by_cases c3 : 0 ≤ x3_1
     rotate_left
     · exact absurd H (by rw [if_neg c3]; simp)
     rw [if_pos c3] at H
     have c3b0 : decide (0 ≤ x3_1) = true := decide_eq_true c3
     clear c3
     by_cases c5 : (bt a0 x3_1) = 47
     · rw [if_pos c5] at H
       have c5b0 : ((bt a0 x3_1) == 47) = true := beq_iff_eq.mpr c5
       have c5b1 : ((bt a0 x3_1) != 47) = false := bne_eq_false_iff_eq.mpr c5
       clear c5
       obtain rfl := Option.some.inj H
       have p4 : 0 ≤ (x3_1 : Int) := of_decide_eq_true as_
       have q4 : x3_1 < (a0.size : Int) := of_decide_eq_true as_
       have hx4 := bt_at a0 x3_1
       replace p4 := eq_true p4
       replace q4 := eq_true q4
       go_wp2
       go_ret
       exact ⟨rs_, dr_⟩
     rw [if_neg c5] at H
     have c5b0 : ((bt a0 x3_1) == 47) = false := beq_eq_false_iff_ne.mpr c5
     have c5b1 : ((bt a0 x3_1) != 47) = true := bne_iff_ne.mpr c5
     have H' := Aside0.mk H
     clear H
     have p4 : 0 ≤ (x3_1 : Int) := of_decide_eq_true as_
     have q4 : x3_1 < (a0.size : Int) := of_decide_eq_true as_
     have hx4 := bt_at a0 x3_1
     replace p4 := eq_true p4
     replace q4 := eq_true q4
     go_wp2
     go_roundg k1
     case measure => have := HK1.out; omega
     case rel => exact ⟨(wrap64 (x3_1 + 1)), rs_, H', ⟨by have := HK1.out; omega⟩, dr_⟩
   rw [if_neg c2] at H
   have c2b0 : decide (x3_1 < (a0.size : Int)) = false := decide_eq_false c2
   clear c2
   obtain ⟨t143, A6, H⟩ := bo_ H
   (try dsimp only at H)
   by_cases c7 : t143 = true
   · subst c7
     rw [if_pos rfl] at H
     obtain ⟨t144, A8, H⟩ := bo_ H
     (try dsimp only at H)
     by_cases c9 : t144 = true
     · subst c9
       rw [if_pos rfl] at H
       by_cases c10 : a0.toList = ([46] : List UInt8)
       rotate_left
       · rw [if_neg c10] at H
         have c10b0 : (a0.toList == ([46] : List UInt8)) = false := beq_eq_false_iff_ne.mpr c10
         have c10b1 : (a0.toList != ([46] : List UInt8)) = true := bne_iff_ne.mpr c10
         obtain rfl := Option.some.inj H
         go_wp2_with (first | ((with_reducible refine gate_callee (f := 103) rfl ?_); refine gL_ (some 16) Try.func103 #[.int .i64 (a0.size : Int), .int .i64 1, .int .i64 8] ?_; (with_reducible refine (spec_l1In.calls (a0.size : Int) 1 8 true _ A6.out).mono ?_); rintro e w' ⟨rfl, ⟨nd, rfl⟩⟩; refine ⟨_, rfl, ?_⟩) | (go_at_call 125; (with_reducible refine (spec_Plain.calls k1 a0 true _ A8.out).mono ?_); rintro e w' ⟨rfl, ⟨nd, rfl⟩⟩))
         go_ret
         exact ⟨rs_, dr_⟩
       rw [if_pos c10] at H
       have c10b0 : (a0.toList == ([46] : List UInt8)) = true := beq_iff_eq.mpr c10
       have c10b1 : (a0.toList != ([46] : List UInt8)) = false := bne_eq_false_iff_eq.mpr c10
       clear c10
       obtain rfl := Option.some.inj H
       go_wp2_with (first | ((with_reducible refine gate_callee (f := 103) rfl ?_); refine gL_ (some 16) Try.func103 #[.int .i64 (a0.size : Int), .int .i64 1, .int .i64 8] ?_; (with_reducible refine (spec_l1In.calls (a0.size : Int) 1 8 true _ A6.out).mono ?_); rintro e w' ⟨rfl, ⟨nd, rfl⟩⟩; refine ⟨_, rfl, ?_⟩) | (go_at_call 125; (with_reducible refine (spec_Plain.calls k1 a0 true _ A8.out).mono ?_); rintro e w' ⟨rfl, ⟨nd, rfl⟩⟩))
       go_ret
       exact ⟨rs_, dr_⟩
     · replace c9 := Bool.eq_false_iff.mpr c9
       subst c9
       rw [if_neg (show ¬ (false = true) by decide)] at H
       obtain rfl := Option.some.inj H
       go_wp2_with (first | ((with_reducible refine gate_callee (f := 103) rfl ?_); refine gL_ (some 16) Try.func103 #[.int .i64 (a0.size : Int), .int .i64 1, .int .i64 8] ?_; (with_reducible refine (spec_l1In.calls (a0.size : Int) 1 8 true _ A6.out).mono ?_); rintro e w' ⟨rfl, ⟨nd, rfl⟩⟩; refine ⟨_, rfl, ?_⟩) | (go_at_call 125; (with_reducible refine (spec_Plain.calls k1 a0 false _ A8.out).mono ?_); rintro e w' ⟨rfl, ⟨nd, rfl⟩⟩))
       go_ret
       exact ⟨rs_, dr_⟩
   · replace c7 := Bool.eq_false_iff.mpr c7
     subst c7
     rw [if_neg (show ¬ (false = true) by decide)] at H
     obtain rfl := Option.some.inj H
     go_wp2_with (first | ((with_reducible refine gate_callee (f := 103) rfl ?_); refine gL_ (some 16) Try.func103 #[.int .i64 (a0.size : Int), .int .i64 1, .int .i64 8] ?_; (with_reducible refine (spec_l1In.calls (a0.size : Int) 1 8 false _ A6.out).mono ?_); rintro e w' ⟨rfl, ⟨nd, rfl⟩⟩; refine ⟨_, rfl, ?_⟩))
     go_ret
     exact ⟨rs_, dr_⟩
def spec_PathOk.l0 : Nat → List ByteArray → Int → Option (Bool)
 | 0, _, _ => none
 | k + 1, x0, x3 => if x3 < (x0.length : Int) then (if 0 ≤ x3 then ((spec_NameOk.f k (rdOf ByteArray.empty x0 x3)).bind fun t146 => (if t146 = true then (spec_PathOk.l0 k x0 (wrap64 (x3 + 1))) else (some false))) else (none)) else (some (decide ((x0.length : Int) ≤ 4)))
def spec_PathOk.f (k : Nat) (l0 : List ByteArray) : Option (Bool) := spec_PathOk.l0 k l0 0
set_option maxHeartbeats 8000000 in
set_option maxRecDepth 100000 in
theorem spec_PathOk.calls (k : Nat) (A0 : Option Addr) (c0 : Nat) (l0 : List ByteArray) (r : Bool) (w : World) (hr0 : Kd.C Kd.string w A0 l0.length l0) (hc0 : l0.length ≤ c0) (h : spec_PathOk.f k l0 = some r) :
 Calls Try.prog 102 #[.slice A0 l0.length c0] w fun e w' => e = .returned (.bool r) ∧ Drawn0 w w' := by
 have HR0 := Aside0.mk hr0
 have HC0 := Aside0.mk hc0
 clear hr0 hc0
 have H : (spec_PathOk.l0 k l0 0) = some r := h
 clear h
 have H' := Aside0.mk H
 clear H
 go_enter Try.func102, Try.ntmps102
 go_wp2
 go_loopg [3] k (fun kq v3 w' => ∃ (x3_1 : Int), v3 = .int .i64 x3_1 ∧ Aside0 (spec_PathOk.l0 kq l0 x3_1 = some r) ∧ Aside0 (kq ≤ k) ∧ Drawn0 w w')
 case atStart => exact ⟨(0), rs_, H', ⟨Nat.le_refl _⟩, dr_⟩
 case round =>
  clear H'
  try clear c1
  obtain ⟨x3_1, rfl, HA, HK1, ⟨m1, rfl⟩⟩ := hrel
  cases gk with
  | zero => exact absurd HA.out (by simp [spec_PathOk.l0])
  | succ k1 =>
   have H := HA.out
   clear HA
   simp only [spec_PathOk.l0] at H
   by_cases c2 : x3_1 < (l0.length : Int)
   rotate_left
   · rw [if_neg c2] at H
     have c2b0 : decide (x3_1 < (l0.length : Int)) = false := decide_eq_false c2
     clear c2
     obtain rfl := Option.some.inj H
     go_wp2
     go_ret
     exact ⟨rs_, dr_⟩
   rw [if_pos c2] at H
   have c2b0 : decide (x3_1 < (l0.length : Int)) = true := decide_eq_true c2
   clear c2
   by_cases c3 : 0 ≤ x3_1
   rotate_left
   · exact absurd H (by rw [if_neg c3]; simp)
   rw [if_pos c3] at H
   have c3b0 : decide (0 ≤ x3_1) = true := decide_eq_true c3
   clear c3
   obtain ⟨t146, A4, H⟩ := bo_ H
   (try dsimp only at H)
   by_cases c5 : t146 = true
   · subst c5
     rw [if_pos rfl] at H
     have H' := Aside0.mk H
     clear H
     have p145 : 0 ≤ (x3_1 : Int) := of_decide_eq_true as_
     have q145 : x3_1 < (l0.length : Int) := of_decide_eq_true as_
     obtain ⟨ad145, e145, hx145_0⟩ := Kd.at_string HR0.out x3_1 p145 q145
     cases e145
     replace p145 := eq_true p145
     replace q145 := eq_true q145
     go_wp2_with (first | ((with_reducible refine gate_callee (f := 129) rfl ?_); refine gL_ (some 14) Try.func129 #[.string (rdOf ByteArray.empty l0 x3_1)] ?_; (with_reducible refine (spec_NameOk.calls k1 (rdOf ByteArray.empty l0 x3_1) true _ A4.out).mono ?_); rintro e w' ⟨rfl, ⟨nd, rfl⟩⟩; refine ⟨_, rfl, ?_⟩))
     go_roundg k1
     case measure => have := HK1.out; omega
     case rel => exact ⟨(wrap64 (x3_1 + 1)), rs_, H', ⟨by have := HK1.out; omega⟩, dr_⟩
   · replace c5 := Bool.eq_false_iff.mpr c5
     subst c5
     rw [if_neg (show ¬ (false = true) by decide)] at H
     obtain rfl := Option.some.inj H
     have p145 : 0 ≤ (x3_1 : Int) := of_decide_eq_true as_
     have q145 : x3_1 < (l0.length : Int) := of_decide_eq_true as_
     obtain ⟨ad145, e145, hx145_0⟩ := Kd.at_string HR0.out x3_1 p145 q145
     cases e145
     replace p145 := eq_true p145
     replace q145 := eq_true q145
     go_wp2_with (first | ((with_reducible refine gate_callee (f := 129) rfl ?_); refine gL_ (some 14) Try.func129 #[.string (rdOf ByteArray.empty l0 x3_1)] ?_; (with_reducible refine (spec_NameOk.calls k1 (rdOf ByteArray.empty l0 x3_1) false _ A4.out).mono ?_); rintro e w' ⟨rfl, ⟨nd, rfl⟩⟩; refine ⟨_, rfl, ?_⟩))
     go_ret
     exact ⟨rs_, dr_⟩
mutual
def spec_LessPath.l0 : Nat → List ByteArray → List ByteArray → Int → Option (Bool)
 | 0, _, _, _ => none
 | k + 1, x0, x1, x5 => if x5 < (x0.length : Int) then (spec_LessPath.j1 k x0 x1 x5 (decide (x5 < (x1.length : Int)))) else (spec_LessPath.j1 k x0 x1 x5 false)
def spec_LessPath.j1 : Nat → List ByteArray → List ByteArray → Int → Bool → Option (Bool)
 | 0, _, _, _, _ => none
 | k + 1, x0, x1, x5, x15 => if x15 = true then (if 0 ≤ x5 then (if x5 < (x0.length : Int) then (if x5 < (x1.length : Int) then (if (rdOf ByteArray.empty x0 x5).toList = (rdOf ByteArray.empty x1 x5).toList then (spec_LessPath.l0 k x0 x1 (wrap64 (x5 + 1))) else (some (Op.bytesLess ((rdOf ByteArray.empty x0 x5).toList) ((rdOf ByteArray.empty x1 x5).toList)))) else (none)) else (none)) else (none)) else (some (decide ((x0.length : Int) < (x1.length : Int))))
end
def spec_LessPath.f (k : Nat) (l0 : List ByteArray) (l1 : List ByteArray) : Option (Bool) := spec_LessPath.l0 k l0 l1 0
set_option maxHeartbeats 8000000 in
set_option maxRecDepth 100000 in
theorem spec_LessPath.calls (k : Nat) (A0 : Option Addr) (c0 : Nat) (l0 : List ByteArray) (A1 : Option Addr) (c1 : Nat) (l1 : List ByteArray) (r : Bool) (w : World) (hr0 : Kd.C Kd.string w A0 l0.length l0) (hc0 : l0.length ≤ c0) (hr1 : Kd.C Kd.string w A1 l1.length l1) (hc1 : l1.length ≤ c1) (h : spec_LessPath.f k l0 l1 = some r) :
 Calls Try.prog 111 #[.slice A0 l0.length c0, .slice A1 l1.length c1] w fun e w' => e = .returned (.bool r) ∧ Drawn0 w w' := by
 have HR0 := Aside0.mk hr0
 have HC0 := Aside0.mk hc0
 clear hr0 hc0
 have HR1 := Aside0.mk hr1
 have HC1 := Aside0.mk hc1
 clear hr1 hc1
 have H : (spec_LessPath.l0 k l0 l1 0) = some r := h
 clear h
 have H' := Aside0.mk H
 clear H
 go_enter Try.func111, Try.ntmps111
 go_wp2
 repeat (go_quiet (fail); try go_wp2)
 go_loopg [5] k (fun kq v5 w' => ∃ (x5_1 : Int), v5 = .int .i64 x5_1 ∧ Aside0 (spec_LessPath.l0 kq l0 l1 x5_1 = some r) ∧ Aside0 (kq ≤ k) ∧ Drawn0 w w')
 case atStart => exact ⟨(0), rs_, H', ⟨Nat.le_refl _⟩, dr_⟩
 case round =>
  clear H'
  try clear c1
  try clear p2
  obtain ⟨x5_1, rfl, HA, HK1, ⟨m1, rfl⟩⟩ := hrel
  cases gk with
  | zero => exact absurd HA.out (by simp [spec_LessPath.l0])
  | succ k1 =>
   have H := HA.out
   clear HA
   simp only [spec_LessPath.l0] at H
   have HC3 := Aside0.mk H
   clear H
   go_upto_region 2 with (fail)
   repeat (go_quiet (fail); go_upto_region 2 with (fail))
   go_cut [15] (fun v15 wc => ∃ (kq : Nat) (x15_2 : Bool), v15 = .bool x15_2 ∧ Aside0 (spec_LessPath.j1 kq l0 l1 x5_1 x15_2 = some r) ∧ Aside0 (kq ≤ k1) ∧ Drawn0 w wc)
   case first =>
    have H := HC3.out
    clear HC3
    by_cases c4 : x5_1 < (l0.length : Int)
    rotate_left
    · rw [if_neg c4] at H
      have c4b0 : decide (x5_1 < (l0.length : Int)) = false := decide_eq_false c4
      clear c4
      (first | rw [c4b0] | (simp only [i64_w, i32_w]; rw [c4b0]) | skip)
      have H' := Aside0.mk H
      clear H
      go_wp2
      repeat (go_quiet (fail); try go_wp2)
      go_meet
      case rel => exact ⟨_, (false), rs_, H', ⟨by have := HK1.out; first | omega | exact Nat.le_refl _⟩, dr_⟩
    rw [if_pos c4] at H
    have c4b0 : decide (x5_1 < (l0.length : Int)) = true := decide_eq_true c4
    clear c4
    (first | rw [c4b0] | (simp only [i64_w, i32_w]; rw [c4b0]) | skip)
    have H' := Aside0.mk H
    clear H
    go_wp2
    repeat (go_quiet (fail); try go_wp2)
    go_meet
    case rel => exact ⟨_, (decide (x5_1 < (l1.length : Int))), rs_, H', ⟨by have := HK1.out; first | omega | exact Nat.le_refl _⟩, dr_⟩
   case rest =>
    clear HC3
    try clear c1
    try clear p2
    try clear c4
    try clear c4b0
    try clear p2
    obtain ⟨kq, x15_2, rfl, HA, HJ2, ⟨mc2, rfl⟩⟩ := hcut
    cases kq with
    | zero => exact absurd HA.out (by simp [spec_LessPath.j1])
    | succ kj2 =>
     have H := HA.out
     clear HA
     simp only [spec_LessPath.j1] at H
     by_cases c5 : x15_2 = true
     · subst c5
       rw [if_pos rfl] at H
       by_cases c6 : 0 ≤ x5_1
       rotate_left
       · exact absurd H (by rw [if_neg c6]; simp)
       rw [if_pos c6] at H
       have c6b0 : decide (0 ≤ x5_1) = true := decide_eq_true c6
       clear c6
       by_cases c7 : x5_1 < (l0.length : Int)
       rotate_left
       · exact absurd H (by rw [if_neg c7]; simp)
       rw [if_pos c7] at H
       have c7b0 : decide (x5_1 < (l0.length : Int)) = true := decide_eq_true c7
       clear c7
       by_cases c8 : x5_1 < (l1.length : Int)
       rotate_left
       · exact absurd H (by rw [if_neg c8]; simp)
       rw [if_pos c8] at H
       have c8b0 : decide (x5_1 < (l1.length : Int)) = true := decide_eq_true c8
       clear c8
       by_cases c9 : (rdOf ByteArray.empty l0 x5_1).toList = (rdOf ByteArray.empty l1 x5_1).toList
       · rw [if_pos c9] at H
         have c9b0 : ((rdOf ByteArray.empty l0 x5_1).toList == (rdOf ByteArray.empty l1 x5_1).toList) = true := beq_iff_eq.mpr c9
         have c9b1 : ((rdOf ByteArray.empty l0 x5_1).toList != (rdOf ByteArray.empty l1 x5_1).toList) = false := bne_eq_false_iff_eq.mpr c9
         clear c9
         have H' := Aside0.mk H
         clear H
         have p147 : 0 ≤ (x5_1 : Int) := of_decide_eq_true as_
         have q147 : x5_1 < (l0.length : Int) := of_decide_eq_true as_
         obtain ⟨ad147, e147, hx147_0⟩ := Kd.at_string HR0.out x5_1 p147 q147
         cases e147
         replace p147 := eq_true p147
         replace q147 := eq_true q147
         have p148 : 0 ≤ (x5_1 : Int) := of_decide_eq_true as_
         have q148 : x5_1 < (l1.length : Int) := of_decide_eq_true as_
         obtain ⟨ad148, e148, hx148_0⟩ := Kd.at_string HR1.out x5_1 p148 q148
         cases e148
         replace p148 := eq_true p148
         replace q148 := eq_true q148
         go_wp2
         repeat (go_quiet (fail); try go_wp2)
         go_roundg kj2
         case measure => have := HK1.out; have := HJ2.out; omega
         case rel => exact ⟨(wrap64 (x5_1 + 1)), rs_, H', ⟨by have := HK1.out; have := HJ2.out; omega⟩, dr_⟩
       rw [if_neg c9] at H
       have c9b0 : ((rdOf ByteArray.empty l0 x5_1).toList == (rdOf ByteArray.empty l1 x5_1).toList) = false := beq_eq_false_iff_ne.mpr c9
       have c9b1 : ((rdOf ByteArray.empty l0 x5_1).toList != (rdOf ByteArray.empty l1 x5_1).toList) = true := bne_iff_ne.mpr c9
       obtain rfl := Option.some.inj H
       have p147 : 0 ≤ (x5_1 : Int) := of_decide_eq_true as_
       have q147 : x5_1 < (l0.length : Int) := of_decide_eq_true as_
       obtain ⟨ad147, e147, hx147_0⟩ := Kd.at_string HR0.out x5_1 p147 q147
       cases e147
       replace p147 := eq_true p147
       replace q147 := eq_true q147
       have p148 : 0 ≤ (x5_1 : Int) := of_decide_eq_true as_
       have q148 : x5_1 < (l1.length : Int) := of_decide_eq_true as_
       obtain ⟨ad148, e148, hx148_0⟩ := Kd.at_string HR1.out x5_1 p148 q148
       cases e148
       replace p148 := eq_true p148
       replace q148 := eq_true q148
       have p149 : 0 ≤ (x5_1 : Int) := of_decide_eq_true as_
       have q149 : x5_1 < (l0.length : Int) := of_decide_eq_true as_
       obtain ⟨ad149, e149, hx149_0⟩ := Kd.at_string HR0.out x5_1 p149 q149
       obtain rfl : ad147 = ad149 := (by injection e149)
       replace p149 := eq_true p149
       replace q149 := eq_true q149
       have p150 : 0 ≤ (x5_1 : Int) := of_decide_eq_true as_
       have q150 : x5_1 < (l1.length : Int) := of_decide_eq_true as_
       obtain ⟨ad150, e150, hx150_0⟩ := Kd.at_string HR1.out x5_1 p150 q150
       obtain rfl : ad148 = ad150 := (by injection e150)
       replace p150 := eq_true p150
       replace q150 := eq_true q150
       go_wp2
       repeat (go_quiet (fail); try go_wp2)
       go_ret
       exact ⟨rs_, dr_⟩
     · replace c5 := Bool.eq_false_iff.mpr c5
       subst c5
       rw [if_neg (show ¬ (false = true) by decide)] at H
       obtain rfl := Option.some.inj H
       go_wp2
       repeat (go_quiet (fail); try go_wp2)
       go_ret
       exact ⟨rs_, dr_⟩
def spec_PropsOk.l0 : Nat → List (S72) → Int → Option (Bool)
 | 0, _, _ => none
 | k + 1, x0, x3 => if x3 < (x0.length : Int) then (if 0 ≤ x3 then ((spec_l10Prop.f k ((rd_T72 x0 x3).f0) ((rd_T72 x0 x3).f1) ((rd_T72 x0 x3).f2)).bind fun t139 => (if t139 = true then (if x3 > 0 then (if 0 ≤ (wrap64 (x3 - 1)) then (if (wrap64 (x3 - 1)) < (x0.length : Int) then ((spec_l10LessProp.f ((rd_T72 x0 (wrap64 (x3 - 1))).f0) ((rd_T72 x0 (wrap64 (x3 - 1))).f1) ((rd_T72 x0 (wrap64 (x3 - 1))).f2) ((rd_T72 x0 x3).f0) ((rd_T72 x0 x3).f1) ((rd_T72 x0 x3).f2)).bind fun t142 => (if t142 = true then (spec_PropsOk.l0 k x0 (wrap64 (x3 + 1))) else (some false))) else (none)) else (none)) else (spec_PropsOk.l0 k x0 (wrap64 (x3 + 1)))) else (some false))) else (none)) else (some (decide ((x0.length : Int) ≤ 4)))
def spec_PropsOk.f (k : Nat) (l0 : List (S72)) : Option (Bool) := spec_PropsOk.l0 k l0 0
def spec_PropsOk.T4 : Bool × List (List Nat × List Nat) := (true, [([], []), ([], []), ([0, 1], [0, 1]), ([2], [2]), ([3], [3]), ([4], [4]), ([5, 4], [5]), ([6], [6]), ([7, 6], [6, 7]), ([8, 6, 6], [6, 8]), ([9], [9]), ([9], [9]), ([11, 9], [9, 11]), ([10, 12, 9], [9, 10, 12]), ([13, 9], [9, 13]), ([9], [9]), ([9], [9]), ([15, 16, 9], [9, 15, 16]), ([17, 9], [9, 17]), ([14, 18, 9, 9], [9, 14, 18]), ([19, 9], [9, 19]), ([9, 20, 6], [6, 9, 20]), ([6, 21], [6, 21])])
def spec_PropsOk.B4 : List Nat := [0, 0, 3, 7, 15, 31, 63, 127, 255, 511, 1023, 1023, 3071, 8191, 16383, 1023, 1023, 99327, 230399, 524287, 1048575, 2097151, 4194303]
theorem spec_PropsOk.tab4 : rtab .any (opsOf Try.f97 4) = spec_PropsOk.T4 := by kernel_rfl
theorem spec_PropsOk.bits4 : waitsOk spec_PropsOk.T4.2 spec_PropsOk.B4 = true := by kernel_rfl
set_option maxHeartbeats 8000000 in
set_option maxRecDepth 100000 in
theorem spec_PropsOk.calls (k : Nat) (A0 : Option Addr) (c0 : Nat) (l0 : List (S72)) (r : Bool) (w : World) (hr0 : Kd.C k72 w A0 l0.length l0) (hc0 : l0.length ≤ c0) (h : spec_PropsOk.f k l0 = some r) :
 Calls Try.prog 97 #[.slice A0 l0.length c0] w fun e w' => e = .returned (.bool r) ∧ Below w.heap.size w w' := by
 have hu72 := Try.underlying72
 have HR0 := Aside0.mk hr0
 have HC0 := Aside0.mk hc0
 clear hr0 hc0
 have HB := Aside0.mk (Below.refl w.heap.size w)
 have H : (spec_PropsOk.l0 k l0 0) = some r := h
 clear h
 have H' := Aside0.mk H
 clear H
 go_enter Try.func97, Try.ntmps97
 go_wp2
 go_loopg [3] k (fun kq v3 w' => ∃ (x3_1 : Int), v3 = .int .i64 x3_1 ∧ Aside0 (spec_PropsOk.l0 kq l0 x3_1 = some r) ∧ Aside0 (kq ≤ k) ∧ Aside0 (Below w.heap.size w w'))
 case atStart => exact ⟨(0), rs_, H', ⟨Nat.le_refl _⟩, ⟨bB_⟩⟩
 case round =>
  clear H'
  obtain ⟨x3_1, rfl, HA, HK1, HB⟩ := hrel
  cases gk with
  | zero => exact absurd HA.out (by simp [spec_PropsOk.l0])
  | succ k1 =>
   have H := HA.out
   clear HA
   simp only [spec_PropsOk.l0] at H
   by_cases c2 : x3_1 < (l0.length : Int)
   rotate_left
   · rw [if_neg c2] at H
     have c2b0 : decide (x3_1 < (l0.length : Int)) = false := decide_eq_false c2
     clear c2
     obtain rfl := Option.some.inj H
     go_wp2
     go_ret
     exact ⟨rr_, bB_⟩
   rw [if_pos c2] at H
   have c2b0 : decide (x3_1 < (l0.length : Int)) = true := decide_eq_true c2
   clear c2
   by_cases c3 : 0 ≤ x3_1
   rotate_left
   · exact absurd H (by rw [if_neg c3]; simp)
   rw [if_pos c3] at H
   have c3b0 : decide (0 ≤ x3_1) = true := decide_eq_true c3
   clear c3
   obtain ⟨t139, A4, H⟩ := bo_ H
   (try dsimp only at H)
   by_cases c5 : t139 = true
   · subst c5
     rw [if_pos rfl] at H
     by_cases c6 : x3_1 > 0
     rotate_left
     · rw [if_neg c6] at H
       have c6b0 : decide (0 < x3_1) = false := decide_eq_false c6
       clear c6
       have H' := Aside0.mk H
       clear H
       try go_wp2
       have n0_ := Aside0.mk (below_drew1 HB.out)
       clear HB
       have HB := n0_
       clear n0_
       have p138 : 0 ≤ (x3_1 : Int) := of_decide_eq_true as_
       have q138 : x3_1 < (l0.length : Int) := of_decide_eq_true as_
       obtain ⟨ad138, e138, hx138_0, hx138_1, hx138_2⟩ := at_T72 HR0.out x3_1 p138 q138
       have hw138_2 := hx138_2
       have hw138_1 := hx138_1
       have hw138_0 := hx138_0
       cases e138
       replace hx138_0 := bc_ HB.out hx138_0
       replace hx138_1 := bc_ HB.out hx138_1
       replace hx138_2 := bc_ HB.out hx138_2
       replace p138 := eq_true p138
       replace q138 := eq_true q138
       refine start_ (n := 23) (S := fun w' => w'.cell? (ad138.add ((x3_1).toNat * 3)) = some (.string ((rd_T72 l0 x3_1).f0)) ∧ w'.cell? ⟨(ad138.add ((x3_1).toNat * 3)).block, (ad138.add ((x3_1).toNat * 3)).off + 1, none⟩ = some (.string ((rd_T72 l0 x3_1).f1)) ∧ w'.cell? ⟨(ad138.add ((x3_1).toNat * 3)).block, (ad138.add ((x3_1).toNat * 3)).off + 2, none⟩ = some (.string ((rd_T72 l0 x3_1).f2))) (ds := []) #[false, false, false, false, false, false, false, false, false, false, false, false, false, false, false, false, false, false, false, false, false, false, false] (by kernel_rfl) rfl rfl ⟨((HB.out.cell (World.block_lt_of_cell? w _ hw138_0)).trans hw138_0), ((HB.out.cell (World.block_lt_of_cell? w _ hw138_1)).trans hw138_1), ((HB.out.cell (World.block_lt_of_cell? w _ hw138_2)).trans hw138_2)⟩ (fun hHeld => ?_); refine with_tabW spec_PropsOk.tab4 spec_PropsOk.bits4 (fun HT_ HW_ => ?_)
       generalize wr.drew = w18 at HB hx138_0 hx138_1 hx138_2 hHeld ⊢
       refine pu_ (i := 0) (N := some 10) ?_
       refine pu_ (i := 1) (N := some 11) ?_
       refine pu_ (i := 2) (N := some 12) ?_
       refine tk_ (i := 3) (N := some 13) hHeld ?_
       refine on_ (i := 4) (N := some 14) (fun K hK => ?_)
       refine goes_ Try.func95 (by kernel_rfl) rfl #[.agg #[.string ((rd_T72 l0 x3_1).f0), .string ((rd_T72 l0 x3_1).f1), .string ((rd_T72 l0 x3_1).f2)]] (by rfl) rfl rfl ml_ ?_
       with_reducible refine (spec_l10Prop.calls k1 ((rd_T72 l0 x3_1).f0) ((rd_T72 l0 x3_1).f1) ((rd_T72 l0 x3_1).f2) true _ A4.out).mono ?_
       rintro e w19 ⟨rfl, hb⟩
       refine ⟨_, rfl, ?_⟩
       have n0_ := Aside0.mk (below_step bB_ hb)
       clear HB
       have HB := n0_
       clear n0_
       (try clear hb)
       (try clear hb2)
       (try clear hk)
       (try clear hi)
       refine hK.out _ _ ⟨((HB.out.cell (World.block_lt_of_cell? w _ hw138_0)).trans hw138_0), ((HB.out.cell (World.block_lt_of_cell? w _ hw138_1)).trans hw138_1), ((HB.out.cell (World.block_lt_of_cell? w _ hw138_2)).trans hw138_2)⟩ (fun hHeld => ?_)
       clear hK K
       refine no_ (some 14) ?_
       refine pu_ (i := 5) (N := some 15) ?_
       refine pu_ (i := 6) (N := some 16) ?_
       refine pu_ (i := 7) (N := some 17) ?_
       refine pu_ (i := 8) (N := some 18) ?_
       refine pu_ (i := 9) (N := some 19) ?_
       refine pn_ (i := 10) (N := some 20) ?_
       refine pn_ (i := 11) (N := some 21) ?_
       refine pn_ (i := 12) (N := some 22) ?_
       refine pn_ (i := 13) (N := some 23) ?_
       refine pn_ (i := 14) (N := some 24) ?_
       refine pn_ (i := 15) (N := some 25) ?_
       refine pn_ (i := 16) (N := some 26) ?_
       refine pn_ (i := 17) (N := some 27) ?_
       refine pn_ (i := 18) (N := some 28) ?_
       refine pn_ (i := 19) (N := some 29) ?_
       refine pn_ (i := 20) (N := some 30) ?_
       refine pu_ (i := 21) (N := some 31) ?_
       refine pu_ (i := 22) (N := some 32) ?_
       refine done_ (done_of HT_.out (by kernel_rfl)) ?_
       (try clear hHeld)
       try go_wp2
       go_roundg k1
       case measure => have := HK1.out; omega
       case rel => exact ⟨(wrap64 (x3_1 + 1)), rs_, H', ⟨by have := HK1.out; omega⟩, ⟨bB_⟩⟩
     rw [if_pos c6] at H
     have c6b0 : decide (0 < x3_1) = true := decide_eq_true c6
     clear c6
     obtain ⟨ji7, hji7⟩ : ∃ j_ : Int, (wrap64 (x3_1 - 1)) = j_ := ⟨_, rfl⟩
     replace H : (if 0 ≤ (ji7) then (if (ji7) < (l0.length : Int) then ((spec_l10LessProp.f ((rd_T72 l0 (ji7)).f0) ((rd_T72 l0 (ji7)).f1) ((rd_T72 l0 (ji7)).f2) ((rd_T72 l0 x3_1).f0) ((rd_T72 l0 x3_1).f1) ((rd_T72 l0 x3_1).f2)).bind fun t142 => (if t142 = true then (spec_PropsOk.l0 k1 l0 (wrap64 (x3_1 + 1))) else (some false))) else (none)) else (none)) = some r := by first | (rw [hji7] at H; exact H) | (simp only [hji7] at H ⊢; exact H)
     (try rw [hji7] at A4)
     have hji7w : (IntKind.i64.wrap (x3_1 - 1)) = ji7 := (i64_w _).trans hji7
     by_cases c8 : 0 ≤ (ji7)
     rotate_left
     · exact absurd H (by rw [if_neg c8]; simp)
     rw [if_pos c8] at H
     have c8b0 : decide (0 ≤ (ji7)) = true := decide_eq_true c8
     clear c8
     by_cases c9 : (ji7) < (l0.length : Int)
     rotate_left
     · exact absurd H (by rw [if_neg c9]; simp)
     rw [if_pos c9] at H
     have c9b0 : decide ((ji7) < (l0.length : Int)) = true := decide_eq_true c9
     clear c9
     obtain ⟨t142, A10, H⟩ := bo_ H
     (try dsimp only at H)
     by_cases c11 : t142 = true
     · subst c11
       rw [if_pos rfl] at H
       have H' := Aside0.mk H
       clear H
       try go_wp2
       have n0_ := Aside0.mk (below_drew1 HB.out)
       clear HB
       have HB := n0_
       clear n0_
       have p138 : 0 ≤ (x3_1 : Int) := of_decide_eq_true as_
       have q138 : x3_1 < (l0.length : Int) := of_decide_eq_true as_
       obtain ⟨ad138, e138, hx138_0, hx138_1, hx138_2⟩ := at_T72 HR0.out x3_1 p138 q138
       have hw138_2 := hx138_2
       have hw138_1 := hx138_1
       have hw138_0 := hx138_0
       cases e138
       replace hx138_0 := bc_ HB.out hx138_0
       replace hx138_1 := bc_ HB.out hx138_1
       replace hx138_2 := bc_ HB.out hx138_2
       replace p138 := eq_true p138
       replace q138 := eq_true q138
       have p140 : 0 ≤ ((ji7) : Int) := of_decide_eq_true as_
       have q140 : (ji7) < (l0.length : Int) := of_decide_eq_true as_
       obtain ⟨ad140, e140, hx140_0, hx140_1, hx140_2⟩ := at_T72 HR0.out (ji7) p140 q140
       have hw140_2 := hx140_2
       have hw140_1 := hx140_1
       have hw140_0 := hx140_0
       obtain rfl : ad138 = ad140 := (by injection e140)
       replace hx140_0 := bc_ HB.out hx140_0
       replace hx140_1 := bc_ HB.out hx140_1
       replace hx140_2 := bc_ HB.out hx140_2
       replace p140 := eq_true p140
       replace q140 := eq_true q140
       have p141 : 0 ≤ (x3_1 : Int) := of_decide_eq_true as_
       have q141 : x3_1 < (l0.length : Int) := of_decide_eq_true as_
       obtain ⟨ad141, e141, hx141_0, hx141_1, hx141_2⟩ := at_T72 HR0.out x3_1 p141 q141
       have hw141_2 := hx141_2
       have hw141_1 := hx141_1
       have hw141_0 := hx141_0
       obtain rfl : ad138 = ad141 := (by injection e141)
       replace hx141_0 := bc_ HB.out hx141_0
       replace hx141_1 := bc_ HB.out hx141_1
       replace hx141_2 := bc_ HB.out hx141_2
       replace p141 := eq_true p141
       replace q141 := eq_true q141
       refine start_ (n := 23) (S := fun w' => w'.cell? (ad138.add ((x3_1).toNat * 3)) = some (.string ((rd_T72 l0 x3_1).f0)) ∧ w'.cell? ⟨(ad138.add ((x3_1).toNat * 3)).block, (ad138.add ((x3_1).toNat * 3)).off + 1, none⟩ = some (.string ((rd_T72 l0 x3_1).f1)) ∧ w'.cell? ⟨(ad138.add ((x3_1).toNat * 3)).block, (ad138.add ((x3_1).toNat * 3)).off + 2, none⟩ = some (.string ((rd_T72 l0 x3_1).f2)) ∧ w'.cell? (ad138.add (((ji7)).toNat * 3)) = some (.string ((rd_T72 l0 (ji7)).f0)) ∧ w'.cell? ⟨(ad138.add (((ji7)).toNat * 3)).block, (ad138.add (((ji7)).toNat * 3)).off + 1, none⟩ = some (.string ((rd_T72 l0 (ji7)).f1)) ∧ w'.cell? ⟨(ad138.add (((ji7)).toNat * 3)).block, (ad138.add (((ji7)).toNat * 3)).off + 2, none⟩ = some (.string ((rd_T72 l0 (ji7)).f2)) ∧ w'.cell? (ad138.add ((x3_1).toNat * 3)) = some (.string ((rd_T72 l0 x3_1).f0)) ∧ w'.cell? ⟨(ad138.add ((x3_1).toNat * 3)).block, (ad138.add ((x3_1).toNat * 3)).off + 1, none⟩ = some (.string ((rd_T72 l0 x3_1).f1)) ∧ w'.cell? ⟨(ad138.add ((x3_1).toNat * 3)).block, (ad138.add ((x3_1).toNat * 3)).off + 2, none⟩ = some (.string ((rd_T72 l0 x3_1).f2))) (ds := []) #[false, false, false, false, false, false, false, false, false, false, false, false, false, false, false, false, false, false, false, false, false, false, false] (by kernel_rfl) rfl rfl ⟨((HB.out.cell (World.block_lt_of_cell? w _ hw138_0)).trans hw138_0), ((HB.out.cell (World.block_lt_of_cell? w _ hw138_1)).trans hw138_1), ((HB.out.cell (World.block_lt_of_cell? w _ hw138_2)).trans hw138_2), ((HB.out.cell (World.block_lt_of_cell? w _ hw140_0)).trans hw140_0), ((HB.out.cell (World.block_lt_of_cell? w _ hw140_1)).trans hw140_1), ((HB.out.cell (World.block_lt_of_cell? w _ hw140_2)).trans hw140_2), ((HB.out.cell (World.block_lt_of_cell? w _ hw141_0)).trans hw141_0), ((HB.out.cell (World.block_lt_of_cell? w _ hw141_1)).trans hw141_1), ((HB.out.cell (World.block_lt_of_cell? w _ hw141_2)).trans hw141_2)⟩ (fun hHeld => ?_); refine with_tabW spec_PropsOk.tab4 spec_PropsOk.bits4 (fun HT_ HW_ => ?_)
       generalize wr.drew = w12 at HB hx138_0 hx138_1 hx138_2 hx140_0 hx140_1 hx140_2 hx141_0 hx141_1 hx141_2 hHeld ⊢
       refine pu_ (i := 0) (N := some 10) ?_
       refine pu_ (i := 1) (N := some 11) ?_
       refine pu_ (i := 2) (N := some 12) ?_
       refine tk_ (i := 3) (N := some 13) hHeld ?_
       refine on_ (i := 4) (N := some 14) (fun K hK => ?_)
       refine goes_ Try.func95 (by kernel_rfl) rfl #[.agg #[.string ((rd_T72 l0 x3_1).f0), .string ((rd_T72 l0 x3_1).f1), .string ((rd_T72 l0 x3_1).f2)]] (by rfl) rfl rfl ml_ ?_
       with_reducible refine (spec_l10Prop.calls k1 ((rd_T72 l0 x3_1).f0) ((rd_T72 l0 x3_1).f1) ((rd_T72 l0 x3_1).f2) true _ A4.out).mono ?_
       rintro e w13 ⟨rfl, hb⟩
       refine ⟨_, rfl, ?_⟩
       have n0_ := Aside0.mk (below_step bB_ hb)
       clear HB
       have HB := n0_
       clear n0_
       (try clear hb)
       (try clear hb2)
       (try clear hk)
       (try clear hi)
       refine hK.out _ _ ⟨((HB.out.cell (World.block_lt_of_cell? w _ hw138_0)).trans hw138_0), ((HB.out.cell (World.block_lt_of_cell? w _ hw138_1)).trans hw138_1), ((HB.out.cell (World.block_lt_of_cell? w _ hw138_2)).trans hw138_2), ((HB.out.cell (World.block_lt_of_cell? w _ hw140_0)).trans hw140_0), ((HB.out.cell (World.block_lt_of_cell? w _ hw140_1)).trans hw140_1), ((HB.out.cell (World.block_lt_of_cell? w _ hw140_2)).trans hw140_2), ((HB.out.cell (World.block_lt_of_cell? w _ hw141_0)).trans hw141_0), ((HB.out.cell (World.block_lt_of_cell? w _ hw141_1)).trans hw141_1), ((HB.out.cell (World.block_lt_of_cell? w _ hw141_2)).trans hw141_2)⟩ (fun hHeld => ?_)
       clear hK K
       refine no_ (some 14) ?_
       refine pu_ (i := 5) (N := some 15) ?_
       refine pu_ (i := 6) (N := some 16) ?_
       refine pu_ (i := 7) (N := some 17) ?_
       refine pu_ (i := 8) (N := some 18) ?_
       refine pu_ (i := 9) (N := some 19) ?_
       refine pu_ (i := 10) (N := some 20) ?_
       refine pu_ (i := 11) (N := some 21) ?_
       refine pu_ (i := 12) (N := some 22) ?_
       refine pu_ (i := 13) (N := some 23) ?_
       refine pu_ (i := 15) (N := some 25) ?_
       refine pu_ (i := 16) (N := some 26) ?_
       refine pu_ (i := 17) (N := some 27) ?_
       refine tk_ (i := 14) (N := some 24) hHeld ?_
       refine tk_ (i := 18) (N := some 28) hHeld ?_
       refine on_ (i := 19) (N := some 29) (fun K hK => ?_)
       refine goes_ Try.func127 (by kernel_rfl) rfl #[.agg #[.string ((rd_T72 l0 (ji7)).f0), .string ((rd_T72 l0 (ji7)).f1), .string ((rd_T72 l0 (ji7)).f2)], .agg #[.string ((rd_T72 l0 x3_1).f0), .string ((rd_T72 l0 x3_1).f1), .string ((rd_T72 l0 x3_1).f2)]] (by rfl) rfl rfl (by (try simp only [List.map_toArray, List.map_cons, List.map_nil]); first | done | (simp only [hji7]; rfl) | rfl | (simp only [List.length_drop, List.length_take]; rfl)) ?_
       with_reducible refine (spec_l10LessProp.calls ((rd_T72 l0 (ji7)).f0) ((rd_T72 l0 (ji7)).f1) ((rd_T72 l0 (ji7)).f2) ((rd_T72 l0 x3_1).f0) ((rd_T72 l0 x3_1).f1) ((rd_T72 l0 x3_1).f2) true _ A10.out).mono ?_
       rintro e w14 ⟨rfl, hb⟩
       refine ⟨_, rfl, ?_⟩
       have n0_ := Aside0.mk (below_step bB_ hb)
       clear HB
       have HB := n0_
       clear n0_
       (try clear hb)
       (try clear hb2)
       (try clear hk)
       (try clear hi)
       refine hK.out _ _ ⟨((HB.out.cell (World.block_lt_of_cell? w _ hw138_0)).trans hw138_0), ((HB.out.cell (World.block_lt_of_cell? w _ hw138_1)).trans hw138_1), ((HB.out.cell (World.block_lt_of_cell? w _ hw138_2)).trans hw138_2), ((HB.out.cell (World.block_lt_of_cell? w _ hw140_0)).trans hw140_0), ((HB.out.cell (World.block_lt_of_cell? w _ hw140_1)).trans hw140_1), ((HB.out.cell (World.block_lt_of_cell? w _ hw140_2)).trans hw140_2), ((HB.out.cell (World.block_lt_of_cell? w _ hw141_0)).trans hw141_0), ((HB.out.cell (World.block_lt_of_cell? w _ hw141_1)).trans hw141_1), ((HB.out.cell (World.block_lt_of_cell? w _ hw141_2)).trans hw141_2)⟩ (fun hHeld => ?_)
       clear hK K
       refine no_ (some 29) ?_
       refine pu_ (i := 20) (N := some 30) ?_
       refine pu_ (i := 21) (N := some 31) ?_
       refine pu_ (i := 22) (N := some 32) ?_
       refine done_ (done_of HT_.out (by kernel_rfl)) ?_
       (try clear hHeld)
       try go_wp2
       go_roundg k1
       case measure => have := HK1.out; omega
       case rel => exact ⟨(wrap64 (x3_1 + 1)), rs_, H', ⟨by have := HK1.out; omega⟩, ⟨bB_⟩⟩
     · replace c11 := Bool.eq_false_iff.mpr c11
       subst c11
       rw [if_neg (show ¬ (false = true) by decide)] at H
       obtain rfl := Option.some.inj H
       try go_wp2
       have n0_ := Aside0.mk (below_drew1 HB.out)
       clear HB
       have HB := n0_
       clear n0_
       have p138 : 0 ≤ (x3_1 : Int) := of_decide_eq_true as_
       have q138 : x3_1 < (l0.length : Int) := of_decide_eq_true as_
       obtain ⟨ad138, e138, hx138_0, hx138_1, hx138_2⟩ := at_T72 HR0.out x3_1 p138 q138
       have hw138_2 := hx138_2
       have hw138_1 := hx138_1
       have hw138_0 := hx138_0
       cases e138
       replace hx138_0 := bc_ HB.out hx138_0
       replace hx138_1 := bc_ HB.out hx138_1
       replace hx138_2 := bc_ HB.out hx138_2
       replace p138 := eq_true p138
       replace q138 := eq_true q138
       have p140 : 0 ≤ ((ji7) : Int) := of_decide_eq_true as_
       have q140 : (ji7) < (l0.length : Int) := of_decide_eq_true as_
       obtain ⟨ad140, e140, hx140_0, hx140_1, hx140_2⟩ := at_T72 HR0.out (ji7) p140 q140
       have hw140_2 := hx140_2
       have hw140_1 := hx140_1
       have hw140_0 := hx140_0
       obtain rfl : ad138 = ad140 := (by injection e140)
       replace hx140_0 := bc_ HB.out hx140_0
       replace hx140_1 := bc_ HB.out hx140_1
       replace hx140_2 := bc_ HB.out hx140_2
       replace p140 := eq_true p140
       replace q140 := eq_true q140
       have p141 : 0 ≤ (x3_1 : Int) := of_decide_eq_true as_
       have q141 : x3_1 < (l0.length : Int) := of_decide_eq_true as_
       obtain ⟨ad141, e141, hx141_0, hx141_1, hx141_2⟩ := at_T72 HR0.out x3_1 p141 q141
       have hw141_2 := hx141_2
       have hw141_1 := hx141_1
       have hw141_0 := hx141_0
       obtain rfl : ad138 = ad141 := (by injection e141)
       replace hx141_0 := bc_ HB.out hx141_0
       replace hx141_1 := bc_ HB.out hx141_1
       replace hx141_2 := bc_ HB.out hx141_2
       replace p141 := eq_true p141
       replace q141 := eq_true q141
       refine start_ (n := 23) (S := fun w' => w'.cell? (ad138.add ((x3_1).toNat * 3)) = some (.string ((rd_T72 l0 x3_1).f0)) ∧ w'.cell? ⟨(ad138.add ((x3_1).toNat * 3)).block, (ad138.add ((x3_1).toNat * 3)).off + 1, none⟩ = some (.string ((rd_T72 l0 x3_1).f1)) ∧ w'.cell? ⟨(ad138.add ((x3_1).toNat * 3)).block, (ad138.add ((x3_1).toNat * 3)).off + 2, none⟩ = some (.string ((rd_T72 l0 x3_1).f2)) ∧ w'.cell? (ad138.add (((ji7)).toNat * 3)) = some (.string ((rd_T72 l0 (ji7)).f0)) ∧ w'.cell? ⟨(ad138.add (((ji7)).toNat * 3)).block, (ad138.add (((ji7)).toNat * 3)).off + 1, none⟩ = some (.string ((rd_T72 l0 (ji7)).f1)) ∧ w'.cell? ⟨(ad138.add (((ji7)).toNat * 3)).block, (ad138.add (((ji7)).toNat * 3)).off + 2, none⟩ = some (.string ((rd_T72 l0 (ji7)).f2)) ∧ w'.cell? (ad138.add ((x3_1).toNat * 3)) = some (.string ((rd_T72 l0 x3_1).f0)) ∧ w'.cell? ⟨(ad138.add ((x3_1).toNat * 3)).block, (ad138.add ((x3_1).toNat * 3)).off + 1, none⟩ = some (.string ((rd_T72 l0 x3_1).f1)) ∧ w'.cell? ⟨(ad138.add ((x3_1).toNat * 3)).block, (ad138.add ((x3_1).toNat * 3)).off + 2, none⟩ = some (.string ((rd_T72 l0 x3_1).f2))) (ds := []) #[false, false, false, false, false, false, false, false, false, false, false, false, false, false, false, false, false, false, false, false, false, false, false] (by kernel_rfl) rfl rfl ⟨((HB.out.cell (World.block_lt_of_cell? w _ hw138_0)).trans hw138_0), ((HB.out.cell (World.block_lt_of_cell? w _ hw138_1)).trans hw138_1), ((HB.out.cell (World.block_lt_of_cell? w _ hw138_2)).trans hw138_2), ((HB.out.cell (World.block_lt_of_cell? w _ hw140_0)).trans hw140_0), ((HB.out.cell (World.block_lt_of_cell? w _ hw140_1)).trans hw140_1), ((HB.out.cell (World.block_lt_of_cell? w _ hw140_2)).trans hw140_2), ((HB.out.cell (World.block_lt_of_cell? w _ hw141_0)).trans hw141_0), ((HB.out.cell (World.block_lt_of_cell? w _ hw141_1)).trans hw141_1), ((HB.out.cell (World.block_lt_of_cell? w _ hw141_2)).trans hw141_2)⟩ (fun hHeld => ?_); refine with_tabW spec_PropsOk.tab4 spec_PropsOk.bits4 (fun HT_ HW_ => ?_)
       generalize wr.drew = w15 at HB hx138_0 hx138_1 hx138_2 hx140_0 hx140_1 hx140_2 hx141_0 hx141_1 hx141_2 hHeld ⊢
       refine pu_ (i := 0) (N := some 10) ?_
       refine pu_ (i := 1) (N := some 11) ?_
       refine pu_ (i := 2) (N := some 12) ?_
       refine tk_ (i := 3) (N := some 13) hHeld ?_
       refine on_ (i := 4) (N := some 14) (fun K hK => ?_)
       refine goes_ Try.func95 (by kernel_rfl) rfl #[.agg #[.string ((rd_T72 l0 x3_1).f0), .string ((rd_T72 l0 x3_1).f1), .string ((rd_T72 l0 x3_1).f2)]] (by rfl) rfl rfl ml_ ?_
       with_reducible refine (spec_l10Prop.calls k1 ((rd_T72 l0 x3_1).f0) ((rd_T72 l0 x3_1).f1) ((rd_T72 l0 x3_1).f2) true _ A4.out).mono ?_
       rintro e w16 ⟨rfl, hb⟩
       refine ⟨_, rfl, ?_⟩
       have n0_ := Aside0.mk (below_step bB_ hb)
       clear HB
       have HB := n0_
       clear n0_
       (try clear hb)
       (try clear hb2)
       (try clear hk)
       (try clear hi)
       refine hK.out _ _ ⟨((HB.out.cell (World.block_lt_of_cell? w _ hw138_0)).trans hw138_0), ((HB.out.cell (World.block_lt_of_cell? w _ hw138_1)).trans hw138_1), ((HB.out.cell (World.block_lt_of_cell? w _ hw138_2)).trans hw138_2), ((HB.out.cell (World.block_lt_of_cell? w _ hw140_0)).trans hw140_0), ((HB.out.cell (World.block_lt_of_cell? w _ hw140_1)).trans hw140_1), ((HB.out.cell (World.block_lt_of_cell? w _ hw140_2)).trans hw140_2), ((HB.out.cell (World.block_lt_of_cell? w _ hw141_0)).trans hw141_0), ((HB.out.cell (World.block_lt_of_cell? w _ hw141_1)).trans hw141_1), ((HB.out.cell (World.block_lt_of_cell? w _ hw141_2)).trans hw141_2)⟩ (fun hHeld => ?_)
       clear hK K
       refine no_ (some 14) ?_
       refine pu_ (i := 5) (N := some 15) ?_
       refine pu_ (i := 6) (N := some 16) ?_
       refine pu_ (i := 7) (N := some 17) ?_
       refine pu_ (i := 8) (N := some 18) ?_
       refine pu_ (i := 9) (N := some 19) ?_
       refine pu_ (i := 10) (N := some 20) ?_
       refine pu_ (i := 11) (N := some 21) ?_
       refine pu_ (i := 12) (N := some 22) ?_
       refine pu_ (i := 13) (N := some 23) ?_
       refine pu_ (i := 15) (N := some 25) ?_
       refine pu_ (i := 16) (N := some 26) ?_
       refine pu_ (i := 17) (N := some 27) ?_
       refine tk_ (i := 14) (N := some 24) hHeld ?_
       refine tk_ (i := 18) (N := some 28) hHeld ?_
       refine on_ (i := 19) (N := some 29) (fun K hK => ?_)
       refine goes_ Try.func127 (by kernel_rfl) rfl #[.agg #[.string ((rd_T72 l0 (ji7)).f0), .string ((rd_T72 l0 (ji7)).f1), .string ((rd_T72 l0 (ji7)).f2)], .agg #[.string ((rd_T72 l0 x3_1).f0), .string ((rd_T72 l0 x3_1).f1), .string ((rd_T72 l0 x3_1).f2)]] (by rfl) rfl rfl (by (try simp only [List.map_toArray, List.map_cons, List.map_nil]); first | done | (simp only [hji7]; rfl) | rfl | (simp only [List.length_drop, List.length_take]; rfl)) ?_
       with_reducible refine (spec_l10LessProp.calls ((rd_T72 l0 (ji7)).f0) ((rd_T72 l0 (ji7)).f1) ((rd_T72 l0 (ji7)).f2) ((rd_T72 l0 x3_1).f0) ((rd_T72 l0 x3_1).f1) ((rd_T72 l0 x3_1).f2) false _ A10.out).mono ?_
       rintro e w17 ⟨rfl, hb⟩
       refine ⟨_, rfl, ?_⟩
       have n0_ := Aside0.mk (below_step bB_ hb)
       clear HB
       have HB := n0_
       clear n0_
       (try clear hb)
       (try clear hb2)
       (try clear hk)
       (try clear hi)
       refine hK.out _ _ ⟨((HB.out.cell (World.block_lt_of_cell? w _ hw138_0)).trans hw138_0), ((HB.out.cell (World.block_lt_of_cell? w _ hw138_1)).trans hw138_1), ((HB.out.cell (World.block_lt_of_cell? w _ hw138_2)).trans hw138_2), ((HB.out.cell (World.block_lt_of_cell? w _ hw140_0)).trans hw140_0), ((HB.out.cell (World.block_lt_of_cell? w _ hw140_1)).trans hw140_1), ((HB.out.cell (World.block_lt_of_cell? w _ hw140_2)).trans hw140_2), ((HB.out.cell (World.block_lt_of_cell? w _ hw141_0)).trans hw141_0), ((HB.out.cell (World.block_lt_of_cell? w _ hw141_1)).trans hw141_1), ((HB.out.cell (World.block_lt_of_cell? w _ hw141_2)).trans hw141_2)⟩ (fun hHeld => ?_)
       clear hK K
       refine no_ (some 29) ?_
       refine pu_ (i := 20) (N := some 30) ?_
       refine pu_ (i := 21) (N := some 31) ?_
       refine pu_ (i := 22) (N := some 32) ?_
       refine done_ (done_of HT_.out (by kernel_rfl)) ?_
       (try clear hHeld)
       try go_wp2
       go_ret
       exact ⟨by first | rfl | (simp [errW_none, errW_some] <;> rfl) | (simp only [← hji7]; first | rfl | (simp [errW_none, errW_some] <;> rfl)) | (simp [*, errW_none, errW_some] <;> rfl), bB_⟩
   · replace c5 := Bool.eq_false_iff.mpr c5
     subst c5
     rw [if_neg (show ¬ (false = true) by decide)] at H
     obtain rfl := Option.some.inj H
     try go_wp2
     have n0_ := Aside0.mk (below_drew1 HB.out)
     clear HB
     have HB := n0_
     clear n0_
     have p138 : 0 ≤ (x3_1 : Int) := of_decide_eq_true as_
     have q138 : x3_1 < (l0.length : Int) := of_decide_eq_true as_
     obtain ⟨ad138, e138, hx138_0, hx138_1, hx138_2⟩ := at_T72 HR0.out x3_1 p138 q138
     have hw138_2 := hx138_2
     have hw138_1 := hx138_1
     have hw138_0 := hx138_0
     cases e138
     replace hx138_0 := bc_ HB.out hx138_0
     replace hx138_1 := bc_ HB.out hx138_1
     replace hx138_2 := bc_ HB.out hx138_2
     replace p138 := eq_true p138
     replace q138 := eq_true q138
     refine start_ (n := 23) (S := fun w' => w'.cell? (ad138.add ((x3_1).toNat * 3)) = some (.string ((rd_T72 l0 x3_1).f0)) ∧ w'.cell? ⟨(ad138.add ((x3_1).toNat * 3)).block, (ad138.add ((x3_1).toNat * 3)).off + 1, none⟩ = some (.string ((rd_T72 l0 x3_1).f1)) ∧ w'.cell? ⟨(ad138.add ((x3_1).toNat * 3)).block, (ad138.add ((x3_1).toNat * 3)).off + 2, none⟩ = some (.string ((rd_T72 l0 x3_1).f2))) (ds := []) #[false, false, false, false, false, false, false, false, false, false, false, false, false, false, false, false, false, false, false, false, false, false, false] (by kernel_rfl) rfl rfl ⟨((HB.out.cell (World.block_lt_of_cell? w _ hw138_0)).trans hw138_0), ((HB.out.cell (World.block_lt_of_cell? w _ hw138_1)).trans hw138_1), ((HB.out.cell (World.block_lt_of_cell? w _ hw138_2)).trans hw138_2)⟩ (fun hHeld => ?_); refine with_tabW spec_PropsOk.tab4 spec_PropsOk.bits4 (fun HT_ HW_ => ?_)
     generalize wr.drew = w20 at HB hx138_0 hx138_1 hx138_2 hHeld ⊢
     refine pu_ (i := 0) (N := some 10) ?_
     refine pu_ (i := 1) (N := some 11) ?_
     refine pu_ (i := 2) (N := some 12) ?_
     refine tk_ (i := 3) (N := some 13) hHeld ?_
     refine on_ (i := 4) (N := some 14) (fun K hK => ?_)
     refine goes_ Try.func95 (by kernel_rfl) rfl #[.agg #[.string ((rd_T72 l0 x3_1).f0), .string ((rd_T72 l0 x3_1).f1), .string ((rd_T72 l0 x3_1).f2)]] (by rfl) rfl rfl ml_ ?_
     with_reducible refine (spec_l10Prop.calls k1 ((rd_T72 l0 x3_1).f0) ((rd_T72 l0 x3_1).f1) ((rd_T72 l0 x3_1).f2) false _ A4.out).mono ?_
     rintro e w21 ⟨rfl, hb⟩
     refine ⟨_, rfl, ?_⟩
     have n0_ := Aside0.mk (below_step bB_ hb)
     clear HB
     have HB := n0_
     clear n0_
     (try clear hb)
     (try clear hb2)
     (try clear hk)
     (try clear hi)
     refine hK.out _ _ ⟨((HB.out.cell (World.block_lt_of_cell? w _ hw138_0)).trans hw138_0), ((HB.out.cell (World.block_lt_of_cell? w _ hw138_1)).trans hw138_1), ((HB.out.cell (World.block_lt_of_cell? w _ hw138_2)).trans hw138_2)⟩ (fun hHeld => ?_)
     clear hK K
     refine no_ (some 14) ?_
     refine pu_ (i := 5) (N := some 15) ?_
     refine pu_ (i := 6) (N := some 16) ?_
     refine pn_ (i := 7) (N := some 17) ?_
     refine pn_ (i := 8) (N := some 18) ?_
     refine pn_ (i := 9) (N := some 19) ?_
     refine pn_ (i := 10) (N := some 20) ?_
     refine pn_ (i := 11) (N := some 21) ?_
     refine pn_ (i := 12) (N := some 22) ?_
     refine pn_ (i := 13) (N := some 23) ?_
     refine pn_ (i := 14) (N := some 24) ?_
     refine pn_ (i := 15) (N := some 25) ?_
     refine pn_ (i := 16) (N := some 26) ?_
     refine pn_ (i := 17) (N := some 27) ?_
     refine pn_ (i := 18) (N := some 28) ?_
     refine pn_ (i := 19) (N := some 29) ?_
     refine pn_ (i := 20) (N := some 30) ?_
     refine pn_ (i := 21) (N := some 31) ?_
     refine pu_ (i := 22) (N := some 32) ?_
     refine done_ (done_of HT_.out (by kernel_rfl)) ?_
     (try clear hHeld)
     try go_wp2
     go_ret
     exact ⟨rr_, bB_⟩
end Go.Proofs.Ytbgggcgjijljkaa.Q
