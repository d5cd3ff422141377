import Derived.Test.YtbgggcgjijljkaaVFnCopiedG23
set_option maxHeartbeats 8000000
set_option maxRecDepth 100000
namespace Go.Proofs.Ytbgggcgjijljkaa.Q
open Go.RowKit Go.Proofs.YtbgggcgjijljkaaW.PrintWords Go.Proofs.YtbgggcgjijljkaaW.PrintLast Go.Proofs.YtbgggcgjijljkaaW.PrintMore
attribute [local go_sem] max2_int min2_int max_two min_two max_three min_three max_four min_four
set_option linter.unusedVariables false
set_option linter.unusedSimpArgs false
def impl_Plain.l0 : Nat -> ByteArray -> Int -> Option (Bool)
 | 0, _, _ => none
 | k + 1, x0, x3 => if x3 < (x0.size : Int) then (if 0 <= x3 then ((impl_isPlain.f (bt x0 x3)).bind fun t285 => (if t285 = true then (impl_Plain.l0 k x0 (wrap64 (x3 + 1))) else (some false))) else (none)) else (some true)
def impl_Plain.f (k : Nat) (a0 : ByteArray) : Option (Bool) := impl_Plain.l0 k a0 0
theorem impl_Plain.calls (k : Nat) (a0 : ByteArray) (r : Bool) (w : World) (h : impl_Plain.f k a0 = some r) :
 Calls Try.prog 123 #[.string a0] w fun e w' => e = .returned (.bool r) /\ Drawn0 w w' := by
 have H : (impl_Plain.l0 k a0 0) = some r := h
 clear h
 have H' := A_ H
 clear H
 go_enter Try.func123, Try.ntmps123
 go_wp2
 go_loopg [3] k (fun kq v3 w' => ∃ (x3_1 : Int), v3 = .int .i64 x3_1 /\ Aside0 (impl_Plain.l0 kq a0 x3_1 = some r) /\ Aside0 (kq <= k) /\ Drawn0 w w')
 case atStart => exact ⟨(0), rs_, H', ⟨Nat.le_refl _⟩, dr_⟩
 case round =>
  clear H'
  obtain ⟨x3_1, rfl, HA, HK1, ⟨m1, rfl⟩⟩ := hrel
  cases gk with
  | zero => exact absurd HA.out (by simp [impl_Plain.l0])
  | succ k1 =>
   have H := HA.out
   clear HA
   simp only [impl_Plain.l0] at H
   by_cases c2 : x3_1 < (a0.size : Int)
   rotate_left
   . rw [if_neg c2] at H
     have c2b0 := decide_eq_false c2
     clear c2
     obtain rfl := si_ H
     go_wp2
     go_ret
     exact ⟨rs_, dr_⟩
   rw [if_pos c2] at H
   have c2b0 := decide_eq_true c2
   clear c2
   by_cases c3 : 0 <= x3_1
   rotate_left
   . exact absurd H (by rw [if_neg c3]; simp)
   rw [if_pos c3] at H
   have c3b0 := decide_eq_true c3
   clear c3
   obtain ⟨t7, A5, H⟩ := bo_ H
   (try dsimp only at H)
   by_cases c6 : t7 = true
   . subst c6
     rw [if_pos rfl] at H
     have H' := A_ H
     clear H
     have p4 : 0 <= (x3_1 : Int) := od_
     have q4 : x3_1 < (a0.size : Int) := od_
     have hx4 := bt_at a0 x3_1
     replace p4 := eq_true p4
     replace q4 := eq_true q4
     go_wp2_with (first | ((with_reducible refine gc_ (f := 132) rfl ?_); refine gL_ (some 13) Try.func132 #[.int .u8 (bt a0 x3_1)] ?_; (with_reducible refine (impl_isPlain.calls (bt a0 x3_1) true _ A5.out).mono ?_); rintro e w' ⟨rfl, ⟨nd, rfl⟩⟩; refine ⟨_, rfl, ?_⟩))
     go_roundg k1
     case measure => have := HK1.out; omega
     case rel => exact ⟨(wrap64 (x3_1 + 1)), rs_, H', ⟨by have := HK1.out; omega⟩, dr_⟩
   . replace c6 := Bool.eq_false_iff.mpr c6
     subst c6
     rw [if_neg nf_] at H
     obtain rfl := si_ H
     have p4 : 0 <= (x3_1 : Int) := od_
     have q4 : x3_1 < (a0.size : Int) := od_
     have hx4 := bt_at a0 x3_1
     replace p4 := eq_true p4
     replace q4 := eq_true q4
     go_wp2_with (first | ((with_reducible refine gc_ (f := 132) rfl ?_); refine gL_ (some 13) Try.func132 #[.int .u8 (bt a0 x3_1)] ?_; (with_reducible refine (impl_isPlain.calls (bt a0 x3_1) false _ A5.out).mono ?_); rintro e w' ⟨rfl, ⟨nd, rfl⟩⟩; refine ⟨_, rfl, ?_⟩))
     go_ret
     exact ⟨rs_, dr_⟩
def impl_in.f (a0 : Int) (a1 : Int) (a2 : Int) : Option (Bool) := if a0 >= a1 then (some (decide (a0 <= a2))) else (some false)
theorem impl_in.calls (a0 : Int) (a1 : Int) (a2 : Int) (r : Bool) (w : World) (h : impl_in.f a0 a1 a2 = some r) :
 Calls Try.prog 109 #[.int .i64 a0, .int .i64 a1, .int .i64 a2] w fun e w' => e = .returned (.bool r) /\ Drawn0 w w' := by
 have H : (if a0 >= a1 then (some (decide (a0 <= a2))) else (some false)) = some r := h
 clear h
 by_cases c4 : a0 >= a1
 . rw [if_pos c4] at H
   have c4b0 : decide (a1 <= a0) = true := decide_eq_true c4
   clear c4
   obtain rfl := si_ H
   go_enter Try.func109, Try.ntmps109
   go_wp2
   go_ret
   exact ⟨rs_, dr_⟩
 rw [if_neg c4] at H
 have c4b0 : decide (a1 <= a0) = false := decide_eq_false c4
 clear c4
 obtain rfl := si_ H
 go_enter Try.func109, Try.ntmps109
 go_wp2
 go_ret
 exact ⟨rs_, dr_⟩
def impl_isSmall.f (a0 : Int) : Option (Bool) := if a0 >= 97 then (some (decide (a0 <= 122))) else (some false)
theorem impl_isSmall.calls (a0 : Int) (r : Bool) (w : World) (h : impl_isSmall.f a0 = some r) :
 Calls Try.prog 133 #[.int .u8 a0] w fun e w' => e = .returned (.bool r) /\ Drawn0 w w' := by
 have H : (if a0 >= 97 then (some (decide (a0 <= 122))) else (some false)) = some r := h
 clear h
 by_cases c2 : a0 >= 97
 . rw [if_pos c2] at H
   have c2b0 : decide (97 <= a0) = true := decide_eq_true c2
   clear c2
   obtain rfl := si_ H
   go_enter Try.func133, Try.ntmps133
   go_wp2
   go_ret
   exact ⟨rs_, dr_⟩
 rw [if_neg c2] at H
 have c2b0 : decide (97 <= a0) = false := decide_eq_false c2
 clear c2
 obtain rfl := si_ H
 go_enter Try.func133, Try.ntmps133
 go_wp2
 go_ret
 exact ⟨rs_, dr_⟩
def impl_isDigit.f (a0 : Int) : Option (Bool) := if a0 >= 48 then (some (decide (a0 <= 57))) else (some false)
theorem impl_isDigit.calls (a0 : Int) (r : Bool) (w : World) (h : impl_isDigit.f a0 = some r) :
 Calls Try.prog 134 #[.int .u8 a0] w fun e w' => e = .returned (.bool r) /\ Drawn0 w w' := by
 have H : (if a0 >= 48 then (some (decide (a0 <= 57))) else (some false)) = some r := h
 clear h
 by_cases c2 : a0 >= 48
 . rw [if_pos c2] at H
   have c2b0 : decide (48 <= a0) = true := decide_eq_true c2
   clear c2
   obtain rfl := si_ H
   go_enter Try.func134, Try.ntmps134
   go_wp2
   go_ret
   exact ⟨rs_, dr_⟩
 rw [if_neg c2] at H
 have c2b0 : decide (48 <= a0) = false := decide_eq_false c2
 clear c2
 obtain rfl := si_ H
 go_enter Try.func134, Try.ntmps134
 go_wp2
 go_ret
 exact ⟨rs_, dr_⟩
def impl_SmallName.l0 : Nat -> ByteArray -> Int -> Option (Bool)
 | 0, _, _ => none
 | k + 1, x0, x3 => if x3 < (x0.size : Int) then (if 0 <= x3 then ((impl_isSmall.f (bt x0 x3)).bind fun t287 => (if t287 = true then (impl_SmallName.l0 k x0 (wrap64 (x3 + 1))) else (if x3 = 0 then (some false) else ((impl_isDigit.f (bt x0 x3)).bind fun t288 => (if t288 = true then (impl_SmallName.l0 k x0 (wrap64 (x3 + 1))) else (if (bt x0 x3) = 45 then (impl_SmallName.l0 k x0 (wrap64 (x3 + 1))) else (some false))))))) else (none)) else ((impl_in.f (x0.size : Int) 1 20).bind fun t286 => (some t286))
def impl_SmallName.f (k : Nat) (a0 : ByteArray) : Option (Bool) := impl_SmallName.l0 k a0 0
theorem impl_SmallName.calls (k : Nat) (a0 : ByteArray) (r : Bool) (w : World) (h : impl_SmallName.f k a0 = some r) :
 Calls Try.prog 124 #[.string a0] w fun e w' => e = .returned (.bool r) /\ Drawn0 w w' := by
 have H : (impl_SmallName.l0 k a0 0) = some r := h
 clear h
 have H' := A_ H
 clear H
 go_enter Try.func124, Try.ntmps124
 go_wp2
 go_loopg [3] k (fun kq v3 w' => ∃ (x3_1 : Int), v3 = .int .i64 x3_1 /\ Aside0 (impl_SmallName.l0 kq a0 x3_1 = some r) /\ Aside0 (kq <= k) /\ Drawn0 w w')
 case atStart => exact ⟨(0), rs_, H', ⟨Nat.le_refl _⟩, dr_⟩
 case round =>
  clear H'
  obtain ⟨x3_1, rfl, HA, HK1, ⟨m1, rfl⟩⟩ := hrel
  cases gk with
  | zero => exact absurd HA.out (by simp [impl_SmallName.l0])
  | succ k1 =>
   have H := HA.out
   clear HA
   simp only [impl_SmallName.l0] at H
   by_cases c2 : x3_1 < (a0.size : Int)
   rotate_left
   . rw [if_neg c2] at H
     have c2b0 := decide_eq_false c2
     clear c2
     obtain ⟨t14, A13, H⟩ := bo_ H
     (try dsimp only at H)
     obtain rfl := si_ H
     go_wp2_with (first | ((with_reducible refine gc_ (f := 109) rfl ?_); refine gL_ (some 34) Try.func109 #[.int .i64 (a0.size : Int), .int .i64 1, .int .i64 20] ?_; (with_reducible refine (impl_in.calls (a0.size : Int) 1 20 t14 _ A13.out).mono ?_); rintro e w' ⟨rfl, ⟨nd, rfl⟩⟩; refine ⟨_, rfl, ?_⟩))
     go_ret
     exact ⟨rs_, dr_⟩
   rw [if_pos c2] at H
   have c2b0 := decide_eq_true c2
   clear c2
   by_cases c3 : 0 <= x3_1
   rotate_left
   . exact absurd H (by rw [if_neg c3]; simp)
   rw [if_pos c3] at H
   have c3b0 := decide_eq_true c3
   clear c3
   obtain ⟨t15, A5, H⟩ := bo_ H
   (try dsimp only at H)
   by_cases c6 : t15 = true
   . subst c6
     rw [if_pos rfl] at H
     have H' := A_ H
     clear H
     have p4 : 0 <= (x3_1 : Int) := od_
     have q4 : x3_1 < (a0.size : Int) := od_
     have hx4 := bt_at a0 x3_1
     replace p4 := eq_true p4
     replace q4 := eq_true q4
     go_wp2_with (first | ((with_reducible refine gc_ (f := 133) rfl ?_); refine gL_ (some 13) Try.func133 #[.int .u8 (bt a0 x3_1)] ?_; (with_reducible refine (impl_isSmall.calls (bt a0 x3_1) true _ A5.out).mono ?_); rintro e w' ⟨rfl, ⟨nd, rfl⟩⟩; refine ⟨_, rfl, ?_⟩))
     go_roundg k1
     case measure => have := HK1.out; omega
     case rel => exact ⟨(wrap64 (x3_1 + 1)), rs_, H', ⟨by have := HK1.out; omega⟩, dr_⟩
   . replace c6 := Bool.eq_false_iff.mpr c6
     subst c6
     rw [if_neg nf_] at H
     by_cases c7 : x3_1 = 0
     . rw [if_pos c7] at H
       obtain ⟨c7b0, c7b1⟩ := eT_ c7
       clear c7
       obtain rfl := si_ H
       have p4 : 0 <= (x3_1 : Int) := od_
       have q4 : x3_1 < (a0.size : Int) := od_
       have hx4 := bt_at a0 x3_1
       replace p4 := eq_true p4
       replace q4 := eq_true q4
       go_wp2_with (first | ((with_reducible refine gc_ (f := 133) rfl ?_); refine gL_ (some 13) Try.func133 #[.int .u8 (bt a0 x3_1)] ?_; (with_reducible refine (impl_isSmall.calls (bt a0 x3_1) false _ A5.out).mono ?_); rintro e w' ⟨rfl, ⟨nd, rfl⟩⟩; refine ⟨_, rfl, ?_⟩))
       go_ret
       exact ⟨rs_, dr_⟩
     rw [if_neg c7] at H
     obtain ⟨c7b0, c7b1⟩ := eF_ c7
     obtain ⟨t16, A9, H⟩ := bo_ H
     (try dsimp only at H)
     by_cases c10 : t16 = true
     . subst c10
       rw [if_pos rfl] at H
       have H' := A_ H
       clear H
       have p4 : 0 <= (x3_1 : Int) := od_
       have q4 : x3_1 < (a0.size : Int) := od_
       have hx4 := bt_at a0 x3_1
       replace p4 := eq_true p4
       replace q4 := eq_true q4
       go_wp2_with (first | ((with_reducible refine gc_ (f := 133) rfl ?_); refine gL_ (some 13) Try.func133 #[.int .u8 (bt a0 x3_1)] ?_; (with_reducible refine (impl_isSmall.calls (bt a0 x3_1) false _ A5.out).mono ?_); rintro e w' ⟨rfl, ⟨nd, rfl⟩⟩; refine ⟨_, rfl, ?_⟩; have p8 : 0 <= (x3_1 : Int) := od_; have q8 : x3_1 < (a0.size : Int) := od_; have hx8 := bt_at a0 x3_1; replace p8 := eq_true p8; replace q8 := eq_true q8) | (go_at_call 134; (with_reducible refine (impl_isDigit.calls (bt a0 x3_1) true _ A9.out).mono ?_); rintro e w' ⟨rfl, ⟨nd, rfl⟩⟩))
       go_roundg k1
       case measure => have := HK1.out; omega
       case rel => exact ⟨(wrap64 (x3_1 + 1)), rs_, H', ⟨by have := HK1.out; omega⟩, dr_⟩
     . replace c10 := Bool.eq_false_iff.mpr c10
       subst c10
       rw [if_neg nf_] at H
       by_cases c12 : (bt a0 x3_1) = 45
       rotate_left
       . rw [if_neg c12] at H
         obtain ⟨c12b0, c12b1⟩ := eF_ c12
         obtain rfl := si_ H
         have p4 : 0 <= (x3_1 : Int) := od_
         have q4 : x3_1 < (a0.size : Int) := od_
         have hx4 := bt_at a0 x3_1
         replace p4 := eq_true p4
         replace q4 := eq_true q4
         go_wp2_with (first | ((with_reducible refine gc_ (f := 133) rfl ?_); refine gL_ (some 13) Try.func133 #[.int .u8 (bt a0 x3_1)] ?_; (with_reducible refine (impl_isSmall.calls (bt a0 x3_1) false _ A5.out).mono ?_); rintro e w' ⟨rfl, ⟨nd, rfl⟩⟩; refine ⟨_, rfl, ?_⟩; have p8 : 0 <= (x3_1 : Int) := od_; have q8 : x3_1 < (a0.size : Int) := od_; have hx8 := bt_at a0 x3_1; replace p8 := eq_true p8; replace q8 := eq_true q8) | (go_at_call 134; (with_reducible refine (impl_isDigit.calls (bt a0 x3_1) false _ A9.out).mono ?_); rintro e w' ⟨rfl, ⟨nd, rfl⟩⟩; have p11 : 0 <= (x3_1 : Int) := od_; have q11 : x3_1 < (a0.size : Int) := od_; have hx11 := bt_at a0 x3_1; replace p11 := eq_true p11; replace q11 := eq_true q11))
         go_ret
         exact ⟨rs_, dr_⟩
       rw [if_pos c12] at H
       obtain ⟨c12b0, c12b1⟩ := eT_ c12
       clear c12
       have H' := A_ H
       clear H
       have p4 : 0 <= (x3_1 : Int) := od_
       have q4 : x3_1 < (a0.size : Int) := od_
       have hx4 := bt_at a0 x3_1
       replace p4 := eq_true p4
       replace q4 := eq_true q4
       go_wp2_with (first | ((with_reducible refine gc_ (f := 133) rfl ?_); refine gL_ (some 13) Try.func133 #[.int .u8 (bt a0 x3_1)] ?_; (with_reducible refine (impl_isSmall.calls (bt a0 x3_1) false _ A5.out).mono ?_); rintro e w' ⟨rfl, ⟨nd, rfl⟩⟩; refine ⟨_, rfl, ?_⟩; have p8 : 0 <= (x3_1 : Int) := od_; have q8 : x3_1 < (a0.size : Int) := od_; have hx8 := bt_at a0 x3_1; replace p8 := eq_true p8; replace q8 := eq_true q8) | (go_at_call 134; (with_reducible refine (impl_isDigit.calls (bt a0 x3_1) false _ A9.out).mono ?_); rintro e w' ⟨rfl, ⟨nd, rfl⟩⟩; have p11 : 0 <= (x3_1 : Int) := od_; have q11 : x3_1 < (a0.size : Int) := od_; have hx11 := bt_at a0 x3_1; replace p11 := eq_true p11; replace q11 := eq_true q11))
       go_roundg k1
       case measure => have := HK1.out; omega
       case rel => exact ⟨(wrap64 (x3_1 + 1)), rs_, H', ⟨by have := HK1.out; omega⟩, dr_⟩
def impl_propOk.f (k : Nat) (a0_0 : ByteArray) (a0_1 : ByteArray) (a0_2 : ByteArray) : Option (Bool) := if (a0_0.size : Int) <= 20 then ((impl_Plain.f k a0_0).bind fun t290 => (if t290 = true then ((impl_SmallName.f k a0_1).bind fun t291 => (if t291 = true then (if (a0_2.size : Int) <= 20 then ((impl_Plain.f k a0_2).bind fun t292 => (some t292)) else (some false)) else (some false))) else (some false))) else (some false)
theorem impl_propOk.calls (k : Nat) (a0_0 : ByteArray) (a0_1 : ByteArray) (a0_2 : ByteArray) (r : Bool) (w : World) (h : impl_propOk.f k a0_0 a0_1 a0_2 = some r) :
 Calls Try.prog 93 #[.agg #[.string a0_0, .string a0_1, .string a0_2]] w fun e w' => e = .returned (.bool r) /\ Below w.heap.size w w' := by
 have hu72 := Try.underlying72
 have HB := A_ (Below.refl w.heap.size w)
 have H : (if (a0_0.size : Int) <= 20 then ((impl_Plain.f k a0_0).bind fun t19 => (if t19 = true then ((impl_SmallName.f k a0_1).bind fun t20 => (if t20 = true then (if (a0_2.size : Int) <= 20 then ((impl_Plain.f k a0_2).bind fun t21 => (some t21)) else (some false)) else (some false))) else (some false))) else (some false)) = some r := h
 clear h
 by_cases c2 : (a0_0.size : Int) <= 20
 rotate_left
 . rw [if_neg c2] at H
   have c2b0 := decide_eq_false c2
   have c2b1 : decide (a0_0.size <= 20) = false := decide_eq_false (by omega)
   clear c2
   obtain rfl := si_ H
   go_enter Try.func93, Try.ntmps93
   go_wp2_with (first | ((with_reducible refine gd_ (N := 1) rfl ?_); (try (refine gate_guard (by rfl) ?_; dsimp only)); refine bx_ (N := 1) (cs := #[.string a0_0, .string a0_1, .string a0_2]) (t := 72) ?_; intro gb1 hg w17 hbox hb; have BK1 := A_ (hbox); have GW1 := A_ (ge_ hg bB_ : w.heap.size <= gb1); have GE1 := A_ (ge_ hg bB_ : w.heap.size <= gb1); replace HB := A_ (below_step bB_ hb); clear hb hbox hg; obtain ⟨hcz18_0, hcz18_1, hcz18_2, hfz18_0, hfz18_1, hfz18_2⟩ := cz3_ BK1.out))
   go_ret
   exact ⟨rr_, bG_ GE1.out⟩
 rw [if_pos c2] at H
 have c2b0 := decide_eq_true c2
 have c2b1 : decide (a0_0.size <= 20) = true := decide_eq_true (by omega)
 clear c2
 obtain ⟨t19, A3, H⟩ := bo_ H
 (try dsimp only at H)
 by_cases c4 : t19 = true
 . subst c4
   rw [if_pos rfl] at H
   obtain ⟨t20, A5, H⟩ := bo_ H
   (try dsimp only at H)
   by_cases c6 : t20 = true
   . subst c6
     rw [if_pos rfl] at H
     by_cases c7 : (a0_2.size : Int) <= 20
     rotate_left
     . rw [if_neg c7] at H
       have c7b0 := decide_eq_false c7
       have c7b1 : decide (a0_2.size <= 20) = false := decide_eq_false (by omega)
       clear c7
       obtain rfl := si_ H
       go_enter Try.func93, Try.ntmps93
       go_wp2_with (first | ((with_reducible refine gd_ (N := 1) rfl ?_); (try (refine gate_guard (by rfl) ?_; dsimp only)); refine bx_ (N := 1) (cs := #[.string a0_0, .string a0_1, .string a0_2]) (t := 72) ?_; intro gb1 hg w11 hbox hb; have BK1 := A_ (hbox); have GW1 := A_ (ge_ hg bB_ : w.heap.size <= gb1); have GE1 := A_ (ge_ hg bB_ : w.heap.size <= gb1); replace HB := A_ (below_step bB_ hb); clear hb hbox hg; obtain ⟨hcz12_0, hcz12_1, hcz12_2, hfz12_0, hfz12_1, hfz12_2⟩ := cz3_ BK1.out) | (go_at_call 123; (with_reducible refine (impl_Plain.calls k a0_0 true _ A3.out).mono ?_); rintro e w' ⟨rfl, ⟨nd, rfl⟩⟩) | (go_at_call 124; (with_reducible refine (impl_SmallName.calls k a0_1 true _ A5.out).mono ?_); rintro e w' ⟨rfl, ⟨nd, rfl⟩⟩))
       go_ret
       exact ⟨rr_, bG_ GE1.out⟩
     rw [if_pos c7] at H
     have c7b0 := decide_eq_true c7
     have c7b1 : decide (a0_2.size <= 20) = true := decide_eq_true (by omega)
     clear c7
     obtain ⟨t21, A8, H⟩ := bo_ H
     (try dsimp only at H)
     obtain rfl := si_ H
     go_enter Try.func93, Try.ntmps93
     go_wp2_with (first | ((with_reducible refine gd_ (N := 1) rfl ?_); (try (refine gate_guard (by rfl) ?_; dsimp only)); refine bx_ (N := 1) (cs := #[.string a0_0, .string a0_1, .string a0_2]) (t := 72) ?_; intro gb1 hg w9 hbox hb; have BK1 := A_ (hbox); have GW1 := A_ (ge_ hg bB_ : w.heap.size <= gb1); have GE1 := A_ (ge_ hg bB_ : w.heap.size <= gb1); replace HB := A_ (below_step bB_ hb); clear hb hbox hg; obtain ⟨hcz10_0, hcz10_1, hcz10_2, hfz10_0, hfz10_1, hfz10_2⟩ := cz3_ BK1.out) | (go_at_call 123; (with_reducible refine (impl_Plain.calls k a0_0 true _ A3.out).mono ?_); rintro e w' ⟨rfl, ⟨nd, rfl⟩⟩) | (go_at_call 124; (with_reducible refine (impl_SmallName.calls k a0_1 true _ A5.out).mono ?_); rintro e w' ⟨rfl, ⟨nd, rfl⟩⟩) | (go_at_call 123; (with_reducible refine (impl_Plain.calls k a0_2 t21 _ A8.out).mono ?_); rintro e w' ⟨rfl, ⟨nd, rfl⟩⟩))
     go_ret
     exact ⟨rr_, bG_ GE1.out⟩
   . replace c6 := Bool.eq_false_iff.mpr c6
     subst c6
     rw [if_neg nf_] at H
     obtain rfl := si_ H
     go_enter Try.func93, Try.ntmps93
     go_wp2_with (first | ((with_reducible refine gd_ (N := 1) rfl ?_); (try (refine gate_guard (by rfl) ?_; dsimp only)); refine bx_ (N := 1) (cs := #[.string a0_0, .string a0_1, .string a0_2]) (t := 72) ?_; intro gb1 hg w13 hbox hb; have BK1 := A_ (hbox); have GW1 := A_ (ge_ hg bB_ : w.heap.size <= gb1); have GE1 := A_ (ge_ hg bB_ : w.heap.size <= gb1); replace HB := A_ (below_step bB_ hb); clear hb hbox hg; obtain ⟨hcz14_0, hcz14_1, hcz14_2, hfz14_0, hfz14_1, hfz14_2⟩ := cz3_ BK1.out) | (go_at_call 123; (with_reducible refine (impl_Plain.calls k a0_0 true _ A3.out).mono ?_); rintro e w' ⟨rfl, ⟨nd, rfl⟩⟩) | (go_at_call 124; (with_reducible refine (impl_SmallName.calls k a0_1 false _ A5.out).mono ?_); rintro e w' ⟨rfl, ⟨nd, rfl⟩⟩))
     go_ret
     exact ⟨rr_, bG_ GE1.out⟩
 . replace c4 := Bool.eq_false_iff.mpr c4
   subst c4
   rw [if_neg nf_] at H
   obtain rfl := si_ H
   go_enter Try.func93, Try.ntmps93
   go_wp2_with (first | ((with_reducible refine gd_ (N := 1) rfl ?_); (try (refine gate_guard (by rfl) ?_; dsimp only)); refine bx_ (N := 1) (cs := #[.string a0_0, .string a0_1, .string a0_2]) (t := 72) ?_; intro gb1 hg w15 hbox hb; have BK1 := A_ (hbox); have GW1 := A_ (ge_ hg bB_ : w.heap.size <= gb1); have GE1 := A_ (ge_ hg bB_ : w.heap.size <= gb1); replace HB := A_ (below_step bB_ hb); clear hb hbox hg; obtain ⟨hcz16_0, hcz16_1, hcz16_2, hfz16_0, hfz16_1, hfz16_2⟩ := cz3_ BK1.out) | (go_at_call 123; (with_reducible refine (impl_Plain.calls k a0_0 false _ A3.out).mono ?_); rintro e w' ⟨rfl, ⟨nd, rfl⟩⟩))
   go_ret
   exact ⟨rr_, bG_ GE1.out⟩
def impl_lessProp.f (a0_0 : ByteArray) (a0_1 : ByteArray) (a0_2 : ByteArray) (a1_0 : ByteArray) (a1_1 : ByteArray) (a1_2 : ByteArray) : Option (Bool) := if (Op.bytesLess a0_0.toList a1_0.toList) = true then (some true) else (if a0_0.toList = a1_0.toList then (some (Op.bytesLess a0_1.toList a1_1.toList)) else (some false))
theorem impl_lessProp.calls (a0_0 : ByteArray) (a0_1 : ByteArray) (a0_2 : ByteArray) (a1_0 : ByteArray) (a1_1 : ByteArray) (a1_2 : ByteArray) (r : Bool) (w : World) (h : impl_lessProp.f a0_0 a0_1 a0_2 a1_0 a1_1 a1_2 = some r) :
 Calls Try.prog 100 #[.agg #[.string a0_0, .string a0_1, .string a0_2], .agg #[.string a1_0, .string a1_1, .string a1_2]] w fun e w' => e = .returned (.bool r) /\ Below w.heap.size w w' := by
 have hu72 := Try.underlying72
 have HB := A_ (Below.refl w.heap.size w)
 have H : (if (Op.bytesLess a0_0.toList a1_0.toList) = true then (some true) else (if a0_0.toList = a1_0.toList then (some (Op.bytesLess a0_1.toList a1_1.toList)) else (some false))) = some r := h
 clear h
 by_cases c3 : (Op.bytesLess a0_0.toList a1_0.toList) = true
 . rw [if_pos c3] at H
   have c3b0 : (Op.bytesLess a0_0.toList a1_0.toList) = true := c3
   clear c3
   obtain rfl := si_ H
   go_enter Try.func100, Try.ntmps100
   go_wp2_with (first | ((with_reducible refine gd_ (N := 2) rfl ?_); refine bx_ (N := 2) (cs := #[.string a0_0, .string a0_1, .string a0_2]) (t := 72) ?_; intro gb2 hg w4 hbox hb; have BK2 := A_ (hbox); have GW2 := A_ (ge_ hg bB_ : w.heap.size <= gb2); have GE2 := A_ (ge_ hg bB_ : w.heap.size <= gb2); replace HB := A_ (below_step bB_ hb); clear hb hbox hg) | ((with_reducible refine gd_ (N := 3) rfl ?_); refine bx_ (N := 3) (cs := #[.string a1_0, .string a1_1, .string a1_2]) (t := 72) ?_; intro gb20 hg w5 hbox hb; have BK20 := A_ (hbox); have GW20 := A_ (ge_ hg (bG_ GE2.out) : w.heap.size <= gb20); have GE20 := A_ (ge_ hg (bG_ GE2.out) : w.heap.size <= gb20); replace HB := A_ (below_step (bG_ GE2.out) hb); have NB293_294 := A_ (gm_ hg BK2.out); have NB294_293 := A_ (gn_ hg BK2.out); replace BK2 := A_ (bw_ BK2.out hb); clear hb hbox hg; have hnb6 := NB293_294.out; have hnc6 := NB294_293.out; obtain ⟨hcz7_0, hcz7_1, hcz7_2, hfz7_0, hfz7_1, hfz7_2⟩ := cz3_ BK2.out; obtain ⟨hcz8_0, hcz8_1, hcz8_2, hfz8_0, hfz8_1, hfz8_2⟩ := cz3_ BK20.out))
   go_ret
   exact ⟨rr_, by repeat (first | (with_reducible first | exact HB.out | apply below_alloc | apply pw_below_drewN | apply below_drew1 | refine below_set ?_ GE2.out | refine below_set ?_ GE20.out) | exact HB.out)⟩
 rw [if_neg c3] at H
 have c3b0 : (Op.bytesLess a0_0.toList a1_0.toList) = false := by simpa using c3
 clear c3
 by_cases c9 : a0_0.toList = a1_0.toList
 rotate_left
 . rw [if_neg c9] at H
   obtain ⟨c9b0, c9b1⟩ := eF_ c9
   obtain rfl := si_ H
   go_enter Try.func100, Try.ntmps100
   go_wp2_with (first | ((with_reducible refine gd_ (N := 2) rfl ?_); refine bx_ (N := 2) (cs := #[.string a0_0, .string a0_1, .string a0_2]) (t := 72) ?_; intro gb2 hg w15 hbox hb; have BK2 := A_ (hbox); have GW2 := A_ (ge_ hg bB_ : w.heap.size <= gb2); have GE2 := A_ (ge_ hg bB_ : w.heap.size <= gb2); replace HB := A_ (below_step bB_ hb); clear hb hbox hg) | ((with_reducible refine gd_ (N := 3) rfl ?_); refine bx_ (N := 3) (cs := #[.string a1_0, .string a1_1, .string a1_2]) (t := 72) ?_; intro gb20 hg w16 hbox hb; have BK20 := A_ (hbox); have GW20 := A_ (ge_ hg (bG_ GE2.out) : w.heap.size <= gb20); have GE20 := A_ (ge_ hg (bG_ GE2.out) : w.heap.size <= gb20); replace HB := A_ (below_step (bG_ GE2.out) hb); have NB293_294 := A_ (gm_ hg BK2.out); have NB294_293 := A_ (gn_ hg BK2.out); replace BK2 := A_ (bw_ BK2.out hb); clear hb hbox hg; have hnb17 := NB293_294.out; have hnc17 := NB294_293.out; obtain ⟨hcz18_0, hcz18_1, hcz18_2, hfz18_0, hfz18_1, hfz18_2⟩ := cz3_ BK2.out; obtain ⟨hcz19_0, hcz19_1, hcz19_2, hfz19_0, hfz19_1, hfz19_2⟩ := cz3_ BK20.out))
   go_ret
   exact ⟨rr_, by repeat (first | (with_reducible first | exact HB.out | apply below_alloc | apply pw_below_drewN | apply below_drew1 | refine below_set ?_ GE2.out | refine below_set ?_ GE20.out) | exact HB.out)⟩
 rw [if_pos c9] at H
 obtain ⟨c9b0, c9b1⟩ := eT_ c9
 clear c9
 obtain rfl := si_ H
 go_enter Try.func100, Try.ntmps100
 go_wp2_with (first | ((with_reducible refine gd_ (N := 2) rfl ?_); refine bx_ (N := 2) (cs := #[.string a0_0, .string a0_1, .string a0_2]) (t := 72) ?_; intro gb2 hg w10 hbox hb; have BK2 := A_ (hbox); have GW2 := A_ (ge_ hg bB_ : w.heap.size <= gb2); have GE2 := A_ (ge_ hg bB_ : w.heap.size <= gb2); replace HB := A_ (below_step bB_ hb); clear hb hbox hg) | ((with_reducible refine gd_ (N := 3) rfl ?_); refine bx_ (N := 3) (cs := #[.string a1_0, .string a1_1, .string a1_2]) (t := 72) ?_; intro gb20 hg w11 hbox hb; have BK20 := A_ (hbox); have GW20 := A_ (ge_ hg (bG_ GE2.out) : w.heap.size <= gb20); have GE20 := A_ (ge_ hg (bG_ GE2.out) : w.heap.size <= gb20); replace HB := A_ (below_step (bG_ GE2.out) hb); have NB293_294 := A_ (gm_ hg BK2.out); have NB294_293 := A_ (gn_ hg BK2.out); replace BK2 := A_ (bw_ BK2.out hb); clear hb hbox hg; have hnb12 := NB293_294.out; have hnc12 := NB294_293.out; obtain ⟨hcz13_0, hcz13_1, hcz13_2, hfz13_0, hfz13_1, hfz13_2⟩ := cz3_ BK2.out; obtain ⟨hcz14_0, hcz14_1, hcz14_2, hfz14_0, hfz14_1, hfz14_2⟩ := cz3_ BK20.out))
 go_ret
 exact ⟨rr_, by repeat (first | (with_reducible first | exact HB.out | apply below_alloc | apply pw_below_drewN | apply below_drew1 | refine below_set ?_ GE2.out | refine below_set ?_ GE20.out) | exact HB.out)⟩
def impl_PropsOk.l0 : Nat -> List (S72) -> List (S72) -> Int -> Int -> Option (Bool)
 | 0, _, _, _, _ => none
 | k + 1, x0, x5, x6, x7 => if x7 < x6 then (if 0 <= x7 then (if x7 < (x5.length : Int) then ((impl_propOk.f k ((rd_T72 x5 x7).f0) ((rd_T72 x5 x7).f1) ((rd_T72 x5 x7).f2)).bind fun t297 => (if t297 = true then (if x7 > 0 then (if 0 <= (wrap64 (x7 - 1)) then (if (wrap64 (x7 - 1)) < (x0.length : Int) then ((impl_lessProp.f ((rd_T72 x0 (wrap64 (x7 - 1))).f0) ((rd_T72 x0 (wrap64 (x7 - 1))).f1) ((rd_T72 x0 (wrap64 (x7 - 1))).f2) ((rd_T72 x5 x7).f0) ((rd_T72 x5 x7).f1) ((rd_T72 x5 x7).f2)).bind fun t299 => (if t299 = true then (impl_PropsOk.l0 k x0 x5 x6 (wrap64 (x7 + 1))) else (some false))) else (none)) else (none)) else (impl_PropsOk.l0 k x0 x5 x6 (wrap64 (x7 + 1)))) else (some false))) else (none)) else (none)) else (some (decide ((x0.length : Int) <= 4)))
def impl_PropsOk.f (k : Nat) (l0 : List (S72)) : Option (Bool) := impl_PropsOk.l0 k l0 l0 (l0.length : Int) 0
def impl_PropsOk.T4 : Bool × List (List Nat × List Nat) := (true, [([], []), ([0], [0]), ([1], [1]), ([2, 1], [2]), ([3], [3]), ([4, 3], [3, 4]), ([5, 3, 3], [3, 5]), ([6], [6]), ([6], [6]), ([8, 6], [6, 8]), ([7, 9, 6], [6, 7, 9]), ([10, 6], [6, 10]), ([6], [6]), ([11, 12, 6, 6], [6, 11, 12]), ([13, 6], [6, 13]), ([6, 14, 3], [3, 6, 14]), ([3, 15], [3, 15])])
def impl_PropsOk.B4 : List Nat := [0, 1, 3, 7, 15, 31, 63, 127, 127, 383, 1023, 2047, 127, 8191, 16383, 32767, 65535]
theorem impl_PropsOk.tab4 : rtab .any (opsOf Try.f58 4) = impl_PropsOk.T4 := by kernel_rfl
theorem impl_PropsOk.bits4 : waitsOk impl_PropsOk.T4.2 impl_PropsOk.B4 = true := by kernel_rfl
set_option maxHeartbeats 8000000 in
set_option maxRecDepth 100000 in
theorem impl_PropsOk.calls (k : Nat) (A0 : Option Addr) (c0 : Nat) (l0 : List (S72)) (r : Bool) (w : World) (hr0 : Kd.C k72 w A0 l0.length l0) (hc0 : l0.length <= c0) (h : impl_PropsOk.f k l0 = some r) :
 Calls Try.prog 58 #[.slice A0 l0.length c0] w fun e w' => e = .returned (.bool r) /\ Below w.heap.size w w' := by
 have hu72 := Try.underlying72
 have HR0 := A_ hr0
 clear hr0 hc0
 have HB := A_ (Below.refl w.heap.size w)
 have H : (impl_PropsOk.l0 k l0 l0 (l0.length : Int) 0) = some r := h
 clear h
 have H' := A_ H
 clear H
 go_enter Try.func58, Try.ntmps58
 go_wp2
 go_loopg [7] k (fun kq v7 w' => ∃ (x7_1 : Int), v7 = .int .i64 x7_1 /\ Aside0 (impl_PropsOk.l0 kq l0 l0 (l0.length : Int) x7_1 = some r) /\ Aside0 (kq <= k) /\ Aside0 (Below w.heap.size w w'))
 case atStart => exact ⟨(0), rs_, H', ⟨Nat.le_refl _⟩, ⟨bB_⟩⟩
 case round =>
  clear H'
  obtain ⟨x7_1, rfl, HA, HK1, HB⟩ := hrel
  cases gk with
  | zero => exact absurd HA.out (by simp [impl_PropsOk.l0])
  | succ k1 =>
   have H := HA.out
   clear HA
   simp only [impl_PropsOk.l0] at H
   by_cases c2 : x7_1 < (l0.length : Int)
   rotate_left
   . rw [if_neg c2] at H
     have c2b0 := decide_eq_false c2
     clear c2
     obtain rfl := si_ H
     go_wp2
     go_ret
     exact ⟨rr_, bB_⟩
   rw [if_pos c2] at H
   have c2b0 := decide_eq_true c2
   clear c2
   by_cases c3 : 0 <= x7_1
   rotate_left
   . exact absurd H (by rw [if_neg c3]; simp)
   rw [if_pos c3] at H
   have c3b0 := decide_eq_true c3
   clear c3
   by_cases c4 : x7_1 < (l0.length : Int)
   rotate_left
   . exact absurd H (by rw [if_neg c4]; simp)
   rw [if_pos c4] at H
   have c4b0 := decide_eq_true c4
   clear c4
   obtain ⟨t39, A5, H⟩ := bo_ H
   (try dsimp only at H)
   by_cases c6 : t39 = true
   . subst c6
     rw [if_pos rfl] at H
     by_cases c7 : x7_1 > 0
     rotate_left
     . rw [if_neg c7] at H
       have c7b0 : decide (0 < x7_1) = false := decide_eq_false c7
       clear c7
       have H' := A_ H
       clear H
       have p36 : 0 <= (x7_1 : Int) := od_
       have q36 : x7_1 < (l0.length : Int) := od_
       obtain ⟨ad36, e36, hx36_0, hx36_1, hx36_2⟩ := at_T72 HR0.out x7_1 p36 q36
       cases e36
       replace hx36_0 := bc_ HB.out hx36_0
       replace hx36_1 := bc_ HB.out hx36_1
       replace hx36_2 := bc_ HB.out hx36_2
       replace p36 := eq_true p36
       replace q36 := eq_true q36
       try go_wp2_with (first | ((with_reducible refine gd_ (N := 4) rfl ?_); refine bx_ (N := 4) (cs := #[.string (⟨#[]⟩ : ByteArray), .string (⟨#[]⟩ : ByteArray), .string (⟨#[]⟩ : ByteArray)]) (t := 72) ?_; intro gb35 hg w25 hbox hb; have BK35 := A_ (hbox); have GW35 := A_ (ge_ hg bB_ : w.heap.size <= gb35); have GE35 := A_ (ge_ hg bB_ : w.heap.size <= gb35); replace HB := A_ (below_step bB_ hb); clear hb hbox hg; obtain ⟨hcz26_0, hcz26_1, hcz26_2, hfz26_0, hfz26_1, hfz26_2⟩ := cz3_ BK35.out))
       obtain ⟨w27, hW_⟩ : ∃ w_, w_ = (((w25.setCell ⟨gb35, 0, none⟩ (.string ((rd_T72 l0 x7_1).f0))).setCell ⟨gb35, 1, none⟩ (.string ((rd_T72 l0 x7_1).f1))).setCell ⟨gb35, 2, none⟩ (.string ((rd_T72 l0 x7_1).f2))) := ⟨_, rfl⟩
       have n0_ : Aside0 (w27.heap[gb35]? = some (.cells #[.string ((rd_T72 l0 x7_1).f0), .string ((rd_T72 l0 x7_1).f1), .string ((rd_T72 l0 x7_1).f2)] 72 (0, 0))) := ⟨by rw [hW_]; (with_reducible repeat (first | refine blk_drewN ?_ _ | refine blk_drew ?_ | refine blk_alloc ?_ _)); with_reducible exact p3_012_ (vb_ BK35.out)⟩
       have n1_ : Aside0 (Below w.heap.size w w27) := ⟨by rw [hW_]; exact bG_ GE35.out⟩
       (try clear BK35)
       (try clear HB)
       rw [← hW_]
       clear hW_
       have BK35 := n0_
       have HB := n1_
       clear n0_ n1_
       replace BK35 := A_ (blk_drew BK35.out)
       replace HB := A_ (below_drew1 HB.out)
       refine st3_ (n := 17) (ds := []) (bl_ BK35.out 0) (bl_ BK35.out 1) (bl_ BK35.out 2) (fun hHeld => ?_); refine with_tabW impl_PropsOk.tab4 impl_PropsOk.bits4 (fun HT_ HW_ => ?_)
       generalize w27.drew = w28 at BK35 HB hHeld ⊢
       refine tk_ (i := 0) (N := some 12) hHeld ?_
       refine on_ (i := 1) (N := some 13) (fun K hK => ?_)
       refine goes_ Try.func93 (by kernel_rfl) rfl #[.agg #[.string ((rd_T72 l0 x7_1).f0), .string ((rd_T72 l0 x7_1).f1), .string ((rd_T72 l0 x7_1).f2)]] (by rfl) rfl rfl ml_ ?_
       with_reducible refine (impl_propOk.calls k1 ((rd_T72 l0 x7_1).f0) ((rd_T72 l0 x7_1).f1) ((rd_T72 l0 x7_1).f2) true _ A5.out).mono ?_
       rintro e w29 ⟨rfl, hb⟩
       refine ⟨_, rfl, ?_⟩
       replace BK35 := A_ (bw_ BK35.out hb)
       replace HB := A_ (below_step (bG_ GE35.out) hb)
       clear hb
       refine hK.out _ _ (hl_ BK35.out) (fun hHeld => ?_)
       clear hK K
       refine no_ (some 13) ?_
       refine pu_ (i := 2) (N := some 14) ?_
       refine pu_ (i := 3) (N := some 15) ?_
       refine pu_ (i := 4) (N := some 16) ?_
       refine pu_ (i := 5) (N := some 17) ?_
       refine pu_ (i := 6) (N := some 18) ?_
       refine pn_ (i := 7) (N := some 19) ?_
       refine pn_ (i := 8) (N := some 20) ?_
       refine pn_ (i := 9) (N := some 21) ?_
       refine pn_ (i := 10) (N := some 22) ?_
       refine pn_ (i := 11) (N := some 23) ?_
       refine pn_ (i := 12) (N := some 24) ?_
       refine pn_ (i := 13) (N := some 25) ?_
       refine pn_ (i := 14) (N := some 26) ?_
       refine pu_ (i := 15) (N := some 27) ?_
       refine pu_ (i := 16) (N := some 28) ?_
       refine done_ (done_of HT_.out (by kernel_rfl)) ?_
       (try clear hHeld)
       try go_wp2
       go_roundg k1
       case measure => have := HK1.out; omega
       case rel => exact ⟨(wrap64 (x7_1 + 1)), rs_, H', ⟨by have := HK1.out; omega⟩, ⟨bG_ GE35.out⟩⟩
     rw [if_pos c7] at H
     have c7b0 : decide (0 < x7_1) = true := decide_eq_true c7
     clear c7
     obtain ⟨ji8, hji8⟩ : ∃ j_ : Int, (wrap64 (x7_1 - 1)) = j_ := ⟨_, rfl⟩
     replace H : (if 0 <= (ji8) then (if (ji8) < (l0.length : Int) then ((impl_lessProp.f ((rd_T72 l0 (ji8)).f0) ((rd_T72 l0 (ji8)).f1) ((rd_T72 l0 (ji8)).f2) ((rd_T72 l0 x7_1).f0) ((rd_T72 l0 x7_1).f1) ((rd_T72 l0 x7_1).f2)).bind fun t38 => (if t38 = true then (impl_PropsOk.l0 k1 l0 l0 (l0.length : Int) (wrap64 (x7_1 + 1))) else (some false))) else (none)) else (none)) = some r := by first | (rw [hji8] at H; exact H) | (simp only [hji8] at H ⊢; exact H)
     (try rw [hji8] at A5)
     have hji8w : (IntKind.i64.wrap (x7_1 - 1)) = ji8 := (i64_w _).trans hji8
     by_cases c9 : 0 <= (ji8)
     rotate_left
     . exact absurd H (by rw [if_neg c9]; simp)
     rw [if_pos c9] at H
     have c9b0 := decide_eq_true c9
     clear c9
     by_cases c10 : (ji8) < (l0.length : Int)
     rotate_left
     . exact absurd H (by rw [if_neg c10]; simp)
     rw [if_pos c10] at H
     have c10b0 := decide_eq_true c10
     clear c10
     obtain ⟨t38, A11, H⟩ := bo_ H
     (try dsimp only at H)
     by_cases c12 : t38 = true
     . subst c12
       rw [if_pos rfl] at H
       have H' := A_ H
       clear H
       have p36 : 0 <= (x7_1 : Int) := od_
       have q36 : x7_1 < (l0.length : Int) := od_
       obtain ⟨ad36, e36, hx36_0, hx36_1, hx36_2⟩ := at_T72 HR0.out x7_1 p36 q36
       cases e36
       replace hx36_0 := bc_ HB.out hx36_0
       replace hx36_1 := bc_ HB.out hx36_1
       replace hx36_2 := bc_ HB.out hx36_2
       replace p36 := eq_true p36
       replace q36 := eq_true q36
       try go_wp2_with (first | ((with_reducible refine gd_ (N := 4) rfl ?_); refine bx_ (N := 4) (cs := #[.string (⟨#[]⟩ : ByteArray), .string (⟨#[]⟩ : ByteArray), .string (⟨#[]⟩ : ByteArray)]) (t := 72) ?_; intro gb35 hg w13 hbox hb; have BK35 := A_ (hbox); have GW35 := A_ (ge_ hg bB_ : w.heap.size <= gb35); have GE35 := A_ (ge_ hg bB_ : w.heap.size <= gb35); replace HB := A_ (below_step bB_ hb); clear hb hbox hg; obtain ⟨hcz14_0, hcz14_1, hcz14_2, hfz14_0, hfz14_1, hfz14_2⟩ := cz3_ BK35.out))
       obtain ⟨w15, hW_⟩ : ∃ w_, w_ = (((w13.setCell ⟨gb35, 0, none⟩ (.string ((rd_T72 l0 x7_1).f0))).setCell ⟨gb35, 1, none⟩ (.string ((rd_T72 l0 x7_1).f1))).setCell ⟨gb35, 2, none⟩ (.string ((rd_T72 l0 x7_1).f2))) := ⟨_, rfl⟩
       have n0_ : Aside0 (w15.heap[gb35]? = some (.cells #[.string ((rd_T72 l0 x7_1).f0), .string ((rd_T72 l0 x7_1).f1), .string ((rd_T72 l0 x7_1).f2)] 72 (0, 0))) := ⟨by rw [hW_]; (with_reducible repeat (first | refine blk_drewN ?_ _ | refine blk_drew ?_ | refine blk_alloc ?_ _)); with_reducible exact p3_012_ (vb_ BK35.out)⟩
       have n1_ : Aside0 (Below w.heap.size w w15) := ⟨by rw [hW_]; exact bG_ GE35.out⟩
       (try clear BK35)
       (try clear HB)
       rw [← hW_]
       clear hW_
       have BK35 := n0_
       have HB := n1_
       clear n0_ n1_
       replace BK35 := A_ (blk_drew BK35.out)
       replace HB := A_ (below_drew1 HB.out)
       have p37 : 0 <= ((ji8) : Int) := od_
       have q37 : (ji8) < (l0.length : Int) := od_
       obtain ⟨ad37, e37, hx37_0, hx37_1, hx37_2⟩ := at_T72 HR0.out (ji8) p37 q37
       have hw37_2 := hx37_2
       have hw37_1 := hx37_1
       have hw37_0 := hx37_0
       obtain rfl : ad36 = ad37 := (by injection e37)
       replace hx37_0 := bc_ HB.out hx37_0
       replace hx37_1 := bc_ HB.out hx37_1
       replace hx37_2 := bc_ HB.out hx37_2
       replace p37 := eq_true p37
       replace q37 := eq_true q37
       refine st6_ (n := 17) (ds := []) (bl_ BK35.out 0) (bl_ BK35.out 1) (bl_ BK35.out 2) (be_ hw37_0) (be_ hw37_1) (be_ hw37_2) (fun hHeld => ?_); refine with_tabW impl_PropsOk.tab4 impl_PropsOk.bits4 (fun HT_ HW_ => ?_)
       generalize w15.drew = w16 at BK35 HB hx37_0 hx37_1 hx37_2 hHeld ⊢
       refine tk_ (i := 0) (N := some 12) hHeld ?_
       refine on_ (i := 1) (N := some 13) (fun K hK => ?_)
       refine goes_ Try.func93 (by kernel_rfl) rfl #[.agg #[.string ((rd_T72 l0 x7_1).f0), .string ((rd_T72 l0 x7_1).f1), .string ((rd_T72 l0 x7_1).f2)]] (by rfl) rfl rfl ml_ ?_
       with_reducible refine (impl_propOk.calls k1 ((rd_T72 l0 x7_1).f0) ((rd_T72 l0 x7_1).f1) ((rd_T72 l0 x7_1).f2) true _ A5.out).mono ?_
       rintro e w17 ⟨rfl, hb⟩
       refine ⟨_, rfl, ?_⟩
       replace BK35 := A_ (bw_ BK35.out hb)
       replace HB := A_ (below_step (bG_ GE35.out) hb)
       clear hb
       refine hK.out _ _ ⟨bl_ BK35.out 0, bl_ BK35.out 1, bl_ BK35.out 2, (be_ hw37_0), (be_ hw37_1), (be_ hw37_2)⟩ (fun hHeld => ?_)
       clear hK K
       refine no_ (some 13) ?_
       refine pu_ (i := 2) (N := some 14) ?_
       refine pu_ (i := 3) (N := some 15) ?_
       refine pu_ (i := 4) (N := some 16) ?_
       refine pu_ (i := 5) (N := some 17) ?_
       refine pu_ (i := 6) (N := some 18) ?_
       refine pu_ (i := 7) (N := some 19) ?_
       refine pu_ (i := 8) (N := some 20) ?_
       refine pu_ (i := 9) (N := some 21) ?_
       refine pu_ (i := 10) (N := some 22) ?_
       refine tk_ (i := 11) (N := some 23) hHeld ?_
       refine tk_ (i := 12) (N := some 24) hHeld ?_
       refine on_ (i := 13) (N := some 25) (fun K hK => ?_)
       refine goes_ Try.func100 (by kernel_rfl) rfl #[.agg #[.string ((rd_T72 l0 (ji8)).f0), .string ((rd_T72 l0 (ji8)).f1), .string ((rd_T72 l0 (ji8)).f2)], .agg #[.string ((rd_T72 l0 x7_1).f0), .string ((rd_T72 l0 x7_1).f1), .string ((rd_T72 l0 x7_1).f2)]] (by rfl) rfl rfl (by (try simp only [List.map_toArray, List.map_cons, List.map_nil]); first | done | (simp only [hji8]; rfl) | rfl | (simp only [List.length_drop, List.length_take]; rfl)) ?_
       with_reducible refine (impl_lessProp.calls ((rd_T72 l0 (ji8)).f0) ((rd_T72 l0 (ji8)).f1) ((rd_T72 l0 (ji8)).f2) ((rd_T72 l0 x7_1).f0) ((rd_T72 l0 x7_1).f1) ((rd_T72 l0 x7_1).f2) true _ A11.out).mono ?_
       rintro e w18 ⟨rfl, hb⟩
       refine ⟨_, rfl, ?_⟩
       replace BK35 := A_ (bw_ BK35.out hb)
       replace HB := A_ (below_step (bG_ GE35.out) hb)
       clear hb
       refine hK.out _ _ ⟨bl_ BK35.out 0, bl_ BK35.out 1, bl_ BK35.out 2, (be_ hw37_0), (be_ hw37_1), (be_ hw37_2)⟩ (fun hHeld => ?_)
       clear hK K
       refine no_ (some 25) ?_
       refine pu_ (i := 14) (N := some 26) ?_
       refine pu_ (i := 15) (N := some 27) ?_
       refine pu_ (i := 16) (N := some 28) ?_
       refine done_ (done_of HT_.out (by kernel_rfl)) ?_
       (try clear hHeld)
       try go_wp2
       go_roundg k1
       case measure => have := HK1.out; omega
       case rel => exact ⟨(wrap64 (x7_1 + 1)), rs_, H', ⟨by have := HK1.out; omega⟩, ⟨bG_ GE35.out⟩⟩
     . replace c12 := Bool.eq_false_iff.mpr c12
       subst c12
       rw [if_neg nf_] at H
       obtain rfl := si_ H
       have p36 : 0 <= (x7_1 : Int) := od_
       have q36 : x7_1 < (l0.length : Int) := od_
       obtain ⟨ad36, e36, hx36_0, hx36_1, hx36_2⟩ := at_T72 HR0.out x7_1 p36 q36
       cases e36
       replace hx36_0 := bc_ HB.out hx36_0
       replace hx36_1 := bc_ HB.out hx36_1
       replace hx36_2 := bc_ HB.out hx36_2
       replace p36 := eq_true p36
       replace q36 := eq_true q36
       try go_wp2_with (first | ((with_reducible refine gd_ (N := 4) rfl ?_); refine bx_ (N := 4) (cs := #[.string (⟨#[]⟩ : ByteArray), .string (⟨#[]⟩ : ByteArray), .string (⟨#[]⟩ : ByteArray)]) (t := 72) ?_; intro gb35 hg w19 hbox hb; have BK35 := A_ (hbox); have GW35 := A_ (ge_ hg bB_ : w.heap.size <= gb35); have GE35 := A_ (ge_ hg bB_ : w.heap.size <= gb35); replace HB := A_ (below_step bB_ hb); clear hb hbox hg; obtain ⟨hcz20_0, hcz20_1, hcz20_2, hfz20_0, hfz20_1, hfz20_2⟩ := cz3_ BK35.out))
       obtain ⟨w21, hW_⟩ : ∃ w_, w_ = (((w19.setCell ⟨gb35, 0, none⟩ (.string ((rd_T72 l0 x7_1).f0))).setCell ⟨gb35, 1, none⟩ (.string ((rd_T72 l0 x7_1).f1))).setCell ⟨gb35, 2, none⟩ (.string ((rd_T72 l0 x7_1).f2))) := ⟨_, rfl⟩
       have n0_ : Aside0 (w21.heap[gb35]? = some (.cells #[.string ((rd_T72 l0 x7_1).f0), .string ((rd_T72 l0 x7_1).f1), .string ((rd_T72 l0 x7_1).f2)] 72 (0, 0))) := ⟨by rw [hW_]; (with_reducible repeat (first | refine blk_drewN ?_ _ | refine blk_drew ?_ | refine blk_alloc ?_ _)); with_reducible exact p3_012_ (vb_ BK35.out)⟩
       have n1_ : Aside0 (Below w.heap.size w w21) := ⟨by rw [hW_]; exact bG_ GE35.out⟩
       (try clear BK35)
       (try clear HB)
       rw [← hW_]
       clear hW_
       have BK35 := n0_
       have HB := n1_
       clear n0_ n1_
       replace BK35 := A_ (blk_drew BK35.out)
       replace HB := A_ (below_drew1 HB.out)
       have p37 : 0 <= ((ji8) : Int) := od_
       have q37 : (ji8) < (l0.length : Int) := od_
       obtain ⟨ad37, e37, hx37_0, hx37_1, hx37_2⟩ := at_T72 HR0.out (ji8) p37 q37
       have hw37_2 := hx37_2
       have hw37_1 := hx37_1
       have hw37_0 := hx37_0
       obtain rfl : ad36 = ad37 := (by injection e37)
       replace hx37_0 := bc_ HB.out hx37_0
       replace hx37_1 := bc_ HB.out hx37_1
       replace hx37_2 := bc_ HB.out hx37_2
       replace p37 := eq_true p37
       replace q37 := eq_true q37
       refine st6_ (n := 17) (ds := []) (bl_ BK35.out 0) (bl_ BK35.out 1) (bl_ BK35.out 2) (be_ hw37_0) (be_ hw37_1) (be_ hw37_2) (fun hHeld => ?_); refine with_tabW impl_PropsOk.tab4 impl_PropsOk.bits4 (fun HT_ HW_ => ?_)
       generalize w21.drew = w22 at BK35 HB hx37_0 hx37_1 hx37_2 hHeld ⊢
       refine tk_ (i := 0) (N := some 12) hHeld ?_
       refine on_ (i := 1) (N := some 13) (fun K hK => ?_)
       refine goes_ Try.func93 (by kernel_rfl) rfl #[.agg #[.string ((rd_T72 l0 x7_1).f0), .string ((rd_T72 l0 x7_1).f1), .string ((rd_T72 l0 x7_1).f2)]] (by rfl) rfl rfl ml_ ?_
       with_reducible refine (impl_propOk.calls k1 ((rd_T72 l0 x7_1).f0) ((rd_T72 l0 x7_1).f1) ((rd_T72 l0 x7_1).f2) true _ A5.out).mono ?_
       rintro e w23 ⟨rfl, hb⟩
       refine ⟨_, rfl, ?_⟩
       replace BK35 := A_ (bw_ BK35.out hb)
       replace HB := A_ (below_step (bG_ GE35.out) hb)
       clear hb
       refine hK.out _ _ ⟨bl_ BK35.out 0, bl_ BK35.out 1, bl_ BK35.out 2, (be_ hw37_0), (be_ hw37_1), (be_ hw37_2)⟩ (fun hHeld => ?_)
       clear hK K
       refine no_ (some 13) ?_
       refine pu_ (i := 2) (N := some 14) ?_
       refine pu_ (i := 3) (N := some 15) ?_
       refine pu_ (i := 4) (N := some 16) ?_
       refine pu_ (i := 5) (N := some 17) ?_
       refine pu_ (i := 6) (N := some 18) ?_
       refine pu_ (i := 7) (N := some 19) ?_
       refine pu_ (i := 8) (N := some 20) ?_
       refine pu_ (i := 9) (N := some 21) ?_
       refine pu_ (i := 10) (N := some 22) ?_
       refine tk_ (i := 11) (N := some 23) hHeld ?_
       refine tk_ (i := 12) (N := some 24) hHeld ?_
       refine on_ (i := 13) (N := some 25) (fun K hK => ?_)
       refine goes_ Try.func100 (by kernel_rfl) rfl #[.agg #[.string ((rd_T72 l0 (ji8)).f0), .string ((rd_T72 l0 (ji8)).f1), .string ((rd_T72 l0 (ji8)).f2)], .agg #[.string ((rd_T72 l0 x7_1).f0), .string ((rd_T72 l0 x7_1).f1), .string ((rd_T72 l0 x7_1).f2)]] (by rfl) rfl rfl (by (try simp only [List.map_toArray, List.map_cons, List.map_nil]); first | done | (simp only [hji8]; rfl) | rfl | (simp only [List.length_drop, List.length_take]; rfl)) ?_
       with_reducible refine (impl_lessProp.calls ((rd_T72 l0 (ji8)).f0) ((rd_T72 l0 (ji8)).f1) ((rd_T72 l0 (ji8)).f2) ((rd_T72 l0 x7_1).f0) ((rd_T72 l0 x7_1).f1) ((rd_T72 l0 x7_1).f2) false _ A11.out).mono ?_
       rintro e w24 ⟨rfl, hb⟩
       refine ⟨_, rfl, ?_⟩
       replace BK35 := A_ (bw_ BK35.out hb)
       replace HB := A_ (below_step (bG_ GE35.out) hb)
       clear hb
       refine hK.out _ _ ⟨bl_ BK35.out 0, bl_ BK35.out 1, bl_ BK35.out 2, (be_ hw37_0), (be_ hw37_1), (be_ hw37_2)⟩ (fun hHeld => ?_)
       clear hK K
       refine no_ (some 25) ?_
       refine pu_ (i := 14) (N := some 26) ?_
       refine pu_ (i := 15) (N := some 27) ?_
       refine pu_ (i := 16) (N := some 28) ?_
       refine done_ (done_of HT_.out (by kernel_rfl)) ?_
       (try clear hHeld)
       try go_wp2
       go_ret
       exact ⟨by first | rfl | (simp [errW_none, errW_some] <;> rfl) | (simp only [← hji8]; first | rfl | (simp [errW_none, errW_some] <;> rfl)) | (simp [*, errW_none, errW_some] <;> rfl), bG_ GE35.out⟩
   . replace c6 := Bool.eq_false_iff.mpr c6
     subst c6
     rw [if_neg nf_] at H
     obtain rfl := si_ H
     have p36 : 0 <= (x7_1 : Int) := od_
     have q36 : x7_1 < (l0.length : Int) := od_
     obtain ⟨ad36, e36, hx36_0, hx36_1, hx36_2⟩ := at_T72 HR0.out x7_1 p36 q36
     cases e36
     replace hx36_0 := bc_ HB.out hx36_0
     replace hx36_1 := bc_ HB.out hx36_1
     replace hx36_2 := bc_ HB.out hx36_2
     replace p36 := eq_true p36
     replace q36 := eq_true q36
     try go_wp2_with (first | ((with_reducible refine gd_ (N := 4) rfl ?_); refine bx_ (N := 4) (cs := #[.string (⟨#[]⟩ : ByteArray), .string (⟨#[]⟩ : ByteArray), .string (⟨#[]⟩ : ByteArray)]) (t := 72) ?_; intro gb35 hg w30 hbox hb; have BK35 := A_ (hbox); have GW35 := A_ (ge_ hg bB_ : w.heap.size <= gb35); have GE35 := A_ (ge_ hg bB_ : w.heap.size <= gb35); replace HB := A_ (below_step bB_ hb); clear hb hbox hg; obtain ⟨hcz31_0, hcz31_1, hcz31_2, hfz31_0, hfz31_1, hfz31_2⟩ := cz3_ BK35.out))
     obtain ⟨w32, hW_⟩ : ∃ w_, w_ = (((w30.setCell ⟨gb35, 0, none⟩ (.string ((rd_T72 l0 x7_1).f0))).setCell ⟨gb35, 1, none⟩ (.string ((rd_T72 l0 x7_1).f1))).setCell ⟨gb35, 2, none⟩ (.string ((rd_T72 l0 x7_1).f2))) := ⟨_, rfl⟩
     have n0_ : Aside0 (w32.heap[gb35]? = some (.cells #[.string ((rd_T72 l0 x7_1).f0), .string ((rd_T72 l0 x7_1).f1), .string ((rd_T72 l0 x7_1).f2)] 72 (0, 0))) := ⟨by rw [hW_]; (with_reducible repeat (first | refine blk_drewN ?_ _ | refine blk_drew ?_ | refine blk_alloc ?_ _)); with_reducible exact p3_012_ (vb_ BK35.out)⟩
     have n1_ : Aside0 (Below w.heap.size w w32) := ⟨by rw [hW_]; exact bG_ GE35.out⟩
     (try clear BK35)
     (try clear HB)
     rw [← hW_]
     clear hW_
     have BK35 := n0_
     have HB := n1_
     clear n0_ n1_
     replace BK35 := A_ (blk_drew BK35.out)
     replace HB := A_ (below_drew1 HB.out)
     refine st3_ (n := 17) (ds := []) (bl_ BK35.out 0) (bl_ BK35.out 1) (bl_ BK35.out 2) (fun hHeld => ?_); refine with_tabW impl_PropsOk.tab4 impl_PropsOk.bits4 (fun HT_ HW_ => ?_)
     generalize w32.drew = w33 at BK35 HB hHeld ⊢
     refine tk_ (i := 0) (N := some 12) hHeld ?_
     refine on_ (i := 1) (N := some 13) (fun K hK => ?_)
     refine goes_ Try.func93 (by kernel_rfl) rfl #[.agg #[.string ((rd_T72 l0 x7_1).f0), .string ((rd_T72 l0 x7_1).f1), .string ((rd_T72 l0 x7_1).f2)]] (by rfl) rfl rfl ml_ ?_
     with_reducible refine (impl_propOk.calls k1 ((rd_T72 l0 x7_1).f0) ((rd_T72 l0 x7_1).f1) ((rd_T72 l0 x7_1).f2) false _ A5.out).mono ?_
     rintro e w34 ⟨rfl, hb⟩
     refine ⟨_, rfl, ?_⟩
     replace BK35 := A_ (bw_ BK35.out hb)
     replace HB := A_ (below_step (bG_ GE35.out) hb)
     clear hb
     refine hK.out _ _ (hl_ BK35.out) (fun hHeld => ?_)
     clear hK K
     refine no_ (some 13) ?_
     refine pu_ (i := 2) (N := some 14) ?_
     refine pu_ (i := 3) (N := some 15) ?_
     refine pn_ (i := 4) (N := some 16) ?_
     refine pn_ (i := 5) (N := some 17) ?_
     refine pn_ (i := 6) (N := some 18) ?_
     refine pn_ (i := 7) (N := some 19) ?_
     refine pn_ (i := 8) (N := some 20) ?_
     refine pn_ (i := 9) (N := some 21) ?_
     refine pn_ (i := 10) (N := some 22) ?_
     refine pn_ (i := 11) (N := some 23) ?_
     refine pn_ (i := 12) (N := some 24) ?_
     refine pn_ (i := 13) (N := some 25) ?_
     refine pn_ (i := 14) (N := some 26) ?_
     refine pn_ (i := 15) (N := some 27) ?_
     refine pu_ (i := 16) (N := some 28) ?_
     refine done_ (done_of HT_.out (by kernel_rfl)) ?_
     (try clear hHeld)
     try go_wp2
     go_ret
     exact ⟨rr_, bG_ GE35.out⟩
set_option maxHeartbeats 8000000
set_option maxRecDepth 100000
def impl_NameOk.f (k : Nat) (a0 : ByteArray) : Option (Bool) := (impl_in.f (a0.size : Int) 1 8).bind fun t300 => (if t300 = true then ((impl_Plain.f k a0).bind fun t301 => (if t301 = true then ((strings_Contains.f a0 (⟨#[47]⟩ : ByteArray)).bind fun t302 => (if t302 = true then (some false) else (if a0.toList = ([46] : List UInt8) then (some false) else (some (a0.toList != ([46, 46] : List UInt8)))))) else (some false))) else (some false))
theorem impl_NameOk.calls (k : Nat) (a0 : ByteArray) (r : Bool) (w : World) (h : impl_NameOk.f k a0 = some r) :
 Calls Try.prog 130 #[.string a0] w fun e w' => e = .returned (.bool r) /\ Drawn0 w w' := by
 have H : ((impl_in.f (a0.size : Int) 1 8).bind fun t1 => (if t1 = true then ((impl_Plain.f k a0).bind fun t9 => (if t9 = true then ((strings_Contains.f a0 (⟨#[47]⟩ : ByteArray)).bind fun t10 => (if t10 = true then (some false) else (if a0.toList = ([46] : List UInt8) then (some false) else (some (a0.toList != ([46, 46] : List UInt8)))))) else (some false))) else (some false))) = some r := h
 clear h
 obtain ⟨t1, A2, H⟩ := bo_ H
 (try dsimp only at H)
 by_cases c3 : t1 = true
 . subst c3
   rw [if_pos rfl] at H
   obtain ⟨t9, A4, H⟩ := bo_ H
   (try dsimp only at H)
   by_cases c5 : t9 = true
   . subst c5
     rw [if_pos rfl] at H
     obtain ⟨t10, A6, H⟩ := bo_ H
     (try dsimp only at H)
     by_cases c7 : t10 = true
     . subst c7
       rw [if_pos rfl] at H
       obtain rfl := si_ H
       go_enter Try.func130, Try.ntmps130
       go_wp2_with (first | ((with_reducible refine gc_ (f := 109) rfl ?_); refine gL_ (some 5) Try.func109 #[.int .i64 (a0.size : Int), .int .i64 1, .int .i64 8] ?_; (with_reducible refine (impl_in.calls (a0.size : Int) 1 8 true _ A2.out).mono ?_); rintro e w' ⟨rfl, ⟨nd, rfl⟩⟩; refine ⟨_, rfl, ?_⟩) | (go_at_call 123; (with_reducible refine (impl_Plain.calls k a0 true _ A4.out).mono ?_); rintro e w' ⟨rfl, ⟨nd, rfl⟩⟩) | (go_at_call 137; (with_reducible refine (strings_Contains.calls a0 (⟨#[47]⟩ : ByteArray) true _ A6.out).mono ?_); rintro e w' ⟨rfl, ⟨nd, rfl⟩⟩))
       go_ret
       exact ⟨rs_, dr_⟩
     . replace c7 := Bool.eq_false_iff.mpr c7
       subst c7
       rw [if_neg nf_] at H
       by_cases c8 : a0.toList = ([46] : List UInt8)
       rotate_left
       . rw [if_neg c8] at H
         obtain ⟨c8b0, c8b1⟩ := eF_ c8
         obtain rfl := si_ H
         go_enter Try.func130, Try.ntmps130
         go_wp2_with (first | ((with_reducible refine gc_ (f := 109) rfl ?_); refine gL_ (some 5) Try.func109 #[.int .i64 (a0.size : Int), .int .i64 1, .int .i64 8] ?_; (with_reducible refine (impl_in.calls (a0.size : Int) 1 8 true _ A2.out).mono ?_); rintro e w' ⟨rfl, ⟨nd, rfl⟩⟩; refine ⟨_, rfl, ?_⟩) | (go_at_call 123; (with_reducible refine (impl_Plain.calls k a0 true _ A4.out).mono ?_); rintro e w' ⟨rfl, ⟨nd, rfl⟩⟩) | (go_at_call 137; (with_reducible refine (strings_Contains.calls a0 (⟨#[47]⟩ : ByteArray) false _ A6.out).mono ?_); rintro e w' ⟨rfl, ⟨nd, rfl⟩⟩))
         go_ret
         exact ⟨rs_, dr_⟩
       rw [if_pos c8] at H
       obtain ⟨c8b0, c8b1⟩ := eT_ c8
       clear c8
       obtain rfl := si_ H
       go_enter Try.func130, Try.ntmps130
       go_wp2_with (first | ((with_reducible refine gc_ (f := 109) rfl ?_); refine gL_ (some 5) Try.func109 #[.int .i64 (a0.size : Int), .int .i64 1, .int .i64 8] ?_; (with_reducible refine (impl_in.calls (a0.size : Int) 1 8 true _ A2.out).mono ?_); rintro e w' ⟨rfl, ⟨nd, rfl⟩⟩; refine ⟨_, rfl, ?_⟩) | (go_at_call 123; (with_reducible refine (impl_Plain.calls k a0 true _ A4.out).mono ?_); rintro e w' ⟨rfl, ⟨nd, rfl⟩⟩) | (go_at_call 137; (with_reducible refine (strings_Contains.calls a0 (⟨#[47]⟩ : ByteArray) false _ A6.out).mono ?_); rintro e w' ⟨rfl, ⟨nd, rfl⟩⟩))
       go_ret
       exact ⟨rs_, dr_⟩
   . replace c5 := Bool.eq_false_iff.mpr c5
     subst c5
     rw [if_neg nf_] at H
     obtain rfl := si_ H
     go_enter Try.func130, Try.ntmps130
     go_wp2_with (first | ((with_reducible refine gc_ (f := 109) rfl ?_); refine gL_ (some 5) Try.func109 #[.int .i64 (a0.size : Int), .int .i64 1, .int .i64 8] ?_; (with_reducible refine (impl_in.calls (a0.size : Int) 1 8 true _ A2.out).mono ?_); rintro e w' ⟨rfl, ⟨nd, rfl⟩⟩; refine ⟨_, rfl, ?_⟩) | (go_at_call 123; (with_reducible refine (impl_Plain.calls k a0 false _ A4.out).mono ?_); rintro e w' ⟨rfl, ⟨nd, rfl⟩⟩))
     go_ret
     exact ⟨rs_, dr_⟩
 . replace c3 := Bool.eq_false_iff.mpr c3
   subst c3
   rw [if_neg nf_] at H
   obtain rfl := si_ H
   go_enter Try.func130, Try.ntmps130
   go_wp2_with (first | ((with_reducible refine gc_ (f := 109) rfl ?_); refine gL_ (some 5) Try.func109 #[.int .i64 (a0.size : Int), .int .i64 1, .int .i64 8] ?_; (with_reducible refine (impl_in.calls (a0.size : Int) 1 8 false _ A2.out).mono ?_); rintro e w' ⟨rfl, ⟨nd, rfl⟩⟩; refine ⟨_, rfl, ?_⟩))
   go_ret
   exact ⟨rs_, dr_⟩
def impl_PathOk.l0 : Nat -> List ByteArray -> List ByteArray -> Int -> Int -> Option (Bool)
 | 0, _, _, _, _ => none
 | k + 1, x0, x5, x6, x7 => if x7 < x6 then (if 0 <= x7 then (if x7 < (x5.length : Int) then ((impl_NameOk.f k (rdOf ByteArray.empty x5 x7)).bind fun t304 => (if t304 = true then (impl_PathOk.l0 k x0 x5 x6 (wrap64 (x7 + 1))) else (some false))) else (none)) else (none)) else (some (decide ((x0.length : Int) <= 4)))
def impl_PathOk.f (k : Nat) (l0 : List ByteArray) : Option (Bool) := impl_PathOk.l0 k l0 l0 (l0.length : Int) 0
theorem impl_PathOk.calls (k : Nat) (A0 : Option Addr) (c0 : Nat) (l0 : List ByteArray) (r : Bool) (w : World) (hr0 : Kd.C Kd.string w A0 l0.length l0) (hc0 : l0.length <= c0) (h : impl_PathOk.f k l0 = some r) :
 Calls Try.prog 108 #[.slice A0 l0.length c0] w fun e w' => e = .returned (.bool r) /\ Drawn0 w w' := by
 have HR0 := A_ hr0
 clear hr0 hc0
 have H : (impl_PathOk.l0 k l0 l0 (l0.length : Int) 0) = some r := h
 clear h
 have H' := A_ H
 clear H
 go_enter Try.func108, Try.ntmps108
 go_wp2
 go_loopg [7] k (fun kq v7 w' => ∃ (x7_1 : Int), v7 = .int .i64 x7_1 /\ Aside0 (impl_PathOk.l0 kq l0 l0 (l0.length : Int) x7_1 = some r) /\ Aside0 (kq <= k) /\ Drawn0 w w')
 case atStart => exact ⟨(0), rs_, H', ⟨Nat.le_refl _⟩, dr_⟩
 case round =>
  clear H'
  obtain ⟨x7_1, rfl, HA, HK1, ⟨m1, rfl⟩⟩ := hrel
  cases gk with
  | zero => exact absurd HA.out (by simp [impl_PathOk.l0])
  | succ k1 =>
   have H := HA.out
   clear HA
   simp only [impl_PathOk.l0] at H
   by_cases c2 : x7_1 < (l0.length : Int)
   rotate_left
   . rw [if_neg c2] at H
     have c2b0 := decide_eq_false c2
     clear c2
     obtain rfl := si_ H
     go_wp2
     go_ret
     exact ⟨rs_, dr_⟩
   rw [if_pos c2] at H
   have c2b0 := decide_eq_true c2
   clear c2
   by_cases c3 : 0 <= x7_1
   rotate_left
   . exact absurd H (by rw [if_neg c3]; simp)
   rw [if_pos c3] at H
   have c3b0 := decide_eq_true c3
   clear c3
   by_cases c4 : x7_1 < (l0.length : Int)
   rotate_left
   . exact absurd H (by rw [if_neg c4]; simp)
   rw [if_pos c4] at H
   have c4b0 := decide_eq_true c4
   clear c4
   obtain ⟨t9, A5, H⟩ := bo_ H
   (try dsimp only at H)
   by_cases c6 : t9 = true
   . subst c6
     rw [if_pos rfl] at H
     have H' := A_ H
     clear H
     have p8 : 0 <= (x7_1 : Int) := od_
     have q8 : x7_1 < (l0.length : Int) := od_
     obtain ⟨ad8, e8, hx8_0⟩ := Kd.at_string HR0.out x7_1 p8 q8
     cases e8
     replace p8 := eq_true p8
     replace q8 := eq_true q8
     go_wp2_with (first | ((with_reducible refine gc_ (f := 130) rfl ?_); refine gL_ (some 12) Try.func130 #[.string (rdOf ByteArray.empty l0 x7_1)] ?_; (with_reducible refine (impl_NameOk.calls k1 (rdOf ByteArray.empty l0 x7_1) true _ A5.out).mono ?_); rintro e w' ⟨rfl, ⟨nd, rfl⟩⟩; refine ⟨_, rfl, ?_⟩))
     go_roundg k1
     case measure => have := HK1.out; omega
     case rel => exact ⟨(wrap64 (x7_1 + 1)), rs_, H', ⟨by have := HK1.out; omega⟩, dr_⟩
   . replace c6 := Bool.eq_false_iff.mpr c6
     subst c6
     rw [if_neg nf_] at H
     obtain rfl := si_ H
     have p8 : 0 <= (x7_1 : Int) := od_
     have q8 : x7_1 < (l0.length : Int) := od_
     obtain ⟨ad8, e8, hx8_0⟩ := Kd.at_string HR0.out x7_1 p8 q8
     cases e8
     replace p8 := eq_true p8
     replace q8 := eq_true q8
     go_wp2_with (first | ((with_reducible refine gc_ (f := 130) rfl ?_); refine gL_ (some 12) Try.func130 #[.string (rdOf ByteArray.empty l0 x7_1)] ?_; (with_reducible refine (impl_NameOk.calls k1 (rdOf ByteArray.empty l0 x7_1) false _ A5.out).mono ?_); rintro e w' ⟨rfl, ⟨nd, rfl⟩⟩; refine ⟨_, rfl, ?_⟩))
     go_ret
     exact ⟨rs_, dr_⟩
def impl_resOk.f (k : Nat) (l0_0 : List ByteArray) (a0_1 : Bool) (a0_2 : ByteArray) (a0_3 : Int) (l0_4 : List (S72)) : Option (Bool) := if (l0_0.length : Int) > 0 then ((impl_PathOk.f k l0_0).bind fun t306 => (if t306 = true then (if a0_1 = true then (if a0_2.toList = ([] : List UInt8) then (if (a0_2.size : Int) <= 200 then ((impl_in.f a0_3 0 99999).bind fun t307 => (if t307 = true then ((impl_PropsOk.f k l0_4).bind fun t308 => (some t308)) else (some false))) else (some false)) else (some false)) else (if (a0_2.size : Int) <= 200 then ((impl_in.f a0_3 0 99999).bind fun t309 => (if t309 = true then ((impl_PropsOk.f k l0_4).bind fun t310 => (some t310)) else (some false))) else (some false))) else (some false))) else (some false)
theorem impl_resOk.calls (k : Nat) (A0_0 : Option Addr) (c0_0 : Nat) (l0_0 : List ByteArray) (a0_1 : Bool) (a0_2 : ByteArray) (a0_3 : Int) (A0_4 : Option Addr) (c0_4 : Nat) (l0_4 : List (S72)) (r : Bool) (w : World) (hr0_0 : Kd.C Kd.string w A0_0 l0_0.length l0_0) (hc0_0 : l0_0.length <= c0_0) (hr0_4 : Kd.C k72 w A0_4 l0_4.length l0_4) (hc0_4 : l0_4.length <= c0_4) (h : impl_resOk.f k l0_0 a0_1 a0_2 a0_3 l0_4 = some r) :
 Calls Try.prog 87 #[.agg #[.slice A0_0 l0_0.length c0_0, .bool a0_1, .string a0_2, .int .i64 a0_3, .slice A0_4 l0_4.length c0_4]] w fun e w' => e = .returned (.bool r) /\ Below w.heap.size w w' := by
 have hu57 := Try.underlying57
 have HR0_0 := A_ hr0_0
 have HC0_0 := A_ hc0_0
 clear hr0_0 hc0_0
 have HR0_4 := A_ hr0_4
 have HC0_4 := A_ hc0_4
 clear hr0_4 hc0_4
 have HB := A_ (Below.refl w.heap.size w)
 have H : (if (l0_0.length : Int) > 0 then ((impl_PathOk.f k l0_0).bind fun t36 => (if t36 = true then (if a0_1 = true then (if a0_2.toList = ([] : List UInt8) then (if (a0_2.size : Int) <= 200 then ((impl_in.f a0_3 0 99999).bind fun t37 => (if t37 = true then ((impl_PropsOk.f k l0_4).bind fun t38 => (some t38)) else (some false))) else (some false)) else (some false)) else (if (a0_2.size : Int) <= 200 then ((impl_in.f a0_3 0 99999).bind fun t39 => (if t39 = true then ((impl_PropsOk.f k l0_4).bind fun t40 => (some t40)) else (some false))) else (some false))) else (some false))) else (some false)) = some r := h
 clear h
 by_cases c2 : (l0_0.length : Int) > 0
 rotate_left
 . rw [if_neg c2] at H
   have c2b0 : decide (0 < (l0_0.length : Int)) = false := decide_eq_false c2
   have c2b1 : decide (0 < l0_0.length) = false := decide_eq_false (by omega)
   clear c2
   obtain rfl := si_ H
   go_enter Try.func87, Try.ntmps87
   go_wp2_with (first | ((with_reducible refine gd_ (N := 1) rfl ?_); (try (refine gate_guard (by rfl) ?_; dsimp only)); refine bx_ (N := 1) (cs := #[.slice A0_0 l0_0.length c0_0, .bool a0_1, .string a0_2, .int .i64 a0_3, .slice A0_4 l0_4.length c0_4]) (t := 57) ?_; intro gb35 hg w33 hbox hb; have BK35 := A_ (hbox); have GW35 := A_ (ge_ hg bB_ : w.heap.size <= gb35); have GE35 := A_ (ge_ hg bB_ : w.heap.size <= gb35); replace HB := A_ (below_step bB_ hb); clear hb hbox hg; obtain ⟨hcz34_0, hcz34_1, hcz34_2, hcz34_3, hcz34_4, hfz34_0, hfz34_1, hfz34_2, hfz34_3, hfz34_4⟩ := cz5_ BK35.out))
   go_ret
   exact ⟨rr_, bG_ GE35.out⟩
 rw [if_pos c2] at H
 have c2b0 : decide (0 < (l0_0.length : Int)) = true := decide_eq_true c2
 have c2b1 : decide (0 < l0_0.length) = true := decide_eq_true (by omega)
 clear c2
 obtain ⟨t36, A3, H⟩ := bo_ H
 (try dsimp only at H)
 by_cases c4 : t36 = true
 . subst c4
   rw [if_pos rfl] at H
   by_cases c5 : a0_1 = true
   . subst c5
     rw [if_pos rfl] at H
     by_cases c6 : a0_2.toList = ([] : List UInt8)
     rotate_left
     . rw [if_neg c6] at H
       obtain ⟨c6b0, c6b1⟩ := eF_ c6
       obtain rfl := si_ H
       go_enter Try.func87, Try.ntmps87
       go_wp2_with (first | ((with_reducible refine gd_ (N := 1) rfl ?_); (try (refine gate_guard (by rfl) ?_; dsimp only)); refine bx_ (N := 1) (cs := #[.slice A0_0 l0_0.length c0_0, .bool true, .string a0_2, .int .i64 a0_3, .slice A0_4 l0_4.length c0_4]) (t := 57) ?_; intro gb35 hg w18 hbox hb; have BK35 := A_ (hbox); have GW35 := A_ (ge_ hg bB_ : w.heap.size <= gb35); have GE35 := A_ (ge_ hg bB_ : w.heap.size <= gb35); replace HB := A_ (below_step bB_ hb); clear hb hbox hg; obtain ⟨hcz19_0, hcz19_1, hcz19_2, hcz19_3, hcz19_4, hfz19_0, hfz19_1, hfz19_2, hfz19_3, hfz19_4⟩ := cz5_ BK35.out) | (go_at_call 108; (with_reducible refine (impl_PathOk.calls k _ _ l0_0 true _ ?s1 ?s2 A3.out).mono ?_); (case s1 => exact cC_ (Kd.C_below HR0_0.out HB.out)); (case s2 => exact HC0_0.out); rintro e w' ⟨rfl, ⟨nd, rfl⟩⟩))
       go_ret
       exact ⟨rr_, bG_ GE35.out⟩
     rw [if_pos c6] at H
     obtain ⟨c6b0, c6b1⟩ := eT_ c6
     clear c6
     by_cases c7 : (a0_2.size : Int) <= 200
     rotate_left
     . rw [if_neg c7] at H
       have c7b0 := decide_eq_false c7
       have c7b1 : decide (a0_2.size <= 200) = false := decide_eq_false (by omega)
       clear c7
       obtain rfl := si_ H
       go_enter Try.func87, Try.ntmps87
       go_wp2_with (first | ((with_reducible refine gd_ (N := 1) rfl ?_); (try (refine gate_guard (by rfl) ?_; dsimp only)); refine bx_ (N := 1) (cs := #[.slice A0_0 l0_0.length c0_0, .bool true, .string a0_2, .int .i64 a0_3, .slice A0_4 l0_4.length c0_4]) (t := 57) ?_; intro gb35 hg w16 hbox hb; have BK35 := A_ (hbox); have GW35 := A_ (ge_ hg bB_ : w.heap.size <= gb35); have GE35 := A_ (ge_ hg bB_ : w.heap.size <= gb35); replace HB := A_ (below_step bB_ hb); clear hb hbox hg; obtain ⟨hcz17_0, hcz17_1, hcz17_2, hcz17_3, hcz17_4, hfz17_0, hfz17_1, hfz17_2, hfz17_3, hfz17_4⟩ := cz5_ BK35.out) | (go_at_call 108; (with_reducible refine (impl_PathOk.calls k _ _ l0_0 true _ ?s1 ?s2 A3.out).mono ?_); (case s1 => exact cC_ (Kd.C_below HR0_0.out HB.out)); (case s2 => exact HC0_0.out); rintro e w' ⟨rfl, ⟨nd, rfl⟩⟩))
       go_ret
       exact ⟨rr_, bG_ GE35.out⟩
     rw [if_pos c7] at H
     have c7b0 := decide_eq_true c7
     have c7b1 : decide (a0_2.size <= 200) = true := decide_eq_true (by omega)
     clear c7
     obtain ⟨t37, A8, H⟩ := bo_ H
     (try dsimp only at H)
     by_cases c9 : t37 = true
     . subst c9
       rw [if_pos rfl] at H
       obtain ⟨t38, A10, H⟩ := bo_ H
       (try dsimp only at H)
       obtain rfl := si_ H
       go_enter Try.func87, Try.ntmps87
       go_wp2_with (first | ((with_reducible refine gd_ (N := 1) rfl ?_); (try (refine gate_guard (by rfl) ?_; dsimp only)); refine bx_ (N := 1) (cs := #[.slice A0_0 l0_0.length c0_0, .bool true, .string a0_2, .int .i64 a0_3, .slice A0_4 l0_4.length c0_4]) (t := 57) ?_; intro gb35 hg w11 hbox hb; have BK35 := A_ (hbox); have GW35 := A_ (ge_ hg bB_ : w.heap.size <= gb35); have GE35 := A_ (ge_ hg bB_ : w.heap.size <= gb35); replace HB := A_ (below_step bB_ hb); clear hb hbox hg; obtain ⟨hcz12_0, hcz12_1, hcz12_2, hcz12_3, hcz12_4, hfz12_0, hfz12_1, hfz12_2, hfz12_3, hfz12_4⟩ := cz5_ BK35.out) | (go_at_call 108; (with_reducible refine (impl_PathOk.calls k _ _ l0_0 true _ ?s1 ?s2 A3.out).mono ?_); (case s1 => exact cC_ (Kd.C_below HR0_0.out HB.out)); (case s2 => exact HC0_0.out); rintro e w' ⟨rfl, ⟨nd, rfl⟩⟩) | (go_at_call 109; (with_reducible refine (impl_in.calls a0_3 0 99999 true _ A8.out).mono ?_); rintro e w' ⟨rfl, ⟨nd, rfl⟩⟩) | (go_at_call 58; (with_reducible refine (impl_PropsOk.calls k _ _ l0_4 t38 _ ?s1 ?s2 A10.out).mono ?_); (case s1 => exact cC_ (Kd.C_below HR0_4.out (bG_ GE35.out))); (case s2 => exact HC0_4.out); rintro e w13 ⟨rfl, hb⟩; replace HB := A_ (below_step (bG_ GE35.out) hb); clear hb))
       go_ret
       exact ⟨rr_, bG_ GE35.out⟩
     . replace c9 := Bool.eq_false_iff.mpr c9
       subst c9
       rw [if_neg nf_] at H
       obtain rfl := si_ H
       go_enter Try.func87, Try.ntmps87
       go_wp2_with (first | ((with_reducible refine gd_ (N := 1) rfl ?_); (try (refine gate_guard (by rfl) ?_; dsimp only)); refine bx_ (N := 1) (cs := #[.slice A0_0 l0_0.length c0_0, .bool true, .string a0_2, .int .i64 a0_3, .slice A0_4 l0_4.length c0_4]) (t := 57) ?_; intro gb35 hg w14 hbox hb; have BK35 := A_ (hbox); have GW35 := A_ (ge_ hg bB_ : w.heap.size <= gb35); have GE35 := A_ (ge_ hg bB_ : w.heap.size <= gb35); replace HB := A_ (below_step bB_ hb); clear hb hbox hg; obtain ⟨hcz15_0, hcz15_1, hcz15_2, hcz15_3, hcz15_4, hfz15_0, hfz15_1, hfz15_2, hfz15_3, hfz15_4⟩ := cz5_ BK35.out) | (go_at_call 108; (with_reducible refine (impl_PathOk.calls k _ _ l0_0 true _ ?s1 ?s2 A3.out).mono ?_); (case s1 => exact cC_ (Kd.C_below HR0_0.out HB.out)); (case s2 => exact HC0_0.out); rintro e w' ⟨rfl, ⟨nd, rfl⟩⟩) | (go_at_call 109; (with_reducible refine (impl_in.calls a0_3 0 99999 false _ A8.out).mono ?_); rintro e w' ⟨rfl, ⟨nd, rfl⟩⟩))
       go_ret
       exact ⟨rr_, bG_ GE35.out⟩
   . replace c5 := Bool.eq_false_iff.mpr c5
     subst c5
     rw [if_neg nf_] at H
     by_cases c20 : (a0_2.size : Int) <= 200
     rotate_left
     . rw [if_neg c20] at H
       have c20b0 := decide_eq_false c20
       have c20b1 : decide (a0_2.size <= 200) = false := decide_eq_false (by omega)
       clear c20
       obtain rfl := si_ H
       go_enter Try.func87, Try.ntmps87
       go_wp2_with (first | ((with_reducible refine gd_ (N := 1) rfl ?_); (try (refine gate_guard (by rfl) ?_; dsimp only)); refine bx_ (N := 1) (cs := #[.slice A0_0 l0_0.length c0_0, .bool false, .string a0_2, .int .i64 a0_3, .slice A0_4 l0_4.length c0_4]) (t := 57) ?_; intro gb35 hg w29 hbox hb; have BK35 := A_ (hbox); have GW35 := A_ (ge_ hg bB_ : w.heap.size <= gb35); have GE35 := A_ (ge_ hg bB_ : w.heap.size <= gb35); replace HB := A_ (below_step bB_ hb); clear hb hbox hg; obtain ⟨hcz30_0, hcz30_1, hcz30_2, hcz30_3, hcz30_4, hfz30_0, hfz30_1, hfz30_2, hfz30_3, hfz30_4⟩ := cz5_ BK35.out) | (go_at_call 108; (with_reducible refine (impl_PathOk.calls k _ _ l0_0 true _ ?s1 ?s2 A3.out).mono ?_); (case s1 => exact cC_ (Kd.C_below HR0_0.out HB.out)); (case s2 => exact HC0_0.out); rintro e w' ⟨rfl, ⟨nd, rfl⟩⟩))
       go_ret
       exact ⟨rr_, bG_ GE35.out⟩
     rw [if_pos c20] at H
     have c20b0 := decide_eq_true c20
     have c20b1 : decide (a0_2.size <= 200) = true := decide_eq_true (by omega)
     clear c20
     obtain ⟨t39, A21, H⟩ := bo_ H
     (try dsimp only at H)
     by_cases c22 : t39 = true
     . subst c22
       rw [if_pos rfl] at H
       obtain ⟨t40, A23, H⟩ := bo_ H
       (try dsimp only at H)
       obtain rfl := si_ H
       go_enter Try.func87, Try.ntmps87
       go_wp2_with (first | ((with_reducible refine gd_ (N := 1) rfl ?_); (try (refine gate_guard (by rfl) ?_; dsimp only)); refine bx_ (N := 1) (cs := #[.slice A0_0 l0_0.length c0_0, .bool false, .string a0_2, .int .i64 a0_3, .slice A0_4 l0_4.length c0_4]) (t := 57) ?_; intro gb35 hg w24 hbox hb; have BK35 := A_ (hbox); have GW35 := A_ (ge_ hg bB_ : w.heap.size <= gb35); have GE35 := A_ (ge_ hg bB_ : w.heap.size <= gb35); replace HB := A_ (below_step bB_ hb); clear hb hbox hg; obtain ⟨hcz25_0, hcz25_1, hcz25_2, hcz25_3, hcz25_4, hfz25_0, hfz25_1, hfz25_2, hfz25_3, hfz25_4⟩ := cz5_ BK35.out) | (go_at_call 108; (with_reducible refine (impl_PathOk.calls k _ _ l0_0 true _ ?s1 ?s2 A3.out).mono ?_); (case s1 => exact cC_ (Kd.C_below HR0_0.out HB.out)); (case s2 => exact HC0_0.out); rintro e w' ⟨rfl, ⟨nd, rfl⟩⟩) | (go_at_call 109; (with_reducible refine (impl_in.calls a0_3 0 99999 true _ A21.out).mono ?_); rintro e w' ⟨rfl, ⟨nd, rfl⟩⟩) | (go_at_call 58; (with_reducible refine (impl_PropsOk.calls k _ _ l0_4 t40 _ ?s1 ?s2 A23.out).mono ?_); (case s1 => exact cC_ (Kd.C_below HR0_4.out (bG_ GE35.out))); (case s2 => exact HC0_4.out); rintro e w26 ⟨rfl, hb⟩; replace HB := A_ (below_step (bG_ GE35.out) hb); clear hb))
       go_ret
       exact ⟨rr_, bG_ GE35.out⟩
     . replace c22 := Bool.eq_false_iff.mpr c22
       subst c22
       rw [if_neg nf_] at H
       obtain rfl := si_ H
       go_enter Try.func87, Try.ntmps87
       go_wp2_with (first | ((with_reducible refine gd_ (N := 1) rfl ?_); (try (refine gate_guard (by rfl) ?_; dsimp only)); refine bx_ (N := 1) (cs := #[.slice A0_0 l0_0.length c0_0, .bool false, .string a0_2, .int .i64 a0_3, .slice A0_4 l0_4.length c0_4]) (t := 57) ?_; intro gb35 hg w27 hbox hb; have BK35 := A_ (hbox); have GW35 := A_ (ge_ hg bB_ : w.heap.size <= gb35); have GE35 := A_ (ge_ hg bB_ : w.heap.size <= gb35); replace HB := A_ (below_step bB_ hb); clear hb hbox hg; obtain ⟨hcz28_0, hcz28_1, hcz28_2, hcz28_3, hcz28_4, hfz28_0, hfz28_1, hfz28_2, hfz28_3, hfz28_4⟩ := cz5_ BK35.out) | (go_at_call 108; (with_reducible refine (impl_PathOk.calls k _ _ l0_0 true _ ?s1 ?s2 A3.out).mono ?_); (case s1 => exact cC_ (Kd.C_below HR0_0.out HB.out)); (case s2 => exact HC0_0.out); rintro e w' ⟨rfl, ⟨nd, rfl⟩⟩) | (go_at_call 109; (with_reducible refine (impl_in.calls a0_3 0 99999 false _ A21.out).mono ?_); rintro e w' ⟨rfl, ⟨nd, rfl⟩⟩))
       go_ret
       exact ⟨rr_, bG_ GE35.out⟩
 . replace c4 := Bool.eq_false_iff.mpr c4
   subst c4
   rw [if_neg nf_] at H
   obtain rfl := si_ H
   go_enter Try.func87, Try.ntmps87
   go_wp2_with (first | ((with_reducible refine gd_ (N := 1) rfl ?_); (try (refine gate_guard (by rfl) ?_; dsimp only)); refine bx_ (N := 1) (cs := #[.slice A0_0 l0_0.length c0_0, .bool a0_1, .string a0_2, .int .i64 a0_3, .slice A0_4 l0_4.length c0_4]) (t := 57) ?_; intro gb35 hg w31 hbox hb; have BK35 := A_ (hbox); have GW35 := A_ (ge_ hg bB_ : w.heap.size <= gb35); have GE35 := A_ (ge_ hg bB_ : w.heap.size <= gb35); replace HB := A_ (below_step bB_ hb); clear hb hbox hg; obtain ⟨hcz32_0, hcz32_1, hcz32_2, hcz32_3, hcz32_4, hfz32_0, hfz32_1, hfz32_2, hfz32_3, hfz32_4⟩ := cz5_ BK35.out) | (go_at_call 108; (with_reducible refine (impl_PathOk.calls k _ _ l0_0 false _ ?s1 ?s2 A3.out).mono ?_); (case s1 => exact cC_ (Kd.C_below HR0_0.out HB.out)); (case s2 => exact HC0_0.out); rintro e w' ⟨rfl, ⟨nd, rfl⟩⟩))
   go_ret
   exact ⟨rr_, bG_ GE35.out⟩
mutual
def impl_LessPath.l0 : Nat -> List ByteArray -> List ByteArray -> Int -> Option (Bool)
 | 0, _, _, _ => none
 | k + 1, x0, x1, x5 => if x5 < (x0.length : Int) then (impl_LessPath.j1 k x0 x1 x5 (decide (x5 < (x1.length : Int)))) else (impl_LessPath.j1 k x0 x1 x5 false)
def impl_LessPath.j1 : Nat -> List ByteArray -> List ByteArray -> Int -> Bool -> Option (Bool)
 | 0, _, _, _, _ => none
 | k + 1, x0, x1, x5, x15 => if x15 = true then (if 0 <= x5 then (if x5 < (x0.length : Int) then (if x5 < (x1.length : Int) then (if (rdOf ByteArray.empty x0 x5).toList = (rdOf ByteArray.empty x1 x5).toList then (impl_LessPath.l0 k x0 x1 (wrap64 (x5 + 1))) else (some (Op.bytesLess ((rdOf ByteArray.empty x0 x5).toList) ((rdOf ByteArray.empty x1 x5).toList)))) else (none)) else (none)) else (none)) else (some (decide ((x0.length : Int) < (x1.length : Int))))
end
def impl_LessPath.f (k : Nat) (l0 : List ByteArray) (l1 : List ByteArray) : Option (Bool) := impl_LessPath.l0 k l0 l1 0
theorem impl_LessPath.calls (k : Nat) (A0 : Option Addr) (c0 : Nat) (l0 : List ByteArray) (A1 : Option Addr) (c1 : Nat) (l1 : List ByteArray) (r : Bool) (w : World) (hr0 : Kd.C Kd.string w A0 l0.length l0) (hc0 : l0.length <= c0) (hr1 : Kd.C Kd.string w A1 l1.length l1) (hc1 : l1.length <= c1) (h : impl_LessPath.f k l0 l1 = some r) :
 Calls Try.prog 88 #[.slice A0 l0.length c0, .slice A1 l1.length c1] w fun e w' => e = .returned (.bool r) /\ Drawn0 w w' := by
 have HR0 := A_ hr0
 clear hr0 hc0
 have HR1 := A_ hr1
 clear hr1 hc1
 have H : (impl_LessPath.l0 k l0 l1 0) = some r := h
 clear h
 have H' := A_ H
 clear H
 go_enter Try.func88, Try.ntmps88
 go_wp2
 repeat (go_quiet (fail); try go_wp2)
 go_loopg [5] k (fun kq v5 w' => ∃ (x5_1 : Int), v5 = .int .i64 x5_1 /\ Aside0 (impl_LessPath.l0 kq l0 l1 x5_1 = some r) /\ Aside0 (kq <= k) /\ Drawn0 w w')
 case atStart => exact ⟨(0), rs_, H', ⟨Nat.le_refl _⟩, dr_⟩
 case round =>
  clear H'
  obtain ⟨x5_1, rfl, HA, HK1, ⟨m1, rfl⟩⟩ := hrel
  cases gk with
  | zero => exact absurd HA.out (by simp [impl_LessPath.l0])
  | succ k1 =>
   have H := HA.out
   clear HA
   simp only [impl_LessPath.l0] at H
   have HC3 := A_ H
   clear H
   go_upto_region 2 with (fail)
   repeat (go_quiet (fail); go_upto_region 2 with (fail))
   go_cut [15] (fun v15 wc => ∃ (kq : Nat) (x15_2 : Bool), v15 = .bool x15_2 /\ Aside0 (impl_LessPath.j1 kq l0 l1 x5_1 x15_2 = some r) /\ Aside0 (kq <= k1) /\ Drawn0 w wc)
   case first =>
    have H := HC3.out
    clear HC3
    by_cases c4 : x5_1 < (l0.length : Int)
    rotate_left
    . rw [if_neg c4] at H
      have c4b0 := decide_eq_false c4
      clear c4
      (first | rw [c4b0] | (simp only [i64_w, i32_w]; rw [c4b0]) | skip)
      have H' := A_ H
      clear H
      go_wp2
      repeat (go_quiet (fail); try go_wp2)
      go_meet
      case rel => exact ⟨_, (false), rs_, H', ⟨by have := HK1.out; first | omega | exact Nat.le_refl _⟩, dr_⟩
    rw [if_pos c4] at H
    have c4b0 := decide_eq_true c4
    clear c4
    (first | rw [c4b0] | (simp only [i64_w, i32_w]; rw [c4b0]) | skip)
    have H' := A_ H
    clear H
    go_wp2
    repeat (go_quiet (fail); try go_wp2)
    go_meet
    case rel => exact ⟨_, (decide (x5_1 < (l1.length : Int))), rs_, H', ⟨by have := HK1.out; first | omega | exact Nat.le_refl _⟩, dr_⟩
   case rest =>
    clear HC3
    obtain ⟨kq, x15_2, rfl, HA, HJ2, ⟨mc2, rfl⟩⟩ := hcut
    cases kq with
    | zero => exact absurd HA.out (by simp [impl_LessPath.j1])
    | succ kj2 =>
     have H := HA.out
     clear HA
     simp only [impl_LessPath.j1] at H
     by_cases c5 : x15_2 = true
     . subst c5
       rw [if_pos rfl] at H
       by_cases c6 : 0 <= x5_1
       rotate_left
       . exact absurd H (by rw [if_neg c6]; simp)
       rw [if_pos c6] at H
       have c6b0 := decide_eq_true c6
       clear c6
       by_cases c7 : x5_1 < (l0.length : Int)
       rotate_left
       . exact absurd H (by rw [if_neg c7]; simp)
       rw [if_pos c7] at H
       have c7b0 := decide_eq_true c7
       clear c7
       by_cases c8 : x5_1 < (l1.length : Int)
       rotate_left
       . exact absurd H (by rw [if_neg c8]; simp)
       rw [if_pos c8] at H
       have c8b0 := decide_eq_true c8
       clear c8
       by_cases c9 : (rdOf ByteArray.empty l0 x5_1).toList = (rdOf ByteArray.empty l1 x5_1).toList
       . rw [if_pos c9] at H
         obtain ⟨c9b0, c9b1⟩ := eT_ c9
         clear c9
         have H' := A_ H
         clear H
         have p10 : 0 <= (x5_1 : Int) := od_
         have q10 : x5_1 < (l0.length : Int) := od_
         obtain ⟨ad10, e10, hx10_0⟩ := Kd.at_string HR0.out x5_1 p10 q10
         cases e10
         replace p10 := eq_true p10
         replace q10 := eq_true q10
         have p11 : 0 <= (x5_1 : Int) := od_
         have q11 : x5_1 < (l1.length : Int) := od_
         obtain ⟨ad11, e11, hx11_0⟩ := Kd.at_string HR1.out x5_1 p11 q11
         cases e11
         replace p11 := eq_true p11
         replace q11 := eq_true q11
         go_wp2
         repeat (go_quiet (fail); try go_wp2)
         go_roundg kj2
         case measure => have := HK1.out; have := HJ2.out; omega
         case rel => exact ⟨(wrap64 (x5_1 + 1)), rs_, H', ⟨by have := HK1.out; have := HJ2.out; omega⟩, dr_⟩
       rw [if_neg c9] at H
       obtain ⟨c9b0, c9b1⟩ := eF_ c9
       obtain rfl := si_ H
       have p10 : 0 <= (x5_1 : Int) := od_
       have q10 : x5_1 < (l0.length : Int) := od_
       obtain ⟨ad10, e10, hx10_0⟩ := Kd.at_string HR0.out x5_1 p10 q10
       cases e10
       replace p10 := eq_true p10
       replace q10 := eq_true q10
       have p11 : 0 <= (x5_1 : Int) := od_
       have q11 : x5_1 < (l1.length : Int) := od_
       obtain ⟨ad11, e11, hx11_0⟩ := Kd.at_string HR1.out x5_1 p11 q11
       cases e11
       replace p11 := eq_true p11
       replace q11 := eq_true q11
       have p12 : 0 <= (x5_1 : Int) := od_
       have q12 : x5_1 < (l0.length : Int) := od_
       obtain ⟨ad12, e12, hx12_0⟩ := Kd.at_string HR0.out x5_1 p12 q12
       obtain rfl : ad10 = ad12 := (by injection e12)
       replace p12 := eq_true p12
       replace q12 := eq_true q12
       have p13 : 0 <= (x5_1 : Int) := od_
       have q13 : x5_1 < (l1.length : Int) := od_
       obtain ⟨ad13, e13, hx13_0⟩ := Kd.at_string HR1.out x5_1 p13 q13
       obtain rfl : ad11 = ad13 := (by injection e13)
       replace p13 := eq_true p13
       replace q13 := eq_true q13
       go_wp2
       repeat (go_quiet (fail); try go_wp2)
       go_ret
       exact ⟨rs_, dr_⟩
     . replace c5 := Bool.eq_false_iff.mpr c5
       subst c5
       rw [if_neg nf_] at H
       obtain rfl := si_ H
       go_wp2
       repeat (go_quiet (fail); try go_wp2)
       go_ret
       exact ⟨rs_, dr_⟩
end Go.Proofs.Ytbgggcgjijljkaa.Q
