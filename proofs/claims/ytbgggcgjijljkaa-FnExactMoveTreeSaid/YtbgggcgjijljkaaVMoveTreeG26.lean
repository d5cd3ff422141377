import Derived.Test.YtbgggcgjijljkaaVMoveTreeG25
set_option maxHeartbeats 8000000
set_option maxRecDepth 100000
namespace Go.Proofs.Ytbgggcgjijljkaa.Q
open Go.RowKit Go.Proofs.YtbgggcgjijljkaaW.PrintWords Go.Proofs.YtbgggcgjijljkaaW.PrintLast Go.Proofs.YtbgggcgjijljkaaW.PrintMore
attribute [local go_sem] max2_int min2_int max_two min_two max_three min_three max_four min_four
set_option linter.unusedVariables false
set_option linter.unusedSimpArgs false
def impl_NameOk.f (k : Nat) (a0 : ByteArray) : Option (Bool) := (impl_in.f (a0.size : Int) 1 8).bind fun t300 => (if t300 = true then ((impl_Plain.f k a0).bind fun t301 => (if t301 = true then ((strings_Contains.f a0 (⟨#[47]⟩ : ByteArray)).bind fun t302 => (if t302 = true then (some false) else (if a0.toList = ([46] : List UInt8) then (some false) else (some (a0.toList != ([46, 46] : List UInt8)))))) else (some false))) else (some false))
theorem impl_NameOk.calls (k : Nat) (a0 : ByteArray) (r : Bool) (w : World) (h : impl_NameOk.f k a0 = some r) :
 Calls Try.prog 130 #[.string a0] w fun e w' => e = .returned (.bool r) /\ Drawn0 w w' := by
 have H : ((impl_in.f (a0.size : Int) 1 8).bind fun t1 => (if t1 = true then ((impl_Plain.f k a0).bind fun t9 => (if t9 = true then ((strings_Contains.f a0 (⟨#[47]⟩ : ByteArray)).bind fun t10 => (if t10 = true then (some false) else (if a0.toList = ([46] : List UInt8) then (some false) else (some (a0.toList != ([46, 46] : List UInt8)))))) else (some false))) else (some false))) = some r := h
 clear h
 obtain ⟨t1, A2, H⟩ := bo_ H
 (try dsimp only at H)
 by_cases c3 : t1 = true
 . subst c3
   rw [if_pos rfl] at H
   obtain ⟨t9, A4, H⟩ := bo_ H
   (try dsimp only at H)
   by_cases c5 : t9 = true
   . subst c5
     rw [if_pos rfl] at H
     obtain ⟨t10, A6, H⟩ := bo_ H
     (try dsimp only at H)
     by_cases c7 : t10 = true
     . subst c7
       rw [if_pos rfl] at H
       obtain rfl := si_ H
       go_enter Try.func130, Try.ntmps130
       go_wp2_with (first | ((with_reducible refine gc_ (f := 109) rfl ?_); refine gL_ (some 5) Try.func109 #[.int .i64 (a0.size : Int), .int .i64 1, .int .i64 8] ?_; (with_reducible refine (impl_in.calls (a0.size : Int) 1 8 true _ A2.out).mono ?_); rintro e w' ⟨rfl, ⟨nd, rfl⟩⟩; refine ⟨_, rfl, ?_⟩) | (go_at_call 123; (with_reducible refine (impl_Plain.calls k a0 true _ A4.out).mono ?_); rintro e w' ⟨rfl, ⟨nd, rfl⟩⟩) | (go_at_call 137; (with_reducible refine (strings_Contains.calls a0 (⟨#[47]⟩ : ByteArray) true _ A6.out).mono ?_); rintro e w' ⟨rfl, ⟨nd, rfl⟩⟩))
       go_ret
       exact ⟨rs_, dr_⟩
     . replace c7 := Bool.eq_false_iff.mpr c7
       subst c7
       rw [if_neg nf_] at H
       by_cases c8 : a0.toList = ([46] : List UInt8)
       rotate_left
       . rw [if_neg c8] at H
         obtain ⟨c8b0, c8b1⟩ := eF_ c8
         obtain rfl := si_ H
         go_enter Try.func130, Try.ntmps130
         go_wp2_with (first | ((with_reducible refine gc_ (f := 109) rfl ?_); refine gL_ (some 5) Try.func109 #[.int .i64 (a0.size : Int), .int .i64 1, .int .i64 8] ?_; (with_reducible refine (impl_in.calls (a0.size : Int) 1 8 true _ A2.out).mono ?_); rintro e w' ⟨rfl, ⟨nd, rfl⟩⟩; refine ⟨_, rfl, ?_⟩) | (go_at_call 123; (with_reducible refine (impl_Plain.calls k a0 true _ A4.out).mono ?_); rintro e w' ⟨rfl, ⟨nd, rfl⟩⟩) | (go_at_call 137; (with_reducible refine (strings_Contains.calls a0 (⟨#[47]⟩ : ByteArray) false _ A6.out).mono ?_); rintro e w' ⟨rfl, ⟨nd, rfl⟩⟩))
         go_ret
         exact ⟨rs_, dr_⟩
       rw [if_pos c8] at H
       obtain ⟨c8b0, c8b1⟩ := eT_ c8
       clear c8
       obtain rfl := si_ H
       go_enter Try.func130, Try.ntmps130
       go_wp2_with (first | ((with_reducible refine gc_ (f := 109) rfl ?_); refine gL_ (some 5) Try.func109 #[.int .i64 (a0.size : Int), .int .i64 1, .int .i64 8] ?_; (with_reducible refine (impl_in.calls (a0.size : Int) 1 8 true _ A2.out).mono ?_); rintro e w' ⟨rfl, ⟨nd, rfl⟩⟩; refine ⟨_, rfl, ?_⟩) | (go_at_call 123; (with_reducible refine (impl_Plain.calls k a0 true _ A4.out).mono ?_); rintro e w' ⟨rfl, ⟨nd, rfl⟩⟩) | (go_at_call 137; (with_reducible refine (strings_Contains.calls a0 (⟨#[47]⟩ : ByteArray) false _ A6.out).mono ?_); rintro e w' ⟨rfl, ⟨nd, rfl⟩⟩))
       go_ret
       exact ⟨rs_, dr_⟩
   . replace c5 := Bool.eq_false_iff.mpr c5
     subst c5
     rw [if_neg nf_] at H
     obtain rfl := si_ H
     go_enter Try.func130, Try.ntmps130
     go_wp2_with (first | ((with_reducible refine gc_ (f := 109) rfl ?_); refine gL_ (some 5) Try.func109 #[.int .i64 (a0.size : Int), .int .i64 1, .int .i64 8] ?_; (with_reducible refine (impl_in.calls (a0.size : Int) 1 8 true _ A2.out).mono ?_); rintro e w' ⟨rfl, ⟨nd, rfl⟩⟩; refine ⟨_, rfl, ?_⟩) | (go_at_call 123; (with_reducible refine (impl_Plain.calls k a0 false _ A4.out).mono ?_); rintro e w' ⟨rfl, ⟨nd, rfl⟩⟩))
     go_ret
     exact ⟨rs_, dr_⟩
 . replace c3 := Bool.eq_false_iff.mpr c3
   subst c3
   rw [if_neg nf_] at H
   obtain rfl := si_ H
   go_enter Try.func130, Try.ntmps130
   go_wp2_with (first | ((with_reducible refine gc_ (f := 109) rfl ?_); refine gL_ (some 5) Try.func109 #[.int .i64 (a0.size : Int), .int .i64 1, .int .i64 8] ?_; (with_reducible refine (impl_in.calls (a0.size : Int) 1 8 false _ A2.out).mono ?_); rintro e w' ⟨rfl, ⟨nd, rfl⟩⟩; refine ⟨_, rfl, ?_⟩))
   go_ret
   exact ⟨rs_, dr_⟩
def impl_PathOk.l0 : Nat -> List ByteArray -> List ByteArray -> Int -> Int -> Option (Bool)
 | 0, _, _, _, _ => none
 | k + 1, x0, x5, x6, x7 => if x7 < x6 then (if 0 <= x7 then (if x7 < (x5.length : Int) then ((impl_NameOk.f k (rdOf ByteArray.empty x5 x7)).bind fun t304 => (if t304 = true then (impl_PathOk.l0 k x0 x5 x6 (wrap64 (x7 + 1))) else (some false))) else (none)) else (none)) else (some (decide ((x0.length : Int) <= 4)))
def impl_PathOk.f (k : Nat) (l0 : List ByteArray) : Option (Bool) := impl_PathOk.l0 k l0 l0 (l0.length : Int) 0
theorem impl_PathOk.calls (k : Nat) (A0 : Option Addr) (c0 : Nat) (l0 : List ByteArray) (r : Bool) (w : World) (hr0 : Kd.C Kd.string w A0 l0.length l0) (hc0 : l0.length <= c0) (h : impl_PathOk.f k l0 = some r) :
 Calls Try.prog 108 #[.slice A0 l0.length c0] w fun e w' => e = .returned (.bool r) /\ Drawn0 w w' := by
 have HR0 := A_ hr0
 clear hr0 hc0
 have H : (impl_PathOk.l0 k l0 l0 (l0.length : Int) 0) = some r := h
 clear h
 have H' := A_ H
 clear H
 go_enter Try.func108, Try.ntmps108
 go_wp2
 go_loopg [7] k (fun kq v7 w' => ∃ (x7_1 : Int), v7 = .int .i64 x7_1 /\ Aside0 (impl_PathOk.l0 kq l0 l0 (l0.length : Int) x7_1 = some r) /\ Aside0 (kq <= k) /\ Drawn0 w w')
 case atStart => exact ⟨(0), rs_, H', ⟨Nat.le_refl _⟩, dr_⟩
 case round =>
  clear H'
  obtain ⟨x7_1, rfl, HA, HK1, ⟨m1, rfl⟩⟩ := hrel
  cases gk with
  | zero => exact absurd HA.out (by simp [impl_PathOk.l0])
  | succ k1 =>
   have H := HA.out
   clear HA
   simp only [impl_PathOk.l0] at H
   by_cases c2 : x7_1 < (l0.length : Int)
   rotate_left
   . rw [if_neg c2] at H
     have c2b0 := decide_eq_false c2
     clear c2
     obtain rfl := si_ H
     go_wp2
     go_ret
     exact ⟨rs_, dr_⟩
   rw [if_pos c2] at H
   have c2b0 := decide_eq_true c2
   clear c2
   by_cases c3 : 0 <= x7_1
   rotate_left
   . exact absurd H (by rw [if_neg c3]; simp)
   rw [if_pos c3] at H
   have c3b0 := decide_eq_true c3
   clear c3
   by_cases c4 : x7_1 < (l0.length : Int)
   rotate_left
   . exact absurd H (by rw [if_neg c4]; simp)
   rw [if_pos c4] at H
   have c4b0 := decide_eq_true c4
   clear c4
   obtain ⟨t9, A5, H⟩ := bo_ H
   (try dsimp only at H)
   by_cases c6 : t9 = true
   . subst c6
     rw [if_pos rfl] at H
     have H' := A_ H
     clear H
     have p8 : 0 <= (x7_1 : Int) := od_
     have q8 : x7_1 < (l0.length : Int) := od_
     obtain ⟨ad8, e8, hx8_0⟩ := Kd.at_string HR0.out x7_1 p8 q8
     cases e8
     replace p8 := eq_true p8
     replace q8 := eq_true q8
     go_wp2_with (first | ((with_reducible refine gc_ (f := 130) rfl ?_); refine gL_ (some 12) Try.func130 #[.string (rdOf ByteArray.empty l0 x7_1)] ?_; (with_reducible refine (impl_NameOk.calls k1 (rdOf ByteArray.empty l0 x7_1) true _ A5.out).mono ?_); rintro e w' ⟨rfl, ⟨nd, rfl⟩⟩; refine ⟨_, rfl, ?_⟩))
     go_roundg k1
     case measure => have := HK1.out; omega
     case rel => exact ⟨(wrap64 (x7_1 + 1)), rs_, H', ⟨by have := HK1.out; omega⟩, dr_⟩
   . replace c6 := Bool.eq_false_iff.mpr c6
     subst c6
     rw [if_neg nf_] at H
     obtain rfl := si_ H
     have p8 : 0 <= (x7_1 : Int) := od_
     have q8 : x7_1 < (l0.length : Int) := od_
     obtain ⟨ad8, e8, hx8_0⟩ := Kd.at_string HR0.out x7_1 p8 q8
     cases e8
     replace p8 := eq_true p8
     replace q8 := eq_true q8
     go_wp2_with (first | ((with_reducible refine gc_ (f := 130) rfl ?_); refine gL_ (some 12) Try.func130 #[.string (rdOf ByteArray.empty l0 x7_1)] ?_; (with_reducible refine (impl_NameOk.calls k1 (rdOf ByteArray.empty l0 x7_1) false _ A5.out).mono ?_); rintro e w' ⟨rfl, ⟨nd, rfl⟩⟩; refine ⟨_, rfl, ?_⟩))
     go_ret
     exact ⟨rs_, dr_⟩
def impl_resOk.f (k : Nat) (l0_0 : List ByteArray) (a0_1 : Bool) (a0_2 : ByteArray) (a0_3 : Int) (l0_4 : List (S72)) : Option (Bool) := if (l0_0.length : Int) > 0 then ((impl_PathOk.f k l0_0).bind fun t306 => (if t306 = true then (if a0_1 = true then (if a0_2.toList = ([] : List UInt8) then (if (a0_2.size : Int) <= 200 then ((impl_in.f a0_3 0 99999).bind fun t307 => (if t307 = true then ((impl_PropsOk.f k l0_4).bind fun t308 => (some t308)) else (some false))) else (some false)) else (some false)) else (if (a0_2.size : Int) <= 200 then ((impl_in.f a0_3 0 99999).bind fun t309 => (if t309 = true then ((impl_PropsOk.f k l0_4).bind fun t310 => (some t310)) else (some false))) else (some false))) else (some false))) else (some false)
theorem impl_resOk.calls (k : Nat) (A0_0 : Option Addr) (c0_0 : Nat) (l0_0 : List ByteArray) (a0_1 : Bool) (a0_2 : ByteArray) (a0_3 : Int) (A0_4 : Option Addr) (c0_4 : Nat) (l0_4 : List (S72)) (r : Bool) (w : World) (hr0_0 : Kd.C Kd.string w A0_0 l0_0.length l0_0) (hc0_0 : l0_0.length <= c0_0) (hr0_4 : Kd.C k72 w A0_4 l0_4.length l0_4) (hc0_4 : l0_4.length <= c0_4) (h : impl_resOk.f k l0_0 a0_1 a0_2 a0_3 l0_4 = some r) :
 Calls Try.prog 87 #[.agg #[.slice A0_0 l0_0.length c0_0, .bool a0_1, .string a0_2, .int .i64 a0_3, .slice A0_4 l0_4.length c0_4]] w fun e w' => e = .returned (.bool r) /\ Below w.heap.size w w' := by
 have hu57 := Try.underlying57
 have HR0_0 := A_ hr0_0
 have HC0_0 := A_ hc0_0
 clear hr0_0 hc0_0
 have HR0_4 := A_ hr0_4
 have HC0_4 := A_ hc0_4
 clear hr0_4 hc0_4
 have HB := A_ (Below.refl w.heap.size w)
 have H : (if (l0_0.length : Int) > 0 then ((impl_PathOk.f k l0_0).bind fun t36 => (if t36 = true then (if a0_1 = true then (if a0_2.toList = ([] : List UInt8) then (if (a0_2.size : Int) <= 200 then ((impl_in.f a0_3 0 99999).bind fun t37 => (if t37 = true then ((impl_PropsOk.f k l0_4).bind fun t38 => (some t38)) else (some false))) else (some false)) else (some false)) else (if (a0_2.size : Int) <= 200 then ((impl_in.f a0_3 0 99999).bind fun t39 => (if t39 = true then ((impl_PropsOk.f k l0_4).bind fun t40 => (some t40)) else (some false))) else (some false))) else (some false))) else (some false)) = some r := h
 clear h
 by_cases c2 : (l0_0.length : Int) > 0
 rotate_left
 . rw [if_neg c2] at H
   have c2b0 : decide (0 < (l0_0.length : Int)) = false := decide_eq_false c2
   have c2b1 : decide (0 < l0_0.length) = false := decide_eq_false (by omega)
   clear c2
   obtain rfl := si_ H
   go_enter Try.func87, Try.ntmps87
   go_wp2_with (first | ((with_reducible refine gd_ (N := 1) rfl ?_); (try (refine gate_guard (by rfl) ?_; dsimp only)); refine bx_ (N := 1) (cs := #[.slice A0_0 l0_0.length c0_0, .bool a0_1, .string a0_2, .int .i64 a0_3, .slice A0_4 l0_4.length c0_4]) (t := 57) ?_; intro gb35 hg w33 hbox hb; have BK35 := A_ (hbox); have GW35 := A_ (ge_ hg bB_ : w.heap.size <= gb35); have GE35 := A_ (ge_ hg bB_ : w.heap.size <= gb35); replace HB := A_ (below_step bB_ hb); clear hb hbox hg; obtain ⟨hcz34_0, hcz34_1, hcz34_2, hcz34_3, hcz34_4, hfz34_0, hfz34_1, hfz34_2, hfz34_3, hfz34_4⟩ := cz5_ BK35.out))
   go_ret
   exact ⟨rr_, bG_ GE35.out⟩
 rw [if_pos c2] at H
 have c2b0 : decide (0 < (l0_0.length : Int)) = true := decide_eq_true c2
 have c2b1 : decide (0 < l0_0.length) = true := decide_eq_true (by omega)
 clear c2
 obtain ⟨t36, A3, H⟩ := bo_ H
 (try dsimp only at H)
 by_cases c4 : t36 = true
 . subst c4
   rw [if_pos rfl] at H
   by_cases c5 : a0_1 = true
   . subst c5
     rw [if_pos rfl] at H
     by_cases c6 : a0_2.toList = ([] : List UInt8)
     rotate_left
     . rw [if_neg c6] at H
       obtain ⟨c6b0, c6b1⟩ := eF_ c6
       obtain rfl := si_ H
       go_enter Try.func87, Try.ntmps87
       go_wp2_with (first | ((with_reducible refine gd_ (N := 1) rfl ?_); (try (refine gate_guard (by rfl) ?_; dsimp only)); refine bx_ (N := 1) (cs := #[.slice A0_0 l0_0.length c0_0, .bool true, .string a0_2, .int .i64 a0_3, .slice A0_4 l0_4.length c0_4]) (t := 57) ?_; intro gb35 hg w18 hbox hb; have BK35 := A_ (hbox); have GW35 := A_ (ge_ hg bB_ : w.heap.size <= gb35); have GE35 := A_ (ge_ hg bB_ : w.heap.size <= gb35); replace HB := A_ (below_step bB_ hb); clear hb hbox hg; obtain ⟨hcz19_0, hcz19_1, hcz19_2, hcz19_3, hcz19_4, hfz19_0, hfz19_1, hfz19_2, hfz19_3, hfz19_4⟩ := cz5_ BK35.out) | (go_at_call 108; (with_reducible refine (impl_PathOk.calls k _ _ l0_0 true _ ?s1 ?s2 A3.out).mono ?_); (case s1 => exact cC_ (Kd.C_below HR0_0.out HB.out)); (case s2 => exact HC0_0.out); rintro e w' ⟨rfl, ⟨nd, rfl⟩⟩))
       go_ret
       exact ⟨rr_, bG_ GE35.out⟩
     rw [if_pos c6] at H
     obtain ⟨c6b0, c6b1⟩ := eT_ c6
     clear c6
     by_cases c7 : (a0_2.size : Int) <= 200
     rotate_left
     . rw [if_neg c7] at H
       have c7b0 := decide_eq_false c7
       have c7b1 : decide (a0_2.size <= 200) = false := decide_eq_false (by omega)
       clear c7
       obtain rfl := si_ H
       go_enter Try.func87, Try.ntmps87
       go_wp2_with (first | ((with_reducible refine gd_ (N := 1) rfl ?_); (try (refine gate_guard (by rfl) ?_; dsimp only)); refine bx_ (N := 1) (cs := #[.slice A0_0 l0_0.length c0_0, .bool true, .string a0_2, .int .i64 a0_3, .slice A0_4 l0_4.length c0_4]) (t := 57) ?_; intro gb35 hg w16 hbox hb; have BK35 := A_ (hbox); have GW35 := A_ (ge_ hg bB_ : w.heap.size <= gb35); have GE35 := A_ (ge_ hg bB_ : w.heap.size <= gb35); replace HB := A_ (below_step bB_ hb); clear hb hbox hg; obtain ⟨hcz17_0, hcz17_1, hcz17_2, hcz17_3, hcz17_4, hfz17_0, hfz17_1, hfz17_2, hfz17_3, hfz17_4⟩ := cz5_ BK35.out) | (go_at_call 108; (with_reducible refine (impl_PathOk.calls k _ _ l0_0 true _ ?s1 ?s2 A3.out).mono ?_); (case s1 => exact cC_ (Kd.C_below HR0_0.out HB.out)); (case s2 => exact HC0_0.out); rintro e w' ⟨rfl, ⟨nd, rfl⟩⟩))
       go_ret
       exact ⟨rr_, bG_ GE35.out⟩
     rw [if_pos c7] at H
     have c7b0 := decide_eq_true c7
     have c7b1 : decide (a0_2.size <= 200) = true := decide_eq_true (by omega)
     clear c7
     obtain ⟨t37, A8, H⟩ := bo_ H
     (try dsimp only at H)
     by_cases c9 : t37 = true
     . subst c9
       rw [if_pos rfl] at H
       obtain ⟨t38, A10, H⟩ := bo_ H
       (try dsimp only at H)
       obtain rfl := si_ H
       go_enter Try.func87, Try.ntmps87
       go_wp2_with (first | ((with_reducible refine gd_ (N := 1) rfl ?_); (try (refine gate_guard (by rfl) ?_; dsimp only)); refine bx_ (N := 1) (cs := #[.slice A0_0 l0_0.length c0_0, .bool true, .string a0_2, .int .i64 a0_3, .slice A0_4 l0_4.length c0_4]) (t := 57) ?_; intro gb35 hg w11 hbox hb; have BK35 := A_ (hbox); have GW35 := A_ (ge_ hg bB_ : w.heap.size <= gb35); have GE35 := A_ (ge_ hg bB_ : w.heap.size <= gb35); replace HB := A_ (below_step bB_ hb); clear hb hbox hg; obtain ⟨hcz12_0, hcz12_1, hcz12_2, hcz12_3, hcz12_4, hfz12_0, hfz12_1, hfz12_2, hfz12_3, hfz12_4⟩ := cz5_ BK35.out) | (go_at_call 108; (with_reducible refine (impl_PathOk.calls k _ _ l0_0 true _ ?s1 ?s2 A3.out).mono ?_); (case s1 => exact cC_ (Kd.C_below HR0_0.out HB.out)); (case s2 => exact HC0_0.out); rintro e w' ⟨rfl, ⟨nd, rfl⟩⟩) | (go_at_call 109; (with_reducible refine (impl_in.calls a0_3 0 99999 true _ A8.out).mono ?_); rintro e w' ⟨rfl, ⟨nd, rfl⟩⟩) | (go_at_call 58; (with_reducible refine (impl_PropsOk.calls k _ _ l0_4 t38 _ ?s1 ?s2 A10.out).mono ?_); (case s1 => exact cC_ (Kd.C_below HR0_4.out (bG_ GE35.out))); (case s2 => exact HC0_4.out); rintro e w13 ⟨rfl, hb⟩; replace HB := A_ (below_step (bG_ GE35.out) hb); clear hb))
       go_ret
       exact ⟨rr_, bG_ GE35.out⟩
     . replace c9 := Bool.eq_false_iff.mpr c9
       subst c9
       rw [if_neg nf_] at H
       obtain rfl := si_ H
       go_enter Try.func87, Try.ntmps87
       go_wp2_with (first | ((with_reducible refine gd_ (N := 1) rfl ?_); (try (refine gate_guard (by rfl) ?_; dsimp only)); refine bx_ (N := 1) (cs := #[.slice A0_0 l0_0.length c0_0, .bool true, .string a0_2, .int .i64 a0_3, .slice A0_4 l0_4.length c0_4]) (t := 57) ?_; intro gb35 hg w14 hbox hb; have BK35 := A_ (hbox); have GW35 := A_ (ge_ hg bB_ : w.heap.size <= gb35); have GE35 := A_ (ge_ hg bB_ : w.heap.size <= gb35); replace HB := A_ (below_step bB_ hb); clear hb hbox hg; obtain ⟨hcz15_0, hcz15_1, hcz15_2, hcz15_3, hcz15_4, hfz15_0, hfz15_1, hfz15_2, hfz15_3, hfz15_4⟩ := cz5_ BK35.out) | (go_at_call 108; (with_reducible refine (impl_PathOk.calls k _ _ l0_0 true _ ?s1 ?s2 A3.out).mono ?_); (case s1 => exact cC_ (Kd.C_below HR0_0.out HB.out)); (case s2 => exact HC0_0.out); rintro e w' ⟨rfl, ⟨nd, rfl⟩⟩) | (go_at_call 109; (with_reducible refine (impl_in.calls a0_3 0 99999 false _ A8.out).mono ?_); rintro e w' ⟨rfl, ⟨nd, rfl⟩⟩))
       go_ret
       exact ⟨rr_, bG_ GE35.out⟩
   . replace c5 := Bool.eq_false_iff.mpr c5
     subst c5
     rw [if_neg nf_] at H
     by_cases c20 : (a0_2.size : Int) <= 200
     rotate_left
     . rw [if_neg c20] at H
       have c20b0 := decide_eq_false c20
       have c20b1 : decide (a0_2.size <= 200) = false := decide_eq_false (by omega)
       clear c20
       obtain rfl := si_ H
       go_enter Try.func87, Try.ntmps87
       go_wp2_with (first | ((with_reducible refine gd_ (N := 1) rfl ?_); (try (refine gate_guard (by rfl) ?_; dsimp only)); refine bx_ (N := 1) (cs := #[.slice A0_0 l0_0.length c0_0, .bool false, .string a0_2, .int .i64 a0_3, .slice A0_4 l0_4.length c0_4]) (t := 57) ?_; intro gb35 hg w29 hbox hb; have BK35 := A_ (hbox); have GW35 := A_ (ge_ hg bB_ : w.heap.size <= gb35); have GE35 := A_ (ge_ hg bB_ : w.heap.size <= gb35); replace HB := A_ (below_step bB_ hb); clear hb hbox hg; obtain ⟨hcz30_0, hcz30_1, hcz30_2, hcz30_3, hcz30_4, hfz30_0, hfz30_1, hfz30_2, hfz30_3, hfz30_4⟩ := cz5_ BK35.out) | (go_at_call 108; (with_reducible refine (impl_PathOk.calls k _ _ l0_0 true _ ?s1 ?s2 A3.out).mono ?_); (case s1 => exact cC_ (Kd.C_below HR0_0.out HB.out)); (case s2 => exact HC0_0.out); rintro e w' ⟨rfl, ⟨nd, rfl⟩⟩))
       go_ret
       exact ⟨rr_, bG_ GE35.out⟩
     rw [if_pos c20] at H
     have c20b0 := decide_eq_true c20
     have c20b1 : decide (a0_2.size <= 200) = true := decide_eq_true (by omega)
     clear c20
     obtain ⟨t39, A21, H⟩ := bo_ H
     (try dsimp only at H)
     by_cases c22 : t39 = true
     . subst c22
       rw [if_pos rfl] at H
       obtain ⟨t40, A23, H⟩ := bo_ H
       (try dsimp only at H)
       obtain rfl := si_ H
       go_enter Try.func87, Try.ntmps87
       go_wp2_with (first | ((with_reducible refine gd_ (N := 1) rfl ?_); (try (refine gate_guard (by rfl) ?_; dsimp only)); refine bx_ (N := 1) (cs := #[.slice A0_0 l0_0.length c0_0, .bool false, .string a0_2, .int .i64 a0_3, .slice A0_4 l0_4.length c0_4]) (t := 57) ?_; intro gb35 hg w24 hbox hb; have BK35 := A_ (hbox); have GW35 := A_ (ge_ hg bB_ : w.heap.size <= gb35); have GE35 := A_ (ge_ hg bB_ : w.heap.size <= gb35); replace HB := A_ (below_step bB_ hb); clear hb hbox hg; obtain ⟨hcz25_0, hcz25_1, hcz25_2, hcz25_3, hcz25_4, hfz25_0, hfz25_1, hfz25_2, hfz25_3, hfz25_4⟩ := cz5_ BK35.out) | (go_at_call 108; (with_reducible refine (impl_PathOk.calls k _ _ l0_0 true _ ?s1 ?s2 A3.out).mono ?_); (case s1 => exact cC_ (Kd.C_below HR0_0.out HB.out)); (case s2 => exact HC0_0.out); rintro e w' ⟨rfl, ⟨nd, rfl⟩⟩) | (go_at_call 109; (with_reducible refine (impl_in.calls a0_3 0 99999 true _ A21.out).mono ?_); rintro e w' ⟨rfl, ⟨nd, rfl⟩⟩) | (go_at_call 58; (with_reducible refine (impl_PropsOk.calls k _ _ l0_4 t40 _ ?s1 ?s2 A23.out).mono ?_); (case s1 => exact cC_ (Kd.C_below HR0_4.out (bG_ GE35.out))); (case s2 => exact HC0_4.out); rintro e w26 ⟨rfl, hb⟩; replace HB := A_ (below_step (bG_ GE35.out) hb); clear hb))
       go_ret
       exact ⟨rr_, bG_ GE35.out⟩
     . replace c22 := Bool.eq_false_iff.mpr c22
       subst c22
       rw [if_neg nf_] at H
       obtain rfl := si_ H
       go_enter Try.func87, Try.ntmps87
       go_wp2_with (first | ((with_reducible refine gd_ (N := 1) rfl ?_); (try (refine gate_guard (by rfl) ?_; dsimp only)); refine bx_ (N := 1) (cs := #[.slice A0_0 l0_0.length c0_0, .bool false, .string a0_2, .int .i64 a0_3, .slice A0_4 l0_4.length c0_4]) (t := 57) ?_; intro gb35 hg w27 hbox hb; have BK35 := A_ (hbox); have GW35 := A_ (ge_ hg bB_ : w.heap.size <= gb35); have GE35 := A_ (ge_ hg bB_ : w.heap.size <= gb35); replace HB := A_ (below_step bB_ hb); clear hb hbox hg; obtain ⟨hcz28_0, hcz28_1, hcz28_2, hcz28_3, hcz28_4, hfz28_0, hfz28_1, hfz28_2, hfz28_3, hfz28_4⟩ := cz5_ BK35.out) | (go_at_call 108; (with_reducible refine (impl_PathOk.calls k _ _ l0_0 true _ ?s1 ?s2 A3.out).mono ?_); (case s1 => exact cC_ (Kd.C_below HR0_0.out HB.out)); (case s2 => exact HC0_0.out); rintro e w' ⟨rfl, ⟨nd, rfl⟩⟩) | (go_at_call 109; (with_reducible refine (impl_in.calls a0_3 0 99999 false _ A21.out).mono ?_); rintro e w' ⟨rfl, ⟨nd, rfl⟩⟩))
       go_ret
       exact ⟨rr_, bG_ GE35.out⟩
 . replace c4 := Bool.eq_false_iff.mpr c4
   subst c4
   rw [if_neg nf_] at H
   obtain rfl := si_ H
   go_enter Try.func87, Try.ntmps87
   go_wp2_with (first | ((with_reducible refine gd_ (N := 1) rfl ?_); (try (refine gate_guard (by rfl) ?_; dsimp only)); refine bx_ (N := 1) (cs := #[.slice A0_0 l0_0.length c0_0, .bool a0_1, .string a0_2, .int .i64 a0_3, .slice A0_4 l0_4.length c0_4]) (t := 57) ?_; intro gb35 hg w31 hbox hb; have BK35 := A_ (hbox); have GW35 := A_ (ge_ hg bB_ : w.heap.size <= gb35); have GE35 := A_ (ge_ hg bB_ : w.heap.size <= gb35); replace HB := A_ (below_step bB_ hb); clear hb hbox hg; obtain ⟨hcz32_0, hcz32_1, hcz32_2, hcz32_3, hcz32_4, hfz32_0, hfz32_1, hfz32_2, hfz32_3, hfz32_4⟩ := cz5_ BK35.out) | (go_at_call 108; (with_reducible refine (impl_PathOk.calls k _ _ l0_0 false _ ?s1 ?s2 A3.out).mono ?_); (case s1 => exact cC_ (Kd.C_below HR0_0.out HB.out)); (case s2 => exact HC0_0.out); rintro e w' ⟨rfl, ⟨nd, rfl⟩⟩))
   go_ret
   exact ⟨rr_, bG_ GE35.out⟩
mutual
def impl_LessPath.l0 : Nat -> List ByteArray -> List ByteArray -> Int -> Option (Bool)
 | 0, _, _, _ => none
 | k + 1, x0, x1, x5 => if x5 < (x0.length : Int) then (impl_LessPath.j1 k x0 x1 x5 (decide (x5 < (x1.length : Int)))) else (impl_LessPath.j1 k x0 x1 x5 false)
def impl_LessPath.j1 : Nat -> List ByteArray -> List ByteArray -> Int -> Bool -> Option (Bool)
 | 0, _, _, _, _ => none
 | k + 1, x0, x1, x5, x15 => if x15 = true then (if 0 <= x5 then (if x5 < (x0.length : Int) then (if x5 < (x1.length : Int) then (if (rdOf ByteArray.empty x0 x5).toList = (rdOf ByteArray.empty x1 x5).toList then (impl_LessPath.l0 k x0 x1 (wrap64 (x5 + 1))) else (some (Op.bytesLess ((rdOf ByteArray.empty x0 x5).toList) ((rdOf ByteArray.empty x1 x5).toList)))) else (none)) else (none)) else (none)) else (some (decide ((x0.length : Int) < (x1.length : Int))))
end
def impl_LessPath.f (k : Nat) (l0 : List ByteArray) (l1 : List ByteArray) : Option (Bool) := impl_LessPath.l0 k l0 l1 0
theorem impl_LessPath.calls (k : Nat) (A0 : Option Addr) (c0 : Nat) (l0 : List ByteArray) (A1 : Option Addr) (c1 : Nat) (l1 : List ByteArray) (r : Bool) (w : World) (hr0 : Kd.C Kd.string w A0 l0.length l0) (hc0 : l0.length <= c0) (hr1 : Kd.C Kd.string w A1 l1.length l1) (hc1 : l1.length <= c1) (h : impl_LessPath.f k l0 l1 = some r) :
 Calls Try.prog 88 #[.slice A0 l0.length c0, .slice A1 l1.length c1] w fun e w' => e = .returned (.bool r) /\ Drawn0 w w' := by
 have HR0 := A_ hr0
 clear hr0 hc0
 have HR1 := A_ hr1
 clear hr1 hc1
 have H : (impl_LessPath.l0 k l0 l1 0) = some r := h
 clear h
 have H' := A_ H
 clear H
 go_enter Try.func88, Try.ntmps88
 go_wp2
 repeat (go_quiet (fail); try go_wp2)
 go_loopg [5] k (fun kq v5 w' => ∃ (x5_1 : Int), v5 = .int .i64 x5_1 /\ Aside0 (impl_LessPath.l0 kq l0 l1 x5_1 = some r) /\ Aside0 (kq <= k) /\ Drawn0 w w')
 case atStart => exact ⟨(0), rs_, H', ⟨Nat.le_refl _⟩, dr_⟩
 case round =>
  clear H'
  obtain ⟨x5_1, rfl, HA, HK1, ⟨m1, rfl⟩⟩ := hrel
  cases gk with
  | zero => exact absurd HA.out (by simp [impl_LessPath.l0])
  | succ k1 =>
   have H := HA.out
   clear HA
   simp only [impl_LessPath.l0] at H
   have HC3 := A_ H
   clear H
   go_upto_region 2 with (fail)
   repeat (go_quiet (fail); go_upto_region 2 with (fail))
   go_cut [15] (fun v15 wc => ∃ (kq : Nat) (x15_2 : Bool), v15 = .bool x15_2 /\ Aside0 (impl_LessPath.j1 kq l0 l1 x5_1 x15_2 = some r) /\ Aside0 (kq <= k1) /\ Drawn0 w wc)
   case first =>
    have H := HC3.out
    clear HC3
    by_cases c4 : x5_1 < (l0.length : Int)
    rotate_left
    . rw [if_neg c4] at H
      have c4b0 := decide_eq_false c4
      clear c4
      (first | rw [c4b0] | (simp only [i64_w, i32_w]; rw [c4b0]) | skip)
      have H' := A_ H
      clear H
      go_wp2
      repeat (go_quiet (fail); try go_wp2)
      go_meet
      case rel => exact ⟨_, (false), rs_, H', ⟨by have := HK1.out; first | omega | exact Nat.le_refl _⟩, dr_⟩
    rw [if_pos c4] at H
    have c4b0 := decide_eq_true c4
    clear c4
    (first | rw [c4b0] | (simp only [i64_w, i32_w]; rw [c4b0]) | skip)
    have H' := A_ H
    clear H
    go_wp2
    repeat (go_quiet (fail); try go_wp2)
    go_meet
    case rel => exact ⟨_, (decide (x5_1 < (l1.length : Int))), rs_, H', ⟨by have := HK1.out; first | omega | exact Nat.le_refl _⟩, dr_⟩
   case rest =>
    clear HC3
    obtain ⟨kq, x15_2, rfl, HA, HJ2, ⟨mc2, rfl⟩⟩ := hcut
    cases kq with
    | zero => exact absurd HA.out (by simp [impl_LessPath.j1])
    | succ kj2 =>
     have H := HA.out
     clear HA
     simp only [impl_LessPath.j1] at H
     by_cases c5 : x15_2 = true
     . subst c5
       rw [if_pos rfl] at H
       by_cases c6 : 0 <= x5_1
       rotate_left
       . exact absurd H (by rw [if_neg c6]; simp)
       rw [if_pos c6] at H
       have c6b0 := decide_eq_true c6
       clear c6
       by_cases c7 : x5_1 < (l0.length : Int)
       rotate_left
       . exact absurd H (by rw [if_neg c7]; simp)
       rw [if_pos c7] at H
       have c7b0 := decide_eq_true c7
       clear c7
       by_cases c8 : x5_1 < (l1.length : Int)
       rotate_left
       . exact absurd H (by rw [if_neg c8]; simp)
       rw [if_pos c8] at H
       have c8b0 := decide_eq_true c8
       clear c8
       by_cases c9 : (rdOf ByteArray.empty l0 x5_1).toList = (rdOf ByteArray.empty l1 x5_1).toList
       . rw [if_pos c9] at H
         obtain ⟨c9b0, c9b1⟩ := eT_ c9
         clear c9
         have H' := A_ H
         clear H
         have p10 : 0 <= (x5_1 : Int) := od_
         have q10 : x5_1 < (l0.length : Int) := od_
         obtain ⟨ad10, e10, hx10_0⟩ := Kd.at_string HR0.out x5_1 p10 q10
         cases e10
         replace p10 := eq_true p10
         replace q10 := eq_true q10
         have p11 : 0 <= (x5_1 : Int) := od_
         have q11 : x5_1 < (l1.length : Int) := od_
         obtain ⟨ad11, e11, hx11_0⟩ := Kd.at_string HR1.out x5_1 p11 q11
         cases e11
         replace p11 := eq_true p11
         replace q11 := eq_true q11
         go_wp2
         repeat (go_quiet (fail); try go_wp2)
         go_roundg kj2
         case measure => have := HK1.out; have := HJ2.out; omega
         case rel => exact ⟨(wrap64 (x5_1 + 1)), rs_, H', ⟨by have := HK1.out; have := HJ2.out; omega⟩, dr_⟩
       rw [if_neg c9] at H
       obtain ⟨c9b0, c9b1⟩ := eF_ c9
       obtain rfl := si_ H
       have p10 : 0 <= (x5_1 : Int) := od_
       have q10 : x5_1 < (l0.length : Int) := od_
       obtain ⟨ad10, e10, hx10_0⟩ := Kd.at_string HR0.out x5_1 p10 q10
       cases e10
       replace p10 := eq_true p10
       replace q10 := eq_true q10
       have p11 : 0 <= (x5_1 : Int) := od_
       have q11 : x5_1 < (l1.length : Int) := od_
       obtain ⟨ad11, e11, hx11_0⟩ := Kd.at_string HR1.out x5_1 p11 q11
       cases e11
       replace p11 := eq_true p11
       replace q11 := eq_true q11
       have p12 : 0 <= (x5_1 : Int) := od_
       have q12 : x5_1 < (l0.length : Int) := od_
       obtain ⟨ad12, e12, hx12_0⟩ := Kd.at_string HR0.out x5_1 p12 q12
       obtain rfl : ad10 = ad12 := (by injection e12)
       replace p12 := eq_true p12
       replace q12 := eq_true q12
       have p13 : 0 <= (x5_1 : Int) := od_
       have q13 : x5_1 < (l1.length : Int) := od_
       obtain ⟨ad13, e13, hx13_0⟩ := Kd.at_string HR1.out x5_1 p13 q13
       obtain rfl : ad11 = ad13 := (by injection e13)
       replace p13 := eq_true p13
       replace q13 := eq_true q13
       go_wp2
       repeat (go_quiet (fail); try go_wp2)
       go_ret
       exact ⟨rs_, dr_⟩
     . replace c5 := Bool.eq_false_iff.mpr c5
       subst c5
       rw [if_neg nf_] at H
       obtain rfl := si_ H
       go_wp2
       repeat (go_quiet (fail); try go_wp2)
       go_ret
       exact ⟨rs_, dr_⟩
def impl_TreeOk.l0 : Nat -> List (S57) -> List (S57) -> Int -> Int -> Option (Bool)
 | 0, _, _, _, _ => none
 | k + 1, x0, x5, x6, x7 => if x7 < x6 then (if 0 <= x7 then (if x7 < (x5.length : Int) then ((impl_resOk.f k ((rd_T57 x5 x7).f0) ((rd_T57 x5 x7).f1) ((rd_T57 x5 x7).f2) ((rd_T57 x5 x7).f3) ((rd_T57 x5 x7).f4)).bind fun t317 => (if t317 = true then (if x7 > 0 then (if 0 <= (wrap64 (x7 - 1)) then (if (wrap64 (x7 - 1)) < (x0.length : Int) then ((impl_LessPath.f k ((rd_T57 x0 (wrap64 (x7 - 1))).f0) ((rd_T57 x5 x7).f0)).bind fun t319 => (if t319 = true then ((impl_Above.f ((rd_T57 x5 x7).f0)).bind fun t320 => ((impl_IsColl.f k x0 t320).bind fun t323 => (if t323 = true then (impl_TreeOk.l0 k x0 x5 x6 (wrap64 (x7 + 1))) else (some false)))) else (some false))) else (none)) else (none)) else ((impl_Above.f ((rd_T57 x5 x7).f0)).bind fun t324 => ((impl_IsColl.f k x0 t324).bind fun t327 => (if t327 = true then (impl_TreeOk.l0 k x0 x5 x6 (wrap64 (x7 + 1))) else (some false))))) else (some false))) else (none)) else (none)) else (some (decide ((x0.length : Int) <= 12)))
def impl_TreeOk.f (k : Nat) (l0 : List (S57)) : Option (Bool) := impl_TreeOk.l0 k l0 l0 (l0.length : Int) 0
def impl_TreeOk.T4 : Bool × List (List Nat × List Nat) := (true, [([], []), ([0], [0]), ([1], [1]), ([2, 1], [2]), ([3], [3]), ([4, 3], [3, 4]), ([5, 3, 3], [3, 5]), ([6], [6]), ([6], [6]), ([8, 6], [6, 8]), ([7, 9, 6], [6, 7, 9]), ([10, 6], [6, 10]), ([11, 6], [6, 11]), ([6], [6]), ([13, 6], [6, 13]), ([12, 14, 6, 6], [6, 12, 14]), ([15, 6], [6, 15]), ([6, 16, 3], [3, 6, 16]), ([3, 17], [3, 17]), ([18, 15], [18]), ([19], [19]), ([19], [19]), ([21, 19], [19, 21]), ([22, 19, 19], [19, 22]), ([20, 23, 23, 19], [19, 20, 23]), ([24, 19], [19, 24]), ([19, 25], [19, 25])])
def impl_TreeOk.B4 : List Nat := [0, 1, 3, 7, 15, 31, 63, 127, 127, 383, 1023, 2047, 4095, 127, 8319, 32767, 65535, 131071, 262143, 524287, 1048575, 1048575, 3145727, 7340031, 16777215, 33554431, 67108863]
theorem impl_TreeOk.tab4 : rtab .any (opsOf Try.f40 4) = impl_TreeOk.T4 := by kernel_rfl
theorem impl_TreeOk.bits4 : waitsOk impl_TreeOk.T4.2 impl_TreeOk.B4 = true := by kernel_rfl
set_option maxHeartbeats 8000000 in
set_option maxRecDepth 100000 in
theorem impl_TreeOk.calls (k : Nat) (A0 : Option Addr) (c0 : Nat) (l0 : List (S57)) (r : Bool) (w : World) (hr0 : Kd.C k57 w A0 l0.length l0) (hc0 : l0.length <= c0) (h : impl_TreeOk.f k l0 = some r) :
 Calls Try.prog 40 #[.slice A0 l0.length c0] w fun e w' => e = .returned (.bool r) /\ Below w.heap.size w w' := by
 have hu57 := Try.underlying57
 have HR0 := A_ hr0
 have HC0 := A_ hc0
 clear hr0 hc0
 have HB := A_ (Below.refl w.heap.size w)
 have H : (impl_TreeOk.l0 k l0 l0 (l0.length : Int) 0) = some r := h
 clear h
 have H' := A_ H
 clear H
 go_enter Try.func40, Try.ntmps40
 go_wp2
 go_loopg [7] k (fun kq v7 w' => ∃ (x7_1 : Int), v7 = .int .i64 x7_1 /\ Aside0 (impl_TreeOk.l0 kq l0 l0 (l0.length : Int) x7_1 = some r) /\ Aside0 (kq <= k) /\ Aside0 (Below w.heap.size w w'))
 case atStart => exact ⟨(0), rs_, H', ⟨Nat.le_refl _⟩, ⟨bB_⟩⟩
 case round =>
  clear H'
  obtain ⟨x7_1, rfl, HA, HK1, HB⟩ := hrel
  cases gk with
  | zero => exact absurd HA.out (by simp [impl_TreeOk.l0])
  | succ k1 =>
   have H := HA.out
   clear HA
   simp only [impl_TreeOk.l0] at H
   by_cases c2 : x7_1 < (l0.length : Int)
   rotate_left
   . rw [if_neg c2] at H
     have c2b0 := decide_eq_false c2
     clear c2
     obtain rfl := si_ H
     go_wp2
     go_ret
     exact ⟨rr_, bB_⟩
   rw [if_pos c2] at H
   have c2b0 := decide_eq_true c2
   clear c2
   by_cases c3 : 0 <= x7_1
   rotate_left
   . exact absurd H (by rw [if_neg c3]; simp)
   rw [if_pos c3] at H
   have c3b0 := decide_eq_true c3
   clear c3
   by_cases c4 : x7_1 < (l0.length : Int)
   rotate_left
   . exact absurd H (by rw [if_neg c4]; simp)
   rw [if_pos c4] at H
   have c4b0 := decide_eq_true c4
   clear c4
   obtain ⟨t71, A5, H⟩ := bo_ H
   (try dsimp only at H)
   by_cases c6 : t71 = true
   . subst c6
     rw [if_pos rfl] at H
     by_cases c7 : x7_1 > 0
     rotate_left
     . rw [if_neg c7] at H
       have c7b0 : decide (0 < x7_1) = false := decide_eq_false c7
       clear c7
       obtain ⟨t68, A37, H⟩ := bo_ H
       (try dsimp only at H)
       obtain ⟨t72, A38, H⟩ := bo_ H
       (try dsimp only at H)
       by_cases c39 : t72 = true
       . subst c39
         rw [if_pos rfl] at H
         have H' := A_ H
         clear H
         have p61 : 0 <= (x7_1 : Int) := od_
         have q61 : x7_1 < (l0.length : Int) := od_
         obtain ⟨ad61, A61_0, c61_0, A61_4, c61_4, e61, hx61_0, hx61_1, hx61_2, hx61_3, hx61_4, hl61_0, hi61_0, hl61_4, hi61_4⟩ := at_T57 HR0.out x7_1 p61 q61
         cases e61
         replace hx61_0 := bc_ HB.out hx61_0
         replace hx61_1 := bc_ HB.out hx61_1
         replace hx61_2 := bc_ HB.out hx61_2
         replace hx61_3 := bc_ HB.out hx61_3
         replace hx61_4 := bc_ HB.out hx61_4
         have HR61_0 := A_ hi61_0
         have HC61_0 := A_ hl61_0
         clear hi61_0 hl61_0
         have HR61_4 := A_ hi61_4
         have HC61_4 := A_ hl61_4
         clear hi61_4 hl61_4
         replace p61 := eq_true p61
         replace q61 := eq_true q61
         try go_wp2_with (first | ((with_reducible refine gd_ (N := 4) rfl ?_); refine bx_ (N := 4) (cs := #[.slice none 0 0, .bool false, .string (⟨#[]⟩ : ByteArray), .int .i64 0, .slice none 0 0]) (t := 57) ?_; intro gb62 hg w40 hbox hb; have BK62 := A_ (hbox); have GW62 := A_ (ge_ hg bB_ : w.heap.size <= gb62); have GE62 := A_ (ge_ hg bB_ : w.heap.size <= gb62); replace HB := A_ (below_step bB_ hb); clear hb hbox hg; obtain ⟨hcz41_0, hcz41_1, hcz41_2, hcz41_3, hcz41_4, hfz41_0, hfz41_1, hfz41_2, hfz41_3, hfz41_4⟩ := cz5_ BK62.out))
         obtain ⟨w42, hW_⟩ : ∃ w_, w_ = (((((w40.setCell ⟨gb62, 0, none⟩ (.slice A61_0 ((rd_T57 l0 x7_1).f0).length c61_0)).setCell ⟨gb62, 1, none⟩ (.bool ((rd_T57 l0 x7_1).f1))).setCell ⟨gb62, 2, none⟩ (.string ((rd_T57 l0 x7_1).f2))).setCell ⟨gb62, 3, none⟩ (.int .i64 ((rd_T57 l0 x7_1).f3))).setCell ⟨gb62, 4, none⟩ (.slice A61_4 ((rd_T57 l0 x7_1).f4).length c61_4)) := ⟨_, rfl⟩
         have n0_ : Aside0 (w42.heap[gb62]? = some (.cells #[.slice A61_0 ((rd_T57 l0 x7_1).f0).length c61_0, .bool ((rd_T57 l0 x7_1).f1), .string ((rd_T57 l0 x7_1).f2), .int .i64 ((rd_T57 l0 x7_1).f3), .slice A61_4 ((rd_T57 l0 x7_1).f4).length c61_4] 57 (0, 0))) := ⟨by rw [hW_]; (with_reducible repeat (first | refine blk_drewN ?_ _ | refine blk_drew ?_ | refine blk_alloc ?_ _)); with_reducible exact p5_01234_ (vb_ BK62.out)⟩
         have n1_ : Aside0 (Below w.heap.size w w42) := ⟨by rw [hW_]; exact bG_ GE62.out⟩
         (try clear BK62)
         (try clear HB)
         rw [← hW_]
         clear hW_
         have BK62 := n0_
         have HB := n1_
         clear n0_ n1_
         replace BK62 := A_ (blk_drew BK62.out)
         replace HB := A_ (below_drew1 HB.out)
         refine st5_ (n := 27) (ds := []) (bl_ BK62.out 0) (bl_ BK62.out 1) (bl_ BK62.out 2) (bl_ BK62.out 3) (bl_ BK62.out 4) (fun hHeld => ?_); refine with_tabW impl_TreeOk.tab4 impl_TreeOk.bits4 (fun HT_ HW_ => ?_)
         generalize w42.drew = w43 at BK62 HB hHeld ⊢
         refine tk_ (i := 0) (N := some 12) hHeld ?_
         refine on_ (i := 1) (N := some 13) (fun K hK => ?_)
         refine goes_ Try.func87 (by kernel_rfl) rfl #[.agg #[.slice A61_0 ((rd_T57 l0 x7_1).f0).length c61_0, .bool ((rd_T57 l0 x7_1).f1), .string ((rd_T57 l0 x7_1).f2), .int .i64 ((rd_T57 l0 x7_1).f3), .slice A61_4 ((rd_T57 l0 x7_1).f4).length c61_4]] (by rfl) rfl rfl ml_ ?_
         with_reducible refine (impl_resOk.calls k1 _ _ ((rd_T57 l0 x7_1).f0) ((rd_T57 l0 x7_1).f1) ((rd_T57 l0 x7_1).f2) ((rd_T57 l0 x7_1).f3) _ _ ((rd_T57 l0 x7_1).f4) true _ ?s1 ?s2 ?s3 ?s4 A5.out).mono ?_
         (case s1 => exact cC_ (Kd.C_below HR61_0.out HB.out))
         (case s2 => exact HC61_0.out)
         (case s3 => exact cC_ (Kd.C_below HR61_4.out HB.out))
         (case s4 => exact HC61_4.out)
         rintro e w44 ⟨rfl, hb⟩
         refine ⟨_, rfl, ?_⟩
         replace BK62 := A_ (bw_ BK62.out hb)
         replace HB := A_ (below_step (bG_ GE62.out) hb)
         clear hb
         refine hK.out _ _ (hl_ BK62.out) (fun hHeld => ?_)
         clear hK K
         refine no_ (some 13) ?_
         refine pu_ (i := 2) (N := some 14) ?_
         refine pu_ (i := 3) (N := some 15) ?_
         refine pu_ (i := 4) (N := some 16) ?_
         refine pu_ (i := 5) (N := some 17) ?_
         refine pu_ (i := 6) (N := some 18) ?_
         refine pn_ (i := 7) (N := some 19) ?_
         refine pn_ (i := 8) (N := some 20) ?_
         refine pn_ (i := 9) (N := some 21) ?_
         refine pn_ (i := 10) (N := some 22) ?_
         refine pn_ (i := 11) (N := some 23) ?_
         refine pn_ (i := 12) (N := some 24) ?_
         refine pn_ (i := 13) (N := some 25) ?_
         refine pn_ (i := 14) (N := some 26) ?_
         refine pn_ (i := 15) (N := some 27) ?_
         refine pn_ (i := 16) (N := some 28) ?_
         refine pu_ (i := 17) (N := some 29) ?_
         refine pu_ (i := 18) (N := some 30) ?_
         refine pu_ (i := 19) (N := some 31) ?_
         refine pu_ (i := 20) (N := some 32) ?_
         refine pu_ (i := 21) (N := some 33) ?_
         refine tk_ (i := 22) (N := some 34) hHeld ?_
         refine on_ (i := 23) (N := some 35) (fun K hK => ?_)
         refine goes_ Try.func44 (by kernel_rfl) rfl #[.slice A61_0 ((rd_T57 l0 x7_1).f0).length c61_0] (by rfl) rfl rfl ml_ ?_
         with_reducible refine (impl_Above.calls _ _ ((rd_T57 l0 x7_1).f0) t68 _ ?s1 ?s2 A37.out).mono ?_
         (case s1 => exact cC_ (Kd.C_below HR61_0.out HB.out))
         (case s2 => exact HC61_0.out)
         rintro e w45 ⟨v73, rfl, ho0, hb⟩
         refine ⟨_, rfl, ?_⟩
         have HO66 := A_ (Kd.R_lower ho0 (below_size (bG_ GE62.out)))
         replace BK62 := A_ (bw_ BK62.out hb)
         replace HB := A_ (below_step (bG_ GE62.out) hb)
         clear hb ho0
         obtain ⟨Ao46, co46, eo46⟩ := Kd.R_slice HO66.out
         (first | subst eo46 | (injection eo46 with f1_ f2_ f3_; have f4_ := f1_.symm; have f5_ := f3_.symm; clear f1_ f2_ f3_; subst f4_; subst f5_))
         refine hK.out _ _ (hl_ BK62.out) (fun hHeld => ?_)
         clear hK K
         refine no_ (some 35) ?_
         refine on_ (i := 24) (N := some 36) (fun K hK => ?_)
         refine goes_ Try.func43 (by kernel_rfl) rfl #[.slice (some ad61) l0.length c0, .slice Ao46 t68.length co46] (by rfl) rfl rfl ml_ ?_
         with_reducible refine (impl_IsColl.calls k1 _ _ l0 _ _ t68 true _ ?s1 ?s2 ?s3 ?s4 A38.out).mono ?_
         (case s1 => exact cC_ (Kd.C_below HR0.out HB.out))
         (case s2 => exact HC0.out)
         (case s3 => exact cC_ (Kd.R_reads' HO66.out).2.2)
         (case s4 => exact (Kd.R_reads' HO66.out).2.1)
         rintro e w47 ⟨rfl, hb⟩
         refine ⟨_, rfl, ?_⟩
         replace BK62 := A_ (bw_ BK62.out hb)
         replace HB := A_ (below_step (bG_ GE62.out) hb)
         clear hb
         refine hK.out _ _ (hl_ BK62.out) (fun hHeld => ?_)
         clear hK K
         refine no_ (some 36) ?_
         refine pu_ (i := 25) (N := some 37) ?_
         refine pu_ (i := 26) (N := some 38) ?_
         refine done_ (done_of HT_.out (by kernel_rfl)) ?_
         (try clear hHeld)
         try go_wp2
         go_roundg k1
         case measure => have := HK1.out; omega
         case rel => exact ⟨(wrap64 (x7_1 + 1)), rs_, H', ⟨by have := HK1.out; omega⟩, ⟨bG_ GE62.out⟩⟩
       . replace c39 := Bool.eq_false_iff.mpr c39
         subst c39
         rw [if_neg nf_] at H
         obtain rfl := si_ H
         have p61 : 0 <= (x7_1 : Int) := od_
         have q61 : x7_1 < (l0.length : Int) := od_
         obtain ⟨ad61, A61_0, c61_0, A61_4, c61_4, e61, hx61_0, hx61_1, hx61_2, hx61_3, hx61_4, hl61_0, hi61_0, hl61_4, hi61_4⟩ := at_T57 HR0.out x7_1 p61 q61
         cases e61
         replace hx61_0 := bc_ HB.out hx61_0
         replace hx61_1 := bc_ HB.out hx61_1
         replace hx61_2 := bc_ HB.out hx61_2
         replace hx61_3 := bc_ HB.out hx61_3
         replace hx61_4 := bc_ HB.out hx61_4
         have HR61_0 := A_ hi61_0
         have HC61_0 := A_ hl61_0
         clear hi61_0 hl61_0
         have HR61_4 := A_ hi61_4
         have HC61_4 := A_ hl61_4
         clear hi61_4 hl61_4
         replace p61 := eq_true p61
         replace q61 := eq_true q61
         try go_wp2_with (first | ((with_reducible refine gd_ (N := 4) rfl ?_); refine bx_ (N := 4) (cs := #[.slice none 0 0, .bool false, .string (⟨#[]⟩ : ByteArray), .int .i64 0, .slice none 0 0]) (t := 57) ?_; intro gb62 hg w48 hbox hb; have BK62 := A_ (hbox); have GW62 := A_ (ge_ hg bB_ : w.heap.size <= gb62); have GE62 := A_ (ge_ hg bB_ : w.heap.size <= gb62); replace HB := A_ (below_step bB_ hb); clear hb hbox hg; obtain ⟨hcz49_0, hcz49_1, hcz49_2, hcz49_3, hcz49_4, hfz49_0, hfz49_1, hfz49_2, hfz49_3, hfz49_4⟩ := cz5_ BK62.out))
         obtain ⟨w50, hW_⟩ : ∃ w_, w_ = (((((w48.setCell ⟨gb62, 0, none⟩ (.slice A61_0 ((rd_T57 l0 x7_1).f0).length c61_0)).setCell ⟨gb62, 1, none⟩ (.bool ((rd_T57 l0 x7_1).f1))).setCell ⟨gb62, 2, none⟩ (.string ((rd_T57 l0 x7_1).f2))).setCell ⟨gb62, 3, none⟩ (.int .i64 ((rd_T57 l0 x7_1).f3))).setCell ⟨gb62, 4, none⟩ (.slice A61_4 ((rd_T57 l0 x7_1).f4).length c61_4)) := ⟨_, rfl⟩
         have n0_ : Aside0 (w50.heap[gb62]? = some (.cells #[.slice A61_0 ((rd_T57 l0 x7_1).f0).length c61_0, .bool ((rd_T57 l0 x7_1).f1), .string ((rd_T57 l0 x7_1).f2), .int .i64 ((rd_T57 l0 x7_1).f3), .slice A61_4 ((rd_T57 l0 x7_1).f4).length c61_4] 57 (0, 0))) := ⟨by rw [hW_]; (with_reducible repeat (first | refine blk_drewN ?_ _ | refine blk_drew ?_ | refine blk_alloc ?_ _)); with_reducible exact p5_01234_ (vb_ BK62.out)⟩
         have n1_ : Aside0 (Below w.heap.size w w50) := ⟨by rw [hW_]; exact bG_ GE62.out⟩
         (try clear BK62)
         (try clear HB)
         rw [← hW_]
         clear hW_
         have BK62 := n0_
         have HB := n1_
         clear n0_ n1_
         replace BK62 := A_ (blk_drew BK62.out)
         replace HB := A_ (below_drew1 HB.out)
         refine st5_ (n := 27) (ds := []) (bl_ BK62.out 0) (bl_ BK62.out 1) (bl_ BK62.out 2) (bl_ BK62.out 3) (bl_ BK62.out 4) (fun hHeld => ?_); refine with_tabW impl_TreeOk.tab4 impl_TreeOk.bits4 (fun HT_ HW_ => ?_)
         generalize w50.drew = w51 at BK62 HB hHeld ⊢
         refine tk_ (i := 0) (N := some 12) hHeld ?_
         refine on_ (i := 1) (N := some 13) (fun K hK => ?_)
         refine goes_ Try.func87 (by kernel_rfl) rfl #[.agg #[.slice A61_0 ((rd_T57 l0 x7_1).f0).length c61_0, .bool ((rd_T57 l0 x7_1).f1), .string ((rd_T57 l0 x7_1).f2), .int .i64 ((rd_T57 l0 x7_1).f3), .slice A61_4 ((rd_T57 l0 x7_1).f4).length c61_4]] (by rfl) rfl rfl ml_ ?_
         with_reducible refine (impl_resOk.calls k1 _ _ ((rd_T57 l0 x7_1).f0) ((rd_T57 l0 x7_1).f1) ((rd_T57 l0 x7_1).f2) ((rd_T57 l0 x7_1).f3) _ _ ((rd_T57 l0 x7_1).f4) true _ ?s1 ?s2 ?s3 ?s4 A5.out).mono ?_
         (case s1 => exact cC_ (Kd.C_below HR61_0.out HB.out))
         (case s2 => exact HC61_0.out)
         (case s3 => exact cC_ (Kd.C_below HR61_4.out HB.out))
         (case s4 => exact HC61_4.out)
         rintro e w52 ⟨rfl, hb⟩
         refine ⟨_, rfl, ?_⟩
         replace BK62 := A_ (bw_ BK62.out hb)
         replace HB := A_ (below_step (bG_ GE62.out) hb)
         clear hb
         refine hK.out _ _ (hl_ BK62.out) (fun hHeld => ?_)
         clear hK K
         refine no_ (some 13) ?_
         refine pu_ (i := 2) (N := some 14) ?_
         refine pu_ (i := 3) (N := some 15) ?_
         refine pu_ (i := 4) (N := some 16) ?_
         refine pu_ (i := 5) (N := some 17) ?_
         refine pu_ (i := 6) (N := some 18) ?_
         refine pn_ (i := 7) (N := some 19) ?_
         refine pn_ (i := 8) (N := some 20) ?_
         refine pn_ (i := 9) (N := some 21) ?_
         refine pn_ (i := 10) (N := some 22) ?_
         refine pn_ (i := 11) (N := some 23) ?_
         refine pn_ (i := 12) (N := some 24) ?_
         refine pn_ (i := 13) (N := some 25) ?_
         refine pn_ (i := 14) (N := some 26) ?_
         refine pn_ (i := 15) (N := some 27) ?_
         refine pn_ (i := 16) (N := some 28) ?_
         refine pu_ (i := 17) (N := some 29) ?_
         refine pu_ (i := 18) (N := some 30) ?_
         refine pu_ (i := 19) (N := some 31) ?_
         refine pu_ (i := 20) (N := some 32) ?_
         refine pu_ (i := 21) (N := some 33) ?_
         refine tk_ (i := 22) (N := some 34) hHeld ?_
         refine on_ (i := 23) (N := some 35) (fun K hK => ?_)
         refine goes_ Try.func44 (by kernel_rfl) rfl #[.slice A61_0 ((rd_T57 l0 x7_1).f0).length c61_0] (by rfl) rfl rfl ml_ ?_
         with_reducible refine (impl_Above.calls _ _ ((rd_T57 l0 x7_1).f0) t68 _ ?s1 ?s2 A37.out).mono ?_
         (case s1 => exact cC_ (Kd.C_below HR61_0.out HB.out))
         (case s2 => exact HC61_0.out)
         rintro e w53 ⟨v73, rfl, ho0, hb⟩
         refine ⟨_, rfl, ?_⟩
         have HO66 := A_ (Kd.R_lower ho0 (below_size (bG_ GE62.out)))
         replace BK62 := A_ (bw_ BK62.out hb)
         replace HB := A_ (below_step (bG_ GE62.out) hb)
         clear hb ho0
         obtain ⟨Ao54, co54, eo54⟩ := Kd.R_slice HO66.out
         (first | subst eo54 | (injection eo54 with f1_ f2_ f3_; have f4_ := f1_.symm; have f5_ := f3_.symm; clear f1_ f2_ f3_; subst f4_; subst f5_))
         refine hK.out _ _ (hl_ BK62.out) (fun hHeld => ?_)
         clear hK K
         refine no_ (some 35) ?_
         refine on_ (i := 24) (N := some 36) (fun K hK => ?_)
         refine goes_ Try.func43 (by kernel_rfl) rfl #[.slice (some ad61) l0.length c0, .slice Ao54 t68.length co54] (by rfl) rfl rfl ml_ ?_
         with_reducible refine (impl_IsColl.calls k1 _ _ l0 _ _ t68 false _ ?s1 ?s2 ?s3 ?s4 A38.out).mono ?_
         (case s1 => exact cC_ (Kd.C_below HR0.out HB.out))
         (case s2 => exact HC0.out)
         (case s3 => exact cC_ (Kd.R_reads' HO66.out).2.2)
         (case s4 => exact (Kd.R_reads' HO66.out).2.1)
         rintro e w55 ⟨rfl, hb⟩
         refine ⟨_, rfl, ?_⟩
         replace BK62 := A_ (bw_ BK62.out hb)
         replace HB := A_ (below_step (bG_ GE62.out) hb)
         clear hb
         refine hK.out _ _ (hl_ BK62.out) (fun hHeld => ?_)
         clear hK K
         refine no_ (some 36) ?_
         refine pu_ (i := 25) (N := some 37) ?_
         refine pu_ (i := 26) (N := some 38) ?_
         refine done_ (done_of HT_.out (by kernel_rfl)) ?_
         (try clear hHeld)
         try go_wp2
         go_ret
         exact ⟨rr_, bG_ GE62.out⟩
     rw [if_pos c7] at H
     have c7b0 : decide (0 < x7_1) = true := decide_eq_true c7
     clear c7
     obtain ⟨ji8, hji8⟩ : ∃ j_ : Int, (wrap64 (x7_1 - 1)) = j_ := ⟨_, rfl⟩
     replace H : (if 0 <= (ji8) then (if (ji8) < (l0.length : Int) then ((impl_LessPath.f k1 ((rd_T57 l0 (ji8)).f0) ((rd_T57 l0 x7_1).f0)).bind fun t69 => (if t69 = true then ((impl_Above.f ((rd_T57 l0 x7_1).f0)).bind fun t65 => ((impl_IsColl.f k1 l0 t65).bind fun t70 => (if t70 = true then (impl_TreeOk.l0 k1 l0 l0 (l0.length : Int) (wrap64 (x7_1 + 1))) else (some false)))) else (some false))) else (none)) else (none)) = some r := by first | (rw [hji8] at H; exact H) | (simp only [hji8] at H ⊢; exact H)
     (try rw [hji8] at A5)
     have hji8w : (IntKind.i64.wrap (x7_1 - 1)) = ji8 := (i64_w _).trans hji8
     by_cases c9 : 0 <= (ji8)
     rotate_left
     . exact absurd H (by rw [if_neg c9]; simp)
     rw [if_pos c9] at H
     have c9b0 := decide_eq_true c9
     clear c9
     by_cases c10 : (ji8) < (l0.length : Int)
     rotate_left
     . exact absurd H (by rw [if_neg c10]; simp)
     rw [if_pos c10] at H
     have c10b0 := decide_eq_true c10
     clear c10
     obtain ⟨t69, A11, H⟩ := bo_ H
     (try dsimp only at H)
     by_cases c12 : t69 = true
     . subst c12
       rw [if_pos rfl] at H
       obtain ⟨t65, A13, H⟩ := bo_ H
       (try dsimp only at H)
       obtain ⟨t70, A14, H⟩ := bo_ H
       (try dsimp only at H)
       by_cases c15 : t70 = true
       . subst c15
         rw [if_pos rfl] at H
         have H' := A_ H
         clear H
         have p61 : 0 <= (x7_1 : Int) := od_
         have q61 : x7_1 < (l0.length : Int) := od_
         obtain ⟨ad61, A61_0, c61_0, A61_4, c61_4, e61, hx61_0, hx61_1, hx61_2, hx61_3, hx61_4, hl61_0, hi61_0, hl61_4, hi61_4⟩ := at_T57 HR0.out x7_1 p61 q61
         cases e61
         replace hx61_0 := bc_ HB.out hx61_0
         replace hx61_1 := bc_ HB.out hx61_1
         replace hx61_2 := bc_ HB.out hx61_2
         replace hx61_3 := bc_ HB.out hx61_3
         replace hx61_4 := bc_ HB.out hx61_4
         have HR61_0 := A_ hi61_0
         have HC61_0 := A_ hl61_0
         clear hi61_0 hl61_0
         have HR61_4 := A_ hi61_4
         have HC61_4 := A_ hl61_4
         clear hi61_4 hl61_4
         replace p61 := eq_true p61
         replace q61 := eq_true q61
         try go_wp2_with (first | ((with_reducible refine gd_ (N := 4) rfl ?_); refine bx_ (N := 4) (cs := #[.slice none 0 0, .bool false, .string (⟨#[]⟩ : ByteArray), .int .i64 0, .slice none 0 0]) (t := 57) ?_; intro gb62 hg w16 hbox hb; have BK62 := A_ (hbox); have GW62 := A_ (ge_ hg bB_ : w.heap.size <= gb62); have GE62 := A_ (ge_ hg bB_ : w.heap.size <= gb62); replace HB := A_ (below_step bB_ hb); clear hb hbox hg; obtain ⟨hcz17_0, hcz17_1, hcz17_2, hcz17_3, hcz17_4, hfz17_0, hfz17_1, hfz17_2, hfz17_3, hfz17_4⟩ := cz5_ BK62.out))
         obtain ⟨w18, hW_⟩ : ∃ w_, w_ = (((((w16.setCell ⟨gb62, 0, none⟩ (.slice A61_0 ((rd_T57 l0 x7_1).f0).length c61_0)).setCell ⟨gb62, 1, none⟩ (.bool ((rd_T57 l0 x7_1).f1))).setCell ⟨gb62, 2, none⟩ (.string ((rd_T57 l0 x7_1).f2))).setCell ⟨gb62, 3, none⟩ (.int .i64 ((rd_T57 l0 x7_1).f3))).setCell ⟨gb62, 4, none⟩ (.slice A61_4 ((rd_T57 l0 x7_1).f4).length c61_4)) := ⟨_, rfl⟩
         have n0_ : Aside0 (w18.heap[gb62]? = some (.cells #[.slice A61_0 ((rd_T57 l0 x7_1).f0).length c61_0, .bool ((rd_T57 l0 x7_1).f1), .string ((rd_T57 l0 x7_1).f2), .int .i64 ((rd_T57 l0 x7_1).f3), .slice A61_4 ((rd_T57 l0 x7_1).f4).length c61_4] 57 (0, 0))) := ⟨by rw [hW_]; (with_reducible repeat (first | refine blk_drewN ?_ _ | refine blk_drew ?_ | refine blk_alloc ?_ _)); with_reducible exact p5_01234_ (vb_ BK62.out)⟩
         have n1_ : Aside0 (Below w.heap.size w w18) := ⟨by rw [hW_]; exact bG_ GE62.out⟩
         (try clear BK62)
         (try clear HB)
         rw [← hW_]
         clear hW_
         have BK62 := n0_
         have HB := n1_
         clear n0_ n1_
         replace BK62 := A_ (blk_drew BK62.out)
         replace HB := A_ (below_drew1 HB.out)
         have p63 : 0 <= ((ji8) : Int) := od_
         have q63 : (ji8) < (l0.length : Int) := od_
         obtain ⟨ad63, A63_0, c63_0, A63_4, c63_4, e63, hx63_0, hx63_1, hx63_2, hx63_3, hx63_4, hl63_0, hi63_0, hl63_4, hi63_4⟩ := at_T57 HR0.out (ji8) p63 q63
         have hw63_4 := hx63_4
         have hw63_3 := hx63_3
         have hw63_2 := hx63_2
         have hw63_1 := hx63_1
         have hw63_0 := hx63_0
         obtain rfl : ad61 = ad63 := (by injection e63)
         replace hx63_0 := bc_ HB.out hx63_0
         replace hx63_1 := bc_ HB.out hx63_1
         replace hx63_2 := bc_ HB.out hx63_2
         replace hx63_3 := bc_ HB.out hx63_3
         replace hx63_4 := bc_ HB.out hx63_4
         have HR63_0 := A_ hi63_0
         have HC63_0 := A_ hl63_0
         clear hi63_0 hl63_0
         clear hi63_4 hl63_4
         replace p63 := eq_true p63
         replace q63 := eq_true q63
         refine st10_ (n := 27) (ds := []) (bl_ BK62.out 0) (bl_ BK62.out 1) (bl_ BK62.out 2) (bl_ BK62.out 3) (bl_ BK62.out 4) (be_ hw63_0) (be_ hw63_1) (be_ hw63_2) (be_ hw63_3) (be_ hw63_4) (fun hHeld => ?_); refine with_tabW impl_TreeOk.tab4 impl_TreeOk.bits4 (fun HT_ HW_ => ?_)
         generalize w18.drew = w19 at BK62 HB HR63_0 hx63_0 hx63_1 hx63_2 hx63_3 hx63_4 hHeld ⊢
         refine tk_ (i := 0) (N := some 12) hHeld ?_
         refine on_ (i := 1) (N := some 13) (fun K hK => ?_)
         refine goes_ Try.func87 (by kernel_rfl) rfl #[.agg #[.slice A61_0 ((rd_T57 l0 x7_1).f0).length c61_0, .bool ((rd_T57 l0 x7_1).f1), .string ((rd_T57 l0 x7_1).f2), .int .i64 ((rd_T57 l0 x7_1).f3), .slice A61_4 ((rd_T57 l0 x7_1).f4).length c61_4]] (by rfl) rfl rfl ml_ ?_
         with_reducible refine (impl_resOk.calls k1 _ _ ((rd_T57 l0 x7_1).f0) ((rd_T57 l0 x7_1).f1) ((rd_T57 l0 x7_1).f2) ((rd_T57 l0 x7_1).f3) _ _ ((rd_T57 l0 x7_1).f4) true _ ?s1 ?s2 ?s3 ?s4 A5.out).mono ?_
         (case s1 => exact cC_ (Kd.C_below HR61_0.out HB.out))
         (case s2 => exact HC61_0.out)
         (case s3 => exact cC_ (Kd.C_below HR61_4.out HB.out))
         (case s4 => exact HC61_4.out)
         rintro e w20 ⟨rfl, hb⟩
         refine ⟨_, rfl, ?_⟩
         replace BK62 := A_ (bw_ BK62.out hb)
         replace HB := A_ (below_step (bG_ GE62.out) hb)
         clear hb
         refine hK.out _ _ ⟨bl_ BK62.out 0, bl_ BK62.out 1, bl_ BK62.out 2, bl_ BK62.out 3, bl_ BK62.out 4, (be_ hw63_0), (be_ hw63_1), (be_ hw63_2), (be_ hw63_3), (be_ hw63_4)⟩ (fun hHeld => ?_)
         clear hK K
         refine no_ (some 13) ?_
         refine pu_ (i := 2) (N := some 14) ?_
         refine pu_ (i := 3) (N := some 15) ?_
         refine pu_ (i := 4) (N := some 16) ?_
         refine pu_ (i := 5) (N := some 17) ?_
         refine pu_ (i := 6) (N := some 18) ?_
         refine pu_ (i := 7) (N := some 19) ?_
         refine pu_ (i := 8) (N := some 20) ?_
         refine pu_ (i := 9) (N := some 21) ?_
         refine pu_ (i := 10) (N := some 22) ?_
         refine pu_ (i := 11) (N := some 23) ?_
         refine pu_ (i := 13) (N := some 25) ?_
         refine tk_ (i := 12) (N := some 24) hHeld ?_
         refine tk_ (i := 14) (N := some 26) hHeld ?_
         refine on_ (i := 15) (N := some 27) (fun K hK => ?_)
         refine goes_ Try.func88 (by kernel_rfl) rfl #[.slice A63_0 ((rd_T57 l0 (ji8)).f0).length c63_0, .slice A61_0 ((rd_T57 l0 x7_1).f0).length c61_0] (by rfl) rfl rfl (by (try simp only [List.map_toArray, List.map_cons, List.map_nil]); first | done | (simp only [hji8]; rfl) | rfl | (simp only [List.length_drop, List.length_take]; rfl)) ?_
         with_reducible refine (impl_LessPath.calls k1 _ _ ((rd_T57 l0 (ji8)).f0) _ _ ((rd_T57 l0 x7_1).f0) true _ ?s1 ?s2 ?s3 ?s4 A11.out).mono ?_
         (case s1 => exact cC_ (Kd.C_below HR63_0.out HB.out))
         (case s2 => exact HC63_0.out)
         (case s3 => exact cC_ (Kd.C_below HR61_0.out HB.out))
         (case s4 => exact HC61_0.out)
         rintro e w' ⟨rfl, ⟨nd, rfl⟩⟩
         refine ⟨_, rfl, ?_⟩
         refine hK.out _ _ ⟨bl_ BK62.out 0, bl_ BK62.out 1, bl_ BK62.out 2, bl_ BK62.out 3, bl_ BK62.out 4, (be_ hw63_0), (be_ hw63_1), (be_ hw63_2), (be_ hw63_3), (be_ hw63_4)⟩ (fun hHeld => ?_)
         clear hK K
         refine no_ (some 27) ?_
         refine pu_ (i := 16) (N := some 28) ?_
         refine pu_ (i := 17) (N := some 29) ?_
         refine pu_ (i := 18) (N := some 30) ?_
         refine pu_ (i := 19) (N := some 31) ?_
         refine pu_ (i := 20) (N := some 32) ?_
         refine pu_ (i := 21) (N := some 33) ?_
         refine tk_ (i := 22) (N := some 34) hHeld ?_
         refine on_ (i := 23) (N := some 35) (fun K hK => ?_)
         refine goes_ Try.func44 (by kernel_rfl) rfl #[.slice A61_0 ((rd_T57 l0 x7_1).f0).length c61_0] (by rfl) rfl rfl ml_ ?_
         with_reducible refine (impl_Above.calls _ _ ((rd_T57 l0 x7_1).f0) t65 _ ?s1 ?s2 A13.out).mono ?_
         (case s1 => exact cC_ (Kd.C_below HR61_0.out (bG_ GE62.out)))
         (case s2 => exact HC61_0.out)
         rintro e w21 ⟨v74, rfl, ho0, hb⟩
         refine ⟨_, rfl, ?_⟩
         have HO67 := A_ (Kd.R_lower ho0 (below_size (bG_ GE62.out)))
         replace BK62 := A_ (bw_ BK62.out hb)
         replace HB := A_ (below_step (bG_ GE62.out) hb)
         clear hb ho0
         obtain ⟨Ao22, co22, eo22⟩ := Kd.R_slice HO67.out
         (first | subst eo22 | (injection eo22 with f1_ f2_ f3_; have f4_ := f1_.symm; have f5_ := f3_.symm; clear f1_ f2_ f3_; subst f4_; subst f5_))
         refine hK.out _ _ ⟨bl_ BK62.out 0, bl_ BK62.out 1, bl_ BK62.out 2, bl_ BK62.out 3, bl_ BK62.out 4, (be_ hw63_0), (be_ hw63_1), (be_ hw63_2), (be_ hw63_3), (be_ hw63_4)⟩ (fun hHeld => ?_)
         clear hK K
         refine no_ (some 35) ?_
         refine on_ (i := 24) (N := some 36) (fun K hK => ?_)
         refine goes_ Try.func43 (by kernel_rfl) rfl #[.slice (some ad61) l0.length c0, .slice Ao22 t65.length co22] (by rfl) rfl rfl ml_ ?_
         with_reducible refine (impl_IsColl.calls k1 _ _ l0 _ _ t65 true _ ?s1 ?s2 ?s3 ?s4 A14.out).mono ?_
         (case s1 => exact cC_ (Kd.C_below HR0.out HB.out))
         (case s2 => exact HC0.out)
         (case s3 => exact cC_ (Kd.R_reads' HO67.out).2.2)
         (case s4 => exact (Kd.R_reads' HO67.out).2.1)
         rintro e w23 ⟨rfl, hb⟩
         refine ⟨_, rfl, ?_⟩
         replace BK62 := A_ (bw_ BK62.out hb)
         replace HB := A_ (below_step (bG_ GE62.out) hb)
         clear hb
         refine hK.out _ _ ⟨bl_ BK62.out 0, bl_ BK62.out 1, bl_ BK62.out 2, bl_ BK62.out 3, bl_ BK62.out 4, (be_ hw63_0), (be_ hw63_1), (be_ hw63_2), (be_ hw63_3), (be_ hw63_4)⟩ (fun hHeld => ?_)
         clear hK K
         refine no_ (some 36) ?_
         refine pu_ (i := 25) (N := some 37) ?_
         refine pu_ (i := 26) (N := some 38) ?_
         refine done_ (done_of HT_.out (by kernel_rfl)) ?_
         (try clear hHeld)
         try go_wp2
         go_roundg k1
         case measure => have := HK1.out; omega
         case rel => exact ⟨(wrap64 (x7_1 + 1)), rs_, H', ⟨by have := HK1.out; omega⟩, ⟨bG_ GE62.out⟩⟩
       . replace c15 := Bool.eq_false_iff.mpr c15
         subst c15
         rw [if_neg nf_] at H
         obtain rfl := si_ H
         have p61 : 0 <= (x7_1 : Int) := od_
         have q61 : x7_1 < (l0.length : Int) := od_
         obtain ⟨ad61, A61_0, c61_0, A61_4, c61_4, e61, hx61_0, hx61_1, hx61_2, hx61_3, hx61_4, hl61_0, hi61_0, hl61_4, hi61_4⟩ := at_T57 HR0.out x7_1 p61 q61
         cases e61
         replace hx61_0 := bc_ HB.out hx61_0
         replace hx61_1 := bc_ HB.out hx61_1
         replace hx61_2 := bc_ HB.out hx61_2
         replace hx61_3 := bc_ HB.out hx61_3
         replace hx61_4 := bc_ HB.out hx61_4
         have HR61_0 := A_ hi61_0
         have HC61_0 := A_ hl61_0
         clear hi61_0 hl61_0
         have HR61_4 := A_ hi61_4
         have HC61_4 := A_ hl61_4
         clear hi61_4 hl61_4
         replace p61 := eq_true p61
         replace q61 := eq_true q61
         try go_wp2_with (first | ((with_reducible refine gd_ (N := 4) rfl ?_); refine bx_ (N := 4) (cs := #[.slice none 0 0, .bool false, .string (⟨#[]⟩ : ByteArray), .int .i64 0, .slice none 0 0]) (t := 57) ?_; intro gb62 hg w24 hbox hb; have BK62 := A_ (hbox); have GW62 := A_ (ge_ hg bB_ : w.heap.size <= gb62); have GE62 := A_ (ge_ hg bB_ : w.heap.size <= gb62); replace HB := A_ (below_step bB_ hb); clear hb hbox hg; obtain ⟨hcz25_0, hcz25_1, hcz25_2, hcz25_3, hcz25_4, hfz25_0, hfz25_1, hfz25_2, hfz25_3, hfz25_4⟩ := cz5_ BK62.out))
         obtain ⟨w26, hW_⟩ : ∃ w_, w_ = (((((w24.setCell ⟨gb62, 0, none⟩ (.slice A61_0 ((rd_T57 l0 x7_1).f0).length c61_0)).setCell ⟨gb62, 1, none⟩ (.bool ((rd_T57 l0 x7_1).f1))).setCell ⟨gb62, 2, none⟩ (.string ((rd_T57 l0 x7_1).f2))).setCell ⟨gb62, 3, none⟩ (.int .i64 ((rd_T57 l0 x7_1).f3))).setCell ⟨gb62, 4, none⟩ (.slice A61_4 ((rd_T57 l0 x7_1).f4).length c61_4)) := ⟨_, rfl⟩
         have n0_ : Aside0 (w26.heap[gb62]? = some (.cells #[.slice A61_0 ((rd_T57 l0 x7_1).f0).length c61_0, .bool ((rd_T57 l0 x7_1).f1), .string ((rd_T57 l0 x7_1).f2), .int .i64 ((rd_T57 l0 x7_1).f3), .slice A61_4 ((rd_T57 l0 x7_1).f4).length c61_4] 57 (0, 0))) := ⟨by rw [hW_]; (with_reducible repeat (first | refine blk_drewN ?_ _ | refine blk_drew ?_ | refine blk_alloc ?_ _)); with_reducible exact p5_01234_ (vb_ BK62.out)⟩
         have n1_ : Aside0 (Below w.heap.size w w26) := ⟨by rw [hW_]; exact bG_ GE62.out⟩
         (try clear BK62)
         (try clear HB)
         rw [← hW_]
         clear hW_
         have BK62 := n0_
         have HB := n1_
         clear n0_ n1_
         replace BK62 := A_ (blk_drew BK62.out)
         replace HB := A_ (below_drew1 HB.out)
         have p63 : 0 <= ((ji8) : Int) := od_
         have q63 : (ji8) < (l0.length : Int) := od_
         obtain ⟨ad63, A63_0, c63_0, A63_4, c63_4, e63, hx63_0, hx63_1, hx63_2, hx63_3, hx63_4, hl63_0, hi63_0, hl63_4, hi63_4⟩ := at_T57 HR0.out (ji8) p63 q63
         have hw63_4 := hx63_4
         have hw63_3 := hx63_3
         have hw63_2 := hx63_2
         have hw63_1 := hx63_1
         have hw63_0 := hx63_0
         obtain rfl : ad61 = ad63 := (by injection e63)
         replace hx63_0 := bc_ HB.out hx63_0
         replace hx63_1 := bc_ HB.out hx63_1
         replace hx63_2 := bc_ HB.out hx63_2
         replace hx63_3 := bc_ HB.out hx63_3
         replace hx63_4 := bc_ HB.out hx63_4
         have HR63_0 := A_ hi63_0
         have HC63_0 := A_ hl63_0
         clear hi63_0 hl63_0
         clear hi63_4 hl63_4
         replace p63 := eq_true p63
         replace q63 := eq_true q63
         refine st10_ (n := 27) (ds := []) (bl_ BK62.out 0) (bl_ BK62.out 1) (bl_ BK62.out 2) (bl_ BK62.out 3) (bl_ BK62.out 4) (be_ hw63_0) (be_ hw63_1) (be_ hw63_2) (be_ hw63_3) (be_ hw63_4) (fun hHeld => ?_); refine with_tabW impl_TreeOk.tab4 impl_TreeOk.bits4 (fun HT_ HW_ => ?_)
         generalize w26.drew = w27 at BK62 HB HR63_0 hx63_0 hx63_1 hx63_2 hx63_3 hx63_4 hHeld ⊢
         refine tk_ (i := 0) (N := some 12) hHeld ?_
         refine on_ (i := 1) (N := some 13) (fun K hK => ?_)
         refine goes_ Try.func87 (by kernel_rfl) rfl #[.agg #[.slice A61_0 ((rd_T57 l0 x7_1).f0).length c61_0, .bool ((rd_T57 l0 x7_1).f1), .string ((rd_T57 l0 x7_1).f2), .int .i64 ((rd_T57 l0 x7_1).f3), .slice A61_4 ((rd_T57 l0 x7_1).f4).length c61_4]] (by rfl) rfl rfl ml_ ?_
         with_reducible refine (impl_resOk.calls k1 _ _ ((rd_T57 l0 x7_1).f0) ((rd_T57 l0 x7_1).f1) ((rd_T57 l0 x7_1).f2) ((rd_T57 l0 x7_1).f3) _ _ ((rd_T57 l0 x7_1).f4) true _ ?s1 ?s2 ?s3 ?s4 A5.out).mono ?_
         (case s1 => exact cC_ (Kd.C_below HR61_0.out HB.out))
         (case s2 => exact HC61_0.out)
         (case s3 => exact cC_ (Kd.C_below HR61_4.out HB.out))
         (case s4 => exact HC61_4.out)
         rintro e w28 ⟨rfl, hb⟩
         refine ⟨_, rfl, ?_⟩
         replace BK62 := A_ (bw_ BK62.out hb)
         replace HB := A_ (below_step (bG_ GE62.out) hb)
         clear hb
         refine hK.out _ _ ⟨bl_ BK62.out 0, bl_ BK62.out 1, bl_ BK62.out 2, bl_ BK62.out 3, bl_ BK62.out 4, (be_ hw63_0), (be_ hw63_1), (be_ hw63_2), (be_ hw63_3), (be_ hw63_4)⟩ (fun hHeld => ?_)
         clear hK K
         refine no_ (some 13) ?_
         refine pu_ (i := 2) (N := some 14) ?_
         refine pu_ (i := 3) (N := some 15) ?_
         refine pu_ (i := 4) (N := some 16) ?_
         refine pu_ (i := 5) (N := some 17) ?_
         refine pu_ (i := 6) (N := some 18) ?_
         refine pu_ (i := 7) (N := some 19) ?_
         refine pu_ (i := 8) (N := some 20) ?_
         refine pu_ (i := 9) (N := some 21) ?_
         refine pu_ (i := 10) (N := some 22) ?_
         refine pu_ (i := 11) (N := some 23) ?_
         refine pu_ (i := 13) (N := some 25) ?_
         refine tk_ (i := 12) (N := some 24) hHeld ?_
         refine tk_ (i := 14) (N := some 26) hHeld ?_
         refine on_ (i := 15) (N := some 27) (fun K hK => ?_)
         refine goes_ Try.func88 (by kernel_rfl) rfl #[.slice A63_0 ((rd_T57 l0 (ji8)).f0).length c63_0, .slice A61_0 ((rd_T57 l0 x7_1).f0).length c61_0] (by rfl) rfl rfl (by (try simp only [List.map_toArray, List.map_cons, List.map_nil]); first | done | (simp only [hji8]; rfl) | rfl | (simp only [List.length_drop, List.length_take]; rfl)) ?_
         with_reducible refine (impl_LessPath.calls k1 _ _ ((rd_T57 l0 (ji8)).f0) _ _ ((rd_T57 l0 x7_1).f0) true _ ?s1 ?s2 ?s3 ?s4 A11.out).mono ?_
         (case s1 => exact cC_ (Kd.C_below HR63_0.out HB.out))
         (case s2 => exact HC63_0.out)
         (case s3 => exact cC_ (Kd.C_below HR61_0.out HB.out))
         (case s4 => exact HC61_0.out)
         rintro e w' ⟨rfl, ⟨nd, rfl⟩⟩
         refine ⟨_, rfl, ?_⟩
         refine hK.out _ _ ⟨bl_ BK62.out 0, bl_ BK62.out 1, bl_ BK62.out 2, bl_ BK62.out 3, bl_ BK62.out 4, (be_ hw63_0), (be_ hw63_1), (be_ hw63_2), (be_ hw63_3), (be_ hw63_4)⟩ (fun hHeld => ?_)
         clear hK K
         refine no_ (some 27) ?_
         refine pu_ (i := 16) (N := some 28) ?_
         refine pu_ (i := 17) (N := some 29) ?_
         refine pu_ (i := 18) (N := some 30) ?_
         refine pu_ (i := 19) (N := some 31) ?_
         refine pu_ (i := 20) (N := some 32) ?_
         refine pu_ (i := 21) (N := some 33) ?_
         refine tk_ (i := 22) (N := some 34) hHeld ?_
         refine on_ (i := 23) (N := some 35) (fun K hK => ?_)
         refine goes_ Try.func44 (by kernel_rfl) rfl #[.slice A61_0 ((rd_T57 l0 x7_1).f0).length c61_0] (by rfl) rfl rfl ml_ ?_
         with_reducible refine (impl_Above.calls _ _ ((rd_T57 l0 x7_1).f0) t65 _ ?s1 ?s2 A13.out).mono ?_
         (case s1 => exact cC_ (Kd.C_below HR61_0.out (bG_ GE62.out)))
         (case s2 => exact HC61_0.out)
         rintro e w29 ⟨v74, rfl, ho0, hb⟩
         refine ⟨_, rfl, ?_⟩
         have HO67 := A_ (Kd.R_lower ho0 (below_size (bG_ GE62.out)))
         replace BK62 := A_ (bw_ BK62.out hb)
         replace HB := A_ (below_step (bG_ GE62.out) hb)
         clear hb ho0
         obtain ⟨Ao30, co30, eo30⟩ := Kd.R_slice HO67.out
         (first | subst eo30 | (injection eo30 with f1_ f2_ f3_; have f4_ := f1_.symm; have f5_ := f3_.symm; clear f1_ f2_ f3_; subst f4_; subst f5_))
         refine hK.out _ _ ⟨bl_ BK62.out 0, bl_ BK62.out 1, bl_ BK62.out 2, bl_ BK62.out 3, bl_ BK62.out 4, (be_ hw63_0), (be_ hw63_1), (be_ hw63_2), (be_ hw63_3), (be_ hw63_4)⟩ (fun hHeld => ?_)
         clear hK K
         refine no_ (some 35) ?_
         refine on_ (i := 24) (N := some 36) (fun K hK => ?_)
         refine goes_ Try.func43 (by kernel_rfl) rfl #[.slice (some ad61) l0.length c0, .slice Ao30 t65.length co30] (by rfl) rfl rfl ml_ ?_
         with_reducible refine (impl_IsColl.calls k1 _ _ l0 _ _ t65 false _ ?s1 ?s2 ?s3 ?s4 A14.out).mono ?_
         (case s1 => exact cC_ (Kd.C_below HR0.out HB.out))
         (case s2 => exact HC0.out)
         (case s3 => exact cC_ (Kd.R_reads' HO67.out).2.2)
         (case s4 => exact (Kd.R_reads' HO67.out).2.1)
         rintro e w31 ⟨rfl, hb⟩
         refine ⟨_, rfl, ?_⟩
         replace BK62 := A_ (bw_ BK62.out hb)
         replace HB := A_ (below_step (bG_ GE62.out) hb)
         clear hb
         refine hK.out _ _ ⟨bl_ BK62.out 0, bl_ BK62.out 1, bl_ BK62.out 2, bl_ BK62.out 3, bl_ BK62.out 4, (be_ hw63_0), (be_ hw63_1), (be_ hw63_2), (be_ hw63_3), (be_ hw63_4)⟩ (fun hHeld => ?_)
         clear hK K
         refine no_ (some 36) ?_
         refine pu_ (i := 25) (N := some 37) ?_
         refine pu_ (i := 26) (N := some 38) ?_
         refine done_ (done_of HT_.out (by kernel_rfl)) ?_
         (try clear hHeld)
         try go_wp2
         go_ret
         exact ⟨by first | rfl | (simp [errW_none, errW_some] <;> rfl) | (simp only [← hji8]; first | rfl | (simp [errW_none, errW_some] <;> rfl)) | (simp [*, errW_none, errW_some] <;> rfl), bG_ GE62.out⟩
     . replace c12 := Bool.eq_false_iff.mpr c12
       subst c12
       rw [if_neg nf_] at H
       obtain rfl := si_ H
       have p61 : 0 <= (x7_1 : Int) := od_
       have q61 : x7_1 < (l0.length : Int) := od_
       obtain ⟨ad61, A61_0, c61_0, A61_4, c61_4, e61, hx61_0, hx61_1, hx61_2, hx61_3, hx61_4, hl61_0, hi61_0, hl61_4, hi61_4⟩ := at_T57 HR0.out x7_1 p61 q61
       cases e61
       replace hx61_0 := bc_ HB.out hx61_0
       replace hx61_1 := bc_ HB.out hx61_1
       replace hx61_2 := bc_ HB.out hx61_2
       replace hx61_3 := bc_ HB.out hx61_3
       replace hx61_4 := bc_ HB.out hx61_4
       have HR61_0 := A_ hi61_0
       have HC61_0 := A_ hl61_0
       clear hi61_0 hl61_0
       have HR61_4 := A_ hi61_4
       have HC61_4 := A_ hl61_4
       clear hi61_4 hl61_4
       replace p61 := eq_true p61
       replace q61 := eq_true q61
       try go_wp2_with (first | ((with_reducible refine gd_ (N := 4) rfl ?_); refine bx_ (N := 4) (cs := #[.slice none 0 0, .bool false, .string (⟨#[]⟩ : ByteArray), .int .i64 0, .slice none 0 0]) (t := 57) ?_; intro gb62 hg w32 hbox hb; have BK62 := A_ (hbox); have GW62 := A_ (ge_ hg bB_ : w.heap.size <= gb62); have GE62 := A_ (ge_ hg bB_ : w.heap.size <= gb62); replace HB := A_ (below_step bB_ hb); clear hb hbox hg; obtain ⟨hcz33_0, hcz33_1, hcz33_2, hcz33_3, hcz33_4, hfz33_0, hfz33_1, hfz33_2, hfz33_3, hfz33_4⟩ := cz5_ BK62.out))
       obtain ⟨w34, hW_⟩ : ∃ w_, w_ = (((((w32.setCell ⟨gb62, 0, none⟩ (.slice A61_0 ((rd_T57 l0 x7_1).f0).length c61_0)).setCell ⟨gb62, 1, none⟩ (.bool ((rd_T57 l0 x7_1).f1))).setCell ⟨gb62, 2, none⟩ (.string ((rd_T57 l0 x7_1).f2))).setCell ⟨gb62, 3, none⟩ (.int .i64 ((rd_T57 l0 x7_1).f3))).setCell ⟨gb62, 4, none⟩ (.slice A61_4 ((rd_T57 l0 x7_1).f4).length c61_4)) := ⟨_, rfl⟩
       have n0_ : Aside0 (w34.heap[gb62]? = some (.cells #[.slice A61_0 ((rd_T57 l0 x7_1).f0).length c61_0, .bool ((rd_T57 l0 x7_1).f1), .string ((rd_T57 l0 x7_1).f2), .int .i64 ((rd_T57 l0 x7_1).f3), .slice A61_4 ((rd_T57 l0 x7_1).f4).length c61_4] 57 (0, 0))) := ⟨by rw [hW_]; (with_reducible repeat (first | refine blk_drewN ?_ _ | refine blk_drew ?_ | refine blk_alloc ?_ _)); with_reducible exact p5_01234_ (vb_ BK62.out)⟩
       have n1_ : Aside0 (Below w.heap.size w w34) := ⟨by rw [hW_]; exact bG_ GE62.out⟩
       (try clear BK62)
       (try clear HB)
       rw [← hW_]
       clear hW_
       have BK62 := n0_
       have HB := n1_
       clear n0_ n1_
       replace BK62 := A_ (blk_drew BK62.out)
       replace HB := A_ (below_drew1 HB.out)
       have p63 : 0 <= ((ji8) : Int) := od_
       have q63 : (ji8) < (l0.length : Int) := od_
       obtain ⟨ad63, A63_0, c63_0, A63_4, c63_4, e63, hx63_0, hx63_1, hx63_2, hx63_3, hx63_4, hl63_0, hi63_0, hl63_4, hi63_4⟩ := at_T57 HR0.out (ji8) p63 q63
       have hw63_4 := hx63_4
       have hw63_3 := hx63_3
       have hw63_2 := hx63_2
       have hw63_1 := hx63_1
       have hw63_0 := hx63_0
       obtain rfl : ad61 = ad63 := (by injection e63)
       replace hx63_0 := bc_ HB.out hx63_0
       replace hx63_1 := bc_ HB.out hx63_1
       replace hx63_2 := bc_ HB.out hx63_2
       replace hx63_3 := bc_ HB.out hx63_3
       replace hx63_4 := bc_ HB.out hx63_4
       have HR63_0 := A_ hi63_0
       have HC63_0 := A_ hl63_0
       clear hi63_0 hl63_0
       clear hi63_4 hl63_4
       replace p63 := eq_true p63
       replace q63 := eq_true q63
       refine st10_ (n := 27) (ds := []) (bl_ BK62.out 0) (bl_ BK62.out 1) (bl_ BK62.out 2) (bl_ BK62.out 3) (bl_ BK62.out 4) (be_ hw63_0) (be_ hw63_1) (be_ hw63_2) (be_ hw63_3) (be_ hw63_4) (fun hHeld => ?_); refine with_tabW impl_TreeOk.tab4 impl_TreeOk.bits4 (fun HT_ HW_ => ?_)
       generalize w34.drew = w35 at BK62 HB HR63_0 hx63_0 hx63_1 hx63_2 hx63_3 hx63_4 hHeld ⊢
       refine tk_ (i := 0) (N := some 12) hHeld ?_
       refine on_ (i := 1) (N := some 13) (fun K hK => ?_)
       refine goes_ Try.func87 (by kernel_rfl) rfl #[.agg #[.slice A61_0 ((rd_T57 l0 x7_1).f0).length c61_0, .bool ((rd_T57 l0 x7_1).f1), .string ((rd_T57 l0 x7_1).f2), .int .i64 ((rd_T57 l0 x7_1).f3), .slice A61_4 ((rd_T57 l0 x7_1).f4).length c61_4]] (by rfl) rfl rfl ml_ ?_
       with_reducible refine (impl_resOk.calls k1 _ _ ((rd_T57 l0 x7_1).f0) ((rd_T57 l0 x7_1).f1) ((rd_T57 l0 x7_1).f2) ((rd_T57 l0 x7_1).f3) _ _ ((rd_T57 l0 x7_1).f4) true _ ?s1 ?s2 ?s3 ?s4 A5.out).mono ?_
       (case s1 => exact cC_ (Kd.C_below HR61_0.out HB.out))
       (case s2 => exact HC61_0.out)
       (case s3 => exact cC_ (Kd.C_below HR61_4.out HB.out))
       (case s4 => exact HC61_4.out)
       rintro e w36 ⟨rfl, hb⟩
       refine ⟨_, rfl, ?_⟩
       replace BK62 := A_ (bw_ BK62.out hb)
       replace HB := A_ (below_step (bG_ GE62.out) hb)
       clear hb
       refine hK.out _ _ ⟨bl_ BK62.out 0, bl_ BK62.out 1, bl_ BK62.out 2, bl_ BK62.out 3, bl_ BK62.out 4, (be_ hw63_0), (be_ hw63_1), (be_ hw63_2), (be_ hw63_3), (be_ hw63_4)⟩ (fun hHeld => ?_)
       clear hK K
       refine no_ (some 13) ?_
       refine pu_ (i := 2) (N := some 14) ?_
       refine pu_ (i := 3) (N := some 15) ?_
       refine pu_ (i := 4) (N := some 16) ?_
       refine pu_ (i := 5) (N := some 17) ?_
       refine pu_ (i := 6) (N := some 18) ?_
       refine pu_ (i := 7) (N := some 19) ?_
       refine pu_ (i := 8) (N := some 20) ?_
       refine pu_ (i := 9) (N := some 21) ?_
       refine pu_ (i := 10) (N := some 22) ?_
       refine pu_ (i := 11) (N := some 23) ?_
       refine pu_ (i := 13) (N := some 25) ?_
       refine tk_ (i := 12) (N := some 24) hHeld ?_
       refine tk_ (i := 14) (N := some 26) hHeld ?_
       refine on_ (i := 15) (N := some 27) (fun K hK => ?_)
       refine goes_ Try.func88 (by kernel_rfl) rfl #[.slice A63_0 ((rd_T57 l0 (ji8)).f0).length c63_0, .slice A61_0 ((rd_T57 l0 x7_1).f0).length c61_0] (by rfl) rfl rfl (by (try simp only [List.map_toArray, List.map_cons, List.map_nil]); first | done | (simp only [hji8]; rfl) | rfl | (simp only [List.length_drop, List.length_take]; rfl)) ?_
       with_reducible refine (impl_LessPath.calls k1 _ _ ((rd_T57 l0 (ji8)).f0) _ _ ((rd_T57 l0 x7_1).f0) false _ ?s1 ?s2 ?s3 ?s4 A11.out).mono ?_
       (case s1 => exact cC_ (Kd.C_below HR63_0.out HB.out))
       (case s2 => exact HC63_0.out)
       (case s3 => exact cC_ (Kd.C_below HR61_0.out HB.out))
       (case s4 => exact HC61_0.out)
       rintro e w' ⟨rfl, ⟨nd, rfl⟩⟩
       refine ⟨_, rfl, ?_⟩
       refine hK.out _ _ ⟨bl_ BK62.out 0, bl_ BK62.out 1, bl_ BK62.out 2, bl_ BK62.out 3, bl_ BK62.out 4, (be_ hw63_0), (be_ hw63_1), (be_ hw63_2), (be_ hw63_3), (be_ hw63_4)⟩ (fun hHeld => ?_)
       clear hK K
       refine no_ (some 27) ?_
       refine pu_ (i := 16) (N := some 28) ?_
       refine pu_ (i := 17) (N := some 29) ?_
       refine pu_ (i := 18) (N := some 30) ?_
       refine pu_ (i := 19) (N := some 31) ?_
       refine pn_ (i := 20) (N := some 32) ?_
       refine pn_ (i := 21) (N := some 33) ?_
       refine pn_ (i := 22) (N := some 34) ?_
       refine pn_ (i := 23) (N := some 35) ?_
       refine pn_ (i := 24) (N := some 36) ?_
       refine pn_ (i := 25) (N := some 37) ?_
       refine pu_ (i := 26) (N := some 38) ?_
       refine done_ (done_of HT_.out (by kernel_rfl)) ?_
       (try clear hHeld)
       try go_wp2
       go_ret
       exact ⟨by first | rfl | (simp [errW_none, errW_some] <;> rfl) | (simp only [← hji8]; first | rfl | (simp [errW_none, errW_some] <;> rfl)) | (simp [*, errW_none, errW_some] <;> rfl), bG_ GE62.out⟩
   . replace c6 := Bool.eq_false_iff.mpr c6
     subst c6
     rw [if_neg nf_] at H
     obtain rfl := si_ H
     have p61 : 0 <= (x7_1 : Int) := od_
     have q61 : x7_1 < (l0.length : Int) := od_
     obtain ⟨ad61, A61_0, c61_0, A61_4, c61_4, e61, hx61_0, hx61_1, hx61_2, hx61_3, hx61_4, hl61_0, hi61_0, hl61_4, hi61_4⟩ := at_T57 HR0.out x7_1 p61 q61
     cases e61
     replace hx61_0 := bc_ HB.out hx61_0
     replace hx61_1 := bc_ HB.out hx61_1
     replace hx61_2 := bc_ HB.out hx61_2
     replace hx61_3 := bc_ HB.out hx61_3
     replace hx61_4 := bc_ HB.out hx61_4
     have HR61_0 := A_ hi61_0
     have HC61_0 := A_ hl61_0
     clear hi61_0 hl61_0
     have HR61_4 := A_ hi61_4
     have HC61_4 := A_ hl61_4
     clear hi61_4 hl61_4
     replace p61 := eq_true p61
     replace q61 := eq_true q61
     try go_wp2_with (first | ((with_reducible refine gd_ (N := 4) rfl ?_); refine bx_ (N := 4) (cs := #[.slice none 0 0, .bool false, .string (⟨#[]⟩ : ByteArray), .int .i64 0, .slice none 0 0]) (t := 57) ?_; intro gb62 hg w56 hbox hb; have BK62 := A_ (hbox); have GW62 := A_ (ge_ hg bB_ : w.heap.size <= gb62); have GE62 := A_ (ge_ hg bB_ : w.heap.size <= gb62); replace HB := A_ (below_step bB_ hb); clear hb hbox hg; obtain ⟨hcz57_0, hcz57_1, hcz57_2, hcz57_3, hcz57_4, hfz57_0, hfz57_1, hfz57_2, hfz57_3, hfz57_4⟩ := cz5_ BK62.out))
     obtain ⟨w58, hW_⟩ : ∃ w_, w_ = (((((w56.setCell ⟨gb62, 0, none⟩ (.slice A61_0 ((rd_T57 l0 x7_1).f0).length c61_0)).setCell ⟨gb62, 1, none⟩ (.bool ((rd_T57 l0 x7_1).f1))).setCell ⟨gb62, 2, none⟩ (.string ((rd_T57 l0 x7_1).f2))).setCell ⟨gb62, 3, none⟩ (.int .i64 ((rd_T57 l0 x7_1).f3))).setCell ⟨gb62, 4, none⟩ (.slice A61_4 ((rd_T57 l0 x7_1).f4).length c61_4)) := ⟨_, rfl⟩
     have n0_ : Aside0 (w58.heap[gb62]? = some (.cells #[.slice A61_0 ((rd_T57 l0 x7_1).f0).length c61_0, .bool ((rd_T57 l0 x7_1).f1), .string ((rd_T57 l0 x7_1).f2), .int .i64 ((rd_T57 l0 x7_1).f3), .slice A61_4 ((rd_T57 l0 x7_1).f4).length c61_4] 57 (0, 0))) := ⟨by rw [hW_]; (with_reducible repeat (first | refine blk_drewN ?_ _ | refine blk_drew ?_ | refine blk_alloc ?_ _)); with_reducible exact p5_01234_ (vb_ BK62.out)⟩
     have n1_ : Aside0 (Below w.heap.size w w58) := ⟨by rw [hW_]; exact bG_ GE62.out⟩
     (try clear BK62)
     (try clear HB)
     rw [← hW_]
     clear hW_
     have BK62 := n0_
     have HB := n1_
     clear n0_ n1_
     replace BK62 := A_ (blk_drew BK62.out)
     replace HB := A_ (below_drew1 HB.out)
     refine st5_ (n := 27) (ds := []) (bl_ BK62.out 0) (bl_ BK62.out 1) (bl_ BK62.out 2) (bl_ BK62.out 3) (bl_ BK62.out 4) (fun hHeld => ?_); refine with_tabW impl_TreeOk.tab4 impl_TreeOk.bits4 (fun HT_ HW_ => ?_)
     generalize w58.drew = w59 at BK62 HB hHeld ⊢
     refine tk_ (i := 0) (N := some 12) hHeld ?_
     refine on_ (i := 1) (N := some 13) (fun K hK => ?_)
     refine goes_ Try.func87 (by kernel_rfl) rfl #[.agg #[.slice A61_0 ((rd_T57 l0 x7_1).f0).length c61_0, .bool ((rd_T57 l0 x7_1).f1), .string ((rd_T57 l0 x7_1).f2), .int .i64 ((rd_T57 l0 x7_1).f3), .slice A61_4 ((rd_T57 l0 x7_1).f4).length c61_4]] (by rfl) rfl rfl ml_ ?_
     with_reducible refine (impl_resOk.calls k1 _ _ ((rd_T57 l0 x7_1).f0) ((rd_T57 l0 x7_1).f1) ((rd_T57 l0 x7_1).f2) ((rd_T57 l0 x7_1).f3) _ _ ((rd_T57 l0 x7_1).f4) false _ ?s1 ?s2 ?s3 ?s4 A5.out).mono ?_
     (case s1 => exact cC_ (Kd.C_below HR61_0.out HB.out))
     (case s2 => exact HC61_0.out)
     (case s3 => exact cC_ (Kd.C_below HR61_4.out HB.out))
     (case s4 => exact HC61_4.out)
     rintro e w60 ⟨rfl, hb⟩
     refine ⟨_, rfl, ?_⟩
     replace BK62 := A_ (bw_ BK62.out hb)
     replace HB := A_ (below_step (bG_ GE62.out) hb)
     clear hb
     refine hK.out _ _ (hl_ BK62.out) (fun hHeld => ?_)
     clear hK K
     refine no_ (some 13) ?_
     refine pu_ (i := 2) (N := some 14) ?_
     refine pu_ (i := 3) (N := some 15) ?_
     refine pn_ (i := 4) (N := some 16) ?_
     refine pn_ (i := 5) (N := some 17) ?_
     refine pn_ (i := 6) (N := some 18) ?_
     refine pn_ (i := 7) (N := some 19) ?_
     refine pn_ (i := 8) (N := some 20) ?_
     refine pn_ (i := 9) (N := some 21) ?_
     refine pn_ (i := 10) (N := some 22) ?_
     refine pn_ (i := 11) (N := some 23) ?_
     refine pn_ (i := 12) (N := some 24) ?_
     refine pn_ (i := 13) (N := some 25) ?_
     refine pn_ (i := 14) (N := some 26) ?_
     refine pn_ (i := 15) (N := some 27) ?_
     refine pn_ (i := 16) (N := some 28) ?_
     refine pn_ (i := 17) (N := some 29) ?_
     refine pu_ (i := 18) (N := some 30) ?_
     refine pu_ (i := 19) (N := some 31) ?_
     refine pn_ (i := 20) (N := some 32) ?_
     refine pn_ (i := 21) (N := some 33) ?_
     refine pn_ (i := 22) (N := some 34) ?_
     refine pn_ (i := 23) (N := some 35) ?_
     refine pn_ (i := 24) (N := some 36) ?_
     refine pn_ (i := 25) (N := some 37) ?_
     refine pu_ (i := 26) (N := some 38) ?_
     refine done_ (done_of HT_.out (by kernel_rfl)) ?_
     (try clear hHeld)
     try go_wp2
     go_ret
     exact ⟨rr_, bG_ GE62.out⟩
end Go.Proofs.Ytbgggcgjijljkaa.Q
