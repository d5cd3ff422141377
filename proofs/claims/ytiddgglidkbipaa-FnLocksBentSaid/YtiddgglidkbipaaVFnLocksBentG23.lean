-- PRINTED by print.py (a twelfth state) out of the translation. Not trusted: Lean checks it.
import Derived.Test.YtiddgglidkbipaaVFnLocksBentG12
import Derived.Test.YtiddgglidkbipaaVFnLocksBentG22
namespace Go.Proofs.Ytiddgglidkbipaa.Q
open Go.RowKit Go.Proofs.YtiddgglidkbipaaW.PrintWords Go.Proofs.YtiddgglidkbipaaW.PrintLast Go.Proofs.YtiddgglidkbipaaW.PrintMore
attribute [local go_sem] max2_int min2_int max_two min_two max_three min_three max_four min_four   -- for this text's walks alone
set_option linter.unusedVariables false
set_option linter.unusedSimpArgs false
def spec_SamePath.l0 : Nat → List ByteArray → List ByteArray → Int → Option (Bool)
 | 0, _, _, _ => none
 | k + 1, x0, x1, x5 => if x5 < (x0.length : Int) then (if 0 ≤ x5 then (if x5 < (x1.length : Int) then (if (rdOf ByteArray.empty x0 x5).toList = (rdOf ByteArray.empty x1 x5).toList then (spec_SamePath.l0 k x0 x1 (wrap64 (x5 + 1))) else (some false)) else (none)) else (none)) else (some true)
def spec_SamePath.f (k : Nat) (l0 : List ByteArray) (l1 : List ByteArray) : Option (Bool) := if (l0.length : Int) = (l1.length : Int) then (spec_SamePath.l0 k l0 l1 0) else (some false)
set_option maxHeartbeats 8000000 in
set_option maxRecDepth 100000 in
theorem spec_SamePath.calls (k : Nat) (A0 : Option Addr) (c0 : Nat) (l0 : List ByteArray) (A1 : Option Addr) (c1 : Nat) (l1 : List ByteArray) (r : Bool) (w : World) (hr0 : Kd.C Kd.string w A0 l0.length l0) (hc0 : l0.length ≤ c0) (hr1 : Kd.C Kd.string w A1 l1.length l1) (hc1 : l1.length ≤ c1) (h : spec_SamePath.f k l0 l1 = some r) :
 Calls Try.prog 62 #[.slice A0 l0.length c0, .slice A1 l1.length c1] w fun e w' => e = .returned (.bool r) ∧ Drawn0 w w' := by
 have HR0 := Aside0.mk hr0
 have HC0 := Aside0.mk hc0
 clear hr0 hc0
 have HR1 := Aside0.mk hr1
 have HC1 := Aside0.mk hc1
 clear hr1 hc1
 have H : (if (l0.length : Int) = (l1.length : Int) then (spec_SamePath.l0 k l0 l1 0) else (some false)) = some r := h
 clear h
 by_cases c3 : (l0.length : Int) = (l1.length : Int)
 rotate_left
 · rw [if_neg c3] at H
   have c3b0 : ((l0.length : Int) == (l1.length : Int)) = false := beq_eq_false_iff_ne.mpr c3
   have c3b1 : ((l0.length : Int) != (l1.length : Int)) = true := bne_iff_ne.mpr c3
   have c3b2 : (l0.length == l1.length) = false := by first | simpa using c3 | (simp at c3 ⊢; omega)
   obtain rfl := Option.some.inj H
   go_enter Try.func62, Try.ntmps62
   go_wp2
   repeat (go_quiet (fail); try go_wp2)
   go_ret
   exact ⟨rs_, dr_⟩
 rw [if_pos c3] at H
 have c3b0 : ((l0.length : Int) == (l1.length : Int)) = true := beq_iff_eq.mpr c3
 have c3b1 : ((l0.length : Int) != (l1.length : Int)) = false := bne_eq_false_iff_eq.mpr c3
 have c3b2 : (l0.length == l1.length) = true := by first | simpa using c3 | (simp at c3 ⊢; omega)
 clear c3
 have H' := Aside0.mk H
 clear H
 go_enter Try.func62, Try.ntmps62
 go_wp2
 repeat (go_quiet (fail); try go_wp2)
 go_loopg [5] k (fun kq v5 w' => ∃ (x5_1 : Int), v5 = .int .i64 x5_1 ∧ Aside0 (spec_SamePath.l0 kq l0 l1 x5_1 = some r) ∧ Aside0 (kq ≤ k) ∧ Drawn0 w w')
 case atStart => exact ⟨(0), rs_, H', ⟨Nat.le_refl _⟩, dr_⟩
 case round =>
  clear H'
  try clear c1
  try clear p2
  try clear c3
  try clear c3b0
  try clear c3b1
  try clear c3b2
  obtain ⟨x5_1, rfl, HA, HK1, ⟨m1, rfl⟩⟩ := hrel
  cases gk with
  | zero => exact absurd HA.out (by simp [spec_SamePath.l0])
  | succ k1 =>
   have H := HA.out
   clear HA
   simp only [spec_SamePath.l0] at H
   by_cases c4 : x5_1 < (l0.length : Int)
   rotate_left
   · rw [if_neg c4] at H
     have c4b0 : decide (x5_1 < (l0.length : Int)) = false := decide_eq_false c4
     clear c4
     obtain rfl := Option.some.inj H
     go_wp2
     repeat (go_quiet (fail); try go_wp2)
     go_ret
     exact ⟨rs_, dr_⟩
   rw [if_pos c4] at H
   have c4b0 : decide (x5_1 < (l0.length : Int)) = true := decide_eq_true c4
   clear c4
   by_cases c5 : 0 ≤ x5_1
   rotate_left
   · exact absurd H (by rw [if_neg c5]; simp)
   rw [if_pos c5] at H
   have c5b0 : decide (0 ≤ x5_1) = true := decide_eq_true c5
   clear c5
   by_cases c6 : x5_1 < (l1.length : Int)
   rotate_left
   · exact absurd H (by rw [if_neg c6]; simp)
   rw [if_pos c6] at H
   have c6b0 : decide (x5_1 < (l1.length : Int)) = true := decide_eq_true c6
   clear c6
   by_cases c7 : (rdOf ByteArray.empty l0 x5_1).toList = (rdOf ByteArray.empty l1 x5_1).toList
   rotate_left
   · rw [if_neg c7] at H
     have c7b0 : ((rdOf ByteArray.empty l0 x5_1).toList == (rdOf ByteArray.empty l1 x5_1).toList) = false := beq_eq_false_iff_ne.mpr c7
     have c7b1 : ((rdOf ByteArray.empty l0 x5_1).toList != (rdOf ByteArray.empty l1 x5_1).toList) = true := bne_iff_ne.mpr c7
     obtain rfl := Option.some.inj H
     have p104 : 0 ≤ (x5_1 : Int) := of_decide_eq_true as_
     have q104 : x5_1 < (l0.length : Int) := of_decide_eq_true as_
     obtain ⟨ad104, e104, hx104_0⟩ := Kd.at_string HR0.out x5_1 p104 q104
     cases e104
     replace p104 := eq_true p104
     replace q104 := eq_true q104
     have p105 : 0 ≤ (x5_1 : Int) := of_decide_eq_true as_
     have q105 : x5_1 < (l1.length : Int) := of_decide_eq_true as_
     obtain ⟨ad105, e105, hx105_0⟩ := Kd.at_string HR1.out x5_1 p105 q105
     cases e105
     replace p105 := eq_true p105
     replace q105 := eq_true q105
     go_wp2
     repeat (go_quiet (fail); try go_wp2)
     go_ret
     exact ⟨rs_, dr_⟩
   rw [if_pos c7] at H
   have c7b0 : ((rdOf ByteArray.empty l0 x5_1).toList == (rdOf ByteArray.empty l1 x5_1).toList) = true := beq_iff_eq.mpr c7
   have c7b1 : ((rdOf ByteArray.empty l0 x5_1).toList != (rdOf ByteArray.empty l1 x5_1).toList) = false := bne_eq_false_iff_eq.mpr c7
   clear c7
   have H' := Aside0.mk H
   clear H
   have p104 : 0 ≤ (x5_1 : Int) := of_decide_eq_true as_
   have q104 : x5_1 < (l0.length : Int) := of_decide_eq_true as_
   obtain ⟨ad104, e104, hx104_0⟩ := Kd.at_string HR0.out x5_1 p104 q104
   cases e104
   replace p104 := eq_true p104
   replace q104 := eq_true q104
   have p105 : 0 ≤ (x5_1 : Int) := of_decide_eq_true as_
   have q105 : x5_1 < (l1.length : Int) := of_decide_eq_true as_
   obtain ⟨ad105, e105, hx105_0⟩ := Kd.at_string HR1.out x5_1 p105 q105
   cases e105
   replace p105 := eq_true p105
   replace q105 := eq_true q105
   go_wp2
   repeat (go_quiet (fail); try go_wp2)
   go_roundg k1
   case measure => have := HK1.out; omega
   case rel => exact ⟨(wrap64 (x5_1 + 1)), rs_, H', ⟨by have := HK1.out; omega⟩, dr_⟩
def spec_Under.f (k : Nat) (l0 : List ByteArray) (l1 : List ByteArray) : Option (Bool) := if (l0.length : Int) > (l1.length : Int) then (if 0 ≤ (l1.length : Int) then (if (l1.length : Int) ≤ (l0.length : Int) then ((spec_SamePath.f k (l0.take ((l1.length : Int) : Int).toNat) l1).bind fun t107 => (some t107)) else (none)) else (none)) else (some false)
set_option maxHeartbeats 8000000 in
set_option maxRecDepth 100000 in
theorem spec_Under.calls (k : Nat) (A0 : Option Addr) (c0 : Nat) (l0 : List ByteArray) (A1 : Option Addr) (c1 : Nat) (l1 : List ByteArray) (r : Bool) (w : World) (hr0 : Kd.C Kd.string w A0 l0.length l0) (hc0 : l0.length ≤ c0) (hr1 : Kd.C Kd.string w A1 l1.length l1) (hc1 : l1.length ≤ c1) (h : spec_Under.f k l0 l1 = some r) :
 Calls Try.prog 63 #[.slice A0 l0.length c0, .slice A1 l1.length c1] w fun e w' => e = .returned (.bool r) ∧ Drawn0 w w' := by
 have HR0 := Aside0.mk hr0
 have HC0 := Aside0.mk hc0
 clear hr0 hc0
 have HR1 := Aside0.mk hr1
 have HC1 := Aside0.mk hc1
 clear hr1 hc1
 have H : (if (l0.length : Int) > (l1.length : Int) then (if 0 ≤ (l1.length : Int) then (if (l1.length : Int) ≤ (l0.length : Int) then ((spec_SamePath.f k (l0.take ((l1.length : Int) : Int).toNat) l1).bind fun t107 => (some t107)) else (none)) else (none)) else (some false)) = some r := h
 clear h
 by_cases c3 : (l0.length : Int) > (l1.length : Int)
 rotate_left
 · rw [if_neg c3] at H
   have c3b0 : decide ((l1.length : Int) < (l0.length : Int)) = false := decide_eq_false c3
   have c3b1 : decide (l1.length < l0.length) = false := decide_eq_false (fun h => c3 (Int.ofNat_lt.mpr h))
   clear c3
   obtain rfl := Option.some.inj H
   go_enter Try.func63, Try.ntmps63
   go_wp2
   go_ret
   exact ⟨rs_, dr_⟩
 rw [if_pos c3] at H
 have c3b0 : decide ((l1.length : Int) < (l0.length : Int)) = true := decide_eq_true c3
 have c3b1 : decide (l1.length < l0.length) = true := decide_eq_true (Int.ofNat_lt.mp c3)
 clear c3
 by_cases c4 : 0 ≤ (l1.length : Int)
 rotate_left
 · exact absurd H (by rw [if_neg c4]; simp)
 rw [if_pos c4] at H
 have c4b0 := eq_true c4
 have c4b1 : decide (0 ≤ (l1.length : Int)) = true := decide_eq_true c4
 clear c4
 by_cases c5 : (l1.length : Int) ≤ (l0.length : Int)
 rotate_left
 · exact absurd H (by rw [if_neg c5]; simp)
 rw [if_pos c5] at H
 have c5b0 := eq_true c5
 have c5b1 : decide ((l1.length : Int) ≤ (l0.length : Int)) = true := decide_eq_true c5
 clear c5
 obtain ⟨t107, A6, H⟩ := bo_ H
 (try dsimp only at H)
 obtain rfl := Option.some.inj H
 obtain ⟨i07, hi07, _, hsz7, _⟩ := info_parts info9
 obtain ⟨hcut7, hA7, hC7⟩ := print_take_of (P := Try.prog) Value.string (⟨#[]⟩ : ByteArray) 22 9 .i64 Try.underlying22 hi07 hsz7 A0 c0 l0 (l1.length : Int) (of_decide_eq_true as_) (of_decide_eq_true as_) HC0.out
 have HR106 := A_ (Kd.C_of_reads (h1 := fun _ => rfl) (hA7 _ (Kd.reads_of_C HR0.out)))
 have HC106 := Aside0.mk hC7
 clear hA7 hC7 hi07 hsz7
 go_enter Try.func63, Try.ntmps63
 go_wp2_with (first | (go_at_call 62; refine calls_of_args (args' := #[.slice A0 (l0.take ((l1.length : Int) : Int).toNat).length c0, .slice A1 l1.length c1]) (by first | (simp only [List.length_take, List.length_drop, Int.toNat_natCast]; done) | (rw [show (l0.take ((l1.length : Int) : Int).toNat).length = (l1.length : Int).toNat from (by rw [List.length_take]; have h_ : ((l1.length : Int) : Int) ≤ (l0.length : Int) := of_decide_eq_true as_; omega)] <;> rfl) | rfl) ?_; (with_reducible refine (spec_SamePath.calls k _ _ (l0.take ((l1.length : Int) : Int).toNat) _ _ l1 t107 _ ?s1 ?s2 ?s3 ?s4 A6.out).mono ?_); (case s1 => exact cC_ HR106.out); (case s2 => exact HC106.out); (case s3 => exact cC_ HR1.out); (case s4 => exact HC1.out); rintro e w' ⟨rfl, ⟨nd, rfl⟩⟩))
 go_ret
 exact ⟨rs_, dr_⟩
def spec_Covers.f (k : Nat) (a0_0 : Int) (l0_1 : List ByteArray) (a0_2 : Bool) (a0_3 : Bool) (a0_4 : Int) (l1 : List ByteArray) : Option (Bool) := (spec_SamePath.f k l0_1 l1).bind fun t109 => (if t109 = true then (some true) else (if a0_2 = true then ((spec_Under.f k l1 l0_1).bind fun t110 => (some t110)) else (some false)))
set_option maxHeartbeats 8000000 in
set_option maxRecDepth 100000 in
theorem spec_Covers.calls (k : Nat) (a0_0 : Int) (A0_1 : Option Addr) (c0_1 : Nat) (l0_1 : List ByteArray) (a0_2 : Bool) (a0_3 : Bool) (a0_4 : Int) (A1 : Option Addr) (c1 : Nat) (l1 : List ByteArray) (r : Bool) (w : World) (hr0_1 : Kd.C Kd.string w A0_1 l0_1.length l0_1) (hc0_1 : l0_1.length ≤ c0_1) (hr1 : Kd.C Kd.string w A1 l1.length l1) (hc1 : l1.length ≤ c1) (h : spec_Covers.f k a0_0 l0_1 a0_2 a0_3 a0_4 l1 = some r) :
 Calls Try.prog 17 #[.agg #[.int .i64 a0_0, .slice A0_1 l0_1.length c0_1, .bool a0_2, .bool a0_3, .int .i64 a0_4], .slice A1 l1.length c1] w fun e w' => e = .returned (.bool r) ∧ Below w.heap.size w w' := by
 have hu28 := Try.underlying28
 have HR0_1 := Aside0.mk hr0_1
 have HC0_1 := Aside0.mk hc0_1
 clear hr0_1 hc0_1
 have HR1 := Aside0.mk hr1
 have HC1 := Aside0.mk hc1
 clear hr1 hc1
 have HB := A_ (Below.refl w.heap.size w)
 have H : ((spec_SamePath.f k l0_1 l1).bind fun t109 => (if t109 = true then (some true) else (if a0_2 = true then ((spec_Under.f k l1 l0_1).bind fun t110 => (some t110)) else (some false)))) = some r := h
 clear h
 obtain ⟨t109, A3, H⟩ := bo_ H
 (try dsimp only at H)
 by_cases c4 : t109 = true
 · subst c4
   rw [if_pos rfl] at H
   obtain rfl := Option.some.inj H
   go_enter Try.func17, Try.ntmps17
   go_wp2_with (first | ((with_reducible refine gate_dst (N := 2) rfl ?_); refine bx_ (N := 2) (cs := #[.int .i64 a0_0, .slice A0_1 l0_1.length c0_1, .bool a0_2, .bool a0_3, .int .i64 a0_4]) (t := 28) ?_; intro gb108 hg w5 hbox hb; have BK108 := A_ (hbox); have GW108 := A_ (ge_ hg bB_ : w.heap.size ≤ gb108); have GE108 := A_ (ge_ hg bB_ : w.heap.size ≤ gb108); replace HB := A_ (below_step bB_ hb); clear hb hbox hg; obtain ⟨hcz6_0, hcz6_1, hcz6_2, hcz6_3, hcz6_4, hfz6_0, hfz6_1, hfz6_2, hfz6_3, hfz6_4⟩ := cz5_ BK108.out) | ((with_reducible refine gate_callee (f := 62) rfl ?_); refine gL_ (some 8) Try.func62 #[.slice A0_1 l0_1.length c0_1, .slice A1 l1.length c1] ?_; (with_reducible refine (spec_SamePath.calls k _ _ l0_1 _ _ l1 true _ ?s1 ?s2 ?s3 ?s4 A3.out).mono ?_); (case s1 => exact cC_ (Kd.C_below HR0_1.out HB.out)); (case s2 => exact HC0_1.out); (case s3 => exact cC_ (Kd.C_below HR1.out HB.out)); (case s4 => exact HC1.out); rintro e w' ⟨rfl, ⟨nd, rfl⟩⟩; refine ⟨_, rfl, ?_⟩))
   go_ret
   exact ⟨rr_, bG_ GE108.out⟩
 · replace c4 := Bool.eq_false_iff.mpr c4
   subst c4
   rw [if_neg nf_] at H
   by_cases c7 : a0_2 = true
   · subst c7
     rw [if_pos rfl] at H
     obtain ⟨t110, A8, H⟩ := bo_ H
     (try dsimp only at H)
     obtain rfl := Option.some.inj H
     go_enter Try.func17, Try.ntmps17
     go_wp2_with (first | ((with_reducible refine gate_dst (N := 2) rfl ?_); refine bx_ (N := 2) (cs := #[.int .i64 a0_0, .slice A0_1 l0_1.length c0_1, .bool true, .bool a0_3, .int .i64 a0_4]) (t := 28) ?_; intro gb108 hg w9 hbox hb; have BK108 := A_ (hbox); have GW108 := A_ (ge_ hg bB_ : w.heap.size ≤ gb108); have GE108 := A_ (ge_ hg bB_ : w.heap.size ≤ gb108); replace HB := A_ (below_step bB_ hb); clear hb hbox hg; obtain ⟨hcz10_0, hcz10_1, hcz10_2, hcz10_3, hcz10_4, hfz10_0, hfz10_1, hfz10_2, hfz10_3, hfz10_4⟩ := cz5_ BK108.out) | ((with_reducible refine gate_callee (f := 62) rfl ?_); refine gL_ (some 8) Try.func62 #[.slice A0_1 l0_1.length c0_1, .slice A1 l1.length c1] ?_; (with_reducible refine (spec_SamePath.calls k _ _ l0_1 _ _ l1 false _ ?s1 ?s2 ?s3 ?s4 A3.out).mono ?_); (case s1 => exact cC_ (Kd.C_below HR0_1.out HB.out)); (case s2 => exact HC0_1.out); (case s3 => exact cC_ (Kd.C_below HR1.out HB.out)); (case s4 => exact HC1.out); rintro e w' ⟨rfl, ⟨nd, rfl⟩⟩; refine ⟨_, rfl, ?_⟩) | (go_at_call 63; (with_reducible refine (spec_Under.calls k _ _ l1 _ _ l0_1 t110 _ ?s1 ?s2 ?s3 ?s4 A8.out).mono ?_); (case s1 => exact cC_ (Kd.C_below HR1.out (bG_ GE108.out))); (case s2 => exact HC1.out); (case s3 => exact cC_ (Kd.C_below HR0_1.out (bG_ GE108.out))); (case s4 => exact HC0_1.out); rintro e w' ⟨rfl, ⟨nd, rfl⟩⟩))
     go_ret
     exact ⟨rr_, bG_ GE108.out⟩
   · replace c7 := Bool.eq_false_iff.mpr c7
     subst c7
     rw [if_neg nf_] at H
     obtain rfl := Option.some.inj H
     go_enter Try.func17, Try.ntmps17
     go_wp2_with (first | ((with_reducible refine gate_dst (N := 2) rfl ?_); refine bx_ (N := 2) (cs := #[.int .i64 a0_0, .slice A0_1 l0_1.length c0_1, .bool false, .bool a0_3, .int .i64 a0_4]) (t := 28) ?_; intro gb108 hg w11 hbox hb; have BK108 := A_ (hbox); have GW108 := A_ (ge_ hg bB_ : w.heap.size ≤ gb108); have GE108 := A_ (ge_ hg bB_ : w.heap.size ≤ gb108); replace HB := A_ (below_step bB_ hb); clear hb hbox hg; obtain ⟨hcz12_0, hcz12_1, hcz12_2, hcz12_3, hcz12_4, hfz12_0, hfz12_1, hfz12_2, hfz12_3, hfz12_4⟩ := cz5_ BK108.out) | ((with_reducible refine gate_callee (f := 62) rfl ?_); refine gL_ (some 8) Try.func62 #[.slice A0_1 l0_1.length c0_1, .slice A1 l1.length c1] ?_; (with_reducible refine (spec_SamePath.calls k _ _ l0_1 _ _ l1 false _ ?s1 ?s2 ?s3 ?s4 A3.out).mono ?_); (case s1 => exact cC_ (Kd.C_below HR0_1.out HB.out)); (case s2 => exact HC0_1.out); (case s3 => exact cC_ (Kd.C_below HR1.out HB.out)); (case s4 => exact HC1.out); rintro e w' ⟨rfl, ⟨nd, rfl⟩⟩; refine ⟨_, rfl, ?_⟩))
     go_ret
     exact ⟨rr_, bG_ GE108.out⟩
def impl_SamePath.l0 : Nat → List ByteArray → List ByteArray → Int → Int → Option (Bool)
 | 0, _, _, _, _ => none
 | k + 1, x0, x1, x12, x13 => if x13 < x12 then (if 0 ≤ x13 then (if x13 < (x0.length : Int) then (if x13 < (x1.length : Int) then (if (rdOf ByteArray.empty x0 x13).toList = (rdOf ByteArray.empty x1 x13).toList then (impl_SamePath.l0 k x0 x1 x12 (wrap64 (x13 + 1))) else (some false)) else (none)) else (none)) else (none)) else (some true)
def impl_SamePath.f (k : Nat) (l0 : List ByteArray) (l1 : List ByteArray) : Option (Bool) := if (l0.length : Int) = (l1.length : Int) then (impl_SamePath.l0 k l0 l1 (l0.length : Int) 0) else (some false)
set_option maxHeartbeats 8000000 in
set_option maxRecDepth 100000 in
theorem impl_SamePath.calls (k : Nat) (A0 : Option Addr) (c0 : Nat) (l0 : List ByteArray) (A1 : Option Addr) (c1 : Nat) (l1 : List ByteArray) (r : Bool) (w : World) (hr0 : Kd.C Kd.string w A0 l0.length l0) (hc0 : l0.length ≤ c0) (hr1 : Kd.C Kd.string w A1 l1.length l1) (hc1 : l1.length ≤ c1) (h : impl_SamePath.f k l0 l1 = some r) :
 Calls Try.prog 64 #[.slice A0 l0.length c0, .slice A1 l1.length c1] w fun e w' => e = .returned (.bool r) ∧ Drawn0 w w' := by
 have HR0 := Aside0.mk hr0
 have HC0 := Aside0.mk hc0
 clear hr0 hc0
 have HR1 := Aside0.mk hr1
 have HC1 := Aside0.mk hc1
 clear hr1 hc1
 have H : (if (l0.length : Int) = (l1.length : Int) then (impl_SamePath.l0 k l0 l1 (l0.length : Int) 0) else (some false)) = some r := h
 clear h
 by_cases c3 : (l0.length : Int) = (l1.length : Int)
 rotate_left
 · rw [if_neg c3] at H
   have c3b0 : ((l0.length : Int) == (l1.length : Int)) = false := beq_eq_false_iff_ne.mpr c3
   have c3b1 : ((l0.length : Int) != (l1.length : Int)) = true := bne_iff_ne.mpr c3
   have c3b2 : (l0.length == l1.length) = false := by first | simpa using c3 | (simp at c3 ⊢; omega)
   obtain rfl := Option.some.inj H
   go_enter Try.func64, Try.ntmps64
   go_wp2
   repeat (go_quiet (fail); try go_wp2)
   go_ret
   exact ⟨rs_, dr_⟩
 rw [if_pos c3] at H
 have c3b0 : ((l0.length : Int) == (l1.length : Int)) = true := beq_iff_eq.mpr c3
 have c3b1 : ((l0.length : Int) != (l1.length : Int)) = false := bne_eq_false_iff_eq.mpr c3
 have c3b2 : (l0.length == l1.length) = true := by first | simpa using c3 | (simp at c3 ⊢; omega)
 clear c3
 have H' := Aside0.mk H
 clear H
 go_enter Try.func64, Try.ntmps64
 go_wp2
 repeat (go_quiet (fail); try go_wp2)
 go_loopg [13] k (fun kq v13 w' => ∃ (x13_1 : Int), v13 = .int .i64 x13_1 ∧ Aside0 (impl_SamePath.l0 kq l0 l1 (l0.length : Int) x13_1 = some r) ∧ Aside0 (kq ≤ k) ∧ Drawn0 w w')
 case atStart => exact ⟨(0), rs_, H', ⟨Nat.le_refl _⟩, dr_⟩
 case round =>
  clear H'
  try clear c1
  try clear p2
  try clear c3
  try clear c3b0
  try clear c3b1
  try clear c3b2
  obtain ⟨x13_1, rfl, HA, HK1, ⟨m1, rfl⟩⟩ := hrel
  cases gk with
  | zero => exact absurd HA.out (by simp [impl_SamePath.l0])
  | succ k1 =>
   have H := HA.out
   clear HA
   simp only [impl_SamePath.l0] at H
   by_cases c4 : x13_1 < (l0.length : Int)
   rotate_left
   · rw [if_neg c4] at H
     have c4b0 : decide (x13_1 < (l0.length : Int)) = false := decide_eq_false c4
     clear c4
     obtain rfl := Option.some.inj H
     go_wp2
     repeat (go_quiet (fail); try go_wp2)
     go_ret
     exact ⟨rs_, dr_⟩
   rw [if_pos c4] at H
   have c4b0 : decide (x13_1 < (l0.length : Int)) = true := decide_eq_true c4
   clear c4
   by_cases c5 : 0 ≤ x13_1
   rotate_left
   · exact absurd H (by rw [if_neg c5]; simp)
   rw [if_pos c5] at H
   have c5b0 : decide (0 ≤ x13_1) = true := decide_eq_true c5
   clear c5
   by_cases c6 : x13_1 < (l0.length : Int)
   rotate_left
   · exact absurd H (by rw [if_neg c6]; simp)
   rw [if_pos c6] at H
   have c6b0 : decide (x13_1 < (l0.length : Int)) = true := decide_eq_true c6
   clear c6
   by_cases c7 : x13_1 < (l1.length : Int)
   rotate_left
   · exact absurd H (by rw [if_neg c7]; simp)
   rw [if_pos c7] at H
   have c7b0 : decide (x13_1 < (l1.length : Int)) = true := decide_eq_true c7
   clear c7
   by_cases c8 : (rdOf ByteArray.empty l0 x13_1).toList = (rdOf ByteArray.empty l1 x13_1).toList
   rotate_left
   · rw [if_neg c8] at H
     have c8b0 : ((rdOf ByteArray.empty l0 x13_1).toList == (rdOf ByteArray.empty l1 x13_1).toList) = false := beq_eq_false_iff_ne.mpr c8
     have c8b1 : ((rdOf ByteArray.empty l0 x13_1).toList != (rdOf ByteArray.empty l1 x13_1).toList) = true := bne_iff_ne.mpr c8
     obtain rfl := Option.some.inj H
     have p122 : 0 ≤ (x13_1 : Int) := of_decide_eq_true as_
     have q122 : x13_1 < (l0.length : Int) := of_decide_eq_true as_
     obtain ⟨ad122, e122, hx122_0⟩ := Kd.at_string HR0.out x13_1 p122 q122
     cases e122
     replace p122 := eq_true p122
     replace q122 := eq_true q122
     have p123 : 0 ≤ (x13_1 : Int) := of_decide_eq_true as_
     have q123 : x13_1 < (l1.length : Int) := of_decide_eq_true as_
     obtain ⟨ad123, e123, hx123_0⟩ := Kd.at_string HR1.out x13_1 p123 q123
     cases e123
     replace p123 := eq_true p123
     replace q123 := eq_true q123
     go_wp2
     repeat (go_quiet (fail); try go_wp2)
     go_ret
     exact ⟨rs_, dr_⟩
   rw [if_pos c8] at H
   have c8b0 : ((rdOf ByteArray.empty l0 x13_1).toList == (rdOf ByteArray.empty l1 x13_1).toList) = true := beq_iff_eq.mpr c8
   have c8b1 : ((rdOf ByteArray.empty l0 x13_1).toList != (rdOf ByteArray.empty l1 x13_1).toList) = false := bne_eq_false_iff_eq.mpr c8
   clear c8
   have H' := Aside0.mk H
   clear H
   have p122 : 0 ≤ (x13_1 : Int) := of_decide_eq_true as_
   have q122 : x13_1 < (l0.length : Int) := of_decide_eq_true as_
   obtain ⟨ad122, e122, hx122_0⟩ := Kd.at_string HR0.out x13_1 p122 q122
   cases e122
   replace p122 := eq_true p122
   replace q122 := eq_true q122
   have p123 : 0 ≤ (x13_1 : Int) := of_decide_eq_true as_
   have q123 : x13_1 < (l1.length : Int) := of_decide_eq_true as_
   obtain ⟨ad123, e123, hx123_0⟩ := Kd.at_string HR1.out x13_1 p123 q123
   cases e123
   replace p123 := eq_true p123
   replace q123 := eq_true q123
   go_wp2
   repeat (go_quiet (fail); try go_wp2)
   go_roundg k1
   case measure => have := HK1.out; omega
   case rel => exact ⟨(wrap64 (x13_1 + 1)), rs_, H', ⟨by have := HK1.out; omega⟩, dr_⟩
def impl_Under.f (k : Nat) (l0 : List ByteArray) (l1 : List ByteArray) : Option (Bool) := if (l0.length : Int) > (l1.length : Int) then (if 0 ≤ (l1.length : Int) then (if (l1.length : Int) ≤ (l0.length : Int) then ((impl_SamePath.f k (l0.take ((l1.length : Int) : Int).toNat) l1).bind fun t125 => (some t125)) else (none)) else (none)) else (some false)
set_option maxHeartbeats 8000000 in
set_option maxRecDepth 100000 in
theorem impl_Under.calls (k : Nat) (A0 : Option Addr) (c0 : Nat) (l0 : List ByteArray) (A1 : Option Addr) (c1 : Nat) (l1 : List ByteArray) (r : Bool) (w : World) (hr0 : Kd.C Kd.string w A0 l0.length l0) (hc0 : l0.length ≤ c0) (hr1 : Kd.C Kd.string w A1 l1.length l1) (hc1 : l1.length ≤ c1) (h : impl_Under.f k l0 l1 = some r) :
 Calls Try.prog 65 #[.slice A0 l0.length c0, .slice A1 l1.length c1] w fun e w' => e = .returned (.bool r) ∧ Drawn0 w w' := by
 have HR0 := Aside0.mk hr0
 have HC0 := Aside0.mk hc0
 clear hr0 hc0
 have HR1 := Aside0.mk hr1
 have HC1 := Aside0.mk hc1
 clear hr1 hc1
 have H : (if (l0.length : Int) > (l1.length : Int) then (if 0 ≤ (l1.length : Int) then (if (l1.length : Int) ≤ (l0.length : Int) then ((impl_SamePath.f k (l0.take ((l1.length : Int) : Int).toNat) l1).bind fun t125 => (some t125)) else (none)) else (none)) else (some false)) = some r := h
 clear h
 by_cases c3 : (l0.length : Int) > (l1.length : Int)
 rotate_left
 · rw [if_neg c3] at H
   have c3b0 : decide ((l1.length : Int) < (l0.length : Int)) = false := decide_eq_false c3
   have c3b1 : decide (l1.length < l0.length) = false := decide_eq_false (fun h => c3 (Int.ofNat_lt.mpr h))
   clear c3
   obtain rfl := Option.some.inj H
   go_enter Try.func65, Try.ntmps65
   go_wp2
   go_ret
   exact ⟨rs_, dr_⟩
 rw [if_pos c3] at H
 have c3b0 : decide ((l1.length : Int) < (l0.length : Int)) = true := decide_eq_true c3
 have c3b1 : decide (l1.length < l0.length) = true := decide_eq_true (Int.ofNat_lt.mp c3)
 clear c3
 by_cases c4 : 0 ≤ (l1.length : Int)
 rotate_left
 · exact absurd H (by rw [if_neg c4]; simp)
 rw [if_pos c4] at H
 have c4b0 := eq_true c4
 have c4b1 : decide (0 ≤ (l1.length : Int)) = true := decide_eq_true c4
 clear c4
 by_cases c5 : (l1.length : Int) ≤ (l0.length : Int)
 rotate_left
 · exact absurd H (by rw [if_neg c5]; simp)
 rw [if_pos c5] at H
 have c5b0 := eq_true c5
 have c5b1 : decide ((l1.length : Int) ≤ (l0.length : Int)) = true := decide_eq_true c5
 clear c5
 obtain ⟨t125, A6, H⟩ := bo_ H
 (try dsimp only at H)
 obtain rfl := Option.some.inj H
 obtain ⟨i07, hi07, _, hsz7, _⟩ := info_parts info9
 obtain ⟨hcut7, hA7, hC7⟩ := print_take_of (P := Try.prog) Value.string (⟨#[]⟩ : ByteArray) 22 9 .i64 Try.underlying22 hi07 hsz7 A0 c0 l0 (l1.length : Int) (of_decide_eq_true as_) (of_decide_eq_true as_) HC0.out
 have HR124 := A_ (Kd.C_of_reads (h1 := fun _ => rfl) (hA7 _ (Kd.reads_of_C HR0.out)))
 have HC124 := Aside0.mk hC7
 clear hA7 hC7 hi07 hsz7
 go_enter Try.func65, Try.ntmps65
 go_wp2_with (first | (go_at_call 64; refine calls_of_args (args' := #[.slice A0 (l0.take ((l1.length : Int) : Int).toNat).length c0, .slice A1 l1.length c1]) (by first | (simp only [List.length_take, List.length_drop, Int.toNat_natCast]; done) | (rw [show (l0.take ((l1.length : Int) : Int).toNat).length = (l1.length : Int).toNat from (by rw [List.length_take]; have h_ : ((l1.length : Int) : Int) ≤ (l0.length : Int) := of_decide_eq_true as_; omega)] <;> rfl) | rfl) ?_; (with_reducible refine (impl_SamePath.calls k _ _ (l0.take ((l1.length : Int) : Int).toNat) _ _ l1 t125 _ ?s1 ?s2 ?s3 ?s4 A6.out).mono ?_); (case s1 => exact cC_ HR124.out); (case s2 => exact HC124.out); (case s3 => exact cC_ HR1.out); (case s4 => exact HC1.out); rintro e w' ⟨rfl, ⟨nd, rfl⟩⟩))
 go_ret
 exact ⟨rs_, dr_⟩
def impl_DropLock.l0 : Nat → List (S28) → Int → List (S28) → Int → Int → Option ((List (S28)) × Bool)
 | 0, _, _, _, _, _ => none
 | k + 1, x0, x1, x8, x9, x10 => if x10 < x9 then (if 0 ≤ x10 then (if x10 < (x8.length : Int) then (if ((rd_T28 x8 x10).f0) = x1 then (if x10 ≤ (x0.length : Int) then ((impl_copyLocks.f k (x0.take (x10 : Int).toNat)).bind fun t364 => (if 0 ≤ (wrap64 (x10 + 1)) then (if (wrap64 (x10 + 1)) ≤ (x0.length : Int) then ((impl_copyLocks.f k (x0.drop ((wrap64 (x10 + 1)) : Int).toNat)).bind fun t371 => (if t364.length + t371.length < 2932031007402 then (some ((t364 ++ t371), true)) else (none))) else (none)) else (none))) else (none)) else (impl_DropLock.l0 k x0 x1 x8 x9 (wrap64 (x10 + 1)))) else (none)) else (none)) else ((impl_copyLocks.f k x0).bind fun t355 => (some (t355, false)))
def impl_DropLock.f (k : Nat) (l0 : List (S28)) (a1 : Int) : Option ((List (S28)) × Bool) := impl_DropLock.l0 k l0 a1 l0 (l0.length : Int) 0
def impl_DropLock.T5 : Bool × List (List Nat × List Nat) := (true, [([], []), ([], []), ([0, 1], [0, 1]), ([2], [2]), ([], []), ([], []), ([5], [5]), ([4, 6], [4, 6]), ([7, 3], [7]), ([3, 8, 8], [3, 8]), ([9, 9, 0, 1, 2, 3, 4, 5, 6, 7, 8, 9], [9]), ([10, 0, 1, 2, 3, 4, 5, 6, 7, 8, 9, 10], [])])
def impl_DropLock.B5 : List Nat := [0, 0, 3, 7, 0, 0, 32, 112, 255, 511, 1023, 2047]
theorem impl_DropLock.tab5 : rtab .any (opsOf Try.f33 5) = impl_DropLock.T5 := by kernel_rfl
theorem impl_DropLock.bits5 : waitsOk impl_DropLock.T5.2 impl_DropLock.B5 = true := by kernel_rfl
set_option maxHeartbeats 8000000 in
set_option maxRecDepth 100000 in
theorem impl_DropLock.calls (k : Nat) (A0 : Option Addr) (c0 : Nat) (l0 : List (S28)) (a1 : Int) (r1 : List (S28)) (r2 : Bool) (w : World) (hr0 : Kd.C k28 w A0 l0.length l0) (hc0 : l0.length ≤ c0) (h : impl_DropLock.f k l0 a1 = some (r1, r2)) :
 Calls Try.prog 33 #[.slice A0 l0.length c0, .int .i64 a1] w fun e w' => ∃ v0_ : Value, e = .returned (.tuple #[v0_, .bool r2]) ∧ Kd.N k28 28 w' w.heap.size (fun k_ => (w.heap.size ≤ k_)) v0_ r1 ∧ Below w.heap.size w w' := by
 have hu28 := Try.underlying28
 have HR0 := Aside0.mk hr0
 have HC0 := Aside0.mk hc0
 clear hr0 hc0
 have HB := A_ (Below.refl w.heap.size w)
 have H : (impl_DropLock.l0 k l0 a1 l0 (l0.length : Int) 0) = some (r1, r2) := h
 clear h
 have H' := Aside0.mk H
 clear H
 go_enter Try.func33, Try.ntmps33
 go_wp2
 go_loopg [10] k (fun kq v10 w' => ∃ (x10_1 : Int), v10 = .int .i64 x10_1 ∧ Aside0 (impl_DropLock.l0 kq l0 a1 l0 (l0.length : Int) x10_1 = some (r1, r2)) ∧ Aside0 (kq ≤ k) ∧ Aside0 (Below w.heap.size w w'))
 case atStart => exact ⟨(0), rs_, H', ⟨Nat.le_refl _⟩, ⟨bB_⟩⟩
 case round =>
  clear H'
  try clear p2
  obtain ⟨x10_1, rfl, HA, HK1, HB⟩ := hrel
  cases gk with
  | zero => exact absurd HA.out (by simp [impl_DropLock.l0])
  | succ k1 =>
   have H := HA.out
   clear HA
   simp only [impl_DropLock.l0] at H
   by_cases c3 : x10_1 < (l0.length : Int)
   rotate_left
   · rw [if_neg c3] at H
     have c3b0 : decide (x10_1 < (l0.length : Int)) = false := decide_eq_false c3
     clear c3
     obtain ⟨t355, A27, H⟩ := bo_ H
     (try dsimp only at H)
     simp only [Option.some.injEq, Prod.mk.injEq] at H
     obtain ⟨rfl, rfl⟩ := H
     go_wp2_with (first | ((with_reducible refine gate_callee (f := 69) rfl ?_); refine gL_ (some 31) Try.func69 #[.slice A0 l0.length c0] ?_; (with_reducible refine (impl_copyLocks.calls k1 _ _ l0 t355 _ ?s1 ?s2 A27.out).mono ?_); (case s1 => exact cC_ (Kd.C_below HR0.out HB.out)); (case s2 => exact HC0.out); rintro e w28 ⟨v356, rfl, ho0, hb⟩; refine ⟨_, rfl, ?_⟩; have HO357 := A_ (Kd.N_lower (Kd.N_mono (ok' := fun k_ => (w.heap.size ≤ k_)) (Kd.S_N (Kd.S_bound ho0)) (fun k_ hk_ => (Nat.le_trans (below_size bB_) hk_.2.1))) (below_size bB_)); replace HB := A_ (below_step bB_ hb); (try clear hb); (try clear ho0)))
     go_ret2
     exact ⟨_, rr_, by (with_reducible repeat (first | apply Kd.N_alloc | apply Kd.N_drewN | apply Kd.N_drew)); exact HO357.out, bB_⟩
   rw [if_pos c3] at H
   have c3b0 : decide (x10_1 < (l0.length : Int)) = true := decide_eq_true c3
   clear c3
   by_cases c4 : 0 ≤ x10_1
   rotate_left
   · exact absurd H (by rw [if_neg c4]; simp)
   rw [if_pos c4] at H
   have c4b0 : decide (0 ≤ x10_1) = true := decide_eq_true c4
   clear c4
   by_cases c5 : x10_1 < (l0.length : Int)
   rotate_left
   · exact absurd H (by rw [if_neg c5]; simp)
   rw [if_pos c5] at H
   have c5b0 : decide (x10_1 < (l0.length : Int)) = true := decide_eq_true c5
   clear c5
   by_cases c6 : ((rd_T28 l0 x10_1).f0) = a1
   rotate_left
   · rw [if_neg c6] at H
     have c6b0 : (((rd_T28 l0 x10_1).f0) == a1) = false := beq_eq_false_iff_ne.mpr c6
     have c6b1 : (((rd_T28 l0 x10_1).f0) != a1) = true := bne_iff_ne.mpr c6
     have H' := Aside0.mk H
     clear H
     have p358 : 0 ≤ (x10_1 : Int) := of_decide_eq_true as_
     have q358 : x10_1 < (l0.length : Int) := of_decide_eq_true as_
     obtain ⟨ad358, A358_1, c358_1, e358, hx358_0, hx358_1, hx358_2, hx358_3, hx358_4, hl358_1, hi358_1⟩ := at_T28 HR0.out x10_1 p358 q358
     cases e358
     replace hx358_0 := bc_ HB.out hx358_0
     replace hx358_1 := bc_ HB.out hx358_1
     replace hx358_2 := bc_ HB.out hx358_2
     replace hx358_3 := bc_ HB.out hx358_3
     replace hx358_4 := bc_ HB.out hx358_4
     have HR358_1 := Aside0.mk hi358_1
     have HC358_1 := Aside0.mk hl358_1
     clear hi358_1 hl358_1
     replace p358 := eq_true p358
     replace q358 := eq_true q358
     go_wp2_with (first | ((with_reducible refine gate_dst (N := 7) rfl ?_); refine bx_ (N := 7) (cs := #[.int .i64 0, .slice none 0 0, .bool false, .bool false, .int .i64 0]) (t := 28) ?_; intro gb359 hg w25 hbox hb; have BK359 := A_ (hbox); have GW359 := A_ (ge_ hg bB_ : w.heap.size ≤ gb359); have GE359 := A_ (ge_ hg bB_ : w.heap.size ≤ gb359); replace HB := A_ (below_step bB_ hb); clear hb hbox hg; obtain ⟨hcz26_0, hcz26_1, hcz26_2, hcz26_3, hcz26_4, hfz26_0, hfz26_1, hfz26_2, hfz26_3, hfz26_4⟩ := cz5_ BK359.out))
     go_roundg k1
     case measure => have := HK1.out; omega
     case rel => exact ⟨(wrap64 (x10_1 + 1)), rs_, H', ⟨by have := HK1.out; omega⟩, ⟨bG_ GE359.out⟩⟩
   rw [if_pos c6] at H
   have c6b0 : (((rd_T28 l0 x10_1).f0) == a1) = true := beq_iff_eq.mpr c6
   have c6b1 : (((rd_T28 l0 x10_1).f0) != a1) = false := bne_eq_false_iff_eq.mpr c6
   clear c6
   have c7b0 := eq_true (of_decide_eq_true as_ : 0 ≤ x10_1)
   by_cases c8 : x10_1 ≤ (l0.length : Int)
   rotate_left
   · exact absurd H (by rw [if_neg c8]; simp)
   rw [if_pos c8] at H
   have c8b0 := eq_true c8
   have c8b1 : decide (x10_1 ≤ (l0.length : Int)) = true := decide_eq_true c8
   clear c8
   obtain ⟨y360, hy360⟩ : ∃ y_ : List (S28), y_ = (l0.take (x10_1 : Int).toNat) := ⟨_, rfl⟩
   replace H : ((impl_copyLocks.f k1 y360).bind fun t364 => (if 0 ≤ (wrap64 (x10_1 + 1)) then (if (wrap64 (x10_1 + 1)) ≤ (l0.length : Int) then ((impl_copyLocks.f k1 (l0.drop ((wrap64 (x10_1 + 1)) : Int).toNat)).bind fun t371 => (if t364.length + t371.length < 2932031007402 then (some ((t364 ++ t371), true)) else (none))) else (none)) else (none))) = some (r1, r2) := hy_ hy360 H
   have Ny360 := Aside0.mk hy360
   clear hy360
   obtain ⟨t364, A9, H⟩ := bo_ H
   (try dsimp only at H)
   obtain ⟨ji10, hji10⟩ : ∃ j_ : Int, (wrap64 (x10_1 + 1)) = j_ := ⟨_, rfl⟩
   replace H : (if 0 ≤ (ji10) then (if (ji10) ≤ (l0.length : Int) then ((impl_copyLocks.f k1 (l0.drop ((ji10) : Int).toNat)).bind fun t371 => (if t364.length + t371.length < 2932031007402 then (some ((t364 ++ t371), true)) else (none))) else (none)) else (none)) = some (r1, r2) := by first | (rw [hji10] at H; exact H) | (simp only [hji10] at H ⊢; exact H)
   (try rw [hji10] at A9)
   have hji10w : (IntKind.i64.wrap (x10_1 + 1)) = ji10 := (i64_w _).trans hji10
   by_cases c11 : 0 ≤ (ji10)
   rotate_left
   · exact absurd H (by rw [if_neg c11]; simp)
   rw [if_pos c11] at H
   have c11b0 := eq_true c11
   have c11b1 : decide (0 ≤ (ji10)) = true := decide_eq_true c11
   clear c11
   by_cases c12 : (ji10) ≤ (l0.length : Int)
   rotate_left
   · exact absurd H (by rw [if_neg c12]; simp)
   rw [if_pos c12] at H
   have c12b0 := eq_true c12
   have c12b1 : decide ((ji10) ≤ (l0.length : Int)) = true := decide_eq_true c12
   clear c12
   obtain ⟨y367, hy367⟩ : ∃ y_ : List (S28), y_ = (l0.drop ((ji10) : Int).toNat) := ⟨_, rfl⟩
   replace H : ((impl_copyLocks.f k1 y367).bind fun t371 => (if t364.length + t371.length < 2932031007402 then (some ((t364 ++ t371), true)) else (none))) = some (r1, r2) := hy_ hy367 H
   have Ny367 := Aside0.mk hy367
   clear hy367
   obtain ⟨t371, A13, H⟩ := bo_ H
   (try dsimp only at H)
   by_cases c14 : t364.length + t371.length < 2932031007402
   rotate_left
   · exact absurd H (by rw [if_neg c14]; simp)
   rw [if_pos c14] at H
   have LMc14 := Aside0.mk c14
   clear c14
   obtain ⟨y374, hy374⟩ : ∃ y_ : List (S28), y_ = (t364 ++ t371) := ⟨_, rfl⟩
   replace H : (some (y374, true)) = some (r1, r2) := hy_ hy374 H
   have Ny374 := Aside0.mk hy374
   clear hy374
   simp only [Option.some.injEq, Prod.mk.injEq] at H
   obtain ⟨rfl, rfl⟩ := H
   have p358 : 0 ≤ (x10_1 : Int) := of_decide_eq_true as_
   have q358 : x10_1 < (l0.length : Int) := of_decide_eq_true as_
   obtain ⟨ad358, A358_1, c358_1, e358, hx358_0, hx358_1, hx358_2, hx358_3, hx358_4, hl358_1, hi358_1⟩ := at_T28 HR0.out x10_1 p358 q358
   cases e358
   replace hx358_0 := bc_ HB.out hx358_0
   replace hx358_1 := bc_ HB.out hx358_1
   replace hx358_2 := bc_ HB.out hx358_2
   replace hx358_3 := bc_ HB.out hx358_3
   replace hx358_4 := bc_ HB.out hx358_4
   have HR358_1 := Aside0.mk hi358_1
   have HC358_1 := Aside0.mk hl358_1
   clear hi358_1 hl358_1
   replace p358 := eq_true p358
   replace q358 := eq_true q358
   try go_wp2_with (first | ((with_reducible refine gate_dst (N := 7) rfl ?_); refine bx_ (N := 7) (cs := #[.int .i64 0, .slice none 0 0, .bool false, .bool false, .int .i64 0]) (t := 28) ?_; intro gb359 hg w15 hbox hb; have BK359 := A_ (hbox); have GW359 := A_ (ge_ hg bB_ : w.heap.size ≤ gb359); have GE359 := A_ (ge_ hg bB_ : w.heap.size ≤ gb359); replace HB := A_ (below_step bB_ hb); clear hb hbox hg; obtain ⟨hcz16_0, hcz16_1, hcz16_2, hcz16_3, hcz16_4, hfz16_0, hfz16_1, hfz16_2, hfz16_3, hfz16_4⟩ := cz5_ BK359.out))
   have n0_ : Aside0 ((((((w15.setCell ⟨gb359, 0, none⟩ (.int .i64 ((rd_T28 l0 x10_1).f0))).setCell ⟨gb359, 1, none⟩ (.slice A358_1 ((rd_T28 l0 x10_1).f1).length c358_1)).setCell ⟨gb359, 2, none⟩ (.bool ((rd_T28 l0 x10_1).f2))).setCell ⟨gb359, 3, none⟩ (.bool ((rd_T28 l0 x10_1).f3))).setCell ⟨gb359, 4, none⟩ (.int .i64 ((rd_T28 l0 x10_1).f4))).heap[gb359]? = some (.cells #[.int .i64 ((rd_T28 l0 x10_1).f0), .slice A358_1 ((rd_T28 l0 x10_1).f1).length c358_1, .bool ((rd_T28 l0 x10_1).f2), .bool ((rd_T28 l0 x10_1).f3), .int .i64 ((rd_T28 l0 x10_1).f4)] 28 (0, 0))) := ⟨by (with_reducible repeat (first | refine blk_drewN ?_ _ | refine blk_drew ?_ | refine blk_alloc ?_ _)); refine blk_put (cs := #[.int .i64 ((rd_T28 l0 x10_1).f0), .slice A358_1 ((rd_T28 l0 x10_1).f1).length c358_1, .bool ((rd_T28 l0 x10_1).f2), .bool ((rd_T28 l0 x10_1).f3), .int .i64 0]) ?_ 4 _ rfl; (with_reducible repeat (first | refine blk_drewN ?_ _ | refine blk_drew ?_ | refine blk_alloc ?_ _)); refine blk_put (cs := #[.int .i64 ((rd_T28 l0 x10_1).f0), .slice A358_1 ((rd_T28 l0 x10_1).f1).length c358_1, .bool ((rd_T28 l0 x10_1).f2), .bool false, .int .i64 0]) ?_ 3 _ rfl; (with_reducible repeat (first | refine blk_drewN ?_ _ | refine blk_drew ?_ | refine blk_alloc ?_ _)); refine blk_put (cs := #[.int .i64 ((rd_T28 l0 x10_1).f0), .slice A358_1 ((rd_T28 l0 x10_1).f1).length c358_1, .bool false, .bool false, .int .i64 0]) ?_ 2 _ rfl; (with_reducible repeat (first | refine blk_drewN ?_ _ | refine blk_drew ?_ | refine blk_alloc ?_ _)); refine blk_put (cs := #[.int .i64 ((rd_T28 l0 x10_1).f0), .slice none 0 0, .bool false, .bool false, .int .i64 0]) ?_ 1 _ rfl; (with_reducible repeat (first | refine blk_drewN ?_ _ | refine blk_drew ?_ | refine blk_alloc ?_ _)); refine blk_put (cs := #[.int .i64 0, .slice none 0 0, .bool false, .bool false, .int .i64 0]) ?_ 0 _ rfl; (with_reducible repeat (first | refine blk_drewN ?_ _ | refine blk_drew ?_ | refine blk_alloc ?_ _)); exact BK359.out⟩
   have n1_ : Aside0 (Below w.heap.size w (((((w15.setCell ⟨gb359, 0, none⟩ (.int .i64 ((rd_T28 l0 x10_1).f0))).setCell ⟨gb359, 1, none⟩ (.slice A358_1 ((rd_T28 l0 x10_1).f1).length c358_1)).setCell ⟨gb359, 2, none⟩ (.bool ((rd_T28 l0 x10_1).f2))).setCell ⟨gb359, 3, none⟩ (.bool ((rd_T28 l0 x10_1).f3))).setCell ⟨gb359, 4, none⟩ (.int .i64 ((rd_T28 l0 x10_1).f4)))) := ⟨bG_ GE359.out⟩
   (try clear BK359)
   (try clear HB)
   generalize (((((w15.setCell ⟨gb359, 0, none⟩ (.int .i64 ((rd_T28 l0 x10_1).f0))).setCell ⟨gb359, 1, none⟩ (.slice A358_1 ((rd_T28 l0 x10_1).f1).length c358_1)).setCell ⟨gb359, 2, none⟩ (.bool ((rd_T28 l0 x10_1).f2))).setCell ⟨gb359, 3, none⟩ (.bool ((rd_T28 l0 x10_1).f3))).setCell ⟨gb359, 4, none⟩ (.int .i64 ((rd_T28 l0 x10_1).f4))) = w17 at n0_ n1_ ⊢
   have BK359 := n0_
   have HB := n1_
   clear n0_ n1_
   replace BK359 := A_ (blk_drew BK359.out)
   replace HB := A_ (below_drew1 HB.out)
   have q19 : (x10_1 : Int) ≤ ((l0.length : Int) : Int) := of_decide_eq_true as_
   obtain ⟨i019, hi019, _, hsz19, _⟩ := info_parts info28
   have hroom19 : l0.length ≤ c0 := HC0.out
   have hC19 : Kd.C k28 _ (some ad358) l0.length l0 := HR0.out
   have hcut19 := cut_to (P := Try.prog) 39 28 .i64 Try.underlying39 hi019 (some ad358) l0.length c0 x10_1 (of_decide_eq_true as_) q19 hroom19
   have hr19 := Kd.C_take (m := (x10_1 : Int).toNat) hC19 (by omega)
   have hy19 : y360.length = (x10_1 : Int).toNat := (by rw [Ny360.out, List.length_take]; omega)
   rw [← Ny360.out] at hr19
   rw [← hy19] at hcut19
   have HR363 := Aside0.mk hr19
   have HC363 := A_ (show y360.length ≤ c0 from by omega)
   clear hr19 hC19 hroom19 hi019 hsz19
   have KY19 := Aside0.mk hy19
   clear hy19
   replace q19 := eq_true q19
   have q20 : ((ji10) : Int) ≤ ((l0.length : Int) : Int) := of_decide_eq_true as_
   obtain ⟨i020, hi020, _, hsz20, _⟩ := info_parts info28
   have hroom20 : l0.length ≤ c0 := HC0.out
   have hC20 : Kd.C k28 _ (some ad358) l0.length l0 := HR0.out
   have q020 : (0 : Int) ≤ ((ji10) : Int) := of_decide_eq_true as_
   have hcut20 := cut_from (P := Try.prog) 39 28 .i64 Try.underlying39 hi020 5 hsz20 (some ad358) l0.length c0 (ji10) q020 q20
   have hr20 := Kd.C_drop (m := ((ji10) : Int).toNat) (c := c0) hC20 (by omega) hroom20
   obtain ⟨A20, hA20⟩ : ∃ A1, A1 = (if c0 = ((ji10) : Int).toNat then (some ad358) else ((some ad358) : Option Addr).map (·.add (((ji10) : Int).toNat * 5))) := ⟨_, rfl⟩
   obtain ⟨c20, hc20⟩ : ∃ c1, c1 = c0 - ((ji10) : Int).toNat := ⟨_, rfl⟩
   have hy20 : y367.length = l0.length - ((ji10) : Int).toNat := (by rw [Ny367.out, List.length_drop] <;> omega)
   rw [show (l0).drop ((ji10) : Int).toNat = y367 from Ny367.out.symm] at hr20
   replace hr20 : Kd.C k28 _ A20 y367.length y367 := (by rw [hA20]; exact hr20)
   rw [← hy20, ← hA20, ← hc20] at hcut20
   have HR370 := Aside0.mk hr20
   have HC370 := A_ (show y367.length ≤ c20 from by rw [hy20, hc20]; exact Nat.sub_le_sub_right hroom20 _)
   clear hr20 hC20 hroom20 hi020 hsz20 hc20
   have KY20 := Aside0.mk hy20
   have KA20 := Aside0.mk hA20
   clear hy20 hA20
   replace q20 := eq_true q20
   refine start_ (n := 12) (S := fun w' => True) (ds := []) #[false, false, false, false, false, false, false, false, false, false, false, false] (by kernel_rfl) rfl rfl trivial (fun hHeld => ?_); refine with_tabW impl_DropLock.tab5 impl_DropLock.bits5 (fun HT_ HW_ => ?_)
   generalize w17.drew = w18 at BK359 HB HR363 HR370 hHeld ⊢
   refine pu_ (i := 0) (N := some 19) ?_
   refine pu_ (i := 1) (N := some 20) ?_
   refine pu_ (i := 2) (N := some 21) ?_
   refine pu_ (i := 4) (N := some 23) ?_
   refine pu_ (i := 5) (N := some 24) ?_
   refine pu_ (i := 6) (N := some 25) ?_
   refine pu_ (i := 7) (N := some 26) ?_
   refine on_ (i := 3) (N := some 22) (fun K hK => ?_)
   refine goes_ Try.func69 (by kernel_rfl) rfl #[.slice (some ad358) y360.length c0] (by rfl) rfl rfl ml_ ?_
   with_reducible refine (impl_copyLocks.calls k1 _ _ y360 t364 _ ?s1 ?s2 A9.out).mono ?_
   (case s1 => exact cC_ (Kd.C_below HR363.out HB.out))
   (case s2 => exact HC363.out)
   rintro e w21 ⟨v365, rfl, ho0, hb⟩
   refine ⟨_, rfl, ?_⟩
   have HO366 := A_ (Kd.N_lower (Kd.N_mono (ok' := fun k_ => (w.heap.size ≤ k_) ∧ k_ ≠ gb359) (Kd.S_N (Kd.S_bound ho0)) (fun k_ hk_ => ⟨(Nat.le_trans (below_size (bG_ GE359.out)) hk_.2.1), (Kd.freshB (g := gb359) (o := .cells #[.int .i64 ((rd_T28 l0 x10_1).f0), .slice A358_1 ((rd_T28 l0 x10_1).f1).length c358_1, .bool ((rd_T28 l0 x10_1).f2), .bool ((rd_T28 l0 x10_1).f3), .int .i64 ((rd_T28 l0 x10_1).f4)] 28 (0, 0)) (vb_ BK359.out) k_ hk_.2.1)⟩)) (below_size (bG_ GE359.out)))
   replace BK359 := A_ (bw_ BK359.out hb)
   replace HB := A_ (below_step (bG_ GE359.out) hb)
   (try clear hb)
   (try clear hb2)
   (try clear hk)
   (try clear hi)
   (try clear ho0)
   refine hK.out _ _ trivial (fun hHeld => ?_)
   clear hK K
   refine no_ (some 22) ?_
   refine on_ (i := 8) (N := some 27) (fun K hK => ?_)
   refine goes_ Try.func69 (by kernel_rfl) rfl #[.slice A20 y367.length c20] (by rfl) rfl rfl ml_ ?_
   with_reducible refine (impl_copyLocks.calls k1 _ _ y367 t371 _ ?s1 ?s2 A13.out).mono ?_
   (case s1 => exact cC_ (Kd.C_below HR370.out HB.out))
   (case s2 => exact HC370.out)
   rintro e w22 ⟨v372, rfl, ho0, hb⟩
   refine ⟨_, rfl, ?_⟩
   have HO373 := A_ (Kd.N_lower (Kd.N_mono (ok' := fun k_ => (w.heap.size ≤ k_) ∧ some k_ ≠ (v365 : Value).ownBlock ∧ k_ ≠ gb359) (Kd.S_N (Kd.S_bound ho0)) (fun k_ hk_ => ⟨(Nat.le_trans (below_size (bG_ GE359.out)) hk_.2.1), (Kd.fresh' (Kd.N_lt (vN_ HO366.out)) k_ hk_.2.1), (Kd.freshB (g := gb359) (o := .cells #[.int .i64 ((rd_T28 l0 x10_1).f0), .slice A358_1 ((rd_T28 l0 x10_1).f1).length c358_1, .bool ((rd_T28 l0 x10_1).f2), .bool ((rd_T28 l0 x10_1).f3), .int .i64 ((rd_T28 l0 x10_1).f4)] 28 (0, 0)) (vb_ BK359.out) k_ hk_.2.1)⟩)) (below_size (bG_ GE359.out)))
   replace HO366 := A_ (Kd.N_elder' (vN_ HO366.out) (kb_ ho0) hb)
   replace BK359 := A_ (bw_ BK359.out hb)
   replace HB := A_ (below_step (bG_ GE359.out) hb)
   (try clear hb)
   (try clear hb2)
   (try clear hk)
   (try clear hi)
   (try clear ho0)
   obtain ⟨Ao24, co24, eo24⟩ := Kd.N_slice HO373.out
   (first | subst eo24 | (injection eo24 with f1_ f2_ f3_; have f4_ := f1_.symm; have f5_ := f3_.symm; clear f1_ f2_ f3_; subst f4_; subst f5_))
   refine hK.out _ _ trivial (fun hHeld => ?_)
   clear hK K
   refine no_ (some 27) ?_
   refine on_ (i := 9) (N := some 28) (fun K hK => ?_)
   refine Kd.N_append_rows_step k28 (w0 := w) w.heap.size (by rfl) (.tmp 22) (.tmp 27) 39 28 (.agg #[(.int .i64 0), (.slice none 0 0), (.bool false), (.bool false), (.int .i64 0)]) 48 rfl Try.underlying39 info28 rfl (by decide) (by omega) v365 t364 t371 _ _ _ (fun k_ => (w.heap.size ≤ k_) ∧ k_ ≠ gb359) (fun k_ => ((fun k_ => (w.heap.size ≤ k_) ∧ k_ ≠ gb359)) k_ ∧ some k_ ≠ (v365 : Value).ownBlock) rfl rfl ?aO ?aR (fun _ hk => hk) ?aF ?aB ?aS ?aL ?_
   (case aR => exact (by skip; exact Kd.N_F (Kd.N_mono (ok' := (fun k_ => ((fun k_ => (w.heap.size ≤ k_) ∧ k_ ≠ gb359)) k_ ∧ some k_ ≠ (v365 : Value).ownBlock)) (HO373.out) (fun k_ hk => ⟨⟨hk.1, hk.2.2⟩, hk.2.1⟩))))
   (case aB => exact (bG_ GE359.out))
   (case aF => exact (fun k_ hk => ⟨(Nat.le_trans (below_size (bG_ GE359.out)) hk), Kd.freshB (g := gb359) (o := .cells #[.int .i64 ((rd_T28 l0 x10_1).f0), .slice A358_1 ((rd_T28 l0 x10_1).f1).length c358_1, .bool ((rd_T28 l0 x10_1).f2), .bool ((rd_T28 l0 x10_1).f3), .int .i64 ((rd_T28 l0 x10_1).f4)] 28 (0, 0)) (vb_ BK359.out) k_ hk⟩))
   (case aO => exact (by (with_reducible repeat (first | apply Kd.N_alloc | apply Kd.N_drewN | apply Kd.N_drew)); exact Kd.N_mono HO366.out (fun _ hk => ⟨hk.1.1, hk.1.2⟩)))
   (case aS => exact (below_size (bG_ GE359.out)))
   (case aL => have := LMc14.out; omega)
   intro v375 w23 ho hb hg hat
   rw [← Ny374.out] at ho
   replace BK359 := A_ (blk_grown (g := gb359) (o := .cells #[.int .i64 ((rd_T28 l0 x10_1).f0), .slice A358_1 ((rd_T28 l0 x10_1).f1).length c358_1, .bool ((rd_T28 l0 x10_1).f2), .bool ((rd_T28 l0 x10_1).f3), .int .i64 ((rd_T28 l0 x10_1).f4)] 28 (0, 0)) (vb_ BK359.out) hg (Kd.N_away HO366.out (fun _ hk => hk.1.2)))
   replace HO373 := A_ (Kd.N_afterv (ok := (fun k_ => (w.heap.size ≤ k_) ∧ k_ ≠ gb359)) (by (with_reducible repeat (first | apply Kd.N_alloc | apply Kd.N_drewN | apply Kd.N_drew)); exact Kd.N_mono HO373.out (fun _ hk => ⟨⟨hk.1, hk.2.2⟩, hk.2.1⟩)) hg hat)
   replace HB := A_ (hb)
   have HO376 := A_ (ho)
   clear HO366
   clear ho hb hg hat
   refine hK.out _ _ trivial (fun hHeld => ?_)
   clear hK K
   refine no_ (some 28) ?_
   refine pu_ (i := 10) (N := some 4) ?_
   refine pu_ (i := 11) (N := some 5) ?_
   refine done_ (done_of HT_.out (by kernel_rfl)) ?_
   (try clear hHeld)
   try go_wp2
   go_ret2
   exact ⟨_, by first | rfl | (simp [errW_none, errW_some] <;> rfl) | (simp only [← hji10]; first | rfl | (simp [errW_none, errW_some] <;> rfl)) | (simp [*, errW_none, errW_some] <;> rfl), by (with_reducible repeat (first | apply Kd.N_alloc | apply Kd.N_drewN | apply Kd.N_drew)); exact Kd.N_mono HO376.out (fun _ hk => hk.1), bG_ GE359.out⟩
def spec_LiveLocks.l0 : Nat → Int → List (S28) → List (S28) → Int → Option ((List (S28)))
 | 0, _, _, _, _ => none
 | k + 1, x1, x5, x6, x7 => if x7 < (x6.length : Int) then (if 0 ≤ x7 then (if ((rd_T28 x6 x7).f4) > x1 then (if x5.length < 2932031007402 then (spec_LiveLocks.l0 k x1 (x5 ++ [(⟨(rd_T28 x6 x7).f0, (rd_T28 x6 x7).f1, (rd_T28 x6 x7).f2, (rd_T28 x6 x7).f3, (rd_T28 x6 x7).f4⟩ : S28)]) x6 (wrap64 (x7 + 1))) else (none)) else (spec_LiveLocks.l0 k x1 x5 x6 (wrap64 (x7 + 1)))) else (none)) else (some x5)
def spec_LiveLocks.f (k : Nat) (l0 : List (S28)) (a1 : Int) : Option ((List (S28))) := (spec_l13Copy.f k l0).bind fun t413 => (spec_LiveLocks.l0 k a1 (([] : List (S28))) t413 0)
set_option maxHeartbeats 8000000 in
set_option maxRecDepth 100000 in
theorem spec_LiveLocks.calls (k : Nat) (A0 : Option Addr) (c0 : Nat) (l0 : List (S28)) (a1 : Int) (r : List (S28)) (w : World) (hr0 : Kd.C k28 w A0 l0.length l0) (hc0 : l0.length ≤ c0) (h : spec_LiveLocks.f k l0 a1 = some r) :
 Calls Try.prog 36 #[.slice A0 l0.length c0, .int .i64 a1] w fun e w' => ∃ v0_ : Value, e = .returned (v0_) ∧ Kd.N k28 28 w' w.heap.size (fun k_ => (w.heap.size ≤ k_)) v0_ r ∧ Below w.heap.size w w' := by
 have hu28 := Try.underlying28
 have HR0 := Aside0.mk hr0
 have HC0 := Aside0.mk hc0
 clear hr0 hc0
 have HB := A_ (Below.refl w.heap.size w)
 have H : ((spec_l13Copy.f k l0).bind fun t413 => (spec_LiveLocks.l0 k a1 (([] : List (S28))) t413 0)) = some r := h
 clear h
 obtain ⟨y410, hy410⟩ : ∃ y_ : List (S28), y_ = (([] : List (S28))) := ⟨_, rfl⟩
 replace H : ((spec_l13Copy.f k l0).bind fun t413 => (spec_LiveLocks.l0 k a1 y410 t413 0)) = some r := hy_ hy410 H
 have Ny410 := Aside0.mk hy410
 clear hy410
 obtain ⟨t413, A3, H⟩ := bo_ H
 (try dsimp only at H)
 have H' := Aside0.mk H
 clear H
 go_enter Try.func36, Try.ntmps36
 go_wp2_with (first | ((with_reducible refine gate_dst (N := 8) rfl ?_); refine Kd.N_lit k28 _ 28 ?hg (N' := 8) ?hd (xs := ([] : List (S28))) (inner := []) (ok := (fun k_ => (w.heap.size ≤ k_))) (okp := (fun k_ => (w.heap.size ≤ k_))) ?hr ?hp (fun _ hk => hk) ((show ∀ k_, w.heap.size ≤ k_ → (fun k_ => (w.heap.size ≤ k_)) k_ from fun k_ hk => (Nat.le_trans (below_size bB_) hk)) _ (Nat.le_refl _)) (Below.refl _ _) (Nat.le_refl _) (by simp) ?_; (case hd => rfl); (case hg => rfl); (case hr => first | (go_simp; done) | (go_simp; rfl)); (case hp => exact (Reps.none _ _)); intro v411 w4 ho5 hb hg_ hnew_; clear hg_ hnew_; (first | rw [← Ny410.out] at ho5 | (simp only [Int.reduceToNat] at ho5; rw [← Ny410.out] at ho5)); have HO412 := A_ (Kd.N_lower ho5 (below_size bB_)); replace HB := A_ (below_step bB_ hb); clear hb ho5) | ((with_reducible refine gate_callee (f := 68) rfl ?_); refine gL_ (some 10) Try.func68 #[.slice A0 l0.length c0] ?_; (with_reducible refine (spec_l13Copy.calls k _ _ l0 t413 _ ?s1 ?s2 A3.out).mono ?_); (case s1 => exact cC_ (Kd.C_below HR0.out HB.out)); (case s2 => exact HC0.out); rintro e w6 ⟨v414, rfl, ho0, hb⟩; refine ⟨_, rfl, ?_⟩; have HO415 := A_ (Kd.N_lower (Kd.N_mono (ok' := fun k_ => (w.heap.size ≤ k_) ∧ some k_ ≠ (v411 : Value).ownBlock) (Kd.S_N (Kd.S_bound ho0)) (fun k_ hk_ => ⟨(Nat.le_trans (below_size bB_) hk_.2.1), (Kd.fresh' (Kd.N_lt (vN_ HO412.out)) k_ hk_.2.1)⟩)) (below_size bB_)); replace HO412 := A_ (Kd.N_elder' (vN_ HO412.out) (kb_ ho0) hb); replace HB := A_ (below_step bB_ hb); (try clear hb); (try clear ho0)))
 go_loopg [5, 7] k (fun kq v5 v7 w' => ∃ (x5_1 : List (S28)) (x7_1 : Int), v7 = .int .i64 x7_1 ∧ Aside0 (spec_LiveLocks.l0 kq a1 x5_1 t413 x7_1 = some r) ∧ Aside0 (kq ≤ k) ∧ Aside0 (Kd.N k28 28 w' w.heap.size (fun k_ => (w.heap.size ≤ k_) ∧ some k_ ≠ (v414 : Value).ownBlock) v5 x5_1) ∧ Aside0 (Kd.N k28 28 w' w.heap.size (fun k_ => (w.heap.size ≤ k_) ∧ some k_ ≠ (v5 : Value).ownBlock) v414 t413) ∧ Aside0 (Below w.heap.size w w'))
 case atStart => exact ⟨(y410), (0), rs_, H', ⟨Nat.le_refl _⟩, ⟨vN_ HO412.out⟩, ⟨vN_ HO415.out⟩, ⟨bB_⟩⟩
 case round =>
  clear H'
  try clear p2
  try clear c3
  try clear c6
  obtain ⟨x5_1, x7_1, rfl, HA, HK1, HO_5, HO_6, HB⟩ := hrel
  cases gk with
  | zero => exact absurd HA.out (by simp [spec_LiveLocks.l0])
  | succ k1 =>
   have H := HA.out
   clear HA
   simp only [spec_LiveLocks.l0] at H
   by_cases c7 : x7_1 < (t413.length : Int)
   rotate_left
   · rw [if_neg c7] at H
     have c7b0 : decide (x7_1 < (t413.length : Int)) = false := decide_eq_false c7
     clear c7
     obtain rfl := Option.some.inj H
     obtain ⟨Ao14, co14, eo14⟩ := Kd.N_slice HO_6.out
     subst eo14
     go_wp2
     go_ret
     exact ⟨_, rr_, by (with_reducible repeat (first | apply Kd.N_alloc | apply Kd.N_drewN | apply Kd.N_drew)); exact Kd.N_mono HO_5.out (fun _ hk => hk.1), bB_⟩
   rw [if_pos c7] at H
   have c7b0 : decide (x7_1 < (t413.length : Int)) = true := decide_eq_true c7
   clear c7
   by_cases c8 : 0 ≤ x7_1
   rotate_left
   · exact absurd H (by rw [if_neg c8]; simp)
   rw [if_pos c8] at H
   have c8b0 : decide (0 ≤ x7_1) = true := decide_eq_true c8
   clear c8
   by_cases c9 : ((rd_T28 t413 x7_1).f4) > a1
   rotate_left
   · rw [if_neg c9] at H
     have c9b0 : decide (a1 < ((rd_T28 t413 x7_1).f4)) = false := decide_eq_false c9
     clear c9
     have H' := Aside0.mk H
     clear H
     obtain ⟨Ao13, co13, eo13⟩ := Kd.N_slice HO_6.out
     subst eo13
     have p416 : 0 ≤ (x7_1 : Int) := of_decide_eq_true as_
     have q416 : x7_1 < (t413.length : Int) := of_decide_eq_true as_
     obtain ⟨ad416, A416_1, c416_1, e416, hx416_0, hx416_1, hx416_2, hx416_3, hx416_4, hl416_1, hi416_1⟩ := at_T28 (Kd.N_reads' HO_6.out).2.2 x7_1 p416 q416
     cases e416
     obtain ⟨ce416, hce416, hMe416, hcc416⟩ := Kd.N_get HO_6.out z28 x7_1 p416 (by first | exact q416 | exact of_decide_eq_true as_ | (have e_ := (Kd.N_reads' HO_6.out).1; omega))
     obtain ⟨ua416_1, uc416_1, rfl, ul416_1, ge416_1⟩ := k28_openF hMe416
     have hv416_1 := hcc416 1 _ rfl
     rw [add_field _ _ 1 (by omega)] at hv416_1
     replace hv416_1 := Option.some.inj (hv416_1.symm.trans hx416_1)
     injection hv416_1 with hva_ hvn_ hvc_
     rw [hva_] at ge416_1
     rw [hvc_] at ul416_1
     have HL416_1 := A_ (show Kd.V Kd.string 9 _ w.heap.size _ _ ((rd_T28 t413 x7_1).f1) from Kd.V_mk ul416_1 ge416_1)
     clear hva_ hvn_ hvc_ ge416_1 ul416_1
     clear hcc416 hce416
     have HR416_1 := Aside0.mk hi416_1
     have HC416_1 := Aside0.mk hl416_1
     clear hi416_1 hl416_1
     replace p416 := eq_true p416
     replace q416 := eq_true q416
     go_wp2
     go_roundg k1
     case measure => have := HK1.out; omega
     case rel => exact ⟨(x5_1), (wrap64 (x7_1 + 1)), rs_, H', ⟨by have := HK1.out; omega⟩, ⟨vN_ HO_5.out⟩, ⟨vN_ HO_6.out⟩, ⟨bB_⟩⟩
   rw [if_pos c9] at H
   have c9b0 : decide (a1 < ((rd_T28 t413 x7_1).f4)) = true := decide_eq_true c9
   clear c9
   by_cases c10 : x5_1.length < 2932031007402
   rotate_left
   · exact absurd H (by rw [if_neg c10]; simp)
   rw [if_pos c10] at H
   have LMc10 := Aside0.mk c10
   clear c10
   obtain ⟨y418, hy418⟩ : ∃ y_ : List (S28), y_ = (x5_1 ++ [(⟨(rd_T28 t413 x7_1).f0, (rd_T28 t413 x7_1).f1, (rd_T28 t413 x7_1).f2, (rd_T28 t413 x7_1).f3, (rd_T28 t413 x7_1).f4⟩ : S28)]) := ⟨_, rfl⟩
   replace H : (spec_LiveLocks.l0 k1 a1 y418 t413 (wrap64 (x7_1 + 1))) = some r := hy_ hy418 H
   have Ny418 := Aside0.mk hy418
   clear hy418
   have H' := Aside0.mk H
   clear H
   obtain ⟨Ao11, co11, eo11⟩ := Kd.N_slice HO_6.out
   subst eo11
   have p416 : 0 ≤ (x7_1 : Int) := of_decide_eq_true as_
   have q416 : x7_1 < (t413.length : Int) := of_decide_eq_true as_
   obtain ⟨ad416, A416_1, c416_1, e416, hx416_0, hx416_1, hx416_2, hx416_3, hx416_4, hl416_1, hi416_1⟩ := at_T28 (Kd.N_reads' HO_6.out).2.2 x7_1 p416 q416
   cases e416
   obtain ⟨ce416, hce416, hMe416, hcc416⟩ := Kd.N_get HO_6.out z28 x7_1 p416 (by first | exact q416 | exact of_decide_eq_true as_ | (have e_ := (Kd.N_reads' HO_6.out).1; omega))
   obtain ⟨ua416_1, uc416_1, rfl, ul416_1, ge416_1⟩ := k28_openF hMe416
   have hv416_1 := hcc416 1 _ rfl
   rw [add_field _ _ 1 (by omega)] at hv416_1
   replace hv416_1 := Option.some.inj (hv416_1.symm.trans hx416_1)
   injection hv416_1 with hva_ hvn_ hvc_
   rw [hva_] at ge416_1
   rw [hvc_] at ul416_1
   have HL416_1 := A_ (show Kd.V Kd.string 9 _ w.heap.size _ _ ((rd_T28 t413 x7_1).f1) from Kd.V_mk ul416_1 ge416_1)
   clear hva_ hvn_ hvc_ ge416_1 ul416_1
   clear hcc416 hce416
   have HR416_1 := Aside0.mk hi416_1
   have HC416_1 := Aside0.mk hl416_1
   clear hi416_1 hl416_1
   replace p416 := eq_true p416
   replace q416 := eq_true q416
   have p417 : 0 ≤ (x7_1 : Int) := of_decide_eq_true as_
   have q417 : x7_1 < (t413.length : Int) := of_decide_eq_true as_
   obtain ⟨ad417, A417_1, c417_1, e417, hx417_0, hx417_1, hx417_2, hx417_3, hx417_4, hl417_1, hi417_1⟩ := at_T28 (Kd.N_reads' HO_6.out).2.2 x7_1 p417 q417
   obtain rfl : ad416 = ad417 := (by injection e417)
   obtain ⟨ce417, hce417, hMe417, hcc417⟩ := Kd.N_get HO_6.out z28 x7_1 p417 (by first | exact q417 | exact of_decide_eq_true as_ | (have e_ := (Kd.N_reads' HO_6.out).1; omega))
   obtain ⟨ua417_1, uc417_1, rfl, ul417_1, ge417_1⟩ := k28_openF hMe417
   have hv417_1 := hcc417 1 _ rfl
   rw [add_field _ _ 1 (by omega)] at hv417_1
   replace hv417_1 := Option.some.inj (hv417_1.symm.trans hx417_1)
   injection hv417_1 with hva_ hvn_ hvc_
   rw [hva_] at ge417_1
   rw [hvc_] at ul417_1
   have HL417_1 := A_ (show Kd.V Kd.string 9 _ w.heap.size _ _ ((rd_T28 t413 x7_1).f1) from Kd.V_mk ul417_1 ge417_1)
   clear hva_ hvn_ hvc_ ge417_1 ul417_1
   clear hcc417 hce417
   have HR417_1 := Aside0.mk hi417_1
   have HC417_1 := Aside0.mk hl417_1
   clear hi417_1 hl417_1
   replace p417 := eq_true p417
   replace q417 := eq_true q417
   have ea_ := Option.some.inj (hx416_1.symm.trans hx417_1)
   injection ea_ with ea_ en_ ec_
   subst ea_
   subst ec_
   clear en_
   go_wp2_with (first | ((with_reducible refine gate_builtin (b := .append) (xs := #[.tmp 24, .tmp 29]) rfl ?_); at_builtin; refine Kd.N_append k28 (w0 := w) w.heap.size rfl (.tmp 24) (.tmp 29) 39 28 (.agg #[(.int .i64 0), (.slice none 0 0), (.bool false), (.bool false), (.int .i64 0)]) 48 rfl Try.underlying39 info28 rfl (by decide) (by omega) u5 x5_1 (⟨(rd_T28 t413 x7_1).f0, (rd_T28 t413 x7_1).f1, (rd_T28 t413 x7_1).f2, (rd_T28 t413 x7_1).f3, (rd_T28 t413 x7_1).f4⟩ : S28) [.int .i64 ((rd_T28 t413 x7_1).f0), .slice A416_1 ((rd_T28 t413 x7_1).f1).length c416_1, .bool ((rd_T28 t413 x7_1).f2), .bool ((rd_T28 t413 x7_1).f3), .int .i64 ((rd_T28 t413 x7_1).f4)] (fun k_ => (w.heap.size ≤ k_) ∧ some k_ ≠ (.slice (some ad416) t413.length co11 : Value).ownBlock) (fun k_ => ((fun k_ => (w.heap.size ≤ k_) ∧ some k_ ≠ (.slice (some ad416) t413.length co11 : Value).ownBlock)) k_ ∧ some k_ ≠ (u5 : Value).ownBlock) rfl rfl ?aP (fun _ hk => hk) ?aF ?aO ?aB ?aS ?aL ?_; (case aP => exact (k28_mkF _ _ (⟨(rd_T28 t413 x7_1).f0, (rd_T28 t413 x7_1).f1, (rd_T28 t413 x7_1).f2, (rd_T28 t413 x7_1).f3, (rd_T28 t413 x7_1).f4⟩ : S28) (Kd.V_reads' (Kd.V_mono (ok' := (fun k_ => ((fun k_ => (w.heap.size ≤ k_) ∧ some k_ ≠ (.slice (some ad416) t413.length co11 : Value).ownBlock)) k_ ∧ some k_ ≠ (u5 : Value).ownBlock)) (HL417_1.out) (fun k_ hk => ⟨⟨hk.1.1, hk.2⟩, hk.1.2⟩))).2.1 (Kd.V_F (Kd.V_mono (ok' := (fun k_ => ((fun k_ => (w.heap.size ≤ k_) ∧ some k_ ≠ (.slice (some ad416) t413.length co11 : Value).ownBlock)) k_ ∧ some k_ ≠ (u5 : Value).ownBlock)) (HL417_1.out) (fun k_ hk => ⟨⟨hk.1.1, hk.2⟩, hk.1.2⟩))))); (case aB => exact bB_); (case aF => exact (fun k_ hk => ⟨(Nat.le_trans (below_size bB_) hk), Kd.fresh' (Kd.N_lt (vN_ HO_6.out)) k_ hk⟩)); (case aO => exact (vN_ HO_5.out)); (case aS => exact (below_size bB_)); (case aL => have := LMc10.out; omega); intro v419 w12 ho hb hg hat; rw [← Ny418.out] at ho; replace HO_6 := A_ (Kd.N_afterv (ok := (fun k_ => (w.heap.size ≤ k_))) (vN_ HO_6.out) hg hat); replace HL416_1 := A_ (Kd.V_afterv (ok := (fun k_ => (w.heap.size ≤ k_) ∧ some k_ ≠ (.slice (some ad416) t413.length co11 : Value).ownBlock)) (by (with_reducible repeat (first | apply Kd.V_alloc | apply Kd.V_drewN | apply Kd.V_drew)); exact Kd.V_mono HL416_1.out (fun _ hk => ⟨⟨hk.1.1, hk.2⟩, hk.1.2⟩)) hg hat); replace HL417_1 := A_ (Kd.V_afterv (ok := (fun k_ => (w.heap.size ≤ k_) ∧ some k_ ≠ (.slice (some ad416) t413.length co11 : Value).ownBlock)) (by (with_reducible repeat (first | apply Kd.V_alloc | apply Kd.V_drewN | apply Kd.V_drew)); exact Kd.V_mono HL417_1.out (fun _ hk => ⟨⟨hk.1.1, hk.2⟩, hk.1.2⟩)) hg hat); replace HB := A_ (hb); have HO420 := A_ (ho); clear HO_5; clear ho hb hg hat))
   go_roundg k1
   case measure => have := HK1.out; omega
   case rel => exact ⟨(y418), (wrap64 (x7_1 + 1)), rs_, H', ⟨by have := HK1.out; omega⟩, ⟨vN_ HO420.out⟩, ⟨vN_ HO_6.out⟩, ⟨bB_⟩⟩
def impl_Covers.f (k : Nat) (a0_0 : Int) (l0_1 : List ByteArray) (a0_2 : Bool) (a0_3 : Bool) (a0_4 : Int) (l1 : List ByteArray) : Option (Bool) := (impl_SamePath.f k l0_1 l1).bind fun t127 => (if t127 = true then (some true) else (if a0_2 = true then ((impl_Under.f k l1 l0_1).bind fun t128 => (some t128)) else (some false)))
set_option maxHeartbeats 8000000 in
set_option maxRecDepth 100000 in
theorem impl_Covers.calls (k : Nat) (a0_0 : Int) (A0_1 : Option Addr) (c0_1 : Nat) (l0_1 : List ByteArray) (a0_2 : Bool) (a0_3 : Bool) (a0_4 : Int) (A1 : Option Addr) (c1 : Nat) (l1 : List ByteArray) (r : Bool) (w : World) (hr0_1 : Kd.C Kd.string w A0_1 l0_1.length l0_1) (hc0_1 : l0_1.length ≤ c0_1) (hr1 : Kd.C Kd.string w A1 l1.length l1) (hc1 : l1.length ≤ c1) (h : impl_Covers.f k a0_0 l0_1 a0_2 a0_3 a0_4 l1 = some r) :
 Calls Try.prog 20 #[.agg #[.int .i64 a0_0, .slice A0_1 l0_1.length c0_1, .bool a0_2, .bool a0_3, .int .i64 a0_4], .slice A1 l1.length c1] w fun e w' => e = .returned (.bool r) ∧ Below w.heap.size w w' := by
 have hu28 := Try.underlying28
 have HR0_1 := Aside0.mk hr0_1
 have HC0_1 := Aside0.mk hc0_1
 clear hr0_1 hc0_1
 have HR1 := Aside0.mk hr1
 have HC1 := Aside0.mk hc1
 clear hr1 hc1
 have HB := A_ (Below.refl w.heap.size w)
 have H : ((impl_SamePath.f k l0_1 l1).bind fun t127 => (if t127 = true then (some true) else (if a0_2 = true then ((impl_Under.f k l1 l0_1).bind fun t128 => (some t128)) else (some false)))) = some r := h
 clear h
 obtain ⟨t127, A3, H⟩ := bo_ H
 (try dsimp only at H)
 by_cases c4 : t127 = true
 · subst c4
   rw [if_pos rfl] at H
   obtain rfl := Option.some.inj H
   go_enter Try.func20, Try.ntmps20
   go_wp2_with (first | ((with_reducible refine gate_dst (N := 2) rfl ?_); refine bx_ (N := 2) (cs := #[.int .i64 a0_0, .slice A0_1 l0_1.length c0_1, .bool a0_2, .bool a0_3, .int .i64 a0_4]) (t := 28) ?_; intro gb126 hg w5 hbox hb; have BK126 := A_ (hbox); have GW126 := A_ (ge_ hg bB_ : w.heap.size ≤ gb126); have GE126 := A_ (ge_ hg bB_ : w.heap.size ≤ gb126); replace HB := A_ (below_step bB_ hb); clear hb hbox hg; obtain ⟨hcz6_0, hcz6_1, hcz6_2, hcz6_3, hcz6_4, hfz6_0, hfz6_1, hfz6_2, hfz6_3, hfz6_4⟩ := cz5_ BK126.out) | ((with_reducible refine gate_callee (f := 64) rfl ?_); refine gL_ (some 8) Try.func64 #[.slice A0_1 l0_1.length c0_1, .slice A1 l1.length c1] ?_; (with_reducible refine (impl_SamePath.calls k _ _ l0_1 _ _ l1 true _ ?s1 ?s2 ?s3 ?s4 A3.out).mono ?_); (case s1 => exact cC_ (Kd.C_below HR0_1.out HB.out)); (case s2 => exact HC0_1.out); (case s3 => exact cC_ (Kd.C_below HR1.out HB.out)); (case s4 => exact HC1.out); rintro e w' ⟨rfl, ⟨nd, rfl⟩⟩; refine ⟨_, rfl, ?_⟩))
   go_ret
   exact ⟨rr_, bG_ GE126.out⟩
 · replace c4 := Bool.eq_false_iff.mpr c4
   subst c4
   rw [if_neg nf_] at H
   by_cases c7 : a0_2 = true
   · subst c7
     rw [if_pos rfl] at H
     obtain ⟨t128, A8, H⟩ := bo_ H
     (try dsimp only at H)
     obtain rfl := Option.some.inj H
     go_enter Try.func20, Try.ntmps20
     go_wp2_with (first | ((with_reducible refine gate_dst (N := 2) rfl ?_); refine bx_ (N := 2) (cs := #[.int .i64 a0_0, .slice A0_1 l0_1.length c0_1, .bool true, .bool a0_3, .int .i64 a0_4]) (t := 28) ?_; intro gb126 hg w9 hbox hb; have BK126 := A_ (hbox); have GW126 := A_ (ge_ hg bB_ : w.heap.size ≤ gb126); have GE126 := A_ (ge_ hg bB_ : w.heap.size ≤ gb126); replace HB := A_ (below_step bB_ hb); clear hb hbox hg; obtain ⟨hcz10_0, hcz10_1, hcz10_2, hcz10_3, hcz10_4, hfz10_0, hfz10_1, hfz10_2, hfz10_3, hfz10_4⟩ := cz5_ BK126.out) | ((with_reducible refine gate_callee (f := 64) rfl ?_); refine gL_ (some 8) Try.func64 #[.slice A0_1 l0_1.length c0_1, .slice A1 l1.length c1] ?_; (with_reducible refine (impl_SamePath.calls k _ _ l0_1 _ _ l1 false _ ?s1 ?s2 ?s3 ?s4 A3.out).mono ?_); (case s1 => exact cC_ (Kd.C_below HR0_1.out HB.out)); (case s2 => exact HC0_1.out); (case s3 => exact cC_ (Kd.C_below HR1.out HB.out)); (case s4 => exact HC1.out); rintro e w' ⟨rfl, ⟨nd, rfl⟩⟩; refine ⟨_, rfl, ?_⟩) | (go_at_call 65; (with_reducible refine (impl_Under.calls k _ _ l1 _ _ l0_1 t128 _ ?s1 ?s2 ?s3 ?s4 A8.out).mono ?_); (case s1 => exact cC_ (Kd.C_below HR1.out (bG_ GE126.out))); (case s2 => exact HC1.out); (case s3 => exact cC_ (Kd.C_below HR0_1.out (bG_ GE126.out))); (case s4 => exact HC0_1.out); rintro e w' ⟨rfl, ⟨nd, rfl⟩⟩))
     go_ret
     exact ⟨rr_, bG_ GE126.out⟩
   · replace c7 := Bool.eq_false_iff.mpr c7
     subst c7
     rw [if_neg nf_] at H
     obtain rfl := Option.some.inj H
     go_enter Try.func20, Try.ntmps20
     go_wp2_with (first | ((with_reducible refine gate_dst (N := 2) rfl ?_); refine bx_ (N := 2) (cs := #[.int .i64 a0_0, .slice A0_1 l0_1.length c0_1, .bool false, .bool a0_3, .int .i64 a0_4]) (t := 28) ?_; intro gb126 hg w11 hbox hb; have BK126 := A_ (hbox); have GW126 := A_ (ge_ hg bB_ : w.heap.size ≤ gb126); have GE126 := A_ (ge_ hg bB_ : w.heap.size ≤ gb126); replace HB := A_ (below_step bB_ hb); clear hb hbox hg; obtain ⟨hcz12_0, hcz12_1, hcz12_2, hcz12_3, hcz12_4, hfz12_0, hfz12_1, hfz12_2, hfz12_3, hfz12_4⟩ := cz5_ BK126.out) | ((with_reducible refine gate_callee (f := 64) rfl ?_); refine gL_ (some 8) Try.func64 #[.slice A0_1 l0_1.length c0_1, .slice A1 l1.length c1] ?_; (with_reducible refine (impl_SamePath.calls k _ _ l0_1 _ _ l1 false _ ?s1 ?s2 ?s3 ?s4 A3.out).mono ?_); (case s1 => exact cC_ (Kd.C_below HR0_1.out HB.out)); (case s2 => exact HC0_1.out); (case s3 => exact cC_ (Kd.C_below HR1.out HB.out)); (case s4 => exact HC1.out); rintro e w' ⟨rfl, ⟨nd, rfl⟩⟩; refine ⟨_, rfl, ?_⟩))
     go_ret
     exact ⟨rr_, bG_ GE126.out⟩
def spec_TokensAt.l0 : Nat → List (S28) → List ByteArray → List Int → Int → Option (List Int)
 | 0, _, _, _, _ => none
 | k + 1, x0, x1, x5, x6 => if x6 < (x0.length : Int) then (if 0 ≤ x6 then ((spec_Covers.f k ((rd_T28 x0 x6).f0) ((rd_T28 x0 x6).f1) ((rd_T28 x0 x6).f2) ((rd_T28 x0 x6).f3) ((rd_T28 x0 x6).f4) x1).bind fun t435 => (if t435 = true then (if x5.length < 17592186044416 then (spec_TokensAt.l0 k x0 x1 (x5 ++ [(rd_T28 x0 x6).f0]) (wrap64 (x6 + 1))) else (none)) else (spec_TokensAt.l0 k x0 x1 x5 (wrap64 (x6 + 1))))) else (none)) else (some x5)
def spec_TokensAt.f (k : Nat) (l0 : List (S28)) (l1 : List ByteArray) : Option (List Int) := spec_TokensAt.l0 k l0 l1 (([] : List Int)) 0
set_option maxHeartbeats 8000000 in
set_option maxRecDepth 100000 in
theorem spec_TokensAt.calls (k : Nat) (A0 : Option Addr) (c0 : Nat) (l0 : List (S28)) (A1 : Option Addr) (c1 : Nat) (l1 : List ByteArray) (r : List Int) (w : World) (hr0 : Kd.C k28 w A0 l0.length l0) (hc0 : l0.length ≤ c0) (hr1 : Kd.C Kd.string w A1 l1.length l1) (hc1 : l1.length ≤ c1) (h : spec_TokensAt.f k l0 l1 = some r) :
 Calls Try.prog 38 #[.slice A0 l0.length c0, .slice A1 l1.length c1] w fun e w' => ∃ v0_ : Value, e = .returned (v0_) ∧ Kd.R (Kd.int .i64) 3 w' w.heap.size (fun _ => True) v0_ r ∧ Below w.heap.size w w' := by
 have hu28 := Try.underlying28
 have HR0 := Aside0.mk hr0
 have HC0 := Aside0.mk hc0
 clear hr0 hc0
 have HR1 := Aside0.mk hr1
 have HC1 := Aside0.mk hc1
 clear hr1 hc1
 have HB := A_ (Below.refl w.heap.size w)
 have H : (spec_TokensAt.l0 k l0 l1 (([] : List Int)) 0) = some r := h
 clear h
 obtain ⟨y431, hy431⟩ : ∃ y_ : List Int, y_ = (([] : List Int)) := ⟨_, rfl⟩
 replace H : (spec_TokensAt.l0 k l0 l1 y431 0) = some r := hy_ hy431 H
 have Ny431 := Aside0.mk hy431
 clear hy431
 have H' := Aside0.mk H
 clear H
 go_enter Try.func38, Try.ntmps38
 go_wp2_with (first | ((with_reducible refine gate_dst (N := 7) rfl ?_); refine Kd.R_lit (Kd.int .i64) _ 3 ?hg (N := 7) ?hd (xs := ([] : List Int)) (inner := []) (ok := fun _ => True) (okp := fun _ => True) ?hr ?hp (fun _ hk => hk) trivial (Below.refl _ _) (Nat.le_refl _) (by simp) ?_; (case hd => rfl); (case hg => rfl); (case hr => first | (go_simp; done) | (go_simp; rfl)); (case hp => exact (Reps.none _ _)); intro v432 w3 ho4 hb hg_ hnew_; clear hg_ hnew_; (first | rw [← Ny431.out] at ho4 | (simp only [Int.reduceToNat] at ho4; rw [← Ny431.out] at ho4)); have HO433 := A_ (Kd.R_lower ho4 (below_size bB_)); replace HB := A_ (below_step bB_ hb); clear hb ho4))
 go_loopg [5, 6] k (fun kq v5 v6 w' => ∃ (x5_1 : List Int) (x6_1 : Int), v6 = .int .i64 x6_1 ∧ Aside0 (spec_TokensAt.l0 kq l0 l1 x5_1 x6_1 = some r) ∧ Aside0 (kq ≤ k) ∧ Aside0 (Kd.R (Kd.int .i64) 3 w' w.heap.size (fun _ => True) v5 x5_1) ∧ Aside0 (Below w.heap.size w w'))
 case atStart => exact ⟨(y431), (0), rs_, H', ⟨Nat.le_refl _⟩, ⟨vR_ HO433.out⟩, ⟨bB_⟩⟩
 case round =>
  clear H'
  try clear c1
  try clear p2
  try clear c3
  obtain ⟨x5_1, x6_1, rfl, HA, HK1, HO_5, HB⟩ := hrel
  cases gk with
  | zero => exact absurd HA.out (by simp [spec_TokensAt.l0])
  | succ k1 =>
   have H := HA.out
   clear HA
   simp only [spec_TokensAt.l0] at H
   by_cases c5 : x6_1 < (l0.length : Int)
   rotate_left
   · rw [if_neg c5] at H
     have c5b0 : decide (x6_1 < (l0.length : Int)) = false := decide_eq_false c5
     clear c5
     obtain rfl := Option.some.inj H
     go_wp2
     go_ret
     exact ⟨_, rr_, by (with_reducible repeat (first | apply Kd.R_alloc | apply Kd.R_drewN | apply Kd.R_drew)); exact HO_5.out, bB_⟩
   rw [if_pos c5] at H
   have c5b0 : decide (x6_1 < (l0.length : Int)) = true := decide_eq_true c5
   clear c5
   by_cases c6 : 0 ≤ x6_1
   rotate_left
   · exact absurd H (by rw [if_neg c6]; simp)
   rw [if_pos c6] at H
   have c6b0 : decide (0 ≤ x6_1) = true := decide_eq_true c6
   clear c6
   obtain ⟨t435, A7, H⟩ := bo_ H
   (try dsimp only at H)
   by_cases c8 : t435 = true
   · subst c8
     rw [if_pos rfl] at H
     by_cases c9 : x5_1.length < 17592186044416
     rotate_left
     · exact absurd H (by rw [if_neg c9]; simp)
     rw [if_pos c9] at H
     have LMc9 := Aside0.mk c9
     clear c9
     obtain ⟨y437, hy437⟩ : ∃ y_ : List Int, y_ = (x5_1 ++ [(rd_T28 l0 x6_1).f0]) := ⟨_, rfl⟩
     replace H : (spec_TokensAt.l0 k1 l0 l1 y437 (wrap64 (x6_1 + 1))) = some r := hy_ hy437 H
     have Ny437 := Aside0.mk hy437
     clear hy437
     have H' := Aside0.mk H
     clear H
     have p434 : 0 ≤ (x6_1 : Int) := of_decide_eq_true as_
     have q434 : x6_1 < (l0.length : Int) := of_decide_eq_true as_
     obtain ⟨ad434, A434_1, c434_1, e434, hx434_0, hx434_1, hx434_2, hx434_3, hx434_4, hl434_1, hi434_1⟩ := at_T28 HR0.out x6_1 p434 q434
     cases e434
     replace hx434_0 := bc_ HB.out hx434_0
     replace hx434_1 := bc_ HB.out hx434_1
     replace hx434_2 := bc_ HB.out hx434_2
     replace hx434_3 := bc_ HB.out hx434_3
     replace hx434_4 := bc_ HB.out hx434_4
     have HR434_1 := Aside0.mk hi434_1
     have HC434_1 := Aside0.mk hl434_1
     clear hi434_1 hl434_1
     replace p434 := eq_true p434
     replace q434 := eq_true q434
     go_wp2_with (first | ((with_reducible refine gate_callee (f := 17) rfl ?_); refine gL_ (some 19) Try.func17 #[.agg #[.int .i64 ((rd_T28 l0 x6_1).f0), .slice A434_1 ((rd_T28 l0 x6_1).f1).length c434_1, .bool ((rd_T28 l0 x6_1).f2), .bool ((rd_T28 l0 x6_1).f3), .int .i64 ((rd_T28 l0 x6_1).f4)], .slice A1 l1.length c1] ?_; (with_reducible refine (spec_Covers.calls k1 ((rd_T28 l0 x6_1).f0) _ _ ((rd_T28 l0 x6_1).f1) ((rd_T28 l0 x6_1).f2) ((rd_T28 l0 x6_1).f3) ((rd_T28 l0 x6_1).f4) _ _ l1 true _ ?s1 ?s2 ?s3 ?s4 A7.out).mono ?_); (case s1 => exact cC_ (Kd.C_below HR434_1.out HB.out)); (case s2 => exact HC434_1.out); (case s3 => exact cC_ (Kd.C_below HR1.out HB.out)); (case s4 => exact HC1.out); rintro e w10 ⟨rfl, hb⟩; refine ⟨_, rfl, ?_⟩; replace HO_5 := A_ (Kd.R_below (vR_ HO_5.out) hb); replace HB := A_ (below_step bB_ hb); (try clear hb); have p436 : 0 ≤ (x6_1 : Int) := of_decide_eq_true as_; have q436 : x6_1 < (l0.length : Int) := of_decide_eq_true as_; obtain ⟨ad436, A436_1, c436_1, e436, hx436_0, hx436_1, hx436_2, hx436_3, hx436_4, hl436_1, hi436_1⟩ := at_T28 HR0.out x6_1 p436 q436; obtain rfl : ad434 = ad436 := (by injection e436); replace hx436_0 := bc_ HB.out hx436_0; replace hx436_1 := bc_ HB.out hx436_1; replace hx436_2 := bc_ HB.out hx436_2; replace hx436_3 := bc_ HB.out hx436_3; replace hx436_4 := bc_ HB.out hx436_4; have HR436_1 := Aside0.mk hi436_1; have HC436_1 := Aside0.mk hl436_1; clear hi436_1 hl436_1; replace p436 := eq_true p436; replace q436 := eq_true q436) | ((with_reducible refine gate_builtin (b := .append) (xs := #[.tmp 20, .tmp 26]) rfl ?_); at_builtin; refine Kd.R_append (Kd.int .i64) (w0 := w) w.heap.size rfl (.tmp 20) (.tmp 26) 36 3 (.int .i64 0) 8 rfl Try.underlying36 info3 rfl (by decide) (by omega) u5 x5_1 ((rd_T28 l0 x6_1).f0) [.int .i64 ((rd_T28 l0 x6_1).f0)] (fun _ => True) (fun _ => False) rfl rfl ?aP (fun _ hk => hk.elim) ?aF ?aO ?aB ?aS ?aL ?_; (case aP => exact rfl); (case aB => exact bB_); (case aF => exact (fun _ _ => trivial)); (case aO => exact (vR_ HO_5.out)); (case aS => exact (below_size bB_)); (case aL => have := LMc9.out; omega); intro v438 w11 ho hb hg hat; rw [← Ny437.out] at ho; replace HB := A_ (hb); have HO439 := A_ (ho); clear HO_5; clear ho hb hg hat))
     go_roundg k1
     case measure => have := HK1.out; omega
     case rel => exact ⟨(y437), (wrap64 (x6_1 + 1)), rs_, H', ⟨by have := HK1.out; omega⟩, ⟨vR_ HO439.out⟩, ⟨bB_⟩⟩
   · replace c8 := Bool.eq_false_iff.mpr c8
     subst c8
     rw [if_neg nf_] at H
     have H' := Aside0.mk H
     clear H
     have p434 : 0 ≤ (x6_1 : Int) := of_decide_eq_true as_
     have q434 : x6_1 < (l0.length : Int) := of_decide_eq_true as_
     obtain ⟨ad434, A434_1, c434_1, e434, hx434_0, hx434_1, hx434_2, hx434_3, hx434_4, hl434_1, hi434_1⟩ := at_T28 HR0.out x6_1 p434 q434
     cases e434
     replace hx434_0 := bc_ HB.out hx434_0
     replace hx434_1 := bc_ HB.out hx434_1
     replace hx434_2 := bc_ HB.out hx434_2
     replace hx434_3 := bc_ HB.out hx434_3
     replace hx434_4 := bc_ HB.out hx434_4
     have HR434_1 := Aside0.mk hi434_1
     have HC434_1 := Aside0.mk hl434_1
     clear hi434_1 hl434_1
     replace p434 := eq_true p434
     replace q434 := eq_true q434
     go_wp2_with (first | ((with_reducible refine gate_callee (f := 17) rfl ?_); refine gL_ (some 19) Try.func17 #[.agg #[.int .i64 ((rd_T28 l0 x6_1).f0), .slice A434_1 ((rd_T28 l0 x6_1).f1).length c434_1, .bool ((rd_T28 l0 x6_1).f2), .bool ((rd_T28 l0 x6_1).f3), .int .i64 ((rd_T28 l0 x6_1).f4)], .slice A1 l1.length c1] ?_; (with_reducible refine (spec_Covers.calls k1 ((rd_T28 l0 x6_1).f0) _ _ ((rd_T28 l0 x6_1).f1) ((rd_T28 l0 x6_1).f2) ((rd_T28 l0 x6_1).f3) ((rd_T28 l0 x6_1).f4) _ _ l1 false _ ?s1 ?s2 ?s3 ?s4 A7.out).mono ?_); (case s1 => exact cC_ (Kd.C_below HR434_1.out HB.out)); (case s2 => exact HC434_1.out); (case s3 => exact cC_ (Kd.C_below HR1.out HB.out)); (case s4 => exact HC1.out); rintro e w12 ⟨rfl, hb⟩; refine ⟨_, rfl, ?_⟩; replace HO_5 := A_ (Kd.R_below (vR_ HO_5.out) hb); replace HB := A_ (below_step bB_ hb); (try clear hb)))
     go_roundg k1
     case measure => have := HK1.out; omega
     case rel => exact ⟨(x5_1), (wrap64 (x6_1 + 1)), rs_, H', ⟨by have := HK1.out; omega⟩, ⟨vR_ HO_5.out⟩, ⟨bB_⟩⟩
def impl_TokensAt.l0 : Nat → List ByteArray → List Int → List (S28) → Int → Int → Option (List Int)
 | 0, _, _, _, _, _ => none
 | k + 1, x1, x5, x8, x9, x10 => if x10 < x9 then (if 0 ≤ x10 then (if x10 < (x8.length : Int) then ((impl_Covers.f k ((rd_T28 x8 x10).f0) ((rd_T28 x8 x10).f1) ((rd_T28 x8 x10).f2) ((rd_T28 x8 x10).f3) ((rd_T28 x8 x10).f4) x1).bind fun t442 => (if t442 = true then (if x5.length < 17592186044416 then (impl_TokensAt.l0 k x1 (x5 ++ [(rd_T28 x8 x10).f0]) x8 x9 (wrap64 (x10 + 1))) else (none)) else (impl_TokensAt.l0 k x1 x5 x8 x9 (wrap64 (x10 + 1))))) else (none)) else (none)) else (some x5)
def impl_TokensAt.f (k : Nat) (l0 : List (S28)) (l1 : List ByteArray) : Option (List Int) := impl_TokensAt.l0 k l1 ([] : List Int) l0 (l0.length : Int) 0
set_option maxHeartbeats 8000000 in
set_option maxRecDepth 100000 in
theorem impl_TokensAt.calls (k : Nat) (A0 : Option Addr) (c0 : Nat) (l0 : List (S28)) (A1 : Option Addr) (c1 : Nat) (l1 : List ByteArray) (r : List Int) (w : World) (hr0 : Kd.C k28 w A0 l0.length l0) (hc0 : l0.length ≤ c0) (hr1 : Kd.C Kd.string w A1 l1.length l1) (hc1 : l1.length ≤ c1) (h : impl_TokensAt.f k l0 l1 = some r) :
 Calls Try.prog 39 #[.slice A0 l0.length c0, .slice A1 l1.length c1] w fun e w' => ∃ v0_ : Value, e = .returned (v0_) ∧ Kd.R (Kd.int .i64) 3 w' w.heap.size (fun _ => True) v0_ r ∧ Below w.heap.size w w' := by
 have hu28 := Try.underlying28
 have HR0 := Aside0.mk hr0
 have HC0 := Aside0.mk hc0
 clear hr0 hc0
 have HR1 := Aside0.mk hr1
 have HC1 := Aside0.mk hc1
 clear hr1 hc1
 have HB := A_ (Below.refl w.heap.size w)
 have H : (impl_TokensAt.l0 k l1 ([] : List Int) l0 (l0.length : Int) 0) = some r := h
 clear h
 have H' := Aside0.mk H
 clear H
 go_enter Try.func39, Try.ntmps39
 go_wp2
 go_loopg [5, 10] k (fun kq v5 v10 w' => ∃ (x5_1 : List Int) (x10_1 : Int), v10 = .int .i64 x10_1 ∧ Aside0 (impl_TokensAt.l0 kq l1 x5_1 l0 (l0.length : Int) x10_1 = some r) ∧ Aside0 (kq ≤ k) ∧ Aside0 (Kd.R (Kd.int .i64) 3 w' w.heap.size (fun _ => True) v5 x5_1) ∧ Aside0 (Below w.heap.size w w'))
 case atStart => exact ⟨(([] : List Int)), (0), rs_, H', ⟨Nat.le_refl _⟩, ⟨by first | exact Kd.R_nil _ _ _ _ _ | exact Kd.N_nil _ _ _ _ _ | exact Kd.V_nil _ _ _ _ _ | exact Kd.Q_nil _ _ _ _ _ | exact Kd.S_nil _ _ _ _ _⟩, ⟨bB_⟩⟩
 case round =>
  clear H'
  try clear c1
  try clear p2
  obtain ⟨x5_1, x10_1, rfl, HA, HK1, HO_5, HB⟩ := hrel
  cases gk with
  | zero => exact absurd HA.out (by simp [impl_TokensAt.l0])
  | succ k1 =>
   have H := HA.out
   clear HA
   simp only [impl_TokensAt.l0] at H
   by_cases c3 : x10_1 < (l0.length : Int)
   rotate_left
   · rw [if_neg c3] at H
     have c3b0 : decide (x10_1 < (l0.length : Int)) = false := decide_eq_false c3
     clear c3
     obtain rfl := Option.some.inj H
     go_wp2
     go_ret
     exact ⟨_, rr_, by (with_reducible repeat (first | apply Kd.R_alloc | apply Kd.R_drewN | apply Kd.R_drew)); exact HO_5.out, bB_⟩
   rw [if_pos c3] at H
   have c3b0 : decide (x10_1 < (l0.length : Int)) = true := decide_eq_true c3
   clear c3
   by_cases c4 : 0 ≤ x10_1
   rotate_left
   · exact absurd H (by rw [if_neg c4]; simp)
   rw [if_pos c4] at H
   have c4b0 : decide (0 ≤ x10_1) = true := decide_eq_true c4
   clear c4
   by_cases c5 : x10_1 < (l0.length : Int)
   rotate_left
   · exact absurd H (by rw [if_neg c5]; simp)
   rw [if_pos c5] at H
   have c5b0 : decide (x10_1 < (l0.length : Int)) = true := decide_eq_true c5
   clear c5
   obtain ⟨t442, A6, H⟩ := bo_ H
   (try dsimp only at H)
   by_cases c7 : t442 = true
   · subst c7
     rw [if_pos rfl] at H
     by_cases c8 : x5_1.length < 17592186044416
     rotate_left
     · exact absurd H (by rw [if_neg c8]; simp)
     rw [if_pos c8] at H
     have LMc8 := Aside0.mk c8
     clear c8
     obtain ⟨y443, hy443⟩ : ∃ y_ : List Int, y_ = (x5_1 ++ [(rd_T28 l0 x10_1).f0]) := ⟨_, rfl⟩
     replace H : (impl_TokensAt.l0 k1 l1 y443 l0 (l0.length : Int) (wrap64 (x10_1 + 1))) = some r := hy_ hy443 H
     have Ny443 := Aside0.mk hy443
     clear hy443
     have H' := Aside0.mk H
     clear H
     have p440 : 0 ≤ (x10_1 : Int) := of_decide_eq_true as_
     have q440 : x10_1 < (l0.length : Int) := of_decide_eq_true as_
     obtain ⟨ad440, A440_1, c440_1, e440, hx440_0, hx440_1, hx440_2, hx440_3, hx440_4, hl440_1, hi440_1⟩ := at_T28 HR0.out x10_1 p440 q440
     cases e440
     replace hx440_0 := bc_ HB.out hx440_0
     replace hx440_1 := bc_ HB.out hx440_1
     replace hx440_2 := bc_ HB.out hx440_2
     replace hx440_3 := bc_ HB.out hx440_3
     replace hx440_4 := bc_ HB.out hx440_4
     have HR440_1 := Aside0.mk hi440_1
     have HC440_1 := Aside0.mk hl440_1
     clear hi440_1 hl440_1
     replace p440 := eq_true p440
     replace q440 := eq_true q440
     go_wp2_with (first | ((with_reducible refine gate_dst (N := 7) rfl ?_); refine bx_ (N := 7) (cs := #[.int .i64 0, .slice none 0 0, .bool false, .bool false, .int .i64 0]) (t := 28) ?_; intro gb441 hg w9 hbox hb; replace HO_5 := A_ (Kd.R_below (vR_ HO_5.out) hb); have BK441 := A_ (hbox); have GW441 := A_ (ge_ hg bB_ : w.heap.size ≤ gb441); have GE441 := A_ (ge_ hg bB_ : w.heap.size ≤ gb441); replace HB := A_ (below_step bB_ hb); clear hb hbox hg; obtain ⟨hcz10_0, hcz10_1, hcz10_2, hcz10_3, hcz10_4, hfz10_0, hfz10_1, hfz10_2, hfz10_3, hfz10_4⟩ := cz5_ BK441.out) | ((with_reducible refine gate_callee (f := 20) rfl ?_); refine gL_ (some 16) Try.func20 #[.agg #[.int .i64 ((rd_T28 l0 x10_1).f0), .slice A440_1 ((rd_T28 l0 x10_1).f1).length c440_1, .bool ((rd_T28 l0 x10_1).f2), .bool ((rd_T28 l0 x10_1).f3), .int .i64 ((rd_T28 l0 x10_1).f4)], .slice A1 l1.length c1] ?_; (with_reducible refine (impl_Covers.calls k1 ((rd_T28 l0 x10_1).f0) _ _ ((rd_T28 l0 x10_1).f1) ((rd_T28 l0 x10_1).f2) ((rd_T28 l0 x10_1).f3) ((rd_T28 l0 x10_1).f4) _ _ l1 true _ ?s1 ?s2 ?s3 ?s4 A6.out).mono ?_); (case s1 => exact Kd.C_below HR440_1.out (bG_ GE441.out)); (case s2 => exact HC440_1.out); (case s3 => exact Kd.C_below HR1.out (bG_ GE441.out)); (case s4 => exact HC1.out); rintro e w11 ⟨rfl, hb⟩; refine ⟨_, rfl, ?_⟩; replace HO_5 := A_ (Kd.R_below (by (with_reducible repeat (first | apply Kd.R_alloc | apply Kd.R_drewN | apply Kd.R_drew)); exact (Kd.R_mono (Kd.R_far (p := ⟨gb441, 4, none⟩) (Kd.R_far (p := ⟨gb441, 3, none⟩) (Kd.R_far (p := ⟨gb441, 2, none⟩) (Kd.R_far (p := ⟨gb441, 1, none⟩) (Kd.R_far (p := ⟨gb441, 0, none⟩) (Kd.R_types HO_5.out BK441.out (by decide)) (fun _ hk => hk.2) (.int .i64 ((rd_T28 l0 x10_1).f0))) (fun _ hk => hk.2) (.slice A440_1 ((rd_T28 l0 x10_1).f1).length c440_1)) (fun _ hk => hk.2) (.bool ((rd_T28 l0 x10_1).f2))) (fun _ hk => hk.2) (.bool ((rd_T28 l0 x10_1).f3))) (fun _ hk => hk.2) (.int .i64 ((rd_T28 l0 x10_1).f4))) (fun _ h_ => h_.1))) hb); replace BK441 := A_ (blk_below (g := gb441) (o := .cells #[.int .i64 ((rd_T28 l0 x10_1).f0), .slice A440_1 ((rd_T28 l0 x10_1).f1).length c440_1, .bool ((rd_T28 l0 x10_1).f2), .bool ((rd_T28 l0 x10_1).f3), .int .i64 ((rd_T28 l0 x10_1).f4)] 28 (0, 0)) (by (with_reducible repeat (first | refine blk_drewN ?_ _ | refine blk_drew ?_ | refine blk_alloc ?_ _)); refine blk_put (cs := #[.int .i64 ((rd_T28 l0 x10_1).f0), .slice A440_1 ((rd_T28 l0 x10_1).f1).length c440_1, .bool ((rd_T28 l0 x10_1).f2), .bool ((rd_T28 l0 x10_1).f3), .int .i64 0]) ?_ 4 _ rfl; (with_reducible repeat (first | refine blk_drewN ?_ _ | refine blk_drew ?_ | refine blk_alloc ?_ _)); refine blk_put (cs := #[.int .i64 ((rd_T28 l0 x10_1).f0), .slice A440_1 ((rd_T28 l0 x10_1).f1).length c440_1, .bool ((rd_T28 l0 x10_1).f2), .bool false, .int .i64 0]) ?_ 3 _ rfl; (with_reducible repeat (first | refine blk_drewN ?_ _ | refine blk_drew ?_ | refine blk_alloc ?_ _)); refine blk_put (cs := #[.int .i64 ((rd_T28 l0 x10_1).f0), .slice A440_1 ((rd_T28 l0 x10_1).f1).length c440_1, .bool false, .bool false, .int .i64 0]) ?_ 2 _ rfl; (with_reducible repeat (first | refine blk_drewN ?_ _ | refine blk_drew ?_ | refine blk_alloc ?_ _)); refine blk_put (cs := #[.int .i64 ((rd_T28 l0 x10_1).f0), .slice none 0 0, .bool false, .bool false, .int .i64 0]) ?_ 1 _ rfl; (with_reducible repeat (first | refine blk_drewN ?_ _ | refine blk_drew ?_ | refine blk_alloc ?_ _)); refine blk_put (cs := #[.int .i64 0, .slice none 0 0, .bool false, .bool false, .int .i64 0]) ?_ 0 _ rfl; (with_reducible repeat (first | refine blk_drewN ?_ _ | refine blk_drew ?_ | refine blk_alloc ?_ _)); exact BK441.out) hb); replace HB := A_ (below_step (bG_ GE441.out) hb); (try clear hb); obtain ⟨hcz12_0, hcz12_1, hcz12_2, hcz12_3, hcz12_4, hfz12_0, hfz12_1, hfz12_2, hfz12_3, hfz12_4⟩ := cz5_ BK441.out) | ((with_reducible refine gate_builtin (b := .append) (xs := #[.tmp 17, .tmp 20]) rfl ?_); at_builtin; refine Kd.R_append (Kd.int .i64) (w0 := w) w.heap.size rfl (.tmp 17) (.tmp 20) 36 3 (.int .i64 0) 8 rfl Try.underlying36 info3 rfl (by decide) (by omega) u5 x5_1 ((rd_T28 l0 x10_1).f0) [.int .i64 ((rd_T28 l0 x10_1).f0)] (fun _ => True) (fun _ => False) rfl rfl ?aP (fun _ hk => hk.elim) ?aF ?aO ?aB ?aS ?aL ?_; (case aP => exact rfl); (case aB => exact (bG_ GE441.out)); (case aF => exact (fun _ _ => trivial)); (case aO => exact (vR_ HO_5.out)); (case aS => exact (below_size (bG_ GE441.out))); (case aL => have := LMc8.out; omega); intro v444 w13 ho hb hg hat; rw [← Ny443.out] at ho; replace BK441 := A_ (blk_grown (g := gb441) (o := .cells #[.int .i64 ((rd_T28 l0 x10_1).f0), .slice A440_1 ((rd_T28 l0 x10_1).f1).length c440_1, .bool ((rd_T28 l0 x10_1).f2), .bool ((rd_T28 l0 x10_1).f3), .int .i64 ((rd_T28 l0 x10_1).f4)] 28 (0, 0)) (vb_ BK441.out) hg (Kd.R_ne HO_5.out BK441.out (by decide))); replace HB := A_ (hb); have HO445 := A_ (ho); clear HO_5; clear ho hb hg hat))
     go_roundg k1
     case measure => have := HK1.out; omega
     case rel => exact ⟨(y443), (wrap64 (x10_1 + 1)), rs_, H', ⟨by have := HK1.out; omega⟩, ⟨vR_ HO445.out⟩, ⟨bG_ GE441.out⟩⟩
   · replace c7 := Bool.eq_false_iff.mpr c7
     subst c7
     rw [if_neg nf_] at H
     have H' := Aside0.mk H
     clear H
     have p440 : 0 ≤ (x10_1 : Int) := of_decide_eq_true as_
     have q440 : x10_1 < (l0.length : Int) := of_decide_eq_true as_
     obtain ⟨ad440, A440_1, c440_1, e440, hx440_0, hx440_1, hx440_2, hx440_3, hx440_4, hl440_1, hi440_1⟩ := at_T28 HR0.out x10_1 p440 q440
     cases e440
     replace hx440_0 := bc_ HB.out hx440_0
     replace hx440_1 := bc_ HB.out hx440_1
     replace hx440_2 := bc_ HB.out hx440_2
     replace hx440_3 := bc_ HB.out hx440_3
     replace hx440_4 := bc_ HB.out hx440_4
     have HR440_1 := Aside0.mk hi440_1
     have HC440_1 := Aside0.mk hl440_1
     clear hi440_1 hl440_1
     replace p440 := eq_true p440
     replace q440 := eq_true q440
     go_wp2_with (first | ((with_reducible refine gate_dst (N := 7) rfl ?_); refine bx_ (N := 7) (cs := #[.int .i64 0, .slice none 0 0, .bool false, .bool false, .int .i64 0]) (t := 28) ?_; intro gb441 hg w14 hbox hb; replace HO_5 := A_ (Kd.R_below (vR_ HO_5.out) hb); have BK441 := A_ (hbox); have GW441 := A_ (ge_ hg bB_ : w.heap.size ≤ gb441); have GE441 := A_ (ge_ hg bB_ : w.heap.size ≤ gb441); replace HB := A_ (below_step bB_ hb); clear hb hbox hg; obtain ⟨hcz15_0, hcz15_1, hcz15_2, hcz15_3, hcz15_4, hfz15_0, hfz15_1, hfz15_2, hfz15_3, hfz15_4⟩ := cz5_ BK441.out) | ((with_reducible refine gate_callee (f := 20) rfl ?_); refine gL_ (some 16) Try.func20 #[.agg #[.int .i64 ((rd_T28 l0 x10_1).f0), .slice A440_1 ((rd_T28 l0 x10_1).f1).length c440_1, .bool ((rd_T28 l0 x10_1).f2), .bool ((rd_T28 l0 x10_1).f3), .int .i64 ((rd_T28 l0 x10_1).f4)], .slice A1 l1.length c1] ?_; (with_reducible refine (impl_Covers.calls k1 ((rd_T28 l0 x10_1).f0) _ _ ((rd_T28 l0 x10_1).f1) ((rd_T28 l0 x10_1).f2) ((rd_T28 l0 x10_1).f3) ((rd_T28 l0 x10_1).f4) _ _ l1 false _ ?s1 ?s2 ?s3 ?s4 A6.out).mono ?_); (case s1 => exact Kd.C_below HR440_1.out (bG_ GE441.out)); (case s2 => exact HC440_1.out); (case s3 => exact Kd.C_below HR1.out (bG_ GE441.out)); (case s4 => exact HC1.out); rintro e w16 ⟨rfl, hb⟩; refine ⟨_, rfl, ?_⟩; replace HO_5 := A_ (Kd.R_below (by (with_reducible repeat (first | apply Kd.R_alloc | apply Kd.R_drewN | apply Kd.R_drew)); exact (Kd.R_mono (Kd.R_far (p := ⟨gb441, 4, none⟩) (Kd.R_far (p := ⟨gb441, 3, none⟩) (Kd.R_far (p := ⟨gb441, 2, none⟩) (Kd.R_far (p := ⟨gb441, 1, none⟩) (Kd.R_far (p := ⟨gb441, 0, none⟩) (Kd.R_types HO_5.out BK441.out (by decide)) (fun _ hk => hk.2) (.int .i64 ((rd_T28 l0 x10_1).f0))) (fun _ hk => hk.2) (.slice A440_1 ((rd_T28 l0 x10_1).f1).length c440_1)) (fun _ hk => hk.2) (.bool ((rd_T28 l0 x10_1).f2))) (fun _ hk => hk.2) (.bool ((rd_T28 l0 x10_1).f3))) (fun _ hk => hk.2) (.int .i64 ((rd_T28 l0 x10_1).f4))) (fun _ h_ => h_.1))) hb); replace BK441 := A_ (blk_below (g := gb441) (o := .cells #[.int .i64 ((rd_T28 l0 x10_1).f0), .slice A440_1 ((rd_T28 l0 x10_1).f1).length c440_1, .bool ((rd_T28 l0 x10_1).f2), .bool ((rd_T28 l0 x10_1).f3), .int .i64 ((rd_T28 l0 x10_1).f4)] 28 (0, 0)) (by (with_reducible repeat (first | refine blk_drewN ?_ _ | refine blk_drew ?_ | refine blk_alloc ?_ _)); refine blk_put (cs := #[.int .i64 ((rd_T28 l0 x10_1).f0), .slice A440_1 ((rd_T28 l0 x10_1).f1).length c440_1, .bool ((rd_T28 l0 x10_1).f2), .bool ((rd_T28 l0 x10_1).f3), .int .i64 0]) ?_ 4 _ rfl; (with_reducible repeat (first | refine blk_drewN ?_ _ | refine blk_drew ?_ | refine blk_alloc ?_ _)); refine blk_put (cs := #[.int .i64 ((rd_T28 l0 x10_1).f0), .slice A440_1 ((rd_T28 l0 x10_1).f1).length c440_1, .bool ((rd_T28 l0 x10_1).f2), .bool false, .int .i64 0]) ?_ 3 _ rfl; (with_reducible repeat (first | refine blk_drewN ?_ _ | refine blk_drew ?_ | refine blk_alloc ?_ _)); refine blk_put (cs := #[.int .i64 ((rd_T28 l0 x10_1).f0), .slice A440_1 ((rd_T28 l0 x10_1).f1).length c440_1, .bool false, .bool false, .int .i64 0]) ?_ 2 _ rfl; (with_reducible repeat (first | refine blk_drewN ?_ _ | refine blk_drew ?_ | refine blk_alloc ?_ _)); refine blk_put (cs := #[.int .i64 ((rd_T28 l0 x10_1).f0), .slice none 0 0, .bool false, .bool false, .int .i64 0]) ?_ 1 _ rfl; (with_reducible repeat (first | refine blk_drewN ?_ _ | refine blk_drew ?_ | refine blk_alloc ?_ _)); refine blk_put (cs := #[.int .i64 0, .slice none 0 0, .bool false, .bool false, .int .i64 0]) ?_ 0 _ rfl; (with_reducible repeat (first | refine blk_drewN ?_ _ | refine blk_drew ?_ | refine blk_alloc ?_ _)); exact BK441.out) hb); replace HB := A_ (below_step (bG_ GE441.out) hb); (try clear hb)))
     go_roundg k1
     case measure => have := HK1.out; omega
     case rel => exact ⟨(x5_1), (wrap64 (x10_1 + 1)), rs_, H', ⟨by have := HK1.out; omega⟩, ⟨vR_ HO_5.out⟩, ⟨bG_ GE441.out⟩⟩
def spec_l1In.f (a0 : Int) (a1 : Int) (a2 : Int) : Option (Bool) := if a0 ≥ a1 then (some (decide (a0 ≤ a2))) else (some false)
set_option maxHeartbeats 8000000 in
set_option maxRecDepth 100000 in
theorem spec_l1In.calls (a0 : Int) (a1 : Int) (a2 : Int) (r : Bool) (w : World) (h : spec_l1In.f a0 a1 a2 = some r) :
 Calls Try.prog 74 #[.int .i64 a0, .int .i64 a1, .int .i64 a2] w fun e w' => e = .returned (.bool r) ∧ Drawn0 w w' := by
 have H : (if a0 ≥ a1 then (some (decide (a0 ≤ a2))) else (some false)) = some r := h
 clear h
 by_cases c4 : a0 ≥ a1
 · rw [if_pos c4] at H
   have c4b0 : decide (a1 ≤ a0) = true := decide_eq_true c4
   clear c4
   obtain rfl := Option.some.inj H
   go_enter Try.func74, Try.ntmps74
   go_wp2
   go_ret
   exact ⟨rs_, dr_⟩
 rw [if_neg c4] at H
 have c4b0 : decide (a1 ≤ a0) = false := decide_eq_false c4
 clear c4
 obtain rfl := Option.some.inj H
 go_enter Try.func74, Try.ntmps74
 go_wp2
 go_ret
 exact ⟨rs_, dr_⟩
def spec_Plain.l0 : Nat → ByteArray → Int → Option (Bool)
 | 0, _, _ => none
 | k + 1, x0, x3 => if x3 < (x0.size : Int) then (if 0 ≤ x3 then ((spec_l1In.f (wrap64 (bt x0 x3)) 32 126).bind fun t477 => (if t477 = true then (spec_Plain.l0 k x0 (wrap64 (x3 + 1))) else (some false))) else (none)) else (some true)
def spec_Plain.f (k : Nat) (a0 : ByteArray) : Option (Bool) := spec_Plain.l0 k a0 0
set_option maxHeartbeats 8000000 in
set_option maxRecDepth 100000 in
theorem spec_Plain.calls (k : Nat) (a0 : ByteArray) (r : Bool) (w : World) (h : spec_Plain.f k a0 = some r) :
 Calls Try.prog 96 #[.string a0] w fun e w' => e = .returned (.bool r) ∧ Drawn0 w w' := by
 have H : (spec_Plain.l0 k a0 0) = some r := h
 clear h
 have H' := Aside0.mk H
 clear H
 go_enter Try.func96, Try.ntmps96
 go_wp2
 go_loopg [3] k (fun kq v3 w' => ∃ (x3_1 : Int), v3 = .int .i64 x3_1 ∧ Aside0 (spec_Plain.l0 kq a0 x3_1 = some r) ∧ Aside0 (kq ≤ k) ∧ Drawn0 w w')
 case atStart => exact ⟨(0), rs_, H', ⟨Nat.le_refl _⟩, dr_⟩
 case round =>
  clear H'
  obtain ⟨x3_1, rfl, HA, HK1, ⟨m1, rfl⟩⟩ := hrel
  cases gk with
  | zero => exact absurd HA.out (by simp [spec_Plain.l0])
  | succ k1 =>
   have H := HA.out
   clear HA
   simp only [spec_Plain.l0] at H
   by_cases c2 : x3_1 < (a0.size : Int)
   rotate_left
   · rw [if_neg c2] at H
     have c2b0 : decide (x3_1 < (a0.size : Int)) = false := decide_eq_false c2
     clear c2
     obtain rfl := Option.some.inj H
     go_wp2
     go_ret
     exact ⟨rs_, dr_⟩
   rw [if_pos c2] at H
   have c2b0 : decide (x3_1 < (a0.size : Int)) = true := decide_eq_true c2
   clear c2
   by_cases c3 : 0 ≤ x3_1
   rotate_left
   · exact absurd H (by rw [if_neg c3]; simp)
   rw [if_pos c3] at H
   have c3b0 : decide (0 ≤ x3_1) = true := decide_eq_true c3
   clear c3
   obtain ⟨t477, A5, H⟩ := bo_ H
   (try dsimp only at H)
   by_cases c6 : t477 = true
   · subst c6
     rw [if_pos rfl] at H
     have H' := Aside0.mk H
     clear H
     have p4 : 0 ≤ (x3_1 : Int) := of_decide_eq_true as_
     have q4 : x3_1 < (a0.size : Int) := of_decide_eq_true as_
     have hx4 := bt_at a0 x3_1
     replace p4 := eq_true p4
     replace q4 := eq_true q4
     go_wp2_with (first | ((with_reducible refine gate_callee (f := 74) rfl ?_); refine gL_ (some 14) Try.func74 #[.int .i64 (wrap64 (bt a0 x3_1)), .int .i64 32, .int .i64 126] ?_; (with_reducible refine (spec_l1In.calls (wrap64 (bt a0 x3_1)) 32 126 true _ A5.out).mono ?_); rintro e w' ⟨rfl, ⟨nd, rfl⟩⟩; refine ⟨_, rfl, ?_⟩))
     go_roundg k1
     case measure => have := HK1.out; omega
     case rel => exact ⟨(wrap64 (x3_1 + 1)), rs_, H', ⟨by have := HK1.out; omega⟩, dr_⟩
   · replace c6 := Bool.eq_false_iff.mpr c6
     subst c6
     rw [if_neg nf_] at H
     obtain rfl := Option.some.inj H
     have p4 : 0 ≤ (x3_1 : Int) := of_decide_eq_true as_
     have q4 : x3_1 < (a0.size : Int) := of_decide_eq_true as_
     have hx4 := bt_at a0 x3_1
     replace p4 := eq_true p4
     replace q4 := eq_true q4
     go_wp2_with (first | ((with_reducible refine gate_callee (f := 74) rfl ?_); refine gL_ (some 14) Try.func74 #[.int .i64 (wrap64 (bt a0 x3_1)), .int .i64 32, .int .i64 126] ?_; (with_reducible refine (spec_l1In.calls (wrap64 (bt a0 x3_1)) 32 126 false _ A5.out).mono ?_); rintro e w' ⟨rfl, ⟨nd, rfl⟩⟩; refine ⟨_, rfl, ?_⟩))
     go_ret
     exact ⟨rs_, dr_⟩
def spec_NameOk.l0 : Nat → ByteArray → Int → Option (Bool)
 | 0, _, _ => none
 | k + 1, x0, x3 => if x3 < (x0.size : Int) then (if 0 ≤ x3 then (if (bt x0 x3) = 47 then (some false) else (spec_NameOk.l0 k x0 (wrap64 (x3 + 1)))) else (none)) else ((spec_l1In.f (x0.size : Int) 1 8).bind fun t478 => (if t478 = true then ((spec_Plain.f k x0).bind fun t479 => (if t479 = true then (if x0.toList = ([46] : List UInt8) then (some false) else (some (x0.toList != ([46, 46] : List UInt8)))) else (some false))) else (some false)))
def spec_NameOk.f (k : Nat) (a0 : ByteArray) : Option (Bool) := spec_NameOk.l0 k a0 0
set_option maxHeartbeats 8000000 in
set_option maxRecDepth 100000 in
theorem spec_NameOk.calls (k : Nat) (a0 : ByteArray) (r : Bool) (w : World) (h : spec_NameOk.f k a0 = some r) :
 Calls Try.prog 89 #[.string a0] w fun e w' => e = .returned (.bool r) ∧ Drawn0 w w' := by
 have H : (spec_NameOk.l0 k a0 0) = some r := h
 clear h
 have H' := Aside0.mk H
 clear H
 go_enter Try.func89, Try.ntmps89
 go_wp2
 go_loopg [3] k (fun kq v3 w' => ∃ (x3_1 : Int), v3 = .int .i64 x3_1 ∧ Aside0 (spec_NameOk.l0 kq a0 x3_1 = some r) ∧ Aside0 (kq ≤ k) ∧ Drawn0 w w')
 case atStart => exact ⟨(0), rs_, H', ⟨Nat.le_refl _⟩, dr_⟩
 case round =>
  clear H'
  obtain ⟨x3_1, rfl, HA, HK1, ⟨m1, rfl⟩⟩ := hrel
  cases gk with
  | zero => exact absurd HA.out (by simp [spec_NameOk.l0])
  | succ k1 =>
   have H := HA.out
   clear HA
   simp only [spec_NameOk.l0] at H
   by_cases c2 : x3_1 < (a0.size : Int)
   · rw [if_pos c2] at H
     have c2b0 : decide (x3_1 < (a0.size : Int)) = true := decide_eq_true c2
     clear c2
     by_cases c3 : 0 ≤ x3_1
     rotate_left
     · exact absurd H (by rw [if_neg c3]; simp)
     rw [if_pos c3] at H
     have c3b0 : decide (0 ≤ x3_1) = true := decide_eq_true c3
     clear c3
     by_cases c5 : (bt a0 x3_1) = 47
     · rw [if_pos c5] at H
       have c5b0 : ((bt a0 x3_1) == 47) = true := beq_iff_eq.mpr c5
       have c5b1 : ((bt a0 x3_1) != 47) = false := bne_eq_false_iff_eq.mpr c5
       clear c5
       obtain rfl := Option.some.inj H
       have p4 : 0 ≤ (x3_1 : Int) := of_decide_eq_true as_
       have q4 : x3_1 < (a0.size : Int) := of_decide_eq_true as_
       have hx4 := bt_at a0 x3_1
       replace p4 := eq_true p4
       replace q4 := eq_true q4
       go_wp2
       go_ret
       exact ⟨rs_, dr_⟩
     rw [if_neg c5] at H
     have c5b0 : ((bt a0 x3_1) == 47) = false := beq_eq_false_iff_ne.mpr c5
     have c5b1 : ((bt a0 x3_1) != 47) = true := bne_iff_ne.mpr c5
     have H' := Aside0.mk H
     clear H
     have p4 : 0 ≤ (x3_1 : Int) := of_decide_eq_true as_
     have q4 : x3_1 < (a0.size : Int) := of_decide_eq_true as_
     have hx4 := bt_at a0 x3_1
     replace p4 := eq_true p4
     replace q4 := eq_true q4
     go_wp2
     go_roundg k1
     case measure => have := HK1.out; omega
     case rel => exact ⟨(wrap64 (x3_1 + 1)), rs_, H', ⟨by have := HK1.out; omega⟩, dr_⟩
   rw [if_neg c2] at H
   have c2b0 : decide (x3_1 < (a0.size : Int)) = false := decide_eq_false c2
   clear c2
   obtain ⟨t478, A6, H⟩ := bo_ H
   (try dsimp only at H)
   by_cases c7 : t478 = true
   · subst c7
     rw [if_pos rfl] at H
     obtain ⟨t479, A8, H⟩ := bo_ H
     (try dsimp only at H)
     by_cases c9 : t479 = true
     · subst c9
       rw [if_pos rfl] at H
       by_cases c10 : a0.toList = ([46] : List UInt8)
       rotate_left
       · rw [if_neg c10] at H
         have c10b0 : (a0.toList == ([46] : List UInt8)) = false := beq_eq_false_iff_ne.mpr c10
         have c10b1 : (a0.toList != ([46] : List UInt8)) = true := bne_iff_ne.mpr c10
         obtain rfl := Option.some.inj H
         go_wp2_with (first | ((with_reducible refine gate_callee (f := 74) rfl ?_); refine gL_ (some 16) Try.func74 #[.int .i64 (a0.size : Int), .int .i64 1, .int .i64 8] ?_; (with_reducible refine (spec_l1In.calls (a0.size : Int) 1 8 true _ A6.out).mono ?_); rintro e w' ⟨rfl, ⟨nd, rfl⟩⟩; refine ⟨_, rfl, ?_⟩) | (go_at_call 96; (with_reducible refine (spec_Plain.calls k1 a0 true _ A8.out).mono ?_); rintro e w' ⟨rfl, ⟨nd, rfl⟩⟩))
         go_ret
         exact ⟨rs_, dr_⟩
       rw [if_pos c10] at H
       have c10b0 : (a0.toList == ([46] : List UInt8)) = true := beq_iff_eq.mpr c10
       have c10b1 : (a0.toList != ([46] : List UInt8)) = false := bne_eq_false_iff_eq.mpr c10
       clear c10
       obtain rfl := Option.some.inj H
       go_wp2_with (first | ((with_reducible refine gate_callee (f := 74) rfl ?_); refine gL_ (some 16) Try.func74 #[.int .i64 (a0.size : Int), .int .i64 1, .int .i64 8] ?_; (with_reducible refine (spec_l1In.calls (a0.size : Int) 1 8 true _ A6.out).mono ?_); rintro e w' ⟨rfl, ⟨nd, rfl⟩⟩; refine ⟨_, rfl, ?_⟩) | (go_at_call 96; (with_reducible refine (spec_Plain.calls k1 a0 true _ A8.out).mono ?_); rintro e w' ⟨rfl, ⟨nd, rfl⟩⟩))
       go_ret
       exact ⟨rs_, dr_⟩
     · replace c9 := Bool.eq_false_iff.mpr c9
       subst c9
       rw [if_neg nf_] at H
       obtain rfl := Option.some.inj H
       go_wp2_with (first | ((with_reducible refine gate_callee (f := 74) rfl ?_); refine gL_ (some 16) Try.func74 #[.int .i64 (a0.size : Int), .int .i64 1, .int .i64 8] ?_; (with_reducible refine (spec_l1In.calls (a0.size : Int) 1 8 true _ A6.out).mono ?_); rintro e w' ⟨rfl, ⟨nd, rfl⟩⟩; refine ⟨_, rfl, ?_⟩) | (go_at_call 96; (with_reducible refine (spec_Plain.calls k1 a0 false _ A8.out).mono ?_); rintro e w' ⟨rfl, ⟨nd, rfl⟩⟩))
       go_ret
       exact ⟨rs_, dr_⟩
   · replace c7 := Bool.eq_false_iff.mpr c7
     subst c7
     rw [if_neg nf_] at H
     obtain rfl := Option.some.inj H
     go_wp2_with (first | ((with_reducible refine gate_callee (f := 74) rfl ?_); refine gL_ (some 16) Try.func74 #[.int .i64 (a0.size : Int), .int .i64 1, .int .i64 8] ?_; (with_reducible refine (spec_l1In.calls (a0.size : Int) 1 8 false _ A6.out).mono ?_); rintro e w' ⟨rfl, ⟨nd, rfl⟩⟩; refine ⟨_, rfl, ?_⟩))
     go_ret
     exact ⟨rs_, dr_⟩
end Go.Proofs.Ytiddgglidkbipaa.Q
