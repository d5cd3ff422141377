-- PRINTED by print.py (a twelfth state) out of the translation. Not trusted: Lean checks it.
import Derived.Test.YtiddgglidkbipaaVFnLocksBentG12
import Derived.Test.YtiddgglidkbipaaVFnLocksBentG22
import Derived.Test.YtiddgglidkbipaaVFnLocksBentG26
import Derived.Test.YtiddgglidkbipaaVFnLocksBentG28
import Derived.Test.YtiddgglidkbipaaVFnLocksBentG29
namespace Go.Proofs.Ytiddgglidkbipaa.Q
open Go.RowKit Go.Proofs.YtiddgglidkbipaaW.PrintWords Go.Proofs.YtiddgglidkbipaaW.PrintLast Go.Proofs.YtiddgglidkbipaaW.PrintMore
attribute [local go_sem] max2_int min2_int max_two min_two max_three min_three max_four min_four   -- for this text's walks alone
set_option linter.unusedVariables false
set_option linter.unusedSimpArgs false
def laws_sameTexts.l0 : Nat → List ByteArray → List ByteArray → Int → Option (Bool)
 | 0, _, _, _ => none
 | k + 1, x0, x1, x5 => if x5 < (x0.length : Int) then (if 0 ≤ x5 then (if x5 < (x1.length : Int) then (if (rdOf ByteArray.empty x0 x5).toList = (rdOf ByteArray.empty x1 x5).toList then (laws_sameTexts.l0 k x0 x1 (wrap64 (x5 + 1))) else (some false)) else (none)) else (none)) else (some true)
def laws_sameTexts.f (k : Nat) (l0 : List ByteArray) (l1 : List ByteArray) : Option (Bool) := if (l0.length : Int) = (l1.length : Int) then (laws_sameTexts.l0 k l0 l1 0) else (some false)
set_option maxHeartbeats 8000000 in
set_option maxRecDepth 100000 in
theorem laws_sameTexts.calls (k : Nat) (A0 : Option Addr) (c0 : Nat) (l0 : List ByteArray) (A1 : Option Addr) (c1 : Nat) (l1 : List ByteArray) (r : Bool) (w : World) (hr0 : Kd.C Kd.string w A0 l0.length l0) (hc0 : l0.length ≤ c0) (hr1 : Kd.C Kd.string w A1 l1.length l1) (hc1 : l1.length ≤ c1) (h : laws_sameTexts.f k l0 l1 = some r) :
 Calls Try.prog 93 #[.slice A0 l0.length c0, .slice A1 l1.length c1] w fun e w' => e = .returned (.bool r) ∧ Drawn0 w w' := by
 have HR0 := Aside0.mk hr0
 have HC0 := Aside0.mk hc0
 clear hr0 hc0
 have HR1 := Aside0.mk hr1
 have HC1 := Aside0.mk hc1
 clear hr1 hc1
 have H : (if (l0.length : Int) = (l1.length : Int) then (laws_sameTexts.l0 k l0 l1 0) else (some false)) = some r := h
 clear h
 by_cases c3 : (l0.length : Int) = (l1.length : Int)
 rotate_left
 · rw [if_neg c3] at H
   have c3b0 : ((l0.length : Int) == (l1.length : Int)) = false := beq_eq_false_iff_ne.mpr c3
   have c3b1 : ((l0.length : Int) != (l1.length : Int)) = true := bne_iff_ne.mpr c3
   have c3b2 : (l0.length == l1.length) = false := by first | simpa using c3 | (simp at c3 ⊢; omega)
   obtain rfl := Option.some.inj H
   go_enter Try.func93, Try.ntmps93
   go_wp2
   repeat (go_quiet (fail); try go_wp2)
   go_ret
   exact ⟨rs_, dr_⟩
 rw [if_pos c3] at H
 have c3b0 : ((l0.length : Int) == (l1.length : Int)) = true := beq_iff_eq.mpr c3
 have c3b1 : ((l0.length : Int) != (l1.length : Int)) = false := bne_eq_false_iff_eq.mpr c3
 have c3b2 : (l0.length == l1.length) = true := by first | simpa using c3 | (simp at c3 ⊢; omega)
 clear c3
 have H' := Aside0.mk H
 clear H
 go_enter Try.func93, Try.ntmps93
 go_wp2
 repeat (go_quiet (fail); try go_wp2)
 go_loopg [5] k (fun kq v5 w' => ∃ (x5_1 : Int), v5 = .int .i64 x5_1 ∧ Aside0 (laws_sameTexts.l0 kq l0 l1 x5_1 = some r) ∧ Aside0 (kq ≤ k) ∧ Drawn0 w w')
 case atStart => exact ⟨(0), rs_, H', ⟨Nat.le_refl _⟩, dr_⟩
 case round =>
  clear H'
  try clear c1
  try clear p2
  try clear c3
  try clear c3b0
  try clear c3b1
  try clear c3b2
  obtain ⟨x5_1, rfl, HA, HK1, ⟨m1, rfl⟩⟩ := hrel
  cases gk with
  | zero => exact absurd HA.out (by simp [laws_sameTexts.l0])
  | succ k1 =>
   have H := HA.out
   clear HA
   simp only [laws_sameTexts.l0] at H
   by_cases c4 : x5_1 < (l0.length : Int)
   rotate_left
   · rw [if_neg c4] at H
     have c4b0 : decide (x5_1 < (l0.length : Int)) = false := decide_eq_false c4
     clear c4
     obtain rfl := Option.some.inj H
     go_wp2
     repeat (go_quiet (fail); try go_wp2)
     go_ret
     exact ⟨rs_, dr_⟩
   rw [if_pos c4] at H
   have c4b0 : decide (x5_1 < (l0.length : Int)) = true := decide_eq_true c4
   clear c4
   by_cases c5 : 0 ≤ x5_1
   rotate_left
   · exact absurd H (by rw [if_neg c5]; simp)
   rw [if_pos c5] at H
   have c5b0 : decide (0 ≤ x5_1) = true := decide_eq_true c5
   clear c5
   by_cases c6 : x5_1 < (l1.length : Int)
   rotate_left
   · exact absurd H (by rw [if_neg c6]; simp)
   rw [if_pos c6] at H
   have c6b0 : decide (x5_1 < (l1.length : Int)) = true := decide_eq_true c6
   clear c6
   by_cases c7 : (rdOf ByteArray.empty l0 x5_1).toList = (rdOf ByteArray.empty l1 x5_1).toList
   rotate_left
   · rw [if_neg c7] at H
     have c7b0 : ((rdOf ByteArray.empty l0 x5_1).toList == (rdOf ByteArray.empty l1 x5_1).toList) = false := beq_eq_false_iff_ne.mpr c7
     have c7b1 : ((rdOf ByteArray.empty l0 x5_1).toList != (rdOf ByteArray.empty l1 x5_1).toList) = true := bne_iff_ne.mpr c7
     obtain rfl := Option.some.inj H
     have p882 : 0 ≤ (x5_1 : Int) := of_decide_eq_true as_
     have q882 : x5_1 < (l0.length : Int) := of_decide_eq_true as_
     obtain ⟨ad882, e882, hx882_0⟩ := Kd.at_string HR0.out x5_1 p882 q882
     cases e882
     replace p882 := eq_true p882
     replace q882 := eq_true q882
     have p883 : 0 ≤ (x5_1 : Int) := of_decide_eq_true as_
     have q883 : x5_1 < (l1.length : Int) := of_decide_eq_true as_
     obtain ⟨ad883, e883, hx883_0⟩ := Kd.at_string HR1.out x5_1 p883 q883
     cases e883
     replace p883 := eq_true p883
     replace q883 := eq_true q883
     go_wp2
     repeat (go_quiet (fail); try go_wp2)
     go_ret
     exact ⟨rs_, dr_⟩
   rw [if_pos c7] at H
   have c7b0 : ((rdOf ByteArray.empty l0 x5_1).toList == (rdOf ByteArray.empty l1 x5_1).toList) = true := beq_iff_eq.mpr c7
   have c7b1 : ((rdOf ByteArray.empty l0 x5_1).toList != (rdOf ByteArray.empty l1 x5_1).toList) = false := bne_eq_false_iff_eq.mpr c7
   clear c7
   have H' := Aside0.mk H
   clear H
   have p882 : 0 ≤ (x5_1 : Int) := of_decide_eq_true as_
   have q882 : x5_1 < (l0.length : Int) := of_decide_eq_true as_
   obtain ⟨ad882, e882, hx882_0⟩ := Kd.at_string HR0.out x5_1 p882 q882
   cases e882
   replace p882 := eq_true p882
   replace q882 := eq_true q882
   have p883 : 0 ≤ (x5_1 : Int) := of_decide_eq_true as_
   have q883 : x5_1 < (l1.length : Int) := of_decide_eq_true as_
   obtain ⟨ad883, e883, hx883_0⟩ := Kd.at_string HR1.out x5_1 p883 q883
   cases e883
   replace p883 := eq_true p883
   replace q883 := eq_true q883
   go_wp2
   repeat (go_quiet (fail); try go_wp2)
   go_roundg k1
   case measure => have := HK1.out; omega
   case rel => exact ⟨(wrap64 (x5_1 + 1)), rs_, H', ⟨by have := HK1.out; omega⟩, dr_⟩
def laws_sameLock.f (k : Nat) (a0_0 : Int) (l0_1 : List ByteArray) (a0_2 : Bool) (a0_3 : Bool) (a0_4 : Int) (a1_0 : Int) (l1_1 : List ByteArray) (a1_2 : Bool) (a1_3 : Bool) (a1_4 : Int) : Option (Bool) := if a0_0 = a1_0 then ((laws_sameTexts.f k l0_1 l1_1).bind fun t886 => (if t886 = true then (if (a0_2 == a1_2) = true then (if (a0_3 == a1_3) = true then (some (a0_4 == a1_4)) else (some false)) else (some false)) else (some false))) else (some false)
set_option maxHeartbeats 8000000 in
set_option maxRecDepth 100000 in
theorem laws_sameLock.calls (k : Nat) (a0_0 : Int) (A0_1 : Option Addr) (c0_1 : Nat) (l0_1 : List ByteArray) (a0_2 : Bool) (a0_3 : Bool) (a0_4 : Int) (a1_0 : Int) (A1_1 : Option Addr) (c1_1 : Nat) (l1_1 : List ByteArray) (a1_2 : Bool) (a1_3 : Bool) (a1_4 : Int) (r : Bool) (w : World) (hr0_1 : Kd.C Kd.string w A0_1 l0_1.length l0_1) (hc0_1 : l0_1.length ≤ c0_1) (hr1_1 : Kd.C Kd.string w A1_1 l1_1.length l1_1) (hc1_1 : l1_1.length ≤ c1_1) (h : laws_sameLock.f k a0_0 l0_1 a0_2 a0_3 a0_4 a1_0 l1_1 a1_2 a1_3 a1_4 = some r) :
 Calls Try.prog 82 #[.agg #[.int .i64 a0_0, .slice A0_1 l0_1.length c0_1, .bool a0_2, .bool a0_3, .int .i64 a0_4], .agg #[.int .i64 a1_0, .slice A1_1 l1_1.length c1_1, .bool a1_2, .bool a1_3, .int .i64 a1_4]] w fun e w' => e = .returned (.bool r) ∧ Below w.heap.size w w' := by
 have hu28 := Try.underlying28
 have HR0_1 := Aside0.mk hr0_1
 have HC0_1 := Aside0.mk hc0_1
 clear hr0_1 hc0_1
 have HR1_1 := Aside0.mk hr1_1
 have HC1_1 := Aside0.mk hc1_1
 clear hr1_1 hc1_1
 have HB := A_ (Below.refl w.heap.size w)
 have H : (if a0_0 = a1_0 then ((laws_sameTexts.f k l0_1 l1_1).bind fun t886 => (if t886 = true then (if (a0_2 == a1_2) = true then (if (a0_3 == a1_3) = true then (some (a0_4 == a1_4)) else (some false)) else (some false)) else (some false))) else (some false)) = some r := h
 clear h
 by_cases c3 : a0_0 = a1_0
 rotate_left
 · rw [if_neg c3] at H
   have c3b0 : (a0_0 == a1_0) = false := beq_eq_false_iff_ne.mpr c3
   have c3b1 : (a0_0 != a1_0) = true := bne_iff_ne.mpr c3
   obtain rfl := Option.some.inj H
   go_enter Try.func82, Try.ntmps82
   go_wp2_with (first | ((with_reducible refine gate_dst (N := 2) rfl ?_); refine bx_ (N := 2) (cs := #[.int .i64 a0_0, .slice A0_1 l0_1.length c0_1, .bool a0_2, .bool a0_3, .int .i64 a0_4]) (t := 28) ?_; intro gb884 hg w28 hbox hb; have BK884 := A_ (hbox); have GW884 := A_ (ge_ hg bB_ : w.heap.size ≤ gb884); have GE884 := A_ (ge_ hg bB_ : w.heap.size ≤ gb884); replace HB := A_ (below_step bB_ hb); clear hb hbox hg) | ((with_reducible refine gate_dst (N := 3) rfl ?_); refine bx_ (N := 3) (cs := #[.int .i64 a1_0, .slice A1_1 l1_1.length c1_1, .bool a1_2, .bool a1_3, .int .i64 a1_4]) (t := 28) ?_; intro gb885 hg w29 hbox hb; have BK885 := A_ (hbox); have GW885 := A_ (ge_ hg (bG_ GE884.out) : w.heap.size ≤ gb885); have GE885 := A_ (ge_ hg (bG_ GE884.out) : w.heap.size ≤ gb885); replace HB := A_ (below_step (bG_ GE884.out) hb); have NB884_885 := A_ (gm_ hg BK884.out); have NB885_884 := A_ (gn_ hg BK884.out); replace BK884 := A_ (bw_ BK884.out hb); clear hb hbox hg; have hnb30 := NB884_885.out; have hnc30 := NB885_884.out; obtain ⟨hcz31_0, hcz31_1, hcz31_2, hcz31_3, hcz31_4, hfz31_0, hfz31_1, hfz31_2, hfz31_3, hfz31_4⟩ := cz5_ BK884.out; obtain ⟨hcz32_0, hcz32_1, hcz32_2, hcz32_3, hcz32_4, hfz32_0, hfz32_1, hfz32_2, hfz32_3, hfz32_4⟩ := cz5_ BK885.out))
   go_ret
   exact ⟨rr_, by repeat (first | (with_reducible first | exact HB.out | apply below_alloc | apply pw_below_drewN | apply below_drew1 | refine below_set ?_ GE884.out | refine below_set ?_ GE885.out) | exact HB.out)⟩
 rw [if_pos c3] at H
 have c3b0 : (a0_0 == a1_0) = true := beq_iff_eq.mpr c3
 have c3b1 : (a0_0 != a1_0) = false := bne_eq_false_iff_eq.mpr c3
 clear c3
 obtain ⟨t886, A4, H⟩ := bo_ H
 (try dsimp only at H)
 by_cases c5 : t886 = true
 · subst c5
   rw [if_pos rfl] at H
   by_cases c6 : (a0_2 == a1_2) = true
   rotate_left
   · rw [if_neg c6] at H
     have c6b0 : (a0_2 == a1_2) = false := by simpa using c6
     (try (have c6b1 : decide (a0_2 = a1_2) = false := by simpa using c6))
     (try (have c6b2 : (a0_2 == a1_2) = false := by simpa using c6))
     (try (have c6b3 : ¬ (a0_2 = a1_2) := by simpa using c6))
     clear c6
     obtain rfl := Option.some.inj H
     go_enter Try.func82, Try.ntmps82
     go_wp2_with (first | ((with_reducible refine gate_dst (N := 2) rfl ?_); refine bx_ (N := 2) (cs := #[.int .i64 a0_0, .slice A0_1 l0_1.length c0_1, .bool a0_2, .bool a0_3, .int .i64 a0_4]) (t := 28) ?_; intro gb884 hg w18 hbox hb; have BK884 := A_ (hbox); have GW884 := A_ (ge_ hg bB_ : w.heap.size ≤ gb884); have GE884 := A_ (ge_ hg bB_ : w.heap.size ≤ gb884); replace HB := A_ (below_step bB_ hb); clear hb hbox hg) | ((with_reducible refine gate_dst (N := 3) rfl ?_); refine bx_ (N := 3) (cs := #[.int .i64 a1_0, .slice A1_1 l1_1.length c1_1, .bool a1_2, .bool a1_3, .int .i64 a1_4]) (t := 28) ?_; intro gb885 hg w19 hbox hb; have BK885 := A_ (hbox); have GW885 := A_ (ge_ hg (bG_ GE884.out) : w.heap.size ≤ gb885); have GE885 := A_ (ge_ hg (bG_ GE884.out) : w.heap.size ≤ gb885); replace HB := A_ (below_step (bG_ GE884.out) hb); have NB884_885 := A_ (gm_ hg BK884.out); have NB885_884 := A_ (gn_ hg BK884.out); replace BK884 := A_ (bw_ BK884.out hb); clear hb hbox hg; have hnb20 := NB884_885.out; have hnc20 := NB885_884.out; obtain ⟨hcz21_0, hcz21_1, hcz21_2, hcz21_3, hcz21_4, hfz21_0, hfz21_1, hfz21_2, hfz21_3, hfz21_4⟩ := cz5_ BK884.out; obtain ⟨hcz22_0, hcz22_1, hcz22_2, hcz22_3, hcz22_4, hfz22_0, hfz22_1, hfz22_2, hfz22_3, hfz22_4⟩ := cz5_ BK885.out) | (go_at_call 93; (with_reducible refine (laws_sameTexts.calls k _ _ l0_1 _ _ l1_1 true _ ?s1 ?s2 ?s3 ?s4 A4.out).mono ?_); (case s1 => exact cC_ (Kd.C_below HR0_1.out HB.out)); (case s2 => exact HC0_1.out); (case s3 => exact cC_ (Kd.C_below HR1_1.out HB.out)); (case s4 => exact HC1_1.out); rintro e w' ⟨rfl, ⟨nd, rfl⟩⟩))
     go_ret
     exact ⟨rr_, by repeat (first | (with_reducible first | exact HB.out | apply below_alloc | apply pw_below_drewN | apply below_drew1 | refine below_set ?_ GE884.out | refine below_set ?_ GE885.out) | exact HB.out)⟩
   rw [if_pos c6] at H
   have c6b0 : (a0_2 == a1_2) = true := c6
   (try (have c6b1 : decide (a0_2 = a1_2) = true := by simpa using c6))
   (try (have c6b2 : (a0_2 == a1_2) = true := by simpa using c6))
   clear c6
   by_cases c7 : (a0_3 == a1_3) = true
   · rw [if_pos c7] at H
     have c7b0 : (a0_3 == a1_3) = true := c7
     (try (have c7b1 : decide (a0_3 = a1_3) = true := by simpa using c7))
     (try (have c7b2 : (a0_3 == a1_3) = true := by simpa using c7))
     clear c7
     obtain rfl := Option.some.inj H
     go_enter Try.func82, Try.ntmps82
     go_wp2_with (first | ((with_reducible refine gate_dst (N := 2) rfl ?_); refine bx_ (N := 2) (cs := #[.int .i64 a0_0, .slice A0_1 l0_1.length c0_1, .bool a0_2, .bool a0_3, .int .i64 a0_4]) (t := 28) ?_; intro gb884 hg w8 hbox hb; have BK884 := A_ (hbox); have GW884 := A_ (ge_ hg bB_ : w.heap.size ≤ gb884); have GE884 := A_ (ge_ hg bB_ : w.heap.size ≤ gb884); replace HB := A_ (below_step bB_ hb); clear hb hbox hg) | ((with_reducible refine gate_dst (N := 3) rfl ?_); refine bx_ (N := 3) (cs := #[.int .i64 a1_0, .slice A1_1 l1_1.length c1_1, .bool a1_2, .bool a1_3, .int .i64 a1_4]) (t := 28) ?_; intro gb885 hg w9 hbox hb; have BK885 := A_ (hbox); have GW885 := A_ (ge_ hg (bG_ GE884.out) : w.heap.size ≤ gb885); have GE885 := A_ (ge_ hg (bG_ GE884.out) : w.heap.size ≤ gb885); replace HB := A_ (below_step (bG_ GE884.out) hb); have NB884_885 := A_ (gm_ hg BK884.out); have NB885_884 := A_ (gn_ hg BK884.out); replace BK884 := A_ (bw_ BK884.out hb); clear hb hbox hg; have hnb10 := NB884_885.out; have hnc10 := NB885_884.out; obtain ⟨hcz11_0, hcz11_1, hcz11_2, hcz11_3, hcz11_4, hfz11_0, hfz11_1, hfz11_2, hfz11_3, hfz11_4⟩ := cz5_ BK884.out; obtain ⟨hcz12_0, hcz12_1, hcz12_2, hcz12_3, hcz12_4, hfz12_0, hfz12_1, hfz12_2, hfz12_3, hfz12_4⟩ := cz5_ BK885.out) | (go_at_call 93; (with_reducible refine (laws_sameTexts.calls k _ _ l0_1 _ _ l1_1 true _ ?s1 ?s2 ?s3 ?s4 A4.out).mono ?_); (case s1 => exact cC_ (Kd.C_below HR0_1.out HB.out)); (case s2 => exact HC0_1.out); (case s3 => exact cC_ (Kd.C_below HR1_1.out HB.out)); (case s4 => exact HC1_1.out); rintro e w' ⟨rfl, ⟨nd, rfl⟩⟩))
     go_ret
     exact ⟨rr_, by repeat (first | (with_reducible first | exact HB.out | apply below_alloc | apply pw_below_drewN | apply below_drew1 | refine below_set ?_ GE884.out | refine below_set ?_ GE885.out) | exact HB.out)⟩
   rw [if_neg c7] at H
   have c7b0 : (a0_3 == a1_3) = false := by simpa using c7
   (try (have c7b1 : decide (a0_3 = a1_3) = false := by simpa using c7))
   (try (have c7b2 : (a0_3 == a1_3) = false := by simpa using c7))
   (try (have c7b3 : ¬ (a0_3 = a1_3) := by simpa using c7))
   clear c7
   obtain rfl := Option.some.inj H
   go_enter Try.func82, Try.ntmps82
   go_wp2_with (first | ((with_reducible refine gate_dst (N := 2) rfl ?_); refine bx_ (N := 2) (cs := #[.int .i64 a0_0, .slice A0_1 l0_1.length c0_1, .bool a0_2, .bool a0_3, .int .i64 a0_4]) (t := 28) ?_; intro gb884 hg w13 hbox hb; have BK884 := A_ (hbox); have GW884 := A_ (ge_ hg bB_ : w.heap.size ≤ gb884); have GE884 := A_ (ge_ hg bB_ : w.heap.size ≤ gb884); replace HB := A_ (below_step bB_ hb); clear hb hbox hg) | ((with_reducible refine gate_dst (N := 3) rfl ?_); refine bx_ (N := 3) (cs := #[.int .i64 a1_0, .slice A1_1 l1_1.length c1_1, .bool a1_2, .bool a1_3, .int .i64 a1_4]) (t := 28) ?_; intro gb885 hg w14 hbox hb; have BK885 := A_ (hbox); have GW885 := A_ (ge_ hg (bG_ GE884.out) : w.heap.size ≤ gb885); have GE885 := A_ (ge_ hg (bG_ GE884.out) : w.heap.size ≤ gb885); replace HB := A_ (below_step (bG_ GE884.out) hb); have NB884_885 := A_ (gm_ hg BK884.out); have NB885_884 := A_ (gn_ hg BK884.out); replace BK884 := A_ (bw_ BK884.out hb); clear hb hbox hg; have hnb15 := NB884_885.out; have hnc15 := NB885_884.out; obtain ⟨hcz16_0, hcz16_1, hcz16_2, hcz16_3, hcz16_4, hfz16_0, hfz16_1, hfz16_2, hfz16_3, hfz16_4⟩ := cz5_ BK884.out; obtain ⟨hcz17_0, hcz17_1, hcz17_2, hcz17_3, hcz17_4, hfz17_0, hfz17_1, hfz17_2, hfz17_3, hfz17_4⟩ := cz5_ BK885.out) | (go_at_call 93; (with_reducible refine (laws_sameTexts.calls k _ _ l0_1 _ _ l1_1 true _ ?s1 ?s2 ?s3 ?s4 A4.out).mono ?_); (case s1 => exact cC_ (Kd.C_below HR0_1.out HB.out)); (case s2 => exact HC0_1.out); (case s3 => exact cC_ (Kd.C_below HR1_1.out HB.out)); (case s4 => exact HC1_1.out); rintro e w' ⟨rfl, ⟨nd, rfl⟩⟩))
   go_ret
   exact ⟨rr_, by repeat (first | (with_reducible first | exact HB.out | apply below_alloc | apply pw_below_drewN | apply below_drew1 | refine below_set ?_ GE884.out | refine below_set ?_ GE885.out) | exact HB.out)⟩
 · replace c5 := Bool.eq_false_iff.mpr c5
   subst c5
   rw [if_neg nf_] at H
   obtain rfl := Option.some.inj H
   go_enter Try.func82, Try.ntmps82
   go_wp2_with (first | ((with_reducible refine gate_dst (N := 2) rfl ?_); refine bx_ (N := 2) (cs := #[.int .i64 a0_0, .slice A0_1 l0_1.length c0_1, .bool a0_2, .bool a0_3, .int .i64 a0_4]) (t := 28) ?_; intro gb884 hg w23 hbox hb; have BK884 := A_ (hbox); have GW884 := A_ (ge_ hg bB_ : w.heap.size ≤ gb884); have GE884 := A_ (ge_ hg bB_ : w.heap.size ≤ gb884); replace HB := A_ (below_step bB_ hb); clear hb hbox hg) | ((with_reducible refine gate_dst (N := 3) rfl ?_); refine bx_ (N := 3) (cs := #[.int .i64 a1_0, .slice A1_1 l1_1.length c1_1, .bool a1_2, .bool a1_3, .int .i64 a1_4]) (t := 28) ?_; intro gb885 hg w24 hbox hb; have BK885 := A_ (hbox); have GW885 := A_ (ge_ hg (bG_ GE884.out) : w.heap.size ≤ gb885); have GE885 := A_ (ge_ hg (bG_ GE884.out) : w.heap.size ≤ gb885); replace HB := A_ (below_step (bG_ GE884.out) hb); have NB884_885 := A_ (gm_ hg BK884.out); have NB885_884 := A_ (gn_ hg BK884.out); replace BK884 := A_ (bw_ BK884.out hb); clear hb hbox hg; have hnb25 := NB884_885.out; have hnc25 := NB885_884.out; obtain ⟨hcz26_0, hcz26_1, hcz26_2, hcz26_3, hcz26_4, hfz26_0, hfz26_1, hfz26_2, hfz26_3, hfz26_4⟩ := cz5_ BK884.out; obtain ⟨hcz27_0, hcz27_1, hcz27_2, hcz27_3, hcz27_4, hfz27_0, hfz27_1, hfz27_2, hfz27_3, hfz27_4⟩ := cz5_ BK885.out) | (go_at_call 93; (with_reducible refine (laws_sameTexts.calls k _ _ l0_1 _ _ l1_1 false _ ?s1 ?s2 ?s3 ?s4 A4.out).mono ?_); (case s1 => exact cC_ (Kd.C_below HR0_1.out HB.out)); (case s2 => exact HC0_1.out); (case s3 => exact cC_ (Kd.C_below HR1_1.out HB.out)); (case s4 => exact HC1_1.out); rintro e w' ⟨rfl, ⟨nd, rfl⟩⟩))
   go_ret
   exact ⟨rr_, by repeat (first | (with_reducible first | exact HB.out | apply below_alloc | apply pw_below_drewN | apply below_drew1 | refine below_set ?_ GE884.out | refine below_set ?_ GE885.out) | exact HB.out)⟩
def laws_sameLocks.l0 : Nat → List (S28) → List (S28) → Int → Option (Bool)
 | 0, _, _, _ => none
 | k + 1, x0, x1, x5 => if x5 < (x0.length : Int) then (if 0 ≤ x5 then (if x5 < (x1.length : Int) then ((laws_sameLock.f k ((rd_T28 x0 x5).f0) ((rd_T28 x0 x5).f1) ((rd_T28 x0 x5).f2) ((rd_T28 x0 x5).f3) ((rd_T28 x0 x5).f4) ((rd_T28 x1 x5).f0) ((rd_T28 x1 x5).f1) ((rd_T28 x1 x5).f2) ((rd_T28 x1 x5).f3) ((rd_T28 x1 x5).f4)).bind fun t889 => (if t889 = true then (laws_sameLocks.l0 k x0 x1 (wrap64 (x5 + 1))) else (some false))) else (none)) else (none)) else (some true)
def laws_sameLocks.f (k : Nat) (l0 : List (S28)) (l1 : List (S28)) : Option (Bool) := if (l0.length : Int) = (l1.length : Int) then (laws_sameLocks.l0 k l0 l1 0) else (some false)
def laws_sameLocks.T6 : Bool × List (List Nat × List Nat) := (true, [([], []), ([], []), ([0, 1], [0, 1]), ([2], [2]), ([], []), ([], []), ([4, 5], [4, 5]), ([6], [6]), ([3, 7], [3, 7]), ([8], [8])])
def laws_sameLocks.B6 : List Nat := [0, 0, 3, 7, 0, 0, 48, 112, 255, 511]
theorem laws_sameLocks.tab6 : rtab .any (opsOf Try.f54 6) = laws_sameLocks.T6 := by kernel_rfl
theorem laws_sameLocks.bits6 : waitsOk laws_sameLocks.T6.2 laws_sameLocks.B6 = true := by kernel_rfl
set_option maxHeartbeats 8000000 in
set_option maxRecDepth 100000 in
theorem laws_sameLocks.calls (k : Nat) (A0 : Option Addr) (c0 : Nat) (l0 : List (S28)) (A1 : Option Addr) (c1 : Nat) (l1 : List (S28)) (r : Bool) (w : World) (hr0 : Kd.C k28 w A0 l0.length l0) (hc0 : l0.length ≤ c0) (hr1 : Kd.C k28 w A1 l1.length l1) (hc1 : l1.length ≤ c1) (h : laws_sameLocks.f k l0 l1 = some r) :
 Calls Try.prog 54 #[.slice A0 l0.length c0, .slice A1 l1.length c1] w fun e w' => e = .returned (.bool r) ∧ Below w.heap.size w w' := by
 have hu28 := Try.underlying28
 have HR0 := Aside0.mk hr0
 have HC0 := Aside0.mk hc0
 clear hr0 hc0
 have HR1 := Aside0.mk hr1
 have HC1 := Aside0.mk hc1
 clear hr1 hc1
 have HB := A_ (Below.refl w.heap.size w)
 have H : (if (l0.length : Int) = (l1.length : Int) then (laws_sameLocks.l0 k l0 l1 0) else (some false)) = some r := h
 clear h
 by_cases c3 : (l0.length : Int) = (l1.length : Int)
 rotate_left
 · rw [if_neg c3] at H
   have c3b0 : ((l0.length : Int) == (l1.length : Int)) = false := beq_eq_false_iff_ne.mpr c3
   have c3b1 : ((l0.length : Int) != (l1.length : Int)) = true := bne_iff_ne.mpr c3
   have c3b2 : (l0.length == l1.length) = false := by first | simpa using c3 | (simp at c3 ⊢; omega)
   obtain rfl := Option.some.inj H
   go_enter Try.func54, Try.ntmps54
   go_wp2
   go_ret
   exact ⟨rr_, bB_⟩
 rw [if_pos c3] at H
 have c3b0 : ((l0.length : Int) == (l1.length : Int)) = true := beq_iff_eq.mpr c3
 have c3b1 : ((l0.length : Int) != (l1.length : Int)) = false := bne_eq_false_iff_eq.mpr c3
 have c3b2 : (l0.length == l1.length) = true := by first | simpa using c3 | (simp at c3 ⊢; omega)
 clear c3
 have H' := Aside0.mk H
 clear H
 go_enter Try.func54, Try.ntmps54
 go_wp2
 go_loopg [5] k (fun kq v5 w' => ∃ (x5_1 : Int), v5 = .int .i64 x5_1 ∧ Aside0 (laws_sameLocks.l0 kq l0 l1 x5_1 = some r) ∧ Aside0 (kq ≤ k) ∧ Aside0 (Below w.heap.size w w'))
 case atStart => exact ⟨(0), rs_, H', ⟨Nat.le_refl _⟩, ⟨bB_⟩⟩
 case round =>
  clear H'
  try clear c1
  try clear p2
  try clear c3
  try clear c3b0
  try clear c3b1
  try clear c3b2
  obtain ⟨x5_1, rfl, HA, HK1, HB⟩ := hrel
  cases gk with
  | zero => exact absurd HA.out (by simp [laws_sameLocks.l0])
  | succ k1 =>
   have H := HA.out
   clear HA
   simp only [laws_sameLocks.l0] at H
   by_cases c4 : x5_1 < (l0.length : Int)
   rotate_left
   · rw [if_neg c4] at H
     have c4b0 : decide (x5_1 < (l0.length : Int)) = false := decide_eq_false c4
     clear c4
     obtain rfl := Option.some.inj H
     go_wp2
     go_ret
     exact ⟨rr_, bB_⟩
   rw [if_pos c4] at H
   have c4b0 : decide (x5_1 < (l0.length : Int)) = true := decide_eq_true c4
   clear c4
   by_cases c5 : 0 ≤ x5_1
   rotate_left
   · exact absurd H (by rw [if_neg c5]; simp)
   rw [if_pos c5] at H
   have c5b0 : decide (0 ≤ x5_1) = true := decide_eq_true c5
   clear c5
   by_cases c6 : x5_1 < (l1.length : Int)
   rotate_left
   · exact absurd H (by rw [if_neg c6]; simp)
   rw [if_pos c6] at H
   have c6b0 : decide (x5_1 < (l1.length : Int)) = true := decide_eq_true c6
   clear c6
   obtain ⟨t889, A7, H⟩ := bo_ H
   (try dsimp only at H)
   by_cases c8 : t889 = true
   · subst c8
     rw [if_pos rfl] at H
     have H' := Aside0.mk H
     clear H
     try go_wp2
     replace HB := A_ (below_drew1 HB.out)
     have p887 : 0 ≤ (x5_1 : Int) := of_decide_eq_true as_
     have q887 : x5_1 < (l0.length : Int) := of_decide_eq_true as_
     obtain ⟨ad887, A887_1, c887_1, e887, hx887_0, hx887_1, hx887_2, hx887_3, hx887_4, hl887_1, hi887_1⟩ := at_T28 HR0.out x5_1 p887 q887
     have hw887_4 := hx887_4
     have hw887_3 := hx887_3
     have hw887_2 := hx887_2
     have hw887_1 := hx887_1
     have hw887_0 := hx887_0
     cases e887
     replace hx887_0 := bc_ HB.out hx887_0
     replace hx887_1 := bc_ HB.out hx887_1
     replace hx887_2 := bc_ HB.out hx887_2
     replace hx887_3 := bc_ HB.out hx887_3
     replace hx887_4 := bc_ HB.out hx887_4
     have HR887_1 := Aside0.mk hi887_1
     have HC887_1 := Aside0.mk hl887_1
     clear hi887_1 hl887_1
     replace p887 := eq_true p887
     replace q887 := eq_true q887
     have p888 : 0 ≤ (x5_1 : Int) := of_decide_eq_true as_
     have q888 : x5_1 < (l1.length : Int) := of_decide_eq_true as_
     obtain ⟨ad888, A888_1, c888_1, e888, hx888_0, hx888_1, hx888_2, hx888_3, hx888_4, hl888_1, hi888_1⟩ := at_T28 HR1.out x5_1 p888 q888
     have hw888_4 := hx888_4
     have hw888_3 := hx888_3
     have hw888_2 := hx888_2
     have hw888_1 := hx888_1
     have hw888_0 := hx888_0
     cases e888
     replace hx888_0 := bc_ HB.out hx888_0
     replace hx888_1 := bc_ HB.out hx888_1
     replace hx888_2 := bc_ HB.out hx888_2
     replace hx888_3 := bc_ HB.out hx888_3
     replace hx888_4 := bc_ HB.out hx888_4
     have HR888_1 := Aside0.mk hi888_1
     have HC888_1 := Aside0.mk hl888_1
     clear hi888_1 hl888_1
     replace p888 := eq_true p888
     replace q888 := eq_true q888
     refine start_ (n := 10) (S := fun w' => w'.cell? (ad887.add ((x5_1).toNat * 5)) = some (.int .i64 ((rd_T28 l0 x5_1).f0)) ∧ w'.cell? ⟨(ad887.add ((x5_1).toNat * 5)).block, (ad887.add ((x5_1).toNat * 5)).off + 1, none⟩ = some (.slice A887_1 ((rd_T28 l0 x5_1).f1).length c887_1) ∧ w'.cell? ⟨(ad887.add ((x5_1).toNat * 5)).block, (ad887.add ((x5_1).toNat * 5)).off + 2, none⟩ = some (.bool ((rd_T28 l0 x5_1).f2)) ∧ w'.cell? ⟨(ad887.add ((x5_1).toNat * 5)).block, (ad887.add ((x5_1).toNat * 5)).off + 3, none⟩ = some (.bool ((rd_T28 l0 x5_1).f3)) ∧ w'.cell? ⟨(ad887.add ((x5_1).toNat * 5)).block, (ad887.add ((x5_1).toNat * 5)).off + 4, none⟩ = some (.int .i64 ((rd_T28 l0 x5_1).f4)) ∧ w'.cell? (ad888.add ((x5_1).toNat * 5)) = some (.int .i64 ((rd_T28 l1 x5_1).f0)) ∧ w'.cell? ⟨(ad888.add ((x5_1).toNat * 5)).block, (ad888.add ((x5_1).toNat * 5)).off + 1, none⟩ = some (.slice A888_1 ((rd_T28 l1 x5_1).f1).length c888_1) ∧ w'.cell? ⟨(ad888.add ((x5_1).toNat * 5)).block, (ad888.add ((x5_1).toNat * 5)).off + 2, none⟩ = some (.bool ((rd_T28 l1 x5_1).f2)) ∧ w'.cell? ⟨(ad888.add ((x5_1).toNat * 5)).block, (ad888.add ((x5_1).toNat * 5)).off + 3, none⟩ = some (.bool ((rd_T28 l1 x5_1).f3)) ∧ w'.cell? ⟨(ad888.add ((x5_1).toNat * 5)).block, (ad888.add ((x5_1).toNat * 5)).off + 4, none⟩ = some (.int .i64 ((rd_T28 l1 x5_1).f4))) (ds := []) #[false, false, false, false, false, false, false, false, false, false] (by kernel_rfl) rfl rfl ⟨((HB.out.cell (World.block_lt_of_cell? w _ hw887_0)).trans hw887_0), ((HB.out.cell (World.block_lt_of_cell? w _ hw887_1)).trans hw887_1), ((HB.out.cell (World.block_lt_of_cell? w _ hw887_2)).trans hw887_2), ((HB.out.cell (World.block_lt_of_cell? w _ hw887_3)).trans hw887_3), ((HB.out.cell (World.block_lt_of_cell? w _ hw887_4)).trans hw887_4), ((HB.out.cell (World.block_lt_of_cell? w _ hw888_0)).trans hw888_0), ((HB.out.cell (World.block_lt_of_cell? w _ hw888_1)).trans hw888_1), ((HB.out.cell (World.block_lt_of_cell? w _ hw888_2)).trans hw888_2), ((HB.out.cell (World.block_lt_of_cell? w _ hw888_3)).trans hw888_3), ((HB.out.cell (World.block_lt_of_cell? w _ hw888_4)).trans hw888_4)⟩ (fun hHeld => ?_); refine with_tabW laws_sameLocks.tab6 laws_sameLocks.bits6 (fun HT_ HW_ => ?_)
     generalize wr.drew = w9 at HB HR887_1 HR888_1 hx887_0 hx887_1 hx887_2 hx887_3 hx887_4 hx888_0 hx888_1 hx888_2 hx888_3 hx888_4 hHeld ⊢
     refine pu_ (i := 0) (N := some 17) ?_
     refine pu_ (i := 1) (N := some 18) ?_
     refine pu_ (i := 2) (N := some 19) ?_
     refine pu_ (i := 4) (N := some 21) ?_
     refine pu_ (i := 5) (N := some 22) ?_
     refine pu_ (i := 6) (N := some 23) ?_
     refine tk_ (i := 3) (N := some 20) hHeld ?_
     refine tk_ (i := 7) (N := some 24) hHeld ?_
     refine on_ (i := 8) (N := some 25) (fun K hK => ?_)
     refine goes_ Try.func82 (by kernel_rfl) rfl #[.agg #[.int .i64 ((rd_T28 l0 x5_1).f0), .slice A887_1 ((rd_T28 l0 x5_1).f1).length c887_1, .bool ((rd_T28 l0 x5_1).f2), .bool ((rd_T28 l0 x5_1).f3), .int .i64 ((rd_T28 l0 x5_1).f4)], .agg #[.int .i64 ((rd_T28 l1 x5_1).f0), .slice A888_1 ((rd_T28 l1 x5_1).f1).length c888_1, .bool ((rd_T28 l1 x5_1).f2), .bool ((rd_T28 l1 x5_1).f3), .int .i64 ((rd_T28 l1 x5_1).f4)]] (by rfl) rfl rfl ml_ ?_
     with_reducible refine (laws_sameLock.calls k1 ((rd_T28 l0 x5_1).f0) _ _ ((rd_T28 l0 x5_1).f1) ((rd_T28 l0 x5_1).f2) ((rd_T28 l0 x5_1).f3) ((rd_T28 l0 x5_1).f4) ((rd_T28 l1 x5_1).f0) _ _ ((rd_T28 l1 x5_1).f1) ((rd_T28 l1 x5_1).f2) ((rd_T28 l1 x5_1).f3) ((rd_T28 l1 x5_1).f4) true _ ?s1 ?s2 ?s3 ?s4 A7.out).mono ?_
     (case s1 => exact cC_ (Kd.C_below HR887_1.out HB.out))
     (case s2 => exact HC887_1.out)
     (case s3 => exact cC_ (Kd.C_below HR888_1.out HB.out))
     (case s4 => exact HC888_1.out)
     rintro e w10 ⟨rfl, hb⟩
     refine ⟨_, rfl, ?_⟩
     replace HB := A_ (below_step bB_ hb)
     (try clear hb)
     (try clear hb2)
     (try clear hk)
     (try clear hi)
     refine hK.out _ _ ⟨((HB.out.cell (World.block_lt_of_cell? w _ hw887_0)).trans hw887_0), ((HB.out.cell (World.block_lt_of_cell? w _ hw887_1)).trans hw887_1), ((HB.out.cell (World.block_lt_of_cell? w _ hw887_2)).trans hw887_2), ((HB.out.cell (World.block_lt_of_cell? w _ hw887_3)).trans hw887_3), ((HB.out.cell (World.block_lt_of_cell? w _ hw887_4)).trans hw887_4), ((HB.out.cell (World.block_lt_of_cell? w _ hw888_0)).trans hw888_0), ((HB.out.cell (World.block_lt_of_cell? w _ hw888_1)).trans hw888_1), ((HB.out.cell (World.block_lt_of_cell? w _ hw888_2)).trans hw888_2), ((HB.out.cell (World.block_lt_of_cell? w _ hw888_3)).trans hw888_3), ((HB.out.cell (World.block_lt_of_cell? w _ hw888_4)).trans hw888_4)⟩ (fun hHeld => ?_)
     clear hK K
     refine no_ (some 25) ?_
     refine pu_ (i := 9) (N := some 26) ?_
     refine done_ (done_of HT_.out (by kernel_rfl)) ?_
     (try clear hHeld)
     try go_wp2
     go_roundg k1
     case measure => have := HK1.out; omega
     case rel => exact ⟨(wrap64 (x5_1 + 1)), rs_, H', ⟨by have := HK1.out; omega⟩, ⟨bB_⟩⟩
   · replace c8 := Bool.eq_false_iff.mpr c8
     subst c8
     rw [if_neg nf_] at H
     obtain rfl := Option.some.inj H
     try go_wp2
     replace HB := A_ (below_drew1 HB.out)
     have p887 : 0 ≤ (x5_1 : Int) := of_decide_eq_true as_
     have q887 : x5_1 < (l0.length : Int) := of_decide_eq_true as_
     obtain ⟨ad887, A887_1, c887_1, e887, hx887_0, hx887_1, hx887_2, hx887_3, hx887_4, hl887_1, hi887_1⟩ := at_T28 HR0.out x5_1 p887 q887
     have hw887_4 := hx887_4
     have hw887_3 := hx887_3
     have hw887_2 := hx887_2
     have hw887_1 := hx887_1
     have hw887_0 := hx887_0
     cases e887
     replace hx887_0 := bc_ HB.out hx887_0
     replace hx887_1 := bc_ HB.out hx887_1
     replace hx887_2 := bc_ HB.out hx887_2
     replace hx887_3 := bc_ HB.out hx887_3
     replace hx887_4 := bc_ HB.out hx887_4
     have HR887_1 := Aside0.mk hi887_1
     have HC887_1 := Aside0.mk hl887_1
     clear hi887_1 hl887_1
     replace p887 := eq_true p887
     replace q887 := eq_true q887
     have p888 : 0 ≤ (x5_1 : Int) := of_decide_eq_true as_
     have q888 : x5_1 < (l1.length : Int) := of_decide_eq_true as_
     obtain ⟨ad888, A888_1, c888_1, e888, hx888_0, hx888_1, hx888_2, hx888_3, hx888_4, hl888_1, hi888_1⟩ := at_T28 HR1.out x5_1 p888 q888
     have hw888_4 := hx888_4
     have hw888_3 := hx888_3
     have hw888_2 := hx888_2
     have hw888_1 := hx888_1
     have hw888_0 := hx888_0
     cases e888
     replace hx888_0 := bc_ HB.out hx888_0
     replace hx888_1 := bc_ HB.out hx888_1
     replace hx888_2 := bc_ HB.out hx888_2
     replace hx888_3 := bc_ HB.out hx888_3
     replace hx888_4 := bc_ HB.out hx888_4
     have HR888_1 := Aside0.mk hi888_1
     have HC888_1 := Aside0.mk hl888_1
     clear hi888_1 hl888_1
     replace p888 := eq_true p888
     replace q888 := eq_true q888
     refine start_ (n := 10) (S := fun w' => w'.cell? (ad887.add ((x5_1).toNat * 5)) = some (.int .i64 ((rd_T28 l0 x5_1).f0)) ∧ w'.cell? ⟨(ad887.add ((x5_1).toNat * 5)).block, (ad887.add ((x5_1).toNat * 5)).off + 1, none⟩ = some (.slice A887_1 ((rd_T28 l0 x5_1).f1).length c887_1) ∧ w'.cell? ⟨(ad887.add ((x5_1).toNat * 5)).block, (ad887.add ((x5_1).toNat * 5)).off + 2, none⟩ = some (.bool ((rd_T28 l0 x5_1).f2)) ∧ w'.cell? ⟨(ad887.add ((x5_1).toNat * 5)).block, (ad887.add ((x5_1).toNat * 5)).off + 3, none⟩ = some (.bool ((rd_T28 l0 x5_1).f3)) ∧ w'.cell? ⟨(ad887.add ((x5_1).toNat * 5)).block, (ad887.add ((x5_1).toNat * 5)).off + 4, none⟩ = some (.int .i64 ((rd_T28 l0 x5_1).f4)) ∧ w'.cell? (ad888.add ((x5_1).toNat * 5)) = some (.int .i64 ((rd_T28 l1 x5_1).f0)) ∧ w'.cell? ⟨(ad888.add ((x5_1).toNat * 5)).block, (ad888.add ((x5_1).toNat * 5)).off + 1, none⟩ = some (.slice A888_1 ((rd_T28 l1 x5_1).f1).length c888_1) ∧ w'.cell? ⟨(ad888.add ((x5_1).toNat * 5)).block, (ad888.add ((x5_1).toNat * 5)).off + 2, none⟩ = some (.bool ((rd_T28 l1 x5_1).f2)) ∧ w'.cell? ⟨(ad888.add ((x5_1).toNat * 5)).block, (ad888.add ((x5_1).toNat * 5)).off + 3, none⟩ = some (.bool ((rd_T28 l1 x5_1).f3)) ∧ w'.cell? ⟨(ad888.add ((x5_1).toNat * 5)).block, (ad888.add ((x5_1).toNat * 5)).off + 4, none⟩ = some (.int .i64 ((rd_T28 l1 x5_1).f4))) (ds := []) #[false, false, false, false, false, false, false, false, false, false] (by kernel_rfl) rfl rfl ⟨((HB.out.cell (World.block_lt_of_cell? w _ hw887_0)).trans hw887_0), ((HB.out.cell (World.block_lt_of_cell? w _ hw887_1)).trans hw887_1), ((HB.out.cell (World.block_lt_of_cell? w _ hw887_2)).trans hw887_2), ((HB.out.cell (World.block_lt_of_cell? w _ hw887_3)).trans hw887_3), ((HB.out.cell (World.block_lt_of_cell? w _ hw887_4)).trans hw887_4), ((HB.out.cell (World.block_lt_of_cell? w _ hw888_0)).trans hw888_0), ((HB.out.cell (World.block_lt_of_cell? w _ hw888_1)).trans hw888_1), ((HB.out.cell (World.block_lt_of_cell? w _ hw888_2)).trans hw888_2), ((HB.out.cell (World.block_lt_of_cell? w _ hw888_3)).trans hw888_3), ((HB.out.cell (World.block_lt_of_cell? w _ hw888_4)).trans hw888_4)⟩ (fun hHeld => ?_); refine with_tabW laws_sameLocks.tab6 laws_sameLocks.bits6 (fun HT_ HW_ => ?_)
     generalize wr.drew = w11 at HB HR887_1 HR888_1 hx887_0 hx887_1 hx887_2 hx887_3 hx887_4 hx888_0 hx888_1 hx888_2 hx888_3 hx888_4 hHeld ⊢
     refine pu_ (i := 0) (N := some 17) ?_
     refine pu_ (i := 1) (N := some 18) ?_
     refine pu_ (i := 2) (N := some 19) ?_
     refine pu_ (i := 4) (N := some 21) ?_
     refine pu_ (i := 5) (N := some 22) ?_
     refine pu_ (i := 6) (N := some 23) ?_
     refine tk_ (i := 3) (N := some 20) hHeld ?_
     refine tk_ (i := 7) (N := some 24) hHeld ?_
     refine on_ (i := 8) (N := some 25) (fun K hK => ?_)
     refine goes_ Try.func82 (by kernel_rfl) rfl #[.agg #[.int .i64 ((rd_T28 l0 x5_1).f0), .slice A887_1 ((rd_T28 l0 x5_1).f1).length c887_1, .bool ((rd_T28 l0 x5_1).f2), .bool ((rd_T28 l0 x5_1).f3), .int .i64 ((rd_T28 l0 x5_1).f4)], .agg #[.int .i64 ((rd_T28 l1 x5_1).f0), .slice A888_1 ((rd_T28 l1 x5_1).f1).length c888_1, .bool ((rd_T28 l1 x5_1).f2), .bool ((rd_T28 l1 x5_1).f3), .int .i64 ((rd_T28 l1 x5_1).f4)]] (by rfl) rfl rfl ml_ ?_
     with_reducible refine (laws_sameLock.calls k1 ((rd_T28 l0 x5_1).f0) _ _ ((rd_T28 l0 x5_1).f1) ((rd_T28 l0 x5_1).f2) ((rd_T28 l0 x5_1).f3) ((rd_T28 l0 x5_1).f4) ((rd_T28 l1 x5_1).f0) _ _ ((rd_T28 l1 x5_1).f1) ((rd_T28 l1 x5_1).f2) ((rd_T28 l1 x5_1).f3) ((rd_T28 l1 x5_1).f4) false _ ?s1 ?s2 ?s3 ?s4 A7.out).mono ?_
     (case s1 => exact cC_ (Kd.C_below HR887_1.out HB.out))
     (case s2 => exact HC887_1.out)
     (case s3 => exact cC_ (Kd.C_below HR888_1.out HB.out))
     (case s4 => exact HC888_1.out)
     rintro e w12 ⟨rfl, hb⟩
     refine ⟨_, rfl, ?_⟩
     replace HB := A_ (below_step bB_ hb)
     (try clear hb)
     (try clear hb2)
     (try clear hk)
     (try clear hi)
     refine hK.out _ _ ⟨((HB.out.cell (World.block_lt_of_cell? w _ hw887_0)).trans hw887_0), ((HB.out.cell (World.block_lt_of_cell? w _ hw887_1)).trans hw887_1), ((HB.out.cell (World.block_lt_of_cell? w _ hw887_2)).trans hw887_2), ((HB.out.cell (World.block_lt_of_cell? w _ hw887_3)).trans hw887_3), ((HB.out.cell (World.block_lt_of_cell? w _ hw887_4)).trans hw887_4), ((HB.out.cell (World.block_lt_of_cell? w _ hw888_0)).trans hw888_0), ((HB.out.cell (World.block_lt_of_cell? w _ hw888_1)).trans hw888_1), ((HB.out.cell (World.block_lt_of_cell? w _ hw888_2)).trans hw888_2), ((HB.out.cell (World.block_lt_of_cell? w _ hw888_3)).trans hw888_3), ((HB.out.cell (World.block_lt_of_cell? w _ hw888_4)).trans hw888_4)⟩ (fun hHeld => ?_)
     clear hK K
     refine no_ (some 25) ?_
     refine pu_ (i := 9) (N := some 26) ?_
     refine done_ (done_of HT_.out (by kernel_rfl)) ?_
     (try clear hHeld)
     try go_wp2
     go_ret
     exact ⟨rr_, bB_⟩
end Go.Proofs.Ytiddgglidkbipaa.Q
