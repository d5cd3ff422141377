-- PRINTED by print.py (a twelfth state) out of the translation. Not trusted: Lean checks it.
import Derived.Test.YtiddgglidkbipaaVFnLocksBentG12
import Derived.Test.YtiddgglidkbipaaVFnLocksBentG22
import Derived.Test.YtiddgglidkbipaaVFnLocksBentG23
import Derived.Test.YtiddgglidkbipaaVFnLocksBentG24
namespace Go.Proofs.Ytiddgglidkbipaa.Q
open Go.RowKit Go.Proofs.YtiddgglidkbipaaW.PrintWords Go.Proofs.YtiddgglidkbipaaW.PrintLast Go.Proofs.YtiddgglidkbipaaW.PrintMore
attribute [local go_sem] max2_int min2_int max_two min_two max_three min_three max_four min_four   -- for this text's walks alone
set_option linter.unusedVariables false
set_option linter.unusedSimpArgs false
mutual
def spec_MayTurn.l0 : Nat → List (S28) → List ByteArray → Bool → List Int → Bool → Bool → Int → Option (Bool)
 | 0, _, _, _, _, _, _, _ => none
 | k + 1, x0, x1, x2, x3, x9, x10, x11 => if x11 < (x0.length : Int) then (if 0 ≤ x11 then ((spec_Covers.f k ((rd_T28 x0 x11).f0) ((rd_T28 x0 x11).f1) ((rd_T28 x0 x11).f2) ((rd_T28 x0 x11).f3) ((rd_T28 x0 x11).f4) x1).bind fun t240 => (if t240 = true then (spec_MayTurn.j1 k x0 x1 x2 x3 x9 x10 x11 false) else (if x2 = true then ((spec_Under.f k ((rd_T28 x0 x11).f1) x1).bind fun t242 => (spec_MayTurn.j1 k x0 x1 x2 x3 x9 x10 x11 (!t242))) else (spec_MayTurn.j1 k x0 x1 x2 x3 x9 x10 x11 true)))) else (none)) else (if x9 = true then (some x10) else (some true))
def spec_MayTurn.j1 : Nat → List (S28) → List ByteArray → Bool → List Int → Bool → Bool → Int → Bool → Option (Bool)
 | 0, _, _, _, _, _, _, _, _ => none
 | k + 1, x0, x1, x2, x3, x9, x10, x11, x39 => if x39 = true then (spec_MayTurn.l0 k x0 x1 x2 x3 x9 x10 (wrap64 (x11 + 1))) else (if 0 ≤ x11 then (if x11 < (x0.length : Int) then ((spec_l13Has.f k x3 ((rd_T28 x0 x11).f0)).bind fun t244 => (if ((rd_T28 x0 x11).f3 = true) then (if x9 = true then (if x10 = true then (spec_MayTurn.l0 k x0 x1 x2 x3 true true (wrap64 (x11 + 1))) else (if (rd_T28 x0 x11).f3 = true then (spec_MayTurn.l0 k x0 x1 x2 x3 true t244 (wrap64 (x11 + 1))) else (spec_MayTurn.l0 k x0 x1 x2 x3 true false (wrap64 (x11 + 1))))) else (if x10 = true then (spec_MayTurn.l0 k x0 x1 x2 x3 ((rd_T28 x0 x11).f3) true (wrap64 (x11 + 1))) else (if (rd_T28 x0 x11).f3 = true then (spec_MayTurn.l0 k x0 x1 x2 x3 ((rd_T28 x0 x11).f3) t244 (wrap64 (x11 + 1))) else (spec_MayTurn.l0 k x0 x1 x2 x3 ((rd_T28 x0 x11).f3) false (wrap64 (x11 + 1)))))) else (if t244 = true then (if x9 = true then (if x10 = true then (spec_MayTurn.l0 k x0 x1 x2 x3 true true (wrap64 (x11 + 1))) else (if (rd_T28 x0 x11).f3 = true then (spec_MayTurn.l0 k x0 x1 x2 x3 true t244 (wrap64 (x11 + 1))) else (spec_MayTurn.l0 k x0 x1 x2 x3 true false (wrap64 (x11 + 1))))) else (if x10 = true then (spec_MayTurn.l0 k x0 x1 x2 x3 ((rd_T28 x0 x11).f3) true (wrap64 (x11 + 1))) else (if (rd_T28 x0 x11).f3 = true then (spec_MayTurn.l0 k x0 x1 x2 x3 ((rd_T28 x0 x11).f3) t244 (wrap64 (x11 + 1))) else (spec_MayTurn.l0 k x0 x1 x2 x3 ((rd_T28 x0 x11).f3) false (wrap64 (x11 + 1)))))) else (some false)))) else (none)) else (none))
end
def spec_MayTurn.f (k : Nat) (l0 : List (S28)) (l1 : List ByteArray) (a2 : Bool) (l3 : List Int) : Option (Bool) := spec_MayTurn.l0 k l0 l1 a2 l3 false false 0
set_option maxHeartbeats 8000000 in
set_option maxRecDepth 100000 in
theorem spec_MayTurn.calls (k : Nat) (A0 : Option Addr) (c0 : Nat) (l0 : List (S28)) (A1 : Option Addr) (c1 : Nat) (l1 : List ByteArray) (a2 : Bool) (A3 : Option Addr) (c3 : Nat) (l3 : List Int) (r : Bool) (w : World) (hr0 : Kd.C k28 w A0 l0.length l0) (hc0 : l0.length ≤ c0) (hr1 : Kd.C Kd.string w A1 l1.length l1) (hc1 : l1.length ≤ c1) (hr3 : Kd.C (Kd.int .i64) w A3 l3.length l3) (hc3 : l3.length ≤ c3) (h : spec_MayTurn.f k l0 l1 a2 l3 = some r) :
 Calls Try.prog 26 #[.slice A0 l0.length c0, .slice A1 l1.length c1, .bool a2, .slice A3 l3.length c3] w fun e w' => e = .returned (.bool r) ∧ Below w.heap.size w w' := by
 have hu28 := Try.underlying28
 have HR0 := Aside0.mk hr0
 have HC0 := Aside0.mk hc0
 clear hr0 hc0
 have HR1 := Aside0.mk hr1
 have HC1 := Aside0.mk hc1
 clear hr1 hc1
 have HR3 := Aside0.mk hr3
 have HC3 := Aside0.mk hc3
 clear hr3 hc3
 have HB := A_ (Below.refl w.heap.size w)
 have H : (spec_MayTurn.l0 k l0 l1 a2 l3 false false 0) = some r := h
 clear h
 have H' := Aside0.mk H
 clear H
 go_enter Try.func26, Try.ntmps26
 go_wp2
 go_loopg [9, 10, 11] k (fun kq v9 v10 v11 w' => ∃ (x9_1 : Bool) (x10_1 : Bool) (x11_1 : Int), v9 = .bool x9_1 ∧ v10 = .bool x10_1 ∧ v11 = .int .i64 x11_1 ∧ Aside0 (spec_MayTurn.l0 kq l0 l1 a2 l3 x9_1 x10_1 x11_1 = some r) ∧ Aside0 (kq ≤ k) ∧ Aside0 (Below w.heap.size w w'))
 case atStart => exact ⟨(false), (false), (0), rs_, rs_, rs_, H', ⟨Nat.le_refl _⟩, ⟨bB_⟩⟩
 case round =>
  clear H'
  try clear c1
  try clear c2
  try clear p2
  try clear c3
  obtain ⟨x9_1, x10_1, x11_1, rfl, rfl, rfl, HA, HK1, HB⟩ := hrel
  cases gk with
  | zero => exact absurd HA.out (by simp [spec_MayTurn.l0])
  | succ k1 =>
   have H := HA.out
   clear HA
   simp only [spec_MayTurn.l0] at H
   by_cases c5 : x11_1 < (l0.length : Int)
   rotate_left
   · rw [if_neg c5] at H
     have c5b0 : decide (x11_1 < (l0.length : Int)) = false := decide_eq_false c5
     clear c5
     by_cases c28 : x9_1 = true
     · subst c28
       rw [if_pos rfl] at H
       obtain rfl := Option.some.inj H
       go_wp2
       go_ret
       exact ⟨rr_, bB_⟩
     · replace c28 := Bool.eq_false_iff.mpr c28
       subst c28
       rw [if_neg nf_] at H
       obtain rfl := Option.some.inj H
       go_wp2
       go_ret
       exact ⟨rr_, bB_⟩
   rw [if_pos c5] at H
   have c5b0 : decide (x11_1 < (l0.length : Int)) = true := decide_eq_true c5
   clear c5
   have HC6 := Aside0.mk H
   clear H
   go_upto_region 6 with (fail)
   go_cut [39] (fun v39 wc => ∃ (kq : Nat) (x39_5 : Bool), v39 = .bool x39_5 ∧ Aside0 (spec_MayTurn.j1 kq l0 l1 a2 l3 x9_1 x10_1 x11_1 x39_5 = some r) ∧ Aside0 (kq ≤ k1) ∧ Aside0 (Below w.heap.size w wc))
   case first =>
    have H := HC6.out
    clear HC6
    by_cases c7 : 0 ≤ x11_1
    rotate_left
    · exact absurd H (by rw [if_neg c7]; simp)
    rw [if_pos c7] at H
    have c7b0 : decide (0 ≤ x11_1) = true := decide_eq_true c7
    clear c7
    (first | rw [c7b0] | (simp only [i64_w, i32_w]; rw [c7b0]) | skip)
    obtain ⟨t240, A8, H⟩ := bo_ H
    (try dsimp only at H)
    by_cases c9 : t240 = true
    · subst c9
      rw [if_pos rfl] at H
      have H' := Aside0.mk H
      clear H
      have p239 : 0 ≤ (x11_1 : Int) := of_decide_eq_true as_
      have q239 : x11_1 < (l0.length : Int) := of_decide_eq_true as_
      obtain ⟨ad239, A239_1, c239_1, e239, hx239_0, hx239_1, hx239_2, hx239_3, hx239_4, hl239_1, hi239_1⟩ := at_T28 HR0.out x11_1 p239 q239
      cases e239
      replace hx239_0 := bc_ HB.out hx239_0
      replace hx239_1 := bc_ HB.out hx239_1
      replace hx239_2 := bc_ HB.out hx239_2
      replace hx239_3 := bc_ HB.out hx239_3
      replace hx239_4 := bc_ HB.out hx239_4
      have HR239_1 := Aside0.mk hi239_1
      have HC239_1 := Aside0.mk hl239_1
      clear hi239_1 hl239_1
      replace p239 := eq_true p239
      replace q239 := eq_true q239
      go_wp2_with (first | ((with_reducible refine gate_callee (f := 17) rfl ?_); refine gL_ (some 24) Try.func17 #[.agg #[.int .i64 ((rd_T28 l0 x11_1).f0), .slice A239_1 ((rd_T28 l0 x11_1).f1).length c239_1, .bool ((rd_T28 l0 x11_1).f2), .bool ((rd_T28 l0 x11_1).f3), .int .i64 ((rd_T28 l0 x11_1).f4)], .slice A1 l1.length c1] ?_; (with_reducible refine (spec_Covers.calls k1 ((rd_T28 l0 x11_1).f0) _ _ ((rd_T28 l0 x11_1).f1) ((rd_T28 l0 x11_1).f2) ((rd_T28 l0 x11_1).f3) ((rd_T28 l0 x11_1).f4) _ _ l1 true _ ?s1 ?s2 ?s3 ?s4 A8.out).mono ?_); (case s1 => exact cC_ (Kd.C_below HR239_1.out HB.out)); (case s2 => exact HC239_1.out); (case s3 => exact cC_ (Kd.C_below HR1.out HB.out)); (case s4 => exact HC1.out); rintro e w10 ⟨rfl, hb⟩; refine ⟨_, rfl, ?_⟩; replace HB := A_ (below_step bB_ hb); (try clear hb)))
      go_meet
      case rel => exact ⟨_, (false), rs_, H', ⟨by have := HK1.out; first | omega | exact Nat.le_refl _⟩, ⟨bB_⟩⟩
    · replace c9 := Bool.eq_false_iff.mpr c9
      subst c9
      rw [if_neg nf_] at H
      by_cases c11 : a2 = true
      · subst c11
        rw [if_pos rfl] at H
        obtain ⟨t242, A12, H⟩ := bo_ H
        (try dsimp only at H)
        have H' := Aside0.mk H
        clear H
        have p239 : 0 ≤ (x11_1 : Int) := of_decide_eq_true as_
        have q239 : x11_1 < (l0.length : Int) := of_decide_eq_true as_
        obtain ⟨ad239, A239_1, c239_1, e239, hx239_0, hx239_1, hx239_2, hx239_3, hx239_4, hl239_1, hi239_1⟩ := at_T28 HR0.out x11_1 p239 q239
        cases e239
        replace hx239_0 := bc_ HB.out hx239_0
        replace hx239_1 := bc_ HB.out hx239_1
        replace hx239_2 := bc_ HB.out hx239_2
        replace hx239_3 := bc_ HB.out hx239_3
        replace hx239_4 := bc_ HB.out hx239_4
        have HR239_1 := Aside0.mk hi239_1
        have HC239_1 := Aside0.mk hl239_1
        clear hi239_1 hl239_1
        replace p239 := eq_true p239
        replace q239 := eq_true q239
        go_wp2_with (first | ((with_reducible refine gate_callee (f := 17) rfl ?_); refine gL_ (some 24) Try.func17 #[.agg #[.int .i64 ((rd_T28 l0 x11_1).f0), .slice A239_1 ((rd_T28 l0 x11_1).f1).length c239_1, .bool ((rd_T28 l0 x11_1).f2), .bool ((rd_T28 l0 x11_1).f3), .int .i64 ((rd_T28 l0 x11_1).f4)], .slice A1 l1.length c1] ?_; (with_reducible refine (spec_Covers.calls k1 ((rd_T28 l0 x11_1).f0) _ _ ((rd_T28 l0 x11_1).f1) ((rd_T28 l0 x11_1).f2) ((rd_T28 l0 x11_1).f3) ((rd_T28 l0 x11_1).f4) _ _ l1 false _ ?s1 ?s2 ?s3 ?s4 A8.out).mono ?_); (case s1 => exact cC_ (Kd.C_below HR239_1.out HB.out)); (case s2 => exact HC239_1.out); (case s3 => exact cC_ (Kd.C_below HR1.out HB.out)); (case s4 => exact HC1.out); rintro e w13 ⟨rfl, hb⟩; refine ⟨_, rfl, ?_⟩; replace HB := A_ (below_step bB_ hb); (try clear hb); have p241 : 0 ≤ (x11_1 : Int) := of_decide_eq_true as_; have q241 : x11_1 < (l0.length : Int) := of_decide_eq_true as_; obtain ⟨ad241, A241_1, c241_1, e241, hx241_0, hx241_1, hx241_2, hx241_3, hx241_4, hl241_1, hi241_1⟩ := at_T28 HR0.out x11_1 p241 q241; obtain rfl : ad239 = ad241 := (by injection e241); replace hx241_0 := bc_ HB.out hx241_0; replace hx241_1 := bc_ HB.out hx241_1; replace hx241_2 := bc_ HB.out hx241_2; replace hx241_3 := bc_ HB.out hx241_3; replace hx241_4 := bc_ HB.out hx241_4; have HR241_1 := Aside0.mk hi241_1; have HC241_1 := Aside0.mk hl241_1; clear hi241_1 hl241_1; replace p241 := eq_true p241; replace q241 := eq_true q241) | (go_at_call 63; (with_reducible refine (spec_Under.calls k1 _ _ ((rd_T28 l0 x11_1).f1) _ _ l1 t242 _ ?s1 ?s2 ?s3 ?s4 A12.out).mono ?_); (case s1 => exact cC_ (Kd.C_below HR241_1.out HB.out)); (case s2 => exact HC241_1.out); (case s3 => exact cC_ (Kd.C_below HR1.out HB.out)); (case s4 => exact HC1.out); rintro e w' ⟨rfl, ⟨nd, rfl⟩⟩))
        go_meet
        case rel => exact ⟨_, (!t242), rs_, H', ⟨by have := HK1.out; first | omega | exact Nat.le_refl _⟩, ⟨bB_⟩⟩
      · replace c11 := Bool.eq_false_iff.mpr c11
        subst c11
        rw [if_neg nf_] at H
        have H' := Aside0.mk H
        clear H
        have p239 : 0 ≤ (x11_1 : Int) := of_decide_eq_true as_
        have q239 : x11_1 < (l0.length : Int) := of_decide_eq_true as_
        obtain ⟨ad239, A239_1, c239_1, e239, hx239_0, hx239_1, hx239_2, hx239_3, hx239_4, hl239_1, hi239_1⟩ := at_T28 HR0.out x11_1 p239 q239
        cases e239
        replace hx239_0 := bc_ HB.out hx239_0
        replace hx239_1 := bc_ HB.out hx239_1
        replace hx239_2 := bc_ HB.out hx239_2
        replace hx239_3 := bc_ HB.out hx239_3
        replace hx239_4 := bc_ HB.out hx239_4
        have HR239_1 := Aside0.mk hi239_1
        have HC239_1 := Aside0.mk hl239_1
        clear hi239_1 hl239_1
        replace p239 := eq_true p239
        replace q239 := eq_true q239
        go_wp2_with (first | ((with_reducible refine gate_callee (f := 17) rfl ?_); refine gL_ (some 24) Try.func17 #[.agg #[.int .i64 ((rd_T28 l0 x11_1).f0), .slice A239_1 ((rd_T28 l0 x11_1).f1).length c239_1, .bool ((rd_T28 l0 x11_1).f2), .bool ((rd_T28 l0 x11_1).f3), .int .i64 ((rd_T28 l0 x11_1).f4)], .slice A1 l1.length c1] ?_; (with_reducible refine (spec_Covers.calls k1 ((rd_T28 l0 x11_1).f0) _ _ ((rd_T28 l0 x11_1).f1) ((rd_T28 l0 x11_1).f2) ((rd_T28 l0 x11_1).f3) ((rd_T28 l0 x11_1).f4) _ _ l1 false _ ?s1 ?s2 ?s3 ?s4 A8.out).mono ?_); (case s1 => exact cC_ (Kd.C_below HR239_1.out HB.out)); (case s2 => exact HC239_1.out); (case s3 => exact cC_ (Kd.C_below HR1.out HB.out)); (case s4 => exact HC1.out); rintro e w14 ⟨rfl, hb⟩; refine ⟨_, rfl, ?_⟩; replace HB := A_ (below_step bB_ hb); (try clear hb)))
        go_meet
        case rel => exact ⟨_, (true), rs_, H', ⟨by have := HK1.out; first | omega | exact Nat.le_refl _⟩, ⟨bB_⟩⟩
   case rest =>
    clear HC6
    try clear c1
    try clear c2
    try clear p2
    try clear q2
    try clear hx2
    try clear c3
    try clear c5
    try clear c5b0
    try clear c7
    try clear c7b0
    try clear c9
    try clear c11
    try clear hx239_0
    try clear hx239_1
    try clear hx239_2
    try clear hx239_3
    try clear hx239_4
    try clear hx241_0
    try clear hx241_1
    try clear hx241_2
    try clear hx241_3
    try clear hx241_4
    try clear p2
    try clear p239
    try clear p241
    try clear q239
    try clear q241
    obtain ⟨kq, x39_5, rfl, HA, HJ5, HB⟩ := hcut
    cases kq with
    | zero => exact absurd HA.out (by simp [spec_MayTurn.j1])
    | succ kj5 =>
     have H := HA.out
     clear HA
     simp only [spec_MayTurn.j1] at H
     by_cases c15 : x39_5 = true
     · subst c15
       rw [if_pos rfl] at H
       have H' := Aside0.mk H
       clear H
       go_wp2
       go_roundg kj5
       case measure => have := HK1.out; have := HJ5.out; omega
       case rel => exact ⟨(x9_1), (x10_1), (wrap64 (x11_1 + 1)), rs_, rs_, rs_, H', ⟨by have := HK1.out; have := HJ5.out; omega⟩, ⟨bB_⟩⟩
     · replace c15 := Bool.eq_false_iff.mpr c15
       subst c15
       rw [if_neg nf_] at H
       by_cases c16 : 0 ≤ x11_1
       rotate_left
       · exact absurd H (by rw [if_neg c16]; simp)
       rw [if_pos c16] at H
       have c16b0 : decide (0 ≤ x11_1) = true := decide_eq_true c16
       clear c16
       by_cases c17 : x11_1 < (l0.length : Int)
       rotate_left
       · exact absurd H (by rw [if_neg c17]; simp)
       rw [if_pos c17] at H
       have c17b0 : decide (x11_1 < (l0.length : Int)) = true := decide_eq_true c17
       clear c17
       obtain ⟨t244, A18, H⟩ := bo_ H
       (try dsimp only at H)
       obtain ⟨bq19, hbq19⟩ : ∃ b_ : Bool, b_ = ((rd_T28 l0 x11_1).f3) := ⟨_, rfl⟩
       replace H : (if (bq19 = true) then (if x9_1 = true then (if x10_1 = true then (spec_MayTurn.l0 kj5 l0 l1 a2 l3 true true (wrap64 (x11_1 + 1))) else (if bq19 = true then (spec_MayTurn.l0 kj5 l0 l1 a2 l3 true t244 (wrap64 (x11_1 + 1))) else (spec_MayTurn.l0 kj5 l0 l1 a2 l3 true false (wrap64 (x11_1 + 1))))) else (if x10_1 = true then (spec_MayTurn.l0 kj5 l0 l1 a2 l3 bq19 true (wrap64 (x11_1 + 1))) else (if bq19 = true then (spec_MayTurn.l0 kj5 l0 l1 a2 l3 bq19 t244 (wrap64 (x11_1 + 1))) else (spec_MayTurn.l0 kj5 l0 l1 a2 l3 bq19 false (wrap64 (x11_1 + 1)))))) else (if t244 = true then (if x9_1 = true then (if x10_1 = true then (spec_MayTurn.l0 kj5 l0 l1 a2 l3 true true (wrap64 (x11_1 + 1))) else (if bq19 = true then (spec_MayTurn.l0 kj5 l0 l1 a2 l3 true t244 (wrap64 (x11_1 + 1))) else (spec_MayTurn.l0 kj5 l0 l1 a2 l3 true false (wrap64 (x11_1 + 1))))) else (if x10_1 = true then (spec_MayTurn.l0 kj5 l0 l1 a2 l3 bq19 true (wrap64 (x11_1 + 1))) else (if bq19 = true then (spec_MayTurn.l0 kj5 l0 l1 a2 l3 bq19 t244 (wrap64 (x11_1 + 1))) else (spec_MayTurn.l0 kj5 l0 l1 a2 l3 bq19 false (wrap64 (x11_1 + 1)))))) else (some false))) = some r := by rw [← hbq19] at H; exact H
       have Nbq19 := Aside0.mk hbq19
       clear hbq19
       (try rw [← Nbq19.out])
       by_cases c20 : (bq19 = true)
       · subst c20
         rw [if_pos rfl] at H
         by_cases c21 : x9_1 = true
         · subst c21
           rw [if_pos rfl] at H
           by_cases c22 : x10_1 = true
           · subst c22
             rw [if_pos rfl] at H
             have H' := Aside0.mk H
             clear H
             have p243 : 0 ≤ (x11_1 : Int) := of_decide_eq_true as_
             have q243 : x11_1 < (l0.length : Int) := of_decide_eq_true as_
             obtain ⟨ad243, A243_1, c243_1, e243, hx243_0, hx243_1, hx243_2, hx243_3, hx243_4, hl243_1, hi243_1⟩ := at_T28 HR0.out x11_1 p243 q243
             (try rw [← Nbq19.out] at hx243_2)
             (try rw [← Nbq19.out] at hx243_3)
             cases e243
             replace hx243_0 := bc_ HB.out hx243_0
             replace hx243_1 := bc_ HB.out hx243_1
             replace hx243_2 := bc_ HB.out hx243_2
             replace hx243_3 := bc_ HB.out hx243_3
             replace hx243_4 := bc_ HB.out hx243_4
             have HR243_1 := Aside0.mk hi243_1
             have HC243_1 := Aside0.mk hl243_1
             clear hi243_1 hl243_1
             replace p243 := eq_true p243
             replace q243 := eq_true q243
             go_wp2_with (first | ((with_reducible refine gate_callee (f := 66) rfl ?_); refine gL_ (some 46) Try.func66 #[.slice A3 l3.length c3, .int .i64 ((rd_T28 l0 x11_1).f0)] ?_; (with_reducible refine (spec_l13Has.calls kj5 _ _ l3 ((rd_T28 l0 x11_1).f0) t244 _ ?s1 ?s2 A18.out).mono ?_); (case s1 => exact cC_ (Kd.C_below HR3.out HB.out)); (case s2 => exact HC3.out); rintro e w' ⟨rfl, ⟨nd, rfl⟩⟩; refine ⟨_, rfl, ?_⟩; have p245 : 0 ≤ (x11_1 : Int) := of_decide_eq_true as_; have q245 : x11_1 < (l0.length : Int) := of_decide_eq_true as_; obtain ⟨ad245, A245_1, c245_1, e245, hx245_0, hx245_1, hx245_2, hx245_3, hx245_4, hl245_1, hi245_1⟩ := at_T28 HR0.out x11_1 p245 q245; (try rw [← Nbq19.out] at hx245_2); (try rw [← Nbq19.out] at hx245_3); obtain rfl : ad243 = ad245 := (by injection e245); replace hx245_0 := bc_ HB.out hx245_0; replace hx245_1 := bc_ HB.out hx245_1; replace hx245_2 := bc_ HB.out hx245_2; replace hx245_3 := bc_ HB.out hx245_3; replace hx245_4 := bc_ HB.out hx245_4; have HR245_1 := Aside0.mk hi245_1; have HC245_1 := Aside0.mk hl245_1; clear hi245_1 hl245_1; replace p245 := eq_true p245; replace q245 := eq_true q245; have ea_ := Option.some.inj (hx243_1.symm.trans hx245_1); injection ea_ with ea_ en_ ec_; subst ea_; subst ec_; clear en_))
             go_roundg kj5
             case measure => have := HK1.out; have := HJ5.out; omega
             case rel => (try rw [← Nbq19.out]); exact ⟨(true), (true), (wrap64 (x11_1 + 1)), rs_, rs_, rs_, H', ⟨by have := HK1.out; have := HJ5.out; omega⟩, ⟨bB_⟩⟩
           · replace c22 := Bool.eq_false_iff.mpr c22
             subst c22
             rw [if_neg nf_] at H
             rw [if_pos rfl] at H
             have H' := Aside0.mk H
             clear H
             have p243 : 0 ≤ (x11_1 : Int) := of_decide_eq_true as_
             have q243 : x11_1 < (l0.length : Int) := of_decide_eq_true as_
             obtain ⟨ad243, A243_1, c243_1, e243, hx243_0, hx243_1, hx243_2, hx243_3, hx243_4, hl243_1, hi243_1⟩ := at_T28 HR0.out x11_1 p243 q243
             (try rw [← Nbq19.out] at hx243_2)
             (try rw [← Nbq19.out] at hx243_3)
             cases e243
             replace hx243_0 := bc_ HB.out hx243_0
             replace hx243_1 := bc_ HB.out hx243_1
             replace hx243_2 := bc_ HB.out hx243_2
             replace hx243_3 := bc_ HB.out hx243_3
             replace hx243_4 := bc_ HB.out hx243_4
             have HR243_1 := Aside0.mk hi243_1
             have HC243_1 := Aside0.mk hl243_1
             clear hi243_1 hl243_1
             replace p243 := eq_true p243
             replace q243 := eq_true q243
             go_wp2_with (first | ((with_reducible refine gate_callee (f := 66) rfl ?_); refine gL_ (some 46) Try.func66 #[.slice A3 l3.length c3, .int .i64 ((rd_T28 l0 x11_1).f0)] ?_; (with_reducible refine (spec_l13Has.calls kj5 _ _ l3 ((rd_T28 l0 x11_1).f0) t244 _ ?s1 ?s2 A18.out).mono ?_); (case s1 => exact cC_ (Kd.C_below HR3.out HB.out)); (case s2 => exact HC3.out); rintro e w' ⟨rfl, ⟨nd, rfl⟩⟩; refine ⟨_, rfl, ?_⟩; have p245 : 0 ≤ (x11_1 : Int) := of_decide_eq_true as_; have q245 : x11_1 < (l0.length : Int) := of_decide_eq_true as_; obtain ⟨ad245, A245_1, c245_1, e245, hx245_0, hx245_1, hx245_2, hx245_3, hx245_4, hl245_1, hi245_1⟩ := at_T28 HR0.out x11_1 p245 q245; (try rw [← Nbq19.out] at hx245_2); (try rw [← Nbq19.out] at hx245_3); obtain rfl : ad243 = ad245 := (by injection e245); replace hx245_0 := bc_ HB.out hx245_0; replace hx245_1 := bc_ HB.out hx245_1; replace hx245_2 := bc_ HB.out hx245_2; replace hx245_3 := bc_ HB.out hx245_3; replace hx245_4 := bc_ HB.out hx245_4; have HR245_1 := Aside0.mk hi245_1; have HC245_1 := Aside0.mk hl245_1; clear hi245_1 hl245_1; replace p245 := eq_true p245; replace q245 := eq_true q245; have ea_ := Option.some.inj (hx243_1.symm.trans hx245_1); injection ea_ with ea_ en_ ec_; subst ea_; subst ec_; clear en_; have p246 : 0 ≤ (x11_1 : Int) := of_decide_eq_true as_; have q246 : x11_1 < (l0.length : Int) := of_decide_eq_true as_; obtain ⟨ad246, A246_1, c246_1, e246, hx246_0, hx246_1, hx246_2, hx246_3, hx246_4, hl246_1, hi246_1⟩ := at_T28 HR0.out x11_1 p246 q246; (try rw [← Nbq19.out] at hx246_2); (try rw [← Nbq19.out] at hx246_3); obtain rfl : ad243 = ad246 := (by injection e246); replace hx246_0 := bc_ HB.out hx246_0; replace hx246_1 := bc_ HB.out hx246_1; replace hx246_2 := bc_ HB.out hx246_2; replace hx246_3 := bc_ HB.out hx246_3; replace hx246_4 := bc_ HB.out hx246_4; have HR246_1 := Aside0.mk hi246_1; have HC246_1 := Aside0.mk hl246_1; clear hi246_1 hl246_1; replace p246 := eq_true p246; replace q246 := eq_true q246; have ea_ := Option.some.inj (hx243_1.symm.trans hx246_1); injection ea_ with ea_ en_ ec_; subst ea_; subst ec_; clear en_))
             go_roundg kj5
             case measure => have := HK1.out; have := HJ5.out; omega
             case rel => (try rw [← Nbq19.out]); exact ⟨(true), (t244), (wrap64 (x11_1 + 1)), rs_, rs_, rs_, H', ⟨by have := HK1.out; have := HJ5.out; omega⟩, ⟨bB_⟩⟩
         · replace c21 := Bool.eq_false_iff.mpr c21
           subst c21
           rw [if_neg nf_] at H
           by_cases c23 : x10_1 = true
           · subst c23
             rw [if_pos rfl] at H
             have H' := Aside0.mk H
             clear H
             have p243 : 0 ≤ (x11_1 : Int) := of_decide_eq_true as_
             have q243 : x11_1 < (l0.length : Int) := of_decide_eq_true as_
             obtain ⟨ad243, A243_1, c243_1, e243, hx243_0, hx243_1, hx243_2, hx243_3, hx243_4, hl243_1, hi243_1⟩ := at_T28 HR0.out x11_1 p243 q243
             (try rw [← Nbq19.out] at hx243_2)
             (try rw [← Nbq19.out] at hx243_3)
             cases e243
             replace hx243_0 := bc_ HB.out hx243_0
             replace hx243_1 := bc_ HB.out hx243_1
             replace hx243_2 := bc_ HB.out hx243_2
             replace hx243_3 := bc_ HB.out hx243_3
             replace hx243_4 := bc_ HB.out hx243_4
             have HR243_1 := Aside0.mk hi243_1
             have HC243_1 := Aside0.mk hl243_1
             clear hi243_1 hl243_1
             replace p243 := eq_true p243
             replace q243 := eq_true q243
             go_wp2_with (first | ((with_reducible refine gate_callee (f := 66) rfl ?_); refine gL_ (some 46) Try.func66 #[.slice A3 l3.length c3, .int .i64 ((rd_T28 l0 x11_1).f0)] ?_; (with_reducible refine (spec_l13Has.calls kj5 _ _ l3 ((rd_T28 l0 x11_1).f0) t244 _ ?s1 ?s2 A18.out).mono ?_); (case s1 => exact cC_ (Kd.C_below HR3.out HB.out)); (case s2 => exact HC3.out); rintro e w' ⟨rfl, ⟨nd, rfl⟩⟩; refine ⟨_, rfl, ?_⟩; have p245 : 0 ≤ (x11_1 : Int) := of_decide_eq_true as_; have q245 : x11_1 < (l0.length : Int) := of_decide_eq_true as_; obtain ⟨ad245, A245_1, c245_1, e245, hx245_0, hx245_1, hx245_2, hx245_3, hx245_4, hl245_1, hi245_1⟩ := at_T28 HR0.out x11_1 p245 q245; (try rw [← Nbq19.out] at hx245_2); (try rw [← Nbq19.out] at hx245_3); obtain rfl : ad243 = ad245 := (by injection e245); replace hx245_0 := bc_ HB.out hx245_0; replace hx245_1 := bc_ HB.out hx245_1; replace hx245_2 := bc_ HB.out hx245_2; replace hx245_3 := bc_ HB.out hx245_3; replace hx245_4 := bc_ HB.out hx245_4; have HR245_1 := Aside0.mk hi245_1; have HC245_1 := Aside0.mk hl245_1; clear hi245_1 hl245_1; replace p245 := eq_true p245; replace q245 := eq_true q245; have ea_ := Option.some.inj (hx243_1.symm.trans hx245_1); injection ea_ with ea_ en_ ec_; subst ea_; subst ec_; clear en_; have p247 : 0 ≤ (x11_1 : Int) := of_decide_eq_true as_; have q247 : x11_1 < (l0.length : Int) := of_decide_eq_true as_; obtain ⟨ad247, A247_1, c247_1, e247, hx247_0, hx247_1, hx247_2, hx247_3, hx247_4, hl247_1, hi247_1⟩ := at_T28 HR0.out x11_1 p247 q247; (try rw [← Nbq19.out] at hx247_2); (try rw [← Nbq19.out] at hx247_3); obtain rfl : ad243 = ad247 := (by injection e247); replace hx247_0 := bc_ HB.out hx247_0; replace hx247_1 := bc_ HB.out hx247_1; replace hx247_2 := bc_ HB.out hx247_2; replace hx247_3 := bc_ HB.out hx247_3; replace hx247_4 := bc_ HB.out hx247_4; have HR247_1 := Aside0.mk hi247_1; have HC247_1 := Aside0.mk hl247_1; clear hi247_1 hl247_1; replace p247 := eq_true p247; replace q247 := eq_true q247; have ea_ := Option.some.inj (hx243_1.symm.trans hx247_1); injection ea_ with ea_ en_ ec_; subst ea_; subst ec_; clear en_))
             go_roundg kj5
             case measure => have := HK1.out; have := HJ5.out; omega
             case rel => (try rw [← Nbq19.out]); exact ⟨(true), (true), (wrap64 (x11_1 + 1)), rs_, rs_, rs_, H', ⟨by have := HK1.out; have := HJ5.out; omega⟩, ⟨bB_⟩⟩
           · replace c23 := Bool.eq_false_iff.mpr c23
             subst c23
             rw [if_neg nf_] at H
             rw [if_pos rfl] at H
             have H' := Aside0.mk H
             clear H
             have p243 : 0 ≤ (x11_1 : Int) := of_decide_eq_true as_
             have q243 : x11_1 < (l0.length : Int) := of_decide_eq_true as_
             obtain ⟨ad243, A243_1, c243_1, e243, hx243_0, hx243_1, hx243_2, hx243_3, hx243_4, hl243_1, hi243_1⟩ := at_T28 HR0.out x11_1 p243 q243
             (try rw [← Nbq19.out] at hx243_2)
             (try rw [← Nbq19.out] at hx243_3)
             cases e243
             replace hx243_0 := bc_ HB.out hx243_0
             replace hx243_1 := bc_ HB.out hx243_1
             replace hx243_2 := bc_ HB.out hx243_2
             replace hx243_3 := bc_ HB.out hx243_3
             replace hx243_4 := bc_ HB.out hx243_4
             have HR243_1 := Aside0.mk hi243_1
             have HC243_1 := Aside0.mk hl243_1
             clear hi243_1 hl243_1
             replace p243 := eq_true p243
             replace q243 := eq_true q243
             go_wp2_with (first | ((with_reducible refine gate_callee (f := 66) rfl ?_); refine gL_ (some 46) Try.func66 #[.slice A3 l3.length c3, .int .i64 ((rd_T28 l0 x11_1).f0)] ?_; (with_reducible refine (spec_l13Has.calls kj5 _ _ l3 ((rd_T28 l0 x11_1).f0) t244 _ ?s1 ?s2 A18.out).mono ?_); (case s1 => exact cC_ (Kd.C_below HR3.out HB.out)); (case s2 => exact HC3.out); rintro e w' ⟨rfl, ⟨nd, rfl⟩⟩; refine ⟨_, rfl, ?_⟩; have p245 : 0 ≤ (x11_1 : Int) := of_decide_eq_true as_; have q245 : x11_1 < (l0.length : Int) := of_decide_eq_true as_; obtain ⟨ad245, A245_1, c245_1, e245, hx245_0, hx245_1, hx245_2, hx245_3, hx245_4, hl245_1, hi245_1⟩ := at_T28 HR0.out x11_1 p245 q245; (try rw [← Nbq19.out] at hx245_2); (try rw [← Nbq19.out] at hx245_3); obtain rfl : ad243 = ad245 := (by injection e245); replace hx245_0 := bc_ HB.out hx245_0; replace hx245_1 := bc_ HB.out hx245_1; replace hx245_2 := bc_ HB.out hx245_2; replace hx245_3 := bc_ HB.out hx245_3; replace hx245_4 := bc_ HB.out hx245_4; have HR245_1 := Aside0.mk hi245_1; have HC245_1 := Aside0.mk hl245_1; clear hi245_1 hl245_1; replace p245 := eq_true p245; replace q245 := eq_true q245; have ea_ := Option.some.inj (hx243_1.symm.trans hx245_1); injection ea_ with ea_ en_ ec_; subst ea_; subst ec_; clear en_; have p247 : 0 ≤ (x11_1 : Int) := of_decide_eq_true as_; have q247 : x11_1 < (l0.length : Int) := of_decide_eq_true as_; obtain ⟨ad247, A247_1, c247_1, e247, hx247_0, hx247_1, hx247_2, hx247_3, hx247_4, hl247_1, hi247_1⟩ := at_T28 HR0.out x11_1 p247 q247; (try rw [← Nbq19.out] at hx247_2); (try rw [← Nbq19.out] at hx247_3); obtain rfl : ad243 = ad247 := (by injection e247); replace hx247_0 := bc_ HB.out hx247_0; replace hx247_1 := bc_ HB.out hx247_1; replace hx247_2 := bc_ HB.out hx247_2; replace hx247_3 := bc_ HB.out hx247_3; replace hx247_4 := bc_ HB.out hx247_4; have HR247_1 := Aside0.mk hi247_1; have HC247_1 := Aside0.mk hl247_1; clear hi247_1 hl247_1; replace p247 := eq_true p247; replace q247 := eq_true q247; have ea_ := Option.some.inj (hx243_1.symm.trans hx247_1); injection ea_ with ea_ en_ ec_; subst ea_; subst ec_; clear en_; have p248 : 0 ≤ (x11_1 : Int) := of_decide_eq_true as_; have q248 : x11_1 < (l0.length : Int) := of_decide_eq_true as_; obtain ⟨ad248, A248_1, c248_1, e248, hx248_0, hx248_1, hx248_2, hx248_3, hx248_4, hl248_1, hi248_1⟩ := at_T28 HR0.out x11_1 p248 q248; (try rw [← Nbq19.out] at hx248_2); (try rw [← Nbq19.out] at hx248_3); obtain rfl : ad243 = ad248 := (by injection e248); replace hx248_0 := bc_ HB.out hx248_0; replace hx248_1 := bc_ HB.out hx248_1; replace hx248_2 := bc_ HB.out hx248_2; replace hx248_3 := bc_ HB.out hx248_3; replace hx248_4 := bc_ HB.out hx248_4; have HR248_1 := Aside0.mk hi248_1; have HC248_1 := Aside0.mk hl248_1; clear hi248_1 hl248_1; replace p248 := eq_true p248; replace q248 := eq_true q248; have ea_ := Option.some.inj (hx243_1.symm.trans hx248_1); injection ea_ with ea_ en_ ec_; subst ea_; subst ec_; clear en_))
             go_roundg kj5
             case measure => have := HK1.out; have := HJ5.out; omega
             case rel => (try rw [← Nbq19.out]); exact ⟨(true), (t244), (wrap64 (x11_1 + 1)), rs_, rs_, rs_, H', ⟨by have := HK1.out; have := HJ5.out; omega⟩, ⟨bB_⟩⟩
       · replace c20 := Bool.eq_false_iff.mpr c20
         subst c20
         rw [if_neg nf_] at H
         by_cases c24 : t244 = true
         · subst c24
           rw [if_pos rfl] at H
           by_cases c25 : x9_1 = true
           · subst c25
             rw [if_pos rfl] at H
             by_cases c26 : x10_1 = true
             · subst c26
               rw [if_pos rfl] at H
               have H' := Aside0.mk H
               clear H
               have p243 : 0 ≤ (x11_1 : Int) := of_decide_eq_true as_
               have q243 : x11_1 < (l0.length : Int) := of_decide_eq_true as_
               obtain ⟨ad243, A243_1, c243_1, e243, hx243_0, hx243_1, hx243_2, hx243_3, hx243_4, hl243_1, hi243_1⟩ := at_T28 HR0.out x11_1 p243 q243
               (try rw [← Nbq19.out] at hx243_2)
               (try rw [← Nbq19.out] at hx243_3)
               cases e243
               replace hx243_0 := bc_ HB.out hx243_0
               replace hx243_1 := bc_ HB.out hx243_1
               replace hx243_2 := bc_ HB.out hx243_2
               replace hx243_3 := bc_ HB.out hx243_3
               replace hx243_4 := bc_ HB.out hx243_4
               have HR243_1 := Aside0.mk hi243_1
               have HC243_1 := Aside0.mk hl243_1
               clear hi243_1 hl243_1
               replace p243 := eq_true p243
               replace q243 := eq_true q243
               go_wp2_with (first | ((with_reducible refine gate_callee (f := 66) rfl ?_); refine gL_ (some 46) Try.func66 #[.slice A3 l3.length c3, .int .i64 ((rd_T28 l0 x11_1).f0)] ?_; (with_reducible refine (spec_l13Has.calls kj5 _ _ l3 ((rd_T28 l0 x11_1).f0) true _ ?s1 ?s2 A18.out).mono ?_); (case s1 => exact cC_ (Kd.C_below HR3.out HB.out)); (case s2 => exact HC3.out); rintro e w' ⟨rfl, ⟨nd, rfl⟩⟩; refine ⟨_, rfl, ?_⟩; have p245 : 0 ≤ (x11_1 : Int) := of_decide_eq_true as_; have q245 : x11_1 < (l0.length : Int) := of_decide_eq_true as_; obtain ⟨ad245, A245_1, c245_1, e245, hx245_0, hx245_1, hx245_2, hx245_3, hx245_4, hl245_1, hi245_1⟩ := at_T28 HR0.out x11_1 p245 q245; (try rw [← Nbq19.out] at hx245_2); (try rw [← Nbq19.out] at hx245_3); obtain rfl : ad243 = ad245 := (by injection e245); replace hx245_0 := bc_ HB.out hx245_0; replace hx245_1 := bc_ HB.out hx245_1; replace hx245_2 := bc_ HB.out hx245_2; replace hx245_3 := bc_ HB.out hx245_3; replace hx245_4 := bc_ HB.out hx245_4; have HR245_1 := Aside0.mk hi245_1; have HC245_1 := Aside0.mk hl245_1; clear hi245_1 hl245_1; replace p245 := eq_true p245; replace q245 := eq_true q245; have ea_ := Option.some.inj (hx243_1.symm.trans hx245_1); injection ea_ with ea_ en_ ec_; subst ea_; subst ec_; clear en_))
               go_roundg kj5
               case measure => have := HK1.out; have := HJ5.out; omega
               case rel => (try rw [← Nbq19.out]); exact ⟨(true), (true), (wrap64 (x11_1 + 1)), rs_, rs_, rs_, H', ⟨by have := HK1.out; have := HJ5.out; omega⟩, ⟨bB_⟩⟩
             · replace c26 := Bool.eq_false_iff.mpr c26
               subst c26
               rw [if_neg nf_] at H
               rw [if_neg nf_] at H
               have H' := Aside0.mk H
               clear H
               have p243 : 0 ≤ (x11_1 : Int) := of_decide_eq_true as_
               have q243 : x11_1 < (l0.length : Int) := of_decide_eq_true as_
               obtain ⟨ad243, A243_1, c243_1, e243, hx243_0, hx243_1, hx243_2, hx243_3, hx243_4, hl243_1, hi243_1⟩ := at_T28 HR0.out x11_1 p243 q243
               (try rw [← Nbq19.out] at hx243_2)
               (try rw [← Nbq19.out] at hx243_3)
               cases e243
               replace hx243_0 := bc_ HB.out hx243_0
               replace hx243_1 := bc_ HB.out hx243_1
               replace hx243_2 := bc_ HB.out hx243_2
               replace hx243_3 := bc_ HB.out hx243_3
               replace hx243_4 := bc_ HB.out hx243_4
               have HR243_1 := Aside0.mk hi243_1
               have HC243_1 := Aside0.mk hl243_1
               clear hi243_1 hl243_1
               replace p243 := eq_true p243
               replace q243 := eq_true q243
               go_wp2_with (first | ((with_reducible refine gate_callee (f := 66) rfl ?_); refine gL_ (some 46) Try.func66 #[.slice A3 l3.length c3, .int .i64 ((rd_T28 l0 x11_1).f0)] ?_; (with_reducible refine (spec_l13Has.calls kj5 _ _ l3 ((rd_T28 l0 x11_1).f0) true _ ?s1 ?s2 A18.out).mono ?_); (case s1 => exact cC_ (Kd.C_below HR3.out HB.out)); (case s2 => exact HC3.out); rintro e w' ⟨rfl, ⟨nd, rfl⟩⟩; refine ⟨_, rfl, ?_⟩; have p245 : 0 ≤ (x11_1 : Int) := of_decide_eq_true as_; have q245 : x11_1 < (l0.length : Int) := of_decide_eq_true as_; obtain ⟨ad245, A245_1, c245_1, e245, hx245_0, hx245_1, hx245_2, hx245_3, hx245_4, hl245_1, hi245_1⟩ := at_T28 HR0.out x11_1 p245 q245; (try rw [← Nbq19.out] at hx245_2); (try rw [← Nbq19.out] at hx245_3); obtain rfl : ad243 = ad245 := (by injection e245); replace hx245_0 := bc_ HB.out hx245_0; replace hx245_1 := bc_ HB.out hx245_1; replace hx245_2 := bc_ HB.out hx245_2; replace hx245_3 := bc_ HB.out hx245_3; replace hx245_4 := bc_ HB.out hx245_4; have HR245_1 := Aside0.mk hi245_1; have HC245_1 := Aside0.mk hl245_1; clear hi245_1 hl245_1; replace p245 := eq_true p245; replace q245 := eq_true q245; have ea_ := Option.some.inj (hx243_1.symm.trans hx245_1); injection ea_ with ea_ en_ ec_; subst ea_; subst ec_; clear en_; have p249 : 0 ≤ (x11_1 : Int) := of_decide_eq_true as_; have q249 : x11_1 < (l0.length : Int) := of_decide_eq_true as_; obtain ⟨ad249, A249_1, c249_1, e249, hx249_0, hx249_1, hx249_2, hx249_3, hx249_4, hl249_1, hi249_1⟩ := at_T28 HR0.out x11_1 p249 q249; (try rw [← Nbq19.out] at hx249_2); (try rw [← Nbq19.out] at hx249_3); obtain rfl : ad243 = ad249 := (by injection e249); replace hx249_0 := bc_ HB.out hx249_0; replace hx249_1 := bc_ HB.out hx249_1; replace hx249_2 := bc_ HB.out hx249_2; replace hx249_3 := bc_ HB.out hx249_3; replace hx249_4 := bc_ HB.out hx249_4; have HR249_1 := Aside0.mk hi249_1; have HC249_1 := Aside0.mk hl249_1; clear hi249_1 hl249_1; replace p249 := eq_true p249; replace q249 := eq_true q249; have ea_ := Option.some.inj (hx243_1.symm.trans hx249_1); injection ea_ with ea_ en_ ec_; subst ea_; subst ec_; clear en_))
               go_roundg kj5
               case measure => have := HK1.out; have := HJ5.out; omega
               case rel => (try rw [← Nbq19.out]); exact ⟨(true), (false), (wrap64 (x11_1 + 1)), rs_, rs_, rs_, H', ⟨by have := HK1.out; have := HJ5.out; omega⟩, ⟨bB_⟩⟩
           · replace c25 := Bool.eq_false_iff.mpr c25
             subst c25
             rw [if_neg nf_] at H
             by_cases c27 : x10_1 = true
             · subst c27
               rw [if_pos rfl] at H
               have H' := Aside0.mk H
               clear H
               have p243 : 0 ≤ (x11_1 : Int) := of_decide_eq_true as_
               have q243 : x11_1 < (l0.length : Int) := of_decide_eq_true as_
               obtain ⟨ad243, A243_1, c243_1, e243, hx243_0, hx243_1, hx243_2, hx243_3, hx243_4, hl243_1, hi243_1⟩ := at_T28 HR0.out x11_1 p243 q243
               (try rw [← Nbq19.out] at hx243_2)
               (try rw [← Nbq19.out] at hx243_3)
               cases e243
               replace hx243_0 := bc_ HB.out hx243_0
               replace hx243_1 := bc_ HB.out hx243_1
               replace hx243_2 := bc_ HB.out hx243_2
               replace hx243_3 := bc_ HB.out hx243_3
               replace hx243_4 := bc_ HB.out hx243_4
               have HR243_1 := Aside0.mk hi243_1
               have HC243_1 := Aside0.mk hl243_1
               clear hi243_1 hl243_1
               replace p243 := eq_true p243
               replace q243 := eq_true q243
               go_wp2_with (first | ((with_reducible refine gate_callee (f := 66) rfl ?_); refine gL_ (some 46) Try.func66 #[.slice A3 l3.length c3, .int .i64 ((rd_T28 l0 x11_1).f0)] ?_; (with_reducible refine (spec_l13Has.calls kj5 _ _ l3 ((rd_T28 l0 x11_1).f0) true _ ?s1 ?s2 A18.out).mono ?_); (case s1 => exact cC_ (Kd.C_below HR3.out HB.out)); (case s2 => exact HC3.out); rintro e w' ⟨rfl, ⟨nd, rfl⟩⟩; refine ⟨_, rfl, ?_⟩; have p245 : 0 ≤ (x11_1 : Int) := of_decide_eq_true as_; have q245 : x11_1 < (l0.length : Int) := of_decide_eq_true as_; obtain ⟨ad245, A245_1, c245_1, e245, hx245_0, hx245_1, hx245_2, hx245_3, hx245_4, hl245_1, hi245_1⟩ := at_T28 HR0.out x11_1 p245 q245; (try rw [← Nbq19.out] at hx245_2); (try rw [← Nbq19.out] at hx245_3); obtain rfl : ad243 = ad245 := (by injection e245); replace hx245_0 := bc_ HB.out hx245_0; replace hx245_1 := bc_ HB.out hx245_1; replace hx245_2 := bc_ HB.out hx245_2; replace hx245_3 := bc_ HB.out hx245_3; replace hx245_4 := bc_ HB.out hx245_4; have HR245_1 := Aside0.mk hi245_1; have HC245_1 := Aside0.mk hl245_1; clear hi245_1 hl245_1; replace p245 := eq_true p245; replace q245 := eq_true q245; have ea_ := Option.some.inj (hx243_1.symm.trans hx245_1); injection ea_ with ea_ en_ ec_; subst ea_; subst ec_; clear en_; have p250 : 0 ≤ (x11_1 : Int) := of_decide_eq_true as_; have q250 : x11_1 < (l0.length : Int) := of_decide_eq_true as_; obtain ⟨ad250, A250_1, c250_1, e250, hx250_0, hx250_1, hx250_2, hx250_3, hx250_4, hl250_1, hi250_1⟩ := at_T28 HR0.out x11_1 p250 q250; (try rw [← Nbq19.out] at hx250_2); (try rw [← Nbq19.out] at hx250_3); obtain rfl : ad243 = ad250 := (by injection e250); replace hx250_0 := bc_ HB.out hx250_0; replace hx250_1 := bc_ HB.out hx250_1; replace hx250_2 := bc_ HB.out hx250_2; replace hx250_3 := bc_ HB.out hx250_3; replace hx250_4 := bc_ HB.out hx250_4; have HR250_1 := Aside0.mk hi250_1; have HC250_1 := Aside0.mk hl250_1; clear hi250_1 hl250_1; replace p250 := eq_true p250; replace q250 := eq_true q250; have ea_ := Option.some.inj (hx243_1.symm.trans hx250_1); injection ea_ with ea_ en_ ec_; subst ea_; subst ec_; clear en_))
               go_roundg kj5
               case measure => have := HK1.out; have := HJ5.out; omega
               case rel => (try rw [← Nbq19.out]); exact ⟨(false), (true), (wrap64 (x11_1 + 1)), rs_, rs_, rs_, H', ⟨by have := HK1.out; have := HJ5.out; omega⟩, ⟨bB_⟩⟩
             · replace c27 := Bool.eq_false_iff.mpr c27
               subst c27
               rw [if_neg nf_] at H
               rw [if_neg nf_] at H
               have H' := Aside0.mk H
               clear H
               have p243 : 0 ≤ (x11_1 : Int) := of_decide_eq_true as_
               have q243 : x11_1 < (l0.length : Int) := of_decide_eq_true as_
               obtain ⟨ad243, A243_1, c243_1, e243, hx243_0, hx243_1, hx243_2, hx243_3, hx243_4, hl243_1, hi243_1⟩ := at_T28 HR0.out x11_1 p243 q243
               (try rw [← Nbq19.out] at hx243_2)
               (try rw [← Nbq19.out] at hx243_3)
               cases e243
               replace hx243_0 := bc_ HB.out hx243_0
               replace hx243_1 := bc_ HB.out hx243_1
               replace hx243_2 := bc_ HB.out hx243_2
               replace hx243_3 := bc_ HB.out hx243_3
               replace hx243_4 := bc_ HB.out hx243_4
               have HR243_1 := Aside0.mk hi243_1
               have HC243_1 := Aside0.mk hl243_1
               clear hi243_1 hl243_1
               replace p243 := eq_true p243
               replace q243 := eq_true q243
               go_wp2_with (first | ((with_reducible refine gate_callee (f := 66) rfl ?_); refine gL_ (some 46) Try.func66 #[.slice A3 l3.length c3, .int .i64 ((rd_T28 l0 x11_1).f0)] ?_; (with_reducible refine (spec_l13Has.calls kj5 _ _ l3 ((rd_T28 l0 x11_1).f0) true _ ?s1 ?s2 A18.out).mono ?_); (case s1 => exact cC_ (Kd.C_below HR3.out HB.out)); (case s2 => exact HC3.out); rintro e w' ⟨rfl, ⟨nd, rfl⟩⟩; refine ⟨_, rfl, ?_⟩; have p245 : 0 ≤ (x11_1 : Int) := of_decide_eq_true as_; have q245 : x11_1 < (l0.length : Int) := of_decide_eq_true as_; obtain ⟨ad245, A245_1, c245_1, e245, hx245_0, hx245_1, hx245_2, hx245_3, hx245_4, hl245_1, hi245_1⟩ := at_T28 HR0.out x11_1 p245 q245; (try rw [← Nbq19.out] at hx245_2); (try rw [← Nbq19.out] at hx245_3); obtain rfl : ad243 = ad245 := (by injection e245); replace hx245_0 := bc_ HB.out hx245_0; replace hx245_1 := bc_ HB.out hx245_1; replace hx245_2 := bc_ HB.out hx245_2; replace hx245_3 := bc_ HB.out hx245_3; replace hx245_4 := bc_ HB.out hx245_4; have HR245_1 := Aside0.mk hi245_1; have HC245_1 := Aside0.mk hl245_1; clear hi245_1 hl245_1; replace p245 := eq_true p245; replace q245 := eq_true q245; have ea_ := Option.some.inj (hx243_1.symm.trans hx245_1); injection ea_ with ea_ en_ ec_; subst ea_; subst ec_; clear en_; have p250 : 0 ≤ (x11_1 : Int) := of_decide_eq_true as_; have q250 : x11_1 < (l0.length : Int) := of_decide_eq_true as_; obtain ⟨ad250, A250_1, c250_1, e250, hx250_0, hx250_1, hx250_2, hx250_3, hx250_4, hl250_1, hi250_1⟩ := at_T28 HR0.out x11_1 p250 q250; (try rw [← Nbq19.out] at hx250_2); (try rw [← Nbq19.out] at hx250_3); obtain rfl : ad243 = ad250 := (by injection e250); replace hx250_0 := bc_ HB.out hx250_0; replace hx250_1 := bc_ HB.out hx250_1; replace hx250_2 := bc_ HB.out hx250_2; replace hx250_3 := bc_ HB.out hx250_3; replace hx250_4 := bc_ HB.out hx250_4; have HR250_1 := Aside0.mk hi250_1; have HC250_1 := Aside0.mk hl250_1; clear hi250_1 hl250_1; replace p250 := eq_true p250; replace q250 := eq_true q250; have ea_ := Option.some.inj (hx243_1.symm.trans hx250_1); injection ea_ with ea_ en_ ec_; subst ea_; subst ec_; clear en_; have p251 : 0 ≤ (x11_1 : Int) := of_decide_eq_true as_; have q251 : x11_1 < (l0.length : Int) := of_decide_eq_true as_; obtain ⟨ad251, A251_1, c251_1, e251, hx251_0, hx251_1, hx251_2, hx251_3, hx251_4, hl251_1, hi251_1⟩ := at_T28 HR0.out x11_1 p251 q251; (try rw [← Nbq19.out] at hx251_2); (try rw [← Nbq19.out] at hx251_3); obtain rfl : ad243 = ad251 := (by injection e251); replace hx251_0 := bc_ HB.out hx251_0; replace hx251_1 := bc_ HB.out hx251_1; replace hx251_2 := bc_ HB.out hx251_2; replace hx251_3 := bc_ HB.out hx251_3; replace hx251_4 := bc_ HB.out hx251_4; have HR251_1 := Aside0.mk hi251_1; have HC251_1 := Aside0.mk hl251_1; clear hi251_1 hl251_1; replace p251 := eq_true p251; replace q251 := eq_true q251; have ea_ := Option.some.inj (hx243_1.symm.trans hx251_1); injection ea_ with ea_ en_ ec_; subst ea_; subst ec_; clear en_))
               go_roundg kj5
               case measure => have := HK1.out; have := HJ5.out; omega
               case rel => (try rw [← Nbq19.out]); exact ⟨(false), (false), (wrap64 (x11_1 + 1)), rs_, rs_, rs_, H', ⟨by have := HK1.out; have := HJ5.out; omega⟩, ⟨bB_⟩⟩
         · replace c24 := Bool.eq_false_iff.mpr c24
           subst c24
           rw [if_neg nf_] at H
           obtain rfl := Option.some.inj H
           have p243 : 0 ≤ (x11_1 : Int) := of_decide_eq_true as_
           have q243 : x11_1 < (l0.length : Int) := of_decide_eq_true as_
           obtain ⟨ad243, A243_1, c243_1, e243, hx243_0, hx243_1, hx243_2, hx243_3, hx243_4, hl243_1, hi243_1⟩ := at_T28 HR0.out x11_1 p243 q243
           (try rw [← Nbq19.out] at hx243_2)
           (try rw [← Nbq19.out] at hx243_3)
           cases e243
           replace hx243_0 := bc_ HB.out hx243_0
           replace hx243_1 := bc_ HB.out hx243_1
           replace hx243_2 := bc_ HB.out hx243_2
           replace hx243_3 := bc_ HB.out hx243_3
           replace hx243_4 := bc_ HB.out hx243_4
           have HR243_1 := Aside0.mk hi243_1
           have HC243_1 := Aside0.mk hl243_1
           clear hi243_1 hl243_1
           replace p243 := eq_true p243
           replace q243 := eq_true q243
           go_wp2_with (first | ((with_reducible refine gate_callee (f := 66) rfl ?_); refine gL_ (some 46) Try.func66 #[.slice A3 l3.length c3, .int .i64 ((rd_T28 l0 x11_1).f0)] ?_; (with_reducible refine (spec_l13Has.calls kj5 _ _ l3 ((rd_T28 l0 x11_1).f0) false _ ?s1 ?s2 A18.out).mono ?_); (case s1 => exact cC_ (Kd.C_below HR3.out HB.out)); (case s2 => exact HC3.out); rintro e w' ⟨rfl, ⟨nd, rfl⟩⟩; refine ⟨_, rfl, ?_⟩; have p245 : 0 ≤ (x11_1 : Int) := of_decide_eq_true as_; have q245 : x11_1 < (l0.length : Int) := of_decide_eq_true as_; obtain ⟨ad245, A245_1, c245_1, e245, hx245_0, hx245_1, hx245_2, hx245_3, hx245_4, hl245_1, hi245_1⟩ := at_T28 HR0.out x11_1 p245 q245; (try rw [← Nbq19.out] at hx245_2); (try rw [← Nbq19.out] at hx245_3); obtain rfl : ad243 = ad245 := (by injection e245); replace hx245_0 := bc_ HB.out hx245_0; replace hx245_1 := bc_ HB.out hx245_1; replace hx245_2 := bc_ HB.out hx245_2; replace hx245_3 := bc_ HB.out hx245_3; replace hx245_4 := bc_ HB.out hx245_4; have HR245_1 := Aside0.mk hi245_1; have HC245_1 := Aside0.mk hl245_1; clear hi245_1 hl245_1; replace p245 := eq_true p245; replace q245 := eq_true q245; have ea_ := Option.some.inj (hx243_1.symm.trans hx245_1); injection ea_ with ea_ en_ ec_; subst ea_; subst ec_; clear en_))
           go_ret
           exact ⟨rr_, bB_⟩
def impl_hasInt.l0 : Nat → Int → List Int → Int → Int → Option (Bool)
 | 0, _, _, _, _ => none
 | k + 1, x1, x7, x8, x9 => if x9 < x8 then (if 0 ≤ x9 then (if x9 < (x7.length : Int) then (if (rd x7 x9) = x1 then (some true) else (impl_hasInt.l0 k x1 x7 x8 (wrap64 (x9 + 1)))) else (none)) else (none)) else (some false)
def impl_hasInt.f (k : Nat) (l0 : List Int) (a1 : Int) : Option (Bool) := impl_hasInt.l0 k a1 l0 (l0.length : Int) 0
set_option maxHeartbeats 8000000 in
set_option maxRecDepth 100000 in
theorem impl_hasInt.calls (k : Nat) (A0 : Option Addr) (c0 : Nat) (l0 : List Int) (a1 : Int) (r : Bool) (w : World) (hr0 : Kd.C (Kd.int .i64) w A0 l0.length l0) (hc0 : l0.length ≤ c0) (h : impl_hasInt.f k l0 a1 = some r) :
 Calls Try.prog 67 #[.slice A0 l0.length c0, .int .i64 a1] w fun e w' => e = .returned (.bool r) ∧ Drawn0 w w' := by
 have HR0 := Aside0.mk hr0
 have HC0 := Aside0.mk hc0
 clear hr0 hc0
 have H : (impl_hasInt.l0 k a1 l0 (l0.length : Int) 0) = some r := h
 clear h
 have H' := Aside0.mk H
 clear H
 go_enter Try.func67, Try.ntmps67
 go_wp2
 go_loopg [9] k (fun kq v9 w' => ∃ (x9_1 : Int), v9 = .int .i64 x9_1 ∧ Aside0 (impl_hasInt.l0 kq a1 l0 (l0.length : Int) x9_1 = some r) ∧ Aside0 (kq ≤ k) ∧ Drawn0 w w')
 case atStart => exact ⟨(0), rs_, H', ⟨Nat.le_refl _⟩, dr_⟩
 case round =>
  clear H'
  try clear p2
  obtain ⟨x9_1, rfl, HA, HK1, ⟨m1, rfl⟩⟩ := hrel
  cases gk with
  | zero => exact absurd HA.out (by simp [impl_hasInt.l0])
  | succ k1 =>
   have H := HA.out
   clear HA
   simp only [impl_hasInt.l0] at H
   by_cases c3 : x9_1 < (l0.length : Int)
   rotate_left
   · rw [if_neg c3] at H
     have c3b0 : decide (x9_1 < (l0.length : Int)) = false := decide_eq_false c3
     clear c3
     obtain rfl := Option.some.inj H
     go_wp2
     go_ret
     exact ⟨rs_, dr_⟩
   rw [if_pos c3] at H
   have c3b0 : decide (x9_1 < (l0.length : Int)) = true := decide_eq_true c3
   clear c3
   by_cases c4 : 0 ≤ x9_1
   rotate_left
   · exact absurd H (by rw [if_neg c4]; simp)
   rw [if_pos c4] at H
   have c4b0 : decide (0 ≤ x9_1) = true := decide_eq_true c4
   clear c4
   by_cases c5 : x9_1 < (l0.length : Int)
   rotate_left
   · exact absurd H (by rw [if_neg c5]; simp)
   rw [if_pos c5] at H
   have c5b0 : decide (x9_1 < (l0.length : Int)) = true := decide_eq_true c5
   clear c5
   by_cases c6 : (rd l0 x9_1) = a1
   · rw [if_pos c6] at H
     have c6b0 : ((rd l0 x9_1) == a1) = true := beq_iff_eq.mpr c6
     have c6b1 : ((rd l0 x9_1) != a1) = false := bne_eq_false_iff_eq.mpr c6
     clear c6
     obtain rfl := Option.some.inj H
     have p269 : 0 ≤ (x9_1 : Int) := of_decide_eq_true as_
     have q269 : x9_1 < (l0.length : Int) := of_decide_eq_true as_
     obtain ⟨ad269, e269, hx269_0⟩ := Kd.at_int HR0.out x9_1 p269 q269
     cases e269
     replace p269 := eq_true p269
     replace q269 := eq_true q269
     go_wp2
     go_ret
     exact ⟨rs_, dr_⟩
   rw [if_neg c6] at H
   have c6b0 : ((rd l0 x9_1) == a1) = false := beq_eq_false_iff_ne.mpr c6
   have c6b1 : ((rd l0 x9_1) != a1) = true := bne_iff_ne.mpr c6
   have H' := Aside0.mk H
   clear H
   have p269 : 0 ≤ (x9_1 : Int) := of_decide_eq_true as_
   have q269 : x9_1 < (l0.length : Int) := of_decide_eq_true as_
   obtain ⟨ad269, e269, hx269_0⟩ := Kd.at_int HR0.out x9_1 p269 q269
   cases e269
   replace p269 := eq_true p269
   replace q269 := eq_true q269
   go_wp2
   go_roundg k1
   case measure => have := HK1.out; omega
   case rel => exact ⟨(wrap64 (x9_1 + 1)), rs_, H', ⟨by have := HK1.out; omega⟩, dr_⟩
mutual
def impl_MayTurn.l0 : Nat → List ByteArray → Bool → List Int → Bool → Bool → List (S28) → Int → Int → Option (Bool)
 | 0, _, _, _, _, _, _, _, _ => none
 | k + 1, x1, x2, x3, x9, x10, x14, x15, x16 => if x16 < x15 then (if 0 ≤ x16 then (if x16 < (x14.length : Int) then ((impl_Covers.f k ((rd_T28 x14 x16).f0) ((rd_T28 x14 x16).f1) ((rd_T28 x14 x16).f2) ((rd_T28 x14 x16).f3) ((rd_T28 x14 x16).f4) x1).bind fun t272 => (if t272 = true then (impl_MayTurn.j1 k x1 x2 x3 x9 x10 x14 x15 x16 false ((rd_T28 x14 x16).f0) ((rd_T28 x14 x16).f1) ((rd_T28 x14 x16).f2) ((rd_T28 x14 x16).f3) ((rd_T28 x14 x16).f4)) else (if x2 = true then ((impl_Under.f k ((rd_T28 x14 x16).f1) x1).bind fun t273 => (impl_MayTurn.j1 k x1 x2 x3 x9 x10 x14 x15 x16 (!t273) ((rd_T28 x14 x16).f0) ((rd_T28 x14 x16).f1) ((rd_T28 x14 x16).f2) ((rd_T28 x14 x16).f3) ((rd_T28 x14 x16).f4))) else (impl_MayTurn.j1 k x1 x2 x3 x9 x10 x14 x15 x16 (!false) ((rd_T28 x14 x16).f0) ((rd_T28 x14 x16).f1) ((rd_T28 x14 x16).f2) ((rd_T28 x14 x16).f3) ((rd_T28 x14 x16).f4))))) else (none)) else (none)) else (if x9 = true then (some x10) else (some true))
def impl_MayTurn.j1 : Nat → List ByteArray → Bool → List Int → Bool → Bool → List (S28) → Int → Int → Bool → Int → List ByteArray → Bool → Bool → Int → Option (Bool)
 | 0, _, _, _, _, _, _, _, _, _, _, _, _, _, _ => none
 | k + 1, x1, x2, x3, x9, x10, x14, x15, x16, x33, x272000, x272001, x272002, x272003, x272004 => if x33 = true then (impl_MayTurn.l0 k x1 x2 x3 x9 x10 x14 x15 (wrap64 (x16 + 1))) else ((impl_hasInt.f k x3 x272000).bind fun t274 => (if x272003 = true then (if x9 = true then (if x10 = true then (impl_MayTurn.l0 k x1 x2 x3 true true x14 x15 (wrap64 (x16 + 1))) else (impl_MayTurn.l0 k x1 x2 x3 true t274 x14 x15 (wrap64 (x16 + 1)))) else (if x10 = true then (impl_MayTurn.l0 k x1 x2 x3 x272003 true x14 x15 (wrap64 (x16 + 1))) else (impl_MayTurn.l0 k x1 x2 x3 x272003 t274 x14 x15 (wrap64 (x16 + 1))))) else (if t274 = true then (if x9 = true then (if x10 = true then (impl_MayTurn.l0 k x1 x2 x3 true true x14 x15 (wrap64 (x16 + 1))) else (impl_MayTurn.l0 k x1 x2 x3 true false x14 x15 (wrap64 (x16 + 1)))) else (if x10 = true then (impl_MayTurn.l0 k x1 x2 x3 x272003 true x14 x15 (wrap64 (x16 + 1))) else (impl_MayTurn.l0 k x1 x2 x3 x272003 false x14 x15 (wrap64 (x16 + 1))))) else (some false))))
end
def impl_MayTurn.f (k : Nat) (l0 : List (S28)) (l1 : List ByteArray) (a2 : Bool) (l3 : List Int) : Option (Bool) := impl_MayTurn.l0 k l1 a2 l3 false false l0 (l0.length : Int) 0
set_option maxHeartbeats 8000000 in
set_option maxRecDepth 100000 in
theorem impl_MayTurn.calls (k : Nat) (A0 : Option Addr) (c0 : Nat) (l0 : List (S28)) (A1 : Option Addr) (c1 : Nat) (l1 : List ByteArray) (a2 : Bool) (A3 : Option Addr) (c3 : Nat) (l3 : List Int) (r : Bool) (w : World) (hr0 : Kd.C k28 w A0 l0.length l0) (hc0 : l0.length ≤ c0) (hr1 : Kd.C Kd.string w A1 l1.length l1) (hc1 : l1.length ≤ c1) (hr3 : Kd.C (Kd.int .i64) w A3 l3.length l3) (hc3 : l3.length ≤ c3) (h : impl_MayTurn.f k l0 l1 a2 l3 = some r) :
 Calls Try.prog 29 #[.slice A0 l0.length c0, .slice A1 l1.length c1, .bool a2, .slice A3 l3.length c3] w fun e w' => e = .returned (.bool r) ∧ Below w.heap.size w w' := by
 have hu28 := Try.underlying28
 have HR0 := Aside0.mk hr0
 have HC0 := Aside0.mk hc0
 clear hr0 hc0
 have HR1 := Aside0.mk hr1
 have HC1 := Aside0.mk hc1
 clear hr1 hc1
 have HR3 := Aside0.mk hr3
 have HC3 := Aside0.mk hc3
 clear hr3 hc3
 have HB := A_ (Below.refl w.heap.size w)
 have H : (impl_MayTurn.l0 k l1 a2 l3 false false l0 (l0.length : Int) 0) = some r := h
 clear h
 have H' := Aside0.mk H
 clear H
 go_enter Try.func29, Try.ntmps29
 go_wp2
 go_loopg [9, 10, 16] k (fun kq v9 v10 v16 w' => ∃ (x9_1 : Bool) (x10_1 : Bool) (x16_1 : Int), v9 = .bool x9_1 ∧ v10 = .bool x10_1 ∧ v16 = .int .i64 x16_1 ∧ Aside0 (impl_MayTurn.l0 kq l1 a2 l3 x9_1 x10_1 l0 (l0.length : Int) x16_1 = some r) ∧ Aside0 (kq ≤ k) ∧ Aside0 (Below w.heap.size w w'))
 case atStart => exact ⟨(false), (false), (0), rs_, rs_, rs_, H', ⟨Nat.le_refl _⟩, ⟨bB_⟩⟩
 case round =>
  clear H'
  try clear c1
  try clear c2
  try clear p2
  try clear c3
  obtain ⟨x9_1, x10_1, x16_1, rfl, rfl, rfl, HA, HK1, HB⟩ := hrel
  cases gk with
  | zero => exact absurd HA.out (by simp [impl_MayTurn.l0])
  | succ k1 =>
   have H := HA.out
   clear HA
   simp only [impl_MayTurn.l0] at H
   by_cases c5 : x16_1 < (l0.length : Int)
   rotate_left
   · rw [if_neg c5] at H
     have c5b0 : decide (x16_1 < (l0.length : Int)) = false := decide_eq_false c5
     clear c5
     by_cases c41 : x9_1 = true
     · subst c41
       rw [if_pos rfl] at H
       obtain rfl := Option.some.inj H
       go_wp2
       go_ret
       exact ⟨rr_, bB_⟩
     · replace c41 := Bool.eq_false_iff.mpr c41
       subst c41
       rw [if_neg nf_] at H
       obtain rfl := Option.some.inj H
       go_wp2
       go_ret
       exact ⟨rr_, bB_⟩
   rw [if_pos c5] at H
   have c5b0 : decide (x16_1 < (l0.length : Int)) = true := decide_eq_true c5
   clear c5
   by_cases c6 : 0 ≤ x16_1
   rotate_left
   · exact absurd H (by rw [if_neg c6]; simp)
   rw [if_pos c6] at H
   have c6b0 : decide (0 ≤ x16_1) = true := decide_eq_true c6
   clear c6
   by_cases c7 : x16_1 < (l0.length : Int)
   rotate_left
   · exact absurd H (by rw [if_neg c7]; simp)
   rw [if_pos c7] at H
   have c7b0 : decide (x16_1 < (l0.length : Int)) = true := decide_eq_true c7
   clear c7
   have HC8 := Aside0.mk H
   clear H
   have p270 : 0 ≤ (x16_1 : Int) := of_decide_eq_true as_
   have q270 : x16_1 < (l0.length : Int) := of_decide_eq_true as_
   obtain ⟨ad270, A270_1, c270_1, e270, hx270_0, hx270_1, hx270_2, hx270_3, hx270_4, hl270_1, hi270_1⟩ := at_T28 HR0.out x16_1 p270 q270
   cases e270
   replace hx270_0 := bc_ HB.out hx270_0
   replace hx270_1 := bc_ HB.out hx270_1
   replace hx270_2 := bc_ HB.out hx270_2
   replace hx270_3 := bc_ HB.out hx270_3
   replace hx270_4 := bc_ HB.out hx270_4
   have HR270_1 := Aside0.mk hi270_1
   have HC270_1 := Aside0.mk hl270_1
   clear hi270_1 hl270_1
   replace p270 := eq_true p270
   replace q270 := eq_true q270
   go_upto_region 5 with (first | ((with_reducible refine gate_dst (N := 12) rfl ?_); refine bx_ (N := 12) (cs := #[.int .i64 0, .slice none 0 0, .bool false, .bool false, .int .i64 0]) (t := 28) ?_; intro gb271 hg w9 hbox hb; have BK271 := A_ (hbox); have GW271 := A_ (ge_ hg bB_ : w.heap.size ≤ gb271); have GE271 := A_ (ge_ hg bB_ : w.heap.size ≤ gb271); replace HB := A_ (below_step bB_ hb); clear hb hbox hg; obtain ⟨hcz10_0, hcz10_1, hcz10_2, hcz10_3, hcz10_4, hfz10_0, hfz10_1, hfz10_2, hfz10_3, hfz10_4⟩ := cz5_ BK271.out))
   (try simp only [Act.put, List.setIfInBounds_toArray, List.set_cons_zero, List.set_cons_succ])
   go_cut [33] (fun v33 wc => ∃ (kq : Nat) (x33_7 : Bool), v33 = .bool x33_7 ∧ Aside0 (impl_MayTurn.j1 kq l1 a2 l3 x9_1 x10_1 l0 (l0.length : Int) x16_1 x33_7 ((rd_T28 l0 x16_1).f0) ((rd_T28 l0 x16_1).f1) ((rd_T28 l0 x16_1).f2) ((rd_T28 l0 x16_1).f3) ((rd_T28 l0 x16_1).f4) = some r) ∧ Aside0 (kq ≤ k1) ∧ Aside0 (wc.heap[gb271]? = some (.cells #[.int .i64 ((rd_T28 l0 x16_1).f0), (.slice A270_1 ((rd_T28 l0 x16_1).f1).length c270_1), .bool ((rd_T28 l0 x16_1).f2), .bool ((rd_T28 l0 x16_1).f3), .int .i64 ((rd_T28 l0 x16_1).f4)] 28 (0, 0))) ∧ Aside0 (Below w.heap.size w wc))
   case first =>
    have H := HC8.out
    clear HC8
    obtain ⟨t272, A11, H⟩ := bo_ H
    (try dsimp only at H)
    by_cases c12 : t272 = true
    · subst c12
      rw [if_pos rfl] at H
      have H' := Aside0.mk H
      clear H
      obtain ⟨hcz13_0, hcz13_1, hcz13_2, hcz13_3, hcz13_4, hfz13_0, hfz13_1, hfz13_2, hfz13_3, hfz13_4⟩ := cz5_ BK271.out
      go_wp2_with (first | ((with_reducible refine gate_callee (f := 20) rfl ?_); refine gL_ (some 22) Try.func20 #[.agg #[.int .i64 ((rd_T28 l0 x16_1).f0), .slice A270_1 ((rd_T28 l0 x16_1).f1).length c270_1, .bool ((rd_T28 l0 x16_1).f2), .bool ((rd_T28 l0 x16_1).f3), .int .i64 ((rd_T28 l0 x16_1).f4)], .slice A1 l1.length c1] ?_; (with_reducible refine (impl_Covers.calls k1 ((rd_T28 l0 x16_1).f0) _ _ ((rd_T28 l0 x16_1).f1) ((rd_T28 l0 x16_1).f2) ((rd_T28 l0 x16_1).f3) ((rd_T28 l0 x16_1).f4) _ _ l1 true _ ?s1 ?s2 ?s3 ?s4 A11.out).mono ?_); (case s1 => exact Kd.C_below HR270_1.out (bG_ GE271.out)); (case s2 => exact HC270_1.out); (case s3 => exact Kd.C_below HR1.out (bG_ GE271.out)); (case s4 => exact HC1.out); rintro e w14 ⟨rfl, hb⟩; refine ⟨_, rfl, ?_⟩; replace BK271 := A_ (blk_below (g := gb271) (o := .cells #[.int .i64 ((rd_T28 l0 x16_1).f0), .slice A270_1 ((rd_T28 l0 x16_1).f1).length c270_1, .bool ((rd_T28 l0 x16_1).f2), .bool ((rd_T28 l0 x16_1).f3), .int .i64 ((rd_T28 l0 x16_1).f4)] 28 (0, 0)) (by (with_reducible repeat (first | refine blk_drewN ?_ _ | refine blk_drew ?_ | refine blk_alloc ?_ _)); refine blk_put (cs := #[.int .i64 ((rd_T28 l0 x16_1).f0), .slice A270_1 ((rd_T28 l0 x16_1).f1).length c270_1, .bool ((rd_T28 l0 x16_1).f2), .bool ((rd_T28 l0 x16_1).f3), .int .i64 0]) ?_ 4 _ rfl; (with_reducible repeat (first | refine blk_drewN ?_ _ | refine blk_drew ?_ | refine blk_alloc ?_ _)); refine blk_put (cs := #[.int .i64 ((rd_T28 l0 x16_1).f0), .slice A270_1 ((rd_T28 l0 x16_1).f1).length c270_1, .bool ((rd_T28 l0 x16_1).f2), .bool false, .int .i64 0]) ?_ 3 _ rfl; (with_reducible repeat (first | refine blk_drewN ?_ _ | refine blk_drew ?_ | refine blk_alloc ?_ _)); refine blk_put (cs := #[.int .i64 ((rd_T28 l0 x16_1).f0), .slice A270_1 ((rd_T28 l0 x16_1).f1).length c270_1, .bool false, .bool false, .int .i64 0]) ?_ 2 _ rfl; (with_reducible repeat (first | refine blk_drewN ?_ _ | refine blk_drew ?_ | refine blk_alloc ?_ _)); refine blk_put (cs := #[.int .i64 ((rd_T28 l0 x16_1).f0), .slice none 0 0, .bool false, .bool false, .int .i64 0]) ?_ 1 _ rfl; (with_reducible repeat (first | refine blk_drewN ?_ _ | refine blk_drew ?_ | refine blk_alloc ?_ _)); refine blk_put (cs := #[.int .i64 0, .slice none 0 0, .bool false, .bool false, .int .i64 0]) ?_ 0 _ rfl; (with_reducible repeat (first | refine blk_drewN ?_ _ | refine blk_drew ?_ | refine blk_alloc ?_ _)); exact BK271.out) hb); replace HB := A_ (below_step (bG_ GE271.out) hb); (try clear hb)))
      go_meet
      case rel => exact ⟨_, (false), rs_, H', ⟨by have := HK1.out; first | omega | exact Nat.le_refl _⟩, ⟨vb_ BK271.out⟩, ⟨bG_ GE271.out⟩⟩
    · replace c12 := Bool.eq_false_iff.mpr c12
      subst c12
      rw [if_neg nf_] at H
      by_cases c15 : a2 = true
      · subst c15
        rw [if_pos rfl] at H
        obtain ⟨t273, A16, H⟩ := bo_ H
        (try dsimp only at H)
        have H' := Aside0.mk H
        clear H
        obtain ⟨hcz17_0, hcz17_1, hcz17_2, hcz17_3, hcz17_4, hfz17_0, hfz17_1, hfz17_2, hfz17_3, hfz17_4⟩ := cz5_ BK271.out
        go_wp2_with (first | ((with_reducible refine gate_callee (f := 20) rfl ?_); refine gL_ (some 22) Try.func20 #[.agg #[.int .i64 ((rd_T28 l0 x16_1).f0), .slice A270_1 ((rd_T28 l0 x16_1).f1).length c270_1, .bool ((rd_T28 l0 x16_1).f2), .bool ((rd_T28 l0 x16_1).f3), .int .i64 ((rd_T28 l0 x16_1).f4)], .slice A1 l1.length c1] ?_; (with_reducible refine (impl_Covers.calls k1 ((rd_T28 l0 x16_1).f0) _ _ ((rd_T28 l0 x16_1).f1) ((rd_T28 l0 x16_1).f2) ((rd_T28 l0 x16_1).f3) ((rd_T28 l0 x16_1).f4) _ _ l1 false _ ?s1 ?s2 ?s3 ?s4 A11.out).mono ?_); (case s1 => exact Kd.C_below HR270_1.out (bG_ GE271.out)); (case s2 => exact HC270_1.out); (case s3 => exact Kd.C_below HR1.out (bG_ GE271.out)); (case s4 => exact HC1.out); rintro e w18 ⟨rfl, hb⟩; refine ⟨_, rfl, ?_⟩; replace BK271 := A_ (blk_below (g := gb271) (o := .cells #[.int .i64 ((rd_T28 l0 x16_1).f0), .slice A270_1 ((rd_T28 l0 x16_1).f1).length c270_1, .bool ((rd_T28 l0 x16_1).f2), .bool ((rd_T28 l0 x16_1).f3), .int .i64 ((rd_T28 l0 x16_1).f4)] 28 (0, 0)) (by (with_reducible repeat (first | refine blk_drewN ?_ _ | refine blk_drew ?_ | refine blk_alloc ?_ _)); refine blk_put (cs := #[.int .i64 ((rd_T28 l0 x16_1).f0), .slice A270_1 ((rd_T28 l0 x16_1).f1).length c270_1, .bool ((rd_T28 l0 x16_1).f2), .bool ((rd_T28 l0 x16_1).f3), .int .i64 0]) ?_ 4 _ rfl; (with_reducible repeat (first | refine blk_drewN ?_ _ | refine blk_drew ?_ | refine blk_alloc ?_ _)); refine blk_put (cs := #[.int .i64 ((rd_T28 l0 x16_1).f0), .slice A270_1 ((rd_T28 l0 x16_1).f1).length c270_1, .bool ((rd_T28 l0 x16_1).f2), .bool false, .int .i64 0]) ?_ 3 _ rfl; (with_reducible repeat (first | refine blk_drewN ?_ _ | refine blk_drew ?_ | refine blk_alloc ?_ _)); refine blk_put (cs := #[.int .i64 ((rd_T28 l0 x16_1).f0), .slice A270_1 ((rd_T28 l0 x16_1).f1).length c270_1, .bool false, .bool false, .int .i64 0]) ?_ 2 _ rfl; (with_reducible repeat (first | refine blk_drewN ?_ _ | refine blk_drew ?_ | refine blk_alloc ?_ _)); refine blk_put (cs := #[.int .i64 ((rd_T28 l0 x16_1).f0), .slice none 0 0, .bool false, .bool false, .int .i64 0]) ?_ 1 _ rfl; (with_reducible repeat (first | refine blk_drewN ?_ _ | refine blk_drew ?_ | refine blk_alloc ?_ _)); refine blk_put (cs := #[.int .i64 0, .slice none 0 0, .bool false, .bool false, .int .i64 0]) ?_ 0 _ rfl; (with_reducible repeat (first | refine blk_drewN ?_ _ | refine blk_drew ?_ | refine blk_alloc ?_ _)); exact BK271.out) hb); replace HB := A_ (below_step (bG_ GE271.out) hb); (try clear hb); obtain ⟨hcz19_0, hcz19_1, hcz19_2, hcz19_3, hcz19_4, hfz19_0, hfz19_1, hfz19_2, hfz19_3, hfz19_4⟩ := cz5_ BK271.out) | (go_at_call 65; (with_reducible refine (impl_Under.calls k1 _ _ ((rd_T28 l0 x16_1).f1) _ _ l1 t273 _ ?s1 ?s2 ?s3 ?s4 A16.out).mono ?_); (case s1 => exact cC_ (Kd.C_below HR270_1.out HB.out)); (case s2 => exact HC270_1.out); (case s3 => exact cC_ (Kd.C_below HR1.out HB.out)); (case s4 => exact HC1.out); rintro e w' ⟨rfl, ⟨nd, rfl⟩⟩))
        go_meet
        case rel => exact ⟨_, (!t273), rs_, H', ⟨by have := HK1.out; first | omega | exact Nat.le_refl _⟩, ⟨vb_ BK271.out⟩, ⟨bG_ GE271.out⟩⟩
      · replace c15 := Bool.eq_false_iff.mpr c15
        subst c15
        rw [if_neg nf_] at H
        have H' := Aside0.mk H
        clear H
        obtain ⟨hcz20_0, hcz20_1, hcz20_2, hcz20_3, hcz20_4, hfz20_0, hfz20_1, hfz20_2, hfz20_3, hfz20_4⟩ := cz5_ BK271.out
        go_wp2_with (first | ((with_reducible refine gate_callee (f := 20) rfl ?_); refine gL_ (some 22) Try.func20 #[.agg #[.int .i64 ((rd_T28 l0 x16_1).f0), .slice A270_1 ((rd_T28 l0 x16_1).f1).length c270_1, .bool ((rd_T28 l0 x16_1).f2), .bool ((rd_T28 l0 x16_1).f3), .int .i64 ((rd_T28 l0 x16_1).f4)], .slice A1 l1.length c1] ?_; (with_reducible refine (impl_Covers.calls k1 ((rd_T28 l0 x16_1).f0) _ _ ((rd_T28 l0 x16_1).f1) ((rd_T28 l0 x16_1).f2) ((rd_T28 l0 x16_1).f3) ((rd_T28 l0 x16_1).f4) _ _ l1 false _ ?s1 ?s2 ?s3 ?s4 A11.out).mono ?_); (case s1 => exact Kd.C_below HR270_1.out (bG_ GE271.out)); (case s2 => exact HC270_1.out); (case s3 => exact Kd.C_below HR1.out (bG_ GE271.out)); (case s4 => exact HC1.out); rintro e w21 ⟨rfl, hb⟩; refine ⟨_, rfl, ?_⟩; replace BK271 := A_ (blk_below (g := gb271) (o := .cells #[.int .i64 ((rd_T28 l0 x16_1).f0), .slice A270_1 ((rd_T28 l0 x16_1).f1).length c270_1, .bool ((rd_T28 l0 x16_1).f2), .bool ((rd_T28 l0 x16_1).f3), .int .i64 ((rd_T28 l0 x16_1).f4)] 28 (0, 0)) (by (with_reducible repeat (first | refine blk_drewN ?_ _ | refine blk_drew ?_ | refine blk_alloc ?_ _)); refine blk_put (cs := #[.int .i64 ((rd_T28 l0 x16_1).f0), .slice A270_1 ((rd_T28 l0 x16_1).f1).length c270_1, .bool ((rd_T28 l0 x16_1).f2), .bool ((rd_T28 l0 x16_1).f3), .int .i64 0]) ?_ 4 _ rfl; (with_reducible repeat (first | refine blk_drewN ?_ _ | refine blk_drew ?_ | refine blk_alloc ?_ _)); refine blk_put (cs := #[.int .i64 ((rd_T28 l0 x16_1).f0), .slice A270_1 ((rd_T28 l0 x16_1).f1).length c270_1, .bool ((rd_T28 l0 x16_1).f2), .bool false, .int .i64 0]) ?_ 3 _ rfl; (with_reducible repeat (first | refine blk_drewN ?_ _ | refine blk_drew ?_ | refine blk_alloc ?_ _)); refine blk_put (cs := #[.int .i64 ((rd_T28 l0 x16_1).f0), .slice A270_1 ((rd_T28 l0 x16_1).f1).length c270_1, .bool false, .bool false, .int .i64 0]) ?_ 2 _ rfl; (with_reducible repeat (first | refine blk_drewN ?_ _ | refine blk_drew ?_ | refine blk_alloc ?_ _)); refine blk_put (cs := #[.int .i64 ((rd_T28 l0 x16_1).f0), .slice none 0 0, .bool false, .bool false, .int .i64 0]) ?_ 1 _ rfl; (with_reducible repeat (first | refine blk_drewN ?_ _ | refine blk_drew ?_ | refine blk_alloc ?_ _)); refine blk_put (cs := #[.int .i64 0, .slice none 0 0, .bool false, .bool false, .int .i64 0]) ?_ 0 _ rfl; (with_reducible repeat (first | refine blk_drewN ?_ _ | refine blk_drew ?_ | refine blk_alloc ?_ _)); exact BK271.out) hb); replace HB := A_ (below_step (bG_ GE271.out) hb); (try clear hb)))
        go_meet
        case rel => exact ⟨_, (!false), rs_, H', ⟨by have := HK1.out; first | omega | exact Nat.le_refl _⟩, ⟨vb_ BK271.out⟩, ⟨bG_ GE271.out⟩⟩
   case rest =>
    clear HC8
    try clear c1
    try clear c2
    try clear p2
    try clear q2
    try clear hx2
    try clear c3
    try clear c5
    try clear c5b0
    try clear c6
    try clear c6b0
    try clear c7
    try clear c7b0
    try clear c12
    try clear c15
    try clear c20
    try clear hcz10_0
    try clear hcz10_1
    try clear hcz10_2
    try clear hcz10_3
    try clear hcz10_4
    try clear hcz13_0
    try clear hcz13_1
    try clear hcz13_2
    try clear hcz13_3
    try clear hcz13_4
    try clear hcz17_0
    try clear hcz17_1
    try clear hcz17_2
    try clear hcz17_3
    try clear hcz17_4
    try clear hcz19_0
    try clear hcz19_1
    try clear hcz19_2
    try clear hcz19_3
    try clear hcz19_4
    try clear hcz20_0
    try clear hcz20_1
    try clear hcz20_2
    try clear hcz20_3
    try clear hcz20_4
    try clear hfz10_0
    try clear hfz10_1
    try clear hfz10_2
    try clear hfz10_3
    try clear hfz10_4
    try clear hfz13_0
    try clear hfz13_1
    try clear hfz13_2
    try clear hfz13_3
    try clear hfz13_4
    try clear hfz17_0
    try clear hfz17_1
    try clear hfz17_2
    try clear hfz17_3
    try clear hfz17_4
    try clear hfz19_0
    try clear hfz19_1
    try clear hfz19_2
    try clear hfz19_3
    try clear hfz19_4
    try clear hfz20_0
    try clear hfz20_1
    try clear hfz20_2
    try clear hfz20_3
    try clear hfz20_4
    try clear hx270_0
    try clear hx270_1
    try clear hx270_2
    try clear hx270_3
    try clear hx270_4
    try clear p2
    try clear p270
    try clear q270
    obtain ⟨kq, x33_7, rfl, HA, HJ7, BK271, HB⟩ := hcut
    cases kq with
    | zero => exact absurd HA.out (by simp [impl_MayTurn.j1])
    | succ kj7 =>
     have H := HA.out
     clear HA
     simp only [impl_MayTurn.j1] at H
     by_cases c22 : x33_7 = true
     · subst c22
       rw [if_pos rfl] at H
       have H' := Aside0.mk H
       clear H
       go_wp2
       go_roundg kj7
       case measure => have := HK1.out; have := HJ7.out; omega
       case rel => exact ⟨(x9_1), (x10_1), (wrap64 (x16_1 + 1)), rs_, rs_, rs_, H', ⟨by have := HK1.out; have := HJ7.out; omega⟩, ⟨bG_ GE271.out⟩⟩
     · replace c22 := Bool.eq_false_iff.mpr c22
       subst c22
       rw [if_neg nf_] at H
       obtain ⟨t274, A23, H⟩ := bo_ H
       (try dsimp only at H)
       by_cases c24 : ((rd_T28 l0 x16_1).f3) = true
       · rw [if_pos c24] at H
         have c24b0 : ((rd_T28 l0 x16_1).f3) = true := c24
         clear c24
         by_cases c25 : x9_1 = true
         · subst c25
           rw [if_pos rfl] at H
           by_cases c26 : x10_1 = true
           · subst c26
             rw [if_pos rfl] at H
             have H' := Aside0.mk H
             clear H
             have hcz27_0 : wc.cell? ⟨gb271, 0, none⟩ = some (.int .i64 ((rd_T28 l0 x16_1).f0)) := (blk_cell BK271.out 0).trans rfl
             have hcz27_1 : wc.cell? ⟨gb271, 1, none⟩ = some (.slice A270_1 ((rd_T28 l0 x16_1).f1).length c270_1) := (blk_cell BK271.out 1).trans rfl
             have hcz27_2 : wc.cell? ⟨gb271, 2, none⟩ = some (.bool ((rd_T28 l0 x16_1).f2)) := (blk_cell BK271.out 2).trans rfl
             have hcz27_3 : wc.cell? ⟨gb271, 3, none⟩ = some (.bool ((rd_T28 l0 x16_1).f3)) := (blk_cell BK271.out 3).trans rfl
             have hcz27_4 : wc.cell? ⟨gb271, 4, none⟩ = some (.int .i64 ((rd_T28 l0 x16_1).f4)) := (blk_cell BK271.out 4).trans rfl
             have hfz27_0 := blk_frozen BK271.out 0
             have hfz27_1 := blk_frozen BK271.out 1
             have hfz27_2 := blk_frozen BK271.out 2
             have hfz27_3 := blk_frozen BK271.out 3
             have hfz27_4 := blk_frozen BK271.out 4
             go_wp2_with (first | ((with_reducible refine gate_callee (f := 67) rfl ?_); refine gL_ (some 37) Try.func67 #[.slice A3 l3.length c3, .int .i64 ((rd_T28 l0 x16_1).f0)] ?_; (with_reducible refine (impl_hasInt.calls kj7 _ _ l3 ((rd_T28 l0 x16_1).f0) t274 _ ?s1 ?s2 A23.out).mono ?_); (case s1 => exact cC_ (Kd.C_below HR3.out HB.out)); (case s2 => exact HC3.out); rintro e w' ⟨rfl, ⟨nd, rfl⟩⟩; refine ⟨_, rfl, ?_⟩))
             go_roundg kj7
             case measure => have := HK1.out; have := HJ7.out; omega
             case rel => exact ⟨(true), (true), (wrap64 (x16_1 + 1)), rs_, rs_, rs_, H', ⟨by have := HK1.out; have := HJ7.out; omega⟩, ⟨bG_ GE271.out⟩⟩
           · replace c26 := Bool.eq_false_iff.mpr c26
             subst c26
             rw [if_neg nf_] at H
             have H' := Aside0.mk H
             clear H
             have hcz28_0 : wc.cell? ⟨gb271, 0, none⟩ = some (.int .i64 ((rd_T28 l0 x16_1).f0)) := (blk_cell BK271.out 0).trans rfl
             have hcz28_1 : wc.cell? ⟨gb271, 1, none⟩ = some (.slice A270_1 ((rd_T28 l0 x16_1).f1).length c270_1) := (blk_cell BK271.out 1).trans rfl
             have hcz28_2 : wc.cell? ⟨gb271, 2, none⟩ = some (.bool ((rd_T28 l0 x16_1).f2)) := (blk_cell BK271.out 2).trans rfl
             have hcz28_3 : wc.cell? ⟨gb271, 3, none⟩ = some (.bool ((rd_T28 l0 x16_1).f3)) := (blk_cell BK271.out 3).trans rfl
             have hcz28_4 : wc.cell? ⟨gb271, 4, none⟩ = some (.int .i64 ((rd_T28 l0 x16_1).f4)) := (blk_cell BK271.out 4).trans rfl
             have hfz28_0 := blk_frozen BK271.out 0
             have hfz28_1 := blk_frozen BK271.out 1
             have hfz28_2 := blk_frozen BK271.out 2
             have hfz28_3 := blk_frozen BK271.out 3
             have hfz28_4 := blk_frozen BK271.out 4
             go_wp2_with (first | ((with_reducible refine gate_callee (f := 67) rfl ?_); refine gL_ (some 37) Try.func67 #[.slice A3 l3.length c3, .int .i64 ((rd_T28 l0 x16_1).f0)] ?_; (with_reducible refine (impl_hasInt.calls kj7 _ _ l3 ((rd_T28 l0 x16_1).f0) t274 _ ?s1 ?s2 A23.out).mono ?_); (case s1 => exact cC_ (Kd.C_below HR3.out HB.out)); (case s2 => exact HC3.out); rintro e w' ⟨rfl, ⟨nd, rfl⟩⟩; refine ⟨_, rfl, ?_⟩))
             go_roundg kj7
             case measure => have := HK1.out; have := HJ7.out; omega
             case rel => exact ⟨(true), (t274), (wrap64 (x16_1 + 1)), rs_, rs_, rs_, H', ⟨by have := HK1.out; have := HJ7.out; omega⟩, ⟨bG_ GE271.out⟩⟩
         · replace c25 := Bool.eq_false_iff.mpr c25
           subst c25
           rw [if_neg nf_] at H
           by_cases c29 : x10_1 = true
           · subst c29
             rw [if_pos rfl] at H
             have H' := Aside0.mk H
             clear H
             have hcz30_0 : wc.cell? ⟨gb271, 0, none⟩ = some (.int .i64 ((rd_T28 l0 x16_1).f0)) := (blk_cell BK271.out 0).trans rfl
             have hcz30_1 : wc.cell? ⟨gb271, 1, none⟩ = some (.slice A270_1 ((rd_T28 l0 x16_1).f1).length c270_1) := (blk_cell BK271.out 1).trans rfl
             have hcz30_2 : wc.cell? ⟨gb271, 2, none⟩ = some (.bool ((rd_T28 l0 x16_1).f2)) := (blk_cell BK271.out 2).trans rfl
             have hcz30_3 : wc.cell? ⟨gb271, 3, none⟩ = some (.bool ((rd_T28 l0 x16_1).f3)) := (blk_cell BK271.out 3).trans rfl
             have hcz30_4 : wc.cell? ⟨gb271, 4, none⟩ = some (.int .i64 ((rd_T28 l0 x16_1).f4)) := (blk_cell BK271.out 4).trans rfl
             have hfz30_0 := blk_frozen BK271.out 0
             have hfz30_1 := blk_frozen BK271.out 1
             have hfz30_2 := blk_frozen BK271.out 2
             have hfz30_3 := blk_frozen BK271.out 3
             have hfz30_4 := blk_frozen BK271.out 4
             go_wp2_with (first | ((with_reducible refine gate_callee (f := 67) rfl ?_); refine gL_ (some 37) Try.func67 #[.slice A3 l3.length c3, .int .i64 ((rd_T28 l0 x16_1).f0)] ?_; (with_reducible refine (impl_hasInt.calls kj7 _ _ l3 ((rd_T28 l0 x16_1).f0) t274 _ ?s1 ?s2 A23.out).mono ?_); (case s1 => exact cC_ (Kd.C_below HR3.out HB.out)); (case s2 => exact HC3.out); rintro e w' ⟨rfl, ⟨nd, rfl⟩⟩; refine ⟨_, rfl, ?_⟩))
             go_roundg kj7
             case measure => have := HK1.out; have := HJ7.out; omega
             case rel => exact ⟨(((rd_T28 l0 x16_1).f3)), (true), (wrap64 (x16_1 + 1)), rs_, rs_, rs_, H', ⟨by have := HK1.out; have := HJ7.out; omega⟩, ⟨bG_ GE271.out⟩⟩
           · replace c29 := Bool.eq_false_iff.mpr c29
             subst c29
             rw [if_neg nf_] at H
             have H' := Aside0.mk H
             clear H
             have hcz31_0 : wc.cell? ⟨gb271, 0, none⟩ = some (.int .i64 ((rd_T28 l0 x16_1).f0)) := (blk_cell BK271.out 0).trans rfl
             have hcz31_1 : wc.cell? ⟨gb271, 1, none⟩ = some (.slice A270_1 ((rd_T28 l0 x16_1).f1).length c270_1) := (blk_cell BK271.out 1).trans rfl
             have hcz31_2 : wc.cell? ⟨gb271, 2, none⟩ = some (.bool ((rd_T28 l0 x16_1).f2)) := (blk_cell BK271.out 2).trans rfl
             have hcz31_3 : wc.cell? ⟨gb271, 3, none⟩ = some (.bool ((rd_T28 l0 x16_1).f3)) := (blk_cell BK271.out 3).trans rfl
             have hcz31_4 : wc.cell? ⟨gb271, 4, none⟩ = some (.int .i64 ((rd_T28 l0 x16_1).f4)) := (blk_cell BK271.out 4).trans rfl
             have hfz31_0 := blk_frozen BK271.out 0
             have hfz31_1 := blk_frozen BK271.out 1
             have hfz31_2 := blk_frozen BK271.out 2
             have hfz31_3 := blk_frozen BK271.out 3
             have hfz31_4 := blk_frozen BK271.out 4
             go_wp2_with (first | ((with_reducible refine gate_callee (f := 67) rfl ?_); refine gL_ (some 37) Try.func67 #[.slice A3 l3.length c3, .int .i64 ((rd_T28 l0 x16_1).f0)] ?_; (with_reducible refine (impl_hasInt.calls kj7 _ _ l3 ((rd_T28 l0 x16_1).f0) t274 _ ?s1 ?s2 A23.out).mono ?_); (case s1 => exact cC_ (Kd.C_below HR3.out HB.out)); (case s2 => exact HC3.out); rintro e w' ⟨rfl, ⟨nd, rfl⟩⟩; refine ⟨_, rfl, ?_⟩))
             go_roundg kj7
             case measure => have := HK1.out; have := HJ7.out; omega
             case rel => exact ⟨(((rd_T28 l0 x16_1).f3)), (t274), (wrap64 (x16_1 + 1)), rs_, rs_, rs_, H', ⟨by have := HK1.out; have := HJ7.out; omega⟩, ⟨bG_ GE271.out⟩⟩
       rw [if_neg c24] at H
       have c24b0 : ((rd_T28 l0 x16_1).f3) = false := by simpa using c24
       clear c24
       by_cases c32 : t274 = true
       · subst c32
         rw [if_pos rfl] at H
         by_cases c33 : x9_1 = true
         · subst c33
           rw [if_pos rfl] at H
           by_cases c34 : x10_1 = true
           · subst c34
             rw [if_pos rfl] at H
             have H' := Aside0.mk H
             clear H
             have hcz35_0 : wc.cell? ⟨gb271, 0, none⟩ = some (.int .i64 ((rd_T28 l0 x16_1).f0)) := (blk_cell BK271.out 0).trans rfl
             have hcz35_1 : wc.cell? ⟨gb271, 1, none⟩ = some (.slice A270_1 ((rd_T28 l0 x16_1).f1).length c270_1) := (blk_cell BK271.out 1).trans rfl
             have hcz35_2 : wc.cell? ⟨gb271, 2, none⟩ = some (.bool ((rd_T28 l0 x16_1).f2)) := (blk_cell BK271.out 2).trans rfl
             have hcz35_3 : wc.cell? ⟨gb271, 3, none⟩ = some (.bool ((rd_T28 l0 x16_1).f3)) := (blk_cell BK271.out 3).trans rfl
             have hcz35_4 : wc.cell? ⟨gb271, 4, none⟩ = some (.int .i64 ((rd_T28 l0 x16_1).f4)) := (blk_cell BK271.out 4).trans rfl
             have hfz35_0 := blk_frozen BK271.out 0
             have hfz35_1 := blk_frozen BK271.out 1
             have hfz35_2 := blk_frozen BK271.out 2
             have hfz35_3 := blk_frozen BK271.out 3
             have hfz35_4 := blk_frozen BK271.out 4
             go_wp2_with (first | ((with_reducible refine gate_callee (f := 67) rfl ?_); refine gL_ (some 37) Try.func67 #[.slice A3 l3.length c3, .int .i64 ((rd_T28 l0 x16_1).f0)] ?_; (with_reducible refine (impl_hasInt.calls kj7 _ _ l3 ((rd_T28 l0 x16_1).f0) true _ ?s1 ?s2 A23.out).mono ?_); (case s1 => exact cC_ (Kd.C_below HR3.out HB.out)); (case s2 => exact HC3.out); rintro e w' ⟨rfl, ⟨nd, rfl⟩⟩; refine ⟨_, rfl, ?_⟩))
             go_roundg kj7
             case measure => have := HK1.out; have := HJ7.out; omega
             case rel => exact ⟨(true), (true), (wrap64 (x16_1 + 1)), rs_, rs_, rs_, H', ⟨by have := HK1.out; have := HJ7.out; omega⟩, ⟨bG_ GE271.out⟩⟩
           · replace c34 := Bool.eq_false_iff.mpr c34
             subst c34
             rw [if_neg nf_] at H
             have H' := Aside0.mk H
             clear H
             have hcz36_0 : wc.cell? ⟨gb271, 0, none⟩ = some (.int .i64 ((rd_T28 l0 x16_1).f0)) := (blk_cell BK271.out 0).trans rfl
             have hcz36_1 : wc.cell? ⟨gb271, 1, none⟩ = some (.slice A270_1 ((rd_T28 l0 x16_1).f1).length c270_1) := (blk_cell BK271.out 1).trans rfl
             have hcz36_2 : wc.cell? ⟨gb271, 2, none⟩ = some (.bool ((rd_T28 l0 x16_1).f2)) := (blk_cell BK271.out 2).trans rfl
             have hcz36_3 : wc.cell? ⟨gb271, 3, none⟩ = some (.bool ((rd_T28 l0 x16_1).f3)) := (blk_cell BK271.out 3).trans rfl
             have hcz36_4 : wc.cell? ⟨gb271, 4, none⟩ = some (.int .i64 ((rd_T28 l0 x16_1).f4)) := (blk_cell BK271.out 4).trans rfl
             have hfz36_0 := blk_frozen BK271.out 0
             have hfz36_1 := blk_frozen BK271.out 1
             have hfz36_2 := blk_frozen BK271.out 2
             have hfz36_3 := blk_frozen BK271.out 3
             have hfz36_4 := blk_frozen BK271.out 4
             go_wp2_with (first | ((with_reducible refine gate_callee (f := 67) rfl ?_); refine gL_ (some 37) Try.func67 #[.slice A3 l3.length c3, .int .i64 ((rd_T28 l0 x16_1).f0)] ?_; (with_reducible refine (impl_hasInt.calls kj7 _ _ l3 ((rd_T28 l0 x16_1).f0) true _ ?s1 ?s2 A23.out).mono ?_); (case s1 => exact cC_ (Kd.C_below HR3.out HB.out)); (case s2 => exact HC3.out); rintro e w' ⟨rfl, ⟨nd, rfl⟩⟩; refine ⟨_, rfl, ?_⟩))
             go_roundg kj7
             case measure => have := HK1.out; have := HJ7.out; omega
             case rel => exact ⟨(true), (false), (wrap64 (x16_1 + 1)), rs_, rs_, rs_, H', ⟨by have := HK1.out; have := HJ7.out; omega⟩, ⟨bG_ GE271.out⟩⟩
         · replace c33 := Bool.eq_false_iff.mpr c33
           subst c33
           rw [if_neg nf_] at H
           by_cases c37 : x10_1 = true
           · subst c37
             rw [if_pos rfl] at H
             have H' := Aside0.mk H
             clear H
             have hcz38_0 : wc.cell? ⟨gb271, 0, none⟩ = some (.int .i64 ((rd_T28 l0 x16_1).f0)) := (blk_cell BK271.out 0).trans rfl
             have hcz38_1 : wc.cell? ⟨gb271, 1, none⟩ = some (.slice A270_1 ((rd_T28 l0 x16_1).f1).length c270_1) := (blk_cell BK271.out 1).trans rfl
             have hcz38_2 : wc.cell? ⟨gb271, 2, none⟩ = some (.bool ((rd_T28 l0 x16_1).f2)) := (blk_cell BK271.out 2).trans rfl
             have hcz38_3 : wc.cell? ⟨gb271, 3, none⟩ = some (.bool ((rd_T28 l0 x16_1).f3)) := (blk_cell BK271.out 3).trans rfl
             have hcz38_4 : wc.cell? ⟨gb271, 4, none⟩ = some (.int .i64 ((rd_T28 l0 x16_1).f4)) := (blk_cell BK271.out 4).trans rfl
             have hfz38_0 := blk_frozen BK271.out 0
             have hfz38_1 := blk_frozen BK271.out 1
             have hfz38_2 := blk_frozen BK271.out 2
             have hfz38_3 := blk_frozen BK271.out 3
             have hfz38_4 := blk_frozen BK271.out 4
             go_wp2_with (first | ((with_reducible refine gate_callee (f := 67) rfl ?_); refine gL_ (some 37) Try.func67 #[.slice A3 l3.length c3, .int .i64 ((rd_T28 l0 x16_1).f0)] ?_; (with_reducible refine (impl_hasInt.calls kj7 _ _ l3 ((rd_T28 l0 x16_1).f0) true _ ?s1 ?s2 A23.out).mono ?_); (case s1 => exact cC_ (Kd.C_below HR3.out HB.out)); (case s2 => exact HC3.out); rintro e w' ⟨rfl, ⟨nd, rfl⟩⟩; refine ⟨_, rfl, ?_⟩))
             go_roundg kj7
             case measure => have := HK1.out; have := HJ7.out; omega
             case rel => exact ⟨(((rd_T28 l0 x16_1).f3)), (true), (wrap64 (x16_1 + 1)), rs_, rs_, rs_, H', ⟨by have := HK1.out; have := HJ7.out; omega⟩, ⟨bG_ GE271.out⟩⟩
           · replace c37 := Bool.eq_false_iff.mpr c37
             subst c37
             rw [if_neg nf_] at H
             have H' := Aside0.mk H
             clear H
             have hcz39_0 : wc.cell? ⟨gb271, 0, none⟩ = some (.int .i64 ((rd_T28 l0 x16_1).f0)) := (blk_cell BK271.out 0).trans rfl
             have hcz39_1 : wc.cell? ⟨gb271, 1, none⟩ = some (.slice A270_1 ((rd_T28 l0 x16_1).f1).length c270_1) := (blk_cell BK271.out 1).trans rfl
             have hcz39_2 : wc.cell? ⟨gb271, 2, none⟩ = some (.bool ((rd_T28 l0 x16_1).f2)) := (blk_cell BK271.out 2).trans rfl
             have hcz39_3 : wc.cell? ⟨gb271, 3, none⟩ = some (.bool ((rd_T28 l0 x16_1).f3)) := (blk_cell BK271.out 3).trans rfl
             have hcz39_4 : wc.cell? ⟨gb271, 4, none⟩ = some (.int .i64 ((rd_T28 l0 x16_1).f4)) := (blk_cell BK271.out 4).trans rfl
             have hfz39_0 := blk_frozen BK271.out 0
             have hfz39_1 := blk_frozen BK271.out 1
             have hfz39_2 := blk_frozen BK271.out 2
             have hfz39_3 := blk_frozen BK271.out 3
             have hfz39_4 := blk_frozen BK271.out 4
             go_wp2_with (first | ((with_reducible refine gate_callee (f := 67) rfl ?_); refine gL_ (some 37) Try.func67 #[.slice A3 l3.length c3, .int .i64 ((rd_T28 l0 x16_1).f0)] ?_; (with_reducible refine (impl_hasInt.calls kj7 _ _ l3 ((rd_T28 l0 x16_1).f0) true _ ?s1 ?s2 A23.out).mono ?_); (case s1 => exact cC_ (Kd.C_below HR3.out HB.out)); (case s2 => exact HC3.out); rintro e w' ⟨rfl, ⟨nd, rfl⟩⟩; refine ⟨_, rfl, ?_⟩))
             go_roundg kj7
             case measure => have := HK1.out; have := HJ7.out; omega
             case rel => exact ⟨(((rd_T28 l0 x16_1).f3)), (false), (wrap64 (x16_1 + 1)), rs_, rs_, rs_, H', ⟨by have := HK1.out; have := HJ7.out; omega⟩, ⟨bG_ GE271.out⟩⟩
       · replace c32 := Bool.eq_false_iff.mpr c32
         subst c32
         rw [if_neg nf_] at H
         obtain rfl := Option.some.inj H
         have hcz40_0 : wc.cell? ⟨gb271, 0, none⟩ = some (.int .i64 ((rd_T28 l0 x16_1).f0)) := (blk_cell BK271.out 0).trans rfl
         have hcz40_1 : wc.cell? ⟨gb271, 1, none⟩ = some (.slice A270_1 ((rd_T28 l0 x16_1).f1).length c270_1) := (blk_cell BK271.out 1).trans rfl
         have hcz40_2 : wc.cell? ⟨gb271, 2, none⟩ = some (.bool ((rd_T28 l0 x16_1).f2)) := (blk_cell BK271.out 2).trans rfl
         have hcz40_3 : wc.cell? ⟨gb271, 3, none⟩ = some (.bool ((rd_T28 l0 x16_1).f3)) := (blk_cell BK271.out 3).trans rfl
         have hcz40_4 : wc.cell? ⟨gb271, 4, none⟩ = some (.int .i64 ((rd_T28 l0 x16_1).f4)) := (blk_cell BK271.out 4).trans rfl
         have hfz40_0 := blk_frozen BK271.out 0
         have hfz40_1 := blk_frozen BK271.out 1
         have hfz40_2 := blk_frozen BK271.out 2
         have hfz40_3 := blk_frozen BK271.out 3
         have hfz40_4 := blk_frozen BK271.out 4
         go_wp2_with (first | ((with_reducible refine gate_callee (f := 67) rfl ?_); refine gL_ (some 37) Try.func67 #[.slice A3 l3.length c3, .int .i64 ((rd_T28 l0 x16_1).f0)] ?_; (with_reducible refine (impl_hasInt.calls kj7 _ _ l3 ((rd_T28 l0 x16_1).f0) false _ ?s1 ?s2 A23.out).mono ?_); (case s1 => exact cC_ (Kd.C_below HR3.out HB.out)); (case s2 => exact HC3.out); rintro e w' ⟨rfl, ⟨nd, rfl⟩⟩; refine ⟨_, rfl, ?_⟩))
         go_ret
         exact ⟨rr_, bG_ GE271.out⟩
end Go.Proofs.Ytiddgglidkbipaa.Q
