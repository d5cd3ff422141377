-- PRINTED by print.py (a twelfth state) out of the translation. Not trusted: Lean checks it.
import Derived.Test.YtbgggcgjijljkaaVFnPropsG22
import Derived.Test.YtbgggcgjijljkaaVFnPropsG25
import Derived.Test.YtbgggcgjijljkaaVFnPropsG23
import Derived.Test.YtbgggcgjijljkaaVFnPropsG24
import Derived.Test.YtbgggcgjijljkaaVFnPropsWWords
import Derived.Test.YtbgggcgjijljkaaVFnPropsWApart
import Derived.Deep.Slices
import Derived.WideShapes
import Derived.Laws.Strings
import Derived.Test.YtbgggcgjijljkaaVFnPropsWLast
import Derived.Test.YtbgggcgjijljkaaVFnPropsWMore
namespace Go.Proofs.Ytbgggcgjijljkaa.Q
open Go.RowKit Go.Proofs.YtbgggcgjijljkaaW.PrintWords Go.Proofs.YtbgggcgjijljkaaW.PrintLast Go.Proofs.YtbgggcgjijljkaaW.PrintMore
attribute [local go_sem] max2_int min2_int max_two min_two max_three min_three max_four min_four   -- for this text's walks alone
set_option linter.unusedVariables false
set_option linter.unusedSimpArgs false
mutual
def spec_NumText.j0 : Nat → Int → Option (ByteArray)
 | 0, _ => none
 | k + 1, x0 => spec_NumText.l0 k x0 (strOfNums (([(wrap64 (48 + (Int.tmod x0 10))) % 256] : List Int)))
def spec_NumText.l0 : Nat → Int → ByteArray → Option (ByteArray)
 | 0, _, _ => none
 | k + 1, x0, x3 => if x0 > 9 then ((some (([(wrap64 (48 + (Int.tmod (wrap64 (Int.tdiv x0 10)) 10))) % 256] : List Int) : List Int)).bind fun y1438 => (if (strOfNums y1438).size + x3.size ≤ 9223372036854775807 then (spec_NumText.l0 k (wrap64 (Int.tdiv x0 10)) ((strOfNums y1438) ++ x3)) else (none))) else (some x3)
end
def spec_NumText.f (k : Nat) (a0 : Int) : Option (ByteArray) := if a0 < 0 then (spec_NumText.j0 k 0) else (spec_NumText.j0 k a0)
set_option maxHeartbeats 8000000 in
set_option maxRecDepth 100000 in
theorem spec_NumText.calls (k : Nat) (a0 : Int) (r : ByteArray) (w : World) (h : spec_NumText.f k a0 = some r) :
 Calls Try.prog 122 #[.int .i64 a0] w fun e w' => e = .returned (.string r) ∧ Below w.heap.size w w' := by
 have HB := A_ (Below.refl w.heap.size w)
 have H : (if a0 < 0 then (spec_NumText.j0 k 0) else (spec_NumText.j0 k a0)) = some r := h
 clear h
 have HC2 := Aside0.mk H
 clear H
 go_enter Try.func122, Try.ntmps122
 go_upto_if 5 with (fail)
 go_cut [0] (fun v0 wc => ∃ (kq : Nat) (x0_1 : Int), v0 = .int .i64 x0_1 ∧ Aside0 (spec_NumText.j0 kq x0_1 = some r) ∧ Aside0 (kq ≤ k) ∧ Aside0 (Below w.heap.size w wc))
 case first =>
  have H := HC2.out
  clear HC2
  by_cases c3 : a0 < 0
  · rw [if_pos c3] at H
    have c3b0 : decide (a0 < 0) = true := decide_eq_true c3
    clear c3
    (first | rw [c3b0] | (simp only [i64_w, i32_w]; rw [c3b0]) | skip)
    have H' := Aside0.mk H
    clear H
    go_wp2
    go_meet
    case rel => exact ⟨_, (0), rs_, H', ⟨by first | omega | exact Nat.le_refl _⟩, ⟨bB_⟩⟩
  rw [if_neg c3] at H
  have c3b0 : decide (a0 < 0) = false := decide_eq_false c3
  clear c3
  (first | rw [c3b0] | (simp only [i64_w, i32_w]; rw [c3b0]) | skip)
  have H' := Aside0.mk H
  clear H
  go_wp2
  go_meet
  case rel => exact ⟨_, (a0), rs_, H', ⟨by first | omega | exact Nat.le_refl _⟩, ⟨bB_⟩⟩
 case rest =>
  clear HC2
  try clear c1
  try clear p2
  try clear c3
  try clear c3b0
  obtain ⟨kq, x0_1, rfl, HA, HJ1, HB⟩ := hcut
  cases kq with
  | zero => exact absurd HA.out (by simp [spec_NumText.j0])
  | succ kj1 =>
   have H := HA.out
   clear HA
   simp only [spec_NumText.j0] at H
   obtain ⟨y1435, hy1435⟩ : ∃ y_ : List Int, y_ = (([(wrap64 (48 + (Int.tmod x0_1 10))) % 256] : List Int)) := ⟨_, rfl⟩
   replace H : (spec_NumText.l0 kj1 x0_1 (strOfNums y1435)) = some r := hy_ hy1435 H
   have Ny1435 := Aside0.mk hy1435
   clear hy1435
   have H' := Aside0.mk H
   clear H
   go_wp2_with (first | ((with_reducible refine gate_dst (N := 10) rfl ?_); refine Kd.R_lit (Kd.int .u8) _ 5 ?hg (N := 10) ?hd (xs := ([(wrap64 (48 + (Int.tmod x0_1 10))) % 256] : List Int)) (inner := [.int .u8 ((wrap64 (48 + (Int.tmod x0_1 10))) % 256)]) (ok := fun _ => True) (okp := fun _ => True) ?hr ?hp (fun _ hk => hk) trivial (Below.refl _ _) (Nat.le_refl _) (by simp) ?_; (case hd => rfl); (case hg => rfl); (case hr => first | (go_simp; done) | (go_simp; rfl)); (case hp => exact (Reps.one (show Kd.M (Kd.int .u8) _ _ _ ((wrap64 (48 + (Int.tmod x0_1 10))) % 256) [.int .u8 ((wrap64 (48 + (Int.tmod x0_1 10))) % 256)] from rfl) (Reps.none _ _))); intro v1436 w4 ho5 hb hg_ hnew_; clear hg_ hnew_; (first | rw [← Ny1435.out] at ho5 | (simp only [Int.reduceToNat] at ho5; rw [← Ny1435.out] at ho5)); have HO1437 := A_ (Kd.R_lower ho5 (below_size bB_)); replace HB := A_ (below_step bB_ hb); clear hb ho5; have hcv6 := own_string (P := Try.prog) Try.underlying49 Try.underlying5 Try.underlying9 (Kd.own_of_R HO1437.out)))
   go_loopg [0, 3] kj1 (fun kq v0 v3 w' => ∃ (x0_2 : Int) (x3_2 : ByteArray), v0 = .int .i64 x0_2 ∧ v3 = .string x3_2 ∧ Aside0 (spec_NumText.l0 kq x0_2 x3_2 = some r) ∧ Aside0 (kq ≤ kj1) ∧ Aside0 (Below w.heap.size w w'))
   case atStart => exact ⟨(x0_1), (strOfNums y1435), rs_, rs_, H', ⟨Nat.le_refl _⟩, ⟨bB_⟩⟩
   case round =>
    clear H'
    try clear c1
    try clear p2
    try clear c3
    try clear c3b0
    try clear p6
    try clear hcv6
    try clear p2
    obtain ⟨x0_2, x3_2, rfl, rfl, HA, HK2, HB⟩ := hrel
    cases gk with
    | zero => exact absurd HA.out (by simp [spec_NumText.l0])
    | succ k2 =>
     have H := HA.out
     clear HA
     simp only [spec_NumText.l0] at H
     by_cases c7 : x0_2 > 9
     rotate_left
     · rw [if_neg c7] at H
       have c7b0 : decide (9 < x0_2) = false := decide_eq_false c7
       clear c7
       obtain rfl := Option.some.inj H
       go_wp2
       go_ret
       exact ⟨rr_, bB_⟩
     rw [if_pos c7] at H
     have c7b0 : decide (9 < x0_2) = true := decide_eq_true c7
     clear c7
     obtain ⟨y1438, hy1438⟩ : ∃ y_ : List Int, y_ = (([(wrap64 (48 + (Int.tmod (wrap64 (Int.tdiv x0_2 10)) 10))) % 256] : List Int)) := ⟨_, rfl⟩
     replace H : (if (strOfNums y1438).size + x3_2.size ≤ 9223372036854775807 then (spec_NumText.l0 k2 (wrap64 (Int.tdiv x0_2 10)) ((strOfNums y1438) ++ x3_2)) else (none)) = some r := hy_ hy1438 H
     have Ny1438 := Aside0.mk hy1438
     clear hy1438
     by_cases c8 : (strOfNums y1438).size + x3_2.size ≤ 9223372036854775807
     rotate_left
     · exact absurd H (by rw [if_neg c8]; simp)
     rw [if_pos c8] at H
     have c8b0 := eq_true c8
     have c8b1 : decide ((strOfNums y1438).size + x3_2.size ≤ 9223372036854775807) = true := decide_eq_true c8
     try have c8b2 : (9223372036854775807 < (strOfNums y1438).size + x3_2.size) = False := eq_false (Nat.not_lt.2 c8)
     have H' := Aside0.mk H
     clear H
     go_wp2_with (first | ((with_reducible refine gate_dst (N := 20) rfl ?_); refine Kd.R_lit (Kd.int .u8) _ 5 ?hg (N := 20) ?hd (xs := ([(wrap64 (48 + (Int.tmod (wrap64 (Int.tdiv x0_2 10)) 10))) % 256] : List Int)) (inner := [.int .u8 ((wrap64 (48 + (Int.tmod (wrap64 (Int.tdiv x0_2 10)) 10))) % 256)]) (ok := fun _ => True) (okp := fun _ => True) ?hr ?hp (fun _ hk => hk) trivial (Below.refl _ _) (Nat.le_refl _) (by simp) ?_; (case hd => rfl); (case hg => rfl); (case hr => first | (go_simp; done) | (go_simp; rfl)); (case hp => exact (Reps.one (show Kd.M (Kd.int .u8) _ _ _ ((wrap64 (48 + (Int.tmod (wrap64 (Int.tdiv x0_2 10)) 10))) % 256) [.int .u8 ((wrap64 (48 + (Int.tmod (wrap64 (Int.tdiv x0_2 10)) 10))) % 256)] from rfl) (Reps.none _ _))); intro v1439 w9 ho10 hb hg_ hnew_; clear hg_ hnew_; (first | rw [← Ny1438.out] at ho10 | (simp only [Int.reduceToNat] at ho10; rw [← Ny1438.out] at ho10)); have HO1440 := A_ (Kd.R_lower ho10 (below_size bB_)); replace HB := A_ (below_step bB_ hb); clear hb ho10; have hcv11 := own_string (P := Try.prog) Try.underlying49 Try.underlying5 Try.underlying9 (Kd.own_of_R HO1440.out)))
     go_roundg k2
     case measure => have := HJ1.out; have := HK2.out; omega
     case rel => exact ⟨(wrap64 (Int.tdiv x0_2 10)), ((strOfNums y1438) ++ x3_2), rs_, rs_, H', ⟨by have := HJ1.out; have := HK2.out; omega⟩, ⟨bB_⟩⟩
def spec_l12Any.l0 : Nat → List (S74) → Int → List Int → Int → Int → Option ((List (S74)) × Int × Int)
 | 0, _, _, _, _, _ => none
 | k + 1, x3, x4, x1000, x1001, x1002 => if x4 < 5 then ((spec_NumText.f k x4).bind fun t1473 => (if 1 + t1473.size ≤ 9223372036854775807 then (if x3.length < 2513169434916 then (spec_l12Any.l0 k (x3 ++ [(⟨false, (⟨(⟨#[]⟩ : ByteArray), (⟨#[110]⟩ : ByteArray) ++ t1473, (⟨#[]⟩ : ByteArray)⟩ : S72)⟩ : S74)]) (wrap64 (x4 + 1)) x1000 x1001 x1002) else (none)) else (none))) else (some (x3, x1001, x1002))
def spec_l12Any.f (k : Nat) (s0_0 : List Int) (s0_1 : Int) (s0_2 : Int) : Option ((List (S74)) × Int × Int) := (spec_l12Sets.f k s0_0 s0_1 s0_2).bind fun bt1441 => ((spec_l1Below.f s0_0 bt1441.2.1 bt1441.2.2 6).bind fun bt1446 => (if bt1446.1 = 0 then ((spec_l1Once.f s0_0 bt1446.2.1 bt1446.2.2 2).bind fun bt1449 => ((spec_l1Str.f s0_0 bt1449.2.1 bt1449.2.2 (([(⟨#[122]⟩ : ByteArray), (⟨#[1]⟩ : ByteArray)] : List ByteArray))).bind fun bt1455 => ((spec_l1Str.f s0_0 bt1455.2.1 bt1455.2.2 (([(⟨#[97]⟩ : ByteArray), (⟨#[65]⟩ : ByteArray)] : List ByteArray))).bind fun bt1461 => ((spec_l1Str.f s0_0 bt1461.2.1 bt1461.2.2 (([(⟨#[120]⟩ : ByteArray), (⟨#[116, 119, 101, 110, 116, 121, 45, 111, 110, 101, 45, 98, 121, 116, 101, 115, 45, 116, 101, 120, 116]⟩ : ByteArray)] : List ByteArray))).bind fun bt1467 => (if bt1441.1.length < 2513169434916 then (some ((bt1441.1 ++ [(⟨bt1449.1, (⟨bt1455.1, bt1461.1, bt1467.1⟩ : S72)⟩ : S74)]), bt1467.2.1, bt1467.2.2)) else (none)))))) else (if bt1446.1 = 1 then (spec_l12Any.l0 k bt1441.1 0 s0_0 bt1446.2.1 bt1446.2.2) else (some (bt1441.1, bt1446.2.1, bt1446.2.2)))))
def spec_DrawSetProps.f (k : Nat) (l0 : List Int) : Option ((List (S72)) × (List (S74))) := (spec_DrawPropsOk.f k l0).bind fun t1477 => ((spec_l1New.f k l0).bind fun bt1480 => ((spec_l12Any.f k bt1480.1 bt1480.2.1 bt1480.2.2).bind fun bt1484 => (some (t1477, bt1484.1))))
def spec_DrawPropOf.f (k : Nat) (l0 : List Int) : Option ((List (S72)) × ByteArray × ByteArray) := (spec_l1New.f k l0).bind fun bt1489 => ((spec_l10Props.f k bt1489.1 bt1489.2.1 bt1489.2.2).bind fun bt1493 => ((spec_l1Str.f bt1489.1 bt1493.2.1 bt1493.2.2 (([(⟨#[68, 65, 86, 58]⟩ : ByteArray), (⟨#[117, 58, 120]⟩ : ByteArray), (⟨#[]⟩ : ByteArray)] : List ByteArray))).bind fun bt1501 => ((spec_l1Str.f bt1489.1 bt1501.2.1 bt1501.2.2 (([(⟨#[97]⟩ : ByteArray), (⟨#[99, 111, 108, 111, 114]⟩ : ByteArray), (⟨#[98]⟩ : ByteArray)] : List ByteArray))).bind fun bt1507 => (some (bt1493.1, bt1501.1, bt1507.1)))))
set_option maxHeartbeats 8000000 in
set_option maxRecDepth 100000 in
theorem spec_DrawPropOf.calls (k : Nat) (A0 : Option Addr) (c0 : Nat) (l0 : List Int) (r1 : List (S72)) (r2 : ByteArray) (r3 : ByteArray) (w : World) (hr0 : Kd.C (Kd.int .u8) w A0 l0.length l0) (hc0 : l0.length ≤ c0) (h : spec_DrawPropOf.f k l0 = some (r1, r2, r3)) :
 Calls Try.prog 55 #[.slice A0 l0.length c0] w fun e w' => ∃ v0_ : Value, e = .returned (.tuple #[v0_, .string r2, .string r3]) ∧ Kd.R k72 72 w' w.heap.size (fun _ => True) v0_ r1 ∧ Below w.heap.size w w' := by
 have HR0 := Aside0.mk hr0
 have HC0 := Aside0.mk hc0
 clear hr0 hc0
 have HB := A_ (Below.refl w.heap.size w)
 have H : ((spec_l1New.f k l0).bind fun bt1489 => ((spec_l10Props.f k bt1489.1 bt1489.2.1 bt1489.2.2).bind fun bt1493 => ((spec_l1Str.f bt1489.1 bt1493.2.1 bt1493.2.2 (([(⟨#[68, 65, 86, 58]⟩ : ByteArray), (⟨#[117, 58, 120]⟩ : ByteArray), (⟨#[]⟩ : ByteArray)] : List ByteArray))).bind fun bt1501 => ((spec_l1Str.f bt1489.1 bt1501.2.1 bt1501.2.2 (([(⟨#[97]⟩ : ByteArray), (⟨#[99, 111, 108, 111, 114]⟩ : ByteArray), (⟨#[98]⟩ : ByteArray)] : List ByteArray))).bind fun bt1507 => (some (bt1493.1, bt1501.1, bt1507.1)))))) = some (r1, r2, r3) := h
 clear h
 obtain ⟨⟨t1489, t1490, t1491⟩, A2, H⟩ := bo_ H
 (try dsimp only at H)
 obtain ⟨⟨t1493, t1496, t1497⟩, A3, H⟩ := bo_ H
 (try dsimp only at H)
 obtain ⟨y1498, hy1498⟩ : ∃ y_ : List ByteArray, y_ = (([(⟨#[68, 65, 86, 58]⟩ : ByteArray), (⟨#[117, 58, 120]⟩ : ByteArray), (⟨#[]⟩ : ByteArray)] : List ByteArray)) := ⟨_, rfl⟩
 replace H : ((spec_l1Str.f t1489 t1496 t1497 y1498).bind fun bt1501 => ((spec_l1Str.f t1489 bt1501.2.1 bt1501.2.2 (([(⟨#[97]⟩ : ByteArray), (⟨#[99, 111, 108, 111, 114]⟩ : ByteArray), (⟨#[98]⟩ : ByteArray)] : List ByteArray))).bind fun bt1507 => (some (t1493, bt1501.1, bt1507.1)))) = some (r1, r2, r3) := hy_ hy1498 H
 have Ny1498 := Aside0.mk hy1498
 clear hy1498
 obtain ⟨⟨t1501, t1502, t1503⟩, A4, H⟩ := bo_ H
 (try dsimp only at H)
 obtain ⟨y1504, hy1504⟩ : ∃ y_ : List ByteArray, y_ = (([(⟨#[97]⟩ : ByteArray), (⟨#[99, 111, 108, 111, 114]⟩ : ByteArray), (⟨#[98]⟩ : ByteArray)] : List ByteArray)) := ⟨_, rfl⟩
 replace H : ((spec_l1Str.f t1489 t1502 t1503 y1504).bind fun bt1507 => (some (t1493, t1501, bt1507.1))) = some (r1, r2, r3) := hy_ hy1504 H
 have Ny1504 := Aside0.mk hy1504
 clear hy1504
 obtain ⟨⟨t1507, t1508, t1509⟩, A5, H⟩ := bo_ H
 (try dsimp only at H)
 simp only [Option.some.injEq, Prod.mk.injEq] at H
 obtain ⟨rfl, rfl, rfl⟩ := H
 go_enter Try.func55, Try.ntmps55
 go_wp2_with (first | ((with_reducible refine gate_callee (f := 84) rfl ?_); refine gL_ (some 7) Try.func84 #[.slice A0 l0.length c0] ?_; (with_reducible refine (spec_l1New.calls k _ _ l0 t1489 t1490 t1491 w _ ?s1 ?s2 ?s3 A2.out).mono ?_); (case s1 => repeat (first | (with_reducible first | exact HB.out | apply below_alloc | apply pw_below_drewN | apply below_drew1) | exact HB.out)); (case s2 => exact HR0.out); (case s3 => exact HC0.out); rintro e w6 ⟨g1492, rfl, hi, hb, hb2⟩; refine ⟨_, rfl, ?_⟩; replace HB := A_ (hb); have HI1492 := A_ (hi); (try clear hb); (try clear hb2); (try clear hk); (try clear hi)) | ((with_reducible refine gate_callee (f := 98) rfl ?_); refine gL_ (some 9) Try.func98 #[.pointer (some ⟨g1492, 0, none⟩)] ?_; (with_reducible refine (spec_l10Props.calls k g1492 t1489 t1490 t1491 t1493 t1496 t1497 w _ ?s1 ?s2 A3.out).mono ?_); (case s1 => repeat (first | (with_reducible first | exact HI1492.out | apply IsS116.alloc | apply IsS116.drewN | apply IsS116.drew | apply IsS116.set_1 | apply IsS116.set_2) | exact HI1492.out)); (case s2 => repeat (first | (with_reducible first | exact HB.out | apply below_alloc | apply pw_below_drewN | apply below_drew1 | refine below_set ?_ (IsS116.ge HI1492.out)) | exact HB.out)); rintro e w7 ⟨v1494, rfl, ho0, hi, hb, hk⟩; refine ⟨_, rfl, ?_⟩; have HO1495 := A_ (Kd.R_lower ho0 (below_size (by repeat (first | (with_reducible first | exact HB.out | apply below_alloc | apply pw_below_drewN | apply below_drew1 | refine below_set ?_ (IsS116.ge HI1492.out)) | exact HB.out)))); replace HB := A_ (hb); replace HI1492 := A_ (hi); (try clear hb); (try clear hb2); (try clear hk); (try clear hi); (try clear ho0)) | ((with_reducible refine gate_dst (N := 11) rfl ?_); refine Kd.R_lit Kd.string _ 9 ?hg (N := 11) ?hd (xs := ([(⟨#[68, 65, 86, 58]⟩ : ByteArray), (⟨#[117, 58, 120]⟩ : ByteArray), (⟨#[]⟩ : ByteArray)] : List ByteArray)) (inner := [.string (⟨#[68, 65, 86, 58]⟩ : ByteArray), .string (⟨#[117, 58, 120]⟩ : ByteArray), .string (⟨#[]⟩ : ByteArray)]) (ok := fun _ => True) (okp := fun _ => True) ?hr ?hp (fun _ hk => hk) trivial (Below.refl _ _) (Nat.le_refl _) (by simp) ?_; (case hd => rfl); (case hg => rfl); (case hr => first | (go_simp; done) | (go_simp; rfl)); (case hp => exact (Reps.one (show Kd.M Kd.string _ _ _ (⟨#[68, 65, 86, 58]⟩ : ByteArray) [.string (⟨#[68, 65, 86, 58]⟩ : ByteArray)] from rfl) (Reps.one (show Kd.M Kd.string _ _ _ (⟨#[117, 58, 120]⟩ : ByteArray) [.string (⟨#[117, 58, 120]⟩ : ByteArray)] from rfl) (Reps.one (show Kd.M Kd.string _ _ _ (⟨#[]⟩ : ByteArray) [.string (⟨#[]⟩ : ByteArray)] from rfl) (Reps.none _ _))))); intro v1499 w8 ho9 hb hg_ hnew_; clear hg_ hnew_; (first | rw [← Ny1498.out] at ho9 | (simp only [Int.reduceToNat] at ho9; rw [← Ny1498.out] at ho9)); replace HO1495 := A_ (Kd.R_below (vR_ HO1495.out) hb); have HO1500 := A_ (Kd.R_lower ho9 (below_size (by repeat (first | (with_reducible first | exact HB.out | apply below_alloc | apply pw_below_drewN | apply below_drew1 | refine below_set ?_ (IsS116.ge HI1492.out)) | exact HB.out)))); replace HB := A_ (below_step (by repeat (first | (with_reducible first | exact HB.out | apply below_alloc | apply pw_below_drewN | apply below_drew1 | refine below_set ?_ (IsS116.ge HI1492.out)) | exact HB.out)) hb); replace HI1492 := A_ (IsS116.below (by repeat (first | (with_reducible first | exact HI1492.out | apply IsS116.alloc | apply IsS116.drewN | apply IsS116.drew | apply IsS116.set_1 | apply IsS116.set_2) | exact HI1492.out)) hb); clear hb ho9; obtain ⟨Ao10, co10, eo10⟩ := Kd.R_slice HO1500.out; subst eo10) | ((with_reducible refine gate_callee (f := 99) rfl ?_); refine gL_ (some 12) Try.func99 #[.pointer (some ⟨g1492, 0, none⟩), .slice Ao10 y1498.length co10] ?_; (with_reducible refine (spec_l1Str.calls g1492 t1489 t1496 t1497 _ _ y1498 t1501 t1502 t1503 w _ ?s1 ?s2 ?s3 ?s4 ?s5 A4.out).mono ?_); (case s1 => repeat (first | (with_reducible first | exact HI1492.out | apply IsS116.alloc | apply IsS116.drewN | apply IsS116.drew | apply IsS116.set_1 | apply IsS116.set_2) | exact HI1492.out)); (case s2 => repeat (first | (with_reducible first | exact HB.out | apply below_alloc | apply pw_below_drewN | apply below_drew1 | refine below_set ?_ (IsS116.ge HI1492.out)) | exact HB.out)); (case s3 => exact cC_ (Kd.R_reads' HO1500.out).2.2); (case s4 => exact (Kd.R_reads' HO1500.out).2.1); (case s5 => exact far_slice (IsS116.own_ne HI1492.out HO1500.out (by decide))); rintro e w11 ⟨rfl, hi, hb, hk⟩; refine ⟨_, rfl, ?_⟩; replace HO1495 := A_ (Kd.R_mono (Kd.R_keep (IsS116.apart (show IsS116 w _ g1492 t1489 t1496 t1497 from by repeat (first | (with_reducible first | exact HI1492.out | apply IsS116.alloc | apply IsS116.drewN | apply IsS116.drew | apply IsS116.set_1 | apply IsS116.set_2) | exact HI1492.out)) (vR_ HO1495.out) (by decide)) hk (fun _ h => h.2)) (fun _ h => h.1)); replace HO1500 := A_ (Kd.R_mono (Kd.R_keep (IsS116.apart (show IsS116 w _ g1492 t1489 t1496 t1497 from by repeat (first | (with_reducible first | exact HI1492.out | apply IsS116.alloc | apply IsS116.drewN | apply IsS116.drew | apply IsS116.set_1 | apply IsS116.set_2) | exact HI1492.out)) (vR_ HO1500.out) (by decide)) hk (fun _ h => h.2)) (fun _ h => h.1)); replace HB := A_ (hb); replace HI1492 := A_ (hi); (try clear hb); (try clear hb2); (try clear hk); (try clear hi)) | ((with_reducible refine gate_dst (N := 14) rfl ?_); refine Kd.R_lit Kd.string _ 9 ?hg (N := 14) ?hd (xs := ([(⟨#[97]⟩ : ByteArray), (⟨#[99, 111, 108, 111, 114]⟩ : ByteArray), (⟨#[98]⟩ : ByteArray)] : List ByteArray)) (inner := [.string (⟨#[97]⟩ : ByteArray), .string (⟨#[99, 111, 108, 111, 114]⟩ : ByteArray), .string (⟨#[98]⟩ : ByteArray)]) (ok := fun _ => True) (okp := fun _ => True) ?hr ?hp (fun _ hk => hk) trivial (Below.refl _ _) (Nat.le_refl _) (by simp) ?_; (case hd => rfl); (case hg => rfl); (case hr => first | (go_simp; done) | (go_simp; rfl)); (case hp => exact (Reps.one (show Kd.M Kd.string _ _ _ (⟨#[97]⟩ : ByteArray) [.string (⟨#[97]⟩ : ByteArray)] from rfl) (Reps.one (show Kd.M Kd.string _ _ _ (⟨#[99, 111, 108, 111, 114]⟩ : ByteArray) [.string (⟨#[99, 111, 108, 111, 114]⟩ : ByteArray)] from rfl) (Reps.one (show Kd.M Kd.string _ _ _ (⟨#[98]⟩ : ByteArray) [.string (⟨#[98]⟩ : ByteArray)] from rfl) (Reps.none _ _))))); intro v1505 w12 ho13 hb hg_ hnew_; clear hg_ hnew_; (first | rw [← Ny1504.out] at ho13 | (simp only [Int.reduceToNat] at ho13; rw [← Ny1504.out] at ho13)); replace HO1495 := A_ (Kd.R_below (vR_ HO1495.out) hb); have HO1506 := A_ (Kd.R_lower (Kd.R_new' ho13 (Kd.R_lt (vR_ HO1500.out))) (below_size (by repeat (first | (with_reducible first | exact HB.out | apply below_alloc | apply pw_below_drewN | apply below_drew1 | refine below_set ?_ (IsS116.ge HI1492.out)) | exact HB.out)))); replace HO1500 := A_ (Kd.R_elder' (vR_ HO1500.out) (kb_ ho13) hb); replace HB := A_ (below_step (by repeat (first | (with_reducible first | exact HB.out | apply below_alloc | apply pw_below_drewN | apply below_drew1 | refine below_set ?_ (IsS116.ge HI1492.out)) | exact HB.out)) hb); replace HI1492 := A_ (IsS116.below (by repeat (first | (with_reducible first | exact HI1492.out | apply IsS116.alloc | apply IsS116.drewN | apply IsS116.drew | apply IsS116.set_1 | apply IsS116.set_2) | exact HI1492.out)) hb); clear hb ho13; obtain ⟨Ao14, co14, eo14⟩ := Kd.R_slice HO1506.out; subst eo14) | ((with_reducible refine gate_callee (f := 99) rfl ?_); refine gL_ (some 15) Try.func99 #[.pointer (some ⟨g1492, 0, none⟩), .slice Ao14 y1504.length co14] ?_; (with_reducible refine (spec_l1Str.calls g1492 t1489 t1502 t1503 _ _ y1504 t1507 t1508 t1509 w _ ?s1 ?s2 ?s3 ?s4 ?s5 A5.out).mono ?_); (case s1 => repeat (first | (with_reducible first | exact HI1492.out | apply IsS116.alloc | apply IsS116.drewN | apply IsS116.drew | apply IsS116.set_1 | apply IsS116.set_2) | exact HI1492.out)); (case s2 => repeat (first | (with_reducible first | exact HB.out | apply below_alloc | apply pw_below_drewN | apply below_drew1 | refine below_set ?_ (IsS116.ge HI1492.out)) | exact HB.out)); (case s3 => exact cC_ (Kd.R_reads' HO1506.out).2.2); (case s4 => exact (Kd.R_reads' HO1506.out).2.1); (case s5 => exact far_slice (IsS116.own_ne HI1492.out HO1506.out (by decide))); rintro e w15 ⟨rfl, hi, hb, hk⟩; refine ⟨_, rfl, ?_⟩; replace HO1495 := A_ (Kd.R_mono (Kd.R_keep (IsS116.apart (show IsS116 w _ g1492 t1489 t1502 t1503 from by repeat (first | (with_reducible first | exact HI1492.out | apply IsS116.alloc | apply IsS116.drewN | apply IsS116.drew | apply IsS116.set_1 | apply IsS116.set_2) | exact HI1492.out)) (vR_ HO1495.out) (by decide)) hk (fun _ h => h.2)) (fun _ h => h.1)); replace HO1500 := A_ (Kd.R_mono (Kd.R_keep (IsS116.apart (show IsS116 w _ g1492 t1489 t1502 t1503 from by repeat (first | (with_reducible first | exact HI1492.out | apply IsS116.alloc | apply IsS116.drewN | apply IsS116.drew | apply IsS116.set_1 | apply IsS116.set_2) | exact HI1492.out)) (vR_ HO1500.out) (by decide)) hk (fun _ h => h.2)) (fun _ h => h.1)); replace HO1506 := A_ (Kd.R_mono (Kd.R_keep (IsS116.apart (show IsS116 w _ g1492 t1489 t1502 t1503 from by repeat (first | (with_reducible first | exact HI1492.out | apply IsS116.alloc | apply IsS116.drewN | apply IsS116.drew | apply IsS116.set_1 | apply IsS116.set_2) | exact HI1492.out)) (vR_ HO1506.out) (by decide)) hk (fun _ h => h.2)) (fun _ h => h.1)); replace HB := A_ (hb); replace HI1492 := A_ (hi); (try clear hb); (try clear hb2); (try clear hk); (try clear hi)))
 go_ret3
 exact ⟨_, rr_, by (with_reducible repeat (first | apply Kd.R_alloc | apply Kd.R_drewN | apply Kd.R_drew)); exact HO1495.out, by repeat (first | (with_reducible first | exact HB.out | apply below_alloc | apply pw_below_drewN | apply below_drew1 | refine below_set ?_ (IsS116.ge HI1492.out)) | exact HB.out)⟩
def impl_PropOf.l0 : Nat → ByteArray → ByteArray → List (S72) → Int → Int → Option (ByteArray × Bool)
 | 0, _, _, _, _, _ => none
 | k + 1, x1, x2, x10, x11, x12 => if x12 < x11 then (if 0 ≤ x12 then (if x12 < (x10.length : Int) then (if ((rd_T72 x10 x12).f0).toList = x1.toList then (if ((rd_T72 x10 x12).f1).toList = x2.toList then (some ((rd_T72 x10 x12).f2, true)) else (impl_PropOf.l0 k x1 x2 x10 x11 (wrap64 (x12 + 1)))) else (impl_PropOf.l0 k x1 x2 x10 x11 (wrap64 (x12 + 1)))) else (none)) else (none)) else (some ((⟨#[]⟩ : ByteArray), false))
def impl_PropOf.f (k : Nat) (l0 : List (S72)) (a1 : ByteArray) (a2 : ByteArray) : Option (ByteArray × Bool) := impl_PropOf.l0 k a1 a2 l0 (l0.length : Int) 0
set_option maxHeartbeats 8000000 in
set_option maxRecDepth 100000 in
theorem impl_PropOf.calls (k : Nat) (A0 : Option Addr) (c0 : Nat) (l0 : List (S72)) (a1 : ByteArray) (a2 : ByteArray) (r1 : ByteArray) (r2 : Bool) (w : World) (hr0 : Kd.C k72 w A0 l0.length l0) (hc0 : l0.length ≤ c0) (h : impl_PropOf.f k l0 a1 a2 = some (r1, r2)) :
 Calls Try.prog 56 #[.slice A0 l0.length c0, .string a1, .string a2] w fun e w' => e = .returned (.tuple #[.string r1, .bool r2]) ∧ Below w.heap.size w w' := by
 have hu72 := Try.underlying72
 have HR0 := Aside0.mk hr0
 have HC0 := Aside0.mk hc0
 clear hr0 hc0
 have HB := A_ (Below.refl w.heap.size w)
 have H : (impl_PropOf.l0 k a1 a2 l0 (l0.length : Int) 0) = some (r1, r2) := h
 clear h
 have H' := Aside0.mk H
 clear H
 go_enter Try.func56, Try.ntmps56
 go_wp2
 go_loopg [12] k (fun kq v12 w' => ∃ (x12_1 : Int), v12 = .int .i64 x12_1 ∧ Aside0 (impl_PropOf.l0 kq a1 a2 l0 (l0.length : Int) x12_1 = some (r1, r2)) ∧ Aside0 (kq ≤ k) ∧ Aside0 (Below w.heap.size w w'))
 case atStart => exact ⟨(0), rs_, H', ⟨Nat.le_refl _⟩, ⟨bB_⟩⟩
 case round =>
  clear H'
  try clear p2
  obtain ⟨x12_1, rfl, HA, HK1, HB⟩ := hrel
  cases gk with
  | zero => exact absurd HA.out (by simp [impl_PropOf.l0])
  | succ k1 =>
   have H := HA.out
   clear HA
   simp only [impl_PropOf.l0] at H
   by_cases c4 : x12_1 < (l0.length : Int)
   rotate_left
   · rw [if_neg c4] at H
     have c4b0 : decide (x12_1 < (l0.length : Int)) = false := decide_eq_false c4
     clear c4
     simp only [Option.some.injEq, Prod.mk.injEq] at H
     obtain ⟨rfl, rfl⟩ := H
     go_wp2
     go_ret2
     exact ⟨rr_, bB_⟩
   rw [if_pos c4] at H
   have c4b0 : decide (x12_1 < (l0.length : Int)) = true := decide_eq_true c4
   clear c4
   by_cases c5 : 0 ≤ x12_1
   rotate_left
   · exact absurd H (by rw [if_neg c5]; simp)
   rw [if_pos c5] at H
   have c5b0 : decide (0 ≤ x12_1) = true := decide_eq_true c5
   clear c5
   by_cases c6 : x12_1 < (l0.length : Int)
   rotate_left
   · exact absurd H (by rw [if_neg c6]; simp)
   rw [if_pos c6] at H
   have c6b0 : decide (x12_1 < (l0.length : Int)) = true := decide_eq_true c6
   clear c6
   by_cases c7 : ((rd_T72 l0 x12_1).f0).toList = a1.toList
   rotate_left
   · rw [if_neg c7] at H
     have c7b0 : (((rd_T72 l0 x12_1).f0).toList == a1.toList) = false := beq_eq_false_iff_ne.mpr c7
     have c7b1 : (((rd_T72 l0 x12_1).f0).toList != a1.toList) = true := bne_iff_ne.mpr c7
     have H' := Aside0.mk H
     clear H
     have p1510 : 0 ≤ (x12_1 : Int) := of_decide_eq_true as_
     have q1510 : x12_1 < (l0.length : Int) := of_decide_eq_true as_
     obtain ⟨ad1510, e1510, hx1510_0, hx1510_1, hx1510_2⟩ := at_T72 HR0.out x12_1 p1510 q1510
     cases e1510
     replace hx1510_0 := bc_ HB.out hx1510_0
     replace hx1510_1 := bc_ HB.out hx1510_1
     replace hx1510_2 := bc_ HB.out hx1510_2
     replace p1510 := eq_true p1510
     replace q1510 := eq_true q1510
     go_wp2_with (first | ((with_reducible refine gate_dst (N := 9) rfl ?_); refine bx_ (N := 9) (cs := #[.string (⟨#[]⟩ : ByteArray), .string (⟨#[]⟩ : ByteArray), .string (⟨#[]⟩ : ByteArray)]) (t := 72) ?_; intro gb1511 hg w13 hbox hb; have BK1511 := A_ (hbox); have GW1511 := A_ (ge_ hg bB_ : w.heap.size ≤ gb1511); have GE1511 := A_ (ge_ hg bB_ : w.heap.size ≤ gb1511); replace HB := A_ (below_step bB_ hb); clear hb hbox hg; obtain ⟨hcz14_0, hcz14_1, hcz14_2, hfz14_0, hfz14_1, hfz14_2⟩ := cz3_ BK1511.out))
     go_roundg k1
     case measure => have := HK1.out; omega
     case rel => exact ⟨(wrap64 (x12_1 + 1)), rs_, H', ⟨by have := HK1.out; omega⟩, ⟨bG_ GE1511.out⟩⟩
   rw [if_pos c7] at H
   have c7b0 : (((rd_T72 l0 x12_1).f0).toList == a1.toList) = true := beq_iff_eq.mpr c7
   have c7b1 : (((rd_T72 l0 x12_1).f0).toList != a1.toList) = false := bne_eq_false_iff_eq.mpr c7
   clear c7
   by_cases c8 : ((rd_T72 l0 x12_1).f1).toList = a2.toList
   · rw [if_pos c8] at H
     have c8b0 : (((rd_T72 l0 x12_1).f1).toList == a2.toList) = true := beq_iff_eq.mpr c8
     have c8b1 : (((rd_T72 l0 x12_1).f1).toList != a2.toList) = false := bne_eq_false_iff_eq.mpr c8
     clear c8
     simp only [Option.some.injEq, Prod.mk.injEq] at H
     obtain ⟨rfl, rfl⟩ := H
     have p1510 : 0 ≤ (x12_1 : Int) := of_decide_eq_true as_
     have q1510 : x12_1 < (l0.length : Int) := of_decide_eq_true as_
     obtain ⟨ad1510, e1510, hx1510_0, hx1510_1, hx1510_2⟩ := at_T72 HR0.out x12_1 p1510 q1510
     cases e1510
     replace hx1510_0 := bc_ HB.out hx1510_0
     replace hx1510_1 := bc_ HB.out hx1510_1
     replace hx1510_2 := bc_ HB.out hx1510_2
     replace p1510 := eq_true p1510
     replace q1510 := eq_true q1510
     go_wp2_with (first | ((with_reducible refine gate_dst (N := 9) rfl ?_); refine bx_ (N := 9) (cs := #[.string (⟨#[]⟩ : ByteArray), .string (⟨#[]⟩ : ByteArray), .string (⟨#[]⟩ : ByteArray)]) (t := 72) ?_; intro gb1511 hg w9 hbox hb; have BK1511 := A_ (hbox); have GW1511 := A_ (ge_ hg bB_ : w.heap.size ≤ gb1511); have GE1511 := A_ (ge_ hg bB_ : w.heap.size ≤ gb1511); replace HB := A_ (below_step bB_ hb); clear hb hbox hg; obtain ⟨hcz10_0, hcz10_1, hcz10_2, hfz10_0, hfz10_1, hfz10_2⟩ := cz3_ BK1511.out))
     go_ret2
     exact ⟨rr_, bG_ GE1511.out⟩
   rw [if_neg c8] at H
   have c8b0 : (((rd_T72 l0 x12_1).f1).toList == a2.toList) = false := beq_eq_false_iff_ne.mpr c8
   have c8b1 : (((rd_T72 l0 x12_1).f1).toList != a2.toList) = true := bne_iff_ne.mpr c8
   have H' := Aside0.mk H
   clear H
   have p1510 : 0 ≤ (x12_1 : Int) := of_decide_eq_true as_
   have q1510 : x12_1 < (l0.length : Int) := of_decide_eq_true as_
   obtain ⟨ad1510, e1510, hx1510_0, hx1510_1, hx1510_2⟩ := at_T72 HR0.out x12_1 p1510 q1510
   cases e1510
   replace hx1510_0 := bc_ HB.out hx1510_0
   replace hx1510_1 := bc_ HB.out hx1510_1
   replace hx1510_2 := bc_ HB.out hx1510_2
   replace p1510 := eq_true p1510
   replace q1510 := eq_true q1510
   go_wp2_with (first | ((with_reducible refine gate_dst (N := 9) rfl ?_); refine bx_ (N := 9) (cs := #[.string (⟨#[]⟩ : ByteArray), .string (⟨#[]⟩ : ByteArray), .string (⟨#[]⟩ : ByteArray)]) (t := 72) ?_; intro gb1511 hg w11 hbox hb; have BK1511 := A_ (hbox); have GW1511 := A_ (ge_ hg bB_ : w.heap.size ≤ gb1511); have GE1511 := A_ (ge_ hg bB_ : w.heap.size ≤ gb1511); replace HB := A_ (below_step bB_ hb); clear hb hbox hg; obtain ⟨hcz12_0, hcz12_1, hcz12_2, hfz12_0, hfz12_1, hfz12_2⟩ := cz3_ BK1511.out))
   go_roundg k1
   case measure => have := HK1.out; omega
   case rel => exact ⟨(wrap64 (x12_1 + 1)), rs_, H', ⟨by have := HK1.out; omega⟩, ⟨bG_ GE1511.out⟩⟩
def spec_PropOf.l0 : Nat → List (S72) → ByteArray → ByteArray → Int → Option (ByteArray × Bool)
 | 0, _, _, _, _ => none
 | k + 1, x0, x1, x2, x8 => if x8 < (x0.length : Int) then (if 0 ≤ x8 then (if ((rd_T72 x0 x8).f0).toList = x1.toList then (if ((rd_T72 x0 x8).f1).toList = x2.toList then (some ((rd_T72 x0 x8).f2, true)) else (spec_PropOf.l0 k x0 x1 x2 (wrap64 (x8 + 1)))) else (spec_PropOf.l0 k x0 x1 x2 (wrap64 (x8 + 1)))) else (none)) else (some ((⟨#[]⟩ : ByteArray), false))
def spec_PropOf.f (k : Nat) (l0 : List (S72)) (a1 : ByteArray) (a2 : ByteArray) : Option (ByteArray × Bool) := spec_PropOf.l0 k l0 a1 a2 0
set_option maxHeartbeats 8000000 in
set_option maxRecDepth 100000 in
theorem spec_PropOf.calls (k : Nat) (A0 : Option Addr) (c0 : Nat) (l0 : List (S72)) (a1 : ByteArray) (a2 : ByteArray) (r1 : ByteArray) (r2 : Bool) (w : World) (hr0 : Kd.C k72 w A0 l0.length l0) (hc0 : l0.length ≤ c0) (h : spec_PropOf.f k l0 a1 a2 = some (r1, r2)) :
 Calls Try.prog 57 #[.slice A0 l0.length c0, .string a1, .string a2] w fun e w' => e = .returned (.tuple #[.string r1, .bool r2]) ∧ Drawn0 w w' := by
 have HR0 := Aside0.mk hr0
 have HC0 := Aside0.mk hc0
 clear hr0 hc0
 have H : (spec_PropOf.l0 k l0 a1 a2 0) = some (r1, r2) := h
 clear h
 have H' := Aside0.mk H
 clear H
 go_enter Try.func57, Try.ntmps57
 go_wp2
 go_loopg [8] k (fun kq v8 w' => ∃ (x8_1 : Int), v8 = .int .i64 x8_1 ∧ Aside0 (spec_PropOf.l0 kq l0 a1 a2 x8_1 = some (r1, r2)) ∧ Aside0 (kq ≤ k) ∧ Drawn0 w w')
 case atStart => exact ⟨(0), rs_, H', ⟨Nat.le_refl _⟩, dr_⟩
 case round =>
  clear H'
  try clear p2
  obtain ⟨x8_1, rfl, HA, HK1, ⟨m1, rfl⟩⟩ := hrel
  cases gk with
  | zero => exact absurd HA.out (by simp [spec_PropOf.l0])
  | succ k1 =>
   have H := HA.out
   clear HA
   simp only [spec_PropOf.l0] at H
   by_cases c4 : x8_1 < (l0.length : Int)
   rotate_left
   · rw [if_neg c4] at H
     have c4b0 : decide (x8_1 < (l0.length : Int)) = false := decide_eq_false c4
     clear c4
     simp only [Option.some.injEq, Prod.mk.injEq] at H
     obtain ⟨rfl, rfl⟩ := H
     go_wp2
     go_ret2
     exact ⟨rs_, dr_⟩
   rw [if_pos c4] at H
   have c4b0 : decide (x8_1 < (l0.length : Int)) = true := decide_eq_true c4
   clear c4
   by_cases c5 : 0 ≤ x8_1
   rotate_left
   · exact absurd H (by rw [if_neg c5]; simp)
   rw [if_pos c5] at H
   have c5b0 : decide (0 ≤ x8_1) = true := decide_eq_true c5
   clear c5
   by_cases c6 : ((rd_T72 l0 x8_1).f0).toList = a1.toList
   rotate_left
   · rw [if_neg c6] at H
     have c6b0 : (((rd_T72 l0 x8_1).f0).toList == a1.toList) = false := beq_eq_false_iff_ne.mpr c6
     have c6b1 : (((rd_T72 l0 x8_1).f0).toList != a1.toList) = true := bne_iff_ne.mpr c6
     have H' := Aside0.mk H
     clear H
     have p1512 : 0 ≤ (x8_1 : Int) := of_decide_eq_true as_
     have q1512 : x8_1 < (l0.length : Int) := of_decide_eq_true as_
     obtain ⟨ad1512, e1512, hx1512_0, hx1512_1, hx1512_2⟩ := at_T72 HR0.out x8_1 p1512 q1512
     cases e1512
     replace p1512 := eq_true p1512
     replace q1512 := eq_true q1512
     go_wp2
     go_roundg k1
     case measure => have := HK1.out; omega
     case rel => exact ⟨(wrap64 (x8_1 + 1)), rs_, H', ⟨by have := HK1.out; omega⟩, dr_⟩
   rw [if_pos c6] at H
   have c6b0 : (((rd_T72 l0 x8_1).f0).toList == a1.toList) = true := beq_iff_eq.mpr c6
   have c6b1 : (((rd_T72 l0 x8_1).f0).toList != a1.toList) = false := bne_eq_false_iff_eq.mpr c6
   clear c6
   by_cases c7 : ((rd_T72 l0 x8_1).f1).toList = a2.toList
   rotate_left
   · rw [if_neg c7] at H
     have c7b0 : (((rd_T72 l0 x8_1).f1).toList == a2.toList) = false := beq_eq_false_iff_ne.mpr c7
     have c7b1 : (((rd_T72 l0 x8_1).f1).toList != a2.toList) = true := bne_iff_ne.mpr c7
     have H' := Aside0.mk H
     clear H
     have p1512 : 0 ≤ (x8_1 : Int) := of_decide_eq_true as_
     have q1512 : x8_1 < (l0.length : Int) := of_decide_eq_true as_
     obtain ⟨ad1512, e1512, hx1512_0, hx1512_1, hx1512_2⟩ := at_T72 HR0.out x8_1 p1512 q1512
     cases e1512
     replace p1512 := eq_true p1512
     replace q1512 := eq_true q1512
     have p1513 : 0 ≤ (x8_1 : Int) := of_decide_eq_true as_
     have q1513 : x8_1 < (l0.length : Int) := of_decide_eq_true as_
     obtain ⟨ad1513, e1513, hx1513_0, hx1513_1, hx1513_2⟩ := at_T72 HR0.out x8_1 p1513 q1513
     obtain rfl : ad1512 = ad1513 := (by injection e1513)
     replace p1513 := eq_true p1513
     replace q1513 := eq_true q1513
     go_wp2
     go_roundg k1
     case measure => have := HK1.out; omega
     case rel => exact ⟨(wrap64 (x8_1 + 1)), rs_, H', ⟨by have := HK1.out; omega⟩, dr_⟩
   rw [if_pos c7] at H
   have c7b0 : (((rd_T72 l0 x8_1).f1).toList == a2.toList) = true := beq_iff_eq.mpr c7
   have c7b1 : (((rd_T72 l0 x8_1).f1).toList != a2.toList) = false := bne_eq_false_iff_eq.mpr c7
   clear c7
   simp only [Option.some.injEq, Prod.mk.injEq] at H
   obtain ⟨rfl, rfl⟩ := H
   have p1512 : 0 ≤ (x8_1 : Int) := of_decide_eq_true as_
   have q1512 : x8_1 < (l0.length : Int) := of_decide_eq_true as_
   obtain ⟨ad1512, e1512, hx1512_0, hx1512_1, hx1512_2⟩ := at_T72 HR0.out x8_1 p1512 q1512
   cases e1512
   replace p1512 := eq_true p1512
   replace q1512 := eq_true q1512
   have p1513 : 0 ≤ (x8_1 : Int) := of_decide_eq_true as_
   have q1513 : x8_1 < (l0.length : Int) := of_decide_eq_true as_
   obtain ⟨ad1513, e1513, hx1513_0, hx1513_1, hx1513_2⟩ := at_T72 HR0.out x8_1 p1513 q1513
   obtain rfl : ad1512 = ad1513 := (by injection e1513)
   replace p1513 := eq_true p1513
   replace q1513 := eq_true q1513
   have p1514 : 0 ≤ (x8_1 : Int) := of_decide_eq_true as_
   have q1514 : x8_1 < (l0.length : Int) := of_decide_eq_true as_
   obtain ⟨ad1514, e1514, hx1514_0, hx1514_1, hx1514_2⟩ := at_T72 HR0.out x8_1 p1514 q1514
   obtain rfl : ad1512 = ad1514 := (by injection e1514)
   replace p1514 := eq_true p1514
   replace q1514 := eq_true q1514
   go_wp2
   go_ret2
   exact ⟨rs_, dr_⟩
def laws_FnProps.j0 : Nat → List (S72) → List (S74) → List (S72) → Bool → Bool → Option (Bool)
  | 0, _, _, _, _, _ => none
  | k + 1, x3, x4, x5, x6, x76 => if x76 = true then (some false) else (if x6 = true then (if (x4.length : Int) > 0 then (if 0 ≤ (wrap64 ((x4.length : Int) - 1)) then (if (wrap64 ((x4.length : Int) - 1)) < (x4.length : Int) then ((impl_PropOf.f k x5 ((rd_T74 x4 (wrap64 ((x4.length : Int) - 1))).f1.f0) ((rd_T74 x4 (wrap64 ((x4.length : Int) - 1))).f1.f1)).bind fun bt1543 => (if (bt1543.2 == ((rd_T74 x4 (wrap64 ((x4.length : Int) - 1))).f0)) = true then (some false) else (if bt1543.2 = true then (if bt1543.1.toList = ((rd_T74 x4 (wrap64 ((x4.length : Int) - 1))).f1.f2).toList then ((impl_PropsOk.f k x5).bind fun t1545 => (some t1545)) else (some false)) else ((impl_PropsOk.f k x5).bind fun t1546 => (some t1546))))) else (none)) else (none)) else ((impl_PropsOk.f k x5).bind fun t1547 => (some t1547))) else ((laws_sameProps.f k x5 x3).bind fun t1540 => (some t1540)))
def laws_FnProps.f (k : Nat) (l0 : List Int) : Option (Bool) := (laws_big.f l0).bind fun t1515 => (if t1515 = true then (some true) else ((spec_DrawSetProps.f k l0).bind fun bt1516 => ((impl_SetProps.f k bt1516.1 bt1516.2).bind fun bt1522 => ((spec_SetProps.f k bt1516.1 bt1516.2).bind fun bt1526 => ((spec_DrawPropOf.f k l0).bind fun bt1530 => ((impl_PropOf.f k bt1530.1 bt1530.2.1 bt1530.2.2).bind fun bt1535 => ((spec_PropOf.f k bt1530.1 bt1530.2.1 bt1530.2.2).bind fun bt1537 => (if (bt1522.2 != bt1526.2) = true then (laws_FnProps.j0 k bt1516.1 bt1516.2 bt1522.1 bt1522.2 true) else ((laws_sameProps.f k bt1522.1 bt1526.1).bind fun t1539 => (if t1539 = true then (if (bt1535.2 != bt1537.2) = true then (laws_FnProps.j0 k bt1516.1 bt1516.2 bt1522.1 bt1522.2 true) else (laws_FnProps.j0 k bt1516.1 bt1516.2 bt1522.1 bt1522.2 (bt1535.1.toList != bt1537.1.toList))) else (laws_FnProps.j0 k bt1516.1 bt1516.2 bt1522.1 bt1522.2 true)))))))))))
end Go.Proofs.Ytbgggcgjijljkaa.Q

/- What a reading of a parameter says of its cells, kind by kind: for the rows of laws whose parameters are slices and structs. No condition. -/
namespace Go.Proofs.Ytbgggcgjijljkaa.Op
open Go.RowKit Go.ChangeShapes Go.WideShapes Go.Proofs.YtbgggcgjijljkaaW.PrintWords
def Opens {α H : Type} (enc : TypeId × Value → H) (P : Program) (w : World) (t : TypeId) (d : Kd α) (G : α → Prop) : Prop :=
  ∀ fuel cs x, DataW.trod enc P w 0 (fun _ => true) true fuel t cs = some x → ∃ a, d.K w a cs ∧ G a
section
variable {H : Type} {enc : TypeId × Value → H} {P : Program} {w : World} {t : TypeId}
theorem opens_int {k : IntKind} (ht : P.underlying t = some (.int k)) : Opens enc P w t (Kd.int k) (fun n => (Lit.int k n).wf = true) := by
  intro fuel cs x h
  obtain ⟨n, rfl, _, hn⟩ := DataW.trod_int ht h
  exact ⟨n, rfl, hn⟩
theorem opens_slice {α : Type} [Inhabited α] {e : TypeId} {d : Kd α} {G : α → Prop} (ht : P.underlying t = some (.slice e)) (hc : P.cellsOf e = d.sz) (he : Opens enc P w e d G) :
    Opens enc P w t (Kd.slice e d) (fun l => l.length ≤ maxLen ∧ ∀ a ∈ l, G a) := by
  intro fuel cs x h
  rcases Go.Deep.open_slice ht h with ⟨rfl, _⟩ | ⟨a, len, cap, m, n, D, Pl, rfl, _, hl, hm, hmm, _, hx⟩
  · exact ⟨[], ⟨none, 0, rfl, Nat.le_refl _, Kd.C_nil d w⟩, by simp, by simp⟩
  · have hm' : m = cap := by simpa using hmm
    have each : ∀ i, i < len → ∃ y : α, G y ∧ ∃ c, d.K w y c ∧ ∀ j u, c[j]? = some u → w.cell? (a.add (i * d.sz + j)) = some u := fun i hi => by
      obtain ⟨cs', h1, h2⟩ := hx i (by omega)
      obtain ⟨y, hK, hG⟩ := he _ _ _ h2
      obtain ⟨_, h3, h4⟩ := World.cells?_some h1
      refine ⟨y, hG, cs', hK, fun j u hu => ?_⟩
      have hj : j < P.cellsOf e := by
        have := (List.getElem?_eq_some_iff.1 hu).1
        omega
      have h5 := h4 j hj
      rw [Go.Deep.add_add, hc, hu] at h5
      exact h5
    obtain ⟨f, hf⟩ := Go.Deep.choose_lt each
    have hmax : maxLen = 9223372036854775807 := by decide
    refine ⟨(List.range len).map f, ⟨some a, cap, by simp, by simpa using hl, ?_⟩, by simp; omega, ?_⟩
    · refine ⟨rfl, by simp; omega, fun _ => ⟨a, rfl, fun j p hj => ?_⟩⟩
      have hjl : j < len := by
        have := (List.getElem?_eq_some_iff.1 hj).1
        simpa using this
      have hp : f j = p := by
        rw [List.getElem?_map, List.getElem?_range hjl] at hj
        simpa using hj
      obtain ⟨_, c, hK, hcell⟩ := hf j hjl
      exact ⟨c, d.K_len hK, hp ▸ hK, hcell⟩
    · intro y hy
      obtain ⟨j, hj, rfl⟩ := List.mem_map.1 hy
      exact (hf j (List.mem_range.1 hj)).1
end
end Go.Proofs.Ytbgggcgjijljkaa.Op

/- What a reading of a struct says of its cells. No condition. -/
namespace Go.Proofs.Ytbgggcgjijljkaa.Q
open Go.RowKit Go.ChangeShapes Go.WideShapes Go.Proofs.YtbgggcgjijljkaaW.PrintWords Go.Proofs.Ytbgggcgjijljkaa
set_option linter.unusedVariables false
set_option linter.unusedSimpArgs false
instance : Inhabited S88 := ⟨z88⟩
instance : Inhabited S79 := ⟨z79⟩
instance : Inhabited S90 := ⟨z90⟩
end Go.Proofs.Ytbgggcgjijljkaa.Q

/- Small lemmas for plain laws over rounds: indices as lengths of what was passed, bytes' equality. No condition. -/
set_option linter.unusedSimpArgs false
set_option linter.unusedVariables false
namespace Go.Proofs.Ytbgggcgjijljkaa.L
open Go.RowKit Go.Proofs.YtbgggcgjijljkaaW.PrintWords Go.Proofs.YtbgggcgjijljkaaW.PrintLast
theorem ba_toList (s : ByteArray) : s.toList = s.data.toList := ByteArray.toList_eq s
theorem ba_inj {a b : ByteArray} (h : a.toList = b.toList) : a = b := by
  rw [ba_toList, ba_toList] at h
  cases a with | mk x => cases b with | mk y => congr 1; exact Array.toList_inj.1 h
theorem ba_eq {a b : ByteArray} : (a.toList = b.toList) = (a = b) := propext ⟨ba_inj, fun h => by rw [h]⟩
theorem maxLen_eq : maxLen = 9223372036854775807 := by decide
theorem wrap_id {x : Int} (h0 : -9223372036854775808 ≤ x) (h1 : x < 9223372036854775808) : wrap64 x = x := by
  unfold wrap64
  omega
section
variable {α : Type} {l pre suf : List α} {a : α}
theorem lt_at (h : l = pre ++ a :: suf) : ((pre.length : Nat) : Int) < (l.length : Int) := by subst h; simp; omega
theorem getD_at (d : α) (h : l = pre ++ a :: suf) : l.getD ((pre.length : Nat) : Int).toNat d = a := by subst h; simp [List.getD_eq_getElem?_getD]
theorem next_at (h : l = pre ++ a :: suf) (hl : l.length ≤ maxLen) : wrap64 ((pre.length : Int) + 1) = ((pre ++ [a]).length : Int) := by
  have : l.length = pre.length + 1 + suf.length := by subst h; simp; omega
  rw [maxLen_eq] at hl
  rw [wrap_id (by omega) (by omega)]
  simp
theorem snoc_at (h : l = pre ++ a :: suf) : l = (pre ++ [a]) ++ suf := by subst h; simp
theorem end_at (h : l = pre ++ []) : ¬ ((pre.length : Nat) : Int) < (l.length : Int) := by subst h; simp
theorem nonneg_at (n : Nat) : (0 : Int) ≤ (n : Int) := Int.natCast_nonneg n
end
theorem ev_cast {α : Type} {g : Nat → Option α} {r s : α} (h : Ev g r) (e : r = s) : Ev g s := e ▸ h
end Go.Proofs.Ytbgggcgjijljkaa.L

/- Draws from a code: the cursor's bytes and its place. No condition. -/
set_option linter.unusedSimpArgs false
set_option linter.unusedVariables false
namespace Go.Proofs.Ytbgggcgjijljkaa.L
open Go.RowKit Go.Proofs.YtbgggcgjijljkaaW.PrintWords Go.Proofs.YtbgggcgjijljkaaW.PrintLast Go.Proofs.Ytbgggcgjijljkaa.Q
def Cur (b : List Int) (p : Int) : Prop := 0 ≤ p ∧ p ≤ (b.length : Int) ∧ b.length ≤ 1048576
theorem wrapI64 {x : Int} (h0 : -9223372036854775808 ≤ x) (h1 : x < 9223372036854775808) : IntKind.i64.wrap x = x := by
  rw [i64_w, wrap_id h0 h1]
theorem and255 (x : Int) : 0 ≤ Go.bits .and .i64 x 255 ∧ Go.bits .and .i64 x 255 ≤ 255 := by
  unfold Go.bits
  have h : (BitVec.ofInt IntKind.i64.bits x &&& BitVec.ofInt IntKind.i64.bits 255).toNat ≤ 255 := by
    rw [BitVec.toNat_and]
    exact Nat.le_trans Nat.and_le_right (by decide)
  simp only
  rw [wrapI64 (by omega) (by omega)]
  omega
theorem byteD {b : List Int} {p : Int} (h : Cur b p) (s : Int) : ∃ v p' s', spec_l1Byte.f b p s = some (v, p', s') ∧ 0 ≤ v ∧ v ≤ 255 ∧ Cur b p' := by
  obtain ⟨h0, h1, h2⟩ := h
  unfold spec_l1Byte.f
  by_cases c : p < (b.length : Int)
  · rw [if_pos c, if_pos h0]
    refine ⟨_, _, _, rfl, (and255 _).1, (and255 _).2, ?_⟩
    rw [wrap_id (by omega) (by omega)]
    exact ⟨by omega, by omega, h2⟩
  · rw [if_neg c]
    exact ⟨_, _, _, rfl, (and255 _).1, (and255 _).2, h0, h1, h2⟩
theorem belowD {b : List Int} {p : Int} (h : Cur b p) (s : Int) {n : Int} (hn : 0 < n) : ∃ v p' s', spec_l1Below.f b p s n = some (v, p', s') ∧ 0 ≤ v ∧ v < n ∧ Cur b p' := by
  unfold spec_l1Below.f
  rw [if_neg (by omega)]
  by_cases c : n ≤ 256
  · rw [if_pos c]
    obtain ⟨v, p1, s1, e, v0, v1, h'⟩ := byteD h s
    simp only [e, Option.bind_some, if_neg (show ¬ n = 0 by omega)]
    exact ⟨_, _, _, rfl, Int.tmod_nonneg _ v0, Int.tmod_lt_of_pos _ hn, h'⟩
  · rw [if_neg c]
    obtain ⟨v, p1, s1, e, v0, v1, h1⟩ := byteD h s
    simp only [e, Option.bind_some]
    obtain ⟨v', p2, s2, e, v0', v1', h2⟩ := byteD h1 s1
    simp only [e, Option.bind_some]
    obtain ⟨v'', p3, s3, e, v0'', v1'', h3⟩ := byteD h2 s2
    simp only [e, Option.bind_some, if_neg (show ¬ n = 0 by omega)]
    rw [wrap_id (x := v * 65536) (by omega) (by omega), wrap_id (x := v' * 256) (by omega) (by omega), wrap_id (x := v * 65536 + v' * 256) (by omega) (by omega), wrap_id (by omega) (by omega)]
    exact ⟨_, _, _, rfl, Int.tmod_nonneg _ (by omega), Int.tmod_lt_of_pos _ hn, h3⟩
theorem belowD0 {b : List Int} {p : Int} (h : Cur b p) (s n : Int) : ∃ v p' s', spec_l1Below.f b p s n = some (v, p', s') ∧ 0 ≤ v ∧ Cur b p' := by
  by_cases c : 0 < n
  · obtain ⟨v, p', s', e, h0, _, h'⟩ := belowD h s c
    exact ⟨v, p', s', e, h0, h'⟩
  · unfold spec_l1Below.f
    rw [if_pos (by omega)]
    exact ⟨_, _, _, rfl, Int.le_refl _, h⟩
theorem onceD {b : List Int} {p : Int} (h : Cur b p) (s n : Int) : ∃ v p' s', spec_l1Once.f b p s n = some (v, p', s') ∧ Cur b p' := by
  obtain ⟨v, p', s', e, h0, h'⟩ := belowD0 h s n
  unfold spec_l1Once.f
  rw [e]
  exact ⟨_, _, _, rfl, h'⟩
theorem strD {b : List Int} {p : Int} (h : Cur b p) (s : Int) {l : List ByteArray} (hl : l ≠ []) : ∃ v p' s', spec_l1Str.f b p s l = some (v, p', s') ∧ v ∈ l ∧ Cur b p' := by
  have hpos : 0 < l.length := List.length_pos_iff.2 hl
  obtain ⟨v, p', s', e, h0, h1, h'⟩ := belowD h s (n := (l.length : Int)) (by omega)
  unfold spec_l1Str.f
  rw [e]
  simp only [Option.bind_some, if_pos h0, if_pos h1]
  refine ⟨_, _, _, rfl, ?_, h'⟩
  have hlt : v.toNat < l.length := by omega
  unfold rdOf
  rw [List.getD_eq_getElem?_getD, List.getElem?_eq_getElem hlt]
  exact List.getElem_mem hlt
theorem newD {l : List Int} (hl : l.length ≤ 1048576) : ∃ s, Ev (fun k => spec_l1New.f k l) (l, 0, s) := by
  have key : ∀ (suf pre : List Int) (x : Int), l = pre ++ suf → ∃ s, Ev (fun k => spec_l1New.l0 k l x pre.length) (l, 0, s) := by
    intro suf
    induction suf with
    | nil =>
      intro pre x h
      refine ⟨x, ?_⟩
      refine Ev.step (fun k => spec_l1New.l0.eq_2 ..) ?_
      simp only [if_neg (end_at h)]
      exact Ev.now _
    | cons a suf ih =>
      intro pre x h
      by_cases c : (pre.length : Int) < 4000
      · obtain ⟨s, hs⟩ := ih (pre ++ [a]) _ (snoc_at h)
        refine ⟨s, ?_⟩
        refine Ev.step (fun k => spec_l1New.l0.eq_2 ..) ?_
        simp only [if_pos (lt_at h), if_pos c, if_pos (nonneg_at _), next_at h (show l.length ≤ maxLen by rw [maxLen_eq]; omega)]
        exact hs
      · refine ⟨x, ?_⟩
        refine Ev.step (fun k => spec_l1New.l0.eq_2 ..) ?_
        simp only [if_pos (lt_at h), if_neg c]
        exact Ev.now _
  exact key l [] _ rfl
theorem cur0 {l : List Int} (hl : l.length ≤ 1048576) : Cur l 0 := ⟨Int.le_refl _, by omega, hl⟩
end Go.Proofs.Ytbgggcgjijljkaa.L

/- Texts byte by byte: plain texts, small names, as the program and the reference have them. No condition. -/
set_option linter.unusedSimpArgs false
set_option linter.unusedVariables false
namespace Go.Proofs.Ytbgggcgjijljkaa.L
open Go.RowKit Go.Proofs.YtbgggcgjijljkaaW.PrintWords Go.Proofs.YtbgggcgjijljkaaW.PrintLast Go.Proofs.Ytbgggcgjijljkaa.Q
abbrev bl (s : ByteArray) : List UInt8 := s.data.toList
theorem bl_len (s : ByteArray) : (bl s).length = s.size := data_length s
section
variable {s : ByteArray} {pre suf : List UInt8} {c : UInt8}
theorem blt_at (h : bl s = pre ++ c :: suf) : ((pre.length : Nat) : Int) < (s.size : Int) := by
  have := bl_len s
  rw [h] at this
  simp at this
  omega
theorem bend_at (h : bl s = pre ++ []) : ¬ ((pre.length : Nat) : Int) < (s.size : Int) := by
  have := bl_len s
  rw [h] at this
  simp at this
  omega
theorem bt_at' (h : bl s = pre ++ c :: suf) : bt s (pre.length : Int) = (c.toNat : Int) := by
  have hlt := blt_at h
  have h2 : pre.length < s.size := by omega
  rw [← bt_at s (pre.length : Int) (by simpa using h2)]
  have h3 : pre.length < (bl s).length := by rw [bl_len]; exact h2
  have h4 : (bl s)[pre.length] = c := by simp [h]
  have h5 : s[pre.length]'h2 = (bl s)[pre.length] := by
    show s.data[pre.length] = _
    simp
  simp only [Int.toNat_natCast, h5, h4]
theorem bnext_at (h : bl s = pre ++ c :: suf) (hs : s.size ≤ maxLen) : wrap64 ((pre.length : Int) + 1) = ((pre ++ [c]).length : Int) := by
  have := blt_at h
  rw [maxLen_eq] at hs
  rw [wrap_id (by omega) (by omega)]
  simp
end
theorem byte_bounds (c : UInt8) : 0 ≤ (c.toNat : Int) ∧ (c.toNat : Int) ≤ 255 := ⟨by omega, by have := c.toNat_lt; omega⟩
theorem wrap_byte (c : UInt8) : wrap64 (c.toNat : Int) = (c.toNat : Int) := wrap_id (by omega) (by have := byte_bounds c; omega)
def inB (lo hi : Int) (c : UInt8) : Bool := decide (lo ≤ (c.toNat : Int) ∧ (c.toNat : Int) ≤ hi)
theorem specIn (a b c : Int) : spec_l1In.f a b c = some (decide (b ≤ a ∧ a ≤ c)) := by
  unfold spec_l1In.f
  by_cases h : a ≥ b
  · rw [if_pos h]; simp [show b ≤ a from h]
  · rw [if_neg h]; simp [show ¬ b ≤ a from h]
theorem implIn (a b c : Int) : impl_in.f a b c = some (decide (b ≤ a ∧ a ≤ c)) := by
  unfold impl_in.f
  by_cases h : a ≥ b
  · rw [if_pos h]; simp [show b ≤ a from h]
  · rw [if_neg h]; simp [show ¬ b ≤ a from h]
theorem implIsPlain (c : UInt8) : impl_isPlain.f (c.toNat : Int) = some (inB 32 126 c) := by
  unfold impl_isPlain.f inB
  by_cases h : (c.toNat : Int) ≥ 32
  · rw [if_pos h]; simp only [show (32 : Int) ≤ c.toNat from h, true_and]
  · rw [if_neg h]; simp only [show ¬ (32 : Int) ≤ c.toNat from h, false_and, decide_false]
theorem implIsSmall (c : UInt8) : impl_isSmall.f (c.toNat : Int) = some (inB 97 122 c) := by
  unfold impl_isSmall.f inB
  by_cases h : (c.toNat : Int) ≥ 97
  · rw [if_pos h]; simp only [show (97 : Int) ≤ c.toNat from h, true_and]
  · rw [if_neg h]; simp only [show ¬ (97 : Int) ≤ c.toNat from h, false_and, decide_false]
theorem implIsDigit (c : UInt8) : impl_isDigit.f (c.toNat : Int) = some (inB 48 57 c) := by
  unfold impl_isDigit.f inB
  by_cases h : (c.toNat : Int) ≥ 48
  · rw [if_pos h]; simp only [show (48 : Int) ≤ c.toNat from h, true_and]
  · rw [if_neg h]; simp only [show ¬ (48 : Int) ≤ c.toNat from h, false_and, decide_false]
theorem specSmall1 (c : UInt8) : spec_l1Small.f (c.toNat : Int) = some (inB 97 122 c) := by
  unfold spec_l1Small.f; rw [wrap_byte, specIn]; rfl
theorem specDigit1 (c : UInt8) : spec_l1Digit.f (c.toNat : Int) = some (inB 48 57 c) := by
  unfold spec_l1Digit.f; rw [wrap_byte, specIn]; rfl
def plainL (l : List UInt8) : Bool := l.all (inB 32 126)
theorem specPlain_loop {s : ByteArray} (hs : s.size ≤ maxLen) : ∀ (suf pre : List UInt8), bl s = pre ++ suf → Ev (fun k => spec_Plain.l0 k s pre.length) (plainL suf) := by
  intro suf
  induction suf with
  | nil =>
    intro pre h
    refine Ev.step (fun k => spec_Plain.l0.eq_2 ..) ?_
    simp only [if_neg (bend_at h)]
    exact Ev.now _
  | cons c suf ih =>
    intro pre h
    refine Ev.step (fun k => spec_Plain.l0.eq_2 ..) ?_
    simp only [if_pos (blt_at h), if_pos (nonneg_at _), bt_at' h, wrap_byte, specIn, Option.bind_some, bnext_at h hs]
    have := ih (pre ++ [c]) (snoc_at h)
    simp only [plainL, List.all_cons, inB] at this ⊢
    by_cases e : (32 : Int) ≤ c.toNat ∧ (c.toNat : Int) ≤ 126
    · simp only [e, and_self, decide_true, if_true, Bool.true_and]
      exact this
    · simp only [e, decide_false, Bool.false_eq_true, if_false, Bool.false_and]
      exact Ev.now _
theorem specPlain {s : ByteArray} (hs : s.size ≤ maxLen) : Ev (fun k => spec_Plain.f k s) (plainL (bl s)) := specPlain_loop hs _ [] rfl
theorem implPlain_loop {s : ByteArray} (hs : s.size ≤ maxLen) : ∀ (suf pre : List UInt8), bl s = pre ++ suf → Ev (fun k => impl_Plain.l0 k s pre.length) (plainL suf) := by
  intro suf
  induction suf with
  | nil =>
    intro pre h
    refine Ev.step (fun k => impl_Plain.l0.eq_2 ..) ?_
    simp only [if_neg (bend_at h)]
    exact Ev.now _
  | cons c suf ih =>
    intro pre h
    refine Ev.step (fun k => impl_Plain.l0.eq_2 ..) ?_
    simp only [if_pos (blt_at h), if_pos (nonneg_at _), bt_at' h, implIsPlain, Option.bind_some, bnext_at h hs]
    have := ih (pre ++ [c]) (snoc_at h)
    simp only [plainL, List.all_cons] at this ⊢
    by_cases e : inB 32 126 c = true
    · simp only [e, if_true, Bool.true_and]
      exact this
    · simp only [e, if_false, Bool.false_and]
      exact Ev.now _
theorem implPlain {s : ByteArray} (hs : s.size ≤ maxLen) : Ev (fun k => impl_Plain.f k s) (plainL (bl s)) := implPlain_loop hs _ [] rfl
def smallL : Bool → List UInt8 → Bool
  | _, [] => true
  | first, c :: l => (inB 97 122 c || (!first && (inB 48 57 c || decide (c = 45)))) && smallL false l
theorem eq45 (c : UInt8) : ((c.toNat : Int) = 45) = (c = 45) := by
  apply propext
  constructor
  · intro h
    apply UInt8.toNat_inj.1
    show c.toNat = 45
    omega
  · rintro rfl
    rfl
def smallName (s : ByteArray) : Bool := smallL true (bl s) && decide (1 ≤ (s.size : Int) ∧ (s.size : Int) ≤ 20)
theorem specSmall_loop {s : ByteArray} (hs : s.size ≤ maxLen) : ∀ (suf pre : List UInt8), bl s = pre ++ suf → Ev (fun k => spec_SmallName.l0 k s pre.length) (smallL (decide (pre = [])) suf && decide (1 ≤ (s.size : Int) ∧ (s.size : Int) ≤ 20)) := by
  intro suf
  induction suf with
  | nil =>
    intro pre h
    refine Ev.step (fun k => spec_SmallName.l0.eq_2 ..) ?_
    simp only [if_neg (bend_at h), specIn, Option.bind_some, smallL, Bool.true_and]
    exact Ev.now _
  | cons c suf ih =>
    intro pre h
    refine Ev.step (fun k => spec_SmallName.l0.eq_2 ..) ?_
    simp only [if_pos (blt_at h), if_pos (nonneg_at _), bt_at' h, specSmall1, specDigit1, Option.bind_some, bnext_at h hs, eq45]
    have := ih (pre ++ [c]) (snoc_at h)
    rw [show decide (pre ++ [c] = []) = false by simp] at this
    simp only [smallL]
    by_cases e : inB 97 122 c = true
    · simp only [e, if_true, Bool.true_or, Bool.true_and]
      exact this
    · simp only [e, Bool.false_eq_true, if_false, Bool.false_or]
      by_cases e0 : pre = []
      · subst e0
        simp only [List.length_nil, Int.natCast_zero, if_true, decide_true, Bool.not_true, Bool.false_and]
        exact Ev.now _
      · have hp : ¬ ((pre.length : Nat) : Int) = 0 := by
          intro h0
          exact e0 (List.eq_nil_of_length_eq_zero (by omega))
        simp only [if_neg hp, e0, decide_false, Bool.not_false, Bool.true_and]
        by_cases e1 : inB 48 57 c = true
        · simp only [e1, if_true, Bool.true_or, Bool.true_and]
          exact this
        · simp only [e1, Bool.false_eq_true, if_false, Bool.false_or]
          by_cases e2 : c = 45
          · simp only [e2, if_true, decide_true, Bool.true_and]
            subst e2
            exact this
          · simp only [e2, if_false, decide_false, Bool.false_and]
            exact Ev.now _
theorem specSmall {s : ByteArray} (hs : s.size ≤ maxLen) : Ev (fun k => spec_SmallName.f k s) (smallName s) := specSmall_loop hs _ [] rfl
theorem implSmall_loop {s : ByteArray} (hs : s.size ≤ maxLen) : ∀ (suf pre : List UInt8), bl s = pre ++ suf → Ev (fun k => impl_SmallName.l0 k s pre.length) (smallL (decide (pre = [])) suf && decide (1 ≤ (s.size : Int) ∧ (s.size : Int) ≤ 20)) := by
  intro suf
  induction suf with
  | nil =>
    intro pre h
    refine Ev.step (fun k => impl_SmallName.l0.eq_2 ..) ?_
    simp only [if_neg (bend_at h), implIn, Option.bind_some, smallL, Bool.true_and]
    exact Ev.now _
  | cons c suf ih =>
    intro pre h
    refine Ev.step (fun k => impl_SmallName.l0.eq_2 ..) ?_
    simp only [if_pos (blt_at h), if_pos (nonneg_at _), bt_at' h, implIsSmall, implIsDigit, Option.bind_some, bnext_at h hs, eq45]
    have := ih (pre ++ [c]) (snoc_at h)
    rw [show decide (pre ++ [c] = []) = false by simp] at this
    simp only [smallL]
    by_cases e : inB 97 122 c = true
    · simp only [e, if_true, Bool.true_or, Bool.true_and]
      exact this
    · simp only [e, Bool.false_eq_true, if_false, Bool.false_or]
      by_cases e0 : pre = []
      · subst e0
        simp only [List.length_nil, Int.natCast_zero, if_true, decide_true, Bool.not_true, Bool.false_and]
        exact Ev.now _
      · have hp : ¬ ((pre.length : Nat) : Int) = 0 := by
          intro h0
          exact e0 (List.eq_nil_of_length_eq_zero (by omega))
        simp only [if_neg hp, e0, decide_false, Bool.not_false, Bool.true_and]
        by_cases e1 : inB 48 57 c = true
        · simp only [e1, if_true, Bool.true_or, Bool.true_and]
          exact this
        · simp only [e1, Bool.false_eq_true, if_false, Bool.false_or]
          by_cases e2 : c = 45
          · simp only [e2, if_true, decide_true, Bool.true_and]
            subst e2
            exact this
          · simp only [e2, if_false, decide_false, Bool.false_and]
            exact Ev.now _
theorem implSmall {s : ByteArray} (hs : s.size ≤ maxLen) : Ev (fun k => impl_SmallName.f k s) (smallName s) := implSmall_loop hs _ [] rfl
end Go.Proofs.Ytbgggcgjijljkaa.L

/- The laws' own functions over a mirrored struct (Prop): size, copy, equality. No condition. -/
set_option linter.unusedSimpArgs false
set_option linter.unusedVariables false
namespace Go.Proofs.Ytbgggcgjijljkaa.L
open Go.RowKit Go.Proofs.YtbgggcgjijljkaaW.PrintWords Go.Proofs.YtbgggcgjijljkaaW.PrintLast Go.Proofs.Ytbgggcgjijljkaa.Q
instance : DecidableEq S72 := fun a b => if h : a.f0 = b.f0 ∧ a.f1 = b.f1 ∧ a.f2 = b.f2 then .isTrue (by cases a; cases b; simp_all) else .isFalse (fun e => h (by rw [e]; exact ⟨rfl, rfl, rfl⟩))
theorem rd_implProp {l pre suf : List S72} {a : S72} (h : l = pre ++ a :: suf) : rd_T72 l (pre.length : Int) = a := getD_at _ h
def SmProp (p : S72) : Prop := p.f0.size ≤ 1048576 ∧ p.f1.size ≤ 1048576 ∧ p.f2.size ≤ 1048576
def SmProps (l : List S72) : Prop := l.length ≤ 1048576 ∧ ∀ p ∈ l, SmProp p
end Go.Proofs.Ytbgggcgjijljkaa.L

/- Properties: are they right, and which one is of a space and a name; as the program and the reference have it. No condition. -/
set_option linter.unusedSimpArgs false
set_option linter.unusedVariables false
namespace Go.Proofs.Ytbgggcgjijljkaa.L
open Go.RowKit Go.Proofs.YtbgggcgjijljkaaW.PrintWords Go.Proofs.YtbgggcgjijljkaaW.PrintLast Go.Proofs.Ytbgggcgjijljkaa.Q
def propOk (p : S72) : Bool := decide ((p.f0.size : Int) ≤ 20) && plainL (bl p.f0) && smallName p.f1 && decide ((p.f2.size : Int) ≤ 20) && plainL (bl p.f2)
def lessProp (p q : S72) : Bool := if p.f0 = q.f0 then Op.bytesLess p.f1.toList q.f1.toList else Op.bytesLess p.f0.toList q.f0.toList
theorem bytesLess_irrefl : ∀ l : List UInt8, Op.bytesLess l l = false
  | [] => rfl
  | a :: l => by simp [Op.bytesLess, bytesLess_irrefl l]
theorem specPropOk {p : S72} (hp : SmProp p) : Ev (fun k => spec_l10Prop.f k p.f0 p.f1 p.f2) (propOk p) := by
  obtain ⟨g0, g1, g2⟩ := hp
  have h : ∀ s : ByteArray, s.size ≤ 1048576 → s.size ≤ maxLen := fun s h => by rw [maxLen_eq]; omega
  unfold spec_l10Prop.f propOk
  by_cases c0 : (p.f0.size : Int) ≤ 20
  · simp only [if_pos c0, c0, decide_true, Bool.true_and]
    refine Ev.bind (specPlain (h _ g0)) ?_
    by_cases c1 : plainL (bl p.f0) = true
    · simp only [c1, if_true, Bool.true_and]
      refine Ev.bind (specSmall (h _ g1)) ?_
      by_cases c2 : smallName p.f1 = true
      · simp only [c2, if_true, Bool.true_and]
        by_cases c3 : (p.f2.size : Int) ≤ 20
        · simp only [if_pos c3, c3, decide_true, Bool.true_and]
          exact Ev.bind (specPlain (h _ g2)) (Ev.now _)
        · simp only [if_neg c3, c3, decide_false, Bool.false_and]
          exact Ev.now _
      · simp only [c2, Bool.false_eq_true, if_false, Bool.false_and]
        exact Ev.now _
    · simp only [c1, Bool.false_eq_true, if_false, Bool.false_and]
      exact Ev.now _
  · simp only [if_neg c0, c0, decide_false, Bool.false_and]
    exact Ev.now _
theorem implPropOk {p : S72} (hp : SmProp p) : Ev (fun k => impl_propOk.f k p.f0 p.f1 p.f2) (propOk p) := by
  obtain ⟨g0, g1, g2⟩ := hp
  have h : ∀ s : ByteArray, s.size ≤ 1048576 → s.size ≤ maxLen := fun s h => by rw [maxLen_eq]; omega
  unfold impl_propOk.f propOk
  by_cases c0 : (p.f0.size : Int) ≤ 20
  · simp only [if_pos c0, c0, decide_true, Bool.true_and]
    refine Ev.bind (implPlain (h _ g0)) ?_
    by_cases c1 : plainL (bl p.f0) = true
    · simp only [c1, if_true, Bool.true_and]
      refine Ev.bind (implSmall (h _ g1)) ?_
      by_cases c2 : smallName p.f1 = true
      · simp only [c2, if_true, Bool.true_and]
        by_cases c3 : (p.f2.size : Int) ≤ 20
        · simp only [if_pos c3, c3, decide_true, Bool.true_and]
          exact Ev.bind (implPlain (h _ g2)) (Ev.now _)
        · simp only [if_neg c3, c3, decide_false, Bool.false_and]
          exact Ev.now _
      · simp only [c2, Bool.false_eq_true, if_false, Bool.false_and]
        exact Ev.now _
    · simp only [c1, Bool.false_eq_true, if_false, Bool.false_and]
      exact Ev.now _
  · simp only [if_neg c0, c0, decide_false, Bool.false_and]
    exact Ev.now _
theorem specLessProp (p q : S72) : spec_l10LessProp.f p.f0 p.f1 p.f2 q.f0 q.f1 q.f2 = some (lessProp p q) := by
  unfold spec_l10LessProp.f lessProp
  simp only [ba_eq]
  by_cases e : p.f0 = q.f0 <;> simp [e]
theorem implLessProp (p q : S72) : impl_lessProp.f p.f0 p.f1 p.f2 q.f0 q.f1 q.f2 = some (lessProp p q) := by
  unfold impl_lessProp.f lessProp
  simp only [ba_eq]
  by_cases e : p.f0 = q.f0
  · simp [e, bytesLess_irrefl]
  · simp only [if_neg e]
    cases Op.bytesLess p.f0.toList q.f0.toList <;> simp
def propsL : Option S72 → List S72 → Bool
  | _, [] => true
  | last, p :: l => propOk p && (match last with | none => true | some q => lessProp q p) && propsL (some p) l
def propsOk (l : List S72) : Bool := propsL none l && decide ((l.length : Int) ≤ 4)
theorem pred_at {α : Type} {l pre suf : List α} {a b : α} (h : l = pre ++ [b] ++ a :: suf) (hl : l.length ≤ maxLen) : wrap64 (((pre ++ [b]).length : Int) - 1) = (pre.length : Int) := by
  have : l.length = pre.length + 1 + (suf.length + 1) := by rw [h]; simp; omega
  rw [maxLen_eq] at hl
  have e : ((pre ++ [b]).length : Int) = pre.length + 1 := by simp
  rw [e, wrap_id (by omega) (by omega)]
  omega
theorem specPropsOkB {l : List S72} (hl : l.length ≤ maxLen) (hs : ∀ p ∈ l, SmProp p) : Ev (fun k => spec_PropsOk.f k l) (propsOk l) := by
  have key : ∀ (suf pre : List S72), l = pre ++ suf → Ev (fun k => spec_PropsOk.l0 k l pre.length) (propsL pre.getLast? suf && decide ((l.length : Int) ≤ 4)) := by
    intro suf
    induction suf with
    | nil =>
      intro pre h
      refine Ev.step (fun k => spec_PropsOk.l0.eq_2 ..) ?_
      simp only [if_neg (end_at h), propsL, Bool.true_and]
      exact Ev.now _
    | cons a suf ih =>
      intro pre h
      have hn := ih (pre ++ [a]) (snoc_at h)
      rw [List.getLast?_append] at hn
      simp only [List.getLast?_singleton, Option.some_or] at hn
      refine Ev.step (fun k => spec_PropsOk.l0.eq_2 ..) ?_
      simp only [if_pos (lt_at h), if_pos (nonneg_at _), rd_implProp h]
      refine Ev.bind (specPropOk (hs a (by rw [h]; simp))) ?_
      simp only [propsL]
      by_cases c0 : propOk a = true
      · simp only [c0, if_true, Bool.true_and]
        rcases List.eq_nil_or_concat pre with rfl | ⟨pre', b, rfl⟩
        · simp only [List.length_nil, Int.natCast_zero, show ¬ (0 : Int) > 0 by omega, if_false, List.getLast?_nil, Bool.true_and]
          have := next_at h hl
          simp only [List.length_nil, Int.natCast_zero] at this
          rw [this]
          exact hn
        · rw [List.concat_eq_append] at h hn ⊢
          have hp := pred_at h hl
          have h2 : l = pre' ++ b :: (a :: suf) := by rw [h]; simp
          simp only [show (((pre' ++ [b]).length : Nat) : Int) > 0 by first | (simp; done) | (simp; omega), if_true, hp, if_pos (nonneg_at _), if_pos (lt_at h2), rd_implProp h2, specLessProp, Option.bind_some, List.getLast?_append, List.getLast?_singleton, Option.some_or, next_at h hl]
          by_cases c1 : lessProp b a = true
          · simp only [c1, if_true, Bool.true_and]
            exact hn
          · simp only [c1, Bool.false_eq_true, if_false, Bool.false_and]
            exact Ev.now _
      · simp only [c0, Bool.false_eq_true, if_false, Bool.false_and]
        exact Ev.now _
  exact key l [] rfl
theorem implPropsOkB {l : List S72} (hl : l.length ≤ maxLen) (hs : ∀ p ∈ l, SmProp p) : Ev (fun k => impl_PropsOk.f k l) (propsOk l) := by
  have key : ∀ (suf pre : List S72), l = pre ++ suf → Ev (fun k => impl_PropsOk.l0 k l l (l.length : Int) pre.length) (propsL pre.getLast? suf && decide ((l.length : Int) ≤ 4)) := by
    intro suf
    induction suf with
    | nil =>
      intro pre h
      refine Ev.step (fun k => impl_PropsOk.l0.eq_2 ..) ?_
      simp only [if_neg (end_at h), propsL, Bool.true_and]
      exact Ev.now _
    | cons a suf ih =>
      intro pre h
      have hn := ih (pre ++ [a]) (snoc_at h)
      rw [List.getLast?_append] at hn
      simp only [List.getLast?_singleton, Option.some_or] at hn
      refine Ev.step (fun k => impl_PropsOk.l0.eq_2 ..) ?_
      simp only [if_pos (lt_at h), if_pos (nonneg_at _), rd_implProp h]
      refine Ev.bind (implPropOk (hs a (by rw [h]; simp))) ?_
      simp only [propsL]
      by_cases c0 : propOk a = true
      · simp only [c0, if_true, Bool.true_and]
        rcases List.eq_nil_or_concat pre with rfl | ⟨pre', b, rfl⟩
        · simp only [List.length_nil, Int.natCast_zero, show ¬ (0 : Int) > 0 by omega, if_false, List.getLast?_nil, Bool.true_and]
          have := next_at h hl
          simp only [List.length_nil, Int.natCast_zero] at this
          rw [this]
          exact hn
        · rw [List.concat_eq_append] at h hn ⊢
          have hp := pred_at h hl
          have h2 : l = pre' ++ b :: (a :: suf) := by rw [h]; simp
          simp only [show (((pre' ++ [b]).length : Nat) : Int) > 0 by first | (simp; done) | (simp; omega), if_true, hp, if_pos (nonneg_at _), if_pos (lt_at h2), rd_implProp h2, implLessProp, Option.bind_some, List.getLast?_append, List.getLast?_singleton, Option.some_or, next_at h hl]
          by_cases c1 : lessProp b a = true
          · simp only [c1, if_true, Bool.true_and]
            exact hn
          · simp only [c1, Bool.false_eq_true, if_false, Bool.false_and]
            exact Ev.now _
      · simp only [c0, Bool.false_eq_true, if_false, Bool.false_and]
        exact Ev.now _
  exact key l [] rfl
theorem implPropsOk {l : List S72} (hs : SmProps l) : Ev (fun k => impl_PropsOk.f k l) (propsOk l) := implPropsOkB (by have := hs.1; rw [maxLen_eq]; omega) hs.2
def propOf (ns name : ByteArray) : List S72 → ByteArray × Bool
  | [] => (⟨#[]⟩, false)
  | p :: l => if p.f0 = ns ∧ p.f1 = name then (p.f2, true) else propOf ns name l
end Go.Proofs.Ytbgggcgjijljkaa.L

/- Is a path under another one; as the program and the reference have it. No condition. -/
set_option linter.unusedSimpArgs false
set_option linter.unusedVariables false
namespace Go.Proofs.Ytbgggcgjijljkaa.L
open Go.RowKit Go.Proofs.YtbgggcgjijljkaaW.PrintWords Go.Proofs.YtbgggcgjijljkaaW.PrintLast Go.Proofs.Ytbgggcgjijljkaa.Q
end Go.Proofs.Ytbgggcgjijljkaa.L

/- The laws' own functions over a mirrored struct (Set): size, copy, equality. No condition. -/
set_option linter.unusedSimpArgs false
set_option linter.unusedVariables false
namespace Go.Proofs.Ytbgggcgjijljkaa.L
open Go.RowKit Go.Proofs.YtbgggcgjijljkaaW.PrintWords Go.Proofs.YtbgggcgjijljkaaW.PrintLast Go.Proofs.Ytbgggcgjijljkaa.Q
instance : DecidableEq S74 := fun a b => if h : a.f0 = b.f0 ∧ a.f1 = b.f1 then .isTrue (by cases a; cases b; simp_all) else .isFalse (fun e => h (by rw [e]; exact ⟨rfl, rfl⟩))
theorem rd_implSet {l pre suf : List S74} {a : S74} (h : l = pre ++ a :: suf) : rd_T74 l (pre.length : Int) = a := getD_at _ h
def SmSet (p : S74) : Prop := True ∧ SmProp p.f1
def SmSets (l : List S74) : Prop := l.length ≤ 1048576 ∧ ∀ p ∈ l, SmSet p
end Go.Proofs.Ytbgggcgjijljkaa.L

/- What is known of a thing set, all or none; as the program and the reference have it. No condition. -/
set_option linter.unusedSimpArgs false
set_option linter.unusedVariables false
namespace Go.Proofs.Ytbgggcgjijljkaa.L
open Go.RowKit Go.Proofs.YtbgggcgjijljkaaW.PrintWords Go.Proofs.YtbgggcgjijljkaaW.PrintLast Go.Proofs.Ytbgggcgjijljkaa.Q
def setS (s : S74) : Bool → List S72 → List S72
  | d, [] => if d = true then [] else [s.f1]
  | d, a :: l => (if d = true then [] else if lessProp a s.f1 = true then [] else [s.f1]) ++ (if a.f0 = s.f1.f0 ∧ a.f1 = s.f1.f1 then [] else [a]) ++ setS s (d || !lessProp a s.f1) l
theorem setS_length (s : S74) : ∀ (l : List S72) (d : Bool), (setS s d l).length ≤ l.length + (if d = true then 0 else 1)
  | [], d => by cases d <;> simp [setS]
  | a :: l, d => by
    have ih := setS_length s l
    unfold setS
    cases d
    · by_cases c : lessProp a s.f1 = true
      · have := ih false
        by_cases c2 : a.f0 = s.f1.f0 ∧ a.f1 = s.f1.f1 <;> simp [c, c2] at this ⊢ <;> omega
      · have := ih true
        by_cases c2 : a.f0 = s.f1.f0 ∧ a.f1 = s.f1.f1 <;> simp [c, c2] at this ⊢ <;> omega
    · have := ih true
      by_cases c2 : a.f0 = s.f1.f0 ∧ a.f1 = s.f1.f1 <;> simp [c2] at this ⊢ <;> omega
theorem setS_mem (s : S74) : ∀ (l : List S72) (d : Bool) (b : S72), b ∈ setS s d l → b = s.f1 ∨ b ∈ l
  | [], d, b, h => by cases d <;> simp [setS] at h; exact .inl h
  | a :: l, d, b, h => by
    unfold setS at h
    rcases List.mem_append.1 h with h | h
    · rcases List.mem_append.1 h with h | h
      · split at h
        · cases h
        · split at h
          · cases h
          · exact .inl (by simpa using h)
      · split at h
        · cases h
        · exact .inr (by simp at h; simp [h])
    · rcases setS_mem s l _ b h with h | h
      · exact .inl h
      · exact .inr (by simp [h])
theorem specOne {l : List S72} {s : S74} (hl0 : l.length ≤ 4194304) : Ev (fun k => spec_l12One.f k l s.f0 s.f1.f0 s.f1.f1 s.f1.f2) (setS s s.f0 l) := by
  have hl : l.length ≤ maxLen := by rw [maxLen_eq]; omega
  have key : ∀ (suf pre out : List S72) (d : Bool), l = pre ++ suf → out.length ≤ 2 * pre.length → Ev (fun k => spec_l12One.l0 k l out d pre.length s.f0 s.f1.f0 s.f1.f1 s.f1.f2) (out ++ setS s d suf) := by
    intro suf
    induction suf with
    | nil =>
      intro pre out d h ho
      have hp : pre.length = l.length := by rw [h]; simp
      refine Ev.step (fun k => spec_l12One.l0.eq_2 ..) ?_
      simp only [if_neg (end_at h), setS]
      by_cases c : d = true
      · simp only [if_pos c, List.append_nil]; exact Ev.now _
      · simp only [if_neg c, show out.length < 2932031007402 by omega, if_true]; exact Ev.now _
    | cons a suf ih =>
      intro pre out d h ho
      have hpl : l.length = pre.length + (suf.length + 1) := by rw [h]; simp
      have hj1 : ∀ b : Bool, Ev (fun k => spec_l12One.j1 k l out d pre.length b s.f0 s.f1.f0 s.f1.f1 s.f1.f2) (out ++ ((if b = true then [s.f1] else []) ++ ((if a.f0 = s.f1.f0 ∧ a.f1 = s.f1.f1 then [] else [a]) ++ setS s (d || b) suf))) := by
        intro b
        refine Ev.step (fun k => spec_l12One.j1.eq_2 ..) ?_
        by_cases c : b = true
        · subst c
          simp only [if_true, show out.length < 2932031007402 by omega, Option.bind_some, if_pos (nonneg_at _), if_pos (lt_at h), rd_implProp h, next_at h hl, ba_eq, Bool.or_true]
          by_cases c0 : a.f0 = s.f1.f0
          · by_cases c1 : a.f1 = s.f1.f1
            · simp only [if_pos c0, if_pos c1, if_pos (And.intro c0 c1)]
              exact ev_cast (ih (pre ++ [a]) (out ++ [s.f1]) true (snoc_at h) (by simp; omega)) (by simp)
            · simp only [if_pos c0, if_neg c1, if_neg (fun e : a.f0 = s.f1.f0 ∧ a.f1 = s.f1.f1 => c1 e.2), show ∀ x : S72, (out ++ [x]).length < 2932031007402 from fun x => (by simp; omega), if_true]
              exact ev_cast (ih (pre ++ [a]) (out ++ [s.f1] ++ [a]) true (snoc_at h) (by simp; omega)) (by simp)
          · simp only [if_neg c0, if_neg (fun e : a.f0 = s.f1.f0 ∧ a.f1 = s.f1.f1 => c0 e.1), show ∀ x : S72, (out ++ [x]).length < 2932031007402 from fun x => (by simp; omega), if_true]
            exact ev_cast (ih (pre ++ [a]) (out ++ [s.f1] ++ [a]) true (snoc_at h) (by simp; omega)) (by simp)
        · have c' : b = false := by simpa using c
          subst c'
          simp only [Bool.false_eq_true, if_false, if_pos (nonneg_at _), if_pos (lt_at h), rd_implProp h, next_at h hl, ba_eq, Bool.or_false, List.nil_append]
          by_cases c0 : a.f0 = s.f1.f0
          · by_cases c1 : a.f1 = s.f1.f1
            · simp only [if_pos c0, if_pos c1, if_pos (And.intro c0 c1), List.nil_append]
              exact ih (pre ++ [a]) out d (snoc_at h) (by simp; omega)
            · simp only [if_pos c0, if_neg c1, if_neg (fun e : a.f0 = s.f1.f0 ∧ a.f1 = s.f1.f1 => c1 e.2), show out.length < 2932031007402 by omega, if_true]
              exact ev_cast (ih (pre ++ [a]) (out ++ [a]) d (snoc_at h) (by simp; omega)) (by simp)
          · simp only [if_neg c0, if_neg (fun e : a.f0 = s.f1.f0 ∧ a.f1 = s.f1.f1 => c0 e.1), show out.length < 2932031007402 by omega, if_true]
            exact ev_cast (ih (pre ++ [a]) (out ++ [a]) d (snoc_at h) (by simp; omega)) (by simp)
      refine Ev.step (fun k => spec_l12One.l0.eq_2 ..) ?_
      simp only [if_pos (lt_at h), if_pos (nonneg_at _), rd_implProp h, setS, specLessProp, Option.bind_some]
      by_cases c : d = true
      · subst c
        simp only [if_true]
        exact ev_cast (hj1 false) (by simp)
      · have c' : d = false := by simpa using c
        subst c'
        simp only [Bool.false_eq_true, if_false]
        refine ev_cast (hj1 (!lessProp a s.f1)) ?_
        by_cases c2 : lessProp a s.f1 = true
        · simp [c2]
        · simp [c2]
  exact key l [] [] s.f0 rfl (by simp)
theorem implOne {l : List S72} {s : S74} (hl0 : l.length ≤ 4194304) : Ev (fun k => impl_setProp.f k l s.f0 s.f1.f0 s.f1.f1 s.f1.f2) (setS s s.f0 l) := by
  have hl : l.length ≤ maxLen := by rw [maxLen_eq]; omega
  have key : ∀ (suf pre out : List S72) (d : Bool), l = pre ++ suf → out.length ≤ 2 * pre.length → Ev (fun k => impl_setProp.l0 k out d l (l.length : Int) pre.length s.f0 s.f1.f0 s.f1.f1 s.f1.f2) (out ++ setS s d suf) := by
    intro suf
    induction suf with
    | nil =>
      intro pre out d h ho
      have hp : pre.length = l.length := by rw [h]; simp
      refine Ev.step (fun k => impl_setProp.l0.eq_2 ..) ?_
      simp only [if_neg (end_at h), setS]
      by_cases c : d = true
      · simp only [if_pos c, List.append_nil]; exact Ev.now _
      · simp only [if_neg c, show out.length < 2932031007402 by omega, if_true]; exact Ev.now _
    | cons a suf ih =>
      intro pre out d h ho
      have hpl : l.length = pre.length + (suf.length + 1) := by rw [h]; simp
      have hj1 : ∀ b : Bool, Ev (fun k => impl_setProp.j1 k out d l (l.length : Int) pre.length b s.f0 s.f1.f0 s.f1.f1 s.f1.f2 a.f0 a.f1 a.f2) (out ++ ((if b = true then [s.f1] else []) ++ ((if a.f0 = s.f1.f0 ∧ a.f1 = s.f1.f1 then [] else [a]) ++ setS s (d || b) suf))) := by
        intro b
        refine Ev.step (fun k => impl_setProp.j1.eq_2 ..) ?_
        by_cases c : b = true
        · subst c
          simp only [if_true, show out.length < 2932031007402 by omega, Option.bind_some, next_at h hl, ba_eq, Bool.or_true]
          by_cases c0 : a.f0 = s.f1.f0
          · by_cases c1 : a.f1 = s.f1.f1
            · simp only [if_pos c0, if_pos c1, if_pos (And.intro c0 c1)]
              exact ev_cast (ih (pre ++ [a]) (out ++ [s.f1]) true (snoc_at h) (by simp; omega)) (by simp)
            · simp only [if_pos c0, if_neg c1, if_neg (fun e : a.f0 = s.f1.f0 ∧ a.f1 = s.f1.f1 => c1 e.2), show ∀ x : S72, (out ++ [x]).length < 2932031007402 from fun x => (by simp; omega), if_true]
              exact ev_cast (ih (pre ++ [a]) (out ++ [s.f1] ++ [a]) true (snoc_at h) (by simp; omega)) (by simp)
          · simp only [if_neg c0, if_neg (fun e : a.f0 = s.f1.f0 ∧ a.f1 = s.f1.f1 => c0 e.1), show ∀ x : S72, (out ++ [x]).length < 2932031007402 from fun x => (by simp; omega), if_true]
            exact ev_cast (ih (pre ++ [a]) (out ++ [s.f1] ++ [a]) true (snoc_at h) (by simp; omega)) (by simp)
        · have c' : b = false := by simpa using c
          subst c'
          simp only [Bool.false_eq_true, if_false, next_at h hl, ba_eq, Bool.or_false, List.nil_append]
          by_cases c0 : a.f0 = s.f1.f0
          · by_cases c1 : a.f1 = s.f1.f1
            · simp only [if_pos c0, if_pos c1, if_pos (And.intro c0 c1), List.nil_append]
              exact ih (pre ++ [a]) out d (snoc_at h) (by simp; omega)
            · simp only [if_pos c0, if_neg c1, if_neg (fun e : a.f0 = s.f1.f0 ∧ a.f1 = s.f1.f1 => c1 e.2), show out.length < 2932031007402 by omega, if_true]
              exact ev_cast (ih (pre ++ [a]) (out ++ [a]) d (snoc_at h) (by simp; omega)) (by simp)
          · simp only [if_neg c0, if_neg (fun e : a.f0 = s.f1.f0 ∧ a.f1 = s.f1.f1 => c0 e.1), show out.length < 2932031007402 by omega, if_true]
            exact ev_cast (ih (pre ++ [a]) (out ++ [a]) d (snoc_at h) (by simp; omega)) (by simp)
      refine Ev.step (fun k => impl_setProp.l0.eq_2 ..) ?_
      simp only [if_pos (lt_at h), if_pos (nonneg_at _), rd_implProp h, setS, implLessProp, Option.bind_some]
      by_cases c : d = true
      · subst c
        simp only [if_true]
        exact ev_cast (hj1 false) (by simp)
      · have c' : d = false := by simpa using c
        subst c'
        simp only [Bool.false_eq_true, if_false]
        refine ev_cast (hj1 (!lessProp a s.f1)) ?_
        by_cases c2 : lessProp a s.f1 = true
        · simp [c2]
        · simp [c2]
  exact key l [] [] s.f0 rfl (by simp)
def setAll (l0 : List S72) : List S72 → List S74 → List S72 × Bool
  | out, [] => if propsOk out = true then (out, true) else (l0, false)
  | out, s :: sets => if propOk s.f1 = true then setAll l0 (setS s s.f0 out) sets else (l0, false)
theorem specSetAll {l : List S72} {sets : List S74} (hl : SmProps l) (hs : SmSets sets) : Ev (fun k => spec_SetProps.f k l sets) (setAll l l sets) := by
  have hl0 := hl.1
  have hs0 := hs.1
  have hsl : sets.length ≤ maxLen := by rw [maxLen_eq]; omega
  unfold spec_SetProps.f
  simp only [Option.bind_some, List.length_nil, Nat.zero_add, List.nil_append, show l.length < 2932031007402 by omega, if_true]
  have key : ∀ (suf pre : List S74) (out : List S72), sets = pre ++ suf → out.length ≤ l.length + pre.length → (∀ p ∈ out, SmProp p) → Ev (fun k => spec_SetProps.l0 k l sets out pre.length) (setAll l out suf) := by
    intro suf
    induction suf with
    | nil =>
      intro pre out h ho hm
      have hp : pre.length = sets.length := by rw [h]; simp
      refine Ev.step (fun k => spec_SetProps.l0.eq_2 ..) ?_
      simp only [if_neg (end_at h), setAll]
      refine Ev.bind (specPropsOkB (by rw [maxLen_eq]; omega) hm) ?_
      by_cases c : propsOk out = true
      · simp only [if_pos c]; exact Ev.now _
      · simp only [if_neg c, Option.bind_some, List.length_nil, Nat.zero_add, List.nil_append, show l.length < 2932031007402 by omega, if_true]; exact Ev.now _
    | cons s suf ih =>
      intro pre out h ho hm
      have hpl : sets.length = pre.length + (suf.length + 1) := by rw [h]; simp
      have hss := hs.2 s (by rw [h]; simp)
      refine Ev.step (fun k => spec_SetProps.l0.eq_2 ..) ?_
      simp only [if_pos (lt_at h), if_pos (nonneg_at _), rd_implSet h, setAll, next_at h hsl]
      refine Ev.bind (specPropOk hss.2) ?_
      by_cases c : propOk s.f1 = true
      · simp only [if_pos c]
        refine Ev.bind (specOne (by omega)) ?_
        refine ih (pre ++ [s]) _ (snoc_at h) ?_ (fun p hp => ?_)
        · have h2 := setS_length s out s.f0
          have h3 : (if s.f0 = true then 0 else 1) ≤ 1 := by split <;> omega
          simp; omega
        · rcases setS_mem s out _ p hp with rfl | hp
          · exact hss.2
          · exact hm p hp
      · simp only [if_neg c, Option.bind_some, List.length_nil, Nat.zero_add, List.nil_append, show l.length < 2932031007402 by omega, if_true]; exact Ev.now _
  exact key sets [] l rfl (by simp) hl.2
theorem implSetAll {l : List S72} {sets : List S74} (hl : SmProps l) (hs : SmSets sets) : Ev (fun k => impl_SetProps.f k l sets) (setAll l l sets) := by
  have hl0 := hl.1
  have hs0 := hs.1
  have hsl : sets.length ≤ maxLen := by rw [maxLen_eq]; omega
  unfold impl_SetProps.f
  simp only [List.length_nil, Nat.zero_add, List.nil_append, show l.length < 2932031007402 by omega, if_true]
  have key : ∀ (suf pre : List S74) (out : List S72), sets = pre ++ suf → out.length ≤ l.length + pre.length → (∀ p ∈ out, SmProp p) → Ev (fun k => impl_SetProps.l0 k l out sets (sets.length : Int) pre.length) (setAll l out suf) := by
    intro suf
    induction suf with
    | nil =>
      intro pre out h ho hm
      have hp : pre.length = sets.length := by rw [h]; simp
      refine Ev.step (fun k => impl_SetProps.l0.eq_2 ..) ?_
      simp only [if_neg (end_at h), setAll]
      refine Ev.bind (implPropsOkB (by rw [maxLen_eq]; omega) hm) ?_
      by_cases c : propsOk out = true
      · simp only [if_pos c]; exact Ev.now _
      · simp only [if_neg c]; exact Ev.now _
    | cons s suf ih =>
      intro pre out h ho hm
      have hpl : sets.length = pre.length + (suf.length + 1) := by rw [h]; simp
      have hss := hs.2 s (by rw [h]; simp)
      refine Ev.step (fun k => impl_SetProps.l0.eq_2 ..) ?_
      simp only [if_pos (lt_at h), if_pos (nonneg_at _), rd_implSet h, setAll, next_at h hsl]
      refine Ev.bind (implPropOk hss.2) ?_
      by_cases c : propOk s.f1 = true
      · simp only [if_pos c]
        refine Ev.bind (implOne (by omega)) ?_
        refine ih (pre ++ [s]) _ (snoc_at h) ?_ (fun p hp => ?_)
        · have h2 := setS_length s out s.f0
          have h3 : (if s.f0 = true then 0 else 1) ≤ 1 := by split <;> omega
          simp; omega
        · rcases setS_mem s out _ p hp with rfl | hp
          · exact hss.2
          · exact hm p hp
      · simp only [if_neg c]; exact Ev.now _
  exact key sets [] l rfl (by simp) hl.2
end Go.Proofs.Ytbgggcgjijljkaa.L

/- Draws of properties. No condition. -/
set_option linter.unusedSimpArgs false
set_option linter.unusedVariables false
namespace Go.Proofs.Ytbgggcgjijljkaa.L
open Go.RowKit Go.Proofs.YtbgggcgjijljkaaW.PrintWords Go.Proofs.YtbgggcgjijljkaaW.PrintLast Go.Proofs.Ytbgggcgjijljkaa.Q
def Few (l : List S72) : Prop := l.length ≤ 8 ∧ ∀ p ∈ l, SmProp p
theorem Few.sm {l : List S72} (h : Few l) : SmProps l := ⟨by have := h.1; omega, h.2⟩
theorem setAll_few {n : Nat} (hn : 4 ≤ n) {l0 : List S72} (h0 : l0.length ≤ n ∧ ∀ p ∈ l0, SmProp p) : ∀ (sets : List S74) (out : List S72), (∀ s ∈ sets, SmSet s) → (∀ p ∈ out, SmProp p) → (setAll l0 out sets).1.length ≤ n ∧ ∀ p ∈ (setAll l0 out sets).1, SmProp p
  | [], out, _, ho => by
    unfold setAll
    by_cases c : propsOk out = true
    · simp only [if_pos c]
      refine ⟨?_, ho⟩
      unfold propsOk at c
      have := of_decide_eq_true (Bool.and_eq_true_iff.1 c).2
      omega
    · simp only [if_neg c]; exact h0
  | s :: sets, out, hs, ho => by
    unfold setAll
    by_cases c : propOk s.f1 = true
    · simp only [if_pos c]
      refine setAll_few hn h0 sets _ (fun x hx => hs x (by simp [hx])) (fun p hp => ?_)
      rcases setS_mem s out _ p hp with rfl | hp
      · exact (hs s (by simp)).2
      · exact ho p hp
    · simp only [if_neg c]; exact h0
theorem mem_sz {v : ByteArray} {l : List ByteArray} (h : v ∈ l) (hl : l.all (fun x => decide (x.size ≤ 1048576)) = true) : v.size ≤ 1048576 := of_decide_eq_true (List.all_eq_true.1 hl v h)
theorem onePropD {b : List Int} {p : Int} (h : Cur b p) (s : Int) : ∃ x y z p' s', spec_l10OneProp.f b p s = some (x, y, z, p', s') ∧ SmProp (⟨x, y, z⟩ : S72) ∧ Cur b p' := by
  unfold spec_l10OneProp.f
  obtain ⟨v, p1, s1, e, m, h1⟩ := strD h s (l := [(⟨#[68, 65, 86, 58]⟩ : ByteArray), (⟨#[117, 58, 120]⟩ : ByteArray), (⟨#[]⟩ : ByteArray)]) (by simp)
  have m1 := mem_sz m (by decide)
  simp only [e, Option.bind_some]
  obtain ⟨v', p2, s2, e, m, h2⟩ := strD h1 s1 (l := [(⟨#[97]⟩ : ByteArray), (⟨#[99, 111, 108, 111, 114]⟩ : ByteArray), (⟨#[98]⟩ : ByteArray)]) (by simp)
  have m2 := mem_sz m (by decide)
  simp only [e, Option.bind_some]
  obtain ⟨v'', p3, s3, e, m, h3⟩ := strD h2 s2 (l := [(⟨#[]⟩ : ByteArray), (⟨#[114, 101, 100]⟩ : ByteArray), (⟨#[97, 60, 98]⟩ : ByteArray)]) (by simp)
  have m3 := mem_sz m (by decide)
  simp only [e, Option.bind_some]
  exact ⟨_, _, _, _, _, rfl, ⟨m1, m2, m3⟩, h3⟩
theorem setAll_ok (l0 : List S72) : ∀ (sets : List S74) (out : List S72), (setAll l0 out sets).2 = true → propsOk (setAll l0 out sets).1 = true
  | [], out, h => by
    unfold setAll at h ⊢
    by_cases c : propsOk out = true
    · simp only [if_pos c]; exact c
    · simp only [if_neg c] at h; cases h
  | t :: sets, out, h => by
    unfold setAll at h ⊢
    by_cases c : propOk t.f1 = true
    · simp only [if_pos c] at h ⊢
      exact setAll_ok l0 sets _ h
    · simp only [if_neg c] at h; cases h
theorem setAll_no (l0 : List S72) : ∀ (sets : List S74) (out : List S72), ¬ (setAll l0 out sets).2 = true → (setAll l0 out sets).1 = l0
  | [], out, h => by
    unfold setAll at h ⊢
    by_cases c : propsOk out = true
    · rw [if_pos c] at h; exact absurd rfl h
    · simp only [if_neg c]
  | t :: sets, out, h => by
    unfold setAll at h ⊢
    by_cases c : propOk t.f1 = true
    · simp only [if_pos c] at h ⊢
      exact setAll_no l0 sets _ h
    · simp only [if_neg c]
theorem propsD {b : List Int} {p : Int} (h : Cur b p) (s : Int) : ∃ l p' s', Ev (fun k => spec_l10Props.f k b p s) (l, p', s') ∧ (l.length ≤ 4 ∧ (∀ x ∈ l, SmProp x) ∧ propsOk l = true) ∧ Cur b p' := by
  unfold spec_l10Props.f
  obtain ⟨v, p1, s1, e, v0, v1, h1⟩ := belowD h s (n := 3) (by omega)
  simp only [e, Option.bind_some]
  have key : ∀ (n : Nat) (out : List S72) (q t : Int), n ≤ 1000 → (out.length ≤ 4 ∧ (∀ x ∈ out, SmProp x) ∧ propsOk out = true) → Cur b q → ∃ l p' s', Ev (fun k => spec_l10Props.l0 k out (n : Int) b q t) (l, p', s') ∧ (l.length ≤ 4 ∧ (∀ x ∈ l, SmProp x) ∧ propsOk l = true) ∧ Cur b p' := by
    intro n
    induction n with
    | zero =>
      intro out q t _ ho hq
      refine ⟨out, q, t, ?_, ho, hq⟩
      refine Ev.step (fun k => spec_l10Props.l0.eq_2 ..) ?_
      simp only [if_neg (show ¬ ((0 : Nat) : Int) > 0 by decide)]
      exact Ev.now _
    | succ n ih =>
      intro out q t hn ho hq
      obtain ⟨x, y, z, q1, t1, e, m, hq1⟩ := onePropD hq t
      have hset : SmSets [(⟨false, (⟨x, y, z⟩ : S72)⟩ : S74)] := ⟨by simp, by intro c hc; simp at hc; subst hc; exact ⟨trivial, m⟩⟩
      have hpo : propsOk (setAll out out [(⟨false, (⟨x, y, z⟩ : S72)⟩ : S74)]).1 = true := by
        by_cases c : (setAll out out [(⟨false, (⟨x, y, z⟩ : S72)⟩ : S74)]).2 = true
        · exact setAll_ok out _ out c
        · rw [setAll_no out _ out c]; exact ho.2.2
      obtain ⟨l, q2, t2, he, hl, hq2⟩ := ih (setAll out out [(⟨false, (⟨x, y, z⟩ : S72)⟩ : S74)]).1 q1 t1 (by omega) ⟨(setAll_few (Nat.le_refl 4) ⟨ho.1, ho.2.1⟩ _ _ hset.2 ho.2.1).1, (setAll_few (Nat.le_refl 4) ⟨ho.1, ho.2.1⟩ _ _ hset.2 ho.2.1).2, hpo⟩ hq1
      refine ⟨l, q2, t2, ?_, hl, hq2⟩
      refine Ev.step (fun k => spec_l10Props.l0.eq_2 ..) ?_
      simp only [if_pos (show ((n + 1 : Nat) : Int) > 0 by omega), e, Option.bind_some]
      refine Ev.bind (specSetAll ⟨by have := ho.1; omega, ho.2.1⟩ hset) ?_
      rw [show wrap64 (((n + 1 : Nat) : Int) - 1) = (n : Int) by rw [wrap_id (by omega) (by omega)]; omega]
      exact he
  obtain ⟨n, rfl⟩ := Int.eq_ofNat_of_zero_le v0
  exact key n [] p1 s1 (by omega) ⟨by simp, by simp, by decide⟩ h1
end Go.Proofs.Ytbgggcgjijljkaa.L

/- Draws of properties and of sets; what is told of a thing, behind sets. No condition. -/
set_option linter.unusedSimpArgs false
set_option linter.unusedVariables false
namespace Go.Proofs.Ytbgggcgjijljkaa.L
open Go.RowKit Go.Proofs.YtbgggcgjijljkaaW.PrintWords Go.Proofs.YtbgggcgjijljkaaW.PrintLast Go.Proofs.Ytbgggcgjijljkaa.Q
def FewS (l : List S74) : Prop := l.length ≤ 8 ∧ ∀ s ∈ l, SmSet s
theorem FewS.sm {l : List S74} (h : FewS l) : SmSets l := ⟨by have := h.1; omega, h.2⟩
theorem drawPropsOkD {code : List Int} (hc : code.length ≤ 1048576) : ∃ l, Ev (fun k => spec_DrawPropsOk.f k code) l ∧ Few l := by
  unfold spec_DrawPropsOk.f
  obtain ⟨s0, e0⟩ := newD hc
  obtain ⟨l, p1, s1, e1, ⟨hl, hm, _⟩, h1⟩ := propsD (cur0 hc) s0
  obtain ⟨v, p2, s2, e2, h2⟩ := onceD h1 s1 2
  by_cases c : v = true
  · obtain ⟨x, p3, s3, e3, m, h3⟩ := strD h2 s2 (l := [(⟨#[122]⟩ : ByteArray), (⟨#[1]⟩ : ByteArray), (⟨#[116, 119, 101, 110, 116, 121, 45, 111, 110, 101, 45, 98, 121, 116, 101, 115, 45, 116, 101, 120, 116]⟩ : ByteArray)]) (by simp)
    have m1 := mem_sz m (by decide)
    obtain ⟨y, p4, s4, e4, m, h4⟩ := strD h3 s3 (l := [(⟨#[97]⟩ : ByteArray), (⟨#[65]⟩ : ByteArray)]) (by simp)
    have m2 := mem_sz m (by decide)
    obtain ⟨z, p5, s5, e5, m, h5⟩ := strD h4 s4 (l := [(⟨#[]⟩ : ByteArray), (⟨#[116, 119, 101, 110, 116, 121, 45, 111, 110, 101, 45, 98, 121, 116, 101, 115, 45, 116, 101, 120, 116]⟩ : ByteArray)]) (by simp)
    have m3 := mem_sz m (by decide)
    refine ⟨l ++ [⟨x, y, z⟩], ?_, by simp; omega, ?_⟩
    · refine Ev.bind e0 ?_
      refine Ev.bind e1 ?_
      simp only [e2, Option.bind_some, if_pos c, e3, e4, e5, if_pos (show l.length < 2932031007402 by omega)]
      exact Ev.now _
    · intro q hq
      rcases List.mem_append.1 hq with hq | hq
      · exact hm q hq
      · simp at hq; subst hq; exact ⟨m1, m2, m3⟩
  · refine ⟨l, ?_, by omega, hm⟩
    refine Ev.bind e0 ?_
    refine Ev.bind e1 ?_
    simp only [e2, Option.bind_some, if_neg c]
    exact Ev.now _
theorem setsD {b : List Int} {p : Int} (h : Cur b p) (s : Int) : ∃ l p' s', Ev (fun k => spec_l12Sets.f k b p s) (l, p', s') ∧ (l.length ≤ 3 ∧ ∀ x ∈ l, SmSet x) ∧ Cur b p' := by
  unfold spec_l12Sets.f
  obtain ⟨v, p1, s1, e, v0, v1, h1⟩ := belowD h s (n := 4) (by omega)
  simp only [e, Option.bind_some]
  have key : ∀ (n : Nat) (out : List S74) (q t : Int), (out.length + n ≤ 3 ∧ ∀ x ∈ out, SmSet x) → Cur b q → ∃ l p' s', Ev (fun k => spec_l12Sets.l0 k out (n : Int) b q t) (l, p', s') ∧ (l.length ≤ 3 ∧ ∀ x ∈ l, SmSet x) ∧ Cur b p' := by
    intro n
    induction n with
    | zero =>
      intro out q t ho hq
      refine ⟨out, q, t, ?_, ⟨by omega, ho.2⟩, hq⟩
      refine Ev.step (fun k => spec_l12Sets.l0.eq_2 ..) ?_
      simp only [if_neg (show ¬ ((0 : Nat) : Int) > 0 by decide)]
      exact Ev.now _
    | succ n ih =>
      intro out q t ho hq
      obtain ⟨d, q0, t0, e0, hq0⟩ := onceD hq t 3
      obtain ⟨x, y, z, q1, t1, e, m, hq1⟩ := onePropD hq0 t0
      have hw : wrap64 (((n + 1 : Nat) : Int) - 1) = (n : Int) := by rw [wrap_id (by omega) (by omega)]; omega
      have hap : ∀ z', z'.size ≤ 1048576 → ((out ++ [(⟨d, (⟨x, y, z'⟩ : S72)⟩ : S74)]).length + n ≤ 3 ∧ ∀ w ∈ out ++ [(⟨d, (⟨x, y, z'⟩ : S72)⟩ : S74)], SmSet w) := fun z' hz => ⟨by simp; omega, fun w hw => by
        rcases List.mem_append.1 hw with hw | hw
        · exact ho.2 w hw
        · simp at hw; subst hw; exact ⟨trivial, m.1, m.2.1, hz⟩⟩
      by_cases c : d = true
      · obtain ⟨l, q2, t2, he, hl, hq2⟩ := ih _ q1 t1 (hap (⟨#[]⟩ : ByteArray) (by decide)) hq1
        refine ⟨l, q2, t2, ?_, hl, hq2⟩
        refine Ev.step (fun k => spec_l12Sets.l0.eq_2 ..) ?_
        simp only [if_pos (show ((n + 1 : Nat) : Int) > 0 by omega), e0, e, Option.bind_some, if_pos c, if_pos (show out.length < 2513169434916 by omega), hw]
        exact he
      · obtain ⟨l, q2, t2, he, hl, hq2⟩ := ih _ q1 t1 (hap z m.2.2) hq1
        refine ⟨l, q2, t2, ?_, hl, hq2⟩
        refine Ev.step (fun k => spec_l12Sets.l0.eq_2 ..) ?_
        simp only [if_pos (show ((n + 1 : Nat) : Int) > 0 by omega), e0, e, Option.bind_some, if_neg c, if_pos (show out.length < 2513169434916 by omega), hw]
        exact he
  obtain ⟨n, rfl⟩ := Int.eq_ofNat_of_zero_le v0
  exact key n [] p1 s1 ⟨by simp; omega, by simp⟩ h1
theorem numD {n : Int} (h0 : 0 ≤ n) (h1 : n ≤ 9) : ∃ s, Ev (fun k => spec_NumText.f k n) s ∧ s.size ≤ 1048000 := by
  refine ⟨strOfNums [(wrap64 (48 + (Int.tmod n 10))) % 256], ?_, ?_⟩
  · unfold spec_NumText.f
    simp only [if_neg (show ¬ n < 0 by omega)]
    refine Ev.step (fun k => spec_NumText.j0.eq_2 ..) ?_
    refine Ev.step (fun k => spec_NumText.l0.eq_2 ..) ?_
    simp only [if_neg (show ¬ n > 9 by omega)]
    exact Ev.now _
  · simp [strOfNums, ByteArray.size]
theorem anyD {b : List Int} {p : Int} (h : Cur b p) (s : Int) : ∃ l p' s', Ev (fun k => spec_l12Any.f k b p s) (l, p', s') ∧ FewS l ∧ Cur b p' := by
  unfold spec_l12Any.f
  obtain ⟨l, p1, s1, e1, ⟨hl, hm⟩, h1⟩ := setsD h s
  obtain ⟨v, p2, s2, e2, v0, v1, h2⟩ := belowD h1 s1 (n := 6) (by omega)
  by_cases c0 : v = 0
  · obtain ⟨d, p3, s3, e3, h3⟩ := onceD h2 s2 2
    obtain ⟨x, p4, s4, e4, m, h4⟩ := strD h3 s3 (l := [(⟨#[122]⟩ : ByteArray), (⟨#[1]⟩ : ByteArray)]) (by simp)
    have m1 := mem_sz m (by decide)
    obtain ⟨y, p5, s5, e5, m, h5⟩ := strD h4 s4 (l := [(⟨#[97]⟩ : ByteArray), (⟨#[65]⟩ : ByteArray)]) (by simp)
    have m2 := mem_sz m (by decide)
    obtain ⟨z, p6, s6, e6, m, h6⟩ := strD h5 s5 (l := [(⟨#[120]⟩ : ByteArray), (⟨#[116, 119, 101, 110, 116, 121, 45, 111, 110, 101, 45, 98, 121, 116, 101, 115, 45, 116, 101, 120, 116]⟩ : ByteArray)]) (by simp)
    have m3 := mem_sz m (by decide)
    refine ⟨l ++ [⟨d, ⟨x, y, z⟩⟩], p6, s6, ?_, ⟨by simp; omega, ?_⟩, h6⟩
    · refine Ev.bind e1 ?_
      simp only [e2, Option.bind_some, if_pos c0, e3, e4, e5, e6, if_pos (show l.length < 2513169434916 by omega)]
      exact Ev.now _
    · intro q hq
      rcases List.mem_append.1 hq with hq | hq
      · exact hm q hq
      · simp at hq; subst hq; exact ⟨trivial, m1, m2, m3⟩
  by_cases c1 : v = 1
  · have key : ∀ (n : Nat) (i : Nat) (out : List S74), i + n = 5 → (out.length + n ≤ 8 ∧ ∀ x ∈ out, SmSet x) → ∃ l', Ev (fun k => spec_l12Any.l0 k out (i : Int) b p2 s2) (l', p2, s2) ∧ FewS l' := by
      intro n
      induction n with
      | zero =>
        intro i out hi ho
        refine ⟨out, ?_, ⟨by omega, ho.2⟩⟩
        refine Ev.step (fun k => spec_l12Any.l0.eq_2 ..) ?_
        simp only [if_neg (show ¬ (i : Int) < 5 by omega)]
        exact Ev.now _
      | succ n ih =>
        intro i out hi ho
        obtain ⟨w, ew, hw⟩ := numD (n := (i : Int)) (by omega) (by omega)
        have hsz : ((⟨#[110]⟩ : ByteArray) ++ w).size ≤ 1048576 := by rw [ByteArray.size_append]; have : (⟨#[110]⟩ : ByteArray).size = 1 := by decide
                                                                      omega
        obtain ⟨l', el, hl'⟩ := ih (i + 1) (out ++ [(⟨false, (⟨(⟨#[]⟩ : ByteArray), (⟨#[110]⟩ : ByteArray) ++ w, (⟨#[]⟩ : ByteArray)⟩ : S72)⟩ : S74)]) (by omega) ⟨by simp; omega, fun q hq => by
          rcases List.mem_append.1 hq with hq | hq
          · exact ho.2 q hq
          · simp at hq; subst hq; exact ⟨trivial, (show (0 : Nat) ≤ 1048576 by omega), hsz, (show (0 : Nat) ≤ 1048576 by omega)⟩⟩
        refine ⟨l', ?_, hl'⟩
        refine Ev.step (fun k => spec_l12Any.l0.eq_2 ..) ?_
        simp only [if_pos (show (i : Int) < 5 by omega)]
        refine Ev.bind ew ?_
        simp only [if_pos (show 1 + w.size ≤ 9223372036854775807 by omega), if_pos (show out.length < 2513169434916 by omega)]
        rw [show wrap64 ((i : Int) + 1) = ((i + 1 : Nat) : Int) by rw [wrap_id (by omega) (by omega)]; omega]
        exact el
    obtain ⟨l', el, hl'⟩ := key 5 0 l rfl ⟨by omega, hm⟩
    refine ⟨l', p2, s2, ?_, hl', h2⟩
    refine Ev.bind e1 ?_
    simp only [e2, Option.bind_some, if_neg c0, if_pos c1]
    exact el
  · refine ⟨l, p2, s2, ?_, ⟨by omega, hm⟩, h2⟩
    refine Ev.bind e1 ?_
    simp only [e2, Option.bind_some, if_neg c0, if_neg c1]
    exact Ev.now _
theorem drawSetPropsD {code : List Int} (hc : code.length ≤ 1048576) : ∃ l sets, Ev (fun k => spec_DrawSetProps.f k code) (l, sets) ∧ Few l ∧ FewS sets := by
  unfold spec_DrawSetProps.f
  obtain ⟨l, el, hl⟩ := drawPropsOkD hc
  obtain ⟨s0, e0⟩ := newD hc
  obtain ⟨sets, p1, s1, e1, hs, _⟩ := anyD (cur0 hc) s0
  exact ⟨l, sets, Ev.bind el (Ev.bind e0 (Ev.bind e1 (Ev.now _))), hl, hs⟩
theorem drawPropOfD {code : List Int} (hc : code.length ≤ 1048576) : ∃ l ns name, Ev (fun k => spec_DrawPropOf.f k code) (l, ns, name) ∧ SmProps l := by
  unfold spec_DrawPropOf.f
  obtain ⟨s0, e0⟩ := newD hc
  obtain ⟨l, p1, s1, e1, ⟨hl, hm, _⟩, h1⟩ := propsD (cur0 hc) s0
  obtain ⟨x, p2, s2, e2, _, h2⟩ := strD h1 s1 (l := [(⟨#[68, 65, 86, 58]⟩ : ByteArray), (⟨#[117, 58, 120]⟩ : ByteArray), (⟨#[]⟩ : ByteArray)]) (by simp)
  obtain ⟨y, p3, s3, e3, _, h3⟩ := strD h2 s2 (l := [(⟨#[97]⟩ : ByteArray), (⟨#[99, 111, 108, 111, 114]⟩ : ByteArray), (⟨#[98]⟩ : ByteArray)]) (by simp)
  refine ⟨l, x, y, ?_, by omega, hm⟩
  refine Ev.bind e0 (Ev.bind e1 ?_)
  simp only [e2, e3, Option.bind_some]
  exact Ev.now _
end Go.Proofs.Ytbgggcgjijljkaa.L

/- What is known of a thing by a space and a name, as the program and the reference have it. No condition. -/
set_option linter.unusedSimpArgs false
set_option linter.unusedVariables false
namespace Go.Proofs.Ytbgggcgjijljkaa.L
open Go.RowKit Go.Proofs.YtbgggcgjijljkaaW.PrintWords Go.Proofs.YtbgggcgjijljkaaW.PrintLast Go.Proofs.Ytbgggcgjijljkaa.Q
theorem specPropOf {l : List S72} {ns name : ByteArray} (hs : SmProps l) : Ev (fun k => spec_PropOf.f k l ns name) (propOf ns name l) := by
  have hl : l.length ≤ maxLen := by have := hs.1; rw [maxLen_eq]; omega
  have key : ∀ (suf pre : List S72), l = pre ++ suf → Ev (fun k => spec_PropOf.l0 k l ns name pre.length) (propOf ns name suf) := by
    intro suf
    induction suf with
    | nil =>
      intro pre h
      refine Ev.step (fun k => spec_PropOf.l0.eq_2 ..) ?_
      simp only [if_neg (end_at h), propOf]
      exact Ev.now _
    | cons a suf ih =>
      intro pre h
      refine Ev.step (fun k => spec_PropOf.l0.eq_2 ..) ?_
      simp only [if_pos (lt_at h), if_pos (nonneg_at _), rd_implProp h, ba_eq, next_at h hl, propOf]
      by_cases e0 : a.f0 = ns <;> by_cases e1 : a.f1 = name
      · simp only [e0, e1, if_true, and_self]; exact Ev.now _
      · simp only [e0, e1, if_true, if_false, and_false]; exact ih (pre ++ [a]) (snoc_at h)
      · simp only [e0, e1, if_false, false_and]; exact ih (pre ++ [a]) (snoc_at h)
      · simp only [e0, e1, if_false, false_and]; exact ih (pre ++ [a]) (snoc_at h)
  exact key l [] rfl
theorem implPropOf {l : List S72} {ns name : ByteArray} (hs : SmProps l) : Ev (fun k => impl_PropOf.f k l ns name) (propOf ns name l) := by
  have hl : l.length ≤ maxLen := by have := hs.1; rw [maxLen_eq]; omega
  have key : ∀ (suf pre : List S72), l = pre ++ suf → Ev (fun k => impl_PropOf.l0 k ns name l (l.length : Int) pre.length) (propOf ns name suf) := by
    intro suf
    induction suf with
    | nil =>
      intro pre h
      refine Ev.step (fun k => impl_PropOf.l0.eq_2 ..) ?_
      simp only [if_neg (end_at h), propOf]
      exact Ev.now _
    | cons a suf ih =>
      intro pre h
      refine Ev.step (fun k => impl_PropOf.l0.eq_2 ..) ?_
      simp only [if_pos (lt_at h), if_pos (nonneg_at _), rd_implProp h, ba_eq, next_at h hl, propOf]
      by_cases e0 : a.f0 = ns <;> by_cases e1 : a.f1 = name
      · simp only [e0, e1, if_true, and_self]; exact Ev.now _
      · simp only [e0, e1, if_true, if_false, and_false]; exact ih (pre ++ [a]) (snoc_at h)
      · simp only [e0, e1, if_false, false_and]; exact ih (pre ++ [a]) (snoc_at h)
      · simp only [e0, e1, if_false, false_and]; exact ih (pre ++ [a]) (snoc_at h)
  exact key l [] rfl
end Go.Proofs.Ytbgggcgjijljkaa.L

/- The laws' own 'is it the same'. No condition. -/
set_option linter.unusedSimpArgs false
set_option linter.unusedVariables false
namespace Go.Proofs.Ytbgggcgjijljkaa.L
open Go.RowKit Go.Proofs.YtbgggcgjijljkaaW.PrintWords Go.Proofs.YtbgggcgjijljkaaW.PrintLast Go.Proofs.Ytbgggcgjijljkaa.Q
theorem samePropsD (l : List S72) (hl : l.length ≤ 1048576) : Ev (fun k => laws_sameProps.f k l l) true := by
  unfold laws_sameProps.f
  simp only [if_true]
  have key : ∀ (suf pre : List S72), l = pre ++ suf → Ev (fun k => laws_sameProps.l0 k l l pre.length) true := by
    intro suf
    induction suf with
    | nil =>
      intro pre h
      refine Ev.step (fun k => laws_sameProps.l0.eq_2 ..) ?_
      simp only [if_neg (end_at h)]
      exact Ev.now _
    | cons a suf ih =>
      intro pre h
      refine Ev.step (fun k => laws_sameProps.l0.eq_2 ..) ?_
      simp only [if_pos (lt_at h), if_pos (nonneg_at _), beq_self_eq_true, Bool.not_true, Bool.or_self, Bool.false_eq_true, if_false, next_at h (show l.length ≤ maxLen by rw [maxLen_eq]; omega)]
      exact ih (pre ++ [a]) (snoc_at h)
  exact key l [] rfl
end Go.Proofs.Ytbgggcgjijljkaa.L
