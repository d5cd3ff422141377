/- A printed walk. No condition. -/
import Derived.Test.YtbgggcgjijljkaaVMoveTreeG29
namespace Go.Proofs.Ytbgggcgjijljkaa.Q
open Go.RowKit Go.Proofs.YtbgggcgjijljkaaW.PrintWords Go.Proofs.YtbgggcgjijljkaaW.PrintLast Go.Proofs.YtbgggcgjijljkaaW.PrintMore
attribute [local go_sem] max2_int min2_int max_two min_two max_three min_three max_four min_four
set_option linter.unusedVariables false
set_option linter.unusedSimpArgs false
mutual
def spec_l11Far.j0 : Nat -> List (S57) -> List ByteArray -> List ByteArray -> Bool -> Int -> Bool -> Int -> Bool -> Option ((List (S57)) × Int)
 | 0, _, _, _, _, _, _, _, _ => none
 | k + 1, x0, x1, x2, x3, x4, x5, x14, x30 => if x30 = true then ((spec_l11May.f k x0 x2 x4).bind fun t909 => (if t909 = 0 then (spec_l11Far.j1 k x0 x1 x2 x3 x4 x5 x14) else (if x14 = 0 then (spec_l11Far.j1 k x0 x1 x2 x3 x4 x5 t909) else (if t909 < x14 then (spec_l11Far.j1 k x0 x1 x2 x3 x4 x5 t909) else (spec_l11Far.j1 k x0 x1 x2 x3 x4 x5 x14))))) else (spec_l11Far.j1 k x0 x1 x2 x3 x4 x5 x14)
def spec_l11Far.j1 : Nat -> List (S57) -> List ByteArray -> List ByteArray -> Bool -> Int -> Bool -> Int -> Option ((List (S57)) × Int)
 | 0, _, _, _, _, _, _, _ => none
 | k + 1, x0, x1, x2, x3, x4, x5, x14 => (spec_FindRes.f k x0 x2).bind fun t910 => ((spec_DeepOf.f k x0 x1).bind fun t911 => ((spec_l11Without.f k x0 x2).bind fun t914 => (if x5 = true then ((spec_l11Without.f k t914 x1).bind fun t917 => (spec_l11Far.j2 k x0 x1 x2 x3 x4 x14 (decide (t910 >= 0)) t911 t917)) else (spec_l11Far.j2 k x0 x1 x2 x3 x4 x14 (decide (t910 >= 0)) t911 t914))))
def spec_l11Far.j2 : Nat -> List (S57) -> List ByteArray -> List ByteArray -> Bool -> Int -> Int -> Bool -> List (S57) -> List (S57) -> Option ((List (S57)) × Int)
 | 0, _, _, _, _, _, _, _, _, _ => none
 | k + 1, x0, x1, x2, x3, x4, x14, x16, x17, x18 => if x14 = 0 then (if (x1.length : Int) > 0 then ((spec_FindRes.f k x0 x1).bind fun t920 => (spec_l11Far.j3 k x0 x1 x2 x3 x4 x14 x16 x17 x18 (decide (t920 < 0)))) else (spec_l11Far.j3 k x0 x1 x2 x3 x4 x14 x16 x17 x18 false)) else (spec_l11Far.j7 k x0 x1 x2 x4 x14 x16 x17 x18)
def spec_l11Far.j7 : Nat -> List (S57) -> List ByteArray -> List ByteArray -> Int -> Int -> Bool -> List (S57) -> List (S57) -> Option ((List (S57)) × Int)
 | 0, _, _, _, _, _, _, _, _ => none
 | k + 1, x0, x1, x2, x4, x14, x16, x17, x18 => if x14 = 0 then (spec_l11Far.l0 k x1 x2 x4 x16 x17 x18 0) else ((spec_l10CopyAll.f k x0).bind fun t929 => (some (t929, x14)))
def spec_l11Far.l0 : Nat -> List ByteArray -> List ByteArray -> Int -> Bool -> List (S57) -> List (S57) -> Int -> Option ((List (S57)) × Int)
 | 0, _, _, _, _, _, _, _ => none
 | k + 1, x1, x2, x4, x16, x17, x18, x19 => if x19 < (x17.length : Int) then (if 0 <= x19 then ((spec_l10Copy.f ((rd_T57 x17 x19).f0) ((rd_T57 x17 x19).f1) ((rd_T57 x17 x19).f2) ((rd_T57 x17 x19).f3) ((rd_T57 x17 x19).f4)).bind fun bt933 => ((impl_copyPath.f x2).bind fun t943 => (if 0 <= (x1.length : Int) then (if (x1.length : Int) <= (((rd_T57 x17 x19).f0).length : Int) then ((some (((rd_T57 x17 x19).f0).drop ((x1.length : Int) : Int).toNat : List ByteArray)).bind fun y947 => (if t943.length + y947.length < 8796093022208 then ((spec_l11Put.f k x18 (t943 ++ y947) bt933.2.1 bt933.2.2.1 x4 bt933.2.2.2.2).bind fun t954 => (spec_l11Far.l0 k x1 x2 x4 x16 x17 t954 (wrap64 (x19 + 1)))) else (none))) else (none)) else (none)))) else (none)) else (if x16 = true then (some (x18, 204)) else (some (x18, 201)))
def spec_l11Far.j3 : Nat -> List (S57) -> List ByteArray -> List ByteArray -> Bool -> Int -> Int -> Bool -> List (S57) -> List (S57) -> Bool -> Option ((List (S57)) × Int)
 | 0, _, _, _, _, _, _, _, _, _, _ => none
 | k + 1, x0, x1, x2, x3, x4, x14, x16, x17, x18, x64 => if x64 = true then (spec_l11Far.j7 k x0 x1 x2 x4 404 x16 x17 x18) else (if (x1.length : Int) = 0 then (spec_l11Far.j4 k x0 x1 x2 x3 x4 x14 x16 x17 x18 true) else (if (x2.length : Int) = 0 then (spec_l11Far.j4 k x0 x1 x2 x3 x4 x14 x16 x17 x18 true) else ((spec_SamePath.f k x1 x2).bind fun t921 => (if t921 = true then (spec_l11Far.j4 k x0 x1 x2 x3 x4 x14 x16 x17 x18 true) else ((spec_Under.f k x1 x2).bind fun t922 => (if t922 = true then (spec_l11Far.j4 k x0 x1 x2 x3 x4 x14 x16 x17 x18 true) else ((spec_Under.f k x2 x1).bind fun t923 => (spec_l11Far.j4 k x0 x1 x2 x3 x4 x14 x16 x17 x18 t923))))))))
def spec_l11Far.j4 : Nat -> List (S57) -> List ByteArray -> List ByteArray -> Bool -> Int -> Int -> Bool -> List (S57) -> List (S57) -> Bool -> Option ((List (S57)) × Int)
 | 0, _, _, _, _, _, _, _, _, _, _ => none
 | k + 1, x0, x1, x2, x3, x4, x14, x16, x17, x18, x74 => if x74 = true then (spec_l11Far.j7 k x0 x1 x2 x4 403 x16 x17 x18) else (if x16 = true then (spec_l11Far.j5 k x0 x1 x2 x4 x14 x16 x17 x18 (!x3)) else (spec_l11Far.j5 k x0 x1 x2 x4 x14 x16 x17 x18 false))
def spec_l11Far.j5 : Nat -> List (S57) -> List ByteArray -> List ByteArray -> Int -> Int -> Bool -> List (S57) -> List (S57) -> Bool -> Option ((List (S57)) × Int)
 | 0, _, _, _, _, _, _, _, _, _ => none
 | k + 1, x0, x1, x2, x4, x14, x16, x17, x18, x98 => if x98 = true then (spec_l11Far.j7 k x0 x1 x2 x4 412 x16 x17 x18) else ((spec_Above.f x2).bind fun t924 => ((spec_IsColl.f k x0 t924).bind fun t927 => (if t927 = true then ((spec_l11Long.f k x17 x1 x2).bind fun t928 => (spec_l11Far.j6 k x0 x1 x2 x4 x14 x16 x17 x18 t928)) else (spec_l11Far.j6 k x0 x1 x2 x4 x14 x16 x17 x18 true))))
def spec_l11Far.j6 : Nat -> List (S57) -> List ByteArray -> List ByteArray -> Int -> Int -> Bool -> List (S57) -> List (S57) -> Bool -> Option ((List (S57)) × Int)
 | 0, _, _, _, _, _, _, _, _, _ => none
 | k + 1, x0, x1, x2, x4, x14, x16, x17, x18, x104 => if x104 = true then (spec_l11Far.j7 k x0 x1 x2 x4 409 x16 x17 x18) else (if (wrap64 ((x18.length : Int) + (x17.length : Int))) > 12 then (spec_l11Far.j7 k x0 x1 x2 x4 507 x16 x17 x18) else (spec_l11Far.j7 k x0 x1 x2 x4 x14 x16 x17 x18))
end
def spec_l11Far.f (k : Nat) (l0 : List (S57)) (l1 : List ByteArray) (l2 : List ByteArray) (a3 : Bool) (a4 : Int) (a5 : Bool) : Option ((List (S57)) × Int) := (spec_l11May.f k l0 l1 a4).bind fun t908 => (if t908 = 0 then (spec_l11Far.j0 k l0 l1 l2 a3 a4 a5 t908 true) else (spec_l11Far.j0 k l0 l1 l2 a3 a4 a5 t908 (t908 == 507)))
def spec_l11Far.T28 : Bool × List (List Nat × List Nat) := (true, [([], []), ([], []), ([0, 1], [0, 1]), ([], []), ([], []), ([3, 4], [3, 4]), ([5], [5]), ([6], [6]), ([], []), ([8], [8]), ([7, 9], [7, 9]), ([2, 10, 2], [2, 10]), ([0, 1, 2, 3, 4, 5, 6, 7, 8, 9, 10, 11], []), ([12, 11, 11, 0, 1, 2, 3, 4, 5, 6, 7, 8, 9, 10, 11], [11, 12])])
def spec_l11Far.B28 : List Nat := [0, 0, 3, 0, 0, 24, 56, 120, 0, 256, 1016, 2047, 4095, 8191]
theorem spec_l11Far.tab28 : rtab .any (opsOf Try.f82 28) = spec_l11Far.T28 := by kernel_rfl
theorem spec_l11Far.bits28 : waitsOk spec_l11Far.T28.2 spec_l11Far.B28 = true := by kernel_rfl
set_option maxHeartbeats 8000000 in
set_option maxRecDepth 100000 in
theorem spec_l11Far.calls (k : Nat) (A0 : Option Addr) (c0 : Nat) (l0 : List (S57)) (A1 : Option Addr) (c1 : Nat) (l1 : List ByteArray) (A2 : Option Addr) (c2 : Nat) (l2 : List ByteArray) (a3 : Bool) (a4 : Int) (a5 : Bool) (r1 : List (S57)) (r2 : Int) (w : World) (hr0 : Kd.C k57 w A0 l0.length l0) (hc0 : l0.length <= c0) (hr1 : Kd.C Kd.string w A1 l1.length l1) (hc1 : l1.length <= c1) (hr2 : Kd.C Kd.string w A2 l2.length l2) (hc2 : l2.length <= c2) (h : spec_l11Far.f k l0 l1 l2 a3 a4 a5 = some (r1, r2)) :
 Calls Try.prog 82 #[.slice A0 l0.length c0, .slice A1 l1.length c1, .slice A2 l2.length c2, .bool a3, .int .i64 a4, .bool a5] w fun e w' => ∃ v0_ : Value, e = .returned (.tuple #[v0_, .int .i64 r2]) /\ Kd.S k57 57 w' w.heap.size (fun _ => True) v0_ r1 /\ Below w.heap.size w w' := by
 have hu57 := Try.underlying57
 have HR0 := A_ hr0
 have HC0 := A_ hc0
 clear hr0 hc0
 have HR1 := A_ hr1
 have HC1 := A_ hc1
 clear hr1 hc1
 have HR2 := A_ hr2
 have HC2 := A_ hc2
 clear hr2 hc2
 have HB := A_ (Below.refl w.heap.size w)
 have H : ((spec_l11May.f k l0 l1 a4).bind fun t9d => (if t9d = 0 then (spec_l11Far.j0 k l0 l1 l2 a3 a4 a5 t9d true) else (spec_l11Far.j0 k l0 l1 l2 a3 a4 a5 t9d (t9d == 507)))) = some (r1, r2) := h
 clear h
 obtain ⟨t9d, A7, H⟩ := bo_ H
 (try dsimp only at H)
 have HC8 := A_ H
 clear H
 go_enter Try.func82, Try.ntmps82
 go_upto_region 2 with (first | ((with_reducible refine gc_ (f := 60) rfl ?_); refine gL_ (some 24) Try.func60 #[.slice A0 l0.length c0, .slice A1 l1.length c1, .int .i64 a4] ?_; (with_reducible refine (spec_l11May.calls k _ _ l0 _ _ l1 a4 t9d _ ?s1 ?s2 ?s3 ?s4 A7.out).mono ?_); (case s1 => exact cC_ HR0.out); (case s2 => exact HC0.out); (case s3 => exact cC_ HR1.out); (case s4 => exact HC1.out); rintro e w9 ⟨rfl, hb⟩; refine ⟨_, rfl, ?_⟩; replace HB := A_ (below_step bB_ hb); clear hb))
 (try simp only [Act.put, List.setIfInBounds_toArray, List.set_cons_zero, List.set_cons_succ])
 go_cut [30] (fun v30 wc => ∃ (kq : Nat) (x30_7 : Bool), v30 = .bool x30_7 /\ Aside0 (spec_l11Far.j0 kq l0 l1 l2 a3 a4 a5 t9d x30_7 = some (r1, r2)) /\ Aside0 (kq <= k) /\ Aside0 (Below w.heap.size w wc))
 case first => as_aux_lemma =>
  have H := HC8.out
  clear HC8
  by_cases c10 : t9d = 0
  rotate_left
  . rw [if_neg c10] at H
    obtain ⟨c10b0, c10b1⟩ := eF_ c10
    (first | rw [c10b0] | (simp only [i64_w, i32_w]; rw [c10b0]) | skip)
    have H' := A_ H
    clear H
    go_wp2
    go_meet
    case rel => exact ⟨_, ((t9d == 507)), rs_, H', ⟨by first | omega | exact Nat.le_refl _⟩, ⟨bB_⟩⟩
  rw [if_pos c10] at H
  obtain ⟨c10b0, c10b1⟩ := eT_ c10
  clear c10
  (first | rw [c10b0] | (simp only [i64_w, i32_w]; rw [c10b0]) | skip)
  have H' := A_ H
  clear H
  go_wp2
  go_meet
  case rel => exact ⟨_, (true), rs_, H', ⟨by first | omega | exact Nat.le_refl _⟩, ⟨bB_⟩⟩
 case rest =>
  clear HC8
  try clear c1
  obtain ⟨kq, x30_7, rfl, HA, HJ7, HB⟩ := hcut
  cases kq with
  | zero => exact absurd HA.out (by simp [spec_l11Far.j0])
  | succ kj7 =>
   have H := HA.out
   clear HA
   simp only [spec_l11Far.j0] at H
   have HC11 := A_ H
   clear H
   go_upto_if 30 with (fail)
   go_cut [14] (fun v14 wc => ∃ (kq : Nat) (x14_10 : Int), v14 = .int .i64 x14_10 /\ Aside0 (spec_l11Far.j1 kq l0 l1 l2 a3 a4 a5 x14_10 = some (r1, r2)) /\ Aside0 (kq <= kj7) /\ Aside0 (Below w.heap.size w wc))
   case first => as_aux_lemma =>
    have H := HC11.out
    clear HC11
    by_cases c12 : x30_7 = true
    . subst c12
      rw [if_pos rfl] at H
      obtain ⟨t3e, A13, H⟩ := bo_ H
      (try dsimp only at H)
      by_cases c14 : t3e = 0
      . rw [if_pos c14] at H
        obtain ⟨c14b0, c14b1⟩ := eT_ c14
        clear c14
        (first | rw [c14b0] | (simp only [i64_w, i32_w]; rw [c14b0]) | skip)
        have H' := A_ H
        clear H
        go_wp2_with (first | ((with_reducible refine gc_ (f := 60) rfl ?_); refine gL_ (some 34) Try.func60 #[.slice A0 l0.length c0, .slice A2 l2.length c2, .int .i64 a4] ?_; (with_reducible refine (spec_l11May.calls kj7 _ _ l0 _ _ l2 a4 t3e _ ?s1 ?s2 ?s3 ?s4 A13.out).mono ?_); (case s1 => exact cC_ (Kd.C_below HR0.out HB.out)); (case s2 => exact HC0.out); (case s3 => exact cC_ (Kd.C_below HR2.out HB.out)); (case s4 => exact HC2.out); rintro e w15 ⟨rfl, hb⟩; refine ⟨_, rfl, ?_⟩; replace HB := A_ (below_step bB_ hb); clear hb))
        go_meet
        case rel => exact ⟨_, (t9d), rs_, H', ⟨by have := HJ7.out; first | omega | exact Nat.le_refl _⟩, ⟨bB_⟩⟩
      rw [if_neg c14] at H
      obtain ⟨c14b0, c14b1⟩ := eF_ c14
      (first | rw [c14b0] | (simp only [i64_w, i32_w]; rw [c14b0]) | skip)
      by_cases c16 : t9d = 0
      . rw [if_pos c16] at H
        obtain ⟨c16b0, c16b1⟩ := eT_ c16
        clear c16
        have H' := A_ H
        clear H
        go_wp2_with (first | ((with_reducible refine gc_ (f := 60) rfl ?_); refine gL_ (some 34) Try.func60 #[.slice A0 l0.length c0, .slice A2 l2.length c2, .int .i64 a4] ?_; (with_reducible refine (spec_l11May.calls kj7 _ _ l0 _ _ l2 a4 t3e _ ?s1 ?s2 ?s3 ?s4 A13.out).mono ?_); (case s1 => exact cC_ (Kd.C_below HR0.out HB.out)); (case s2 => exact HC0.out); (case s3 => exact cC_ (Kd.C_below HR2.out HB.out)); (case s4 => exact HC2.out); rintro e w17 ⟨rfl, hb⟩; refine ⟨_, rfl, ?_⟩; replace HB := A_ (below_step bB_ hb); clear hb))
        go_meet
        case rel => exact ⟨_, (t3e), rs_, H', ⟨by have := HJ7.out; first | omega | exact Nat.le_refl _⟩, ⟨bB_⟩⟩
      rw [if_neg c16] at H
      obtain ⟨c16b0, c16b1⟩ := eF_ c16
      by_cases c18 : t3e < t9d
      . rw [if_pos c18] at H
        have c18b0 := decide_eq_true c18
        clear c18
        have H' := A_ H
        clear H
        go_wp2_with (first | ((with_reducible refine gc_ (f := 60) rfl ?_); refine gL_ (some 34) Try.func60 #[.slice A0 l0.length c0, .slice A2 l2.length c2, .int .i64 a4] ?_; (with_reducible refine (spec_l11May.calls kj7 _ _ l0 _ _ l2 a4 t3e _ ?s1 ?s2 ?s3 ?s4 A13.out).mono ?_); (case s1 => exact cC_ (Kd.C_below HR0.out HB.out)); (case s2 => exact HC0.out); (case s3 => exact cC_ (Kd.C_below HR2.out HB.out)); (case s4 => exact HC2.out); rintro e w19 ⟨rfl, hb⟩; refine ⟨_, rfl, ?_⟩; replace HB := A_ (below_step bB_ hb); clear hb))
        go_meet
        case rel => exact ⟨_, (t3e), rs_, H', ⟨by have := HJ7.out; first | omega | exact Nat.le_refl _⟩, ⟨bB_⟩⟩
      rw [if_neg c18] at H
      have c18b0 := decide_eq_false c18
      clear c18
      have H' := A_ H
      clear H
      go_wp2_with (first | ((with_reducible refine gc_ (f := 60) rfl ?_); refine gL_ (some 34) Try.func60 #[.slice A0 l0.length c0, .slice A2 l2.length c2, .int .i64 a4] ?_; (with_reducible refine (spec_l11May.calls kj7 _ _ l0 _ _ l2 a4 t3e _ ?s1 ?s2 ?s3 ?s4 A13.out).mono ?_); (case s1 => exact cC_ (Kd.C_below HR0.out HB.out)); (case s2 => exact HC0.out); (case s3 => exact cC_ (Kd.C_below HR2.out HB.out)); (case s4 => exact HC2.out); rintro e w20 ⟨rfl, hb⟩; refine ⟨_, rfl, ?_⟩; replace HB := A_ (below_step bB_ hb); clear hb))
      go_meet
      case rel => exact ⟨_, (t9d), rs_, H', ⟨by have := HJ7.out; first | omega | exact Nat.le_refl _⟩, ⟨bB_⟩⟩
    . replace c12 := Bool.eq_false_iff.mpr c12
      subst c12
      rw [if_neg nf_] at H
      have H' := A_ H
      clear H
      go_wp2
      go_meet
      case rel => exact ⟨_, (t9d), rs_, H', ⟨by have := HJ7.out; first | omega | exact Nat.le_refl _⟩, ⟨bB_⟩⟩
   case rest =>
    clear HC11
    try clear c1
    obtain ⟨kq, x14_10, rfl, HA, HJ10, HB⟩ := hcut
    cases kq with
    | zero => exact absurd HA.out (by simp [spec_l11Far.j1])
    | succ kj10 =>
     have H := HA.out
     clear HA
     simp only [spec_l11Far.j1] at H
     obtain ⟨t6f, A21, H⟩ := bo_ H
     (try dsimp only at H)
     obtain ⟨t99, A22, H⟩ := bo_ H
     (try dsimp only at H)
     obtain ⟨t2f, A23, H⟩ := bo_ H
     (try dsimp only at H)
     have HC24 := A_ H
     clear H
     go_upto_if 57 with (first | ((with_reducible refine gc_ (f := 61) rfl ?_); refine gL_ (some 49) Try.func61 #[.slice A0 l0.length c0, .slice A2 l2.length c2] ?_; (with_reducible refine (spec_FindRes.calls kj10 _ _ l0 _ _ l2 t6f _ ?s1 ?s2 ?s3 ?s4 A21.out).mono ?_); (case s1 => exact cC_ (Kd.C_below HR0.out HB.out)); (case s2 => exact HC0.out); (case s3 => exact cC_ (Kd.C_below HR2.out HB.out)); (case s4 => exact HC2.out); rintro e w' ⟨rfl, ⟨nd, rfl⟩⟩; refine ⟨_, rfl, ?_⟩) | ((with_reducible refine gc_ (f := 115) rfl ?_); refine gL_ (some 53) Try.func115 #[.slice A0 l0.length c0, .slice A1 l1.length c1] ?_; (with_reducible refine (spec_DeepOf.calls kj10 _ _ l0 _ _ l1 t99 _ ?s1 ?s2 ?s3 ?s4 A22.out).mono ?_); (case s1 => exact cC_ (Kd.C_below HR0.out bB_)); (case s2 => exact HC0.out); (case s3 => exact cC_ (Kd.C_below HR1.out bB_)); (case s4 => exact HC1.out); rintro e w25 ⟨v1e, rfl, ho0, hb⟩; refine ⟨_, rfl, ?_⟩; have HO4e := A_ (Kd.S_lower ho0 (below_size bB_)); replace HB := A_ (below_step bB_ hb); clear hb ho0) | ((with_reducible refine gc_ (f := 63) rfl ?_); refine gL_ (some 56) Try.func63 #[.slice A0 l0.length c0, .slice A2 l2.length c2] ?_; (with_reducible refine (spec_l11Without.calls kj10 _ _ l0 _ _ l2 t2f _ ?s1 ?s2 ?s3 ?s4 A23.out).mono ?_); (case s1 => exact cC_ (Kd.C_below HR0.out HB.out)); (case s2 => exact HC0.out); (case s3 => exact cC_ (Kd.C_below HR2.out HB.out)); (case s4 => exact HC2.out); rintro e w26 ⟨v3h, rfl, ho0, hb⟩; refine ⟨_, rfl, ?_⟩; have HO1f := A_ (Kd.S_lower (Kd.S_new' ho0 (Kd.S_lt (vS_ HO4e.out))) (below_size bB_)); replace HO4e := A_ (Kd.S_elder' (vS_ HO4e.out) (kb_ ho0) hb); replace HB := A_ (below_step bB_ hb); clear hb ho0))
     (try simp only [Act.put, List.setIfInBounds_toArray, List.set_cons_zero, List.set_cons_succ])
     go_cut [16, 18] (fun v16 v18 wc => ∃ (kq : Nat) (x16_23 : Bool) (x18_23 : List (S57)), v16 = .bool x16_23 /\ Aside0 (spec_l11Far.j2 kq l0 l1 l2 a3 a4 x14_10 x16_23 t99 x18_23 = some (r1, r2)) /\ Aside0 (kq <= kj10) /\ Aside0 (Kd.S k57 57 wc w.heap.size (fun k_ => some k_ ≠ (v18 : Value).ownBlock) v1e t99) /\ Aside0 (Kd.S k57 57 wc w.heap.size (fun k_ => some k_ ≠ (v1e : Value).ownBlock) v18 x18_23) /\ Aside0 (Below w.heap.size w wc))
     case first => as_aux_lemma =>
      have H := HC24.out
      clear HC24
      by_cases c27 : a5 = true
      . subst c27
        rw [if_pos rfl] at H
        obtain ⟨t7f, A28, H⟩ := bo_ H
        (try dsimp only at H)
        have H' := A_ H
        clear H
        obtain ⟨Ao29, co29, eo29⟩ := Kd.S_slice HO1f.out
        subst eo29
        go_wp2_with (first | ((with_reducible refine gc_ (f := 63) rfl ?_); refine gL_ (some 60) Try.func63 #[.slice Ao29 t2f.length co29, .slice A1 l1.length c1] ?_; (with_reducible refine (spec_l11Without.calls kj10 _ _ t2f _ _ l1 t7f _ ?s1 ?s2 ?s3 ?s4 A28.out).mono ?_); (case s1 => exact cC_ (Kd.S_reads' HO1f.out).2.2); (case s2 => exact (Kd.S_reads' HO1f.out).2.1); (case s3 => exact cC_ (Kd.C_below HR1.out HB.out)); (case s4 => exact HC1.out); rintro e w30 ⟨v4h, rfl, ho0, hb⟩; refine ⟨_, rfl, ?_⟩; have HO2g := A_ (Kd.S_lower (Kd.S_new' (Kd.S_new' ho0 (Kd.S_lt (vS_ HO4e.out))) (Kd.S_lt (vS_ HO1f.out))) (below_size bB_)); replace HO4e := A_ (Kd.S_elder' (vS_ HO4e.out) (kb_ ho0) hb); replace HB := A_ (below_step bB_ hb); clear hb ho0))
        go_meet
        case rel => exact ⟨_, (decide (t6f >= 0)), (t7f), rs_, H', ⟨by have := HJ7.out; have := HJ10.out; first | omega | exact Nat.le_refl _⟩, ⟨by (with_reducible repeat (first | apply Kd.S_alloc | apply Kd.S_drewN | apply Kd.S_drew)); exact Kd.S_mono HO4e.out (fun _ hk => hk.2)⟩, ⟨by (with_reducible repeat (first | apply Kd.S_alloc | apply Kd.S_drewN | apply Kd.S_drew)); exact Kd.S_mono HO2g.out (fun _ hk => hk.1.2)⟩, ⟨bB_⟩⟩
      . replace c27 := Bool.eq_false_iff.mpr c27
        subst c27
        rw [if_neg nf_] at H
        have H' := A_ H
        clear H
        go_wp2
        go_meet
        case rel => exact ⟨_, (decide (t6f >= 0)), (t2f), rs_, H', ⟨by have := HJ7.out; have := HJ10.out; first | omega | exact Nat.le_refl _⟩, ⟨by (with_reducible repeat (first | apply Kd.S_alloc | apply Kd.S_drewN | apply Kd.S_drew)); exact Kd.S_mono HO4e.out (fun _ hk => hk.2)⟩, ⟨by (with_reducible repeat (first | apply Kd.S_alloc | apply Kd.S_drewN | apply Kd.S_drew)); exact Kd.S_mono HO1f.out (fun _ hk => hk.2)⟩, ⟨bB_⟩⟩
     case rest =>
      clear HC24
      try clear c1
      obtain ⟨kq, x16_23, x18_23, rfl, HA, HJ23, HO_17, HO_18, HB⟩ := hcut
      cases kq with
      | zero => exact absurd HA.out (by simp [spec_l11Far.j2])
      | succ kj23 =>
       have H := HA.out
       clear HA
       simp only [spec_l11Far.j2] at H
       have HC31 := A_ H
       clear H
       go_upto_block 0 with (fail)
       go_cut [14] (fun v14 wc => ∃ (kq : Nat) (x14_30 : Int), v14 = .int .i64 x14_30 /\ Aside0 (spec_l11Far.j7 kq l0 l1 l2 a4 x14_30 x16_23 t99 x18_23 = some (r1, r2)) /\ Aside0 (kq <= kj23) /\ Aside0 (Kd.S k57 57 wc w.heap.size (fun k_ => some k_ ≠ (u18 : Value).ownBlock) v1e t99) /\ Aside0 (Kd.S k57 57 wc w.heap.size (fun k_ => some k_ ≠ (v1e : Value).ownBlock) u18 x18_23) /\ Aside0 (Below w.heap.size w wc))
       case first => as_aux_lemma =>
        have H := HC31.out
        clear HC31
        by_cases c32 : x14_10 = 0
        rotate_left
        . rw [if_neg c32] at H
          obtain ⟨c32b0, c32b1⟩ := eF_ c32
          (first | rw [c32b0] | (simp only [i64_w, i32_w]; rw [c32b0]) | skip)
          have H' := A_ H
          clear H
          go_wp2
          go_meet
          case rel => exact ⟨_, (x14_10), rs_, H', ⟨by have := HJ7.out; have := HJ10.out; have := HJ23.out; first | omega | exact Nat.le_refl _⟩, ⟨vS_ HO_17.out⟩, ⟨vS_ HO_18.out⟩, ⟨bB_⟩⟩
        rw [if_pos c32] at H
        obtain ⟨c32b0, c32b1⟩ := eT_ c32
        clear c32
        (first | rw [c32b0] | (simp only [i64_w, i32_w]; rw [c32b0]) | skip)
        have HC33 := A_ H
        clear H
        go_upto_region 12 with (fail)
        go_cut [64] (fun v64 wc => ∃ (kq : Nat) (x64_32 : Bool), v64 = .bool x64_32 /\ Aside0 (spec_l11Far.j3 kq l0 l1 l2 a3 a4 x14_10 x16_23 t99 x18_23 x64_32 = some (r1, r2)) /\ Aside0 (kq <= kj23) /\ Aside0 (Kd.S k57 57 wc w.heap.size (fun k_ => some k_ ≠ (u18 : Value).ownBlock) v1e t99) /\ Aside0 (Kd.S k57 57 wc w.heap.size (fun k_ => some k_ ≠ (v1e : Value).ownBlock) u18 x18_23) /\ Aside0 (Below w.heap.size w wc))
        case first => as_aux_lemma =>
         have H := HC33.out
         clear HC33
         by_cases c34 : (l1.length : Int) > 0
         rotate_left
         . rw [if_neg c34] at H
           have c34b0 : decide (0 < (l1.length : Int)) = false := decide_eq_false c34
           have c34b1 : decide (0 < l1.length) = false := decide_eq_false (by omega)
           clear c34
           (first | rw [c34b0] | (simp only [i64_w, i32_w]; rw [c34b0]) | skip)
           have H' := A_ H
           clear H
           go_wp2
           go_meet
           case rel => exact ⟨_, (false), rs_, H', ⟨by have := HJ7.out; have := HJ10.out; have := HJ23.out; first | omega | exact Nat.le_refl _⟩, ⟨vS_ HO_17.out⟩, ⟨vS_ HO_18.out⟩, ⟨bB_⟩⟩
         rw [if_pos c34] at H
         have c34b0 : decide (0 < (l1.length : Int)) = true := decide_eq_true c34
         have c34b1 : decide (0 < l1.length) = true := decide_eq_true (by omega)
         clear c34
         (first | rw [c34b0] | (simp only [i64_w, i32_w]; rw [c34b0]) | skip)
         obtain ⟨t8f, A35, H⟩ := bo_ H
         (try dsimp only at H)
         have H' := A_ H
         clear H
         go_wp2_with (first | (go_at_call 61; (with_reducible refine (spec_FindRes.calls kj23 _ _ l0 _ _ l1 t8f _ ?s1 ?s2 ?s3 ?s4 A35.out).mono ?_); (case s1 => exact cC_ (Kd.C_below HR0.out HB.out)); (case s2 => exact HC0.out); (case s3 => exact cC_ (Kd.C_below HR1.out HB.out)); (case s4 => exact HC1.out); rintro e w' ⟨rfl, ⟨nd, rfl⟩⟩))
         go_meet
         case rel => exact ⟨_, (decide (t8f < 0)), rs_, H', ⟨by have := HJ7.out; have := HJ10.out; have := HJ23.out; first | omega | exact Nat.le_refl _⟩, ⟨vS_ HO_17.out⟩, ⟨vS_ HO_18.out⟩, ⟨bB_⟩⟩
        case rest =>
         clear HC33
         try clear c1
         try clear c32
         try clear c32b0
         try clear c32b1
         obtain ⟨kq, x64_32, rfl, HA, HJ32, HO_17, HO_18, HB⟩ := hcut
         cases kq with
         | zero => exact absurd HA.out (by simp [spec_l11Far.j3])
         | succ kj32 =>
          have H := HA.out
          clear HA
          simp only [spec_l11Far.j3] at H
          by_cases c36 : x64_32 = true
          . subst c36
            rw [if_pos rfl] at H
            have H' := A_ H
            clear H
            go_wp2
            go_meet
            case rel => exact ⟨_, (404), rs_, H', ⟨by have := HJ7.out; have := HJ10.out; have := HJ23.out; have := HJ32.out; first | omega | exact Nat.le_refl _⟩, ⟨vS_ HO_17.out⟩, ⟨vS_ HO_18.out⟩, ⟨bB_⟩⟩
          . replace c36 := Bool.eq_false_iff.mpr c36
            subst c36
            rw [if_neg nf_] at H
            have HC37 := A_ H
            clear H
            go_upto_region 14 with (fail)
            go_cut [74] (fun v74 wc => ∃ (kq : Nat) (x74_36 : Bool), v74 = .bool x74_36 /\ Aside0 (spec_l11Far.j4 kq l0 l1 l2 a3 a4 x14_10 x16_23 t99 x18_23 x74_36 = some (r1, r2)) /\ Aside0 (kq <= kj32) /\ Aside0 (Kd.S k57 57 wc w.heap.size (fun k_ => some k_ ≠ (u18 : Value).ownBlock) v1e t99) /\ Aside0 (Kd.S k57 57 wc w.heap.size (fun k_ => some k_ ≠ (v1e : Value).ownBlock) u18 x18_23) /\ Aside0 (Below w.heap.size w wc))
            case first => as_aux_lemma =>
             have H := HC37.out
             clear HC37
             by_cases c38 : (l1.length : Int) = 0
             . rw [if_pos c38] at H
               obtain ⟨c38b0, c38b1⟩ := eT_ c38
               clear c38
               (first | rw [c38b0] | (simp only [i64_w, i32_w]; rw [c38b0]) | skip)
               have H' := A_ H
               clear H
               go_wp2
               go_meet
               case rel => exact ⟨_, (true), rs_, H', ⟨by have := HJ7.out; have := HJ10.out; have := HJ23.out; have := HJ32.out; first | omega | exact Nat.le_refl _⟩, ⟨vS_ HO_17.out⟩, ⟨vS_ HO_18.out⟩, ⟨bB_⟩⟩
             rw [if_neg c38] at H
             obtain ⟨c38b0, c38b1⟩ := eF_ c38
             have c38b2 : ¬ (l1 = []) := fun h_ => c38 (by rw [h_]; rfl)
             (first | rw [c38b0] | (simp only [i64_w, i32_w]; rw [c38b0]) | skip)
             by_cases c39 : (l2.length : Int) = 0
             . rw [if_pos c39] at H
               obtain ⟨c39b0, c39b1⟩ := eT_ c39
               clear c39
               have H' := A_ H
               clear H
               go_wp2
               go_meet
               case rel => exact ⟨_, (true), rs_, H', ⟨by have := HJ7.out; have := HJ10.out; have := HJ23.out; have := HJ32.out; first | omega | exact Nat.le_refl _⟩, ⟨vS_ HO_17.out⟩, ⟨vS_ HO_18.out⟩, ⟨bB_⟩⟩
             rw [if_neg c39] at H
             obtain ⟨c39b0, c39b1⟩ := eF_ c39
             have c39b2 : ¬ (l2 = []) := fun h_ => c39 (by rw [h_]; rfl)
             obtain ⟨t3g, A40, H⟩ := bo_ H
             (try dsimp only at H)
             by_cases c41 : t3g = true
             . subst c41
               rw [if_pos rfl] at H
               have H' := A_ H
               clear H
               go_wp2_with (first | (go_at_call 104; (with_reducible refine (spec_SamePath.calls kj32 _ _ l1 _ _ l2 true _ ?s1 ?s2 ?s3 ?s4 A40.out).mono ?_); (case s1 => exact cC_ (Kd.C_below HR1.out HB.out)); (case s2 => exact HC1.out); (case s3 => exact cC_ (Kd.C_below HR2.out HB.out)); (case s4 => exact HC2.out); rintro e w' ⟨rfl, ⟨nd, rfl⟩⟩))
               go_meet
               case rel => exact ⟨_, (true), rs_, H', ⟨by have := HJ7.out; have := HJ10.out; have := HJ23.out; have := HJ32.out; first | omega | exact Nat.le_refl _⟩, ⟨vS_ HO_17.out⟩, ⟨vS_ HO_18.out⟩, ⟨bB_⟩⟩
             . replace c41 := Bool.eq_false_iff.mpr c41
               subst c41
               rw [if_neg nf_] at H
               obtain ⟨t4g, A42, H⟩ := bo_ H
               (try dsimp only at H)
               by_cases c43 : t4g = true
               . subst c43
                 rw [if_pos rfl] at H
                 have H' := A_ H
                 clear H
                 go_wp2_with (first | (go_at_call 104; (with_reducible refine (spec_SamePath.calls kj32 _ _ l1 _ _ l2 false _ ?s1 ?s2 ?s3 ?s4 A40.out).mono ?_); (case s1 => exact cC_ (Kd.C_below HR1.out HB.out)); (case s2 => exact HC1.out); (case s3 => exact cC_ (Kd.C_below HR2.out HB.out)); (case s4 => exact HC2.out); rintro e w' ⟨rfl, ⟨nd, rfl⟩⟩) | (go_at_call 106; (with_reducible refine (spec_Under.calls kj32 _ _ l1 _ _ l2 true _ ?s1 ?s2 ?s3 ?s4 A42.out).mono ?_); (case s1 => exact cC_ (Kd.C_below HR1.out bB_)); (case s2 => exact HC1.out); (case s3 => exact cC_ (Kd.C_below HR2.out bB_)); (case s4 => exact HC2.out); rintro e w' ⟨rfl, ⟨nd, rfl⟩⟩))
                 go_meet
                 case rel => exact ⟨_, (true), rs_, H', ⟨by have := HJ7.out; have := HJ10.out; have := HJ23.out; have := HJ32.out; first | omega | exact Nat.le_refl _⟩, ⟨vS_ HO_17.out⟩, ⟨vS_ HO_18.out⟩, ⟨bB_⟩⟩
               . replace c43 := Bool.eq_false_iff.mpr c43
                 subst c43
                 rw [if_neg nf_] at H
                 obtain ⟨t9f, A44, H⟩ := bo_ H
                 (try dsimp only at H)
                 have H' := A_ H
                 clear H
                 go_wp2_with (first | (go_at_call 104; (with_reducible refine (spec_SamePath.calls kj32 _ _ l1 _ _ l2 false _ ?s1 ?s2 ?s3 ?s4 A40.out).mono ?_); (case s1 => exact cC_ (Kd.C_below HR1.out HB.out)); (case s2 => exact HC1.out); (case s3 => exact cC_ (Kd.C_below HR2.out HB.out)); (case s4 => exact HC2.out); rintro e w' ⟨rfl, ⟨nd, rfl⟩⟩) | (go_at_call 106; (with_reducible refine (spec_Under.calls kj32 _ _ l1 _ _ l2 false _ ?s1 ?s2 ?s3 ?s4 A42.out).mono ?_); (case s1 => exact cC_ (Kd.C_below HR1.out bB_)); (case s2 => exact HC1.out); (case s3 => exact cC_ (Kd.C_below HR2.out bB_)); (case s4 => exact HC2.out); rintro e w' ⟨rfl, ⟨nd, rfl⟩⟩) | (go_at_call 106; (with_reducible refine (spec_Under.calls kj32 _ _ l2 _ _ l1 t9f _ ?s1 ?s2 ?s3 ?s4 A44.out).mono ?_); (case s1 => exact cC_ (Kd.C_below HR2.out bB_)); (case s2 => exact HC2.out); (case s3 => exact cC_ (Kd.C_below HR1.out bB_)); (case s4 => exact HC1.out); rintro e w' ⟨rfl, ⟨nd, rfl⟩⟩))
                 go_meet
                 case rel => exact ⟨_, (t9f), rs_, H', ⟨by have := HJ7.out; have := HJ10.out; have := HJ23.out; have := HJ32.out; first | omega | exact Nat.le_refl _⟩, ⟨vS_ HO_17.out⟩, ⟨vS_ HO_18.out⟩, ⟨bB_⟩⟩
            case rest =>
             clear HC37
             try clear c1
             try clear c32
             try clear c32b0
             try clear c32b1
             try clear c36
             obtain ⟨kq, x74_36, rfl, HA, HJ36, HO_17, HO_18, HB⟩ := hcut
             cases kq with
             | zero => exact absurd HA.out (by simp [spec_l11Far.j4])
             | succ kj36 =>
              have H := HA.out
              clear HA
              simp only [spec_l11Far.j4] at H
              by_cases c45 : x74_36 = true
              . subst c45
                rw [if_pos rfl] at H
                have H' := A_ H
                clear H
                go_wp2
                go_meet
                case rel => exact ⟨_, (403), rs_, H', ⟨by have := HJ7.out; have := HJ10.out; have := HJ23.out; have := HJ32.out; have := HJ36.out; first | omega | exact Nat.le_refl _⟩, ⟨vS_ HO_17.out⟩, ⟨vS_ HO_18.out⟩, ⟨bB_⟩⟩
              . replace c45 := Bool.eq_false_iff.mpr c45
                subst c45
                rw [if_neg nf_] at H
                have HC46 := A_ H
                clear H
                go_upto_region 16 with (fail)
                go_cut [98] (fun v98 wc => ∃ (kq : Nat) (x98_45 : Bool), v98 = .bool x98_45 /\ Aside0 (spec_l11Far.j5 kq l0 l1 l2 a4 x14_10 x16_23 t99 x18_23 x98_45 = some (r1, r2)) /\ Aside0 (kq <= kj36) /\ Aside0 (Kd.S k57 57 wc w.heap.size (fun k_ => some k_ ≠ (u18 : Value).ownBlock) v1e t99) /\ Aside0 (Kd.S k57 57 wc w.heap.size (fun k_ => some k_ ≠ (v1e : Value).ownBlock) u18 x18_23) /\ Aside0 (Below w.heap.size w wc))
                case first => as_aux_lemma =>
                 have H := HC46.out
                 clear HC46
                 by_cases c47 : x16_23 = true
                 . subst c47
                   rw [if_pos rfl] at H
                   have H' := A_ H
                   clear H
                   go_wp2
                   go_meet
                   case rel => exact ⟨_, (!a3), rs_, H', ⟨by have := HJ7.out; have := HJ10.out; have := HJ23.out; have := HJ32.out; have := HJ36.out; first | omega | exact Nat.le_refl _⟩, ⟨vS_ HO_17.out⟩, ⟨vS_ HO_18.out⟩, ⟨bB_⟩⟩
                 . replace c47 := Bool.eq_false_iff.mpr c47
                   subst c47
                   rw [if_neg nf_] at H
                   have H' := A_ H
                   clear H
                   go_wp2
                   go_meet
                   case rel => exact ⟨_, (false), rs_, H', ⟨by have := HJ7.out; have := HJ10.out; have := HJ23.out; have := HJ32.out; have := HJ36.out; first | omega | exact Nat.le_refl _⟩, ⟨vS_ HO_17.out⟩, ⟨vS_ HO_18.out⟩, ⟨bB_⟩⟩
                case rest =>
                 clear HC46
                 try clear c1
                 try clear c32
                 try clear c32b0
                 try clear c32b1
                 try clear c36
                 try clear c45
                 obtain ⟨kq, x98_45, rfl, HA, HJ45, HO_17, HO_18, HB⟩ := hcut
                 cases kq with
                 | zero => exact absurd HA.out (by simp [spec_l11Far.j5])
                 | succ kj45 =>
                  have H := HA.out
                  clear HA
                  simp only [spec_l11Far.j5] at H
                  by_cases c48 : x98_45 = true
                  . subst c48
                    rw [if_pos rfl] at H
                    have H' := A_ H
                    clear H
                    go_wp2
                    go_meet
                    case rel => exact ⟨_, (412), rs_, H', ⟨by have := HJ7.out; have := HJ10.out; have := HJ23.out; have := HJ32.out; have := HJ36.out; have := HJ45.out; first | omega | exact Nat.le_refl _⟩, ⟨vS_ HO_17.out⟩, ⟨vS_ HO_18.out⟩, ⟨bB_⟩⟩
                  . replace c48 := Bool.eq_false_iff.mpr c48
                    subst c48
                    rw [if_neg nf_] at H
                    have HC49 := A_ H
                    clear H
                    go_upto_region 18 with (fail)
                    go_cut [104] (fun v5g wc => ∃ (kq : Nat) (x104_48 : Bool), v5g = .bool x104_48 /\ Aside0 (spec_l11Far.j6 kq l0 l1 l2 a4 x14_10 x16_23 t99 x18_23 x104_48 = some (r1, r2)) /\ Aside0 (kq <= kj45) /\ Aside0 (Kd.S k57 57 wc w.heap.size (fun k_ => some k_ ≠ (u18 : Value).ownBlock) v1e t99) /\ Aside0 (Kd.S k57 57 wc w.heap.size (fun k_ => some k_ ≠ (v1e : Value).ownBlock) u18 x18_23) /\ Aside0 (Below w.heap.size w wc))
                    case first => as_aux_lemma =>
                     have H := HC49.out
                     clear HC49
                     obtain ⟨t6e, A50, H⟩ := bo_ H
                     (try dsimp only at H)
                     obtain ⟨t6g, A51, H⟩ := bo_ H
                     (try dsimp only at H)
                     by_cases c52 : t6g = true
                     . subst c52
                       rw [if_pos rfl] at H
                       obtain ⟨t1g, A53, H⟩ := bo_ H
                       (try dsimp only at H)
                       have H' := A_ H
                       clear H
                       go_wp2_with (first | ((with_reducible refine gc_ (f := 74) rfl ?_); refine gL_ (some 107) Try.func74 #[.slice A2 l2.length c2] ?_; (with_reducible refine (spec_Above.calls _ _ l2 t6e _ ?s1 ?s2 A50.out).mono ?_); (case s1 => exact cC_ (Kd.C_below HR2.out HB.out)); (case s2 => exact HC2.out); rintro e w54 ⟨v7g, rfl, ho0, hb⟩; refine ⟨_, rfl, ?_⟩; replace HO_17 := A_ (Kd.S_elder' (vS_ HO_17.out) (kb_ ho0) hb); replace HO_18 := A_ (Kd.S_elder' (vS_ HO_18.out) (kb_ ho0) hb); have HO5e := A_ (Kd.R_lower ho0 (below_size bB_)); replace HB := A_ (below_step bB_ hb); clear hb ho0; obtain ⟨Ao55, co55, eo55⟩ := Kd.R_slice HO5e.out; subst eo55) | ((with_reducible refine gc_ (f := 73) rfl ?_); refine gL_ (some 108) Try.func73 #[.slice A0 l0.length c0, .slice Ao55 t6e.length co55] ?_; (with_reducible refine (spec_IsColl.calls kj45 _ _ l0 _ _ t6e true _ ?s1 ?s2 ?s3 ?s4 A51.out).mono ?_); (case s1 => exact cC_ (Kd.C_below HR0.out HB.out)); (case s2 => exact HC0.out); (case s3 => exact cC_ (Kd.R_reads' HO5e.out).2.2); (case s4 => exact (Kd.R_reads' HO5e.out).2.1); rintro e w' ⟨rfl, ⟨nd, rfl⟩⟩; refine ⟨_, rfl, ?_⟩; obtain ⟨Ao56, co56, eo56⟩ := Kd.S_slice HO_17.out; subst eo56) | (go_at_call 116; (with_reducible refine (spec_l11Long.calls kj45 _ _ t99 _ _ l1 _ _ l2 t1g _ ?s1 ?s2 ?s3 ?s4 ?s5 ?s6 A53.out).mono ?_); (case s1 => exact cC_ (Kd.S_reads' HO_17.out).2.2); (case s2 => exact (Kd.S_reads' HO_17.out).2.1); (case s3 => exact cC_ (Kd.C_below HR1.out bB_)); (case s4 => exact HC1.out); (case s5 => exact cC_ (Kd.C_below HR2.out bB_)); (case s6 => exact HC2.out); rintro e w' ⟨rfl, ⟨nd, rfl⟩⟩))
                       go_meet
                       case rel => exact ⟨_, (t1g), rs_, H', ⟨by have := HJ7.out; have := HJ10.out; have := HJ23.out; have := HJ32.out; have := HJ36.out; have := HJ45.out; first | omega | exact Nat.le_refl _⟩, ⟨by (with_reducible repeat (first | apply Kd.S_alloc | apply Kd.S_drewN | apply Kd.S_drew)); exact Kd.S_mono HO_17.out (fun _ hk => hk.1)⟩, ⟨by (with_reducible repeat (first | apply Kd.S_alloc | apply Kd.S_drewN | apply Kd.S_drew)); exact Kd.S_mono HO_18.out (fun _ hk => hk.1)⟩, ⟨bB_⟩⟩
                     . replace c52 := Bool.eq_false_iff.mpr c52
                       subst c52
                       rw [if_neg nf_] at H
                       have H' := A_ H
                       clear H
                       go_wp2_with (first | ((with_reducible refine gc_ (f := 74) rfl ?_); refine gL_ (some 107) Try.func74 #[.slice A2 l2.length c2] ?_; (with_reducible refine (spec_Above.calls _ _ l2 t6e _ ?s1 ?s2 A50.out).mono ?_); (case s1 => exact cC_ (Kd.C_below HR2.out HB.out)); (case s2 => exact HC2.out); rintro e w57 ⟨v7g, rfl, ho0, hb⟩; refine ⟨_, rfl, ?_⟩; replace HO_17 := A_ (Kd.S_elder' (vS_ HO_17.out) (kb_ ho0) hb); replace HO_18 := A_ (Kd.S_elder' (vS_ HO_18.out) (kb_ ho0) hb); have HO5e := A_ (Kd.R_lower ho0 (below_size bB_)); replace HB := A_ (below_step bB_ hb); clear hb ho0; obtain ⟨Ao58, co58, eo58⟩ := Kd.R_slice HO5e.out; subst eo58) | ((with_reducible refine gc_ (f := 73) rfl ?_); refine gL_ (some 108) Try.func73 #[.slice A0 l0.length c0, .slice Ao58 t6e.length co58] ?_; (with_reducible refine (spec_IsColl.calls kj45 _ _ l0 _ _ t6e false _ ?s1 ?s2 ?s3 ?s4 A51.out).mono ?_); (case s1 => exact cC_ (Kd.C_below HR0.out HB.out)); (case s2 => exact HC0.out); (case s3 => exact cC_ (Kd.R_reads' HO5e.out).2.2); (case s4 => exact (Kd.R_reads' HO5e.out).2.1); rintro e w' ⟨rfl, ⟨nd, rfl⟩⟩; refine ⟨_, rfl, ?_⟩))
                       go_meet
                       case rel => exact ⟨_, (true), rs_, H', ⟨by have := HJ7.out; have := HJ10.out; have := HJ23.out; have := HJ32.out; have := HJ36.out; have := HJ45.out; first | omega | exact Nat.le_refl _⟩, ⟨by (with_reducible repeat (first | apply Kd.S_alloc | apply Kd.S_drewN | apply Kd.S_drew)); exact Kd.S_mono HO_17.out (fun _ hk => hk.1)⟩, ⟨by (with_reducible repeat (first | apply Kd.S_alloc | apply Kd.S_drewN | apply Kd.S_drew)); exact Kd.S_mono HO_18.out (fun _ hk => hk.1)⟩, ⟨bB_⟩⟩
                    case rest =>
                     clear HC49
                     try clear c1
                     try clear c32
                     try clear c32b0
                     try clear c32b1
                     try clear c36
                     try clear c45
                     try clear c48
                     obtain ⟨kq, x104_48, rfl, HA, HJ48, HO_17, HO_18, HB⟩ := hcut
                     cases kq with
                     | zero => exact absurd HA.out (by simp [spec_l11Far.j6])
                     | succ kj48 =>
                      have H := HA.out
                      clear HA
                      simp only [spec_l11Far.j6] at H
                      by_cases c59 : x104_48 = true
                      . subst c59
                        rw [if_pos rfl] at H
                        have H' := A_ H
                        clear H
                        go_wp2
                        go_meet
                        case rel => exact ⟨_, (409), rs_, H', ⟨by have := HJ7.out; have := HJ10.out; have := HJ23.out; have := HJ32.out; have := HJ36.out; have := HJ45.out; have := HJ48.out; first | omega | exact Nat.le_refl _⟩, ⟨vS_ HO_17.out⟩, ⟨vS_ HO_18.out⟩, ⟨bB_⟩⟩
                      . replace c59 := Bool.eq_false_iff.mpr c59
                        subst c59
                        rw [if_neg nf_] at H
                        by_cases c60 : (wrap64 ((x18_23.length : Int) + (t99.length : Int))) > 12
                        . rw [if_pos c60] at H
                          have c60b0 : decide (12 < (wrap64 ((x18_23.length : Int) + (t99.length : Int)))) = true := decide_eq_true c60
                          clear c60
                          have H' := A_ H
                          clear H
                          obtain ⟨Ao61, co61, eo61⟩ := Kd.S_slice HO_18.out
                          subst eo61
                          obtain ⟨Ao62, co62, eo62⟩ := Kd.S_slice HO_17.out
                          subst eo62
                          go_wp2
                          go_meet
                          case rel => exact ⟨_, (507), rs_, H', ⟨by have := HJ7.out; have := HJ10.out; have := HJ23.out; have := HJ32.out; have := HJ36.out; have := HJ45.out; have := HJ48.out; first | omega | exact Nat.le_refl _⟩, ⟨vS_ HO_17.out⟩, ⟨vS_ HO_18.out⟩, ⟨bB_⟩⟩
                        rw [if_neg c60] at H
                        have c60b0 : decide (12 < (wrap64 ((x18_23.length : Int) + (t99.length : Int)))) = false := decide_eq_false c60
                        clear c60
                        have H' := A_ H
                        clear H
                        obtain ⟨Ao63, co63, eo63⟩ := Kd.S_slice HO_18.out
                        subst eo63
                        obtain ⟨Ao64, co64, eo64⟩ := Kd.S_slice HO_17.out
                        subst eo64
                        go_wp2
                        go_meet
                        case rel => exact ⟨_, (x14_10), rs_, H', ⟨by have := HJ7.out; have := HJ10.out; have := HJ23.out; have := HJ32.out; have := HJ36.out; have := HJ45.out; have := HJ48.out; first | omega | exact Nat.le_refl _⟩, ⟨vS_ HO_17.out⟩, ⟨vS_ HO_18.out⟩, ⟨bB_⟩⟩
       case rest =>
        clear HC31
        try clear c1
        obtain ⟨kq, x14_30, rfl, HA, HJ30, HO_17, HO_18, HB⟩ := hcut
        cases kq with
        | zero => exact absurd HA.out (by simp [spec_l11Far.j7])
        | succ kj30 =>
         have H := HA.out
         clear HA
         simp only [spec_l11Far.j7] at H
         by_cases c65 : x14_30 = 0
         rotate_left
         . rw [if_neg c65] at H
           obtain ⟨c65b0, c65b1⟩ := eF_ c65
           obtain ⟨t8g, A93, H⟩ := bo_ H
           (try dsimp only at H)
           simp only [Option.some.injEq, Prod.mk.injEq] at H
           obtain ⟨rfl, rfl⟩ := H
           go_wp2_with (first | ((with_reducible refine gc_ (f := 62) rfl ?_); refine gL_ (some 126) Try.func62 #[.slice A0 l0.length c0] ?_; (with_reducible refine (spec_l10CopyAll.calls kj30 _ _ l0 t8g _ ?s1 ?s2 A93.out).mono ?_); (case s1 => exact cC_ (Kd.C_below HR0.out HB.out)); (case s2 => exact HC0.out); rintro e w94 ⟨v5h, rfl, ho0, hb⟩; refine ⟨_, rfl, ?_⟩; have HO9g := A_ (Kd.S_lower (Kd.S_new' (Kd.S_new' ho0 (Kd.S_lt (vS_ HO_17.out))) (Kd.S_lt (vS_ HO_18.out))) (below_size bB_)); replace HB := A_ (below_step bB_ hb); clear hb ho0))
           go_ret2
           exact ⟨_, rr_, by (with_reducible repeat (first | apply Kd.S_alloc | apply Kd.S_drewN | apply Kd.S_drew)); exact Kd.S_mono HO9g.out (fun _ hk => trivial), bB_⟩
         rw [if_pos c65] at H
         obtain ⟨c65b0, c65b1⟩ := eT_ c65
         clear c65
         have H' := A_ H
         clear H
         go_wp2
         go_loopg [18, 19] kj30 (fun kq v18 v19 w' => ∃ (x18_5 : List (S57)) (x19_5 : Int), v19 = .int .i64 x19_5 /\ Aside0 (spec_l11Far.l0 kq l1 l2 a4 x16_23 t99 x18_5 x19_5 = some (r1, r2)) /\ Aside0 (kq <= kj30) /\ Aside0 (Kd.S k57 57 w' w.heap.size (fun k_ => some k_ ≠ (v18 : Value).ownBlock) v1e t99) /\ Aside0 (Kd.S k57 57 w' w.heap.size (fun k_ => some k_ ≠ (v1e : Value).ownBlock) v18 x18_5) /\ Aside0 (Below w.heap.size w w'))
         case atStart => exact ⟨(x18_23), (0), rs_, H', ⟨Nat.le_refl _⟩, ⟨vS_ HO_17.out⟩, ⟨vS_ HO_18.out⟩, ⟨bB_⟩⟩
         case round => as_aux_lemma =>
          clear H'
          try clear c1
          try clear c65
          try clear c65b0
          try clear c65b1
          obtain ⟨x18_5, x19_5, rfl, HA, HK5, HO_17, HO_18, HB⟩ := hrel
          cases gk with
          | zero => exact absurd HA.out (by simp [spec_l11Far.l0])
          | succ k5 =>
           have H := HA.out
           clear HA
           simp only [spec_l11Far.l0] at H
           by_cases c66 : x19_5 < (t99.length : Int)
           rotate_left
           . rw [if_neg c66] at H
             have c66b0 := decide_eq_false c66
             clear c66
             by_cases c90 : x16_23 = true
             . subst c90
               rw [if_pos rfl] at H
               simp only [Option.some.injEq, Prod.mk.injEq] at H
               obtain ⟨rfl, rfl⟩ := H
               obtain ⟨Ao91, co91, eo91⟩ := Kd.S_slice HO_17.out
               subst eo91
               go_wp2
               go_ret2
               exact ⟨_, rr_, by (with_reducible repeat (first | apply Kd.S_alloc | apply Kd.S_drewN | apply Kd.S_drew)); exact Kd.S_mono HO_18.out (fun _ hk => trivial), bB_⟩
             . replace c90 := Bool.eq_false_iff.mpr c90
               subst c90
               rw [if_neg nf_] at H
               simp only [Option.some.injEq, Prod.mk.injEq] at H
               obtain ⟨rfl, rfl⟩ := H
               obtain ⟨Ao92, co92, eo92⟩ := Kd.S_slice HO_17.out
               subst eo92
               go_wp2
               go_ret2
               exact ⟨_, rr_, by (with_reducible repeat (first | apply Kd.S_alloc | apply Kd.S_drewN | apply Kd.S_drew)); exact Kd.S_mono HO_18.out (fun _ hk => trivial), bB_⟩
           rw [if_pos c66] at H
           have c66b0 := decide_eq_true c66
           clear c66
           by_cases c67 : 0 <= x19_5
           rotate_left
           . exact absurd H (by rw [if_neg c67]; simp)
           rw [if_pos c67] at H
           have c67b0 := decide_eq_true c67
           clear c67
           obtain ⟨⟨t3d, t7d, t8d, t2e, t1d⟩, A68, H⟩ := bo_ H
           (try dsimp only at H)
           obtain ⟨t7e, A69, H⟩ := bo_ H
           (try dsimp only at H)
           by_cases c70 : 0 <= (l1.length : Int)
           rotate_left
           . exact absurd H (by rw [if_neg c70]; simp)
           rw [if_pos c70] at H
           have c70b0 := eq_true c70
           have c70b1 := decide_eq_true c70
           clear c70
           by_cases c71 : (l1.length : Int) <= (((rd_T57 t99 x19_5).f0).length : Int)
           rotate_left
           . exact absurd H (by rw [if_neg c71]; simp)
           rw [if_pos c71] at H
           have c71b0 := eq_true c71
           have c71b1 := decide_eq_true c71
           clear c71
           obtain ⟨y4d, hy4d⟩ : ∃ y_ : List ByteArray, y_ = (((rd_T57 t99 x19_5).f0).drop ((l1.length : Int) : Int).toNat) := ⟨_, rfl⟩
           replace H : (if t7e.length + y4d.length < 8796093022208 then ((spec_l11Put.f k5 x18_5 (t7e ++ y4d) t7d t8d a4 t1d).bind fun t8e => (spec_l11Far.l0 k5 l1 l2 a4 x16_23 t99 t8e (wrap64 (x19_5 + 1)))) else (none)) = some (r1, r2) := hy_ hy4d H
           have Ny4d := A_ hy4d
           clear hy4d
           by_cases c72 : t7e.length + y4d.length < 8796093022208
           rotate_left
           . exact absurd H (by rw [if_neg c72]; simp)
           rw [if_pos c72] at H
           have LMc72 := A_ c72
           clear c72
           obtain ⟨y2d, hy2d⟩ : ∃ y_ : List ByteArray, y_ = (t7e ++ y4d) := ⟨_, rfl⟩
           replace H : ((spec_l11Put.f k5 x18_5 y2d t7d t8d a4 t1d).bind fun t8e => (spec_l11Far.l0 k5 l1 l2 a4 x16_23 t99 t8e (wrap64 (x19_5 + 1)))) = some (r1, r2) := hy_ hy2d H
           have Ny2d := A_ hy2d
           clear hy2d
           obtain ⟨t8e, A73, H⟩ := bo_ H
           (try dsimp only at H)
           have H' := A_ H
           clear H
           obtain ⟨Ao74, co74, eo74⟩ := Kd.S_slice HO_17.out
           subst eo74
           have p95 : 0 <= (x19_5 : Int) := od_
           have q95 : x19_5 < (t99.length : Int) := od_
           obtain ⟨ad95, A95_0, c95_0, A95_4, c95_4, e95, hx95_0, hx95_1, hx95_2, hx95_3, hx95_4, hl95_0, hi95_0, hl95_4, hi95_4⟩ := at_T57 (Kd.S_reads' HO_17.out).2.2 x19_5 p95 q95
           cases e95
           obtain ⟨ce95, hce95, hMe95, hcc95⟩ := Kd.S_get HO_17.out z57 x19_5 p95 (by first | exact q95 | exact od_ | (have e_ := (Kd.S_reads' HO_17.out).1; omega))
           obtain ⟨ve932_0, ve932_4, rfl, ge95_0, ge95_4⟩ := k57_openM hMe95
           have hv95_0 := hcc95 0 _ rfl
           rw [Nat.add_zero] at hv95_0
           replace hv95_0 := Option.some.inj (hv95_0.symm.trans hx95_0)
           rw [hv95_0] at ge95_0
           have HL95_0 := A_ (show Kd.R Kd.string 9 _ _ _ _ ((rd_T57 t99 x19_5).f0) from ge95_0)
           clear hv95_0 ge95_0
           have hv95_4 := hcc95 4 _ rfl
           rw [add_field _ _ 4 (by omega)] at hv95_4
           replace hv95_4 := Option.some.inj (hv95_4.symm.trans hx95_4)
           rw [hv95_4] at ge95_4
           have HL95_4 := A_ (show Kd.R k72 72 _ _ _ _ ((rd_T57 t99 x19_5).f4) from ge95_4)
           clear hv95_4 ge95_4
           clear hcc95 hce95
           have HR95_0 := A_ hi95_0
           have HC95_0 := A_ hl95_0
           clear hi95_0 hl95_0
           have HR95_4 := A_ hi95_4
           have HC95_4 := A_ hl95_4
           clear hi95_4 hl95_4
           replace p95 := eq_true p95
           replace q95 := eq_true q95
           try go_wp2_with (first | ((with_reducible refine gc_ (f := 105) rfl ?_); refine gL_ (some 138) Try.func105 #[.agg #[.slice A95_0 ((rd_T57 t99 x19_5).f0).length c95_0, .bool ((rd_T57 t99 x19_5).f1), .string ((rd_T57 t99 x19_5).f2), .int .i64 ((rd_T57 t99 x19_5).f3), .slice A95_4 ((rd_T57 t99 x19_5).f4).length c95_4]] ?_; (with_reducible refine (spec_l10Copy.calls _ _ ((rd_T57 t99 x19_5).f0) ((rd_T57 t99 x19_5).f1) ((rd_T57 t99 x19_5).f2) ((rd_T57 t99 x19_5).f3) _ _ ((rd_T57 t99 x19_5).f4) t3d t7d t8d t2e t1d _ ?s1 ?s2 ?s3 ?s4 A68.out).mono ?_); (case s1 => repeat (first | exact (cC_ HR95_0.out) | (with_reducible refine Kd.C_alloc ?_ _) | (with_reducible refine Kd.C_drewN ?_ _) | (with_reducible refine Kd.C_drew ?_))); (case s2 => exact HC95_0.out); (case s3 => repeat (first | exact (cC_ HR95_4.out) | (with_reducible refine Kd.C_alloc ?_ _) | (with_reducible refine Kd.C_drewN ?_ _) | (with_reducible refine Kd.C_drew ?_))); (case s4 => exact HC95_4.out); rintro e w75 ⟨v6h, v7h, rfl, ho0, ho1, hb⟩; refine ⟨_, rfl, ?_⟩; replace HO_17 := A_ (Kd.S_mono (Kd.S_told (Kd.S_told (Kd.S_old (vS_ HO_17.out) hb) (kb_ ho0)) (kb_ ho1)) (fun _ h_ => h_.1)); replace HO_18 := A_ (Kd.S_mono (Kd.S_told (Kd.S_told (Kd.S_old (vS_ HO_18.out) hb) (kb_ ho0)) (kb_ ho1)) (fun _ h_ => h_.1)); have HO5d := A_ (Kd.R_lower (Kd.R_new' ho0 (Kd.R_lt (vR_ HL95_0.out))) (below_size bB_)); replace HL95_0 := A_ (Kd.R_elder' (vR_ HL95_0.out) (kb_ ho0) hb); have HO6d := A_ (Kd.R_lower (Kd.R_new' ho1 (Kd.R_lt (vR_ HL95_4.out))) (below_size bB_)); replace HL95_4 := A_ (Kd.R_elder' (vR_ HL95_4.out) (kb_ ho1) hb); replace HB := A_ (below_step bB_ hb); clear hb ho0 ho1) | ((with_reducible refine gd_ (N := 20) rfl ?_); (try (refine gate_guard (by rfl) ?_; dsimp only)); refine bx_ (N := 20) (cs := #[.slice none 0 0, .bool false, .string (⟨#[]⟩ : ByteArray), .int .i64 0, .slice none 0 0]) (t := 57) ?_; intro gb96 hg w76 hbox hb; replace HO_17 := A_ (Kd.S_below (Kd.S_elderB (vS_ HO_17.out) gb96 (Nat.le_of_eq hg.symm)) hb); replace HO_18 := A_ (Kd.S_below (Kd.S_elderB (vS_ HO_18.out) gb96 (Nat.le_of_eq hg.symm)) hb); replace HL95_0 := A_ (Kd.R_below (vR_ HL95_0.out) hb); replace HL95_4 := A_ (Kd.R_below (vR_ HL95_4.out) hb); replace HO5d := A_ (Kd.R_below (vR_ HO5d.out) hb); replace HO6d := A_ (Kd.R_below (vR_ HO6d.out) hb); have BK96 := A_ (hbox); have GW96 := A_ (ge_ hg bB_ : w.heap.size <= gb96); have GE96 := A_ (ge_ hg bB_ : w.heap.size <= gb96); replace HB := A_ (below_step bB_ hb); clear hb hbox hg; obtain ⟨Ao77, co77, eo77⟩ := Kd.R_slice HO5d.out; subst eo77; obtain ⟨hcz78_0, hcz78_1, hcz78_2, hcz78_3, hcz78_4, hfz78_0, hfz78_1, hfz78_2, hfz78_3, hfz78_4⟩ := cz5_ BK96.out; obtain ⟨Ao79, co79, eo79⟩ := Kd.R_slice HO6d.out; subst eo79))
           obtain ⟨w80, hW_⟩ : ∃ w_, w_ = (((((w76.setCell ⟨gb96, 0, none⟩ (.slice Ao77 t3d.length co77)).setCell ⟨gb96, 1, none⟩ (.bool t7d)).setCell ⟨gb96, 2, none⟩ (.string t8d)).setCell ⟨gb96, 3, none⟩ (.int .i64 t2e)).setCell ⟨gb96, 4, none⟩ (.slice Ao79 t1d.length co79)) := ⟨_, rfl⟩
           have n0_ : Aside0 (Kd.S k57 57 w80 w.heap.size (fun k_ => some k_ ≠ (u18 : Value).ownBlock /\ some k_ ≠ (.slice Ao77 t3d.length co77 : Value).ownBlock /\ some k_ ≠ (.slice Ao79 t1d.length co79 : Value).ownBlock /\ k_ ≠ gb96) (.slice (some ad95) t99.length co74) t99) := ⟨by rw [hW_]; (with_reducible repeat (first | apply Kd.S_alloc | apply Kd.S_drewN | apply Kd.S_drew)); exact Kd.S_mono (Kd.S_far (p := ⟨gb96, 4, none⟩) (Kd.S_far (p := ⟨gb96, 3, none⟩) (Kd.S_far (p := ⟨gb96, 2, none⟩) (Kd.S_far (p := ⟨gb96, 1, none⟩) (Kd.S_far (p := ⟨gb96, 0, none⟩) (Kd.S_mono HO_17.out (fun k_ hk => (⟨hk, hk.2⟩ : _ /\ k_ ≠ gb96))) (fun _ hk => hk.2) (.slice Ao77 t3d.length co77)) (fun _ hk => hk.2) (.bool t7d)) (fun _ hk => hk.2) (.string t8d)) (fun _ hk => hk.2) (.int .i64 t2e)) (fun _ hk => hk.2) (.slice Ao79 t1d.length co79)) (fun _ hk => ⟨hk.1.1.1.1, ⟨hk.1.1.1.2, ⟨hk.1.1.2, hk.1.2⟩⟩⟩)⟩
           have n1_ : Aside0 (Kd.S k57 57 w80 w.heap.size (fun k_ => some k_ ≠ (.slice (some ad95) t99.length co74 : Value).ownBlock /\ some k_ ≠ (.slice Ao77 t3d.length co77 : Value).ownBlock /\ some k_ ≠ (.slice Ao79 t1d.length co79 : Value).ownBlock /\ k_ ≠ gb96) u18 x18_5) := ⟨by rw [hW_]; (with_reducible repeat (first | apply Kd.S_alloc | apply Kd.S_drewN | apply Kd.S_drew)); exact Kd.S_mono (Kd.S_far (p := ⟨gb96, 4, none⟩) (Kd.S_far (p := ⟨gb96, 3, none⟩) (Kd.S_far (p := ⟨gb96, 2, none⟩) (Kd.S_far (p := ⟨gb96, 1, none⟩) (Kd.S_far (p := ⟨gb96, 0, none⟩) (Kd.S_mono HO_18.out (fun k_ hk => (⟨hk, hk.2⟩ : _ /\ k_ ≠ gb96))) (fun _ hk => hk.2) (.slice Ao77 t3d.length co77)) (fun _ hk => hk.2) (.bool t7d)) (fun _ hk => hk.2) (.string t8d)) (fun _ hk => hk.2) (.int .i64 t2e)) (fun _ hk => hk.2) (.slice Ao79 t1d.length co79)) (fun _ hk => ⟨hk.1.1.1.1, ⟨hk.1.1.1.2, ⟨hk.1.1.2, hk.1.2⟩⟩⟩)⟩
           have n2_ : Aside0 (Kd.R Kd.string 9 w80 w.heap.size (fun k_ => some k_ ≠ (.slice (some ad95) t99.length co74 : Value).ownBlock /\ some k_ ≠ (u18 : Value).ownBlock /\ some k_ ≠ (.slice Ao77 t3d.length co77 : Value).ownBlock) (.slice A95_0 ((rd_T57 t99 x19_5).f0).length c95_0) ((rd_T57 t99 x19_5).f0)) := ⟨by rw [hW_]; (with_reducible repeat (first | apply Kd.R_alloc | apply Kd.R_drewN | apply Kd.R_drew)); exact Kd.R_mono (Kd.R_far (p := ⟨gb96, 4, none⟩) (Kd.R_far (p := ⟨gb96, 3, none⟩) (Kd.R_far (p := ⟨gb96, 2, none⟩) (Kd.R_far (p := ⟨gb96, 1, none⟩) (Kd.R_far (p := ⟨gb96, 0, none⟩) (Kd.R_types HL95_0.out BK96.out (by decide)) (fun _ hk => hk.2) (.slice Ao77 t3d.length co77)) (fun _ hk => hk.2) (.bool t7d)) (fun _ hk => hk.2) (.string t8d)) (fun _ hk => hk.2) (.int .i64 t2e)) (fun _ hk => hk.2) (.slice Ao79 t1d.length co79)) (fun _ hk => ⟨hk.1.1.2, ⟨hk.1.1.1, hk.1.2⟩⟩)⟩
           have n3_ : Aside0 (Kd.R k72 72 w80 w.heap.size (fun k_ => some k_ ≠ (.slice (some ad95) t99.length co74 : Value).ownBlock /\ some k_ ≠ (u18 : Value).ownBlock /\ some k_ ≠ (.slice Ao79 t1d.length co79 : Value).ownBlock) (.slice A95_4 ((rd_T57 t99 x19_5).f4).length c95_4) ((rd_T57 t99 x19_5).f4)) := ⟨by rw [hW_]; (with_reducible repeat (first | apply Kd.R_alloc | apply Kd.R_drewN | apply Kd.R_drew)); exact Kd.R_mono (Kd.R_far (p := ⟨gb96, 4, none⟩) (Kd.R_far (p := ⟨gb96, 3, none⟩) (Kd.R_far (p := ⟨gb96, 2, none⟩) (Kd.R_far (p := ⟨gb96, 1, none⟩) (Kd.R_far (p := ⟨gb96, 0, none⟩) (Kd.R_types HL95_4.out BK96.out (by decide)) (fun _ hk => hk.2) (.slice Ao77 t3d.length co77)) (fun _ hk => hk.2) (.bool t7d)) (fun _ hk => hk.2) (.string t8d)) (fun _ hk => hk.2) (.int .i64 t2e)) (fun _ hk => hk.2) (.slice Ao79 t1d.length co79)) (fun _ hk => ⟨hk.1.1.2, ⟨hk.1.1.1, hk.1.2⟩⟩)⟩
           have n4_ : Aside0 (Kd.R Kd.string 9 w80 w.heap.size (fun k_ => some k_ ≠ (.slice A95_0 ((rd_T57 t99 x19_5).f0).length c95_0 : Value).ownBlock) (.slice Ao77 t3d.length co77) t3d) := ⟨by rw [hW_]; (with_reducible repeat (first | apply Kd.R_alloc | apply Kd.R_drewN | apply Kd.R_drew)); exact Kd.R_mono (Kd.R_far (p := ⟨gb96, 4, none⟩) (Kd.R_far (p := ⟨gb96, 3, none⟩) (Kd.R_far (p := ⟨gb96, 2, none⟩) (Kd.R_far (p := ⟨gb96, 1, none⟩) (Kd.R_far (p := ⟨gb96, 0, none⟩) (Kd.R_types HO5d.out BK96.out (by decide)) (fun _ hk => hk.2) (.slice Ao77 t3d.length co77)) (fun _ hk => hk.2) (.bool t7d)) (fun _ hk => hk.2) (.string t8d)) (fun _ hk => hk.2) (.int .i64 t2e)) (fun _ hk => hk.2) (.slice Ao79 t1d.length co79)) (fun _ hk => hk.1.2)⟩
           have n5_ : Aside0 (Kd.R k72 72 w80 w.heap.size (fun k_ => some k_ ≠ (.slice A95_4 ((rd_T57 t99 x19_5).f4).length c95_4 : Value).ownBlock) (.slice Ao79 t1d.length co79) t1d) := ⟨by rw [hW_]; (with_reducible repeat (first | apply Kd.R_alloc | apply Kd.R_drewN | apply Kd.R_drew)); exact Kd.R_mono (Kd.R_far (p := ⟨gb96, 4, none⟩) (Kd.R_far (p := ⟨gb96, 3, none⟩) (Kd.R_far (p := ⟨gb96, 2, none⟩) (Kd.R_far (p := ⟨gb96, 1, none⟩) (Kd.R_far (p := ⟨gb96, 0, none⟩) (Kd.R_types HO6d.out BK96.out (by decide)) (fun _ hk => hk.2) (.slice Ao77 t3d.length co77)) (fun _ hk => hk.2) (.bool t7d)) (fun _ hk => hk.2) (.string t8d)) (fun _ hk => hk.2) (.int .i64 t2e)) (fun _ hk => hk.2) (.slice Ao79 t1d.length co79)) (fun _ hk => hk.1.2)⟩
           have n6_ : Aside0 (w80.heap[gb96]? = some (.cells #[.slice Ao77 t3d.length co77, .bool t7d, .string t8d, .int .i64 t2e, .slice Ao79 t1d.length co79] 57 (0, 0))) := ⟨by rw [hW_]; (with_reducible repeat (first | refine blk_drewN ?_ _ | refine blk_drew ?_ | refine blk_alloc ?_ _)); with_reducible exact p5_01234_ (vb_ BK96.out)⟩
           have n7_ : Aside0 (Below w.heap.size w w80) := ⟨by rw [hW_]; exact bG_ GE96.out⟩
           (try clear HO_17)
           (try clear HO_18)
           (try clear HL95_0)
           (try clear HL95_4)
           (try clear HO5d)
           (try clear HO6d)
           (try clear BK96)
           (try clear HB)
           rw [← hW_]
           clear hW_
           have HO_17 := n0_
           have HO_18 := n1_
           have HL95_0 := n2_
           have HL95_4 := n3_
           have HO5d := n4_
           have HO6d := n5_
           have BK96 := n6_
           have HB := n7_
           clear n0_ n1_ n2_ n3_ n4_ n5_ n6_ n7_
           replace HO_17 := A_ (Kd.S_drew HO_17.out)
           replace HO_18 := A_ (Kd.S_drew HO_18.out)
           replace HL95_0 := A_ (Kd.R_drew HL95_0.out)
           replace HL95_4 := A_ (Kd.R_drew HL95_4.out)
           replace HO5d := A_ (Kd.R_drew HO5d.out)
           replace HO6d := A_ (Kd.R_drew HO6d.out)
           replace BK96 := A_ (blk_drew BK96.out)
           replace HB := A_ (below_drew1 HB.out)
           have p97 : 0 <= (x19_5 : Int) := od_
           have q97 : x19_5 < (t99.length : Int) := od_
           obtain ⟨ad97, A97_0, c97_0, A97_4, c97_4, e97, hx97_0, hx97_1, hx97_2, hx97_3, hx97_4, hl97_0, hi97_0, hl97_4, hi97_4⟩ := at_T57 (Kd.S_reads' HO_17.out).2.2 x19_5 p97 q97
           obtain rfl : ad95 = ad97 := (by injection e97)
           obtain ⟨ce97, hce97, hMe97, hcc97⟩ := Kd.S_get HO_17.out z57 x19_5 p97 (by first | exact q97 | exact od_ | (have e_ := (Kd.S_reads' HO_17.out).1; omega))
           obtain ⟨ve946_0, ve946_4, rfl, ge97_0, ge97_4⟩ := k57_openM hMe97
           have hv97_0 := hcc97 0 _ rfl
           rw [Nat.add_zero] at hv97_0
           replace hv97_0 := Option.some.inj (hv97_0.symm.trans hx97_0)
           rw [hv97_0] at ge97_0
           have HL97_0 := A_ (show Kd.R Kd.string 9 _ _ _ _ ((rd_T57 t99 x19_5).f0) from ge97_0)
           clear hv97_0 ge97_0
           have hv97_4 := hcc97 4 _ rfl
           rw [add_field _ _ 4 (by omega)] at hv97_4
           replace hv97_4 := Option.some.inj (hv97_4.symm.trans hx97_4)
           rw [hv97_4] at ge97_4
           have HL97_4 := A_ (show Kd.R k72 72 _ _ _ _ ((rd_T57 t99 x19_5).f4) from ge97_4)
           clear hv97_4 ge97_4
           clear hcc97 hce97
           have HR97_0 := A_ hi97_0
           have HC97_0 := A_ hl97_0
           clear hi97_0 hl97_0
           clear hi97_4 hl97_4
           replace p97 := eq_true p97
           replace q97 := eq_true q97
           have q82 : ((l1.length : Int) : Int) <= ((((rd_T57 t99 x19_5).f0).length : Int) : Int) := od_
           obtain ⟨i082, hi3f, _, hsz82, _⟩ := info_parts info9
           have hroom82 : ((rd_T57 t99 x19_5).f0).length <= c97_0 := HC97_0.out
           have hC82 : Kd.C Kd.string _ A97_0 ((rd_T57 t99 x19_5).f0).length ((rd_T57 t99 x19_5).f0) := (cC_ HR97_0.out)
           have q3f : (0 : Int) <= ((l1.length : Int) : Int) := od_
           have hcut82 := cut_from (P := Try.prog) 23 9 .i64 Try.underlying23 hi3f 1 hsz82 A97_0 ((rd_T57 t99 x19_5).f0).length c97_0 (l1.length : Int) q3f q82
           have hr82 := Kd.C_drop (m := ((l1.length : Int) : Int).toNat) (c := c97_0) hC82 (by omega) hroom82
           obtain ⟨A82, hA82⟩ : ∃ A1, A1 = (if c97_0 = ((l1.length : Int) : Int).toNat then A97_0 else (A97_0 : Option Addr).map (·.add (((l1.length : Int) : Int).toNat * 1))) := ⟨_, rfl⟩
           obtain ⟨c82, hc82⟩ : ∃ c1, c1 = c97_0 - ((l1.length : Int) : Int).toNat := ⟨_, rfl⟩
           have hy82 : y4d.length = ((rd_T57 t99 x19_5).f0).length - ((l1.length : Int) : Int).toNat := (by rw [Ny4d.out, List.length_drop] <;> omega)
           rw [show ((rd_T57 t99 x19_5).f0).drop ((l1.length : Int) : Int).toNat = y4d from Ny4d.out.symm] at hr82
           replace hr82 : Kd.C Kd.string _ A82 y4d.length y4d := (by rw [hA82]; exact hr82)
           rw [← hy82, ← hA82, ← hc82] at hcut82
           have HR4f := A_ hr82
           clear hr82 hC82 hroom82 hi3f hsz82 hc82
           have KY82 := A_ hy82
           have KA82 := A_ hA82
           clear hy82 hA82
           replace q82 := eq_true q82
           refine start_ (n := 14) (S := fun w' => w'.cell? (ad95.add ((x19_5).toNat * 5)) = some (.slice A97_0 ((rd_T57 t99 x19_5).f0).length c97_0) /\ w'.cell? ⟨(ad95.add ((x19_5).toNat * 5)).block, (ad95.add ((x19_5).toNat * 5)).off + 1, none⟩ = some (.bool ((rd_T57 t99 x19_5).f1)) /\ w'.cell? ⟨(ad95.add ((x19_5).toNat * 5)).block, (ad95.add ((x19_5).toNat * 5)).off + 2, none⟩ = some (.string ((rd_T57 t99 x19_5).f2)) /\ w'.cell? ⟨(ad95.add ((x19_5).toNat * 5)).block, (ad95.add ((x19_5).toNat * 5)).off + 3, none⟩ = some (.int .i64 ((rd_T57 t99 x19_5).f3)) /\ w'.cell? ⟨(ad95.add ((x19_5).toNat * 5)).block, (ad95.add ((x19_5).toNat * 5)).off + 4, none⟩ = some (.slice A97_4 ((rd_T57 t99 x19_5).f4).length c97_4)) (ds := [11, 13]) #[false, false, false, false, false, false, false, false, false, false, false, false, false, false] (by kernel_rfl) rfl rfl ⟨hx97_0, hx97_1, hx97_2, hx97_3, hx97_4⟩ (fun hHeld => ?_); refine with_tabW spec_l11Far.tab28 spec_l11Far.bits28 (fun HT_ HW_ => ?_)
           generalize w80.drew = w81 at HO_17 HO_18 HL95_0 HL95_4 HO5d HO6d BK96 HB HL97_0 HL97_4 HR97_0 HR4f hx97_0 hx97_1 hx97_2 hx97_3 hx97_4 hHeld ⊢
           refine pu_ (i := 1) (N := some 140) ?_
           refine pu_ (i := 3) (N := some 142) ?_
           refine pu_ (i := 4) (N := some 143) ?_
           refine pu_ (i := 5) (N := some 144) ?_
           refine pu_ (i := 6) (N := some 145) ?_
           refine pu_ (i := 8) (N := some 147) ?_
           refine pu_ (i := 9) (N := some 148) ?_
           refine tk_ (i := 7) (N := some 146) hHeld ?_
           refine pu_ (i := 10) (N := some 149) ?_
           refine on_ (i := 0) (N := some 139) (fun K hK => ?_)
           refine Kd.R_lit_step Kd.string (w0 := w81) w81.heap.size 9 (by rfl) (N := 139) rfl (xs := ([] : List ByteArray)) (inner := []) (ok := fun _ => True) (okp := fun _ => True) ?hrL (Reps.none _ _) (fun _ h => h) trivial (Below.refl _ _) (Nat.le_refl _) (by simp) ?_
           (case hrL => first | (go_simp; done) | (go_simp; rfl))
           intro vl_ wl_ hol_ hbl_ hgl_ hnl_
           have hHeld0_ := hHeld
           obtain ⟨Al_, cl_, rfl⟩ := Kd.R_slice hol_
           have HS0_ := (hbl_.cell (World.block_lt_of_cell? _ _ (hHeld.1))).trans (hHeld.1)
           have HS1_ := (hbl_.cell (World.block_lt_of_cell? _ _ (hHeld.2.1))).trans (hHeld.2.1)
           have HS2_ := (hbl_.cell (World.block_lt_of_cell? _ _ (hHeld.2.2.1))).trans (hHeld.2.2.1)
           have HS3_ := (hbl_.cell (World.block_lt_of_cell? _ _ (hHeld.2.2.2.1))).trans (hHeld.2.2.2.1)
           have HS4_ := (hbl_.cell (World.block_lt_of_cell? _ _ (hHeld.2.2.2.2))).trans (hHeld.2.2.2.2)
           refine hK.out _ _ ⟨HS0_, HS1_, HS2_, HS3_, HS4_⟩ (fun hHeld => ?_)
           clear hK K
           refine no_ (some 139) ?_
           have hlen_ : l2.length < 8796093022208 /\ t7e = [] ++ l2 := by
            have h_ := A69.out
            unfold impl_copyPath.f at h_
            split at h_
            . rename_i h2_; injection h_ with h_; exact ⟨by rw [List.length_nil] at h2_; omega, h_.symm⟩
            . cases h_
           refine on_ (i := 2) (N := some 141) (fun K hK => ?_)
           refine Kd.R_append_rows_step Kd.string (w0 := w81) w81.heap.size (by rfl) (.tmp 139) (.tmp 140) 23 9 (.string ⟨#[]⟩) 16 rfl Try.underlying23 info9 rfl (by decide) (by omega) _ ([] : List ByteArray) l2 _ _ _ (fun _ => True) (fun _ => False) rfl rfl ?aO ?aR (fun _ _ h => h) (fun _ h => h.elim) (fun _ _ => trivial) hbl_ hbl_.size ?aL ?_
           (case aO => exact hol_)
           (case aR => exact Kd.C_below (by repeat (first | exact (Kd.C_below HR2.out HB.out) | (with_reducible refine Kd.C_alloc ?_ _) | (with_reducible refine Kd.C_drewN ?_ _) | (with_reducible refine Kd.C_drew ?_))) hbl_)
           (case aL => have h_ := hlen_.1; rw [List.length_nil]; omega)
           intro v1h w83 ho0 hb hg_ hat_
           rw [← hlen_.2] at ho0
           clear hol_ hgl_ hnl_ hg_ hat_ hlen_ HS0_ HS1_ HS2_ HS3_ HS4_
           have HS0_ := (hb.cell (World.block_lt_of_cell? _ _ (hHeld0_.1))).trans (hHeld0_.1)
           have HS1_ := (hb.cell (World.block_lt_of_cell? _ _ (hHeld0_.2.1))).trans (hHeld0_.2.1)
           have HS2_ := (hb.cell (World.block_lt_of_cell? _ _ (hHeld0_.2.2.1))).trans (hHeld0_.2.2.1)
           have HS3_ := (hb.cell (World.block_lt_of_cell? _ _ (hHeld0_.2.2.2.1))).trans (hHeld0_.2.2.2.1)
           have HS4_ := (hb.cell (World.block_lt_of_cell? _ _ (hHeld0_.2.2.2.2))).trans (hHeld0_.2.2.2.2)
           replace HO_17 := A_ (Kd.S_elder' (vS_ HO_17.out) (kb_ ho0) hb)
           replace HO_18 := A_ (Kd.S_elder' (vS_ HO_18.out) (kb_ ho0) hb)
           replace HL95_4 := A_ (Kd.R_below (vR_ HL95_4.out) hb)
           replace HO6d := A_ (Kd.R_below (vR_ HO6d.out) hb)
           replace HL97_4 := A_ (Kd.R_below (vR_ HL97_4.out) hb)
           have HO9e := A_ (Kd.R_lower (Kd.R_new' (Kd.R_new' (Kd.R_new' ho0 (Kd.R_lt (vR_ HL95_0.out))) (Kd.R_lt (vR_ HO5d.out))) (Kd.R_lt (vR_ HL97_0.out))) (below_size (bG_ GE96.out)))
           replace HL95_0 := A_ (Kd.R_elder' (vR_ HL95_0.out) (kb_ ho0) hb)
           replace HO5d := A_ (Kd.R_elder' (vR_ HO5d.out) (kb_ ho0) hb)
           replace HL97_0 := A_ (Kd.R_elder' (vR_ HL97_0.out) (kb_ ho0) hb)
           replace BK96 := A_ (bw_ BK96.out hb)
           replace HR4f := A_ (Kd.C_below (cC_ HR4f.out) hb)
           replace HB := A_ (below_step (bG_ GE96.out) hb)
           (try clear hb)
           (try clear hb2)
           (try clear hk)
           (try clear hi)
           (try clear ho0)
           refine hK.out _ _ ⟨HS0_, HS1_, HS2_, HS3_, HS4_⟩ (fun hHeld => ?_)
           clear hK K
           refine no_ (some 141) ?_
           refine last_ (i := 11) (N := some 150) #[true, true, true, true, true, true, true, true, true, true, true, true, false, false] rfl rfl (one_of HT_.out (by kernel_rfl)) (by decide) (fun K hK => ?_)
           refine Kd.R_append_rows_step Kd.string (w0 := w) w.heap.size (by rfl) (.tmp 141) (.tmp 149) 23 9 (.string ⟨#[]⟩) 16 rfl Try.underlying23 info9 rfl (by decide) (by omega) v1h t7e y4d _ _ _ (fun k_ => some k_ ≠ (.slice A95_0 ((rd_T57 t99 x19_5).f0).length c95_0 : Value).ownBlock /\ some k_ ≠ (.slice Ao77 t3d.length co77 : Value).ownBlock /\ some k_ ≠ (.slice A97_0 ((rd_T57 t99 x19_5).f0).length c97_0 : Value).ownBlock) (fun _ => False) rfl rfl ?aO ?aR (fun _ _ h => h) (fun _ h => h.elim) ?aF ?aB ?aS ?aL ?_
           (case aR => repeat (first | exact (cC_ HR4f.out) | (with_reducible refine Kd.C_alloc ?_ _) | (with_reducible refine Kd.C_drewN ?_ _) | (with_reducible refine Kd.C_drew ?_)))
           (case aB => exact (bG_ GE96.out))
           (case aF => exact (fun k_ hk => ⟨Kd.fresh' (Kd.R_lt (vR_ HL95_0.out)) k_ hk, Kd.fresh' (Kd.R_lt (vR_ HO5d.out)) k_ hk, Kd.fresh' (Kd.R_lt (vR_ HL97_0.out)) k_ hk⟩))
           (case aO => exact (by (with_reducible repeat (first | apply Kd.R_alloc | apply Kd.R_drewN | apply Kd.R_drew)); exact Kd.R_mono HO9e.out (fun _ hk => ⟨hk.1.1.2, ⟨hk.1.2, hk.2⟩⟩)))
           (case aS => exact (below_size (bG_ GE96.out)))
           (case aL => have := LMc72.out; omega)
           intro v8h w84 ho hb hg hat
           rw [← Ny2d.out] at ho
           replace HO_17 := A_ (Kd.S_after (ok := (fun k_ => some k_ ≠ (u18 : Value).ownBlock /\ some k_ ≠ (.slice Ao77 t3d.length co77 : Value).ownBlock /\ some k_ ≠ (.slice Ao79 t1d.length co79 : Value).ownBlock /\ k_ ≠ gb96)) (vS_ HO_17.out) hg hat)
           replace HO_18 := A_ (Kd.S_after (ok := (fun k_ => some k_ ≠ (.slice (some ad95) t99.length co74 : Value).ownBlock /\ some k_ ≠ (.slice Ao77 t3d.length co77 : Value).ownBlock /\ some k_ ≠ (.slice Ao79 t1d.length co79 : Value).ownBlock /\ k_ ≠ gb96)) (vS_ HO_18.out) hg hat)
           replace HL95_0 := A_ (Kd.R_after (ok := (fun k_ => some k_ ≠ (.slice (some ad95) t99.length co74 : Value).ownBlock /\ some k_ ≠ (u18 : Value).ownBlock /\ some k_ ≠ (.slice Ao77 t3d.length co77 : Value).ownBlock)) (vR_ HL95_0.out) hg hat)
           replace HL95_4 := A_ (Kd.R_over' (vR_ HL95_4.out) (Kd.R_typed (vR_ HO9e.out)) (by decide) hg)
           replace HO5d := A_ (Kd.R_after (ok := (fun k_ => some k_ ≠ (.slice A95_0 ((rd_T57 t99 x19_5).f0).length c95_0 : Value).ownBlock)) (vR_ HO5d.out) hg hat)
           replace HO6d := A_ (Kd.R_over' (vR_ HO6d.out) (Kd.R_typed (vR_ HO9e.out)) (by decide) hg)
           replace BK96 := A_ (blk_grown (g := gb96) (o := .cells #[.slice Ao77 t3d.length co77, .bool t7d, .string t8d, .int .i64 t2e, .slice Ao79 t1d.length co79] 57 (0, 0)) (vb_ BK96.out) hg (Kd.R_ne HO9e.out BK96.out (by decide)))
           replace HL97_0 := A_ (Kd.R_after (ok := (fun k_ => some k_ ≠ (.slice (some ad95) t99.length co74 : Value).ownBlock /\ some k_ ≠ (u18 : Value).ownBlock /\ some k_ ≠ (.slice Ao77 t3d.length co77 : Value).ownBlock /\ some k_ ≠ (.slice Ao79 t1d.length co79 : Value).ownBlock /\ k_ ≠ gb96)) (by (with_reducible repeat (first | apply Kd.R_alloc | apply Kd.R_drewN | apply Kd.R_drew)); exact Kd.R_mono HL97_0.out (fun _ hk => ⟨⟨hk.1.2, ⟨hk.1.1.1, ⟨hk.1.1.2.1, ⟨hk.1.1.2.2.1, hk.1.1.2.2.2⟩⟩⟩⟩, hk.2⟩)) hg hat)
           replace HL97_4 := A_ (Kd.R_over' (vR_ HL97_4.out) (Kd.R_typed (vR_ HO9e.out)) (by decide) hg)
           replace HB := A_ (hb)
           have HO5f := A_ (ho)
           clear HO9e
           clear ho hb hg hat
           obtain ⟨Ao85, co85, eo85⟩ := Kd.R_slice HO5f.out
           (first | subst eo85 | (injection eo85 with f1_ f2_ f3_; have f4_ := f1_.symm; have f5_ := f3_.symm; clear f1_ f2_ f3_; subst f4_; subst f5_))
           refine hK.out _ _ ?_
           clear hK K
           refine no_ (some 150) ?_
           refine pu_ (i := 12) (N := some 151) ?_
           refine last_ (i := 13) (N := none) #[true, true, true, true, true, true, true, true, true, true, true, true, true, true] rfl rfl (one_of HT_.out (by kernel_rfl)) (by decide) (fun K hK => ?_)
           have hs86 : w84.cell? ⟨gb96, 0, none⟩ = some (.slice Ao77 t3d.length co77) := bl_ BK96.out 0
           have hfs86 := blk_frozen BK96.out 0
           refine skip_ (w1 := ?_) (by rfl) rfl ?_ ?_
           rotate_left
           . go_simp
             rfl
           refine hK.out _ _ ?_
           clear hK K
           refine done_ (done_of HT_.out (by kernel_rfl)) ?_
           (try clear hHeld)
           obtain ⟨hcz87_0, hcz87_1, hcz87_2, hcz87_3, hcz87_4, hfz87_0, hfz87_1, hfz87_2, hfz87_3, hfz87_4⟩ := cz5_ BK96.out
           obtain ⟨Ao88, co88, eo88⟩ := Kd.S_slice HO_18.out
           subst eo88
           try go_wp2_with (first | ((with_reducible refine gc_ (f := 75) rfl ?_); refine gL_ (some 156) Try.func75 #[.slice Ao88 x18_5.length co88, .agg #[.slice Ao85 y2d.length co85, .bool t7d, .string t8d, .int .i64 a4, .slice Ao79 t1d.length co79]] ?_; (with_reducible refine (spec_l11Put.calls k5 _ _ x18_5 _ _ y2d t7d t8d a4 _ _ t1d t8e _ ?s1 ?s2 ?s3 ?s4 ?s5 ?s6 A73.out).mono ?_); (case s1 => refine (Kd.S_reads' (e := 57) (base := w.heap.size) (ok := fun k_ => ((some k_ ≠ (.slice (some ad95) t99.length co74 : Value).ownBlock /\ (some k_ ≠ (.slice Ao77 t3d.length co77 : Value).ownBlock /\ (some k_ ≠ (.slice Ao79 t1d.length co79 : Value).ownBlock /\ k_ ≠ gb96))) /\ some k_ ≠ (.slice Ao85 y2d.length co85 : Value).ownBlock)) (n := x18_5.length) (c := co88) ?_).2.2; exact (by (with_reducible repeat (first | apply Kd.S_alloc | apply Kd.S_drewN | apply Kd.S_drew)); exact (Kd.S_mono (Kd.S_far (p := ⟨gb96, 3, none⟩) (Kd.S_far (p := ⟨gb96, 0, none⟩) (Kd.S_mono HO_18.out (fun k_ hk => (⟨hk, hk.1.2.2.2⟩ : _ /\ k_ ≠ gb96))) (fun _ hk => hk.2) (.slice Ao85 y2d.length co85)) (fun _ hk => hk.2) (.int .i64 a4)) (fun _ h_ => h_.1)))); (case s2 => exact (Kd.S_reads' HO_18.out).2.1); (case s3 => refine (Kd.R_reads' (e := 9) (base := w.heap.size) (ok := fun k_ => (some k_ ≠ (.slice A95_0 ((rd_T57 t99 x19_5).f0).length c95_0 : Value).ownBlock /\ (some k_ ≠ (.slice Ao77 t3d.length co77 : Value).ownBlock /\ some k_ ≠ (.slice A97_0 ((rd_T57 t99 x19_5).f0).length c97_0 : Value).ownBlock))) (n := y2d.length) (c := co85) ?_).2.2; exact (by (with_reducible repeat (first | apply Kd.R_alloc | apply Kd.R_drewN | apply Kd.R_drew)); exact (Kd.R_mono (Kd.R_far (p := ⟨gb96, 3, none⟩) (Kd.R_far (p := ⟨gb96, 0, none⟩) (Kd.R_types HO5f.out BK96.out (by decide)) (fun _ hk => hk.2) (.slice Ao85 y2d.length co85)) (fun _ hk => hk.2) (.int .i64 a4)) (fun _ h_ => h_.1)))); (case s4 => exact (Kd.R_reads' HO5f.out).2.1); (case s5 => refine (Kd.R_reads' (e := 72) (base := w.heap.size) (ok := fun k_ => some k_ ≠ (.slice A95_4 ((rd_T57 t99 x19_5).f4).length c95_4 : Value).ownBlock) (n := t1d.length) (c := co79) ?_).2.2; exact (by (with_reducible repeat (first | apply Kd.R_alloc | apply Kd.R_drewN | apply Kd.R_drew)); exact (Kd.R_mono (Kd.R_far (p := ⟨gb96, 3, none⟩) (Kd.R_far (p := ⟨gb96, 0, none⟩) (Kd.R_types HO6d.out BK96.out (by decide)) (fun _ hk => hk.2) (.slice Ao85 y2d.length co85)) (fun _ hk => hk.2) (.int .i64 a4)) (fun _ h_ => h_.1)))); (case s6 => exact (Kd.R_reads' HO6d.out).2.1); rintro e w89 ⟨v9h, rfl, ho0, hb⟩; refine ⟨_, rfl, ?_⟩; have HO2h := A_ (Kd.S_lower (Kd.S_newB (Kd.S_new' (Kd.S_new' (Kd.S_new' (Kd.S_new' (Kd.S_new' (Kd.S_new' (Kd.S_new' (Kd.S_new' (Kd.S_new' ho0 (Kd.S_lt (by (with_reducible repeat (first | apply Kd.S_alloc | apply Kd.S_drewN | apply Kd.S_drew)); exact (Kd.S_mono (Kd.S_far (p := ⟨gb96, 3, none⟩) (Kd.S_far (p := ⟨gb96, 0, none⟩) (Kd.S_mono HO_17.out (fun k_ hk => (⟨hk, hk.1.2.2.2⟩ : _ /\ k_ ≠ gb96))) (fun _ hk => hk.2) (.slice Ao85 y2d.length co85)) (fun _ hk => hk.2) (.int .i64 a4)) (fun _ h_ => h_.1))))) (Kd.S_lt (by (with_reducible repeat (first | apply Kd.S_alloc | apply Kd.S_drewN | apply Kd.S_drew)); exact (Kd.S_mono (Kd.S_far (p := ⟨gb96, 3, none⟩) (Kd.S_far (p := ⟨gb96, 0, none⟩) (Kd.S_mono HO_18.out (fun k_ hk => (⟨hk, hk.1.2.2.2⟩ : _ /\ k_ ≠ gb96))) (fun _ hk => hk.2) (.slice Ao85 y2d.length co85)) (fun _ hk => hk.2) (.int .i64 a4)) (fun _ h_ => h_.1))))) (Kd.R_lt (by (with_reducible repeat (first | apply Kd.R_alloc | apply Kd.R_drewN | apply Kd.R_drew)); exact (Kd.R_mono (Kd.R_far (p := ⟨gb96, 3, none⟩) (Kd.R_far (p := ⟨gb96, 0, none⟩) (Kd.R_types HL95_0.out BK96.out (by decide)) (fun _ hk => hk.2) (.slice Ao85 y2d.length co85)) (fun _ hk => hk.2) (.int .i64 a4)) (fun _ h_ => h_.1))))) (Kd.R_lt (by (with_reducible repeat (first | apply Kd.R_alloc | apply Kd.R_drewN | apply Kd.R_drew)); exact (Kd.R_mono (Kd.R_far (p := ⟨gb96, 3, none⟩) (Kd.R_far (p := ⟨gb96, 0, none⟩) (Kd.R_types HL95_4.out BK96.out (by decide)) (fun _ hk => hk.2) (.slice Ao85 y2d.length co85)) (fun _ hk => hk.2) (.int .i64 a4)) (fun _ h_ => h_.1))))) (Kd.R_lt (by (with_reducible repeat (first | apply Kd.R_alloc | apply Kd.R_drewN | apply Kd.R_drew)); exact (Kd.R_mono (Kd.R_far (p := ⟨gb96, 3, none⟩) (Kd.R_far (p := ⟨gb96, 0, none⟩) (Kd.R_types HO5d.out BK96.out (by decide)) (fun _ hk => hk.2) (.slice Ao85 y2d.length co85)) (fun _ hk => hk.2) (.int .i64 a4)) (fun _ h_ => h_.1))))) (Kd.R_lt (by (with_reducible repeat (first | apply Kd.R_alloc | apply Kd.R_drewN | apply Kd.R_drew)); exact (Kd.R_mono (Kd.R_far (p := ⟨gb96, 3, none⟩) (Kd.R_far (p := ⟨gb96, 0, none⟩) (Kd.R_types HO6d.out BK96.out (by decide)) (fun _ hk => hk.2) (.slice Ao85 y2d.length co85)) (fun _ hk => hk.2) (.int .i64 a4)) (fun _ h_ => h_.1))))) (Kd.R_lt (by (with_reducible repeat (first | apply Kd.R_alloc | apply Kd.R_drewN | apply Kd.R_drew)); exact (Kd.R_mono (Kd.R_far (p := ⟨gb96, 3, none⟩) (Kd.R_far (p := ⟨gb96, 0, none⟩) (Kd.R_types HL97_0.out BK96.out (by decide)) (fun _ hk => hk.2) (.slice Ao85 y2d.length co85)) (fun _ hk => hk.2) (.int .i64 a4)) (fun _ h_ => h_.1))))) (Kd.R_lt (by (with_reducible repeat (first | apply Kd.R_alloc | apply Kd.R_drewN | apply Kd.R_drew)); exact (Kd.R_mono (Kd.R_far (p := ⟨gb96, 3, none⟩) (Kd.R_far (p := ⟨gb96, 0, none⟩) (Kd.R_types HL97_4.out BK96.out (by decide)) (fun _ hk => hk.2) (.slice Ao85 y2d.length co85)) (fun _ hk => hk.2) (.int .i64 a4)) (fun _ h_ => h_.1))))) (Kd.R_lt (by (with_reducible repeat (first | apply Kd.R_alloc | apply Kd.R_drewN | apply Kd.R_drew)); exact (Kd.R_mono (Kd.R_far (p := ⟨gb96, 3, none⟩) (Kd.R_far (p := ⟨gb96, 0, none⟩) (Kd.R_types HO5f.out BK96.out (by decide)) (fun _ hk => hk.2) (.slice Ao85 y2d.length co85)) (fun _ hk => hk.2) (.int .i64 a4)) (fun _ h_ => h_.1))))) (g := gb96) (o := .cells #[.slice Ao85 y2d.length co85, .bool t7d, .string t8d, .int .i64 a4, .slice Ao79 t1d.length co79] 57 (0, 0)) (by (with_reducible repeat (first | refine blk_drewN ?_ _ | refine blk_drew ?_ | refine blk_alloc ?_ _)); with_reducible exact p5_03_ (vb_ BK96.out))) (below_size (bG_ GE96.out))); replace HO_17 := A_ (Kd.S_elder' (by (with_reducible repeat (first | apply Kd.S_alloc | apply Kd.S_drewN | apply Kd.S_drew)); exact (Kd.S_mono (Kd.S_far (p := ⟨gb96, 3, none⟩) (Kd.S_far (p := ⟨gb96, 0, none⟩) (Kd.S_mono HO_17.out (fun k_ hk => (⟨hk, hk.1.2.2.2⟩ : _ /\ k_ ≠ gb96))) (fun _ hk => hk.2) (.slice Ao85 y2d.length co85)) (fun _ hk => hk.2) (.int .i64 a4)) (fun _ h_ => h_.1))) (kb_ ho0) hb); replace HB := A_ (below_step (bG_ GE96.out) hb); (try clear hb); (try clear hk); (try clear ho0)))
           go_roundg k5
           case measure => have := HJ7.out; have := HJ10.out; have := HJ23.out; have := HJ30.out; have := HK5.out; omega
           case rel => exact ⟨(t8e), (wrap64 (x19_5 + 1)), rs_, H', ⟨by have := HJ7.out; have := HJ10.out; have := HJ23.out; have := HJ30.out; have := HK5.out; omega⟩, ⟨by (with_reducible repeat (first | apply Kd.S_alloc | apply Kd.S_drewN | apply Kd.S_drew)); exact Kd.S_mono HO_17.out (fun _ hk => hk.2)⟩, ⟨by (with_reducible repeat (first | apply Kd.S_alloc | apply Kd.S_drewN | apply Kd.S_drew)); exact Kd.S_mono HO2h.out (fun _ hk => hk.1.1.1.1.1.1.1.1.1.2)⟩, ⟨bG_ GE96.out⟩⟩
end Go.Proofs.Ytbgggcgjijljkaa.Q

/- A printed walk. No condition. -/
set_option maxHeartbeats 8000000
set_option maxRecDepth 100000
namespace Go.Proofs.Ytbgggcgjijljkaa.Q
open Go.RowKit Go.Proofs.YtbgggcgjijljkaaW.PrintWords Go.Proofs.YtbgggcgjijljkaaW.PrintLast Go.Proofs.YtbgggcgjijljkaaW.PrintMore
attribute [local go_sem] max2_int min2_int max_two min_two max_three min_three max_four min_four
set_option linter.unusedVariables false
set_option linter.unusedSimpArgs false
def spec_CopyTree.f (k : Nat) (l0 : List (S57)) (l1 : List ByteArray) (l2 : List ByteArray) (a3 : Bool) (a4 : Int) : Option ((List (S57)) × Int) := (spec_l11Far.f k l0 l1 l2 a3 a4 false).bind fun bt957 => (some (bt957.1, bt957.2))
def spec_MoveTree.f (k : Nat) (l0 : List (S57)) (l1 : List ByteArray) (l2 : List ByteArray) (a3 : Bool) (a4 : Int) : Option ((List (S57)) × Int) := (spec_l11Far.f k l0 l1 l2 a3 a4 true).bind fun bt1066 => (some (bt1066.1, bt1066.2))
theorem spec_MoveTree.calls (k : Nat) (A0 : Option Addr) (c0 : Nat) (l0 : List (S57)) (A1 : Option Addr) (c1 : Nat) (l1 : List ByteArray) (A2 : Option Addr) (c2 : Nat) (l2 : List ByteArray) (a3 : Bool) (a4 : Int) (r1 : List (S57)) (r2 : Int) (w : World) (hr0 : Kd.C k57 w A0 l0.length l0) (hc0 : l0.length <= c0) (hr1 : Kd.C Kd.string w A1 l1.length l1) (hc1 : l1.length <= c1) (hr2 : Kd.C Kd.string w A2 l2.length l2) (hc2 : l2.length <= c2) (h : spec_MoveTree.f k l0 l1 l2 a3 a4 = some (r1, r2)) :
 Calls Try.prog 36 #[.slice A0 l0.length c0, .slice A1 l1.length c1, .slice A2 l2.length c2, .bool a3, .int .i64 a4] w fun e w' => ∃ v0_ : Value, e = .returned (.tuple #[v0_, .int .i64 r2]) /\ Kd.S k57 57 w' w.heap.size (fun _ => True) v0_ r1 /\ Below w.heap.size w w' := by
 have HR0 := A_ hr0
 have HC0 := A_ hc0
 clear hr0 hc0
 have HR1 := A_ hr1
 have HC1 := A_ hc1
 clear hr1 hc1
 have HR2 := A_ hr2
 have HC2 := A_ hc2
 clear hr2 hc2
 have HB := A_ (Below.refl w.heap.size w)
 have H : ((spec_l11Far.f k l0 l1 l2 a3 a4 true).bind fun bt8 => (some (bt8.1, bt8.2))) = some (r1, r2) := h
 clear h
 obtain ⟨⟨t8, t9⟩, A6, H⟩ := bo_ H
 (try dsimp only at H)
 simp only [Option.some.injEq, Prod.mk.injEq] at H
 obtain ⟨rfl, rfl⟩ := H
 go_enter Try.func36, Try.ntmps36
 go_wp2_with (first | ((with_reducible refine gc_ (f := 82) rfl ?_); refine gL_ (some 17) Try.func82 #[.slice A0 l0.length c0, .slice A1 l1.length c1, .slice A2 l2.length c2, .bool a3, .int .i64 a4, .bool true] ?_; (with_reducible refine (spec_l11Far.calls k _ _ l0 _ _ l1 _ _ l2 a3 a4 true t8 t9 _ ?s1 ?s2 ?s3 ?s4 ?s5 ?s6 A6.out).mono ?_); (case s1 => exact cC_ HR0.out); (case s2 => exact HC0.out); (case s3 => exact cC_ HR1.out); (case s4 => exact HC1.out); (case s5 => exact cC_ HR2.out); (case s6 => exact HC2.out); rintro e w7 ⟨v11, rfl, ho0, hb⟩; refine ⟨_, rfl, ?_⟩; have HO10 := A_ (Kd.S_lower ho0 (below_size bB_)); replace HB := A_ (below_step bB_ hb); clear hb ho0))
 go_ret2
 exact ⟨_, rr_, vS_ HO10.out, bB_⟩
end Go.Proofs.Ytbgggcgjijljkaa.Q
