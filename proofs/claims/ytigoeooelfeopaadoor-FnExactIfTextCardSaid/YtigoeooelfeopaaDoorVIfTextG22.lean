-- PRINTED by print.py (a twelfth state) out of the translation. Not trusted: Lean checks it.
import Derived.Test.YtigoeooelfeopaaDoorProg
import Derived.Below
import Derived.Deep.Draws
import Derived.Deep.AppendLies
import Derived.Maps.AppendAt
import Derived.OwnWalk
import Derived.Laws.BytesArg
import Derived.Laws.MakeOwn
import Derived.Laws.OwnMore
import Derived.Deep.OwnRows
import Derived.Tactics
import Derived.Lib.ConvBytes
import Derived.Laws.Slices
import Derived.WalkKit
import Derived.KernelRfl
import Derived.RowKit3
import Derived.Deep.LoopGhost
import Derived.Deep.QuietTactic
import Derived.BigQuiet
import Derived.WideLaws
import Derived.Deep.DeepCutAuto
import Derived.Deep.CutBlock
import Derived.Deep.RegionHeld3
import Derived.Laws.Rows
import Derived.Lib.AppendStr
import Derived.ArgAppend
import Derived.Laws.IdiomCopy
import Derived.OrdersHeld
import Derived.Laws.BitsLemmas
import Derived.RowKit
import Derived.Test.YtigoeooelfeopaaDoorVIfTextG12
import Derived.Test.YtigoeooelfeopaaDoorVIfTextWFour
import Derived.Test.YtigoeooelfeopaaDoorVIfTextWAt
import Derived.Test.YtigoeooelfeopaaDoorVIfTextWEqStruct
import Derived.Test.YtigoeooelfeopaaDoorVIfTextWRepsOne
import Derived.Test.YtigoeooelfeopaaDoorVIfTextWInvWords
import Derived.Test.YtigoeooelfeopaaDoorVIfTextWGuard
namespace Go.Proofs.YtigoeooelfeopaaDoor.Q
open Go.RowKit Go.Proofs.YtigoeooelfeopaaDoorW.PrintWords Go.Proofs.YtigoeooelfeopaaDoorW.PrintLast Go.Proofs.YtigoeooelfeopaaDoorW.PrintMore
attribute [local go_sem] max2_int min2_int max_two min_two max_three min_three max_four min_four   -- for this text's walks alone
set_option linter.unusedVariables false
set_option linter.unusedSimpArgs false
def errW : Option Int → Value
  | none => .nilIface
  | some c => .iface 0 (.int .i64 c)
theorem errW_none : errW none = .nilIface := rfl
theorem errW_some (c : Int) : errW (some c) = .iface 0 (.int .i64 c) := rfl
theorem info9 : (Tryd.prog.info? 9).map (fun i => (i.zero, i.size, i.bytes)) = some (some (.string ⟨#[]⟩), 1, 16) := by kernel_rfl
theorem info76 : (Tryd.prog.info? 76).map (fun i => (i.zero, i.size, i.bytes)) = some (some (.slice none 0 0), 1, 24) := by kernel_rfl
theorem info79 : (Tryd.prog.info? 79).map (fun i => (i.zero, i.size, i.bytes)) = some (some (.agg #[(.bool false), (.int .i64 0), (.string ⟨#[]⟩)]), 3, 32) := by kernel_rfl
structure S147 where
  f0 : ByteArray
  f1 : ByteArray
  f2 : ByteArray
def z147 : S147 := ⟨(⟨#[]⟩ : ByteArray), (⟨#[]⟩ : ByteArray), (⟨#[]⟩ : ByteArray)⟩
structure S93 where
  f0 : (List ByteArray)
  f1 : Bool
  f2 : ByteArray
  f3 : Int
  f4 : (List S147)
def z93 : S93 := ⟨([] : List ByteArray), false, (⟨#[]⟩ : ByteArray), (0 : Int), ([] : List S147)⟩
structure S96 where
  f0 : Int
  f1 : (List ByteArray)
  f2 : Bool
  f3 : Bool
  f4 : Int
def z96 : S96 := ⟨(0 : Int), ([] : List ByteArray), false, false, (0 : Int)⟩
structure S103 where
  f0 : Bool
  f1 : Int
  f2 : ByteArray
def z103 : S103 := ⟨false, (0 : Int), (⟨#[]⟩ : ByteArray)⟩
def k103 : Kd S103 := Kd.iso (Kd.pair Kd.bool (Kd.pair (Kd.int .i64) Kd.string)) (fun x : S103 => (x.f0, x.f1, x.f2))
theorem k103_open {w : World} {x : S103} {cs : List Value} (h : k103.K w x cs) : cs = [.bool x.f0, .int .i64 x.f1, .string x.f2] := by
  obtain ⟨_, _, rfl, rfl, ⟨_, _, rfl, rfl, rfl⟩⟩ := h
  exact rfl
def rd_T103 (xs : List S103) (i : Int) : S103 := xs.getD i.toNat z103
theorem at_T103 {w : World} {A : Option Addr} {n : Nat} {xs : List S103} (h : Kd.C k103 w A n xs) (i : Int) (h0 : 0 ≤ i) (h1 : i < n) : ∃ ad , A = some ad ∧ w.cell? (ad.add (i.toNat * 3)) = some (.bool (rd_T103 xs i).f0) ∧ w.cell? ⟨(ad.add (i.toNat * 3)).block, (ad.add (i.toNat * 3)).off + 1, none⟩ = some (.int .i64 (rd_T103 xs i).f1) ∧ w.cell? ⟨(ad.add (i.toNat * 3)).block, (ad.add (i.toNat * 3)).off + 2, none⟩ = some (.string (rd_T103 xs i).f2) := by
  obtain ⟨ad, c, e, _, hK, hc0⟩ := Kd.C_get h z103 i h0 h1
  have hc : ∀ j u, c[j]? = some u → w.cell? (ad.add (i.toNat * 3 + j)) = some u := hc0
  obtain rfl := k103_open hK
  exact ⟨ad, e, hc 0 _ rfl, by rw [← add_field _ _ 1 (by omega)]; exact hc 1 _ rfl, by rw [← add_field _ _ 2 (by omega)]; exact hc 2 _ rfl⟩
def rd_L14 (xs : List (List S103)) (i : Int) : (List S103) := xs.getD i.toNat ([] : List S103)
theorem at_L14 {w : World} {A : Option Addr} {n : Nat} {xs : List (List S103)} (h : Kd.C (Kd.slice 103 k103) w A n xs) (i : Int) (h0 : 0 ≤ i) (h1 : i < n) : ∃ ad A0 c0, A = some ad ∧ w.cell? (ad.add i.toNat) = some (.slice A0 (rd_L14 xs i).length c0) ∧ (rd_L14 xs i).length ≤ c0 ∧ k103.C w A0 (rd_L14 xs i).length (rd_L14 xs i) := by
  obtain ⟨ad, c, e, _, hK, hc0⟩ := Kd.C_get h ([] : List S103) i h0 h1
  have hc : ∀ j u, c[j]? = some u → w.cell? (ad.add (i.toNat * 1 + j)) = some u := hc0
  obtain ⟨A0, c0, rfl, l0, g0⟩ := hK
  exact ⟨ad, A0, c0, e, by have hq := hc 0 _ rfl; rwa [Nat.mul_one, Nat.add_zero] at hq, l0, g0⟩
structure S79 where
  f0 : Bool
  f1 : Int
  f2 : ByteArray
def z79 : S79 := ⟨false, (0 : Int), (⟨#[]⟩ : ByteArray)⟩
def k79 : Kd S79 := Kd.iso (Kd.pair Kd.bool (Kd.pair (Kd.int .i64) Kd.string)) (fun x : S79 => (x.f0, x.f1, x.f2))
theorem k79_open {w : World} {x : S79} {cs : List Value} (h : k79.K w x cs) : cs = [.bool x.f0, .int .i64 x.f1, .string x.f2] := by
  obtain ⟨_, _, rfl, rfl, ⟨_, _, rfl, rfl, rfl⟩⟩ := h
  exact rfl
theorem k79_openM {w : World} {base : Nat} {ok : Nat → Prop} {x : S79} {cs : List Value} (h : k79.M w base ok x cs) : cs = [.bool x.f0, .int .i64 x.f1, .string x.f2] := by
  obtain ⟨_, _, rfl, rfl, ⟨_, _, rfl, rfl, rfl⟩⟩ := h
  exact rfl
theorem k79_mkM (w : World) (base : Nat) (ok : Nat → Prop) (x : S79)  : k79.M w base ok x [.bool x.f0, .int .i64 x.f1, .string x.f2] := ⟨[.bool x.f0], [.int .i64 x.f1, .string x.f2], rfl, rfl, ⟨[.int .i64 x.f1], [.string x.f2], rfl, rfl, rfl⟩⟩
def rd_T79 (xs : List S79) (i : Int) : S79 := xs.getD i.toNat z79
theorem at_T79 {w : World} {A : Option Addr} {n : Nat} {xs : List S79} (h : Kd.C k79 w A n xs) (i : Int) (h0 : 0 ≤ i) (h1 : i < n) : ∃ ad , A = some ad ∧ w.cell? (ad.add (i.toNat * 3)) = some (.bool (rd_T79 xs i).f0) ∧ w.cell? ⟨(ad.add (i.toNat * 3)).block, (ad.add (i.toNat * 3)).off + 1, none⟩ = some (.int .i64 (rd_T79 xs i).f1) ∧ w.cell? ⟨(ad.add (i.toNat * 3)).block, (ad.add (i.toNat * 3)).off + 2, none⟩ = some (.string (rd_T79 xs i).f2) := by
  obtain ⟨ad, c, e, _, hK, hc0⟩ := Kd.C_get h z79 i h0 h1
  have hc : ∀ j u, c[j]? = some u → w.cell? (ad.add (i.toNat * 3 + j)) = some u := hc0
  obtain rfl := k79_open hK
  exact ⟨ad, e, hc 0 _ rfl, by rw [← add_field _ _ 1 (by omega)]; exact hc 1 _ rfl, by rw [← add_field _ _ 2 (by omega)]; exact hc 2 _ rfl⟩
def rd_L16 (xs : List (List S79)) (i : Int) : (List S79) := xs.getD i.toNat ([] : List S79)
theorem at_L16 {w : World} {A : Option Addr} {n : Nat} {xs : List (List S79)} (h : Kd.C (Kd.slice 79 k79) w A n xs) (i : Int) (h0 : 0 ≤ i) (h1 : i < n) : ∃ ad A0 c0, A = some ad ∧ w.cell? (ad.add i.toNat) = some (.slice A0 (rd_L16 xs i).length c0) ∧ (rd_L16 xs i).length ≤ c0 ∧ k79.C w A0 (rd_L16 xs i).length (rd_L16 xs i) := by
  obtain ⟨ad, c, e, _, hK, hc0⟩ := Kd.C_get h ([] : List S79) i h0 h1
  have hc : ∀ j u, c[j]? = some u → w.cell? (ad.add (i.toNat * 1 + j)) = some u := hc0
  obtain ⟨A0, c0, rfl, l0, g0⟩ := hK
  exact ⟨ad, A0, c0, e, by have hq := hc 0 _ rfl; rwa [Nat.mul_one, Nat.add_zero] at hq, l0, g0⟩
set_option maxHeartbeats 8000000
set_option maxRecDepth 100000
mutual
def spec_NumText.j0 : Nat → Int → Option (ByteArray)
 | 0, _ => none
 | k + 1, x0 => spec_NumText.l0 k x0 (strOfNums (([(wrap64 (48 + (Int.tmod x0 10))) % 256] : List Int)))
def spec_NumText.l0 : Nat → Int → ByteArray → Option (ByteArray)
 | 0, _, _ => none
 | k + 1, x0, x3 => if x0 > 9 then ((some (([(wrap64 (48 + (Int.tmod (wrap64 (Int.tdiv x0 10)) 10))) % 256] : List Int) : List Int)).bind fun y104 => (if (strOfNums y104).size + x3.size ≤ 9223372036854775807 then (spec_NumText.l0 k (wrap64 (Int.tdiv x0 10)) ((strOfNums y104) ++ x3)) else (none))) else (some x3)
end
def spec_NumText.f (k : Nat) (a0 : Int) : Option (ByteArray) := if a0 < 0 then (spec_NumText.j0 k 0) else (spec_NumText.j0 k a0)
theorem spec_NumText.calls (k : Nat) (a0 : Int) (r : ByteArray) (w : World) (h : spec_NumText.f k a0 = some r) :
 Calls Tryd.prog 29 #[.int .i64 a0] w fun e w' => e = .returned (.string r) ∧ Below w.heap.size w w' := by
 have HB := A_ (Below.refl w.heap.size w)
 have H : (if a0 < 0 then (spec_NumText.j0 k 0) else (spec_NumText.j0 k a0)) = some r := h
 clear h
 have HC2 := A_ H
 clear H
 go_enter Tryd.func29, Tryd.ntmps29
 go_upto_if 5 with (fail)
 go_cut [0] (fun v0 wc => ∃ (kq : Nat) (x0_1 : Int), v0 = .int .i64 x0_1 ∧ Aside0 (spec_NumText.j0 kq x0_1 = some r) ∧ Aside0 (kq ≤ k) ∧ Aside0 (Below w.heap.size w wc))
 case first =>
  have H := HC2.out
  clear HC2
  by_cases c3 : a0 < 0
  · rw [if_pos c3] at H
    have c3b0 : decide (a0 < 0) = true := decide_eq_true c3
    clear c3
    (first | rw [c3b0] | (simp only [i64_w, i32_w]; rw [c3b0]) | skip)
    have H' := A_ H
    clear H
    go_wp2
    go_meet
    case rel => exact ⟨_, (0), rs_, H', ⟨by first | omega | exact Nat.le_refl _⟩, ⟨bB_⟩⟩
  rw [if_neg c3] at H
  have c3b0 : decide (a0 < 0) = false := decide_eq_false c3
  clear c3
  (first | rw [c3b0] | (simp only [i64_w, i32_w]; rw [c3b0]) | skip)
  have H' := A_ H
  clear H
  go_wp2
  go_meet
  case rel => exact ⟨_, (a0), rs_, H', ⟨by first | omega | exact Nat.le_refl _⟩, ⟨bB_⟩⟩
 case rest =>
  clear HC2
  try clear c2
  try clear p2
  try clear c3
  try clear c3b0
  obtain ⟨kq, x0_1, rfl, HA, HJ1, HB⟩ := hcut
  cases kq with
  | zero => exact absurd HA.out (by simp [spec_NumText.j0])
  | succ kj1 =>
   have H := HA.out
   clear HA
   simp only [spec_NumText.j0] at H
   obtain ⟨y101, hy101⟩ : ∃ y_ : List Int, y_ = (([(wrap64 (48 + (Int.tmod x0_1 10))) % 256] : List Int)) := ⟨_, rfl⟩
   replace H : (spec_NumText.l0 kj1 x0_1 (strOfNums y101)) = some r := hy_ hy101 H
   have Ny101 := A_ hy101
   clear hy101
   have H' := A_ H
   clear H
   go_wp2_with (first | ((with_reducible refine gd_ (N := 10) rfl ?_); refine Kd.R_lit (Kd.int .u8) _ 5 ?hg (N := 10) ?hd (xs := ([(wrap64 (48 + (Int.tmod x0_1 10))) % 256] : List Int)) (inner := [.int .u8 ((wrap64 (48 + (Int.tmod x0_1 10))) % 256)]) (ok := fun _ => True) (okp := fun _ => True) ?hr ?hp (fun _ hk => hk) trivial (Below.refl _ _) (Nat.le_refl _) (by simp) ?_; (case hd => rfl); (case hg => rfl); (case hr => first | (go_simp; done) | (go_simp; rfl)); (case hp => exact (Reps.one (show Kd.M (Kd.int .u8) _ _ _ ((wrap64 (48 + (Int.tmod x0_1 10))) % 256) [.int .u8 ((wrap64 (48 + (Int.tmod x0_1 10))) % 256)] from rfl) (Reps.none _ _))); intro v102 w4 ho5 hb hg_ hnew_; clear hg_ hnew_; (first | rw [← Ny101.out] at ho5 | (simp only [Int.reduceToNat] at ho5; rw [← Ny101.out] at ho5)); have HO103 := A_ (Kd.R_lower ho5 (below_size bB_)); replace HB := A_ (below_step bB_ hb); clear hb ho5; have hcv6 := own_string (P := Tryd.prog) Tryd.underlying85 Tryd.underlying5 Tryd.underlying9 (Kd.own_of_R HO103.out)))
   go_loopg [0, 3] kj1 (fun kq v0 v3 w' => ∃ (x0_2 : Int) (x3_2 : ByteArray), v0 = .int .i64 x0_2 ∧ v3 = .string x3_2 ∧ Aside0 (spec_NumText.l0 kq x0_2 x3_2 = some r) ∧ Aside0 (kq ≤ kj1) ∧ Aside0 (Below w.heap.size w w'))
   case atStart => exact ⟨(x0_1), (strOfNums y101), rs_, rs_, H', ⟨Nat.le_refl _⟩, ⟨bB_⟩⟩
   case round =>
    clear H'
    try clear c2
    try clear p2
    try clear c3
    try clear c3b0
    try clear p6
    try clear hcv6
    try clear p2
    obtain ⟨x0_2, x3_2, rfl, rfl, HA, HK2, HB⟩ := hrel
    cases gk with
    | zero => exact absurd HA.out (by simp [spec_NumText.l0])
    | succ k2 =>
     have H := HA.out
     clear HA
     simp only [spec_NumText.l0] at H
     by_cases c7 : x0_2 > 9
     rotate_left
     · rw [if_neg c7] at H
       have c7b0 : decide (9 < x0_2) = false := decide_eq_false c7
       clear c7
       obtain rfl := si_ H
       go_wp2
       go_ret
       exact ⟨rr_, bB_⟩
     rw [if_pos c7] at H
     have c7b0 : decide (9 < x0_2) = true := decide_eq_true c7
     clear c7
     obtain ⟨y104, hy104⟩ : ∃ y_ : List Int, y_ = (([(wrap64 (48 + (Int.tmod (wrap64 (Int.tdiv x0_2 10)) 10))) % 256] : List Int)) := ⟨_, rfl⟩
     replace H : (if (strOfNums y104).size + x3_2.size ≤ 9223372036854775807 then (spec_NumText.l0 k2 (wrap64 (Int.tdiv x0_2 10)) ((strOfNums y104) ++ x3_2)) else (none)) = some r := hy_ hy104 H
     have Ny104 := A_ hy104
     clear hy104
     by_cases c8 : (strOfNums y104).size + x3_2.size ≤ 9223372036854775807
     rotate_left
     · exact absurd H (by rw [if_neg c8]; simp)
     rw [if_pos c8] at H
     have c8b0 := eq_true c8
     have c8b1 : decide ((strOfNums y104).size + x3_2.size ≤ 9223372036854775807) = true := decide_eq_true c8
     try have c8b2 : (9223372036854775807 < (strOfNums y104).size + x3_2.size) = False := eq_false (Nat.not_lt.2 c8)
     have H' := A_ H
     clear H
     go_wp2_with (first | ((with_reducible refine gd_ (N := 20) rfl ?_); refine Kd.R_lit (Kd.int .u8) _ 5 ?hg (N := 20) ?hd (xs := ([(wrap64 (48 + (Int.tmod (wrap64 (Int.tdiv x0_2 10)) 10))) % 256] : List Int)) (inner := [.int .u8 ((wrap64 (48 + (Int.tmod (wrap64 (Int.tdiv x0_2 10)) 10))) % 256)]) (ok := fun _ => True) (okp := fun _ => True) ?hr ?hp (fun _ hk => hk) trivial (Below.refl _ _) (Nat.le_refl _) (by simp) ?_; (case hd => rfl); (case hg => rfl); (case hr => first | (go_simp; done) | (go_simp; rfl)); (case hp => exact (Reps.one (show Kd.M (Kd.int .u8) _ _ _ ((wrap64 (48 + (Int.tmod (wrap64 (Int.tdiv x0_2 10)) 10))) % 256) [.int .u8 ((wrap64 (48 + (Int.tmod (wrap64 (Int.tdiv x0_2 10)) 10))) % 256)] from rfl) (Reps.none _ _))); intro v105 w9 ho10 hb hg_ hnew_; clear hg_ hnew_; (first | rw [← Ny104.out] at ho10 | (simp only [Int.reduceToNat] at ho10; rw [← Ny104.out] at ho10)); have HO106 := A_ (Kd.R_lower ho10 (below_size bB_)); replace HB := A_ (below_step bB_ hb); clear hb ho10; have hcv11 := own_string (P := Tryd.prog) Tryd.underlying85 Tryd.underlying5 Tryd.underlying9 (Kd.own_of_R HO106.out)))
     go_roundg k2
     case measure => have := HJ1.out; have := HK2.out; omega
     case rel => exact ⟨(wrap64 (Int.tdiv x0_2 10)), ((strOfNums y104) ++ x3_2), rs_, rs_, H', ⟨by have := HJ1.out; have := HK2.out; omega⟩, ⟨bB_⟩⟩
set_option maxHeartbeats 8000000
set_option maxRecDepth 100000
def spec_l1In.f (a0 : Int) (a1 : Int) (a2 : Int) : Option (Bool) := if a0 ≥ a1 then (some (decide (a0 ≤ a2))) else (some false)
theorem spec_l1In.calls (a0 : Int) (a1 : Int) (a2 : Int) (r : Bool) (w : World) (h : spec_l1In.f a0 a1 a2 = some r) :
 Calls Tryd.prog 86 #[.int .i64 a0, .int .i64 a1, .int .i64 a2] w fun e w' => e = .returned (.bool r) ∧ Drawn0 w w' := by
 have H : (if a0 ≥ a1 then (some (decide (a0 ≤ a2))) else (some false)) = some r := h
 clear h
 by_cases c4 : a0 ≥ a1
 · rw [if_pos c4] at H
   have c4b0 : decide (a1 ≤ a0) = true := decide_eq_true c4
   clear c4
   obtain rfl := si_ H
   go_enter Tryd.func86, Tryd.ntmps86
   go_wp2
   go_ret
   exact ⟨rs_, dr_⟩
 rw [if_neg c4] at H
 have c4b0 : decide (a1 ≤ a0) = false := decide_eq_false c4
 clear c4
 obtain rfl := si_ H
 go_enter Tryd.func86, Tryd.ntmps86
 go_wp2
 go_ret
 exact ⟨rs_, dr_⟩
def spec_Plain.l0 : Nat → ByteArray → Int → Option (Bool)
 | 0, _, _ => none
 | k + 1, x0, x3 => if x3 < (x0.size : Int) then (if 0 ≤ x3 then ((spec_l1In.f (wrap64 (bt x0 x3)) 32 126).bind fun t120 => (if t120 = true then (spec_Plain.l0 k x0 (wrap64 (x3 + 1))) else (some false))) else (none)) else (some true)
def spec_Plain.f (k : Nat) (a0 : ByteArray) : Option (Bool) := spec_Plain.l0 k a0 0
theorem spec_Plain.calls (k : Nat) (a0 : ByteArray) (r : Bool) (w : World) (h : spec_Plain.f k a0 = some r) :
 Calls Tryd.prog 60 #[.string a0] w fun e w' => e = .returned (.bool r) ∧ Drawn0 w w' := by
 have H : (spec_Plain.l0 k a0 0) = some r := h
 clear h
 have H' := A_ H
 clear H
 go_enter Tryd.func60, Tryd.ntmps60
 go_wp2
 go_loopg [3] k (fun kq v3 w' => ∃ (x3_1 : Int), v3 = .int .i64 x3_1 ∧ Aside0 (spec_Plain.l0 kq a0 x3_1 = some r) ∧ Aside0 (kq ≤ k) ∧ Drawn0 w w')
 case atStart => exact ⟨(0), rs_, H', ⟨Nat.le_refl _⟩, dr_⟩
 case round =>
  clear H'
  obtain ⟨x3_1, rfl, HA, HK1, ⟨m1, rfl⟩⟩ := hrel
  cases gk with
  | zero => exact absurd HA.out (by simp [spec_Plain.l0])
  | succ k1 =>
   have H := HA.out
   clear HA
   simp only [spec_Plain.l0] at H
   by_cases c2 : x3_1 < (a0.size : Int)
   rotate_left
   · rw [if_neg c2] at H
     have c2b0 : decide (x3_1 < (a0.size : Int)) = false := decide_eq_false c2
     clear c2
     obtain rfl := si_ H
     go_wp2
     go_ret
     exact ⟨rs_, dr_⟩
   rw [if_pos c2] at H
   have c2b0 : decide (x3_1 < (a0.size : Int)) = true := decide_eq_true c2
   clear c2
   by_cases c3 : 0 ≤ x3_1
   rotate_left
   · exact absurd H (by rw [if_neg c3]; simp)
   rw [if_pos c3] at H
   have c3b0 : decide (0 ≤ x3_1) = true := decide_eq_true c3
   clear c3
   obtain ⟨t120, A5, H⟩ := bo_ H
   (try dsimp only at H)
   by_cases c6 : t120 = true
   · subst c6
     rw [if_pos rfl] at H
     have H' := A_ H
     clear H
     have p4 : 0 ≤ (x3_1 : Int) := od_
     have q4 : x3_1 < (a0.size : Int) := od_
     have hx4 := bt_at a0 x3_1
     replace p4 := eq_true p4
     replace q4 := eq_true q4
     go_wp2_with (first | ((with_reducible refine gc_ (f := 86) rfl ?_); refine gL_ (some 14) Tryd.func86 #[.int .i64 (wrap64 (bt a0 x3_1)), .int .i64 32, .int .i64 126] ?_; (with_reducible refine (spec_l1In.calls (wrap64 (bt a0 x3_1)) 32 126 true _ A5.out).mono ?_); rintro e w' ⟨rfl, ⟨nd, rfl⟩⟩; refine ⟨_, rfl, ?_⟩))
     go_roundg k1
     case measure => have := HK1.out; omega
     case rel => exact ⟨(wrap64 (x3_1 + 1)), rs_, H', ⟨by have := HK1.out; omega⟩, dr_⟩
   · replace c6 := Bool.eq_false_iff.mpr c6
     subst c6
     rw [if_neg nf_] at H
     obtain rfl := si_ H
     have p4 : 0 ≤ (x3_1 : Int) := od_
     have q4 : x3_1 < (a0.size : Int) := od_
     have hx4 := bt_at a0 x3_1
     replace p4 := eq_true p4
     replace q4 := eq_true q4
     go_wp2_with (first | ((with_reducible refine gc_ (f := 86) rfl ?_); refine gL_ (some 14) Tryd.func86 #[.int .i64 (wrap64 (bt a0 x3_1)), .int .i64 32, .int .i64 126] ?_; (with_reducible refine (spec_l1In.calls (wrap64 (bt a0 x3_1)) 32 126 false _ A5.out).mono ?_); rintro e w' ⟨rfl, ⟨nd, rfl⟩⟩; refine ⟨_, rfl, ?_⟩))
     go_ret
     exact ⟨rs_, dr_⟩
mutual
def spec_l9Tag.j0 : Nat → ByteArray → Bool → Option (Bool)
 | 0, _, _ => none
 | k + 1, x0, x29 => if x29 = true then (some false) else (spec_l9Tag.l0 k x0 1)
def spec_l9Tag.l0 : Nat → ByteArray → Int → Option (Bool)
 | 0, _, _ => none
 | k + 1, x0, x3 => if x3 < (wrap64 ((x0.size : Int) - 1)) then (if 0 ≤ x3 then (if x3 < (x0.size : Int) then (if (bt x0 x3) = 34 then (some false) else (spec_l9Tag.l0 k x0 (wrap64 (x3 + 1)))) else (none)) else (none)) else (some true)
end
def spec_l9Tag.f (k : Nat) (a0 : ByteArray) : Option (Bool) := if (a0.size : Int) < 2 then (spec_l9Tag.j0 k a0 true) else (if 0 < (a0.size : Int) then (if (bt a0 0) = 34 then (if 0 ≤ (wrap64 ((a0.size : Int) - 1)) then (if (wrap64 ((a0.size : Int) - 1)) < (a0.size : Int) then (if (bt a0 (wrap64 ((a0.size : Int) - 1))) = 34 then (if (a0.size : Int) > 12 then (spec_l9Tag.j0 k a0 true) else ((spec_Plain.f k a0).bind fun t121 => (spec_l9Tag.j0 k a0 (!t121)))) else (spec_l9Tag.j0 k a0 true)) else (none)) else (none)) else (spec_l9Tag.j0 k a0 true)) else (none))
theorem spec_l9Tag.calls (k : Nat) (a0 : ByteArray) (r : Bool) (w : World) (h : spec_l9Tag.f k a0 = some r) :
 Calls Tryd.prog 34 #[.string a0] w fun e w' => e = .returned (.bool r) ∧ Drawn0 w w' := by
 have H : (if (a0.size : Int) < 2 then (spec_l9Tag.j0 k a0 true) else (if 0 < (a0.size : Int) then (if (bt a0 0) = 34 then (if 0 ≤ (wrap64 ((a0.size : Int) - 1)) then (if (wrap64 ((a0.size : Int) - 1)) < (a0.size : Int) then (if (bt a0 (wrap64 ((a0.size : Int) - 1))) = 34 then (if (a0.size : Int) > 12 then (spec_l9Tag.j0 k a0 true) else ((spec_Plain.f k a0).bind fun t121 => (spec_l9Tag.j0 k a0 (!t121)))) else (spec_l9Tag.j0 k a0 true)) else (none)) else (none)) else (spec_l9Tag.j0 k a0 true)) else (none))) = some r := h
 clear h
 have HC2 := A_ H
 clear H
 go_enter Tryd.func34, Tryd.ntmps34
 go_upto_region 1 with (fail)
 go_cut [29] (fun v29 wc => ∃ (kq : Nat) (x29_1 : Bool), v29 = .bool x29_1 ∧ Aside0 (spec_l9Tag.j0 kq a0 x29_1 = some r) ∧ Aside0 (kq ≤ k) ∧ Drawn0 w wc)
 case first =>
  have H := HC2.out
  clear HC2
  by_cases c3 : (a0.size : Int) < 2
  · rw [if_pos c3] at H
    have c3b0 : decide ((a0.size : Int) < 2) = true := decide_eq_true c3
    have c3b1 : decide (a0.size < 2) = true := decide_eq_true (by omega)
    clear c3
    (first | rw [c3b0] | (simp only [i64_w, i32_w]; rw [c3b0]) | skip)
    have H' := A_ H
    clear H
    go_wp2
    go_meet
    case rel => exact ⟨_, (true), rs_, H', ⟨by first | omega | exact Nat.le_refl _⟩, dr_⟩
  rw [if_neg c3] at H
  have c3b0 : decide ((a0.size : Int) < 2) = false := decide_eq_false c3
  have c3b1 : decide (a0.size < 2) = false := decide_eq_false (by omega)
  clear c3
  (first | rw [c3b0] | (simp only [i64_w, i32_w]; rw [c3b0]) | skip)
  by_cases c4 : 0 < (a0.size : Int)
  rotate_left
  · exact absurd H (by rw [if_neg c4]; simp)
  rw [if_pos c4] at H
  have c4b0 : decide (0 < (a0.size : Int)) = true := decide_eq_true c4
  have c4b1 : decide (0 < a0.size) = true := decide_eq_true (by omega)
  clear c4
  by_cases c6 : (bt a0 0) = 34
  rotate_left
  · rw [if_neg c6] at H
    have c6b0 : ((bt a0 0) == 34) = false := beq_eq_false_iff_ne.mpr c6
    have c6b1 : ((bt a0 0) != 34) = true := bne_iff_ne.mpr c6
    have H' := A_ H
    clear H
    have p5 : 0 ≤ (0 : Int) := (by omega)
    have q5 : 0 < a0.size := (by have : (0 : Int) < (a0.size : Int) := od_; omega)
    have hx5 : ∀ h : 0 < a0.size, ((a0[0]'h).toNat : Int) = bt a0 0 := bt_at a0 0
    clear p5
    have qi5 : (0 < (a0.size : Int)) = True := eq_true od_
    replace q5 := eq_true q5
    go_wp2
    go_meet
    case rel => exact ⟨_, (true), rs_, H', ⟨by first | omega | exact Nat.le_refl _⟩, dr_⟩
  rw [if_pos c6] at H
  have c6b0 : ((bt a0 0) == 34) = true := beq_iff_eq.mpr c6
  have c6b1 : ((bt a0 0) != 34) = false := bne_eq_false_iff_eq.mpr c6
  clear c6
  obtain ⟨ji7, hji7⟩ : ∃ j_ : Int, (wrap64 ((a0.size : Int) - 1)) = j_ := ⟨_, rfl⟩
  replace H : (if 0 ≤ (ji7) then (if (ji7) < (a0.size : Int) then (if (bt a0 (ji7)) = 34 then (if (a0.size : Int) > 12 then (spec_l9Tag.j0 k a0 true) else ((spec_Plain.f k a0).bind fun t121 => (spec_l9Tag.j0 k a0 (!t121)))) else (spec_l9Tag.j0 k a0 true)) else (none)) else (none)) = some r := by first | (rw [hji7] at H; exact H) | (simp only [hji7] at H ⊢; exact H)
  have hji7w : (IntKind.i64.wrap ((a0.size : Int) - 1)) = ji7 := (i64_w _).trans hji7
  by_cases c8 : 0 ≤ (ji7)
  rotate_left
  · exact absurd H (by rw [if_neg c8]; simp)
  rw [if_pos c8] at H
  have c8b0 : decide (0 ≤ (ji7)) = true := decide_eq_true c8
  clear c8
  by_cases c9 : (ji7) < (a0.size : Int)
  rotate_left
  · exact absurd H (by rw [if_neg c9]; simp)
  rw [if_pos c9] at H
  have c9b0 : decide ((ji7) < (a0.size : Int)) = true := decide_eq_true c9
  clear c9
  by_cases c11 : (bt a0 (ji7)) = 34
  rotate_left
  · rw [if_neg c11] at H
    have c11b0 : ((bt a0 (ji7)) == 34) = false := beq_eq_false_iff_ne.mpr c11
    have c11b1 : ((bt a0 (ji7)) != 34) = true := bne_iff_ne.mpr c11
    have H' := A_ H
    clear H
    have p5 : 0 ≤ (0 : Int) := (by omega)
    have q5 : 0 < a0.size := (by have : (0 : Int) < (a0.size : Int) := od_; omega)
    have hx5 : ∀ h : 0 < a0.size, ((a0[0]'h).toNat : Int) = bt a0 0 := bt_at a0 0
    clear p5
    have qi5 : (0 < (a0.size : Int)) = True := eq_true od_
    replace q5 := eq_true q5
    have p10 : 0 ≤ ((ji7) : Int) := od_
    have q10 : (ji7) < (a0.size : Int) := od_
    have hx10 := bt_at a0 (ji7)
    replace p10 := eq_true p10
    replace q10 := eq_true q10
    go_wp2
    go_meet
    case rel => exact ⟨_, (true), rs_, H', ⟨by first | omega | exact Nat.le_refl _⟩, dr_⟩
  rw [if_pos c11] at H
  have c11b0 : ((bt a0 (ji7)) == 34) = true := beq_iff_eq.mpr c11
  have c11b1 : ((bt a0 (ji7)) != 34) = false := bne_eq_false_iff_eq.mpr c11
  clear c11
  by_cases c12 : (a0.size : Int) > 12
  · rw [if_pos c12] at H
    have c12b0 : decide (12 < (a0.size : Int)) = true := decide_eq_true c12
    have c12b1 : decide (12 < a0.size) = true := decide_eq_true (by omega)
    clear c12
    have H' := A_ H
    clear H
    have p5 : 0 ≤ (0 : Int) := (by omega)
    have q5 : 0 < a0.size := (by have : (0 : Int) < (a0.size : Int) := od_; omega)
    have hx5 : ∀ h : 0 < a0.size, ((a0[0]'h).toNat : Int) = bt a0 0 := bt_at a0 0
    clear p5
    have qi5 : (0 < (a0.size : Int)) = True := eq_true od_
    replace q5 := eq_true q5
    have p10 : 0 ≤ ((ji7) : Int) := od_
    have q10 : (ji7) < (a0.size : Int) := od_
    have hx10 := bt_at a0 (ji7)
    replace p10 := eq_true p10
    replace q10 := eq_true q10
    go_wp2
    go_meet
    case rel => exact ⟨_, (true), rs_, H', ⟨by first | omega | exact Nat.le_refl _⟩, dr_⟩
  rw [if_neg c12] at H
  have c12b0 : decide (12 < (a0.size : Int)) = false := decide_eq_false c12
  have c12b1 : decide (12 < a0.size) = false := decide_eq_false (by omega)
  clear c12
  obtain ⟨t121, A13, H⟩ := bo_ H
  (try dsimp only at H)
  have H' := A_ H
  clear H
  have p5 : 0 ≤ (0 : Int) := (by omega)
  have q5 : 0 < a0.size := (by have : (0 : Int) < (a0.size : Int) := od_; omega)
  have hx5 : ∀ h : 0 < a0.size, ((a0[0]'h).toNat : Int) = bt a0 0 := bt_at a0 0
  clear p5
  have qi5 : (0 < (a0.size : Int)) = True := eq_true od_
  replace q5 := eq_true q5
  have p10 : 0 ≤ ((ji7) : Int) := od_
  have q10 : (ji7) < (a0.size : Int) := od_
  have hx10 := bt_at a0 (ji7)
  replace p10 := eq_true p10
  replace q10 := eq_true q10
  go_wp2_with (first | (go_at_call 60; (with_reducible refine (spec_Plain.calls k a0 t121 _ A13.out).mono ?_); rintro e w' ⟨rfl, ⟨nd, rfl⟩⟩))
  go_meet
  case rel => exact ⟨_, (!t121), rs_, H', ⟨by first | omega | exact Nat.le_refl _⟩, dr_⟩
 case rest =>
  clear HC2
  try clear c1
  try clear p1
  try clear q1
  try clear hx1
  try clear p2
  try clear c3
  try clear c3b0
  try clear c3b1
  try clear c4
  try clear c4b0
  try clear c4b1
  try clear p5
  try clear q5
  try clear hx5
  try clear qi5
  try clear c6
  try clear c6b0
  try clear c6b1
  try clear p6
  try clear c8
  try clear c8b0
  try clear c9
  try clear c9b0
  try clear p10
  try clear q10
  try clear hx10
  try clear c11
  try clear c11b0
  try clear c11b1
  try clear c12
  try clear c12b0
  try clear c12b1
  try clear p10
  try clear p5
  try clear q10
  try clear q5
  obtain ⟨kq, x29_1, rfl, HA, HJ1, ⟨mc1, rfl⟩⟩ := hcut
  cases kq with
  | zero => exact absurd HA.out (by simp [spec_l9Tag.j0])
  | succ kj1 =>
   have H := HA.out
   clear HA
   simp only [spec_l9Tag.j0] at H
   by_cases c14 : x29_1 = true
   · subst c14
     rw [if_pos rfl] at H
     obtain rfl := si_ H
     go_wp2
     go_ret
     exact ⟨rs_, dr_⟩
   · replace c14 := Bool.eq_false_iff.mpr c14
     subst c14
     rw [if_neg nf_] at H
     have H' := A_ H
     clear H
     go_wp2
     go_loopg [3] kj1 (fun kq v3 w' => ∃ (x3_2 : Int), v3 = .int .i64 x3_2 ∧ Aside0 (spec_l9Tag.l0 kq a0 x3_2 = some r) ∧ Aside0 (kq ≤ kj1) ∧ Drawn0 w w')
     case atStart => exact ⟨(1), rs_, H', ⟨Nat.le_refl _⟩, dr_⟩
     case round =>
      clear H'
      try clear c1
      try clear p1
      try clear q1
      try clear hx1
      try clear p2
      try clear c3
      try clear c3b0
      try clear c3b1
      try clear c4
      try clear c4b0
      try clear c4b1
      try clear p5
      try clear q5
      try clear hx5
      try clear qi5
      try clear c6
      try clear c6b0
      try clear c6b1
      try clear p6
      try clear c8
      try clear c8b0
      try clear c9
      try clear c9b0
      try clear p10
      try clear q10
      try clear hx10
      try clear c11
      try clear c11b0
      try clear c11b1
      try clear c12
      try clear c12b0
      try clear c12b1
      try clear c14
      try clear p1
      try clear p10
      try clear p2
      try clear p5
      try clear p6
      try clear q1
      try clear q10
      try clear q5
      obtain ⟨x3_2, rfl, HA, HK2, ⟨m2, rfl⟩⟩ := hrel
      cases gk with
      | zero => exact absurd HA.out (by simp [spec_l9Tag.l0])
      | succ k2 =>
       have H := HA.out
       clear HA
       simp only [spec_l9Tag.l0] at H
       by_cases c15 : x3_2 < (wrap64 ((a0.size : Int) - 1))
       rotate_left
       · rw [if_neg c15] at H
         have c15b0 : decide (x3_2 < (wrap64 ((a0.size : Int) - 1))) = false := decide_eq_false c15
         clear c15
         obtain rfl := si_ H
         go_wp2
         go_ret
         exact ⟨rs_, dr_⟩
       rw [if_pos c15] at H
       have c15b0 : decide (x3_2 < (wrap64 ((a0.size : Int) - 1))) = true := decide_eq_true c15
       clear c15
       by_cases c16 : 0 ≤ x3_2
       rotate_left
       · exact absurd H (by rw [if_neg c16]; simp)
       rw [if_pos c16] at H
       have c16b0 : decide (0 ≤ x3_2) = true := decide_eq_true c16
       clear c16
       by_cases c17 : x3_2 < (a0.size : Int)
       rotate_left
       · exact absurd H (by rw [if_neg c17]; simp)
       rw [if_pos c17] at H
       have c17b0 : decide (x3_2 < (a0.size : Int)) = true := decide_eq_true c17
       clear c17
       by_cases c19 : (bt a0 x3_2) = 34
       · rw [if_pos c19] at H
         have c19b0 : ((bt a0 x3_2) == 34) = true := beq_iff_eq.mpr c19
         have c19b1 : ((bt a0 x3_2) != 34) = false := bne_eq_false_iff_eq.mpr c19
         clear c19
         obtain rfl := si_ H
         have p18 : 0 ≤ (x3_2 : Int) := od_
         have q18 : x3_2 < (a0.size : Int) := od_
         have hx18 := bt_at a0 x3_2
         replace p18 := eq_true p18
         replace q18 := eq_true q18
         go_wp2
         go_ret
         exact ⟨rs_, dr_⟩
       rw [if_neg c19] at H
       have c19b0 : ((bt a0 x3_2) == 34) = false := beq_eq_false_iff_ne.mpr c19
       have c19b1 : ((bt a0 x3_2) != 34) = true := bne_iff_ne.mpr c19
       have H' := A_ H
       clear H
       have p18 : 0 ≤ (x3_2 : Int) := od_
       have q18 : x3_2 < (a0.size : Int) := od_
       have hx18 := bt_at a0 x3_2
       replace p18 := eq_true p18
       replace q18 := eq_true q18
       go_wp2
       go_roundg k2
       case measure => have := HJ1.out; have := HK2.out; omega
       case rel => exact ⟨(wrap64 (x3_2 + 1)), rs_, H', ⟨by have := HJ1.out; have := HK2.out; omega⟩, dr_⟩
set_option maxHeartbeats 8000000
set_option maxRecDepth 100000
theorem bIQx140_ {P : Prop} (h : P := by repeat (first | (with_reducible first | exact HB.out | apply below_alloc | apply pw_below_drewN | apply below_drew1 | refine below_set ?_ (IsS106.ge HI0.out)) | exact HB.out)) : P := h
theorem bIQx141_ {P : Prop} (h : P := by repeat (first | (with_reducible first | exact HI0.out | apply IsS106.alloc | apply IsS106.drewN | apply IsS106.drew | apply IsS106.set_0 | apply IsS106.set_1 | apply IsS106.set_2) | exact HI0.out)) : P := h
def laws_szCond.f (a0_0 : Bool) (a0_1 : Int) (a0_2 : ByteArray) (a1 : Int) : Option (Int) := if (wrap64 (a1 - (a0_2.size : Int))) < 0 then (some (-1)) else (some (wrap64 (a1 - (a0_2.size : Int))))
theorem laws_szCond.calls (a0_0 : Bool) (a0_1 : Int) (a0_2 : ByteArray) (a1 : Int) (r : Int) (w : World) (h : laws_szCond.f a0_0 a0_1 a0_2 a1 = some r) :
 Calls Tryd.prog 74 #[.agg #[.bool a0_0, .int .i64 a0_1, .string a0_2], .int .i64 a1] w fun e w' => e = .returned (.int .i64 r) ∧ Below w.heap.size w w' := by
 have hu103 := Tryd.underlying103
 have HB := A_ (Below.refl w.heap.size w)
 have H : (if (wrap64 (a1 - (a0_2.size : Int))) < 0 then (some (-1)) else (some (wrap64 (a1 - (a0_2.size : Int))))) = some r := h
 clear h
 by_cases c3 : (wrap64 (a1 - (a0_2.size : Int))) < 0
 · rw [if_pos c3] at H
   have c3b0 : decide ((wrap64 (a1 - (a0_2.size : Int))) < 0) = true := decide_eq_true c3
   clear c3
   obtain rfl := si_ H
   go_enter Tryd.func74, Tryd.ntmps74
   go_wp2_with (first | ((with_reducible refine gd_ (N := 2) rfl ?_); refine bx_ (N := 2) (cs := #[.bool a0_0, .int .i64 a0_1, .string a0_2]) (t := 103) ?_; intro gb399 hg w4 hbox hb; have BK399 := A_ (hbox); have GW399 := A_ (ge_ hg bB_ : w.heap.size ≤ gb399); have GE399 := A_ (ge_ hg bB_ : w.heap.size ≤ gb399); replace HB := A_ (below_step bB_ hb); clear hb hbox hg; obtain ⟨hcz5_0, hcz5_1, hcz5_2, hfz5_0, hfz5_1, hfz5_2⟩ := cz3_ BK399.out))
   go_ret
   exact ⟨rr_, bG_ GE399.out⟩
 rw [if_neg c3] at H
 have c3b0 : decide ((wrap64 (a1 - (a0_2.size : Int))) < 0) = false := decide_eq_false c3
 clear c3
 obtain rfl := si_ H
 go_enter Tryd.func74, Tryd.ntmps74
 go_wp2_with (first | ((with_reducible refine gd_ (N := 2) rfl ?_); refine bx_ (N := 2) (cs := #[.bool a0_0, .int .i64 a0_1, .string a0_2]) (t := 103) ?_; intro gb399 hg w6 hbox hb; have BK399 := A_ (hbox); have GW399 := A_ (ge_ hg bB_ : w.heap.size ≤ gb399); have GE399 := A_ (ge_ hg bB_ : w.heap.size ≤ gb399); replace HB := A_ (below_step bB_ hb); clear hb hbox hg; obtain ⟨hcz7_0, hcz7_1, hcz7_2, hfz7_0, hfz7_1, hfz7_2⟩ := cz3_ BK399.out))
 go_ret
 exact ⟨rr_, bG_ GE399.out⟩
def laws_szCondS.l0 : Nat → List (S103) → Int → Int → Option (Int)
 | 0, _, _, _ => none
 | k + 1, x0, x1, x5 => if x5 < (x0.length : Int) then (if 0 ≤ x5 then ((laws_szCond.f ((rd_T103 x0 x5).f0) ((rd_T103 x0 x5).f1) ((rd_T103 x0 x5).f2) x1).bind fun t401 => (if t401 < 0 then (some (-1)) else (laws_szCondS.l0 k x0 t401 (wrap64 (x5 + 1))))) else (none)) else (some x1)
def laws_szCondS.f (k : Nat) (l0 : List (S103)) (a1 : Int) : Option (Int) := if (wrap64 (a1 - (l0.length : Int))) < 0 then (some (-1)) else (laws_szCondS.l0 k l0 (wrap64 (a1 - (l0.length : Int))) 0)
theorem laws_szCondS.calls (k : Nat) (A0 : Option Addr) (c0 : Nat) (l0 : List (S103)) (a1 : Int) (r : Int) (w : World) (hr0 : Kd.C k103 w A0 l0.length l0) (hc0 : l0.length ≤ c0) (h : laws_szCondS.f k l0 a1 = some r) :
 Calls Tryd.prog 49 #[.slice A0 l0.length c0, .int .i64 a1] w fun e w' => e = .returned (.int .i64 r) ∧ Below w.heap.size w w' := by
 have hu103 := Tryd.underlying103
 have HR0 := A_ hr0
 have HC0 := A_ hc0
 clear hr0 hc0
 have HB := A_ (Below.refl w.heap.size w)
 have H : (if (wrap64 (a1 - (l0.length : Int))) < 0 then (some (-1)) else (laws_szCondS.l0 k l0 (wrap64 (a1 - (l0.length : Int))) 0)) = some r := h
 clear h
 by_cases c3 : (wrap64 (a1 - (l0.length : Int))) < 0
 · rw [if_pos c3] at H
   have c3b0 : decide ((wrap64 (a1 - (l0.length : Int))) < 0) = true := decide_eq_true c3
   clear c3
   obtain rfl := si_ H
   go_enter Tryd.func49, Tryd.ntmps49
   go_wp2
   go_ret
   exact ⟨rr_, bB_⟩
 rw [if_neg c3] at H
 have c3b0 : decide ((wrap64 (a1 - (l0.length : Int))) < 0) = false := decide_eq_false c3
 clear c3
 have H' := A_ H
 clear H
 go_enter Tryd.func49, Tryd.ntmps49
 go_wp2
 go_loopg [1, 5] k (fun kq v1 v5 w' => ∃ (x1_1 : Int) (x5_1 : Int), v1 = .int .i64 x1_1 ∧ v5 = .int .i64 x5_1 ∧ Aside0 (laws_szCondS.l0 kq l0 x1_1 x5_1 = some r) ∧ Aside0 (kq ≤ k) ∧ Aside0 (Below w.heap.size w w'))
 case atStart => exact ⟨(wrap64 (a1 - (l0.length : Int))), (0), rs_, rs_, H', ⟨Nat.le_refl _⟩, ⟨bB_⟩⟩
 case round =>
  clear H'
  try clear p2
  try clear c3
  try clear c3b0
  obtain ⟨x1_1, x5_1, rfl, rfl, HA, HK1, HB⟩ := hrel
  cases gk with
  | zero => exact absurd HA.out (by simp [laws_szCondS.l0])
  | succ k1 =>
   have H := HA.out
   clear HA
   simp only [laws_szCondS.l0] at H
   by_cases c4 : x5_1 < (l0.length : Int)
   rotate_left
   · rw [if_neg c4] at H
     have c4b0 : decide (x5_1 < (l0.length : Int)) = false := decide_eq_false c4
     clear c4
     obtain rfl := si_ H
     go_wp2
     go_ret
     exact ⟨rr_, bB_⟩
   rw [if_pos c4] at H
   have c4b0 : decide (x5_1 < (l0.length : Int)) = true := decide_eq_true c4
   clear c4
   by_cases c5 : 0 ≤ x5_1
   rotate_left
   · exact absurd H (by rw [if_neg c5]; simp)
   rw [if_pos c5] at H
   have c5b0 : decide (0 ≤ x5_1) = true := decide_eq_true c5
   clear c5
   obtain ⟨t401, A6, H⟩ := bo_ H
   (try dsimp only at H)
   by_cases c7 : t401 < 0
   · rw [if_pos c7] at H
     have c7b0 : decide (t401 < 0) = true := decide_eq_true c7
     clear c7
     obtain rfl := si_ H
     have p400 : 0 ≤ (x5_1 : Int) := od_
     have q400 : x5_1 < (l0.length : Int) := od_
     obtain ⟨ad400, e400, hx400_0, hx400_1, hx400_2⟩ := at_T103 HR0.out x5_1 p400 q400
     cases e400
     replace hx400_0 := bc_ HB.out hx400_0
     replace hx400_1 := bc_ HB.out hx400_1
     replace hx400_2 := bc_ HB.out hx400_2
     replace p400 := eq_true p400
     replace q400 := eq_true q400
     go_wp2_with (first | ((with_reducible refine gc_ (f := 74) rfl ?_); refine gL_ (some 23) Tryd.func74 #[.agg #[.bool ((rd_T103 l0 x5_1).f0), .int .i64 ((rd_T103 l0 x5_1).f1), .string ((rd_T103 l0 x5_1).f2)], .int .i64 x1_1] ?_; (with_reducible refine (laws_szCond.calls ((rd_T103 l0 x5_1).f0) ((rd_T103 l0 x5_1).f1) ((rd_T103 l0 x5_1).f2) x1_1 t401 _ A6.out).mono ?_); rintro e w8 ⟨rfl, hb⟩; refine ⟨_, rfl, ?_⟩; replace HB := A_ (below_step bB_ hb); (try clear hb)))
     go_ret
     exact ⟨rr_, bB_⟩
   rw [if_neg c7] at H
   have c7b0 : decide (t401 < 0) = false := decide_eq_false c7
   clear c7
   have H' := A_ H
   clear H
   have p400 : 0 ≤ (x5_1 : Int) := od_
   have q400 : x5_1 < (l0.length : Int) := od_
   obtain ⟨ad400, e400, hx400_0, hx400_1, hx400_2⟩ := at_T103 HR0.out x5_1 p400 q400
   cases e400
   replace hx400_0 := bc_ HB.out hx400_0
   replace hx400_1 := bc_ HB.out hx400_1
   replace hx400_2 := bc_ HB.out hx400_2
   replace p400 := eq_true p400
   replace q400 := eq_true q400
   go_wp2_with (first | ((with_reducible refine gc_ (f := 74) rfl ?_); refine gL_ (some 23) Tryd.func74 #[.agg #[.bool ((rd_T103 l0 x5_1).f0), .int .i64 ((rd_T103 l0 x5_1).f1), .string ((rd_T103 l0 x5_1).f2)], .int .i64 x1_1] ?_; (with_reducible refine (laws_szCond.calls ((rd_T103 l0 x5_1).f0) ((rd_T103 l0 x5_1).f1) ((rd_T103 l0 x5_1).f2) x1_1 t401 _ A6.out).mono ?_); rintro e w9 ⟨rfl, hb⟩; refine ⟨_, rfl, ?_⟩; replace HB := A_ (below_step bB_ hb); (try clear hb)))
   go_roundg k1
   case measure => have := HK1.out; omega
   case rel => exact ⟨(t401), (wrap64 (x5_1 + 1)), rs_, rs_, H', ⟨by have := HK1.out; omega⟩, ⟨bB_⟩⟩
def laws_szCondSS.l0 : Nat → List (List (S103)) → Int → Int → Option (Int)
 | 0, _, _, _ => none
 | k + 1, x0, x1, x5 => if x5 < (x0.length : Int) then (if 0 ≤ x5 then ((laws_szCondS.f k (rd_L14 x0 x5) x1).bind fun t403 => (if t403 < 0 then (some (-1)) else (laws_szCondSS.l0 k x0 t403 (wrap64 (x5 + 1))))) else (none)) else (some x1)
def laws_szCondSS.f (k : Nat) (l0 : List (List (S103))) (a1 : Int) : Option (Int) := if (wrap64 (a1 - (l0.length : Int))) < 0 then (some (-1)) else (laws_szCondSS.l0 k l0 (wrap64 (a1 - (l0.length : Int))) 0)
theorem laws_szCondSS.calls (k : Nat) (A0 : Option Addr) (c0 : Nat) (l0 : List (List (S103))) (a1 : Int) (r : Int) (w : World) (hr0 : Kd.C (Kd.slice 103 k103) w A0 l0.length l0) (hc0 : l0.length ≤ c0) (h : laws_szCondSS.f k l0 a1 = some r) :
 Calls Tryd.prog 24 #[.slice A0 l0.length c0, .int .i64 a1] w fun e w' => e = .returned (.int .i64 r) ∧ Below w.heap.size w w' := by
 have HR0 := A_ hr0
 have HC0 := A_ hc0
 clear hr0 hc0
 have HB := A_ (Below.refl w.heap.size w)
 have H : (if (wrap64 (a1 - (l0.length : Int))) < 0 then (some (-1)) else (laws_szCondSS.l0 k l0 (wrap64 (a1 - (l0.length : Int))) 0)) = some r := h
 clear h
 by_cases c3 : (wrap64 (a1 - (l0.length : Int))) < 0
 · rw [if_pos c3] at H
   have c3b0 : decide ((wrap64 (a1 - (l0.length : Int))) < 0) = true := decide_eq_true c3
   clear c3
   obtain rfl := si_ H
   go_enter Tryd.func24, Tryd.ntmps24
   go_wp2
   go_ret
   exact ⟨rr_, bB_⟩
 rw [if_neg c3] at H
 have c3b0 : decide ((wrap64 (a1 - (l0.length : Int))) < 0) = false := decide_eq_false c3
 clear c3
 have H' := A_ H
 clear H
 go_enter Tryd.func24, Tryd.ntmps24
 go_wp2
 go_loopg [1, 5] k (fun kq v1 v5 w' => ∃ (x1_1 : Int) (x5_1 : Int), v1 = .int .i64 x1_1 ∧ v5 = .int .i64 x5_1 ∧ Aside0 (laws_szCondSS.l0 kq l0 x1_1 x5_1 = some r) ∧ Aside0 (kq ≤ k) ∧ Aside0 (Below w.heap.size w w'))
 case atStart => exact ⟨(wrap64 (a1 - (l0.length : Int))), (0), rs_, rs_, H', ⟨Nat.le_refl _⟩, ⟨bB_⟩⟩
 case round =>
  clear H'
  try clear c2
  try clear p2
  try clear c3
  try clear c3b0
  obtain ⟨x1_1, x5_1, rfl, rfl, HA, HK1, HB⟩ := hrel
  cases gk with
  | zero => exact absurd HA.out (by simp [laws_szCondSS.l0])
  | succ k1 =>
   have H := HA.out
   clear HA
   simp only [laws_szCondSS.l0] at H
   by_cases c4 : x5_1 < (l0.length : Int)
   rotate_left
   · rw [if_neg c4] at H
     have c4b0 : decide (x5_1 < (l0.length : Int)) = false := decide_eq_false c4
     clear c4
     obtain rfl := si_ H
     go_wp2
     go_ret
     exact ⟨rr_, bB_⟩
   rw [if_pos c4] at H
   have c4b0 : decide (x5_1 < (l0.length : Int)) = true := decide_eq_true c4
   clear c4
   by_cases c5 : 0 ≤ x5_1
   rotate_left
   · exact absurd H (by rw [if_neg c5]; simp)
   rw [if_pos c5] at H
   have c5b0 : decide (0 ≤ x5_1) = true := decide_eq_true c5
   clear c5
   obtain ⟨t403, A6, H⟩ := bo_ H
   (try dsimp only at H)
   by_cases c7 : t403 < 0
   · rw [if_pos c7] at H
     have c7b0 : decide (t403 < 0) = true := decide_eq_true c7
     clear c7
     obtain rfl := si_ H
     have p402 : 0 ≤ (x5_1 : Int) := od_
     have q402 : x5_1 < (l0.length : Int) := od_
     obtain ⟨ad402, A402_0, c402_0, e402, hx402_0, hl402_0, hi402_0⟩ := at_L14 HR0.out x5_1 p402 q402
     cases e402
     replace hx402_0 := bc_ HB.out hx402_0
     have HR402_0 := A_ hi402_0
     have HC402_0 := A_ hl402_0
     clear hi402_0 hl402_0
     replace p402 := eq_true p402
     replace q402 := eq_true q402
     go_wp2_with (first | ((with_reducible refine gc_ (f := 49) rfl ?_); refine gL_ (some 23) Tryd.func49 #[.slice A402_0 (rd_L14 l0 x5_1).length c402_0, .int .i64 x1_1] ?_; (with_reducible refine (laws_szCondS.calls k1 _ _ (rd_L14 l0 x5_1) x1_1 t403 _ ?s1 ?s2 A6.out).mono ?_); (case s1 => exact cC_ (Kd.C_below HR402_0.out HB.out)); (case s2 => exact HC402_0.out); rintro e w8 ⟨rfl, hb⟩; refine ⟨_, rfl, ?_⟩; replace HB := A_ (below_step bB_ hb); (try clear hb)))
     go_ret
     exact ⟨rr_, bB_⟩
   rw [if_neg c7] at H
   have c7b0 : decide (t403 < 0) = false := decide_eq_false c7
   clear c7
   have H' := A_ H
   clear H
   have p402 : 0 ≤ (x5_1 : Int) := od_
   have q402 : x5_1 < (l0.length : Int) := od_
   obtain ⟨ad402, A402_0, c402_0, e402, hx402_0, hl402_0, hi402_0⟩ := at_L14 HR0.out x5_1 p402 q402
   cases e402
   replace hx402_0 := bc_ HB.out hx402_0
   have HR402_0 := A_ hi402_0
   have HC402_0 := A_ hl402_0
   clear hi402_0 hl402_0
   replace p402 := eq_true p402
   replace q402 := eq_true q402
   go_wp2_with (first | ((with_reducible refine gc_ (f := 49) rfl ?_); refine gL_ (some 23) Tryd.func49 #[.slice A402_0 (rd_L14 l0 x5_1).length c402_0, .int .i64 x1_1] ?_; (with_reducible refine (laws_szCondS.calls k1 _ _ (rd_L14 l0 x5_1) x1_1 t403 _ ?s1 ?s2 A6.out).mono ?_); (case s1 => exact cC_ (Kd.C_below HR402_0.out HB.out)); (case s2 => exact HC402_0.out); rintro e w9 ⟨rfl, hb⟩; refine ⟨_, rfl, ?_⟩; replace HB := A_ (below_step bB_ hb); (try clear hb)))
   go_roundg k1
   case measure => have := HK1.out; omega
   case rel => exact ⟨(t403), (wrap64 (x5_1 + 1)), rs_, rs_, H', ⟨by have := HK1.out; omega⟩, ⟨bB_⟩⟩
def spec_l14OneText.f (k : Nat) (a0_0 : Bool) (a0_1 : Int) (a0_2 : ByteArray) : Option (ByteArray) := if a0_0 = true then (if a0_1 = 0 then (if 4 + 1 ≤ 9223372036854775807 then (if 4 + a0_2.size ≤ 9223372036854775807 then (if (((⟨#[78, 111, 116, 32]⟩ : ByteArray) ++ (⟨#[91]⟩ : ByteArray)) ++ a0_2).size + 1 ≤ 9223372036854775807 then (some ((((⟨#[78, 111, 116, 32]⟩ : ByteArray) ++ (⟨#[91]⟩ : ByteArray)) ++ a0_2) ++ (⟨#[93]⟩ : ByteArray))) else (none)) else (none)) else (none)) else (if 4 + 1 ≤ 9223372036854775807 then ((spec_NumText.f k a0_1).bind fun t405 => (if 4 + t405.size ≤ 9223372036854775807 then (if (((⟨#[78, 111, 116, 32]⟩ : ByteArray) ++ (⟨#[60]⟩ : ByteArray)) ++ t405).size + 1 ≤ 9223372036854775807 then (some ((((⟨#[78, 111, 116, 32]⟩ : ByteArray) ++ (⟨#[60]⟩ : ByteArray)) ++ t405) ++ (⟨#[62]⟩ : ByteArray))) else (none)) else (none))) else (none))) else (if a0_1 = 0 then (if 0 + 1 ≤ 9223372036854775807 then (if 1 + a0_2.size ≤ 9223372036854775807 then (if (((⟨#[]⟩ : ByteArray) ++ (⟨#[91]⟩ : ByteArray)) ++ a0_2).size + 1 ≤ 9223372036854775807 then (some ((((⟨#[]⟩ : ByteArray) ++ (⟨#[91]⟩ : ByteArray)) ++ a0_2) ++ (⟨#[93]⟩ : ByteArray))) else (none)) else (none)) else (none)) else (if 0 + 1 ≤ 9223372036854775807 then ((spec_NumText.f k a0_1).bind fun t406 => (if 1 + t406.size ≤ 9223372036854775807 then (if (((⟨#[]⟩ : ByteArray) ++ (⟨#[60]⟩ : ByteArray)) ++ t406).size + 1 ≤ 9223372036854775807 then (some ((((⟨#[]⟩ : ByteArray) ++ (⟨#[60]⟩ : ByteArray)) ++ t406) ++ (⟨#[62]⟩ : ByteArray))) else (none)) else (none))) else (none)))
theorem spec_l14OneText.calls (k : Nat) (a0_0 : Bool) (a0_1 : Int) (a0_2 : ByteArray) (r : ByteArray) (w : World) (h : spec_l14OneText.f k a0_0 a0_1 a0_2 = some r) :
 Calls Tryd.prog 50 #[.agg #[.bool a0_0, .int .i64 a0_1, .string a0_2]] w fun e w' => e = .returned (.string r) ∧ Below w.heap.size w w' := by
 have hu79 := Tryd.underlying79
 have HB := A_ (Below.refl w.heap.size w)
 have H : (if a0_0 = true then (if a0_1 = 0 then (if 4 + 1 ≤ 9223372036854775807 then (if 4 + a0_2.size ≤ 9223372036854775807 then (if (((⟨#[78, 111, 116, 32]⟩ : ByteArray) ++ (⟨#[91]⟩ : ByteArray)) ++ a0_2).size + 1 ≤ 9223372036854775807 then (some ((((⟨#[78, 111, 116, 32]⟩ : ByteArray) ++ (⟨#[91]⟩ : ByteArray)) ++ a0_2) ++ (⟨#[93]⟩ : ByteArray))) else (none)) else (none)) else (none)) else (if 4 + 1 ≤ 9223372036854775807 then ((spec_NumText.f k a0_1).bind fun t405 => (if 4 + t405.size ≤ 9223372036854775807 then (if (((⟨#[78, 111, 116, 32]⟩ : ByteArray) ++ (⟨#[60]⟩ : ByteArray)) ++ t405).size + 1 ≤ 9223372036854775807 then (some ((((⟨#[78, 111, 116, 32]⟩ : ByteArray) ++ (⟨#[60]⟩ : ByteArray)) ++ t405) ++ (⟨#[62]⟩ : ByteArray))) else (none)) else (none))) else (none))) else (if a0_1 = 0 then (if 0 + 1 ≤ 9223372036854775807 then (if 1 + a0_2.size ≤ 9223372036854775807 then (if (((⟨#[]⟩ : ByteArray) ++ (⟨#[91]⟩ : ByteArray)) ++ a0_2).size + 1 ≤ 9223372036854775807 then (some ((((⟨#[]⟩ : ByteArray) ++ (⟨#[91]⟩ : ByteArray)) ++ a0_2) ++ (⟨#[93]⟩ : ByteArray))) else (none)) else (none)) else (none)) else (if 0 + 1 ≤ 9223372036854775807 then ((spec_NumText.f k a0_1).bind fun t406 => (if 1 + t406.size ≤ 9223372036854775807 then (if (((⟨#[]⟩ : ByteArray) ++ (⟨#[60]⟩ : ByteArray)) ++ t406).size + 1 ≤ 9223372036854775807 then (some ((((⟨#[]⟩ : ByteArray) ++ (⟨#[60]⟩ : ByteArray)) ++ t406) ++ (⟨#[62]⟩ : ByteArray))) else (none)) else (none))) else (none)))) = some r := h
 clear h
 by_cases c2 : a0_0 = true
 · subst c2
   rw [if_pos rfl] at H
   by_cases c3 : a0_1 = 0
   · rw [if_pos c3] at H
     have c3b0 : (a0_1 == 0) = true := beq_iff_eq.mpr c3
     have c3b1 : (a0_1 != 0) = false := bne_eq_false_iff_eq.mpr c3
     clear c3
     by_cases c4 : 4 + 1 ≤ 9223372036854775807
     rotate_left
     · exact absurd H (by rw [if_neg c4]; simp)
     rw [if_pos c4] at H
     have c4b0 := eq_true c4
     have c4b1 : decide (4 + 1 ≤ 9223372036854775807) = true := decide_eq_true c4
     try have c4b2 : (9223372036854775807 < 4 + 1) = False := eq_false (Nat.not_lt.2 c4)
     by_cases c5 : 4 + a0_2.size ≤ 9223372036854775807
     rotate_left
     · exact absurd H (by rw [if_neg c5]; simp)
     rw [if_pos c5] at H
     have c5b0 := eq_true c5
     have c5b1 : decide (4 + a0_2.size ≤ 9223372036854775807) = true := decide_eq_true c5
     try have c5b2 : (9223372036854775807 < 4 + a0_2.size) = False := eq_false (Nat.not_lt.2 c5)
     by_cases c6 : (((⟨#[78, 111, 116, 32]⟩ : ByteArray) ++ (⟨#[91]⟩ : ByteArray)) ++ a0_2).size + 1 ≤ 9223372036854775807
     rotate_left
     · exact absurd H (by rw [if_neg c6]; simp)
     rw [if_pos c6] at H
     have c6b0 := eq_true c6
     have c6b1 : decide ((((⟨#[78, 111, 116, 32]⟩ : ByteArray) ++ (⟨#[91]⟩ : ByteArray)) ++ a0_2).size + 1 ≤ 9223372036854775807) = true := decide_eq_true c6
     try have c6b2 : (9223372036854775807 < (((⟨#[78, 111, 116, 32]⟩ : ByteArray) ++ (⟨#[91]⟩ : ByteArray)) ++ a0_2).size + 1) = False := eq_false (Nat.not_lt.2 c6)
     try have c6b4 : (9223372036854775807 < 5 + a0_2.size) = False := eq_false (by have h_ := c6; simp only [ByteArray.size_append] at h_; replace h_ : 4 + 1 + a0_2.size + 1 ≤ 9223372036854775807 := h_; omega)
     try have c6b5 : (9223372036854775807 < 5 + a0_2.size + 1) = False := eq_false (by have h_ := c6; simp only [ByteArray.size_append] at h_; replace h_ : 4 + 1 + a0_2.size + 1 ≤ 9223372036854775807 := h_; omega)
     try have c6b3 : (9223372036854775807 < 4 + 1 + a0_2.size + 1) = False := eq_false (Nat.not_lt.2 (by have h_ := c6; simp only [ByteArray.size_append] at h_; exact h_))
     obtain rfl := si_ H
     go_enter Tryd.func50, Tryd.ntmps50
     go_wp2_with (first | ((with_reducible refine gd_ (N := 1) rfl ?_); refine bx_ (N := 1) (cs := #[.bool true, .int .i64 a0_1, .string a0_2]) (t := 79) ?_; intro gb404 hg w7 hbox hb; have BK404 := A_ (hbox); have GW404 := A_ (ge_ hg bB_ : w.heap.size ≤ gb404); have GE404 := A_ (ge_ hg bB_ : w.heap.size ≤ gb404); replace HB := A_ (below_step bB_ hb); clear hb hbox hg; obtain ⟨hcz8_0, hcz8_1, hcz8_2, hfz8_0, hfz8_1, hfz8_2⟩ := cz3_ BK404.out))
     go_ret
     exact ⟨rr_, bG_ GE404.out⟩
   rw [if_neg c3] at H
   have c3b0 : (a0_1 == 0) = false := beq_eq_false_iff_ne.mpr c3
   have c3b1 : (a0_1 != 0) = true := bne_iff_ne.mpr c3
   by_cases c9 : 4 + 1 ≤ 9223372036854775807
   rotate_left
   · exact absurd H (by rw [if_neg c9]; simp)
   rw [if_pos c9] at H
   have c9b0 := eq_true c9
   have c9b1 : decide (4 + 1 ≤ 9223372036854775807) = true := decide_eq_true c9
   try have c9b2 : (9223372036854775807 < 4 + 1) = False := eq_false (Nat.not_lt.2 c9)
   obtain ⟨t405, A10, H⟩ := bo_ H
   (try dsimp only at H)
   by_cases c11 : 4 + t405.size ≤ 9223372036854775807
   rotate_left
   · exact absurd H (by rw [if_neg c11]; simp)
   rw [if_pos c11] at H
   have c11b0 := eq_true c11
   have c11b1 : decide (4 + t405.size ≤ 9223372036854775807) = true := decide_eq_true c11
   try have c11b2 : (9223372036854775807 < 4 + t405.size) = False := eq_false (Nat.not_lt.2 c11)
   by_cases c12 : (((⟨#[78, 111, 116, 32]⟩ : ByteArray) ++ (⟨#[60]⟩ : ByteArray)) ++ t405).size + 1 ≤ 9223372036854775807
   rotate_left
   · exact absurd H (by rw [if_neg c12]; simp)
   rw [if_pos c12] at H
   have c12b0 := eq_true c12
   have c12b1 : decide ((((⟨#[78, 111, 116, 32]⟩ : ByteArray) ++ (⟨#[60]⟩ : ByteArray)) ++ t405).size + 1 ≤ 9223372036854775807) = true := decide_eq_true c12
   try have c12b2 : (9223372036854775807 < (((⟨#[78, 111, 116, 32]⟩ : ByteArray) ++ (⟨#[60]⟩ : ByteArray)) ++ t405).size + 1) = False := eq_false (Nat.not_lt.2 c12)
   try have c12b4 : (9223372036854775807 < 5 + t405.size) = False := eq_false (by have h_ := c12; simp only [ByteArray.size_append] at h_; replace h_ : 4 + 1 + t405.size + 1 ≤ 9223372036854775807 := h_; omega)
   try have c12b5 : (9223372036854775807 < 5 + t405.size + 1) = False := eq_false (by have h_ := c12; simp only [ByteArray.size_append] at h_; replace h_ : 4 + 1 + t405.size + 1 ≤ 9223372036854775807 := h_; omega)
   try have c12b3 : (9223372036854775807 < 4 + 1 + t405.size + 1) = False := eq_false (Nat.not_lt.2 (by have h_ := c12; simp only [ByteArray.size_append] at h_; exact h_))
   obtain rfl := si_ H
   go_enter Tryd.func50, Tryd.ntmps50
   go_wp2_with (first | ((with_reducible refine gd_ (N := 1) rfl ?_); refine bx_ (N := 1) (cs := #[.bool true, .int .i64 a0_1, .string a0_2]) (t := 79) ?_; intro gb404 hg w13 hbox hb; have BK404 := A_ (hbox); have GW404 := A_ (ge_ hg bB_ : w.heap.size ≤ gb404); have GE404 := A_ (ge_ hg bB_ : w.heap.size ≤ gb404); replace HB := A_ (below_step bB_ hb); clear hb hbox hg; obtain ⟨hcz14_0, hcz14_1, hcz14_2, hfz14_0, hfz14_1, hfz14_2⟩ := cz3_ BK404.out) | ((with_reducible refine gc_ (f := 29) rfl ?_); refine gL_ (some 13) Tryd.func29 #[.int .i64 a0_1] ?_; (with_reducible refine (spec_NumText.calls k a0_1 t405 _ A10.out).mono ?_); rintro e w15 ⟨rfl, hb⟩; refine ⟨_, rfl, ?_⟩; replace BK404 := A_ (bw_ BK404.out hb); replace HB := A_ (below_step (bG_ GE404.out) hb); (try clear hb)))
   go_ret
   exact ⟨rr_, bG_ GE404.out⟩
 · replace c2 := Bool.eq_false_iff.mpr c2
   subst c2
   rw [if_neg nf_] at H
   by_cases c16 : a0_1 = 0
   · rw [if_pos c16] at H
     have c16b0 : (a0_1 == 0) = true := beq_iff_eq.mpr c16
     have c16b1 : (a0_1 != 0) = false := bne_eq_false_iff_eq.mpr c16
     clear c16
     by_cases c17 : 0 + 1 ≤ 9223372036854775807
     rotate_left
     · exact absurd H (by rw [if_neg c17]; simp)
     rw [if_pos c17] at H
     have c17b0 := eq_true c17
     have c17b1 : decide (0 + 1 ≤ 9223372036854775807) = true := decide_eq_true c17
     try have c17b2 : (9223372036854775807 < 0 + 1) = False := eq_false (Nat.not_lt.2 c17)
     by_cases c18 : 1 + a0_2.size ≤ 9223372036854775807
     rotate_left
     · exact absurd H (by rw [if_neg c18]; simp)
     rw [if_pos c18] at H
     have c18b0 := eq_true c18
     have c18b1 : decide (1 + a0_2.size ≤ 9223372036854775807) = true := decide_eq_true c18
     try have c18b2 : (9223372036854775807 < 1 + a0_2.size) = False := eq_false (Nat.not_lt.2 c18)
     by_cases c19 : (((⟨#[]⟩ : ByteArray) ++ (⟨#[91]⟩ : ByteArray)) ++ a0_2).size + 1 ≤ 9223372036854775807
     rotate_left
     · exact absurd H (by rw [if_neg c19]; simp)
     rw [if_pos c19] at H
     have c19b0 := eq_true c19
     have c19b1 : decide ((((⟨#[]⟩ : ByteArray) ++ (⟨#[91]⟩ : ByteArray)) ++ a0_2).size + 1 ≤ 9223372036854775807) = true := decide_eq_true c19
     try have c19b2 : (9223372036854775807 < (((⟨#[]⟩ : ByteArray) ++ (⟨#[91]⟩ : ByteArray)) ++ a0_2).size + 1) = False := eq_false (Nat.not_lt.2 c19)
     try have c19b4 : (9223372036854775807 < 1 + a0_2.size) = False := eq_false (by have h_ := c19; simp only [ByteArray.size_append] at h_; replace h_ : 0 + 1 + a0_2.size + 1 ≤ 9223372036854775807 := h_; omega)
     try have c19b5 : (9223372036854775807 < 1 + a0_2.size + 1) = False := eq_false (by have h_ := c19; simp only [ByteArray.size_append] at h_; replace h_ : 0 + 1 + a0_2.size + 1 ≤ 9223372036854775807 := h_; omega)
     try have c19b3 : (9223372036854775807 < 0 + 1 + a0_2.size + 1) = False := eq_false (Nat.not_lt.2 (by have h_ := c19; simp only [ByteArray.size_append] at h_; exact h_))
     obtain rfl := si_ H
     go_enter Tryd.func50, Tryd.ntmps50
     go_wp2_with (first | ((with_reducible refine gd_ (N := 1) rfl ?_); refine bx_ (N := 1) (cs := #[.bool false, .int .i64 a0_1, .string a0_2]) (t := 79) ?_; intro gb404 hg w20 hbox hb; have BK404 := A_ (hbox); have GW404 := A_ (ge_ hg bB_ : w.heap.size ≤ gb404); have GE404 := A_ (ge_ hg bB_ : w.heap.size ≤ gb404); replace HB := A_ (below_step bB_ hb); clear hb hbox hg; obtain ⟨hcz21_0, hcz21_1, hcz21_2, hfz21_0, hfz21_1, hfz21_2⟩ := cz3_ BK404.out))
     go_ret
     exact ⟨rr_, bG_ GE404.out⟩
   rw [if_neg c16] at H
   have c16b0 : (a0_1 == 0) = false := beq_eq_false_iff_ne.mpr c16
   have c16b1 : (a0_1 != 0) = true := bne_iff_ne.mpr c16
   by_cases c22 : 0 + 1 ≤ 9223372036854775807
   rotate_left
   · exact absurd H (by rw [if_neg c22]; simp)
   rw [if_pos c22] at H
   have c22b0 := eq_true c22
   have c22b1 : decide (0 + 1 ≤ 9223372036854775807) = true := decide_eq_true c22
   try have c22b2 : (9223372036854775807 < 0 + 1) = False := eq_false (Nat.not_lt.2 c22)
   obtain ⟨t406, A23, H⟩ := bo_ H
   (try dsimp only at H)
   by_cases c24 : 1 + t406.size ≤ 9223372036854775807
   rotate_left
   · exact absurd H (by rw [if_neg c24]; simp)
   rw [if_pos c24] at H
   have c24b0 := eq_true c24
   have c24b1 : decide (1 + t406.size ≤ 9223372036854775807) = true := decide_eq_true c24
   try have c24b2 : (9223372036854775807 < 1 + t406.size) = False := eq_false (Nat.not_lt.2 c24)
   by_cases c25 : (((⟨#[]⟩ : ByteArray) ++ (⟨#[60]⟩ : ByteArray)) ++ t406).size + 1 ≤ 9223372036854775807
   rotate_left
   · exact absurd H (by rw [if_neg c25]; simp)
   rw [if_pos c25] at H
   have c25b0 := eq_true c25
   have c25b1 : decide ((((⟨#[]⟩ : ByteArray) ++ (⟨#[60]⟩ : ByteArray)) ++ t406).size + 1 ≤ 9223372036854775807) = true := decide_eq_true c25
   try have c25b2 : (9223372036854775807 < (((⟨#[]⟩ : ByteArray) ++ (⟨#[60]⟩ : ByteArray)) ++ t406).size + 1) = False := eq_false (Nat.not_lt.2 c25)
   try have c25b4 : (9223372036854775807 < 1 + t406.size) = False := eq_false (by have h_ := c25; simp only [ByteArray.size_append] at h_; replace h_ : 0 + 1 + t406.size + 1 ≤ 9223372036854775807 := h_; omega)
   try have c25b5 : (9223372036854775807 < 1 + t406.size + 1) = False := eq_false (by have h_ := c25; simp only [ByteArray.size_append] at h_; replace h_ : 0 + 1 + t406.size + 1 ≤ 9223372036854775807 := h_; omega)
   try have c25b3 : (9223372036854775807 < 0 + 1 + t406.size + 1) = False := eq_false (Nat.not_lt.2 (by have h_ := c25; simp only [ByteArray.size_append] at h_; exact h_))
   obtain rfl := si_ H
   go_enter Tryd.func50, Tryd.ntmps50
   go_wp2_with (first | ((with_reducible refine gd_ (N := 1) rfl ?_); refine bx_ (N := 1) (cs := #[.bool false, .int .i64 a0_1, .string a0_2]) (t := 79) ?_; intro gb404 hg w26 hbox hb; have BK404 := A_ (hbox); have GW404 := A_ (ge_ hg bB_ : w.heap.size ≤ gb404); have GE404 := A_ (ge_ hg bB_ : w.heap.size ≤ gb404); replace HB := A_ (below_step bB_ hb); clear hb hbox hg; obtain ⟨hcz27_0, hcz27_1, hcz27_2, hfz27_0, hfz27_1, hfz27_2⟩ := cz3_ BK404.out) | ((with_reducible refine gc_ (f := 29) rfl ?_); refine gL_ (some 13) Tryd.func29 #[.int .i64 a0_1] ?_; (with_reducible refine (spec_NumText.calls k a0_1 t406 _ A23.out).mono ?_); rintro e w28 ⟨rfl, hb⟩; refine ⟨_, rfl, ?_⟩; replace BK404 := A_ (bw_ BK404.out hb); replace HB := A_ (below_step (bG_ GE404.out) hb); (try clear hb)))
   go_ret
   exact ⟨rr_, bG_ GE404.out⟩
def spec_l7At.f (a0 : ByteArray) (a1 : Int) (a2 : ByteArray) : Option (Bool) := if (wrap64 (a1 + (a2.size : Int))) ≤ (a0.size : Int) then (if 0 ≤ a1 then (if a1 ≤ (wrap64 (a1 + (a2.size : Int))) then (some ((a0.extract (a1 : Int).toNat ((wrap64 (a1 + (a2.size : Int))) : Int).toNat).toList == a2.toList)) else (none)) else (none)) else (some false)
theorem spec_l7At.calls (a0 : ByteArray) (a1 : Int) (a2 : ByteArray) (r : Bool) (w : World) (h : spec_l7At.f a0 a1 a2 = some r) :
 Calls Tryd.prog 102 #[.string a0, .int .i64 a1, .string a2] w fun e w' => e = .returned (.bool r) ∧ Drawn0 w w' := by
 have H : (if (wrap64 (a1 + (a2.size : Int))) ≤ (a0.size : Int) then (if 0 ≤ a1 then (if a1 ≤ (wrap64 (a1 + (a2.size : Int))) then (some ((a0.extract (a1 : Int).toNat ((wrap64 (a1 + (a2.size : Int))) : Int).toNat).toList == a2.toList)) else (none)) else (none)) else (some false)) = some r := h
 clear h
 by_cases c4 : (wrap64 (a1 + (a2.size : Int))) ≤ (a0.size : Int)
 rotate_left
 · rw [if_neg c4] at H
   have c4b0 : decide ((wrap64 (a1 + (a2.size : Int))) ≤ (a0.size : Int)) = false := decide_eq_false c4
   clear c4
   obtain rfl := si_ H
   go_enter Tryd.func102, Tryd.ntmps102
   go_wp2
   go_ret
   exact ⟨rs_, dr_⟩
 rw [if_pos c4] at H
 have c4b0 : decide ((wrap64 (a1 + (a2.size : Int))) ≤ (a0.size : Int)) = true := decide_eq_true c4
 clear c4
 by_cases c5 : 0 ≤ a1
 rotate_left
 · exact absurd H (by rw [if_neg c5]; simp)
 rw [if_pos c5] at H
 have c5b0 := eq_true c5
 have c5b1 : decide (0 ≤ a1) = true := decide_eq_true c5
 clear c5
 by_cases c6 : a1 ≤ (wrap64 (a1 + (a2.size : Int)))
 rotate_left
 · exact absurd H (by rw [if_neg c6]; simp)
 rw [if_pos c6] at H
 have c6b0 := eq_true c6
 have c6b1 : decide (a1 ≤ (wrap64 (a1 + (a2.size : Int)))) = true := decide_eq_true c6
 have c7b0 := eq_true (od_ : (wrap64 (a1 + (a2.size : Int))) ≤ (a0.size : Int))
 obtain rfl := si_ H
 go_enter Tryd.func102, Tryd.ntmps102
 go_wp2
 go_ret
 exact ⟨rs_, dr_⟩
def IsS106 (w0 W : World) (g : Nat) (f0 : ByteArray) (f1 : Int) (f2 : Bool) : Prop := W.heap[g]? = some (.cells #[.string f0, .int .i64 f1, .bool f2] 106 (0, 0)) ∧ w0.heap.size ≤ g
theorem IsS106.grown {w0 W : World} {g : Nat} {f0 : ByteArray} {f1 : Int} {f2 : Bool} {W1 : World} {row : Option Nat} (h : IsS106 w0 W g f0 f1 f2) (hw : W.grownBy W1 row) (hne : some g ≠ row) : IsS106 w0 W1 g f0 f1 f2 := by
 obtain ⟨hb, hg⟩ := h
 exact ⟨blk_grown hb hw hne, hg⟩
theorem IsS106.kept {w0 W : World} {g : Nat} {f0 : ByteArray} {f1 : Int} {f2 : Bool} {W1 : World} {S : Nat → Prop} (h : IsS106 w0 W g f0 f1 f2) (hk : Kept W W1 S) (hne : ¬ S g) : IsS106 w0 W1 g f0 f1 f2 := by
 obtain ⟨hb, hg⟩ := h
 exact ⟨blk_kept hb hk hne, hg⟩
theorem IsS106.below {w0 W : World} {g : Nat} {f0 : ByteArray} {f1 : Int} {f2 : Bool} {W1 : World} (h : IsS106 w0 W g f0 f1 f2) (hw : Below W.heap.size W W1) : IsS106 w0 W1 g f0 f1 f2 := h.grown (grown_of_below hw none) (by simp)
theorem IsS106.alloc {w0 W : World} {g : Nat} {f0 : ByteArray} {f1 : Int} {f2 : Bool} (h : IsS106 w0 W g f0 f1 f2) (o : Obj) : IsS106 w0 (W.alloc o) g f0 f1 f2 := h.below (below_alloc (Below.refl _ _) o)
theorem IsS106.drewN {w0 W : World} {g : Nat} {f0 : ByteArray} {f1 : Int} {f2 : Bool} (h : IsS106 w0 W g f0 f1 f2) (m : Nat) : IsS106 w0 (W.drewN m) g f0 f1 f2 := h
theorem IsS106.drew {w0 W : World} {g : Nat} {f0 : ByteArray} {f1 : Int} {f2 : Bool} (h : IsS106 w0 W g f0 f1 f2) : IsS106 w0 W.drew g f0 f1 f2 := h
theorem IsS106.apart {w0 W : World} {g : Nat} {f0 : ByteArray} {f1 : Int} {f2 : Bool} {α : Type} {d : Kd α} {e : Nat} {base : Nat} {ok : Nat → Prop} {v : Value} {xs : List α} (h : IsS106 w0 W g f0 f1 f2) (ho : d.R e W base ok v xs) (ht : ∀ q, q ∈ e :: d.E → q ≠ 106) : d.R e W base (fun k => ok k ∧ k ≠ g) v xs := by
 obtain ⟨hb, hg⟩ := h
 exact Kd.R_types ho hb ht
theorem IsS106.own_ne {w0 W : World} {g : Nat} {f0 : ByteArray} {f1 : Int} {f2 : Bool} {α : Type} {d : Kd α} {e : Nat} {base : Nat} {ok : Nat → Prop} {v : Value} {xs : List α} (h : IsS106 w0 W g f0 f1 f2) (ho : d.R e W base ok v xs) (ht : e ≠ 106) : some g ≠ v.ownBlock := by
 obtain ⟨hb, hg⟩ := h
 exact Kd.R_ne ho hb ht
theorem IsS106.apartS {w0 W : World} {g : Nat} {f0 : ByteArray} {f1 : Int} {f2 : Bool} {α : Type} {d : Kd α} {e : Nat} {base : Nat} {ok : Nat → Prop} {v : Value} {xs : List α} (h : IsS106 w0 W g f0 f1 f2) (ho : d.S e W base ok v xs) (ht : ∀ q, q ∈ e :: d.E → q ≠ 106) : d.S e W base (fun k => ok k ∧ k ≠ g) v xs := by
 obtain ⟨hb, hg⟩ := h
 exact Kd.S_types ho hb ht
theorem IsS106.own_neS {w0 W : World} {g : Nat} {f0 : ByteArray} {f1 : Int} {f2 : Bool} {α : Type} {d : Kd α} {e : Nat} {base : Nat} {ok : Nat → Prop} {v : Value} {xs : List α} (h : IsS106 w0 W g f0 f1 f2) (ho : d.S e W base ok v xs) (ht : e ≠ 106) : some g ≠ v.ownBlock := by
 obtain ⟨hb, hg⟩ := h
 exact Kd.S_ne ho hb ht
theorem IsS106.lt {w0 W : World} {g : Nat} {f0 : ByteArray} {f1 : Int} {f2 : Bool} (h : IsS106 w0 W g f0 f1 f2) : g < W.heap.size := by
 obtain ⟨hb, hg⟩ := h
 exact blk_lt hb
theorem IsS106.ge {w0 W : World} {g : Nat} {f0 : ByteArray} {f1 : Int} {f2 : Bool} (h : IsS106 w0 W g f0 f1 f2) : w0.heap.size ≤ g := by
 obtain ⟨hb, hg⟩ := h
 exact hg
theorem IsS106.far {w0 W : World} {g : Nat} {f0 : ByteArray} {f1 : Int} {f2 : Bool} {p : Addr} (h : IsS106 w0 W g f0 f1 f2) (hne : g ≠ p.block) (u : Value) : IsS106 w0 (W.setCell p u) g f0 f1 f2 := by
 obtain ⟨hb, hg⟩ := h
 exact ⟨blk_far hb hne u, hg⟩
theorem cellS106_0 {W : World} {g : Nat} {f0 : ByteArray} {f1 : Int} {f2 : Bool} (h : W.heap[g]? = some (.cells #[.string f0, .int .i64 f1, .bool f2] 106 (0, 0))) : W.cell? ⟨g, 0, none⟩ = some (.string f0) := (blk_cell h 0).trans rfl
theorem IsS106.set_0 {w0 W : World} {g : Nat} {f0 : ByteArray} {f1 : Int} {f2 : Bool} (h : IsS106 w0 W g f0 f1 f2) (x : ByteArray) : IsS106 w0 (W.setCell ⟨g, 0, none⟩ (.string x)) g x f1 f2 := by
 obtain ⟨hb, hg⟩ := h
 exact ⟨by simpa using blk_set hb 0 (.string x), hg⟩
theorem cellS106_1 {W : World} {g : Nat} {f0 : ByteArray} {f1 : Int} {f2 : Bool} (h : W.heap[g]? = some (.cells #[.string f0, .int .i64 f1, .bool f2] 106 (0, 0))) : W.cell? ⟨g, 1, none⟩ = some (.int .i64 f1) := (blk_cell h 1).trans rfl
theorem IsS106.set_1 {w0 W : World} {g : Nat} {f0 : ByteArray} {f1 : Int} {f2 : Bool} (h : IsS106 w0 W g f0 f1 f2) (x : Int) : IsS106 w0 (W.setCell ⟨g, 1, none⟩ (.int .i64 x)) g f0 x f2 := by
 obtain ⟨hb, hg⟩ := h
 exact ⟨by simpa using blk_set hb 1 (.int .i64 x), hg⟩
theorem cellS106_2 {W : World} {g : Nat} {f0 : ByteArray} {f1 : Int} {f2 : Bool} (h : W.heap[g]? = some (.cells #[.string f0, .int .i64 f1, .bool f2] 106 (0, 0))) : W.cell? ⟨g, 2, none⟩ = some (.bool f2) := (blk_cell h 2).trans rfl
theorem IsS106.set_2 {w0 W : World} {g : Nat} {f0 : ByteArray} {f1 : Int} {f2 : Bool} (h : IsS106 w0 W g f0 f1 f2) (x : Bool) : IsS106 w0 (W.setCell ⟨g, 2, none⟩ (.bool x)) g f0 f1 x := by
 obtain ⟨hb, hg⟩ := h
 exact ⟨by simpa using blk_set hb 2 (.bool x), hg⟩
theorem IsS106.new (w0 W : World) (f0 : ByteArray) (f1 : Int) (f2 : Bool) (hB : Below w0.heap.size w0 W) : IsS106 w0 (W.alloc (.cells #[.string f0, .int .i64 f1, .bool f2] 106)) W.heap.size f0 f1 f2 := ⟨by simpa using heap_alloc_new W _, hB.size⟩
def spec_l14Is.f (s0_0 : ByteArray) (s0_1 : Int) (s0_2 : Bool) (a1 : ByteArray) : Option (Bool × ByteArray × Int × Bool) := if s0_2 = true then (some (false, s0_0, s0_1, s0_2)) else ((spec_l7At.f s0_0 s0_1 a1).bind fun t407 => (if t407 = true then (some (true, s0_0, wrap64 (s0_1 + (a1.size : Int)), s0_2)) else (some (false, s0_0, s0_1, s0_2))))
theorem spec_l14Is.calls (g : Nat) (s0_0 : ByteArray) (s0_1 : Int) (s0_2 : Bool) (a1 : ByteArray) (r1 : Bool) (r2 : ByteArray) (r3 : Int) (r4 : Bool) (w0 w : World) (hI : IsS106 w0 w g s0_0 s0_1 s0_2) (hB : Below w0.heap.size w0 w) (h : spec_l14Is.f s0_0 s0_1 s0_2 a1 = some (r1, r2, r3, r4)) :
 Calls Tryd.prog 76 #[.pointer (some ⟨g, 0, none⟩), .string a1] w fun e w' => e = .returned (.bool r1) ∧ IsS106 w0 w' g r2 r3 r4 ∧ Below w0.heap.size w0 w' ∧ KeepBut w w' g none := by
 have HI0 := A_ hI
 have HK := A_ (KeepBut.refl w g none)
 have HL := A_ hB.size
 clear hI
 have HW0 := A_ hB.size
 have HB := A_ hB
 clear hB
 have H : (if s0_2 = true then (some (false, s0_0, s0_1, s0_2)) else ((spec_l7At.f s0_0 s0_1 a1).bind fun t407 => (if t407 = true then (some (true, s0_0, wrap64 (s0_1 + (a1.size : Int)), s0_2)) else (some (false, s0_0, s0_1, s0_2))))) = some (r1, r2, r3, r4) := h
 clear h
 by_cases c3 : s0_2 = true
 · subst c3
   rw [if_pos rfl] at H
   simp only [Option.some.injEq, Prod.mk.injEq] at H
   obtain ⟨rfl, rfl, rfl, rfl⟩ := H
   obtain ⟨HGz4, hgz4⟩ := HI0.out
   have hcz4_0 := cellS106_0 HGz4
   have hcz4_1 := cellS106_1 HGz4
   have hcz4_2 := cellS106_2 HGz4
   have hfz4_0 := blk_frozen HGz4 0
   have hfz4_1 := blk_frozen HGz4 1
   have hfz4_2 := blk_frozen HGz4 2
   clear HGz4 hgz4
   go_enter Tryd.func76, Tryd.ntmps76
   go_wp2
   repeat (go_quiet (fail); try go_wp2)
   go_ret
   exact ⟨rr_, bIQx141_, bIQx140_, bK_⟩
 · replace c3 := Bool.eq_false_iff.mpr c3
   subst c3
   rw [if_neg nf_] at H
   obtain ⟨t407, A5, H⟩ := bo_ H
   (try dsimp only at H)
   by_cases c6 : t407 = true
   · subst c6
     rw [if_pos rfl] at H
     simp only [Option.some.injEq, Prod.mk.injEq] at H
     obtain ⟨rfl, rfl, rfl, rfl⟩ := H
     obtain ⟨HGz7, hgz7⟩ := HI0.out
     have hcz7_0 := cellS106_0 HGz7
     have hcz7_1 := cellS106_1 HGz7
     have hcz7_2 := cellS106_2 HGz7
     have hfz7_0 := blk_frozen HGz7 0
     have hfz7_1 := blk_frozen HGz7 1
     have hfz7_2 := blk_frozen HGz7 2
     clear HGz7 hgz7
     go_enter Tryd.func76, Tryd.ntmps76
     go_wp2_with (first | (go_at_call 102; (with_reducible refine (spec_l7At.calls s0_0 s0_1 a1 true _ A5.out).mono ?_); rintro e w' ⟨rfl, ⟨nd, rfl⟩⟩; (try first | exact ⟨rfl, _, World.drewN_drewN _ _ _⟩ | exact ⟨rfl, _, Eq.trans (World.drewN_drewN _ _ _) (congrArg (World.drewN _) (Nat.add_assoc _ _ _))⟩)))
     repeat (go_quiet (first | (go_at_call 102; (with_reducible refine (spec_l7At.calls s0_0 s0_1 a1 true _ A5.out).mono ?_); rintro e w' ⟨rfl, ⟨nd, rfl⟩⟩; (try first | exact ⟨rfl, _, World.drewN_drewN _ _ _⟩ | exact ⟨rfl, _, Eq.trans (World.drewN_drewN _ _ _) (congrArg (World.drewN _) (Nat.add_assoc _ _ _))⟩))); try go_wp2_with (first | (go_at_call 102; (with_reducible refine (spec_l7At.calls s0_0 s0_1 a1 true _ A5.out).mono ?_); rintro e w' ⟨rfl, ⟨nd, rfl⟩⟩; (try first | exact ⟨rfl, _, World.drewN_drewN _ _ _⟩ | exact ⟨rfl, _, Eq.trans (World.drewN_drewN _ _ _) (congrArg (World.drewN _) (Nat.add_assoc _ _ _))⟩))))
     go_ret
     exact ⟨rr_, bIQx141_, bIQx140_, bK_⟩
   · replace c6 := Bool.eq_false_iff.mpr c6
     subst c6
     rw [if_neg nf_] at H
     simp only [Option.some.injEq, Prod.mk.injEq] at H
     obtain ⟨rfl, rfl, rfl, rfl⟩ := H
     obtain ⟨HGz8, hgz8⟩ := HI0.out
     have hcz8_0 := cellS106_0 HGz8
     have hcz8_1 := cellS106_1 HGz8
     have hcz8_2 := cellS106_2 HGz8
     have hfz8_0 := blk_frozen HGz8 0
     have hfz8_1 := blk_frozen HGz8 1
     have hfz8_2 := blk_frozen HGz8 2
     clear HGz8 hgz8
     go_enter Tryd.func76, Tryd.ntmps76
     go_wp2_with (first | (go_at_call 102; (with_reducible refine (spec_l7At.calls s0_0 s0_1 a1 false _ A5.out).mono ?_); rintro e w' ⟨rfl, ⟨nd, rfl⟩⟩; (try first | exact ⟨rfl, _, World.drewN_drewN _ _ _⟩ | exact ⟨rfl, _, Eq.trans (World.drewN_drewN _ _ _) (congrArg (World.drewN _) (Nat.add_assoc _ _ _))⟩)))
     repeat (go_quiet (first | (go_at_call 102; (with_reducible refine (spec_l7At.calls s0_0 s0_1 a1 false _ A5.out).mono ?_); rintro e w' ⟨rfl, ⟨nd, rfl⟩⟩; (try first | exact ⟨rfl, _, World.drewN_drewN _ _ _⟩ | exact ⟨rfl, _, Eq.trans (World.drewN_drewN _ _ _) (congrArg (World.drewN _) (Nat.add_assoc _ _ _))⟩))); try go_wp2_with (first | (go_at_call 102; (with_reducible refine (spec_l7At.calls s0_0 s0_1 a1 false _ A5.out).mono ?_); rintro e w' ⟨rfl, ⟨nd, rfl⟩⟩; (try first | exact ⟨rfl, _, World.drewN_drewN _ _ _⟩ | exact ⟨rfl, _, Eq.trans (World.drewN_drewN _ _ _) (congrArg (World.drewN _) (Nat.add_assoc _ _ _))⟩))))
     go_ret
     exact ⟨rr_, bIQx141_, bIQx140_, bK_⟩
def spec_l14Must.f (s0_0 : ByteArray) (s0_1 : Int) (s0_2 : Bool) (a1 : ByteArray) : Option (ByteArray × Int × Bool) := (spec_l14Is.f s0_0 s0_1 s0_2 a1).bind fun bt408 => (if bt408.1 = true then (some (bt408.2.1, bt408.2.2.1, bt408.2.2.2)) else (some (bt408.2.1, bt408.2.2.1, true)))
theorem spec_l14Must.calls (g : Nat) (s0_0 : ByteArray) (s0_1 : Int) (s0_2 : Bool) (a1 : ByteArray) (r1 : ByteArray) (r2 : Int) (r3 : Bool) (w0 w : World) (hI : IsS106 w0 w g s0_0 s0_1 s0_2) (hB : Below w0.heap.size w0 w) (h : spec_l14Must.f s0_0 s0_1 s0_2 a1 = some (r1, r2, r3)) :
 Calls Tryd.prog 100 #[.pointer (some ⟨g, 0, none⟩), .string a1] w fun e w' => e = .returned (.tuple #[]) ∧ IsS106 w0 w' g r1 r2 r3 ∧ Below w0.heap.size w0 w' ∧ KeepBut w w' g none := by
 have HI0 := A_ hI
 have HK := A_ (KeepBut.refl w g none)
 have HL := A_ hB.size
 clear hI
 have HW0 := A_ hB.size
 have HB := A_ hB
 clear hB
 have H : ((spec_l14Is.f s0_0 s0_1 s0_2 a1).bind fun bt408 => (if bt408.1 = true then (some (bt408.2.1, bt408.2.2.1, bt408.2.2.2)) else (some (bt408.2.1, bt408.2.2.1, true)))) = some (r1, r2, r3) := h
 clear h
 obtain ⟨⟨t408, t409, t410, t411⟩, A3, H⟩ := bo_ H
 (try dsimp only at H)
 by_cases c4 : t408 = true
 · subst c4
   rw [if_pos rfl] at H
   simp only [Option.some.injEq, Prod.mk.injEq] at H
   obtain ⟨rfl, rfl, rfl⟩ := H
   go_enter Tryd.func100, Tryd.ntmps100
   go_wp2_with (first | ((with_reducible refine gc_ (f := 76) rfl ?_); refine gL_ (some 6) Tryd.func76 #[.pointer (some ⟨g, 0, none⟩), .string a1] ?_; (with_reducible refine (spec_l14Is.calls g s0_0 s0_1 s0_2 a1 true t409 t410 t411 w0 _ ?s1 ?s2 A3.out).mono ?_); (case s1 => exact bIQx141_); (case s2 => exact bIQx140_); rintro e w5 ⟨rfl, hi, hb, hk⟩; refine ⟨_, rfl, ?_⟩; replace HK := A_ (KeepBut.trans bK_ hk (.inl rfl)); replace HB := A_ (hb); replace HI0 := A_ (hi); (try clear hb); (try clear hk); (try clear hi)))
   first | go_end0 | ((try simp only [Exit.inBlock, Exit.then]); refine bodyPost_ret (results_none rfl _ _ _) rfl ?_)
   exact ⟨rr_, bIQx141_, bIQx140_, bK_⟩
 · replace c4 := Bool.eq_false_iff.mpr c4
   subst c4
   rw [if_neg nf_] at H
   simp only [Option.some.injEq, Prod.mk.injEq] at H
   obtain ⟨rfl, rfl, rfl⟩ := H
   go_enter Tryd.func100, Tryd.ntmps100
   go_wp2_with (first | ((with_reducible refine gc_ (f := 76) rfl ?_); refine gL_ (some 6) Tryd.func76 #[.pointer (some ⟨g, 0, none⟩), .string a1] ?_; (with_reducible refine (spec_l14Is.calls g s0_0 s0_1 s0_2 a1 false t409 t410 t411 w0 _ ?s1 ?s2 A3.out).mono ?_); (case s1 => exact bIQx141_); (case s2 => exact bIQx140_); rintro e w6 ⟨rfl, hi, hb, hk⟩; refine ⟨_, rfl, ?_⟩; replace HK := A_ (KeepBut.trans bK_ hk (.inl rfl)); replace HB := A_ (hb); replace HI0 := A_ (hi); (try clear hb); (try clear hk); (try clear hi); obtain ⟨HGz7, hgz7⟩ := HI0.out; have hcz7_0 := cellS106_0 HGz7; have hcz7_1 := cellS106_1 HGz7; have hcz7_2 := cellS106_2 HGz7; have hfz7_0 := blk_frozen HGz7 0; have hfz7_1 := blk_frozen HGz7 1; have hfz7_2 := blk_frozen HGz7 2; clear HGz7 hgz7))
   first | go_end0 | ((try simp only [Exit.inBlock, Exit.then]); refine bodyPost_ret (results_none rfl _ _ _) rfl ?_)
   exact ⟨rr_, bIQx141_, bIQx140_, bK_⟩
def spec_l1Digit.f (a0 : Int) : Option (Bool) := (spec_l1In.f (wrap64 (a0)) 48 57).bind fun t412 => (some t412)
theorem spec_l1Digit.calls (a0 : Int) (r : Bool) (w : World) (h : spec_l1Digit.f a0 = some r) :
 Calls Tryd.prog 132 #[.int .u8 a0] w fun e w' => e = .returned (.bool r) ∧ Drawn0 w w' := by
 have H : ((spec_l1In.f (wrap64 (a0)) 48 57).bind fun t412 => (some t412)) = some r := h
 clear h
 obtain ⟨t412, A2, H⟩ := bo_ H
 (try dsimp only at H)
 obtain rfl := si_ H
 go_enter Tryd.func132, Tryd.ntmps132
 go_wp2_with (first | ((with_reducible refine gc_ (f := 86) rfl ?_); refine gL_ (some 5) Tryd.func86 #[.int .i64 (wrap64 (a0)), .int .i64 48, .int .i64 57] ?_; (with_reducible refine (spec_l1In.calls (wrap64 (a0)) 48 57 t412 _ A2.out).mono ?_); rintro e w' ⟨rfl, ⟨nd, rfl⟩⟩; refine ⟨_, rfl, ?_⟩))
 go_ret
 exact ⟨rs_, dr_⟩
theorem eqA79 (d : Nat) (w : World) (x0 y0 : Bool) (x1 y1 : Int) (x2 y2 : ByteArray) :
    (Op.equalIn (d + 2) 79 (.agg #[.bool x0, .int .i64 x1, .string x2]) (.agg #[.bool y0, .int .i64 y1, .string y2])).run Tryd.prog w = .ok (x0 == y0 && (x1 == y1 && (x2.toList == y2.toList))) w := by
  refine eqA_of Tryd.underlying79 (by kernel_rfl) ?_
  refine eqf_cons (by rfl) (by go_simp; rfl) (by go_simp; rfl) (by go_simp) ?_
  refine eqf_cons (by rfl) (by go_simp; rfl) (by go_simp; rfl) (by go_simp) ?_
  exact eqf_last (by rfl) (by go_simp; rfl) (by go_simp; rfl) (by go_simp)
end Go.Proofs.YtigoeooelfeopaaDoor.Q
