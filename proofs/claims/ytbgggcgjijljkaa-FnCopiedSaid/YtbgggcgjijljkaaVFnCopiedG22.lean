import Derived.Test.YtbgggcgjijljkaaProg
import Derived.Below
import Derived.Deep.Draws
import Derived.Deep.AppendLies
import Derived.Maps.AppendAt
import Derived.OwnWalk
import Derived.Laws.BytesArg
import Derived.Laws.MakeOwn
import Derived.Laws.OwnMore
import Derived.Deep.OwnRows
import Derived.Tactics
import Derived.Lib.ConvBytes
import Derived.Laws.Slices
import Derived.WalkKit
import Derived.KernelRfl
import Derived.RowKit3
import Derived.Deep.LoopGhost
import Derived.Deep.QuietTactic
import Derived.BigQuiet
import Derived.WideLaws
import Derived.Deep.DeepCutAuto
import Derived.Deep.CutBlock
import Derived.Deep.RegionHeld3
import Derived.Laws.Rows
import Derived.Lib.AppendStr
import Derived.ArgAppend
import Derived.Laws.IdiomCopy
import Derived.OrdersHeld
import Derived.Laws.BitsLemmas
import Derived.RowKit
import Derived.Test.YtbgggcgjijljkaaVFnCopiedG12
import Derived.Test.YtbgggcgjijljkaaVFnCopiedWFour
import Derived.Test.YtbgggcgjijljkaaVFnCopiedWAt
import Derived.Test.YtbgggcgjijljkaaVFnCopiedWEqStruct
import Derived.Test.YtbgggcgjijljkaaVFnCopiedWRepsOne
import Derived.Test.YtbgggcgjijljkaaVFnCopiedWInvWords
import Derived.Test.YtbgggcgjijljkaaVFnCopiedWGuard
namespace Go.Proofs.Ytbgggcgjijljkaa.Q
open Go.RowKit Go.Proofs.YtbgggcgjijljkaaW.PrintWords Go.Proofs.YtbgggcgjijljkaaW.PrintLast Go.Proofs.YtbgggcgjijljkaaW.PrintMore
attribute [local go_sem] max2_int min2_int max_two min_two max_three min_three max_four min_four
set_option linter.unusedVariables false
set_option linter.unusedSimpArgs false
def errW : Option Int -> Value
  | none => .nilIface
  | some c => .iface 0 (.int .i64 c)
theorem errW_none : errW none = .nilIface := rfl
theorem errW_some (c : Int) : errW (some c) = .iface 0 (.int .i64 c) := rfl
theorem C_len_cast {α : Type} {d : Kd α} {w : World} {A : Option Addr} {n m : Nat} {xs : List α} (e : n = m) (h : d.C w A n xs) : d.C w A m xs := e ▸ h
theorem info9 : (Try.prog.info? 9).map (fun i => (i.zero, i.size, i.bytes)) = some (some (.string ⟨#[]⟩), 1, 16) := by kernel_rfl
theorem info57 : (Try.prog.info? 57).map (fun i => (i.zero, i.size, i.bytes)) = some (some (.agg #[(.slice none 0 0), (.bool false), (.string ⟨#[]⟩), (.int .i64 0), (.slice none 0 0)]), 5, 80) := by kernel_rfl
theorem info72 : (Try.prog.info? 72).map (fun i => (i.zero, i.size, i.bytes)) = some (some (.agg #[(.string ⟨#[]⟩), (.string ⟨#[]⟩), (.string ⟨#[]⟩)]), 3, 48) := by kernel_rfl
structure S88 where
  f0 : ByteArray
  f1 : ByteArray
  f2 : ByteArray
def z88 : S88 := ⟨(⟨#[]⟩ : ByteArray), (⟨#[]⟩ : ByteArray), (⟨#[]⟩ : ByteArray)⟩
def rd_L2 (xs : List (List ByteArray)) (i : Int) : (List ByteArray) := xs.getD i.toNat ([] : List ByteArray)
theorem at_L2 {w : World} {A : Option Addr} {n : Nat} {xs : List (List ByteArray)} (h : Kd.C (Kd.slice 9 Kd.string) w A n xs) (i : Int) (h0 : 0 <= i) (h1 : i < n) : ∃ ad A0 c0, A = some ad /\ w.cell? (ad.add i.toNat) = some (.slice A0 (rd_L2 xs i).length c0) /\ (rd_L2 xs i).length <= c0 /\ Kd.string.C w A0 (rd_L2 xs i).length (rd_L2 xs i) := by
  obtain ⟨ad, c, e, _, hK, hc0⟩ := Kd.C_get h ([] : List ByteArray) i h0 h1
  have hc : ∀ j u, c[j]? = some u -> w.cell? (ad.add (i.toNat * 1 + j)) = some u := hc0
  obtain ⟨A0, c0, rfl, l0, g0⟩ := hK
  exact ⟨ad, A0, c0, e, by have hq := hc 0 _ rfl; rwa [Nat.mul_one, Nat.add_zero] at hq, l0, g0⟩
structure S79 where
  f0 : (List ByteArray)
  f1 : Bool
  f2 : ByteArray
  f3 : Int
  f4 : (List S88)
def z79 : S79 := ⟨([] : List ByteArray), false, (⟨#[]⟩ : ByteArray), (0 : Int), ([] : List S88)⟩
structure S72 where
  f0 : ByteArray
  f1 : ByteArray
  f2 : ByteArray
def z72 : S72 := ⟨(⟨#[]⟩ : ByteArray), (⟨#[]⟩ : ByteArray), (⟨#[]⟩ : ByteArray)⟩
def k72 : Kd S72 := Kd.iso (Kd.pair Kd.string (Kd.pair Kd.string Kd.string)) (fun x : S72 => (x.f0, x.f1, x.f2))
theorem k72_open {w : World} {x : S72} {cs : List Value} (h : k72.K w x cs) : cs = [.string x.f0, .string x.f1, .string x.f2] := by
  obtain ⟨_, _, rfl, rfl, ⟨_, _, rfl, rfl, rfl⟩⟩ := h
  exact rfl
theorem k72_mkM (w : World) (base : Nat) (ok : Nat -> Prop) (x : S72)  : k72.M w base ok x [.string x.f0, .string x.f1, .string x.f2] := ⟨[.string x.f0], [.string x.f1, .string x.f2], rfl, rfl, ⟨[.string x.f1], [.string x.f2], rfl, rfl, rfl⟩⟩
def rd_T72 (xs : List S72) (i : Int) : S72 := xs.getD i.toNat z72
theorem at_T72 {w : World} {A : Option Addr} {n : Nat} {xs : List S72} (h : Kd.C k72 w A n xs) (i : Int) (h0 : 0 <= i) (h1 : i < n) : ∃ ad , A = some ad /\ w.cell? (ad.add (i.toNat * 3)) = some (.string (rd_T72 xs i).f0) /\ w.cell? ⟨(ad.add (i.toNat * 3)).block, (ad.add (i.toNat * 3)).off + 1, none⟩ = some (.string (rd_T72 xs i).f1) /\ w.cell? ⟨(ad.add (i.toNat * 3)).block, (ad.add (i.toNat * 3)).off + 2, none⟩ = some (.string (rd_T72 xs i).f2) := by
  obtain ⟨ad, c, e, _, hK, hc0⟩ := Kd.C_get h z72 i h0 h1
  have hc : ∀ j u, c[j]? = some u -> w.cell? (ad.add (i.toNat * 3 + j)) = some u := hc0
  obtain rfl := k72_open hK
  exact ⟨ad, e, hc 0 _ rfl, by rw [← add_field _ _ 1 (by omega)]; exact hc 1 _ rfl, by rw [← add_field _ _ 2 (by omega)]; exact hc 2 _ rfl⟩
structure S57 where
  f0 : (List ByteArray)
  f1 : Bool
  f2 : ByteArray
  f3 : Int
  f4 : (List S72)
def z57 : S57 := ⟨([] : List ByteArray), false, (⟨#[]⟩ : ByteArray), (0 : Int), ([] : List S72)⟩
def k57 : Kd S57 := Kd.iso (Kd.pair (Kd.slice 9 Kd.string) (Kd.pair Kd.bool (Kd.pair Kd.string (Kd.pair (Kd.int .i64) (Kd.slice 72 k72))))) (fun x : S57 => (x.f0, x.f1, x.f2, x.f3, x.f4))
theorem k57_open {w : World} {x : S57} {cs : List Value} (h : k57.K w x cs) : ∃ A0 c0 A4 c4, cs = [.slice A0 x.f0.length c0, .bool x.f1, .string x.f2, .int .i64 x.f3, .slice A4 x.f4.length c4] /\ x.f0.length <= c0 /\ Kd.string.C w A0 x.f0.length x.f0 /\ x.f4.length <= c4 /\ k72.C w A4 x.f4.length x.f4 := by
  obtain ⟨_, _, rfl, ⟨A0, c0, rfl, l0, g0⟩, ⟨_, _, rfl, rfl, ⟨_, _, rfl, rfl, ⟨_, _, rfl, rfl, ⟨A4, c4, rfl, l4, g4⟩⟩⟩⟩⟩ := h
  exact ⟨A0, c0, A4, c4, rfl, l0, g0, l4, g4⟩
theorem k57_openM {w : World} {base : Nat} {ok : Nat -> Prop} {x : S57} {cs : List Value} (h : k57.M w base ok x cs) : ∃ v0 v4, cs = [v0, .bool x.f1, .string x.f2, .int .i64 x.f3, v4] /\ Kd.string.R 9 w base ok v0 x.f0 /\ k72.R 72 w base ok v4 x.f4 := by
  obtain ⟨_, _, rfl, ⟨v0, rfl, g0⟩, ⟨_, _, rfl, rfl, ⟨_, _, rfl, rfl, ⟨_, _, rfl, rfl, ⟨v4, rfl, g4⟩⟩⟩⟩⟩ := h
  exact ⟨v0, v4, rfl, g0, g4⟩
theorem k57_mk (w : World) (x : S57) {A0 : Option Addr} {c0 : Nat} (l0 : x.f0.length <= c0) (g0 : Kd.string.C w A0 x.f0.length x.f0) {A4 : Option Addr} {c4 : Nat} (l4 : x.f4.length <= c4) (g4 : k72.C w A4 x.f4.length x.f4) : k57.K w x [.slice A0 x.f0.length c0, .bool x.f1, .string x.f2, .int .i64 x.f3, .slice A4 x.f4.length c4] := ⟨[.slice A0 x.f0.length c0], [.bool x.f1, .string x.f2, .int .i64 x.f3, .slice A4 x.f4.length c4], rfl, ⟨A0, c0, rfl, l0, g0⟩, ⟨[.bool x.f1], [.string x.f2, .int .i64 x.f3, .slice A4 x.f4.length c4], rfl, rfl, ⟨[.string x.f2], [.int .i64 x.f3, .slice A4 x.f4.length c4], rfl, rfl, ⟨[.int .i64 x.f3], [.slice A4 x.f4.length c4], rfl, rfl, ⟨A4, c4, rfl, l4, g4⟩⟩⟩⟩⟩
theorem k57_mkM (w : World) (base : Nat) (ok : Nat -> Prop) (x : S57) {v0 : Value} (g0 : Kd.string.R 9 w base ok v0 x.f0) {v4 : Value} (g4 : k72.R 72 w base ok v4 x.f4) : k57.M w base ok x [v0, .bool x.f1, .string x.f2, .int .i64 x.f3, v4] := ⟨[v0], [.bool x.f1, .string x.f2, .int .i64 x.f3, v4], rfl, ⟨v0, rfl, g0⟩, ⟨[.bool x.f1], [.string x.f2, .int .i64 x.f3, v4], rfl, rfl, ⟨[.string x.f2], [.int .i64 x.f3, v4], rfl, rfl, ⟨[.int .i64 x.f3], [v4], rfl, rfl, ⟨v4, rfl, g4⟩⟩⟩⟩⟩
theorem k57_openF {W : World} {ok : Nat -> Prop} {x : S57} {cs : List Value} (h : Kd.FK k57 W ok x cs) : ∃ A0 c0 A4 c4, cs = [.slice A0 x.f0.length c0, .bool x.f1, .string x.f2, .int .i64 x.f3, .slice A4 x.f4.length c4] /\ x.f0.length <= c0 /\ Kd.F Kd.string W ok A0 x.f0.length x.f0 /\ x.f4.length <= c4 /\ Kd.F k72 W ok A4 x.f4.length x.f4 := by
  obtain ⟨A0, c0, A4, c4, rfl, l0, _, l4, _⟩ := k57_open (Kd.FK_now h)
  exact ⟨A0, c0, A4, c4, rfl, l0, (fun W' hW => by obtain ⟨A0_, c0_, A4_, c4_, he, l0_, g0_, l4_, g4_⟩ := k57_open (h W' hW); injection (Option.some.inj (show some (Value.slice A0 x.f0.length c0) = some (Value.slice A0_ x.f0.length c0_) from congrArg (fun l => l[0]?) he)) with ha_ _ _; rw [ha_]; exact g0_), l4, (fun W' hW => by obtain ⟨A0_, c0_, A4_, c4_, he, l0_, g0_, l4_, g4_⟩ := k57_open (h W' hW); injection (Option.some.inj (show some (Value.slice A4 x.f4.length c4) = some (Value.slice A4_ x.f4.length c4_) from congrArg (fun l => l[4]?) he)) with ha_ _ _; rw [ha_]; exact g4_)⟩
theorem k57_mkF (W : World) (ok : Nat -> Prop) (x : S57) {A0 : Option Addr} {c0 : Nat} (l0 : x.f0.length <= c0) (g0 : Kd.F Kd.string W ok A0 x.f0.length x.f0) {A4 : Option Addr} {c4 : Nat} (l4 : x.f4.length <= c4) (g4 : Kd.F k72 W ok A4 x.f4.length x.f4) : Kd.FK k57 W ok x [.slice A0 x.f0.length c0, .bool x.f1, .string x.f2, .int .i64 x.f3, .slice A4 x.f4.length c4] := fun W2 hW => k57_mk W2 x l0 (g0 W2 hW) l4 (g4 W2 hW)
def rd_T57 (xs : List S57) (i : Int) : S57 := xs.getD i.toNat z57
theorem at_T57 {w : World} {A : Option Addr} {n : Nat} {xs : List S57} (h : Kd.C k57 w A n xs) (i : Int) (h0 : 0 <= i) (h1 : i < n) : ∃ ad A0 c0 A4 c4, A = some ad /\ w.cell? (ad.add (i.toNat * 5)) = some (.slice A0 (rd_T57 xs i).f0.length c0) /\ w.cell? ⟨(ad.add (i.toNat * 5)).block, (ad.add (i.toNat * 5)).off + 1, none⟩ = some (.bool (rd_T57 xs i).f1) /\ w.cell? ⟨(ad.add (i.toNat * 5)).block, (ad.add (i.toNat * 5)).off + 2, none⟩ = some (.string (rd_T57 xs i).f2) /\ w.cell? ⟨(ad.add (i.toNat * 5)).block, (ad.add (i.toNat * 5)).off + 3, none⟩ = some (.int .i64 (rd_T57 xs i).f3) /\ w.cell? ⟨(ad.add (i.toNat * 5)).block, (ad.add (i.toNat * 5)).off + 4, none⟩ = some (.slice A4 (rd_T57 xs i).f4.length c4) /\ (rd_T57 xs i).f0.length <= c0 /\ Kd.string.C w A0 (rd_T57 xs i).f0.length (rd_T57 xs i).f0 /\ (rd_T57 xs i).f4.length <= c4 /\ k72.C w A4 (rd_T57 xs i).f4.length (rd_T57 xs i).f4 := by
  obtain ⟨ad, c, e, _, hK, hc0⟩ := Kd.C_get h z57 i h0 h1
  have hc : ∀ j u, c[j]? = some u -> w.cell? (ad.add (i.toNat * 5 + j)) = some u := hc0
  obtain ⟨A0, c0, A4, c4, rfl, l0, g0, l4, g4⟩ := k57_open hK
  exact ⟨ad, A0, c0, A4, c4, e, hc 0 _ rfl, by rw [← add_field _ _ 1 (by omega)]; exact hc 1 _ rfl, by rw [← add_field _ _ 2 (by omega)]; exact hc 2 _ rfl, by rw [← add_field _ _ 3 (by omega)]; exact hc 3 _ rfl, by rw [← add_field _ _ 4 (by omega)]; exact hc 4 _ rfl, l0, g0, l4, g4⟩
structure S90 where
  f0 : Bool
  f1 : S88
def z90 : S90 := ⟨false, z88⟩
structure S74 where
  f0 : Bool
  f1 : S72
def z74 : S74 := ⟨false, z72⟩
def k74 : Kd S74 := Kd.iso (Kd.pair Kd.bool k72) (fun x : S74 => (x.f0, x.f1))
theorem k74_open {w : World} {x : S74} {cs : List Value} (h : k74.K w x cs) : cs = [.bool x.f0, .string x.f1.f0, .string x.f1.f1, .string x.f1.f2] := by
  obtain ⟨_, _, rfl, rfl, s1⟩ := h
  obtain rfl := k72_open s1
  exact rfl
theorem k74_mkM (w : World) (base : Nat) (ok : Nat -> Prop) (x : S74)  : k74.M w base ok x [.bool x.f0, .string x.f1.f0, .string x.f1.f1, .string x.f1.f2] := ⟨[.bool x.f0], [.string x.f1.f0, .string x.f1.f1, .string x.f1.f2], rfl, rfl, (k72_mkM w base ok x.f1 )⟩
def rd_T74 (xs : List S74) (i : Int) : S74 := xs.getD i.toNat z74
theorem at_T74 {w : World} {A : Option Addr} {n : Nat} {xs : List S74} (h : Kd.C k74 w A n xs) (i : Int) (h0 : 0 <= i) (h1 : i < n) : ∃ ad , A = some ad /\ w.cell? (ad.add (i.toNat * 4)) = some (.bool (rd_T74 xs i).f0) /\ w.cell? ⟨(ad.add (i.toNat * 4)).block, (ad.add (i.toNat * 4)).off + 1, none⟩ = some (.string (rd_T74 xs i).f1.f0) /\ w.cell? ⟨(ad.add (i.toNat * 4)).block, (ad.add (i.toNat * 4)).off + 2, none⟩ = some (.string (rd_T74 xs i).f1.f1) /\ w.cell? ⟨(ad.add (i.toNat * 4)).block, (ad.add (i.toNat * 4)).off + 3, none⟩ = some (.string (rd_T74 xs i).f1.f2) := by
  obtain ⟨ad, c, e, _, hK, hc0⟩ := Kd.C_get h z74 i h0 h1
  have hc : ∀ j u, c[j]? = some u -> w.cell? (ad.add (i.toNat * 4 + j)) = some u := hc0
  obtain rfl := k74_open hK
  exact ⟨ad, e, hc 0 _ rfl, by rw [← add_field _ _ 1 (by omega)]; exact hc 1 _ rfl, by rw [← add_field _ _ 2 (by omega)]; exact hc 2 _ rfl, by rw [← add_field _ _ 3 (by omega)]; exact hc 3 _ rfl⟩
set_option maxHeartbeats 8000000
set_option maxRecDepth 100000
def spec_SamePath.l0 : Nat -> List ByteArray -> List ByteArray -> Int -> Option (Bool)
 | 0, _, _, _ => none
 | k + 1, x0, x1, x5 => if x5 < (x0.length : Int) then (if 0 <= x5 then (if x5 < (x1.length : Int) then (if (rdOf ByteArray.empty x0 x5).toList = (rdOf ByteArray.empty x1 x5).toList then (spec_SamePath.l0 k x0 x1 (wrap64 (x5 + 1))) else (some false)) else (none)) else (none)) else (some true)
def spec_SamePath.f (k : Nat) (l0 : List ByteArray) (l1 : List ByteArray) : Option (Bool) := if (l0.length : Int) = (l1.length : Int) then (spec_SamePath.l0 k l0 l1 0) else (some false)
theorem spec_SamePath.calls (k : Nat) (A0 : Option Addr) (c0 : Nat) (l0 : List ByteArray) (A1 : Option Addr) (c1 : Nat) (l1 : List ByteArray) (r : Bool) (w : World) (hr0 : Kd.C Kd.string w A0 l0.length l0) (hc0 : l0.length <= c0) (hr1 : Kd.C Kd.string w A1 l1.length l1) (hc1 : l1.length <= c1) (h : spec_SamePath.f k l0 l1 = some r) :
 Calls Try.prog 104 #[.slice A0 l0.length c0, .slice A1 l1.length c1] w fun e w' => e = .returned (.bool r) /\ Drawn0 w w' := by
 have HR0 := A_ hr0
 clear hr0 hc0
 have HR1 := A_ hr1
 clear hr1 hc1
 have H : (if (l0.length : Int) = (l1.length : Int) then (spec_SamePath.l0 k l0 l1 0) else (some false)) = some r := h
 clear h
 by_cases c3 : (l0.length : Int) = (l1.length : Int)
 rotate_left
 . rw [if_neg c3] at H
   obtain ⟨c3b0, c3b1⟩ := eF_ c3
   have c3b2 : (l0.length == l1.length) = false := by first | simpa using c3 | (simp at c3 ⊢; omega)
   obtain rfl := si_ H
   go_enter Try.func104, Try.ntmps104
   go_wp2
   repeat (go_quiet (fail); try go_wp2)
   go_ret
   exact ⟨rs_, dr_⟩
 rw [if_pos c3] at H
 obtain ⟨c3b0, c3b1⟩ := eT_ c3
 have c3b2 : (l0.length == l1.length) = true := by first | simpa using c3 | (simp at c3 ⊢; omega)
 clear c3
 have H' := A_ H
 clear H
 go_enter Try.func104, Try.ntmps104
 go_wp2
 repeat (go_quiet (fail); try go_wp2)
 go_loopg [5] k (fun kq v5 w' => ∃ (x5_1 : Int), v5 = .int .i64 x5_1 /\ Aside0 (spec_SamePath.l0 kq l0 l1 x5_1 = some r) /\ Aside0 (kq <= k) /\ Drawn0 w w')
 case atStart => exact ⟨(0), rs_, H', ⟨Nat.le_refl _⟩, dr_⟩
 case round =>
  clear H'
  try clear c3
  try clear c3b0
  try clear c3b1
  try clear c3b2
  obtain ⟨x5_1, rfl, HA, HK1, ⟨m1, rfl⟩⟩ := hrel
  cases gk with
  | zero => exact absurd HA.out (by simp [spec_SamePath.l0])
  | succ k1 =>
   have H := HA.out
   clear HA
   simp only [spec_SamePath.l0] at H
   by_cases c4 : x5_1 < (l0.length : Int)
   rotate_left
   . rw [if_neg c4] at H
     have c4b0 := decide_eq_false c4
     clear c4
     obtain rfl := si_ H
     go_wp2
     repeat (go_quiet (fail); try go_wp2)
     go_ret
     exact ⟨rs_, dr_⟩
   rw [if_pos c4] at H
   have c4b0 := decide_eq_true c4
   clear c4
   by_cases c5 : 0 <= x5_1
   rotate_left
   . exact absurd H (by rw [if_neg c5]; simp)
   rw [if_pos c5] at H
   have c5b0 := decide_eq_true c5
   clear c5
   by_cases c6 : x5_1 < (l1.length : Int)
   rotate_left
   . exact absurd H (by rw [if_neg c6]; simp)
   rw [if_pos c6] at H
   have c6b0 := decide_eq_true c6
   clear c6
   by_cases c7 : (rdOf ByteArray.empty l0 x5_1).toList = (rdOf ByteArray.empty l1 x5_1).toList
   rotate_left
   . rw [if_neg c7] at H
     obtain ⟨c7b0, c7b1⟩ := eF_ c7
     obtain rfl := si_ H
     have p2 : 0 <= (x5_1 : Int) := od_
     have q2 : x5_1 < (l0.length : Int) := od_
     obtain ⟨ad2, e2, hx2_0⟩ := Kd.at_string HR0.out x5_1 p2 q2
     cases e2
     replace p2 := eq_true p2
     replace q2 := eq_true q2
     have p8 : 0 <= (x5_1 : Int) := od_
     have q8 : x5_1 < (l1.length : Int) := od_
     obtain ⟨ad8, e8, hx8_0⟩ := Kd.at_string HR1.out x5_1 p8 q8
     cases e8
     replace p8 := eq_true p8
     replace q8 := eq_true q8
     go_wp2
     repeat (go_quiet (fail); try go_wp2)
     go_ret
     exact ⟨rs_, dr_⟩
   rw [if_pos c7] at H
   obtain ⟨c7b0, c7b1⟩ := eT_ c7
   clear c7
   have H' := A_ H
   clear H
   have p2 : 0 <= (x5_1 : Int) := od_
   have q2 : x5_1 < (l0.length : Int) := od_
   obtain ⟨ad2, e2, hx2_0⟩ := Kd.at_string HR0.out x5_1 p2 q2
   cases e2
   replace p2 := eq_true p2
   replace q2 := eq_true q2
   have p8 : 0 <= (x5_1 : Int) := od_
   have q8 : x5_1 < (l1.length : Int) := od_
   obtain ⟨ad8, e8, hx8_0⟩ := Kd.at_string HR1.out x5_1 p8 q8
   cases e8
   replace p8 := eq_true p8
   replace q8 := eq_true q8
   go_wp2
   repeat (go_quiet (fail); try go_wp2)
   go_roundg k1
   case measure => have := HK1.out; omega
   case rel => exact ⟨(wrap64 (x5_1 + 1)), rs_, H', ⟨by have := HK1.out; omega⟩, dr_⟩
def spec_FindRes.l0 : Nat -> List (S57) -> List ByteArray -> Int -> Option (Int)
 | 0, _, _, _ => none
 | k + 1, x0, x1, x5 => if x5 < (x0.length : Int) then (if 0 <= x5 then ((spec_SamePath.f k ((rd_T57 x0 x5).f0) x1).bind fun t113 => (if t113 = true then (some x5) else (spec_FindRes.l0 k x0 x1 (wrap64 (x5 + 1))))) else (none)) else (some (-1))
def spec_FindRes.f (k : Nat) (l0 : List (S57)) (l1 : List ByteArray) : Option (Int) := spec_FindRes.l0 k l0 l1 0
theorem spec_FindRes.calls (k : Nat) (A0 : Option Addr) (c0 : Nat) (l0 : List (S57)) (A1 : Option Addr) (c1 : Nat) (l1 : List ByteArray) (r : Int) (w : World) (hr0 : Kd.C k57 w A0 l0.length l0) (hc0 : l0.length <= c0) (hr1 : Kd.C Kd.string w A1 l1.length l1) (hc1 : l1.length <= c1) (h : spec_FindRes.f k l0 l1 = some r) :
 Calls Try.prog 61 #[.slice A0 l0.length c0, .slice A1 l1.length c1] w fun e w' => e = .returned (.int .i64 r) /\ Drawn0 w w' := by
 have HR0 := A_ hr0
 clear hr0 hc0
 have HR1 := A_ hr1
 have HC1 := A_ hc1
 clear hr1 hc1
 have H : (spec_FindRes.l0 k l0 l1 0) = some r := h
 clear h
 have H' := A_ H
 clear H
 go_enter Try.func61, Try.ntmps61
 go_wp2
 go_loopg [5] k (fun kq v5 w' => ∃ (x5_1 : Int), v5 = .int .i64 x5_1 /\ Aside0 (spec_FindRes.l0 kq l0 l1 x5_1 = some r) /\ Aside0 (kq <= k) /\ Drawn0 w w')
 case atStart => exact ⟨(0), rs_, H', ⟨Nat.le_refl _⟩, dr_⟩
 case round =>
  clear H'
  obtain ⟨x5_1, rfl, HA, HK1, ⟨m1, rfl⟩⟩ := hrel
  cases gk with
  | zero => exact absurd HA.out (by simp [spec_FindRes.l0])
  | succ k1 =>
   have H := HA.out
   clear HA
   simp only [spec_FindRes.l0] at H
   by_cases c3 : x5_1 < (l0.length : Int)
   rotate_left
   . rw [if_neg c3] at H
     have c3b0 := decide_eq_false c3
     clear c3
     obtain rfl := si_ H
     go_wp2
     go_ret
     exact ⟨rs_, dr_⟩
   rw [if_pos c3] at H
   have c3b0 := decide_eq_true c3
   clear c3
   by_cases c4 : 0 <= x5_1
   rotate_left
   . exact absurd H (by rw [if_neg c4]; simp)
   rw [if_pos c4] at H
   have c4b0 := decide_eq_true c4
   clear c4
   obtain ⟨t8, A5, H⟩ := bo_ H
   (try dsimp only at H)
   by_cases c6 : t8 = true
   . subst c6
     rw [if_pos rfl] at H
     obtain rfl := si_ H
     have p7 : 0 <= (x5_1 : Int) := od_
     have q7 : x5_1 < (l0.length : Int) := od_
     obtain ⟨ad7, A7_0, c7_0, A7_4, c7_4, e7, hx7_0, hx7_1, hx7_2, hx7_3, hx7_4, hl7_0, hi7_0, hl7_4, hi7_4⟩ := at_T57 HR0.out x5_1 p7 q7
     cases e7
     have HR7_0 := A_ hi7_0
     have HC7_0 := A_ hl7_0
     clear hi7_0 hl7_0
     clear hi7_4 hl7_4
     replace p7 := eq_true p7
     replace q7 := eq_true q7
     go_wp2_with (first | ((with_reducible refine gc_ (f := 104) rfl ?_); refine gL_ (some 18) Try.func104 #[.slice A7_0 ((rd_T57 l0 x5_1).f0).length c7_0, .slice A1 l1.length c1] ?_; (with_reducible refine (spec_SamePath.calls k1 _ _ ((rd_T57 l0 x5_1).f0) _ _ l1 true _ ?s1 ?s2 ?s3 ?s4 A5.out).mono ?_); (case s1 => exact cC_ HR7_0.out); (case s2 => exact HC7_0.out); (case s3 => exact cC_ HR1.out); (case s4 => exact HC1.out); rintro e w' ⟨rfl, ⟨nd, rfl⟩⟩; refine ⟨_, rfl, ?_⟩))
     go_ret
     exact ⟨rs_, dr_⟩
   . replace c6 := Bool.eq_false_iff.mpr c6
     subst c6
     rw [if_neg nf_] at H
     have H' := A_ H
     clear H
     have p7 : 0 <= (x5_1 : Int) := od_
     have q7 : x5_1 < (l0.length : Int) := od_
     obtain ⟨ad7, A7_0, c7_0, A7_4, c7_4, e7, hx7_0, hx7_1, hx7_2, hx7_3, hx7_4, hl7_0, hi7_0, hl7_4, hi7_4⟩ := at_T57 HR0.out x5_1 p7 q7
     cases e7
     have HR7_0 := A_ hi7_0
     have HC7_0 := A_ hl7_0
     clear hi7_0 hl7_0
     clear hi7_4 hl7_4
     replace p7 := eq_true p7
     replace q7 := eq_true q7
     go_wp2_with (first | ((with_reducible refine gc_ (f := 104) rfl ?_); refine gL_ (some 18) Try.func104 #[.slice A7_0 ((rd_T57 l0 x5_1).f0).length c7_0, .slice A1 l1.length c1] ?_; (with_reducible refine (spec_SamePath.calls k1 _ _ ((rd_T57 l0 x5_1).f0) _ _ l1 false _ ?s1 ?s2 ?s3 ?s4 A5.out).mono ?_); (case s1 => exact cC_ HR7_0.out); (case s2 => exact HC7_0.out); (case s3 => exact cC_ HR1.out); (case s4 => exact HC1.out); rintro e w' ⟨rfl, ⟨nd, rfl⟩⟩; refine ⟨_, rfl, ?_⟩))
     go_roundg k1
     case measure => have := HK1.out; omega
     case rel => exact ⟨(wrap64 (x5_1 + 1)), rs_, H', ⟨by have := HK1.out; omega⟩, dr_⟩
set_option maxHeartbeats 8000000
set_option maxRecDepth 100000
def spec_IsColl.f (k : Nat) (l0 : List (S57)) (l1 : List ByteArray) : Option (Bool) := (spec_FindRes.f k l0 l1).bind fun t114 => (if (l1.length : Int) = 0 then (some true) else (if t114 >= 0 then (if 0 <= t114 then (if t114 < (l0.length : Int) then (some ((rd_T57 l0 t114).f1)) else (none)) else (none)) else (some false)))
theorem spec_IsColl.calls (k : Nat) (A0 : Option Addr) (c0 : Nat) (l0 : List (S57)) (A1 : Option Addr) (c1 : Nat) (l1 : List ByteArray) (r : Bool) (w : World) (hr0 : Kd.C k57 w A0 l0.length l0) (hc0 : l0.length <= c0) (hr1 : Kd.C Kd.string w A1 l1.length l1) (hc1 : l1.length <= c1) (h : spec_IsColl.f k l0 l1 = some r) :
 Calls Try.prog 73 #[.slice A0 l0.length c0, .slice A1 l1.length c1] w fun e w' => e = .returned (.bool r) /\ Drawn0 w w' := by
 have HR0 := A_ hr0
 have HC0 := A_ hc0
 clear hr0 hc0
 have HR1 := A_ hr1
 have HC1 := A_ hc1
 clear hr1 hc1
 have H : ((spec_FindRes.f k l0 l1).bind fun t9 => (if (l1.length : Int) = 0 then (some true) else (if t9 >= 0 then (if 0 <= t9 then (if t9 < (l0.length : Int) then (some ((rd_T57 l0 t9).f1)) else (none)) else (none)) else (some false)))) = some r := h
 clear h
 obtain ⟨t9, A3, H⟩ := bo_ H
 (try dsimp only at H)
 by_cases c4 : (l1.length : Int) = 0
 . rw [if_pos c4] at H
   obtain ⟨c4b0, c4b1⟩ := eT_ c4
   clear c4
   obtain rfl := si_ H
   go_enter Try.func73, Try.ntmps73
   go_wp2_with (first | ((with_reducible refine gc_ (f := 61) rfl ?_); refine gL_ (some 8) Try.func61 #[.slice A0 l0.length c0, .slice A1 l1.length c1] ?_; (with_reducible refine (spec_FindRes.calls k _ _ l0 _ _ l1 t9 _ ?s1 ?s2 ?s3 ?s4 A3.out).mono ?_); (case s1 => exact cC_ HR0.out); (case s2 => exact HC0.out); (case s3 => exact cC_ HR1.out); (case s4 => exact HC1.out); rintro e w' ⟨rfl, ⟨nd, rfl⟩⟩; refine ⟨_, rfl, ?_⟩))
   go_ret
   exact ⟨rs_, dr_⟩
 rw [if_neg c4] at H
 obtain ⟨c4b0, c4b1⟩ := eF_ c4
 have c4b2 : ¬ (l1 = []) := fun h_ => c4 (by rw [h_]; rfl)
 by_cases c5 : t9 >= 0
 rotate_left
 . rw [if_neg c5] at H
   have c5b0 : decide (0 <= t9) = false := decide_eq_false c5
   clear c5
   obtain rfl := si_ H
   go_enter Try.func73, Try.ntmps73
   go_wp2_with (first | ((with_reducible refine gc_ (f := 61) rfl ?_); refine gL_ (some 8) Try.func61 #[.slice A0 l0.length c0, .slice A1 l1.length c1] ?_; (with_reducible refine (spec_FindRes.calls k _ _ l0 _ _ l1 t9 _ ?s1 ?s2 ?s3 ?s4 A3.out).mono ?_); (case s1 => exact cC_ HR0.out); (case s2 => exact HC0.out); (case s3 => exact cC_ HR1.out); (case s4 => exact HC1.out); rintro e w' ⟨rfl, ⟨nd, rfl⟩⟩; refine ⟨_, rfl, ?_⟩))
   go_ret
   exact ⟨rs_, dr_⟩
 rw [if_pos c5] at H
 have c5b0 : decide (0 <= t9) = true := decide_eq_true c5
 clear c5
 by_cases c6 : 0 <= t9
 rotate_left
 . exact absurd H (by rw [if_neg c6]; simp)
 rw [if_pos c6] at H
 have c6b0 := decide_eq_true c6
 clear c6
 by_cases c7 : t9 < (l0.length : Int)
 rotate_left
 . exact absurd H (by rw [if_neg c7]; simp)
 rw [if_pos c7] at H
 have c7b0 := decide_eq_true c7
 clear c7
 obtain rfl := si_ H
 go_enter Try.func73, Try.ntmps73
 go_wp2_with (first | ((with_reducible refine gc_ (f := 61) rfl ?_); refine gL_ (some 8) Try.func61 #[.slice A0 l0.length c0, .slice A1 l1.length c1] ?_; (with_reducible refine (spec_FindRes.calls k _ _ l0 _ _ l1 t9 _ ?s1 ?s2 ?s3 ?s4 A3.out).mono ?_); (case s1 => exact cC_ HR0.out); (case s2 => exact HC0.out); (case s3 => exact cC_ HR1.out); (case s4 => exact HC1.out); rintro e w' ⟨rfl, ⟨nd, rfl⟩⟩; refine ⟨_, rfl, ?_⟩; have p8 : 0 <= (t9 : Int) := od_; have q8 : t9 < (l0.length : Int) := od_; obtain ⟨ad8, A8_0, c8_0, A8_4, c8_4, e8, hx8_0, hx8_1, hx8_2, hx8_3, hx8_4, hl8_0, hi8_0, hl8_4, hi8_4⟩ := at_T57 HR0.out t9 p8 q8; cases e8; clear hi8_0 hl8_0; clear hi8_4 hl8_4; replace p8 := eq_true p8; replace q8 := eq_true q8))
 go_ret
 exact ⟨rs_, dr_⟩
def spec_Above.f (l0 : List ByteArray) : Option (List ByteArray) := if (l0.length : Int) = 0 then (some (([] : List ByteArray))) else ((some (([] : List ByteArray) : List ByteArray)).bind fun y119 => (if 0 <= (wrap64 ((l0.length : Int) - 1)) then (if (wrap64 ((l0.length : Int) - 1)) <= (l0.length : Int) then (if y119.length + (l0.take ((wrap64 ((l0.length : Int) - 1)) : Int).toNat).length < 8796093022208 then (some (y119 ++ (l0.take ((wrap64 ((l0.length : Int) - 1)) : Int).toNat))) else (none)) else (none)) else (none)))
theorem spec_Above.calls (A0 : Option Addr) (c0 : Nat) (l0 : List ByteArray) (r : List ByteArray) (w : World) (hr0 : Kd.C Kd.string w A0 l0.length l0) (hc0 : l0.length <= c0) (h : spec_Above.f l0 = some r) :
 Calls Try.prog 74 #[.slice A0 l0.length c0] w fun e w' => ∃ v0_ : Value, e = .returned (v0_) /\ Kd.R Kd.string 9 w' w.heap.size (fun _ => True) v0_ r /\ Below w.heap.size w w' := by
 have HR0 := A_ hr0
 have HC0 := A_ hc0
 clear hr0 hc0
 have HB := A_ (Below.refl w.heap.size w)
 have H : (if (l0.length : Int) = 0 then (some (([] : List ByteArray))) else ((some (([] : List ByteArray) : List ByteArray)).bind fun y13 => (if 0 <= (wrap64 ((l0.length : Int) - 1)) then (if (wrap64 ((l0.length : Int) - 1)) <= (l0.length : Int) then (if y13.length + (l0.take ((wrap64 ((l0.length : Int) - 1)) : Int).toNat).length < 8796093022208 then (some (y13 ++ (l0.take ((wrap64 ((l0.length : Int) - 1)) : Int).toNat))) else (none)) else (none)) else (none)))) = some r := h
 clear h
 by_cases c2 : (l0.length : Int) = 0
 . rw [if_pos c2] at H
   obtain ⟨c2b0, c2b1⟩ := eT_ c2
   clear c2
   obtain ⟨y14, hy14⟩ : ∃ y_ : List ByteArray, y_ = (([] : List ByteArray)) := ⟨_, rfl⟩
   replace H : (some y14) = some r := hy_ hy14 H
   have Ny14 := A_ hy14
   clear hy14
   obtain rfl := si_ H
   go_enter Try.func74, Try.ntmps74
   go_wp2_with (first | ((with_reducible refine gd_ (N := 6) rfl ?_); refine Kd.R_lit Kd.string _ 9 ?hg (N := 6) ?hd (xs := ([] : List ByteArray)) (inner := []) (ok := fun _ => True) (okp := fun _ => True) ?hr ?hp (fun _ hk => hk) trivial (Below.refl _ _) (Nat.le_refl _) (by simp) ?_; (case hd => rfl); (case hg => rfl); (case hr => first | (go_simp; done) | (go_simp; rfl)); (case hp => exact (Reps.none _ _)); intro v22 w3 ho4 hb hg_ hnew_; clear hg_ hnew_; (first | rw [← Ny14.out] at ho4 | (simp only [Int.reduceToNat] at ho4; rw [← Ny14.out] at ho4)); have HO19 := A_ (Kd.R_lower ho4 (below_size bB_)); replace HB := A_ (below_step bB_ hb); clear hb ho4))
   go_ret
   exact ⟨_, rr_, vR_ HO19.out, bB_⟩
 rw [if_neg c2] at H
 obtain ⟨c2b0, c2b1⟩ := eF_ c2
 have c2b2 : ¬ (l0 = []) := fun h_ => c2 (by rw [h_]; rfl)
 obtain ⟨y13, hy13⟩ : ∃ y_ : List ByteArray, y_ = (([] : List ByteArray)) := ⟨_, rfl⟩
 replace H : (if 0 <= (wrap64 ((l0.length : Int) - 1)) then (if (wrap64 ((l0.length : Int) - 1)) <= (l0.length : Int) then (if y13.length + (l0.take ((wrap64 ((l0.length : Int) - 1)) : Int).toNat).length < 8796093022208 then (some (y13 ++ (l0.take ((wrap64 ((l0.length : Int) - 1)) : Int).toNat))) else (none)) else (none)) else (none)) = some r := hy_ hy13 H
 have Ny13 := A_ hy13
 clear hy13
 obtain ⟨ji5, hji5⟩ : ∃ j_ : Int, (wrap64 ((l0.length : Int) - 1)) = j_ := ⟨_, rfl⟩
 replace H : (if 0 <= (ji5) then (if (ji5) <= (l0.length : Int) then (if y13.length + (l0.take ((ji5) : Int).toNat).length < 8796093022208 then (some (y13 ++ (l0.take ((ji5) : Int).toNat))) else (none)) else (none)) else (none)) = some r := by first | (rw [hji5] at H; exact H) | (simp only [hji5] at H ⊢; exact H)
 have hji5w : (IntKind.i64.wrap ((l0.length : Int) - 1)) = ji5 := (i64_w _).trans hji5
 by_cases c6 : 0 <= (ji5)
 rotate_left
 . exact absurd H (by rw [if_neg c6]; simp)
 rw [if_pos c6] at H
 have c6b0 := eq_true c6
 have c6b1 := decide_eq_true c6
 clear c6
 by_cases c7 : (ji5) <= (l0.length : Int)
 rotate_left
 . exact absurd H (by rw [if_neg c7]; simp)
 rw [if_pos c7] at H
 have c7b0 := eq_true c7
 have c7b1 := decide_eq_true c7
 clear c7
 by_cases c8 : y13.length + (l0.take ((ji5) : Int).toNat).length < 8796093022208
 rotate_left
 . exact absurd H (by rw [if_neg c8]; simp)
 rw [if_pos c8] at H
 have LMc8 := A_ c8
 clear c8
 obtain ⟨y15, hy15⟩ : ∃ y_ : List ByteArray, y_ = (y13 ++ (l0.take ((ji5) : Int).toNat)) := ⟨_, rfl⟩
 replace H : (some y15) = some r := hy_ hy15 H
 have Ny15 := A_ hy15
 clear hy15
 obtain rfl := si_ H
 go_enter Try.func74, Try.ntmps74
 go_wp2_with (first | ((with_reducible refine gd_ (N := 7) rfl ?_); refine Kd.R_lit Kd.string _ 9 ?hg (N := 7) ?hd (xs := ([] : List ByteArray)) (inner := []) (ok := fun _ => True) (okp := fun _ => True) ?hr ?hp (fun _ hk => hk) trivial (Below.refl _ _) (Nat.le_refl _) (by simp) ?_; (case hd => rfl); (case hg => rfl); (case hr => first | (go_simp; done) | (go_simp; rfl)); (case hp => exact (Reps.none _ _)); intro v20 w9 ho10 hb hg_ hnew_; clear hg_ hnew_; (first | rw [← Ny13.out] at ho10 | (simp only [Int.reduceToNat] at ho10; rw [← Ny13.out] at ho10)); have HO16 := A_ (Kd.R_lower ho10 (below_size bB_)); replace HB := A_ (below_step bB_ hb); clear hb ho10; obtain ⟨i011, hi17, _, hsz11, _⟩ := info_parts info9; obtain ⟨hcut11, hA11, hC11⟩ := print_take_of (P := Try.prog) Value.string (⟨#[]⟩ : ByteArray) 23 9 .i64 Try.underlying23 hi17 hsz11 A0 c0 l0 (ji5) od_ od_ HC0.out; have HR18 := A_ (Kd.C_of_reads (h1 := fun _ => rfl) (hA11 _ (Kd.reads_of_C HR0.out))); clear hA11 hC11 hi17 hsz11) | ((with_reducible refine gate_builtin (b := .append) (xs := #[.tmp 7, .tmp 12]) rfl ?_); at_builtin; refine Kd.R_append_rows Kd.string (w0 := w) w.heap.size rfl (.tmp 7) (.tmp 12) 23 9 (.string ⟨#[]⟩) 16 rfl Try.underlying23 info9 rfl (by decide) (by omega) v20 y13 (l0.take ((ji5) : Int).toNat) _ _ _ (fun _ => True) (fun _ => False) rfl rfl ?aO ?aR (fun _ _ h => h) (fun _ h => h.elim) ?aF ?aB ?aS ?aL ?_; (case aR => first | (refine C_len_cast (show (l0.take ((ji5) : Int).toNat).length = (ji5).toNat from (by rw [List.length_take]; have h_ : ((ji5) : Int) <= (l0.length : Int) := od_; omega)) ?_; repeat (first | exact (Kd.C_below HR18.out HB.out) | (with_reducible refine Kd.C_alloc ?_ _) | (with_reducible refine Kd.C_drewN ?_ _) | (with_reducible refine Kd.C_drew ?_))) | (repeat (first | exact (Kd.C_below HR18.out HB.out) | (with_reducible refine Kd.C_alloc ?_ _) | (with_reducible refine Kd.C_drewN ?_ _) | (with_reducible refine Kd.C_drew ?_)))); (case aB => exact bB_); (case aF => exact (fun _ _ => trivial)); (case aO => exact (vR_ HO16.out)); (case aS => exact (below_size bB_)); (case aL => have := LMc8.out; have hlx_ := (show (l0.take ((ji5) : Int).toNat).length = (ji5).toNat from (by rw [List.length_take]; have h_ : ((ji5) : Int) <= (l0.length : Int) := od_; omega)); omega); intro v23 w12 ho hb hg hat; rw [← Ny15.out] at ho; replace HB := A_ (hb); have HO21 := A_ (ho); clear HO16; clear ho hb hg hat))
 go_ret
 exact ⟨_, by first | rfl | (simp [errW_none, errW_some] <;> rfl) | (simp only [← hji5]; first | rfl | (simp [errW_none, errW_some] <;> rfl)) | (simp [*, errW_none, errW_some] <;> rfl), vR_ HO21.out, bB_⟩
def spec_l1In.f (a0 : Int) (a1 : Int) (a2 : Int) : Option (Bool) := if a0 >= a1 then (some (decide (a0 <= a2))) else (some false)
theorem spec_l1In.calls (a0 : Int) (a1 : Int) (a2 : Int) (r : Bool) (w : World) (h : spec_l1In.f a0 a1 a2 = some r) :
 Calls Try.prog 103 #[.int .i64 a0, .int .i64 a1, .int .i64 a2] w fun e w' => e = .returned (.bool r) /\ Drawn0 w w' := by
 have H : (if a0 >= a1 then (some (decide (a0 <= a2))) else (some false)) = some r := h
 clear h
 by_cases c4 : a0 >= a1
 . rw [if_pos c4] at H
   have c4b0 : decide (a1 <= a0) = true := decide_eq_true c4
   clear c4
   obtain rfl := si_ H
   go_enter Try.func103, Try.ntmps103
   go_wp2
   go_ret
   exact ⟨rs_, dr_⟩
 rw [if_neg c4] at H
 have c4b0 : decide (a1 <= a0) = false := decide_eq_false c4
 clear c4
 obtain rfl := si_ H
 go_enter Try.func103, Try.ntmps103
 go_wp2
 go_ret
 exact ⟨rs_, dr_⟩
def spec_Plain.l0 : Nat -> ByteArray -> Int -> Option (Bool)
 | 0, _, _ => none
 | k + 1, x0, x3 => if x3 < (x0.size : Int) then (if 0 <= x3 then ((spec_l1In.f (wrap64 (bt x0 x3)) 32 126).bind fun t126 => (if t126 = true then (spec_Plain.l0 k x0 (wrap64 (x3 + 1))) else (some false))) else (none)) else (some true)
def spec_Plain.f (k : Nat) (a0 : ByteArray) : Option (Bool) := spec_Plain.l0 k a0 0
theorem spec_Plain.calls (k : Nat) (a0 : ByteArray) (r : Bool) (w : World) (h : spec_Plain.f k a0 = some r) :
 Calls Try.prog 125 #[.string a0] w fun e w' => e = .returned (.bool r) /\ Drawn0 w w' := by
 have H : (spec_Plain.l0 k a0 0) = some r := h
 clear h
 have H' := A_ H
 clear H
 go_enter Try.func125, Try.ntmps125
 go_wp2
 go_loopg [3] k (fun kq v3 w' => ∃ (x3_1 : Int), v3 = .int .i64 x3_1 /\ Aside0 (spec_Plain.l0 kq a0 x3_1 = some r) /\ Aside0 (kq <= k) /\ Drawn0 w w')
 case atStart => exact ⟨(0), rs_, H', ⟨Nat.le_refl _⟩, dr_⟩
 case round =>
  clear H'
  obtain ⟨x3_1, rfl, HA, HK1, ⟨m1, rfl⟩⟩ := hrel
  cases gk with
  | zero => exact absurd HA.out (by simp [spec_Plain.l0])
  | succ k1 =>
   have H := HA.out
   clear HA
   simp only [spec_Plain.l0] at H
   by_cases c2 : x3_1 < (a0.size : Int)
   rotate_left
   . rw [if_neg c2] at H
     have c2b0 := decide_eq_false c2
     clear c2
     obtain rfl := si_ H
     go_wp2
     go_ret
     exact ⟨rs_, dr_⟩
   rw [if_pos c2] at H
   have c2b0 := decide_eq_true c2
   clear c2
   by_cases c3 : 0 <= x3_1
   rotate_left
   . exact absurd H (by rw [if_neg c3]; simp)
   rw [if_pos c3] at H
   have c3b0 := decide_eq_true c3
   clear c3
   obtain ⟨t7, A5, H⟩ := bo_ H
   (try dsimp only at H)
   by_cases c6 : t7 = true
   . subst c6
     rw [if_pos rfl] at H
     have H' := A_ H
     clear H
     have p4 : 0 <= (x3_1 : Int) := od_
     have q4 : x3_1 < (a0.size : Int) := od_
     have hx4 := bt_at a0 x3_1
     replace p4 := eq_true p4
     replace q4 := eq_true q4
     go_wp2_with (first | ((with_reducible refine gc_ (f := 103) rfl ?_); refine gL_ (some 14) Try.func103 #[.int .i64 (wrap64 (bt a0 x3_1)), .int .i64 32, .int .i64 126] ?_; (with_reducible refine (spec_l1In.calls (wrap64 (bt a0 x3_1)) 32 126 true _ A5.out).mono ?_); rintro e w' ⟨rfl, ⟨nd, rfl⟩⟩; refine ⟨_, rfl, ?_⟩))
     go_roundg k1
     case measure => have := HK1.out; omega
     case rel => exact ⟨(wrap64 (x3_1 + 1)), rs_, H', ⟨by have := HK1.out; omega⟩, dr_⟩
   . replace c6 := Bool.eq_false_iff.mpr c6
     subst c6
     rw [if_neg nf_] at H
     obtain rfl := si_ H
     have p4 : 0 <= (x3_1 : Int) := od_
     have q4 : x3_1 < (a0.size : Int) := od_
     have hx4 := bt_at a0 x3_1
     replace p4 := eq_true p4
     replace q4 := eq_true q4
     go_wp2_with (first | ((with_reducible refine gc_ (f := 103) rfl ?_); refine gL_ (some 14) Try.func103 #[.int .i64 (wrap64 (bt a0 x3_1)), .int .i64 32, .int .i64 126] ?_; (with_reducible refine (spec_l1In.calls (wrap64 (bt a0 x3_1)) 32 126 false _ A5.out).mono ?_); rintro e w' ⟨rfl, ⟨nd, rfl⟩⟩; refine ⟨_, rfl, ?_⟩))
     go_ret
     exact ⟨rs_, dr_⟩
def spec_l1Small.f (a0 : Int) : Option (Bool) := (spec_l1In.f (wrap64 (a0)) 97 122).bind fun t127 => (some t127)
theorem spec_l1Small.calls (a0 : Int) (r : Bool) (w : World) (h : spec_l1Small.f a0 = some r) :
 Calls Try.prog 135 #[.int .u8 a0] w fun e w' => e = .returned (.bool r) /\ Drawn0 w w' := by
 have H : ((spec_l1In.f (wrap64 (a0)) 97 122).bind fun t1 => (some t1)) = some r := h
 clear h
 obtain ⟨t1, A2, H⟩ := bo_ H
 (try dsimp only at H)
 obtain rfl := si_ H
 go_enter Try.func135, Try.ntmps135
 go_wp2_with (first | ((with_reducible refine gc_ (f := 103) rfl ?_); refine gL_ (some 5) Try.func103 #[.int .i64 (wrap64 (a0)), .int .i64 97, .int .i64 122] ?_; (with_reducible refine (spec_l1In.calls (wrap64 (a0)) 97 122 t1 _ A2.out).mono ?_); rintro e w' ⟨rfl, ⟨nd, rfl⟩⟩; refine ⟨_, rfl, ?_⟩))
 go_ret
 exact ⟨rs_, dr_⟩
def spec_l1Digit.f (a0 : Int) : Option (Bool) := (spec_l1In.f (wrap64 (a0)) 48 57).bind fun t128 => (some t128)
theorem spec_l1Digit.calls (a0 : Int) (r : Bool) (w : World) (h : spec_l1Digit.f a0 = some r) :
 Calls Try.prog 136 #[.int .u8 a0] w fun e w' => e = .returned (.bool r) /\ Drawn0 w w' := by
 have H : ((spec_l1In.f (wrap64 (a0)) 48 57).bind fun t1 => (some t1)) = some r := h
 clear h
 obtain ⟨t1, A2, H⟩ := bo_ H
 (try dsimp only at H)
 obtain rfl := si_ H
 go_enter Try.func136, Try.ntmps136
 go_wp2_with (first | ((with_reducible refine gc_ (f := 103) rfl ?_); refine gL_ (some 5) Try.func103 #[.int .i64 (wrap64 (a0)), .int .i64 48, .int .i64 57] ?_; (with_reducible refine (spec_l1In.calls (wrap64 (a0)) 48 57 t1 _ A2.out).mono ?_); rintro e w' ⟨rfl, ⟨nd, rfl⟩⟩; refine ⟨_, rfl, ?_⟩))
 go_ret
 exact ⟨rs_, dr_⟩
def spec_SmallName.l0 : Nat -> ByteArray -> Int -> Option (Bool)
 | 0, _, _ => none
 | k + 1, x0, x3 => if x3 < (x0.size : Int) then (if 0 <= x3 then ((spec_l1Small.f (bt x0 x3)).bind fun t130 => (if t130 = true then (spec_SmallName.l0 k x0 (wrap64 (x3 + 1))) else (if x3 = 0 then (some false) else ((spec_l1Digit.f (bt x0 x3)).bind fun t131 => (if t131 = true then (spec_SmallName.l0 k x0 (wrap64 (x3 + 1))) else (if (bt x0 x3) = 45 then (spec_SmallName.l0 k x0 (wrap64 (x3 + 1))) else (some false))))))) else (none)) else ((spec_l1In.f (x0.size : Int) 1 20).bind fun t129 => (some t129))
def spec_SmallName.f (k : Nat) (a0 : ByteArray) : Option (Bool) := spec_SmallName.l0 k a0 0
theorem spec_SmallName.calls (k : Nat) (a0 : ByteArray) (r : Bool) (w : World) (h : spec_SmallName.f k a0 = some r) :
 Calls Try.prog 126 #[.string a0] w fun e w' => e = .returned (.bool r) /\ Drawn0 w w' := by
 have H : (spec_SmallName.l0 k a0 0) = some r := h
 clear h
 have H' := A_ H
 clear H
 go_enter Try.func126, Try.ntmps126
 go_wp2
 go_loopg [3] k (fun kq v3 w' => ∃ (x3_1 : Int), v3 = .int .i64 x3_1 /\ Aside0 (spec_SmallName.l0 kq a0 x3_1 = some r) /\ Aside0 (kq <= k) /\ Drawn0 w w')
 case atStart => exact ⟨(0), rs_, H', ⟨Nat.le_refl _⟩, dr_⟩
 case round =>
  clear H'
  obtain ⟨x3_1, rfl, HA, HK1, ⟨m1, rfl⟩⟩ := hrel
  cases gk with
  | zero => exact absurd HA.out (by simp [spec_SmallName.l0])
  | succ k1 =>
   have H := HA.out
   clear HA
   simp only [spec_SmallName.l0] at H
   by_cases c2 : x3_1 < (a0.size : Int)
   rotate_left
   . rw [if_neg c2] at H
     have c2b0 := decide_eq_false c2
     clear c2
     obtain ⟨t14, A13, H⟩ := bo_ H
     (try dsimp only at H)
     obtain rfl := si_ H
     go_wp2_with (first | ((with_reducible refine gc_ (f := 103) rfl ?_); refine gL_ (some 34) Try.func103 #[.int .i64 (a0.size : Int), .int .i64 1, .int .i64 20] ?_; (with_reducible refine (spec_l1In.calls (a0.size : Int) 1 20 t14 _ A13.out).mono ?_); rintro e w' ⟨rfl, ⟨nd, rfl⟩⟩; refine ⟨_, rfl, ?_⟩))
     go_ret
     exact ⟨rs_, dr_⟩
   rw [if_pos c2] at H
   have c2b0 := decide_eq_true c2
   clear c2
   by_cases c3 : 0 <= x3_1
   rotate_left
   . exact absurd H (by rw [if_neg c3]; simp)
   rw [if_pos c3] at H
   have c3b0 := decide_eq_true c3
   clear c3
   obtain ⟨t15, A5, H⟩ := bo_ H
   (try dsimp only at H)
   by_cases c6 : t15 = true
   . subst c6
     rw [if_pos rfl] at H
     have H' := A_ H
     clear H
     have p4 : 0 <= (x3_1 : Int) := od_
     have q4 : x3_1 < (a0.size : Int) := od_
     have hx4 := bt_at a0 x3_1
     replace p4 := eq_true p4
     replace q4 := eq_true q4
     go_wp2_with (first | ((with_reducible refine gc_ (f := 135) rfl ?_); refine gL_ (some 13) Try.func135 #[.int .u8 (bt a0 x3_1)] ?_; (with_reducible refine (spec_l1Small.calls (bt a0 x3_1) true _ A5.out).mono ?_); rintro e w' ⟨rfl, ⟨nd, rfl⟩⟩; refine ⟨_, rfl, ?_⟩))
     go_roundg k1
     case measure => have := HK1.out; omega
     case rel => exact ⟨(wrap64 (x3_1 + 1)), rs_, H', ⟨by have := HK1.out; omega⟩, dr_⟩
   . replace c6 := Bool.eq_false_iff.mpr c6
     subst c6
     rw [if_neg nf_] at H
     by_cases c7 : x3_1 = 0
     . rw [if_pos c7] at H
       obtain ⟨c7b0, c7b1⟩ := eT_ c7
       clear c7
       obtain rfl := si_ H
       have p4 : 0 <= (x3_1 : Int) := od_
       have q4 : x3_1 < (a0.size : Int) := od_
       have hx4 := bt_at a0 x3_1
       replace p4 := eq_true p4
       replace q4 := eq_true q4
       go_wp2_with (first | ((with_reducible refine gc_ (f := 135) rfl ?_); refine gL_ (some 13) Try.func135 #[.int .u8 (bt a0 x3_1)] ?_; (with_reducible refine (spec_l1Small.calls (bt a0 x3_1) false _ A5.out).mono ?_); rintro e w' ⟨rfl, ⟨nd, rfl⟩⟩; refine ⟨_, rfl, ?_⟩))
       go_ret
       exact ⟨rs_, dr_⟩
     rw [if_neg c7] at H
     obtain ⟨c7b0, c7b1⟩ := eF_ c7
     obtain ⟨t16, A9, H⟩ := bo_ H
     (try dsimp only at H)
     by_cases c10 : t16 = true
     . subst c10
       rw [if_pos rfl] at H
       have H' := A_ H
       clear H
       have p4 : 0 <= (x3_1 : Int) := od_
       have q4 : x3_1 < (a0.size : Int) := od_
       have hx4 := bt_at a0 x3_1
       replace p4 := eq_true p4
       replace q4 := eq_true q4
       go_wp2_with (first | ((with_reducible refine gc_ (f := 135) rfl ?_); refine gL_ (some 13) Try.func135 #[.int .u8 (bt a0 x3_1)] ?_; (with_reducible refine (spec_l1Small.calls (bt a0 x3_1) false _ A5.out).mono ?_); rintro e w' ⟨rfl, ⟨nd, rfl⟩⟩; refine ⟨_, rfl, ?_⟩; have p8 : 0 <= (x3_1 : Int) := od_; have q8 : x3_1 < (a0.size : Int) := od_; have hx8 := bt_at a0 x3_1; replace p8 := eq_true p8; replace q8 := eq_true q8) | (go_at_call 136; (with_reducible refine (spec_l1Digit.calls (bt a0 x3_1) true _ A9.out).mono ?_); rintro e w' ⟨rfl, ⟨nd, rfl⟩⟩))
       go_roundg k1
       case measure => have := HK1.out; omega
       case rel => exact ⟨(wrap64 (x3_1 + 1)), rs_, H', ⟨by have := HK1.out; omega⟩, dr_⟩
     . replace c10 := Bool.eq_false_iff.mpr c10
       subst c10
       rw [if_neg nf_] at H
       by_cases c12 : (bt a0 x3_1) = 45
       rotate_left
       . rw [if_neg c12] at H
         obtain ⟨c12b0, c12b1⟩ := eF_ c12
         obtain rfl := si_ H
         have p4 : 0 <= (x3_1 : Int) := od_
         have q4 : x3_1 < (a0.size : Int) := od_
         have hx4 := bt_at a0 x3_1
         replace p4 := eq_true p4
         replace q4 := eq_true q4
         go_wp2_with (first | ((with_reducible refine gc_ (f := 135) rfl ?_); refine gL_ (some 13) Try.func135 #[.int .u8 (bt a0 x3_1)] ?_; (with_reducible refine (spec_l1Small.calls (bt a0 x3_1) false _ A5.out).mono ?_); rintro e w' ⟨rfl, ⟨nd, rfl⟩⟩; refine ⟨_, rfl, ?_⟩; have p8 : 0 <= (x3_1 : Int) := od_; have q8 : x3_1 < (a0.size : Int) := od_; have hx8 := bt_at a0 x3_1; replace p8 := eq_true p8; replace q8 := eq_true q8) | (go_at_call 136; (with_reducible refine (spec_l1Digit.calls (bt a0 x3_1) false _ A9.out).mono ?_); rintro e w' ⟨rfl, ⟨nd, rfl⟩⟩; have p11 : 0 <= (x3_1 : Int) := od_; have q11 : x3_1 < (a0.size : Int) := od_; have hx11 := bt_at a0 x3_1; replace p11 := eq_true p11; replace q11 := eq_true q11))
         go_ret
         exact ⟨rs_, dr_⟩
       rw [if_pos c12] at H
       obtain ⟨c12b0, c12b1⟩ := eT_ c12
       clear c12
       have H' := A_ H
       clear H
       have p4 : 0 <= (x3_1 : Int) := od_
       have q4 : x3_1 < (a0.size : Int) := od_
       have hx4 := bt_at a0 x3_1
       replace p4 := eq_true p4
       replace q4 := eq_true q4
       go_wp2_with (first | ((with_reducible refine gc_ (f := 135) rfl ?_); refine gL_ (some 13) Try.func135 #[.int .u8 (bt a0 x3_1)] ?_; (with_reducible refine (spec_l1Small.calls (bt a0 x3_1) false _ A5.out).mono ?_); rintro e w' ⟨rfl, ⟨nd, rfl⟩⟩; refine ⟨_, rfl, ?_⟩; have p8 : 0 <= (x3_1 : Int) := od_; have q8 : x3_1 < (a0.size : Int) := od_; have hx8 := bt_at a0 x3_1; replace p8 := eq_true p8; replace q8 := eq_true q8) | (go_at_call 136; (with_reducible refine (spec_l1Digit.calls (bt a0 x3_1) false _ A9.out).mono ?_); rintro e w' ⟨rfl, ⟨nd, rfl⟩⟩; have p11 : 0 <= (x3_1 : Int) := od_; have q11 : x3_1 < (a0.size : Int) := od_; have hx11 := bt_at a0 x3_1; replace p11 := eq_true p11; replace q11 := eq_true q11))
       go_roundg k1
       case measure => have := HK1.out; omega
       case rel => exact ⟨(wrap64 (x3_1 + 1)), rs_, H', ⟨by have := HK1.out; omega⟩, dr_⟩
def spec_l10Prop.f (k : Nat) (a0_0 : ByteArray) (a0_1 : ByteArray) (a0_2 : ByteArray) : Option (Bool) := if (a0_0.size : Int) <= 20 then ((spec_Plain.f k a0_0).bind fun t133 => (if t133 = true then ((spec_SmallName.f k a0_1).bind fun t134 => (if t134 = true then (if (a0_2.size : Int) <= 20 then ((spec_Plain.f k a0_2).bind fun t135 => (some t135)) else (some false)) else (some false))) else (some false))) else (some false)
theorem spec_l10Prop.calls (k : Nat) (a0_0 : ByteArray) (a0_1 : ByteArray) (a0_2 : ByteArray) (r : Bool) (w : World) (h : spec_l10Prop.f k a0_0 a0_1 a0_2 = some r) :
 Calls Try.prog 95 #[.agg #[.string a0_0, .string a0_1, .string a0_2]] w fun e w' => e = .returned (.bool r) /\ Below w.heap.size w w' := by
 have hu72 := Try.underlying72
 have HB := A_ (Below.refl w.heap.size w)
 have H : (if (a0_0.size : Int) <= 20 then ((spec_Plain.f k a0_0).bind fun t19 => (if t19 = true then ((spec_SmallName.f k a0_1).bind fun t20 => (if t20 = true then (if (a0_2.size : Int) <= 20 then ((spec_Plain.f k a0_2).bind fun t21 => (some t21)) else (some false)) else (some false))) else (some false))) else (some false)) = some r := h
 clear h
 by_cases c2 : (a0_0.size : Int) <= 20
 rotate_left
 . rw [if_neg c2] at H
   have c2b0 := decide_eq_false c2
   have c2b1 : decide (a0_0.size <= 20) = false := decide_eq_false (by omega)
   clear c2
   obtain rfl := si_ H
   go_enter Try.func95, Try.ntmps95
   go_wp2_with (first | ((with_reducible refine gd_ (N := 1) rfl ?_); (try (refine gate_guard (by rfl) ?_; dsimp only)); refine bx_ (N := 1) (cs := #[.string a0_0, .string a0_1, .string a0_2]) (t := 72) ?_; intro gb1 hg w17 hbox hb; have BK1 := A_ (hbox); have GW1 := A_ (ge_ hg bB_ : w.heap.size <= gb1); have GE1 := A_ (ge_ hg bB_ : w.heap.size <= gb1); replace HB := A_ (below_step bB_ hb); clear hb hbox hg; obtain ⟨hcz18_0, hcz18_1, hcz18_2, hfz18_0, hfz18_1, hfz18_2⟩ := cz3_ BK1.out))
   go_ret
   exact ⟨rr_, bG_ GE1.out⟩
 rw [if_pos c2] at H
 have c2b0 := decide_eq_true c2
 have c2b1 : decide (a0_0.size <= 20) = true := decide_eq_true (by omega)
 clear c2
 obtain ⟨t19, A3, H⟩ := bo_ H
 (try dsimp only at H)
 by_cases c4 : t19 = true
 . subst c4
   rw [if_pos rfl] at H
   obtain ⟨t20, A5, H⟩ := bo_ H
   (try dsimp only at H)
   by_cases c6 : t20 = true
   . subst c6
     rw [if_pos rfl] at H
     by_cases c7 : (a0_2.size : Int) <= 20
     rotate_left
     . rw [if_neg c7] at H
       have c7b0 := decide_eq_false c7
       have c7b1 : decide (a0_2.size <= 20) = false := decide_eq_false (by omega)
       clear c7
       obtain rfl := si_ H
       go_enter Try.func95, Try.ntmps95
       go_wp2_with (first | ((with_reducible refine gd_ (N := 1) rfl ?_); (try (refine gate_guard (by rfl) ?_; dsimp only)); refine bx_ (N := 1) (cs := #[.string a0_0, .string a0_1, .string a0_2]) (t := 72) ?_; intro gb1 hg w11 hbox hb; have BK1 := A_ (hbox); have GW1 := A_ (ge_ hg bB_ : w.heap.size <= gb1); have GE1 := A_ (ge_ hg bB_ : w.heap.size <= gb1); replace HB := A_ (below_step bB_ hb); clear hb hbox hg; obtain ⟨hcz12_0, hcz12_1, hcz12_2, hfz12_0, hfz12_1, hfz12_2⟩ := cz3_ BK1.out) | (go_at_call 125; (with_reducible refine (spec_Plain.calls k a0_0 true _ A3.out).mono ?_); rintro e w' ⟨rfl, ⟨nd, rfl⟩⟩) | (go_at_call 126; (with_reducible refine (spec_SmallName.calls k a0_1 true _ A5.out).mono ?_); rintro e w' ⟨rfl, ⟨nd, rfl⟩⟩))
       go_ret
       exact ⟨rr_, bG_ GE1.out⟩
     rw [if_pos c7] at H
     have c7b0 := decide_eq_true c7
     have c7b1 : decide (a0_2.size <= 20) = true := decide_eq_true (by omega)
     clear c7
     obtain ⟨t21, A8, H⟩ := bo_ H
     (try dsimp only at H)
     obtain rfl := si_ H
     go_enter Try.func95, Try.ntmps95
     go_wp2_with (first | ((with_reducible refine gd_ (N := 1) rfl ?_); (try (refine gate_guard (by rfl) ?_; dsimp only)); refine bx_ (N := 1) (cs := #[.string a0_0, .string a0_1, .string a0_2]) (t := 72) ?_; intro gb1 hg w9 hbox hb; have BK1 := A_ (hbox); have GW1 := A_ (ge_ hg bB_ : w.heap.size <= gb1); have GE1 := A_ (ge_ hg bB_ : w.heap.size <= gb1); replace HB := A_ (below_step bB_ hb); clear hb hbox hg; obtain ⟨hcz10_0, hcz10_1, hcz10_2, hfz10_0, hfz10_1, hfz10_2⟩ := cz3_ BK1.out) | (go_at_call 125; (with_reducible refine (spec_Plain.calls k a0_0 true _ A3.out).mono ?_); rintro e w' ⟨rfl, ⟨nd, rfl⟩⟩) | (go_at_call 126; (with_reducible refine (spec_SmallName.calls k a0_1 true _ A5.out).mono ?_); rintro e w' ⟨rfl, ⟨nd, rfl⟩⟩) | (go_at_call 125; (with_reducible refine (spec_Plain.calls k a0_2 t21 _ A8.out).mono ?_); rintro e w' ⟨rfl, ⟨nd, rfl⟩⟩))
     go_ret
     exact ⟨rr_, bG_ GE1.out⟩
   . replace c6 := Bool.eq_false_iff.mpr c6
     subst c6
     rw [if_neg nf_] at H
     obtain rfl := si_ H
     go_enter Try.func95, Try.ntmps95
     go_wp2_with (first | ((with_reducible refine gd_ (N := 1) rfl ?_); (try (refine gate_guard (by rfl) ?_; dsimp only)); refine bx_ (N := 1) (cs := #[.string a0_0, .string a0_1, .string a0_2]) (t := 72) ?_; intro gb1 hg w13 hbox hb; have BK1 := A_ (hbox); have GW1 := A_ (ge_ hg bB_ : w.heap.size <= gb1); have GE1 := A_ (ge_ hg bB_ : w.heap.size <= gb1); replace HB := A_ (below_step bB_ hb); clear hb hbox hg; obtain ⟨hcz14_0, hcz14_1, hcz14_2, hfz14_0, hfz14_1, hfz14_2⟩ := cz3_ BK1.out) | (go_at_call 125; (with_reducible refine (spec_Plain.calls k a0_0 true _ A3.out).mono ?_); rintro e w' ⟨rfl, ⟨nd, rfl⟩⟩) | (go_at_call 126; (with_reducible refine (spec_SmallName.calls k a0_1 false _ A5.out).mono ?_); rintro e w' ⟨rfl, ⟨nd, rfl⟩⟩))
     go_ret
     exact ⟨rr_, bG_ GE1.out⟩
 . replace c4 := Bool.eq_false_iff.mpr c4
   subst c4
   rw [if_neg nf_] at H
   obtain rfl := si_ H
   go_enter Try.func95, Try.ntmps95
   go_wp2_with (first | ((with_reducible refine gd_ (N := 1) rfl ?_); (try (refine gate_guard (by rfl) ?_; dsimp only)); refine bx_ (N := 1) (cs := #[.string a0_0, .string a0_1, .string a0_2]) (t := 72) ?_; intro gb1 hg w15 hbox hb; have BK1 := A_ (hbox); have GW1 := A_ (ge_ hg bB_ : w.heap.size <= gb1); have GE1 := A_ (ge_ hg bB_ : w.heap.size <= gb1); replace HB := A_ (below_step bB_ hb); clear hb hbox hg; obtain ⟨hcz16_0, hcz16_1, hcz16_2, hfz16_0, hfz16_1, hfz16_2⟩ := cz3_ BK1.out) | (go_at_call 125; (with_reducible refine (spec_Plain.calls k a0_0 false _ A3.out).mono ?_); rintro e w' ⟨rfl, ⟨nd, rfl⟩⟩))
   go_ret
   exact ⟨rr_, bG_ GE1.out⟩
def spec_l10LessProp.f (a0_0 : ByteArray) (a0_1 : ByteArray) (a0_2 : ByteArray) (a1_0 : ByteArray) (a1_1 : ByteArray) (a1_2 : ByteArray) : Option (Bool) := if a0_0.toList = a1_0.toList then (some (Op.bytesLess a0_1.toList a1_1.toList)) else (some (Op.bytesLess a0_0.toList a1_0.toList))
theorem spec_l10LessProp.calls (a0_0 : ByteArray) (a0_1 : ByteArray) (a0_2 : ByteArray) (a1_0 : ByteArray) (a1_1 : ByteArray) (a1_2 : ByteArray) (r : Bool) (w : World) (h : spec_l10LessProp.f a0_0 a0_1 a0_2 a1_0 a1_1 a1_2 = some r) :
 Calls Try.prog 127 #[.agg #[.string a0_0, .string a0_1, .string a0_2], .agg #[.string a1_0, .string a1_1, .string a1_2]] w fun e w' => e = .returned (.bool r) /\ Below w.heap.size w w' := by
 have hu72 := Try.underlying72
 have HB := A_ (Below.refl w.heap.size w)
 have H : (if a0_0.toList = a1_0.toList then (some (Op.bytesLess a0_1.toList a1_1.toList)) else (some (Op.bytesLess a0_0.toList a1_0.toList))) = some r := h
 clear h
 by_cases c3 : a0_0.toList = a1_0.toList
 . rw [if_pos c3] at H
   obtain ⟨c3b0, c3b1⟩ := eT_ c3
   clear c3
   obtain rfl := si_ H
   go_enter Try.func127, Try.ntmps127
   go_wp2_with (first | ((with_reducible refine gd_ (N := 2) rfl ?_); refine bx_ (N := 2) (cs := #[.string a0_0, .string a0_1, .string a0_2]) (t := 72) ?_; intro gb2 hg w4 hbox hb; have BK2 := A_ (hbox); have GW2 := A_ (ge_ hg bB_ : w.heap.size <= gb2); have GE2 := A_ (ge_ hg bB_ : w.heap.size <= gb2); replace HB := A_ (below_step bB_ hb); clear hb hbox hg) | ((with_reducible refine gd_ (N := 3) rfl ?_); refine bx_ (N := 3) (cs := #[.string a1_0, .string a1_1, .string a1_2]) (t := 72) ?_; intro gb14 hg w5 hbox hb; have BK14 := A_ (hbox); have GW14 := A_ (ge_ hg (bG_ GE2.out) : w.heap.size <= gb14); have GE14 := A_ (ge_ hg (bG_ GE2.out) : w.heap.size <= gb14); replace HB := A_ (below_step (bG_ GE2.out) hb); have NB136_137 := A_ (gm_ hg BK2.out); have NB137_136 := A_ (gn_ hg BK2.out); replace BK2 := A_ (bw_ BK2.out hb); clear hb hbox hg; have hnb6 := NB136_137.out; have hnc6 := NB137_136.out; obtain ⟨hcz7_0, hcz7_1, hcz7_2, hfz7_0, hfz7_1, hfz7_2⟩ := cz3_ BK2.out; obtain ⟨hcz8_0, hcz8_1, hcz8_2, hfz8_0, hfz8_1, hfz8_2⟩ := cz3_ BK14.out))
   go_ret
   exact ⟨rr_, by repeat (first | (with_reducible first | exact HB.out | apply below_alloc | apply pw_below_drewN | apply below_drew1 | refine below_set ?_ GE2.out | refine below_set ?_ GE14.out) | exact HB.out)⟩
 rw [if_neg c3] at H
 obtain ⟨c3b0, c3b1⟩ := eF_ c3
 obtain rfl := si_ H
 go_enter Try.func127, Try.ntmps127
 go_wp2_with (first | ((with_reducible refine gd_ (N := 2) rfl ?_); refine bx_ (N := 2) (cs := #[.string a0_0, .string a0_1, .string a0_2]) (t := 72) ?_; intro gb2 hg w9 hbox hb; have BK2 := A_ (hbox); have GW2 := A_ (ge_ hg bB_ : w.heap.size <= gb2); have GE2 := A_ (ge_ hg bB_ : w.heap.size <= gb2); replace HB := A_ (below_step bB_ hb); clear hb hbox hg) | ((with_reducible refine gd_ (N := 3) rfl ?_); refine bx_ (N := 3) (cs := #[.string a1_0, .string a1_1, .string a1_2]) (t := 72) ?_; intro gb14 hg w10 hbox hb; have BK14 := A_ (hbox); have GW14 := A_ (ge_ hg (bG_ GE2.out) : w.heap.size <= gb14); have GE14 := A_ (ge_ hg (bG_ GE2.out) : w.heap.size <= gb14); replace HB := A_ (below_step (bG_ GE2.out) hb); have NB136_137 := A_ (gm_ hg BK2.out); have NB137_136 := A_ (gn_ hg BK2.out); replace BK2 := A_ (bw_ BK2.out hb); clear hb hbox hg; have hnb11 := NB136_137.out; have hnc11 := NB137_136.out; obtain ⟨hcz12_0, hcz12_1, hcz12_2, hfz12_0, hfz12_1, hfz12_2⟩ := cz3_ BK2.out; obtain ⟨hcz13_0, hcz13_1, hcz13_2, hfz13_0, hfz13_1, hfz13_2⟩ := cz3_ BK14.out))
 go_ret
 exact ⟨rr_, by repeat (first | (with_reducible first | exact HB.out | apply below_alloc | apply pw_below_drewN | apply below_drew1 | refine below_set ?_ GE2.out | refine below_set ?_ GE14.out) | exact HB.out)⟩
set_option maxHeartbeats 8000000
set_option maxRecDepth 100000
def spec_NameOk.l0 : Nat -> ByteArray -> Int -> Option (Bool)
 | 0, _, _ => none
 | k + 1, x0, x3 => if x3 < (x0.size : Int) then (if 0 <= x3 then (if (bt x0 x3) = 47 then (some false) else (spec_NameOk.l0 k x0 (wrap64 (x3 + 1)))) else (none)) else ((spec_l1In.f (x0.size : Int) 1 8).bind fun t143 => (if t143 = true then ((spec_Plain.f k x0).bind fun t144 => (if t144 = true then (if x0.toList = ([46] : List UInt8) then (some false) else (some (x0.toList != ([46, 46] : List UInt8)))) else (some false))) else (some false)))
def spec_NameOk.f (k : Nat) (a0 : ByteArray) : Option (Bool) := spec_NameOk.l0 k a0 0
theorem spec_NameOk.calls (k : Nat) (a0 : ByteArray) (r : Bool) (w : World) (h : spec_NameOk.f k a0 = some r) :
 Calls Try.prog 129 #[.string a0] w fun e w' => e = .returned (.bool r) /\ Drawn0 w w' := by
 have H : (spec_NameOk.l0 k a0 0) = some r := h
 clear h
 have H' := A_ H
 clear H
 go_enter Try.func129, Try.ntmps129
 go_wp2
 go_loopg [3] k (fun kq v3 w' => ∃ (x3_1 : Int), v3 = .int .i64 x3_1 /\ Aside0 (spec_NameOk.l0 kq a0 x3_1 = some r) /\ Aside0 (kq <= k) /\ Drawn0 w w')
 case atStart => exact ⟨(0), rs_, H', ⟨Nat.le_refl _⟩, dr_⟩
 case round =>
  clear H'
  obtain ⟨x3_1, rfl, HA, HK1, ⟨m1, rfl⟩⟩ := hrel
  cases gk with
  | zero => exact absurd HA.out (by simp [spec_NameOk.l0])
  | succ k1 =>
   have H := HA.out
   clear HA
   simp only [spec_NameOk.l0] at H
   by_cases c2 : x3_1 < (a0.size : Int)
   . rw [if_pos c2] at H
     have c2b0 := decide_eq_true c2
     clear c2
     by_cases c3 : 0 <= x3_1
     rotate_left
     . exact absurd H (by rw [if_neg c3]; simp)
     rw [if_pos c3] at H
     have c3b0 := decide_eq_true c3
     clear c3
     by_cases c5 : (bt a0 x3_1) = 47
     . rw [if_pos c5] at H
       obtain ⟨c5b0, c5b1⟩ := eT_ c5
       clear c5
       obtain rfl := si_ H
       have p4 : 0 <= (x3_1 : Int) := od_
       have q4 : x3_1 < (a0.size : Int) := od_
       have hx4 := bt_at a0 x3_1
       replace p4 := eq_true p4
       replace q4 := eq_true q4
       go_wp2
       go_ret
       exact ⟨rs_, dr_⟩
     rw [if_neg c5] at H
     obtain ⟨c5b0, c5b1⟩ := eF_ c5
     have H' := A_ H
     clear H
     have p4 : 0 <= (x3_1 : Int) := od_
     have q4 : x3_1 < (a0.size : Int) := od_
     have hx4 := bt_at a0 x3_1
     replace p4 := eq_true p4
     replace q4 := eq_true q4
     go_wp2
     go_roundg k1
     case measure => have := HK1.out; omega
     case rel => exact ⟨(wrap64 (x3_1 + 1)), rs_, H', ⟨by have := HK1.out; omega⟩, dr_⟩
   rw [if_neg c2] at H
   have c2b0 := decide_eq_false c2
   clear c2
   obtain ⟨t11, A6, H⟩ := bo_ H
   (try dsimp only at H)
   by_cases c7 : t11 = true
   . subst c7
     rw [if_pos rfl] at H
     obtain ⟨t12, A8, H⟩ := bo_ H
     (try dsimp only at H)
     by_cases c9 : t12 = true
     . subst c9
       rw [if_pos rfl] at H
       by_cases c10 : a0.toList = ([46] : List UInt8)
       rotate_left
       . rw [if_neg c10] at H
         obtain ⟨c10b0, c10b1⟩ := eF_ c10
         obtain rfl := si_ H
         go_wp2_with (first | ((with_reducible refine gc_ (f := 103) rfl ?_); refine gL_ (some 16) Try.func103 #[.int .i64 (a0.size : Int), .int .i64 1, .int .i64 8] ?_; (with_reducible refine (spec_l1In.calls (a0.size : Int) 1 8 true _ A6.out).mono ?_); rintro e w' ⟨rfl, ⟨nd, rfl⟩⟩; refine ⟨_, rfl, ?_⟩) | (go_at_call 125; (with_reducible refine (spec_Plain.calls k1 a0 true _ A8.out).mono ?_); rintro e w' ⟨rfl, ⟨nd, rfl⟩⟩))
         go_ret
         exact ⟨rs_, dr_⟩
       rw [if_pos c10] at H
       obtain ⟨c10b0, c10b1⟩ := eT_ c10
       clear c10
       obtain rfl := si_ H
       go_wp2_with (first | ((with_reducible refine gc_ (f := 103) rfl ?_); refine gL_ (some 16) Try.func103 #[.int .i64 (a0.size : Int), .int .i64 1, .int .i64 8] ?_; (with_reducible refine (spec_l1In.calls (a0.size : Int) 1 8 true _ A6.out).mono ?_); rintro e w' ⟨rfl, ⟨nd, rfl⟩⟩; refine ⟨_, rfl, ?_⟩) | (go_at_call 125; (with_reducible refine (spec_Plain.calls k1 a0 true _ A8.out).mono ?_); rintro e w' ⟨rfl, ⟨nd, rfl⟩⟩))
       go_ret
       exact ⟨rs_, dr_⟩
     . replace c9 := Bool.eq_false_iff.mpr c9
       subst c9
       rw [if_neg nf_] at H
       obtain rfl := si_ H
       go_wp2_with (first | ((with_reducible refine gc_ (f := 103) rfl ?_); refine gL_ (some 16) Try.func103 #[.int .i64 (a0.size : Int), .int .i64 1, .int .i64 8] ?_; (with_reducible refine (spec_l1In.calls (a0.size : Int) 1 8 true _ A6.out).mono ?_); rintro e w' ⟨rfl, ⟨nd, rfl⟩⟩; refine ⟨_, rfl, ?_⟩) | (go_at_call 125; (with_reducible refine (spec_Plain.calls k1 a0 false _ A8.out).mono ?_); rintro e w' ⟨rfl, ⟨nd, rfl⟩⟩))
       go_ret
       exact ⟨rs_, dr_⟩
   . replace c7 := Bool.eq_false_iff.mpr c7
     subst c7
     rw [if_neg nf_] at H
     obtain rfl := si_ H
     go_wp2_with (first | ((with_reducible refine gc_ (f := 103) rfl ?_); refine gL_ (some 16) Try.func103 #[.int .i64 (a0.size : Int), .int .i64 1, .int .i64 8] ?_; (with_reducible refine (spec_l1In.calls (a0.size : Int) 1 8 false _ A6.out).mono ?_); rintro e w' ⟨rfl, ⟨nd, rfl⟩⟩; refine ⟨_, rfl, ?_⟩))
     go_ret
     exact ⟨rs_, dr_⟩
def spec_PathOk.l0 : Nat -> List ByteArray -> Int -> Option (Bool)
 | 0, _, _ => none
 | k + 1, x0, x3 => if x3 < (x0.length : Int) then (if 0 <= x3 then ((spec_NameOk.f k (rdOf ByteArray.empty x0 x3)).bind fun t146 => (if t146 = true then (spec_PathOk.l0 k x0 (wrap64 (x3 + 1))) else (some false))) else (none)) else (some (decide ((x0.length : Int) <= 4)))
def spec_PathOk.f (k : Nat) (l0 : List ByteArray) : Option (Bool) := spec_PathOk.l0 k l0 0
theorem spec_PathOk.calls (k : Nat) (A0 : Option Addr) (c0 : Nat) (l0 : List ByteArray) (r : Bool) (w : World) (hr0 : Kd.C Kd.string w A0 l0.length l0) (hc0 : l0.length <= c0) (h : spec_PathOk.f k l0 = some r) :
 Calls Try.prog 102 #[.slice A0 l0.length c0] w fun e w' => e = .returned (.bool r) /\ Drawn0 w w' := by
 have HR0 := A_ hr0
 clear hr0 hc0
 have H : (spec_PathOk.l0 k l0 0) = some r := h
 clear h
 have H' := A_ H
 clear H
 go_enter Try.func102, Try.ntmps102
 go_wp2
 go_loopg [3] k (fun kq v3 w' => ∃ (x3_1 : Int), v3 = .int .i64 x3_1 /\ Aside0 (spec_PathOk.l0 kq l0 x3_1 = some r) /\ Aside0 (kq <= k) /\ Drawn0 w w')
 case atStart => exact ⟨(0), rs_, H', ⟨Nat.le_refl _⟩, dr_⟩
 case round =>
  clear H'
  obtain ⟨x3_1, rfl, HA, HK1, ⟨m1, rfl⟩⟩ := hrel
  cases gk with
  | zero => exact absurd HA.out (by simp [spec_PathOk.l0])
  | succ k1 =>
   have H := HA.out
   clear HA
   simp only [spec_PathOk.l0] at H
   by_cases c2 : x3_1 < (l0.length : Int)
   rotate_left
   . rw [if_neg c2] at H
     have c2b0 := decide_eq_false c2
     clear c2
     obtain rfl := si_ H
     go_wp2
     go_ret
     exact ⟨rs_, dr_⟩
   rw [if_pos c2] at H
   have c2b0 := decide_eq_true c2
   clear c2
   by_cases c3 : 0 <= x3_1
   rotate_left
   . exact absurd H (by rw [if_neg c3]; simp)
   rw [if_pos c3] at H
   have c3b0 := decide_eq_true c3
   clear c3
   obtain ⟨t7, A4, H⟩ := bo_ H
   (try dsimp only at H)
   by_cases c5 : t7 = true
   . subst c5
     rw [if_pos rfl] at H
     have H' := A_ H
     clear H
     have p6 : 0 <= (x3_1 : Int) := od_
     have q6 : x3_1 < (l0.length : Int) := od_
     obtain ⟨ad6, e6, hx6_0⟩ := Kd.at_string HR0.out x3_1 p6 q6
     cases e6
     replace p6 := eq_true p6
     replace q6 := eq_true q6
     go_wp2_with (first | ((with_reducible refine gc_ (f := 129) rfl ?_); refine gL_ (some 14) Try.func129 #[.string (rdOf ByteArray.empty l0 x3_1)] ?_; (with_reducible refine (spec_NameOk.calls k1 (rdOf ByteArray.empty l0 x3_1) true _ A4.out).mono ?_); rintro e w' ⟨rfl, ⟨nd, rfl⟩⟩; refine ⟨_, rfl, ?_⟩))
     go_roundg k1
     case measure => have := HK1.out; omega
     case rel => exact ⟨(wrap64 (x3_1 + 1)), rs_, H', ⟨by have := HK1.out; omega⟩, dr_⟩
   . replace c5 := Bool.eq_false_iff.mpr c5
     subst c5
     rw [if_neg nf_] at H
     obtain rfl := si_ H
     have p6 : 0 <= (x3_1 : Int) := od_
     have q6 : x3_1 < (l0.length : Int) := od_
     obtain ⟨ad6, e6, hx6_0⟩ := Kd.at_string HR0.out x3_1 p6 q6
     cases e6
     replace p6 := eq_true p6
     replace q6 := eq_true q6
     go_wp2_with (first | ((with_reducible refine gc_ (f := 129) rfl ?_); refine gL_ (some 14) Try.func129 #[.string (rdOf ByteArray.empty l0 x3_1)] ?_; (with_reducible refine (spec_NameOk.calls k1 (rdOf ByteArray.empty l0 x3_1) false _ A4.out).mono ?_); rintro e w' ⟨rfl, ⟨nd, rfl⟩⟩; refine ⟨_, rfl, ?_⟩))
     go_ret
     exact ⟨rs_, dr_⟩
mutual
def spec_LessPath.l0 : Nat -> List ByteArray -> List ByteArray -> Int -> Option (Bool)
 | 0, _, _, _ => none
 | k + 1, x0, x1, x5 => if x5 < (x0.length : Int) then (spec_LessPath.j1 k x0 x1 x5 (decide (x5 < (x1.length : Int)))) else (spec_LessPath.j1 k x0 x1 x5 false)
def spec_LessPath.j1 : Nat -> List ByteArray -> List ByteArray -> Int -> Bool -> Option (Bool)
 | 0, _, _, _, _ => none
 | k + 1, x0, x1, x5, x15 => if x15 = true then (if 0 <= x5 then (if x5 < (x0.length : Int) then (if x5 < (x1.length : Int) then (if (rdOf ByteArray.empty x0 x5).toList = (rdOf ByteArray.empty x1 x5).toList then (spec_LessPath.l0 k x0 x1 (wrap64 (x5 + 1))) else (some (Op.bytesLess ((rdOf ByteArray.empty x0 x5).toList) ((rdOf ByteArray.empty x1 x5).toList)))) else (none)) else (none)) else (none)) else (some (decide ((x0.length : Int) < (x1.length : Int))))
end
def spec_LessPath.f (k : Nat) (l0 : List ByteArray) (l1 : List ByteArray) : Option (Bool) := spec_LessPath.l0 k l0 l1 0
theorem spec_LessPath.calls (k : Nat) (A0 : Option Addr) (c0 : Nat) (l0 : List ByteArray) (A1 : Option Addr) (c1 : Nat) (l1 : List ByteArray) (r : Bool) (w : World) (hr0 : Kd.C Kd.string w A0 l0.length l0) (hc0 : l0.length <= c0) (hr1 : Kd.C Kd.string w A1 l1.length l1) (hc1 : l1.length <= c1) (h : spec_LessPath.f k l0 l1 = some r) :
 Calls Try.prog 111 #[.slice A0 l0.length c0, .slice A1 l1.length c1] w fun e w' => e = .returned (.bool r) /\ Drawn0 w w' := by
 have HR0 := A_ hr0
 clear hr0 hc0
 have HR1 := A_ hr1
 clear hr1 hc1
 have H : (spec_LessPath.l0 k l0 l1 0) = some r := h
 clear h
 have H' := A_ H
 clear H
 go_enter Try.func111, Try.ntmps111
 go_wp2
 repeat (go_quiet (fail); try go_wp2)
 go_loopg [5] k (fun kq v5 w' => ∃ (x5_1 : Int), v5 = .int .i64 x5_1 /\ Aside0 (spec_LessPath.l0 kq l0 l1 x5_1 = some r) /\ Aside0 (kq <= k) /\ Drawn0 w w')
 case atStart => exact ⟨(0), rs_, H', ⟨Nat.le_refl _⟩, dr_⟩
 case round =>
  clear H'
  obtain ⟨x5_1, rfl, HA, HK1, ⟨m1, rfl⟩⟩ := hrel
  cases gk with
  | zero => exact absurd HA.out (by simp [spec_LessPath.l0])
  | succ k1 =>
   have H := HA.out
   clear HA
   simp only [spec_LessPath.l0] at H
   have HC3 := A_ H
   clear H
   go_upto_region 2 with (fail)
   repeat (go_quiet (fail); go_upto_region 2 with (fail))
   go_cut [15] (fun v15 wc => ∃ (kq : Nat) (x15_2 : Bool), v15 = .bool x15_2 /\ Aside0 (spec_LessPath.j1 kq l0 l1 x5_1 x15_2 = some r) /\ Aside0 (kq <= k1) /\ Drawn0 w wc)
   case first =>
    have H := HC3.out
    clear HC3
    by_cases c4 : x5_1 < (l0.length : Int)
    rotate_left
    . rw [if_neg c4] at H
      have c4b0 := decide_eq_false c4
      clear c4
      (first | rw [c4b0] | (simp only [i64_w, i32_w]; rw [c4b0]) | skip)
      have H' := A_ H
      clear H
      go_wp2
      repeat (go_quiet (fail); try go_wp2)
      go_meet
      case rel => exact ⟨_, (false), rs_, H', ⟨by have := HK1.out; first | omega | exact Nat.le_refl _⟩, dr_⟩
    rw [if_pos c4] at H
    have c4b0 := decide_eq_true c4
    clear c4
    (first | rw [c4b0] | (simp only [i64_w, i32_w]; rw [c4b0]) | skip)
    have H' := A_ H
    clear H
    go_wp2
    repeat (go_quiet (fail); try go_wp2)
    go_meet
    case rel => exact ⟨_, (decide (x5_1 < (l1.length : Int))), rs_, H', ⟨by have := HK1.out; first | omega | exact Nat.le_refl _⟩, dr_⟩
   case rest =>
    clear HC3
    obtain ⟨kq, x15_2, rfl, HA, HJ2, ⟨mc2, rfl⟩⟩ := hcut
    cases kq with
    | zero => exact absurd HA.out (by simp [spec_LessPath.j1])
    | succ kj2 =>
     have H := HA.out
     clear HA
     simp only [spec_LessPath.j1] at H
     by_cases c5 : x15_2 = true
     . subst c5
       rw [if_pos rfl] at H
       by_cases c6 : 0 <= x5_1
       rotate_left
       . exact absurd H (by rw [if_neg c6]; simp)
       rw [if_pos c6] at H
       have c6b0 := decide_eq_true c6
       clear c6
       by_cases c7 : x5_1 < (l0.length : Int)
       rotate_left
       . exact absurd H (by rw [if_neg c7]; simp)
       rw [if_pos c7] at H
       have c7b0 := decide_eq_true c7
       clear c7
       by_cases c8 : x5_1 < (l1.length : Int)
       rotate_left
       . exact absurd H (by rw [if_neg c8]; simp)
       rw [if_pos c8] at H
       have c8b0 := decide_eq_true c8
       clear c8
       by_cases c9 : (rdOf ByteArray.empty l0 x5_1).toList = (rdOf ByteArray.empty l1 x5_1).toList
       . rw [if_pos c9] at H
         obtain ⟨c9b0, c9b1⟩ := eT_ c9
         clear c9
         have H' := A_ H
         clear H
         have p10 : 0 <= (x5_1 : Int) := od_
         have q10 : x5_1 < (l0.length : Int) := od_
         obtain ⟨ad10, e10, hx10_0⟩ := Kd.at_string HR0.out x5_1 p10 q10
         cases e10
         replace p10 := eq_true p10
         replace q10 := eq_true q10
         have p11 : 0 <= (x5_1 : Int) := od_
         have q11 : x5_1 < (l1.length : Int) := od_
         obtain ⟨ad11, e11, hx11_0⟩ := Kd.at_string HR1.out x5_1 p11 q11
         cases e11
         replace p11 := eq_true p11
         replace q11 := eq_true q11
         go_wp2
         repeat (go_quiet (fail); try go_wp2)
         go_roundg kj2
         case measure => have := HK1.out; have := HJ2.out; omega
         case rel => exact ⟨(wrap64 (x5_1 + 1)), rs_, H', ⟨by have := HK1.out; have := HJ2.out; omega⟩, dr_⟩
       rw [if_neg c9] at H
       obtain ⟨c9b0, c9b1⟩ := eF_ c9
       obtain rfl := si_ H
       have p10 : 0 <= (x5_1 : Int) := od_
       have q10 : x5_1 < (l0.length : Int) := od_
       obtain ⟨ad10, e10, hx10_0⟩ := Kd.at_string HR0.out x5_1 p10 q10
       cases e10
       replace p10 := eq_true p10
       replace q10 := eq_true q10
       have p11 : 0 <= (x5_1 : Int) := od_
       have q11 : x5_1 < (l1.length : Int) := od_
       obtain ⟨ad11, e11, hx11_0⟩ := Kd.at_string HR1.out x5_1 p11 q11
       cases e11
       replace p11 := eq_true p11
       replace q11 := eq_true q11
       have p12 : 0 <= (x5_1 : Int) := od_
       have q12 : x5_1 < (l0.length : Int) := od_
       obtain ⟨ad12, e12, hx12_0⟩ := Kd.at_string HR0.out x5_1 p12 q12
       obtain rfl : ad10 = ad12 := (by injection e12)
       replace p12 := eq_true p12
       replace q12 := eq_true q12
       have p13 : 0 <= (x5_1 : Int) := od_
       have q13 : x5_1 < (l1.length : Int) := od_
       obtain ⟨ad13, e13, hx13_0⟩ := Kd.at_string HR1.out x5_1 p13 q13
       obtain rfl : ad11 = ad13 := (by injection e13)
       replace p13 := eq_true p13
       replace q13 := eq_true q13
       go_wp2
       repeat (go_quiet (fail); try go_wp2)
       go_ret
       exact ⟨rs_, dr_⟩
     . replace c5 := Bool.eq_false_iff.mpr c5
       subst c5
       rw [if_neg nf_] at H
       obtain rfl := si_ H
       go_wp2
       repeat (go_quiet (fail); try go_wp2)
       go_ret
       exact ⟨rs_, dr_⟩
def spec_PropsOk.l0 : Nat -> List (S72) -> Int -> Option (Bool)
 | 0, _, _ => none
 | k + 1, x0, x3 => if x3 < (x0.length : Int) then (if 0 <= x3 then ((spec_l10Prop.f k ((rd_T72 x0 x3).f0) ((rd_T72 x0 x3).f1) ((rd_T72 x0 x3).f2)).bind fun t139 => (if t139 = true then (if x3 > 0 then (if 0 <= (wrap64 (x3 - 1)) then (if (wrap64 (x3 - 1)) < (x0.length : Int) then ((spec_l10LessProp.f ((rd_T72 x0 (wrap64 (x3 - 1))).f0) ((rd_T72 x0 (wrap64 (x3 - 1))).f1) ((rd_T72 x0 (wrap64 (x3 - 1))).f2) ((rd_T72 x0 x3).f0) ((rd_T72 x0 x3).f1) ((rd_T72 x0 x3).f2)).bind fun t142 => (if t142 = true then (spec_PropsOk.l0 k x0 (wrap64 (x3 + 1))) else (some false))) else (none)) else (none)) else (spec_PropsOk.l0 k x0 (wrap64 (x3 + 1)))) else (some false))) else (none)) else (some (decide ((x0.length : Int) <= 4)))
def spec_PropsOk.f (k : Nat) (l0 : List (S72)) : Option (Bool) := spec_PropsOk.l0 k l0 0
def spec_PropsOk.T4 : Bool × List (List Nat × List Nat) := (true, [([], []), ([], []), ([0, 1], [0, 1]), ([2], [2]), ([3], [3]), ([4], [4]), ([5, 4], [5]), ([6], [6]), ([7, 6], [6, 7]), ([8, 6, 6], [6, 8]), ([9], [9]), ([9], [9]), ([11, 9], [9, 11]), ([10, 12, 9], [9, 10, 12]), ([13, 9], [9, 13]), ([9], [9]), ([9], [9]), ([15, 16, 9], [9, 15, 16]), ([17, 9], [9, 17]), ([14, 18, 9, 9], [9, 14, 18]), ([19, 9], [9, 19]), ([9, 20, 6], [6, 9, 20]), ([6, 21], [6, 21])])
def spec_PropsOk.B4 : List Nat := [0, 0, 3, 7, 15, 31, 63, 127, 255, 511, 1023, 1023, 3071, 8191, 16383, 1023, 1023, 99327, 230399, 524287, 1048575, 2097151, 4194303]
theorem spec_PropsOk.tab4 : rtab .any (opsOf Try.f97 4) = spec_PropsOk.T4 := by kernel_rfl
theorem spec_PropsOk.bits4 : waitsOk spec_PropsOk.T4.2 spec_PropsOk.B4 = true := by kernel_rfl
set_option maxHeartbeats 8000000 in
set_option maxRecDepth 100000 in
theorem spec_PropsOk.calls (k : Nat) (A0 : Option Addr) (c0 : Nat) (l0 : List (S72)) (r : Bool) (w : World) (hr0 : Kd.C k72 w A0 l0.length l0) (hc0 : l0.length <= c0) (h : spec_PropsOk.f k l0 = some r) :
 Calls Try.prog 97 #[.slice A0 l0.length c0] w fun e w' => e = .returned (.bool r) /\ Below w.heap.size w w' := by
 have hu72 := Try.underlying72
 have HR0 := A_ hr0
 clear hr0 hc0
 have HB := A_ (Below.refl w.heap.size w)
 have H : (spec_PropsOk.l0 k l0 0) = some r := h
 clear h
 have H' := A_ H
 clear H
 go_enter Try.func97, Try.ntmps97
 go_wp2
 go_loopg [3] k (fun kq v3 w' => ∃ (x3_1 : Int), v3 = .int .i64 x3_1 /\ Aside0 (spec_PropsOk.l0 kq l0 x3_1 = some r) /\ Aside0 (kq <= k) /\ Aside0 (Below w.heap.size w w'))
 case atStart => exact ⟨(0), rs_, H', ⟨Nat.le_refl _⟩, ⟨bB_⟩⟩
 case round =>
  clear H'
  obtain ⟨x3_1, rfl, HA, HK1, HB⟩ := hrel
  cases gk with
  | zero => exact absurd HA.out (by simp [spec_PropsOk.l0])
  | succ k1 =>
   have H := HA.out
   clear HA
   simp only [spec_PropsOk.l0] at H
   by_cases c2 : x3_1 < (l0.length : Int)
   rotate_left
   . rw [if_neg c2] at H
     have c2b0 := decide_eq_false c2
     clear c2
     obtain rfl := si_ H
     go_wp2
     go_ret
     exact ⟨rr_, bB_⟩
   rw [if_pos c2] at H
   have c2b0 := decide_eq_true c2
   clear c2
   by_cases c3 : 0 <= x3_1
   rotate_left
   . exact absurd H (by rw [if_neg c3]; simp)
   rw [if_pos c3] at H
   have c3b0 := decide_eq_true c3
   clear c3
   obtain ⟨t26, A4, H⟩ := bo_ H
   (try dsimp only at H)
   by_cases c5 : t26 = true
   . subst c5
     rw [if_pos rfl] at H
     by_cases c6 : x3_1 > 0
     rotate_left
     . rw [if_neg c6] at H
       have c6b0 : decide (0 < x3_1) = false := decide_eq_false c6
       clear c6
       have H' := A_ H
       clear H
       try go_wp2
       replace HB := A_ (below_drew1 HB.out)
       have p22 : 0 <= (x3_1 : Int) := od_
       have q22 : x3_1 < (l0.length : Int) := od_
       obtain ⟨ad22, e22, hx22_0, hx22_1, hx22_2⟩ := at_T72 HR0.out x3_1 p22 q22
       have hw22_2 := hx22_2
       have hw22_1 := hx22_1
       have hw22_0 := hx22_0
       cases e22
       replace hx22_0 := bc_ HB.out hx22_0
       replace hx22_1 := bc_ HB.out hx22_1
       replace hx22_2 := bc_ HB.out hx22_2
       replace p22 := eq_true p22
       replace q22 := eq_true q22
       refine st3_ (n := 23) (ds := []) (be_ hw22_0) (be_ hw22_1) (be_ hw22_2) (fun hHeld => ?_); refine with_tabW spec_PropsOk.tab4 spec_PropsOk.bits4 (fun HT_ HW_ => ?_)
       generalize wr.drew = w18 at HB hx22_0 hx22_1 hx22_2 hHeld ⊢
       refine pu_ (i := 0) (N := some 10) ?_
       refine pu_ (i := 1) (N := some 11) ?_
       refine pu_ (i := 2) (N := some 12) ?_
       refine tk_ (i := 3) (N := some 13) hHeld ?_
       refine on_ (i := 4) (N := some 14) (fun K hK => ?_)
       refine goes_ Try.func95 (by kernel_rfl) rfl #[.agg #[.string ((rd_T72 l0 x3_1).f0), .string ((rd_T72 l0 x3_1).f1), .string ((rd_T72 l0 x3_1).f2)]] (by rfl) rfl rfl ml_ ?_
       with_reducible refine (spec_l10Prop.calls k1 ((rd_T72 l0 x3_1).f0) ((rd_T72 l0 x3_1).f1) ((rd_T72 l0 x3_1).f2) true _ A4.out).mono ?_
       rintro e w19 ⟨rfl, hb⟩
       refine ⟨_, rfl, ?_⟩
       replace HB := A_ (below_step bB_ hb)
       clear hb
       refine hK.out _ _ ⟨(be_ hw22_0), (be_ hw22_1), (be_ hw22_2)⟩ (fun hHeld => ?_)
       clear hK K
       refine no_ (some 14) ?_
       refine pu_ (i := 5) (N := some 15) ?_
       refine pu_ (i := 6) (N := some 16) ?_
       refine pu_ (i := 7) (N := some 17) ?_
       refine pu_ (i := 8) (N := some 18) ?_
       refine pu_ (i := 9) (N := some 19) ?_
       refine pn_ (i := 10) (N := some 20) ?_
       refine pn_ (i := 11) (N := some 21) ?_
       refine pn_ (i := 12) (N := some 22) ?_
       refine pn_ (i := 13) (N := some 23) ?_
       refine pn_ (i := 14) (N := some 24) ?_
       refine pn_ (i := 15) (N := some 25) ?_
       refine pn_ (i := 16) (N := some 26) ?_
       refine pn_ (i := 17) (N := some 27) ?_
       refine pn_ (i := 18) (N := some 28) ?_
       refine pn_ (i := 19) (N := some 29) ?_
       refine pn_ (i := 20) (N := some 30) ?_
       refine pu_ (i := 21) (N := some 31) ?_
       refine pu_ (i := 22) (N := some 32) ?_
       refine done_ (done_of HT_.out (by kernel_rfl)) ?_
       (try clear hHeld)
       try go_wp2
       go_roundg k1
       case measure => have := HK1.out; omega
       case rel => exact ⟨(wrap64 (x3_1 + 1)), rs_, H', ⟨by have := HK1.out; omega⟩, ⟨bB_⟩⟩
     rw [if_pos c6] at H
     have c6b0 : decide (0 < x3_1) = true := decide_eq_true c6
     clear c6
     obtain ⟨ji7, hji7⟩ : ∃ j_ : Int, (wrap64 (x3_1 - 1)) = j_ := ⟨_, rfl⟩
     replace H : (if 0 <= (ji7) then (if (ji7) < (l0.length : Int) then ((spec_l10LessProp.f ((rd_T72 l0 (ji7)).f0) ((rd_T72 l0 (ji7)).f1) ((rd_T72 l0 (ji7)).f2) ((rd_T72 l0 x3_1).f0) ((rd_T72 l0 x3_1).f1) ((rd_T72 l0 x3_1).f2)).bind fun t25 => (if t25 = true then (spec_PropsOk.l0 k1 l0 (wrap64 (x3_1 + 1))) else (some false))) else (none)) else (none)) = some r := by first | (rw [hji7] at H; exact H) | (simp only [hji7] at H ⊢; exact H)
     (try rw [hji7] at A4)
     have hji7w : (IntKind.i64.wrap (x3_1 - 1)) = ji7 := (i64_w _).trans hji7
     by_cases c8 : 0 <= (ji7)
     rotate_left
     . exact absurd H (by rw [if_neg c8]; simp)
     rw [if_pos c8] at H
     have c8b0 := decide_eq_true c8
     clear c8
     by_cases c9 : (ji7) < (l0.length : Int)
     rotate_left
     . exact absurd H (by rw [if_neg c9]; simp)
     rw [if_pos c9] at H
     have c9b0 := decide_eq_true c9
     clear c9
     obtain ⟨t25, A10, H⟩ := bo_ H
     (try dsimp only at H)
     by_cases c11 : t25 = true
     . subst c11
       rw [if_pos rfl] at H
       have H' := A_ H
       clear H
       try go_wp2
       replace HB := A_ (below_drew1 HB.out)
       have p22 : 0 <= (x3_1 : Int) := od_
       have q22 : x3_1 < (l0.length : Int) := od_
       obtain ⟨ad22, e22, hx22_0, hx22_1, hx22_2⟩ := at_T72 HR0.out x3_1 p22 q22
       have hw22_2 := hx22_2
       have hw22_1 := hx22_1
       have hw22_0 := hx22_0
       cases e22
       replace hx22_0 := bc_ HB.out hx22_0
       replace hx22_1 := bc_ HB.out hx22_1
       replace hx22_2 := bc_ HB.out hx22_2
       replace p22 := eq_true p22
       replace q22 := eq_true q22
       have p23 : 0 <= ((ji7) : Int) := od_
       have q23 : (ji7) < (l0.length : Int) := od_
       obtain ⟨ad23, e23, hx23_0, hx23_1, hx23_2⟩ := at_T72 HR0.out (ji7) p23 q23
       have hw23_2 := hx23_2
       have hw23_1 := hx23_1
       have hw23_0 := hx23_0
       obtain rfl : ad22 = ad23 := (by injection e23)
       replace hx23_0 := bc_ HB.out hx23_0
       replace hx23_1 := bc_ HB.out hx23_1
       replace hx23_2 := bc_ HB.out hx23_2
       replace p23 := eq_true p23
       replace q23 := eq_true q23
       have p24 : 0 <= (x3_1 : Int) := od_
       have q24 : x3_1 < (l0.length : Int) := od_
       obtain ⟨ad24, e24, hx24_0, hx24_1, hx24_2⟩ := at_T72 HR0.out x3_1 p24 q24
       have hw24_2 := hx24_2
       have hw24_1 := hx24_1
       have hw24_0 := hx24_0
       obtain rfl : ad22 = ad24 := (by injection e24)
       replace hx24_0 := bc_ HB.out hx24_0
       replace hx24_1 := bc_ HB.out hx24_1
       replace hx24_2 := bc_ HB.out hx24_2
       replace p24 := eq_true p24
       replace q24 := eq_true q24
       refine st9_ (n := 23) (ds := []) (be_ hw22_0) (be_ hw22_1) (be_ hw22_2) (be_ hw23_0) (be_ hw23_1) (be_ hw23_2) (be_ hw24_0) (be_ hw24_1) (be_ hw24_2) (fun hHeld => ?_); refine with_tabW spec_PropsOk.tab4 spec_PropsOk.bits4 (fun HT_ HW_ => ?_)
       generalize wr.drew = w12 at HB hx22_0 hx22_1 hx22_2 hx23_0 hx23_1 hx23_2 hx24_0 hx24_1 hx24_2 hHeld ⊢
       refine pu_ (i := 0) (N := some 10) ?_
       refine pu_ (i := 1) (N := some 11) ?_
       refine pu_ (i := 2) (N := some 12) ?_
       refine tk_ (i := 3) (N := some 13) hHeld ?_
       refine on_ (i := 4) (N := some 14) (fun K hK => ?_)
       refine goes_ Try.func95 (by kernel_rfl) rfl #[.agg #[.string ((rd_T72 l0 x3_1).f0), .string ((rd_T72 l0 x3_1).f1), .string ((rd_T72 l0 x3_1).f2)]] (by rfl) rfl rfl ml_ ?_
       with_reducible refine (spec_l10Prop.calls k1 ((rd_T72 l0 x3_1).f0) ((rd_T72 l0 x3_1).f1) ((rd_T72 l0 x3_1).f2) true _ A4.out).mono ?_
       rintro e w13 ⟨rfl, hb⟩
       refine ⟨_, rfl, ?_⟩
       replace HB := A_ (below_step bB_ hb)
       clear hb
       refine hK.out _ _ ⟨(be_ hw22_0), (be_ hw22_1), (be_ hw22_2), (be_ hw23_0), (be_ hw23_1), (be_ hw23_2), (be_ hw24_0), (be_ hw24_1), (be_ hw24_2)⟩ (fun hHeld => ?_)
       clear hK K
       refine no_ (some 14) ?_
       refine pu_ (i := 5) (N := some 15) ?_
       refine pu_ (i := 6) (N := some 16) ?_
       refine pu_ (i := 7) (N := some 17) ?_
       refine pu_ (i := 8) (N := some 18) ?_
       refine pu_ (i := 9) (N := some 19) ?_
       refine pu_ (i := 10) (N := some 20) ?_
       refine pu_ (i := 11) (N := some 21) ?_
       refine pu_ (i := 12) (N := some 22) ?_
       refine pu_ (i := 13) (N := some 23) ?_
       refine pu_ (i := 15) (N := some 25) ?_
       refine pu_ (i := 16) (N := some 26) ?_
       refine pu_ (i := 17) (N := some 27) ?_
       refine tk_ (i := 14) (N := some 24) hHeld ?_
       refine tk_ (i := 18) (N := some 28) hHeld ?_
       refine on_ (i := 19) (N := some 29) (fun K hK => ?_)
       refine goes_ Try.func127 (by kernel_rfl) rfl #[.agg #[.string ((rd_T72 l0 (ji7)).f0), .string ((rd_T72 l0 (ji7)).f1), .string ((rd_T72 l0 (ji7)).f2)], .agg #[.string ((rd_T72 l0 x3_1).f0), .string ((rd_T72 l0 x3_1).f1), .string ((rd_T72 l0 x3_1).f2)]] (by rfl) rfl rfl (by (try simp only [List.map_toArray, List.map_cons, List.map_nil]); first | done | (simp only [hji7]; rfl) | rfl | (simp only [List.length_drop, List.length_take]; rfl)) ?_
       with_reducible refine (spec_l10LessProp.calls ((rd_T72 l0 (ji7)).f0) ((rd_T72 l0 (ji7)).f1) ((rd_T72 l0 (ji7)).f2) ((rd_T72 l0 x3_1).f0) ((rd_T72 l0 x3_1).f1) ((rd_T72 l0 x3_1).f2) true _ A10.out).mono ?_
       rintro e w14 ⟨rfl, hb⟩
       refine ⟨_, rfl, ?_⟩
       replace HB := A_ (below_step bB_ hb)
       clear hb
       refine hK.out _ _ ⟨(be_ hw22_0), (be_ hw22_1), (be_ hw22_2), (be_ hw23_0), (be_ hw23_1), (be_ hw23_2), (be_ hw24_0), (be_ hw24_1), (be_ hw24_2)⟩ (fun hHeld => ?_)
       clear hK K
       refine no_ (some 29) ?_
       refine pu_ (i := 20) (N := some 30) ?_
       refine pu_ (i := 21) (N := some 31) ?_
       refine pu_ (i := 22) (N := some 32) ?_
       refine done_ (done_of HT_.out (by kernel_rfl)) ?_
       (try clear hHeld)
       try go_wp2
       go_roundg k1
       case measure => have := HK1.out; omega
       case rel => exact ⟨(wrap64 (x3_1 + 1)), rs_, H', ⟨by have := HK1.out; omega⟩, ⟨bB_⟩⟩
     . replace c11 := Bool.eq_false_iff.mpr c11
       subst c11
       rw [if_neg nf_] at H
       obtain rfl := si_ H
       try go_wp2
       replace HB := A_ (below_drew1 HB.out)
       have p22 : 0 <= (x3_1 : Int) := od_
       have q22 : x3_1 < (l0.length : Int) := od_
       obtain ⟨ad22, e22, hx22_0, hx22_1, hx22_2⟩ := at_T72 HR0.out x3_1 p22 q22
       have hw22_2 := hx22_2
       have hw22_1 := hx22_1
       have hw22_0 := hx22_0
       cases e22
       replace hx22_0 := bc_ HB.out hx22_0
       replace hx22_1 := bc_ HB.out hx22_1
       replace hx22_2 := bc_ HB.out hx22_2
       replace p22 := eq_true p22
       replace q22 := eq_true q22
       have p23 : 0 <= ((ji7) : Int) := od_
       have q23 : (ji7) < (l0.length : Int) := od_
       obtain ⟨ad23, e23, hx23_0, hx23_1, hx23_2⟩ := at_T72 HR0.out (ji7) p23 q23
       have hw23_2 := hx23_2
       have hw23_1 := hx23_1
       have hw23_0 := hx23_0
       obtain rfl : ad22 = ad23 := (by injection e23)
       replace hx23_0 := bc_ HB.out hx23_0
       replace hx23_1 := bc_ HB.out hx23_1
       replace hx23_2 := bc_ HB.out hx23_2
       replace p23 := eq_true p23
       replace q23 := eq_true q23
       have p24 : 0 <= (x3_1 : Int) := od_
       have q24 : x3_1 < (l0.length : Int) := od_
       obtain ⟨ad24, e24, hx24_0, hx24_1, hx24_2⟩ := at_T72 HR0.out x3_1 p24 q24
       have hw24_2 := hx24_2
       have hw24_1 := hx24_1
       have hw24_0 := hx24_0
       obtain rfl : ad22 = ad24 := (by injection e24)
       replace hx24_0 := bc_ HB.out hx24_0
       replace hx24_1 := bc_ HB.out hx24_1
       replace hx24_2 := bc_ HB.out hx24_2
       replace p24 := eq_true p24
       replace q24 := eq_true q24
       refine st9_ (n := 23) (ds := []) (be_ hw22_0) (be_ hw22_1) (be_ hw22_2) (be_ hw23_0) (be_ hw23_1) (be_ hw23_2) (be_ hw24_0) (be_ hw24_1) (be_ hw24_2) (fun hHeld => ?_); refine with_tabW spec_PropsOk.tab4 spec_PropsOk.bits4 (fun HT_ HW_ => ?_)
       generalize wr.drew = w15 at HB hx22_0 hx22_1 hx22_2 hx23_0 hx23_1 hx23_2 hx24_0 hx24_1 hx24_2 hHeld ⊢
       refine pu_ (i := 0) (N := some 10) ?_
       refine pu_ (i := 1) (N := some 11) ?_
       refine pu_ (i := 2) (N := some 12) ?_
       refine tk_ (i := 3) (N := some 13) hHeld ?_
       refine on_ (i := 4) (N := some 14) (fun K hK => ?_)
       refine goes_ Try.func95 (by kernel_rfl) rfl #[.agg #[.string ((rd_T72 l0 x3_1).f0), .string ((rd_T72 l0 x3_1).f1), .string ((rd_T72 l0 x3_1).f2)]] (by rfl) rfl rfl ml_ ?_
       with_reducible refine (spec_l10Prop.calls k1 ((rd_T72 l0 x3_1).f0) ((rd_T72 l0 x3_1).f1) ((rd_T72 l0 x3_1).f2) true _ A4.out).mono ?_
       rintro e w16 ⟨rfl, hb⟩
       refine ⟨_, rfl, ?_⟩
       replace HB := A_ (below_step bB_ hb)
       clear hb
       refine hK.out _ _ ⟨(be_ hw22_0), (be_ hw22_1), (be_ hw22_2), (be_ hw23_0), (be_ hw23_1), (be_ hw23_2), (be_ hw24_0), (be_ hw24_1), (be_ hw24_2)⟩ (fun hHeld => ?_)
       clear hK K
       refine no_ (some 14) ?_
       refine pu_ (i := 5) (N := some 15) ?_
       refine pu_ (i := 6) (N := some 16) ?_
       refine pu_ (i := 7) (N := some 17) ?_
       refine pu_ (i := 8) (N := some 18) ?_
       refine pu_ (i := 9) (N := some 19) ?_
       refine pu_ (i := 10) (N := some 20) ?_
       refine pu_ (i := 11) (N := some 21) ?_
       refine pu_ (i := 12) (N := some 22) ?_
       refine pu_ (i := 13) (N := some 23) ?_
       refine pu_ (i := 15) (N := some 25) ?_
       refine pu_ (i := 16) (N := some 26) ?_
       refine pu_ (i := 17) (N := some 27) ?_
       refine tk_ (i := 14) (N := some 24) hHeld ?_
       refine tk_ (i := 18) (N := some 28) hHeld ?_
       refine on_ (i := 19) (N := some 29) (fun K hK => ?_)
       refine goes_ Try.func127 (by kernel_rfl) rfl #[.agg #[.string ((rd_T72 l0 (ji7)).f0), .string ((rd_T72 l0 (ji7)).f1), .string ((rd_T72 l0 (ji7)).f2)], .agg #[.string ((rd_T72 l0 x3_1).f0), .string ((rd_T72 l0 x3_1).f1), .string ((rd_T72 l0 x3_1).f2)]] (by rfl) rfl rfl (by (try simp only [List.map_toArray, List.map_cons, List.map_nil]); first | done | (simp only [hji7]; rfl) | rfl | (simp only [List.length_drop, List.length_take]; rfl)) ?_
       with_reducible refine (spec_l10LessProp.calls ((rd_T72 l0 (ji7)).f0) ((rd_T72 l0 (ji7)).f1) ((rd_T72 l0 (ji7)).f2) ((rd_T72 l0 x3_1).f0) ((rd_T72 l0 x3_1).f1) ((rd_T72 l0 x3_1).f2) false _ A10.out).mono ?_
       rintro e w17 ⟨rfl, hb⟩
       refine ⟨_, rfl, ?_⟩
       replace HB := A_ (below_step bB_ hb)
       clear hb
       refine hK.out _ _ ⟨(be_ hw22_0), (be_ hw22_1), (be_ hw22_2), (be_ hw23_0), (be_ hw23_1), (be_ hw23_2), (be_ hw24_0), (be_ hw24_1), (be_ hw24_2)⟩ (fun hHeld => ?_)
       clear hK K
       refine no_ (some 29) ?_
       refine pu_ (i := 20) (N := some 30) ?_
       refine pu_ (i := 21) (N := some 31) ?_
       refine pu_ (i := 22) (N := some 32) ?_
       refine done_ (done_of HT_.out (by kernel_rfl)) ?_
       (try clear hHeld)
       try go_wp2
       go_ret
       exact ⟨by first | rfl | (simp [errW_none, errW_some] <;> rfl) | (simp only [← hji7]; first | rfl | (simp [errW_none, errW_some] <;> rfl)) | (simp [*, errW_none, errW_some] <;> rfl), bB_⟩
   . replace c5 := Bool.eq_false_iff.mpr c5
     subst c5
     rw [if_neg nf_] at H
     obtain rfl := si_ H
     try go_wp2
     replace HB := A_ (below_drew1 HB.out)
     have p22 : 0 <= (x3_1 : Int) := od_
     have q22 : x3_1 < (l0.length : Int) := od_
     obtain ⟨ad22, e22, hx22_0, hx22_1, hx22_2⟩ := at_T72 HR0.out x3_1 p22 q22
     have hw22_2 := hx22_2
     have hw22_1 := hx22_1
     have hw22_0 := hx22_0
     cases e22
     replace hx22_0 := bc_ HB.out hx22_0
     replace hx22_1 := bc_ HB.out hx22_1
     replace hx22_2 := bc_ HB.out hx22_2
     replace p22 := eq_true p22
     replace q22 := eq_true q22
     refine st3_ (n := 23) (ds := []) (be_ hw22_0) (be_ hw22_1) (be_ hw22_2) (fun hHeld => ?_); refine with_tabW spec_PropsOk.tab4 spec_PropsOk.bits4 (fun HT_ HW_ => ?_)
     generalize wr.drew = w20 at HB hx22_0 hx22_1 hx22_2 hHeld ⊢
     refine pu_ (i := 0) (N := some 10) ?_
     refine pu_ (i := 1) (N := some 11) ?_
     refine pu_ (i := 2) (N := some 12) ?_
     refine tk_ (i := 3) (N := some 13) hHeld ?_
     refine on_ (i := 4) (N := some 14) (fun K hK => ?_)
     refine goes_ Try.func95 (by kernel_rfl) rfl #[.agg #[.string ((rd_T72 l0 x3_1).f0), .string ((rd_T72 l0 x3_1).f1), .string ((rd_T72 l0 x3_1).f2)]] (by rfl) rfl rfl ml_ ?_
     with_reducible refine (spec_l10Prop.calls k1 ((rd_T72 l0 x3_1).f0) ((rd_T72 l0 x3_1).f1) ((rd_T72 l0 x3_1).f2) false _ A4.out).mono ?_
     rintro e w21 ⟨rfl, hb⟩
     refine ⟨_, rfl, ?_⟩
     replace HB := A_ (below_step bB_ hb)
     clear hb
     refine hK.out _ _ ⟨(be_ hw22_0), (be_ hw22_1), (be_ hw22_2)⟩ (fun hHeld => ?_)
     clear hK K
     refine no_ (some 14) ?_
     refine pu_ (i := 5) (N := some 15) ?_
     refine pu_ (i := 6) (N := some 16) ?_
     refine pn_ (i := 7) (N := some 17) ?_
     refine pn_ (i := 8) (N := some 18) ?_
     refine pn_ (i := 9) (N := some 19) ?_
     refine pn_ (i := 10) (N := some 20) ?_
     refine pn_ (i := 11) (N := some 21) ?_
     refine pn_ (i := 12) (N := some 22) ?_
     refine pn_ (i := 13) (N := some 23) ?_
     refine pn_ (i := 14) (N := some 24) ?_
     refine pn_ (i := 15) (N := some 25) ?_
     refine pn_ (i := 16) (N := some 26) ?_
     refine pn_ (i := 17) (N := some 27) ?_
     refine pn_ (i := 18) (N := some 28) ?_
     refine pn_ (i := 19) (N := some 29) ?_
     refine pn_ (i := 20) (N := some 30) ?_
     refine pn_ (i := 21) (N := some 31) ?_
     refine pu_ (i := 22) (N := some 32) ?_
     refine done_ (done_of HT_.out (by kernel_rfl)) ?_
     (try clear hHeld)
     try go_wp2
     go_ret
     exact ⟨rr_, bB_⟩
end Go.Proofs.Ytbgggcgjijljkaa.Q
