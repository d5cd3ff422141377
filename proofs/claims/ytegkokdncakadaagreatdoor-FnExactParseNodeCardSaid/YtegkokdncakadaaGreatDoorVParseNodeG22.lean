-- PRINTED by print.py (a twelfth state) out of the translation. Not trusted: Lean checks it.
import Derived.Test.YtegkokdncakadaaGreatDoorProg
import Derived.Below
import Derived.Deep.Draws
import Derived.Deep.AppendLies
import Derived.Maps.AppendAt
import Derived.OwnWalk
import Derived.Laws.BytesArg
import Derived.Laws.MakeOwn
import Derived.Laws.OwnMore
import Derived.Deep.OwnRows
import Derived.Tactics
import Derived.Lib.ConvBytes
import Derived.Laws.Slices
import Derived.WalkKit
import Derived.KernelRfl
import Derived.RowKit3
import Derived.Deep.LoopGhost
import Derived.Deep.QuietTactic
import Derived.BigQuiet
import Derived.WideLaws
import Derived.Deep.DeepCutAuto
import Derived.Deep.CutBlock
import Derived.Deep.RegionHeld3
import Derived.Laws.Rows
import Derived.Lib.AppendStr
import Derived.ArgAppend
import Derived.Laws.IdiomCopy
import Derived.OrdersHeld
import Derived.Laws.BitsLemmas
import Derived.RowKit
import Derived.Test.YtegkokdncakadaaGreatDoorVParseNodeG12
import Derived.Test.YtegkokdncakadaaGreatDoorVParseNodeWFour
import Derived.Test.YtegkokdncakadaaGreatDoorVParseNodeWAt
import Derived.Test.YtegkokdncakadaaGreatDoorVParseNodeWEqStruct
import Derived.Test.YtegkokdncakadaaGreatDoorVParseNodeWRepsOne
import Derived.Test.YtegkokdncakadaaGreatDoorVParseNodeWInvWords
import Derived.Test.YtegkokdncakadaaGreatDoorVParseNodeWGuard
namespace Go.Proofs.YtegkokdncakadaaGreatDoor.Q
open Go.RowKit Go.Proofs.YtegkokdncakadaaGreatDoorW.PrintWords Go.Proofs.YtegkokdncakadaaGreatDoorW.PrintLast Go.Proofs.YtegkokdncakadaaGreatDoorW.PrintMore
attribute [local go_sem] max2_int min2_int max_two min_two max_three min_three max_four min_four   -- for this text's walks alone
set_option linter.unusedVariables false
set_option linter.unusedSimpArgs false
def errW : Option Int → Value
  | none => .nilIface
  | some c => .iface 0 (.int .i64 c)
theorem errW_none : errW none = .nilIface := rfl
theorem errW_some (c : Int) : errW (some c) = .iface 0 (.int .i64 c) := rfl
theorem info5 : (Tryz.prog.info? 5).map (fun i => (i.zero, i.size, i.bytes)) = some (some (.int .u8 0), 1, 1) := by kernel_rfl
theorem info24 : (Tryz.prog.info? 24).map (fun i => (i.zero, i.size, i.bytes)) = some (some (.agg #[(.string ⟨#[]⟩), (.string ⟨#[]⟩), (.string ⟨#[]⟩), (.slice none 0 0)]), 4, 72) := by kernel_rfl
theorem info82 : (Tryz.prog.info? 82).map (fun i => (i.zero, i.size, i.bytes)) = some (some (.agg #[(.int .i64 0), (.string ⟨#[]⟩), (.string ⟨#[]⟩), (.bool false), (.string ⟨#[]⟩)]), 5, 64) := by kernel_rfl
-- the values' own types
structure S24 where
  f0 : ByteArray
  f1 : ByteArray
  f2 : ByteArray
  f3 : (List S24)
def z24 : S24 := ⟨(⟨#[]⟩ : ByteArray), (⟨#[]⟩ : ByteArray), (⟨#[]⟩ : ByteArray), ([] : List S24)⟩
def F24 (d : Kd S24) : Kd S24 := Kd.iso (Kd.pair Kd.string (Kd.pair Kd.string (Kd.pair Kd.string (Kd.slice 24 d)))) (fun x : S24 => (x.f0, x.f1, x.f2, x.f3))
theorem mono24 : Kd.Mono F24 := Kd.mono_iso _ (Kd.mono_pair (Kd.mono_const _) (Kd.mono_pair (Kd.mono_const _) (Kd.mono_pair (Kd.mono_const _) (Kd.mono_slice 24 Kd.mono_id))))
theorem sub24 : Kd.Sub F24 [24] := Kd.sub_iso _ (Kd.sub_pair (Kd.sub_const _ (by decide)) (Kd.sub_pair (Kd.sub_const _ (by decide)) (Kd.sub_pair (Kd.sub_const _ (by decide)) (Kd.sub_slice 24 (by decide) Kd.sub_id))))
theorem sz24 : ∀ n, (Kd.upto F24 4 [24] n).sz = 4 := Kd.upto_sz (fun _ => rfl)
def k24 : Kd S24 := Kd.fix F24 4 [24] sz24 (Kd.upto_E sub24)
theorem k24_open {w : World} {x : S24} {cs : List Value} (h : k24.K w x cs) : ∃ A3 c3, cs = [.string x.f0, .string x.f1, .string x.f2, .slice A3 x.f3.length c3] ∧ x.f3.length ≤ c3 ∧ k24.C w A3 x.f3.length x.f3 := by
  obtain ⟨n, h⟩ := h
  cases n with
  | zero => exact h.elim
  | succ n =>
    obtain ⟨_, _, rfl, rfl, ⟨_, _, rfl, rfl, ⟨_, _, rfl, rfl, ⟨A3, c3, rfl, l3, g3⟩⟩⟩⟩ := h
    exact ⟨A3, c3, rfl, l3, Kd.fix_C g3⟩
def rd_T24 (xs : List S24) (i : Int) : S24 := xs.getD i.toNat z24
theorem at_T24 {w : World} {A : Option Addr} {n : Nat} {xs : List S24} (h : Kd.C k24 w A n xs) (i : Int) (h0 : 0 ≤ i) (h1 : i < n) : ∃ ad A3 c3, A = some ad ∧ w.cell? (ad.add (i.toNat * 4)) = some (.string (rd_T24 xs i).f0) ∧ w.cell? ⟨(ad.add (i.toNat * 4)).block, (ad.add (i.toNat * 4)).off + 1, none⟩ = some (.string (rd_T24 xs i).f1) ∧ w.cell? ⟨(ad.add (i.toNat * 4)).block, (ad.add (i.toNat * 4)).off + 2, none⟩ = some (.string (rd_T24 xs i).f2) ∧ w.cell? ⟨(ad.add (i.toNat * 4)).block, (ad.add (i.toNat * 4)).off + 3, none⟩ = some (.slice A3 (rd_T24 xs i).f3.length c3) ∧ (rd_T24 xs i).f3.length ≤ c3 ∧ k24.C w A3 (rd_T24 xs i).f3.length (rd_T24 xs i).f3 := by
  obtain ⟨ad, c, e, _, hK, hc0⟩ := Kd.C_get h z24 i h0 h1
  have hc : ∀ j u, c[j]? = some u → w.cell? (ad.add (i.toNat * 4 + j)) = some u := hc0
  obtain ⟨A3, c3, rfl, l3, g3⟩ := k24_open hK
  exact ⟨ad, A3, c3, e, hc 0 _ rfl, by rw [← add_field _ _ 1 (by omega)]; exact hc 1 _ rfl, by rw [← add_field _ _ 2 (by omega)]; exact hc 2 _ rfl, by rw [← add_field _ _ 3 (by omega)]; exact hc 3 _ rfl, l3, g3⟩
structure S82 where
  f0 : Int
  f1 : ByteArray
  f2 : ByteArray
  f3 : Bool
  f4 : ByteArray
def z82 : S82 := ⟨(0 : Int), (⟨#[]⟩ : ByteArray), (⟨#[]⟩ : ByteArray), false, (⟨#[]⟩ : ByteArray)⟩
def k82 : Kd S82 := Kd.iso (Kd.pair (Kd.int .i64) (Kd.pair Kd.string (Kd.pair Kd.string (Kd.pair Kd.bool Kd.string)))) (fun x : S82 => (x.f0, x.f1, x.f2, x.f3, x.f4))
theorem k82_open {w : World} {x : S82} {cs : List Value} (h : k82.K w x cs) : cs = [.int .i64 x.f0, .string x.f1, .string x.f2, .bool x.f3, .string x.f4] := by
  obtain ⟨_, _, rfl, rfl, ⟨_, _, rfl, rfl, ⟨_, _, rfl, rfl, ⟨_, _, rfl, rfl, rfl⟩⟩⟩⟩ := h
  exact rfl
theorem k82_mkM (w : World) (base : Nat) (ok : Nat → Prop) (x : S82)  : k82.M w base ok x [.int .i64 x.f0, .string x.f1, .string x.f2, .bool x.f3, .string x.f4] := ⟨[.int .i64 x.f0], [.string x.f1, .string x.f2, .bool x.f3, .string x.f4], rfl, rfl, ⟨[.string x.f1], [.string x.f2, .bool x.f3, .string x.f4], rfl, rfl, ⟨[.string x.f2], [.bool x.f3, .string x.f4], rfl, rfl, ⟨[.bool x.f3], [.string x.f4], rfl, rfl, rfl⟩⟩⟩⟩
def rd_T82 (xs : List S82) (i : Int) : S82 := xs.getD i.toNat z82
theorem at_T82 {w : World} {A : Option Addr} {n : Nat} {xs : List S82} (h : Kd.C k82 w A n xs) (i : Int) (h0 : 0 ≤ i) (h1 : i < n) : ∃ ad , A = some ad ∧ w.cell? (ad.add (i.toNat * 5)) = some (.int .i64 (rd_T82 xs i).f0) ∧ w.cell? ⟨(ad.add (i.toNat * 5)).block, (ad.add (i.toNat * 5)).off + 1, none⟩ = some (.string (rd_T82 xs i).f1) ∧ w.cell? ⟨(ad.add (i.toNat * 5)).block, (ad.add (i.toNat * 5)).off + 2, none⟩ = some (.string (rd_T82 xs i).f2) ∧ w.cell? ⟨(ad.add (i.toNat * 5)).block, (ad.add (i.toNat * 5)).off + 3, none⟩ = some (.bool (rd_T82 xs i).f3) ∧ w.cell? ⟨(ad.add (i.toNat * 5)).block, (ad.add (i.toNat * 5)).off + 4, none⟩ = some (.string (rd_T82 xs i).f4) := by
  obtain ⟨ad, c, e, _, hK, hc0⟩ := Kd.C_get h z82 i h0 h1
  have hc : ∀ j u, c[j]? = some u → w.cell? (ad.add (i.toNat * 5 + j)) = some u := hc0
  obtain rfl := k82_open hK
  exact ⟨ad, e, hc 0 _ rfl, by rw [← add_field _ _ 1 (by omega)]; exact hc 1 _ rfl, by rw [← add_field _ _ 2 (by omega)]; exact hc 2 _ rfl, by rw [← add_field _ _ 3 (by omega)]; exact hc 3 _ rfl, by rw [← add_field _ _ 4 (by omega)]; exact hc 4 _ rfl⟩
end Go.Proofs.YtegkokdncakadaaGreatDoor.Q

/- laws.eqNodeS and laws.eqNode, which call each other. No condition. -/
namespace Go.Proofs.YtegkokdncakadaaGreatDoor.Q
open Go.RowKit Go.Proofs.YtegkokdncakadaaGreatDoorW.PrintWords Go.Proofs.YtegkokdncakadaaGreatDoorW.PrintLast Go.Proofs.YtegkokdncakadaaGreatDoorW.PrintMore
attribute [local go_sem] max2_int min2_int max_two min_two max_three min_three max_four min_four
set_option linter.unusedVariables false
set_option linter.unusedSimpArgs false
def eqNode_ (g : List (S24) → List (S24) → Option Bool) (a b : S24) : Option Bool := if a.f0.toList = b.f0.toList then (if a.f1.toList = b.f1.toList then (if a.f2.toList = b.f2.toList then ((g a.f3 b.f3).bind fun t => (if t = true then (some true) else (some false))) else (some false)) else (some false)) else (some false)
def laws_eqNodeS.l0 : Nat → List (S24) → List (S24) → Int → Option Bool
 | 0, _, _, _ => none
 | k + 1, l0, l1, x5 => if x5 < (l0.length : Int) then (if 0 ≤ x5 then (if x5 < (l1.length : Int) then ((eqNode_ (fun a b => if (a.length : Int) = (b.length : Int) then laws_eqNodeS.l0 k a b 0 else some false) (rd_T24 l0 x5) (rd_T24 l1 x5)).bind fun t => (if t = true then (laws_eqNodeS.l0 k l0 l1 (wrap64 (x5 + 1))) else (some false))) else none) else none) else (some true)
def laws_eqNodeS.f (k : Nat) (l0 l1 : List (S24)) : Option Bool := if (l0.length : Int) = (l1.length : Int) then laws_eqNodeS.l0 k l0 l1 0 else some false
def laws_eqNode.f (k : Nat) (a0_0 : ByteArray) (a0_1 : ByteArray) (a0_2 : ByteArray) (l0_3 : List (S24)) (a1_0 : ByteArray) (a1_1 : ByteArray) (a1_2 : ByteArray) (l1_3 : List (S24)) : Option (Bool) := if a0_0.toList = a1_0.toList then (if a0_1.toList = a1_1.toList then (if a0_2.toList = a1_2.toList then ((laws_eqNodeS.f k l0_3 l1_3).bind fun t319 => (if t319 = true then (some true) else (some false))) else (some false)) else (some false)) else (some false)
def laws_eqNodeS.T6 : Bool × List (List Nat × List Nat) := (true, [([], []), ([], []), ([0, 1], [0, 1]), ([2], [2]), ([], []), ([], []), ([4, 5], [4, 5]), ([6], [6]), ([3, 7], [3, 7]), ([8], [8])])
def laws_eqNodeS.B6 : List Nat := [0, 0, 3, 7, 0, 0, 48, 112, 255, 511]
theorem laws_eqNodeS.tab6 : rtab .any (opsOf Tryz.f37 6) = laws_eqNodeS.T6 := by kernel_rfl
theorem laws_eqNodeS.bits6 : waitsOk laws_eqNodeS.T6.2 laws_eqNodeS.B6 = true := by kernel_rfl
set_option maxHeartbeats 8000000 in
set_option maxRecDepth 100000 in
theorem laws_eqNode.calls_ (k : Nat) (hS : ∀ (A0 : Option Addr) (c0 : Nat) (l0 : List (S24)) (A1 : Option Addr) (c1 : Nat) (l1 : List (S24)) (r : Bool) (w : World) (hr0 : Kd.C k24 w A0 l0.length l0) (hc0 : l0.length ≤ c0) (hr1 : Kd.C k24 w A1 l1.length l1) (hc1 : l1.length ≤ c1) (h : laws_eqNodeS.f k l0 l1 = some r), Calls Tryz.prog 37 #[.slice A0 l0.length c0, .slice A1 l1.length c1] w fun e w' => e = .returned (.bool r) ∧ Below w.heap.size w w') (a0_0 : ByteArray) (a0_1 : ByteArray) (a0_2 : ByteArray) (A0_3 : Option Addr) (c0_3 : Nat) (l0_3 : List (S24)) (a1_0 : ByteArray) (a1_1 : ByteArray) (a1_2 : ByteArray) (A1_3 : Option Addr) (c1_3 : Nat) (l1_3 : List (S24)) (r : Bool) (w : World) (hr0_3 : Kd.C k24 w A0_3 l0_3.length l0_3) (hc0_3 : l0_3.length ≤ c0_3) (hr1_3 : Kd.C k24 w A1_3 l1_3.length l1_3) (hc1_3 : l1_3.length ≤ c1_3) (h : laws_eqNode.f k a0_0 a0_1 a0_2 l0_3 a1_0 a1_1 a1_2 l1_3 = some r) :
 Calls Tryz.prog 8 #[.agg #[.string a0_0, .string a0_1, .string a0_2, .slice A0_3 l0_3.length c0_3], .agg #[.string a1_0, .string a1_1, .string a1_2, .slice A1_3 l1_3.length c1_3]] w fun e w' => e = .returned (.bool r) ∧ Below w.heap.size w w' := by
 have hu24 := Tryz.underlying24
 have HR0_3 := A_ hr0_3
 have HC0_3 := A_ hc0_3
 clear hr0_3 hc0_3
 have HR1_3 := A_ hr1_3
 have HC1_3 := A_ hc1_3
 clear hr1_3 hc1_3
 have HB := A_ (Below.refl w.heap.size w)
 have H : (if a0_0.toList = a1_0.toList then (if a0_1.toList = a1_1.toList then (if a0_2.toList = a1_2.toList then ((laws_eqNodeS.f k l0_3 l1_3).bind fun t37 => (if t37 = true then (some true) else (some false))) else (some false)) else (some false)) else (some false)) = some r := h
 clear h
 by_cases c3 : a0_0.toList = a1_0.toList
 rotate_left
 · rw [if_neg c3] at H
   obtain ⟨c3b0, c3b1⟩ := eF_ c3
   obtain rfl := si_ H
   go_enter Tryz.func8, Tryz.ntmps8
   go_wp2_with (first | ((with_reducible refine gd_ (N := 2) rfl ?_); refine bx_ (N := 2) (cs := #[.string a0_0, .string a0_1, .string a0_2, .slice A0_3 l0_3.length c0_3]) (t := 24) ?_; intro gb35 hg w30 hbox hb; have BK35 := A_ (hbox); have GW35 := A_ (ge_ hg bB_ : w.heap.size ≤ gb35); have GE35 := A_ (ge_ hg bB_ : w.heap.size ≤ gb35); replace HB := A_ (below_step bB_ hb); clear hb hbox hg) | ((with_reducible refine gd_ (N := 3) rfl ?_); refine bx_ (N := 3) (cs := #[.string a1_0, .string a1_1, .string a1_2, .slice A1_3 l1_3.length c1_3]) (t := 24) ?_; intro gb36 hg w31 hbox hb; have BK36 := A_ (hbox); have GW36 := A_ (ge_ hg (bG_ GE35.out) : w.heap.size ≤ gb36); have GE36 := A_ (ge_ hg (bG_ GE35.out) : w.heap.size ≤ gb36); replace HB := A_ (below_step (bG_ GE35.out) hb); have NB317_318 := A_ (gm_ hg BK35.out); have NB318_317 := A_ (gn_ hg BK35.out); replace BK35 := A_ (bw_ BK35.out hb); clear hb hbox hg; have hnb32 := NB317_318.out; have hnc32 := NB318_317.out; obtain ⟨hcz33_0, hcz33_1, hcz33_2, hcz33_3, hfz33_0, hfz33_1, hfz33_2, hfz33_3⟩ := cz4_ BK35.out; obtain ⟨hcz34_0, hcz34_1, hcz34_2, hcz34_3, hfz34_0, hfz34_1, hfz34_2, hfz34_3⟩ := cz4_ BK36.out))
   go_ret
   exact ⟨rr_, by repeat (first | (with_reducible first | exact HB.out | apply below_alloc | apply pw_below_drewN | apply below_drew1 | refine below_set ?_ GE35.out | refine below_set ?_ GE36.out) | exact HB.out)⟩
 rw [if_pos c3] at H
 obtain ⟨c3b0, c3b1⟩ := eT_ c3
 clear c3
 by_cases c4 : a0_1.toList = a1_1.toList
 rotate_left
 · rw [if_neg c4] at H
   obtain ⟨c4b0, c4b1⟩ := eF_ c4
   obtain rfl := si_ H
   go_enter Tryz.func8, Tryz.ntmps8
   go_wp2_with (first | ((with_reducible refine gd_ (N := 2) rfl ?_); refine bx_ (N := 2) (cs := #[.string a0_0, .string a0_1, .string a0_2, .slice A0_3 l0_3.length c0_3]) (t := 24) ?_; intro gb35 hg w25 hbox hb; have BK35 := A_ (hbox); have GW35 := A_ (ge_ hg bB_ : w.heap.size ≤ gb35); have GE35 := A_ (ge_ hg bB_ : w.heap.size ≤ gb35); replace HB := A_ (below_step bB_ hb); clear hb hbox hg) | ((with_reducible refine gd_ (N := 3) rfl ?_); refine bx_ (N := 3) (cs := #[.string a1_0, .string a1_1, .string a1_2, .slice A1_3 l1_3.length c1_3]) (t := 24) ?_; intro gb36 hg w26 hbox hb; have BK36 := A_ (hbox); have GW36 := A_ (ge_ hg (bG_ GE35.out) : w.heap.size ≤ gb36); have GE36 := A_ (ge_ hg (bG_ GE35.out) : w.heap.size ≤ gb36); replace HB := A_ (below_step (bG_ GE35.out) hb); have NB317_318 := A_ (gm_ hg BK35.out); have NB318_317 := A_ (gn_ hg BK35.out); replace BK35 := A_ (bw_ BK35.out hb); clear hb hbox hg; have hnb27 := NB317_318.out; have hnc27 := NB318_317.out; obtain ⟨hcz28_0, hcz28_1, hcz28_2, hcz28_3, hfz28_0, hfz28_1, hfz28_2, hfz28_3⟩ := cz4_ BK35.out; obtain ⟨hcz29_0, hcz29_1, hcz29_2, hcz29_3, hfz29_0, hfz29_1, hfz29_2, hfz29_3⟩ := cz4_ BK36.out))
   go_ret
   exact ⟨rr_, by repeat (first | (with_reducible first | exact HB.out | apply below_alloc | apply pw_below_drewN | apply below_drew1 | refine below_set ?_ GE35.out | refine below_set ?_ GE36.out) | exact HB.out)⟩
 rw [if_pos c4] at H
 obtain ⟨c4b0, c4b1⟩ := eT_ c4
 clear c4
 by_cases c5 : a0_2.toList = a1_2.toList
 rotate_left
 · rw [if_neg c5] at H
   obtain ⟨c5b0, c5b1⟩ := eF_ c5
   obtain rfl := si_ H
   go_enter Tryz.func8, Tryz.ntmps8
   go_wp2_with (first | ((with_reducible refine gd_ (N := 2) rfl ?_); refine bx_ (N := 2) (cs := #[.string a0_0, .string a0_1, .string a0_2, .slice A0_3 l0_3.length c0_3]) (t := 24) ?_; intro gb35 hg w20 hbox hb; have BK35 := A_ (hbox); have GW35 := A_ (ge_ hg bB_ : w.heap.size ≤ gb35); have GE35 := A_ (ge_ hg bB_ : w.heap.size ≤ gb35); replace HB := A_ (below_step bB_ hb); clear hb hbox hg) | ((with_reducible refine gd_ (N := 3) rfl ?_); refine bx_ (N := 3) (cs := #[.string a1_0, .string a1_1, .string a1_2, .slice A1_3 l1_3.length c1_3]) (t := 24) ?_; intro gb36 hg w21 hbox hb; have BK36 := A_ (hbox); have GW36 := A_ (ge_ hg (bG_ GE35.out) : w.heap.size ≤ gb36); have GE36 := A_ (ge_ hg (bG_ GE35.out) : w.heap.size ≤ gb36); replace HB := A_ (below_step (bG_ GE35.out) hb); have NB317_318 := A_ (gm_ hg BK35.out); have NB318_317 := A_ (gn_ hg BK35.out); replace BK35 := A_ (bw_ BK35.out hb); clear hb hbox hg; have hnb22 := NB317_318.out; have hnc22 := NB318_317.out; obtain ⟨hcz23_0, hcz23_1, hcz23_2, hcz23_3, hfz23_0, hfz23_1, hfz23_2, hfz23_3⟩ := cz4_ BK35.out; obtain ⟨hcz24_0, hcz24_1, hcz24_2, hcz24_3, hfz24_0, hfz24_1, hfz24_2, hfz24_3⟩ := cz4_ BK36.out))
   go_ret
   exact ⟨rr_, by repeat (first | (with_reducible first | exact HB.out | apply below_alloc | apply pw_below_drewN | apply below_drew1 | refine below_set ?_ GE35.out | refine below_set ?_ GE36.out) | exact HB.out)⟩
 rw [if_pos c5] at H
 obtain ⟨c5b0, c5b1⟩ := eT_ c5
 clear c5
 obtain ⟨t37, A6, H⟩ := bo_ H
 (try dsimp only at H)
 by_cases c7 : t37 = true
 · subst c7
   rw [if_pos rfl] at H
   obtain rfl := si_ H
   go_enter Tryz.func8, Tryz.ntmps8
   go_wp2_with (first | ((with_reducible refine gd_ (N := 2) rfl ?_); refine bx_ (N := 2) (cs := #[.string a0_0, .string a0_1, .string a0_2, .slice A0_3 l0_3.length c0_3]) (t := 24) ?_; intro gb35 hg w8 hbox hb; have BK35 := A_ (hbox); have GW35 := A_ (ge_ hg bB_ : w.heap.size ≤ gb35); have GE35 := A_ (ge_ hg bB_ : w.heap.size ≤ gb35); replace HB := A_ (below_step bB_ hb); clear hb hbox hg) | ((with_reducible refine gd_ (N := 3) rfl ?_); refine bx_ (N := 3) (cs := #[.string a1_0, .string a1_1, .string a1_2, .slice A1_3 l1_3.length c1_3]) (t := 24) ?_; intro gb36 hg w9 hbox hb; have BK36 := A_ (hbox); have GW36 := A_ (ge_ hg (bG_ GE35.out) : w.heap.size ≤ gb36); have GE36 := A_ (ge_ hg (bG_ GE35.out) : w.heap.size ≤ gb36); replace HB := A_ (below_step (bG_ GE35.out) hb); have NB317_318 := A_ (gm_ hg BK35.out); have NB318_317 := A_ (gn_ hg BK35.out); replace BK35 := A_ (bw_ BK35.out hb); clear hb hbox hg; have hnb10 := NB317_318.out; have hnc10 := NB318_317.out; obtain ⟨hcz11_0, hcz11_1, hcz11_2, hcz11_3, hfz11_0, hfz11_1, hfz11_2, hfz11_3⟩ := cz4_ BK35.out; obtain ⟨hcz12_0, hcz12_1, hcz12_2, hcz12_3, hfz12_0, hfz12_1, hfz12_2, hfz12_3⟩ := cz4_ BK36.out) | ((with_reducible refine gc_ (f := 37) rfl ?_); refine gL_ (some 24) Tryz.func37 #[.slice A0_3 l0_3.length c0_3, .slice A1_3 l1_3.length c1_3] ?_; (with_reducible refine (hS _ _ l0_3 _ _ l1_3 true _ ?s1 ?s2 ?s3 ?s4 A6.out).mono ?_); (case s1 => exact cC_ (Kd.C_below HR0_3.out HB.out)); (case s2 => exact HC0_3.out); (case s3 => exact cC_ (Kd.C_below HR1_3.out HB.out)); (case s4 => exact HC1_3.out); rintro e w13 ⟨rfl, hb⟩; refine ⟨_, rfl, ?_⟩; replace HB := A_ (below_step (by repeat (first | (with_reducible first | exact HB.out | apply below_alloc | apply pw_below_drewN | apply below_drew1 | refine below_set ?_ GE35.out | refine below_set ?_ GE36.out) | exact HB.out)) hb); clear hb))
   go_ret
   exact ⟨rr_, by repeat (first | (with_reducible first | exact HB.out | apply below_alloc | apply pw_below_drewN | apply below_drew1 | refine below_set ?_ GE35.out | refine below_set ?_ GE36.out) | exact HB.out)⟩
 · replace c7 := Bool.eq_false_iff.mpr c7
   subst c7
   rw [if_neg nf_] at H
   obtain rfl := si_ H
   go_enter Tryz.func8, Tryz.ntmps8
   go_wp2_with (first | ((with_reducible refine gd_ (N := 2) rfl ?_); refine bx_ (N := 2) (cs := #[.string a0_0, .string a0_1, .string a0_2, .slice A0_3 l0_3.length c0_3]) (t := 24) ?_; intro gb35 hg w14 hbox hb; have BK35 := A_ (hbox); have GW35 := A_ (ge_ hg bB_ : w.heap.size ≤ gb35); have GE35 := A_ (ge_ hg bB_ : w.heap.size ≤ gb35); replace HB := A_ (below_step bB_ hb); clear hb hbox hg) | ((with_reducible refine gd_ (N := 3) rfl ?_); refine bx_ (N := 3) (cs := #[.string a1_0, .string a1_1, .string a1_2, .slice A1_3 l1_3.length c1_3]) (t := 24) ?_; intro gb36 hg w15 hbox hb; have BK36 := A_ (hbox); have GW36 := A_ (ge_ hg (bG_ GE35.out) : w.heap.size ≤ gb36); have GE36 := A_ (ge_ hg (bG_ GE35.out) : w.heap.size ≤ gb36); replace HB := A_ (below_step (bG_ GE35.out) hb); have NB317_318 := A_ (gm_ hg BK35.out); have NB318_317 := A_ (gn_ hg BK35.out); replace BK35 := A_ (bw_ BK35.out hb); clear hb hbox hg; have hnb16 := NB317_318.out; have hnc16 := NB318_317.out; obtain ⟨hcz17_0, hcz17_1, hcz17_2, hcz17_3, hfz17_0, hfz17_1, hfz17_2, hfz17_3⟩ := cz4_ BK35.out; obtain ⟨hcz18_0, hcz18_1, hcz18_2, hcz18_3, hfz18_0, hfz18_1, hfz18_2, hfz18_3⟩ := cz4_ BK36.out) | ((with_reducible refine gc_ (f := 37) rfl ?_); refine gL_ (some 24) Tryz.func37 #[.slice A0_3 l0_3.length c0_3, .slice A1_3 l1_3.length c1_3] ?_; (with_reducible refine (hS _ _ l0_3 _ _ l1_3 false _ ?s1 ?s2 ?s3 ?s4 A6.out).mono ?_); (case s1 => exact cC_ (Kd.C_below HR0_3.out HB.out)); (case s2 => exact HC0_3.out); (case s3 => exact cC_ (Kd.C_below HR1_3.out HB.out)); (case s4 => exact HC1_3.out); rintro e w19 ⟨rfl, hb⟩; refine ⟨_, rfl, ?_⟩; replace HB := A_ (below_step (by repeat (first | (with_reducible first | exact HB.out | apply below_alloc | apply pw_below_drewN | apply below_drew1 | refine below_set ?_ GE35.out | refine below_set ?_ GE36.out) | exact HB.out)) hb); clear hb))
   go_ret
   exact ⟨rr_, by repeat (first | (with_reducible first | exact HB.out | apply below_alloc | apply pw_below_drewN | apply below_drew1 | refine below_set ?_ GE35.out | refine below_set ?_ GE36.out) | exact HB.out)⟩
set_option maxHeartbeats 16000000 in
set_option maxRecDepth 100000 in
theorem laws_eqNodeS.calls (k : Nat) : ∀ (A0 : Option Addr) (c0 : Nat) (l0 : List (S24)) (A1 : Option Addr) (c1 : Nat) (l1 : List (S24)) (r : Bool) (w : World) (hr0 : Kd.C k24 w A0 l0.length l0) (hc0 : l0.length ≤ c0) (hr1 : Kd.C k24 w A1 l1.length l1) (hc1 : l1.length ≤ c1) (h : laws_eqNodeS.f k l0 l1 = some r),
 Calls Tryz.prog 37 #[.slice A0 l0.length c0, .slice A1 l1.length c1] w fun e w' => e = .returned (.bool r) ∧ Below w.heap.size w w' := by
 induction k using Nat.strongRecOn with
 | _ k ih =>
 intro A0 c0 l0 A1 c1 l1 r w hr0 hc0 hr1 hc1 h
 have HR0 := A_ hr0
 have HR1 := A_ hr1
 have HB := A_ (Below.refl w.heap.size w)
 clear hr0 hr1 hc0 hc1
 unfold laws_eqNodeS.f at h
 by_cases c1_ : (l0.length : Int) = (l1.length : Int)
 rotate_left
 · rw [if_neg c1_] at h
   have c1b0 : ((l0.length : Int) != (l1.length : Int)) = true := bne_iff_ne.mpr c1_
   have c1b1 : ((l0.length : Int) == (l1.length : Int)) = false := beq_eq_false_iff_ne.mpr c1_
   have c1b2 : (l0.length == l1.length) = false := by first | simpa using c1_ | (simp at c1_ ⊢; omega)
   obtain rfl := Option.some.inj h
   go_enter Tryz.func37, Tryz.ntmps37
   go_wp2
   go_ret
   exact ⟨rfl, HB.out⟩
 rw [if_pos c1_] at h
 have c1b0 : ((l0.length : Int) != (l1.length : Int)) = false := bne_eq_false_iff_eq.mpr c1_
 have c1b1 : ((l0.length : Int) == (l1.length : Int)) = true := beq_iff_eq.mpr c1_
 have c1b2 : (l0.length == l1.length) = true := by first | simpa using c1_ | (simp at c1_ ⊢; omega)
 have HE := A_ c1_
 have H' := A_ h
 clear h c1_
 go_enter Tryz.func37, Tryz.ntmps37
 go_wp2
 go_loopg [5] k (fun kq v5 w' => ∃ (x5_1 : Int), v5 = .int .i64 x5_1 ∧ Aside0 (laws_eqNodeS.l0 kq l0 l1 x5_1 = some r) ∧ Aside0 (kq ≤ k) ∧ Aside0 (Below w.heap.size w w'))
 case atStart => exact ⟨0, rfl, H', ⟨Nat.le_refl _⟩, HB⟩
 case round =>
  clear H' HB c1b0 c1b1 c1b2
  obtain ⟨x5, rfl, HA, HK1, HB⟩ := hrel
  cases gk with
  | zero => exact absurd HA.out (by simp [laws_eqNodeS.l0])
  | succ k1 =>
   have H := HA.out
   clear HA
   simp only [laws_eqNodeS.l0] at H
   by_cases c3 : x5 < (l0.length : Int)
   rotate_left
   · rw [if_neg c3] at H
     have c3b0 := decide_eq_false c3
     obtain rfl := si_ H
     clear c3
     go_wp2
     go_ret
     exact ⟨rfl, HB.out⟩
   · rw [if_pos c3] at H
     have c3b0 := decide_eq_true c3
     by_cases c4 : 0 ≤ x5
     rotate_left
     · rw [if_neg c4] at H
       exact absurd H (by simp)
     · rw [if_pos c4] at H
       have c4b0 := decide_eq_true c4
       by_cases c5 : x5 < (l1.length : Int)
       rotate_left
       · rw [if_neg c5] at H
         exact absurd H (by simp)
       · rw [if_pos c5] at H
         have c5b0 := decide_eq_true c5
         replace H := Option.bind_eq_some_iff.mp H
         obtain ⟨t_, A0_, H⟩ := H
         have At_ : Aside0 (laws_eqNode.f k1 (rd_T24 l0 x5).f0 (rd_T24 l0 x5).f1 (rd_T24 l0 x5).f2 (rd_T24 l0 x5).f3 (rd_T24 l1 x5).f0 (rd_T24 l1 x5).f1 (rd_T24 l1 x5).f2 (rd_T24 l1 x5).f3 = some t_) := ⟨A0_⟩
         clear A0_
         obtain ⟨ada, A3a, c3a, ea, ha0, ha1, ha2, ha3, la_, ga_⟩ := at_T24 HR0.out x5 c4 c3
         obtain ⟨adb, A3b, c3b, eb, hb0, hb1, hb2, hb3, lb_, gb_⟩ := at_T24 HR1.out x5 c4 c5
         subst ea
         subst eb
         replace ha0 := pw_cell_below HB.out ha0
         replace ha1 := pw_cell_below HB.out ha1
         replace ha2 := pw_cell_below HB.out ha2
         replace ha3 := pw_cell_below HB.out ha3
         replace hb0 := pw_cell_below HB.out hb0
         replace hb1 := pw_cell_below HB.out hb1
         replace hb2 := pw_cell_below HB.out hb2
         replace hb3 := pw_cell_below HB.out hb3
         replace ga_ := Kd.C_below ga_ HB.out
         replace gb_ := Kd.C_below gb_ HB.out
         replace c3 := eq_true c3
         replace c4 := eq_true c4
         replace c5 := eq_true c5
         try go_wp2
         refine start_ (n := 10) (S := fun w' => w'.cell? (ada.add ((x5).toNat * 4)) = some (.string (rd_T24 l0 x5).f0) ∧ w'.cell? ⟨(ada.add ((x5).toNat * 4)).block, (ada.add ((x5).toNat * 4)).off + 1, none⟩ = some (.string (rd_T24 l0 x5).f1) ∧ w'.cell? ⟨(ada.add ((x5).toNat * 4)).block, (ada.add ((x5).toNat * 4)).off + 2, none⟩ = some (.string (rd_T24 l0 x5).f2) ∧ w'.cell? ⟨(ada.add ((x5).toNat * 4)).block, (ada.add ((x5).toNat * 4)).off + 3, none⟩ = some (.slice A3a (rd_T24 l0 x5).f3.length c3a) ∧ w'.cell? (adb.add ((x5).toNat * 4)) = some (.string (rd_T24 l1 x5).f0) ∧ w'.cell? ⟨(adb.add ((x5).toNat * 4)).block, (adb.add ((x5).toNat * 4)).off + 1, none⟩ = some (.string (rd_T24 l1 x5).f1) ∧ w'.cell? ⟨(adb.add ((x5).toNat * 4)).block, (adb.add ((x5).toNat * 4)).off + 2, none⟩ = some (.string (rd_T24 l1 x5).f2) ∧ w'.cell? ⟨(adb.add ((x5).toNat * 4)).block, (adb.add ((x5).toNat * 4)).off + 3, none⟩ = some (.slice A3b (rd_T24 l1 x5).f3.length c3b)) (ds := [8]) #[false, false, false, false, false, false, false, false, false, false] (by kernel_rfl) rfl rfl ⟨ha0, ha1, ha2, ha3, hb0, hb1, hb2, hb3⟩ (fun hHeld => ?_); refine with_tabW laws_eqNodeS.tab6 laws_eqNodeS.bits6 (fun HT_ HW_ => ?_)
         refine pu_ (i := 0) (N := some 17) ?_
         refine pu_ (i := 1) (N := some 18) ?_
         refine pu_ (i := 2) (N := some 19) ?_
         refine pu_ (i := 4) (N := some 21) ?_
         refine pu_ (i := 5) (N := some 22) ?_
         refine pu_ (i := 6) (N := some 23) ?_
         refine tk_ (i := 3) (N := some 20) hHeld ?_
         refine tk_ (i := 7) (N := some 24) hHeld ?_
         refine last_ (i := 8) (N := some 25) #[true, true, true, true, true, true, true, true, true, false] rfl rfl (one_of HT_.out (by kernel_rfl)) (by decide) (fun K hK => ?_)
         refine goes_ Tryz.func8 (by kernel_rfl) rfl #[.agg #[.string (rd_T24 l0 x5).f0, .string (rd_T24 l0 x5).f1, .string (rd_T24 l0 x5).f2, .slice A3a (rd_T24 l0 x5).f3.length c3a], .agg #[.string (rd_T24 l1 x5).f0, .string (rd_T24 l1 x5).f1, .string (rd_T24 l1 x5).f2, .slice A3b (rd_T24 l1 x5).f3.length c3b]] (by rfl) rfl rfl (by simp only [List.map_toArray, List.map_cons, List.map_nil]; rfl) ?_
         with_reducible refine (laws_eqNode.calls_ k1 (ih k1 (by have := HK1.out; omega)) (rd_T24 l0 x5).f0 (rd_T24 l0 x5).f1 (rd_T24 l0 x5).f2 A3a c3a (rd_T24 l0 x5).f3 (rd_T24 l1 x5).f0 (rd_T24 l1 x5).f1 (rd_T24 l1 x5).f2 A3b c3b (rd_T24 l1 x5).f3 t_ _ (Kd.C_drew ga_) la_ (Kd.C_drew gb_) lb_ At_.out).mono ?_
         rintro e w_1 ⟨rfl, hb_⟩
         refine ⟨_, rfl, ?_⟩
         replace HB := A_ (below_step bB_ hb_)
         clear hb_
         refine hK.out _ _ ?_
         clear hK K
         refine no_ (some 25) ?_
         refine pu_ (i := 9) (N := some 26) ?_
         refine done_ (done_of HT_.out (by kernel_rfl)) ?_
         (try clear hHeld)
         clear ha0 ha1 ha2 ha3 hb0 hb1 hb2 hb3 ga_ gb_ la_ lb_
         by_cases c6 : t_ = true
         · subst c6
           have H' : Aside0 (laws_eqNodeS.l0 k1 l0 l1 (wrap64 (x5 + 1)) = some r) := ⟨by rw [if_pos rfl] at H; exact H⟩
           clear H
           go_wp2
           go_roundg k1
           case measure => have := HK1.out; omega
           case rel => exact ⟨wrap64 (x5 + 1), rfl, H', ⟨by have := HK1.out; omega⟩, HB⟩
         · replace c6 := Bool.eq_false_iff.mpr c6
           subst c6
           rw [if_neg nf_] at H
           obtain rfl := si_ H
           go_wp2
           go_ret
           exact ⟨rfl, HB.out⟩
theorem laws_eqNode.calls (k : Nat) (a0_0 : ByteArray) (a0_1 : ByteArray) (a0_2 : ByteArray) (A0_3 : Option Addr) (c0_3 : Nat) (l0_3 : List (S24)) (a1_0 : ByteArray) (a1_1 : ByteArray) (a1_2 : ByteArray) (A1_3 : Option Addr) (c1_3 : Nat) (l1_3 : List (S24)) (r : Bool) (w : World) (hr0_3 : Kd.C k24 w A0_3 l0_3.length l0_3) (hc0_3 : l0_3.length ≤ c0_3) (hr1_3 : Kd.C k24 w A1_3 l1_3.length l1_3) (hc1_3 : l1_3.length ≤ c1_3) (h : laws_eqNode.f k a0_0 a0_1 a0_2 l0_3 a1_0 a1_1 a1_2 l1_3 = some r) :
 Calls Tryz.prog 8 #[.agg #[.string a0_0, .string a0_1, .string a0_2, .slice A0_3 l0_3.length c0_3], .agg #[.string a1_0, .string a1_1, .string a1_2, .slice A1_3 l1_3.length c1_3]] w fun e w' => e = .returned (.bool r) ∧ Below w.heap.size w w' :=
 laws_eqNode.calls_ k (laws_eqNodeS.calls k) a0_0 a0_1 a0_2 A0_3 c0_3 l0_3 a1_0 a1_1 a1_2 A1_3 c1_3 l1_3 r w hr0_3 hc0_3 hr1_3 hc1_3 h
set_option maxHeartbeats 8000000
set_option maxRecDepth 100000
attribute [local go_sem] max2_int min2_int max_two min_two max_three min_three max_four min_four   -- for this text's walks alone
def spec_l1In.f (a0 : Int) (a1 : Int) (a2 : Int) : Option (Bool) := if a0 ≥ a1 then (some (decide (a0 ≤ a2))) else (some false)
theorem spec_l1In.calls (a0 : Int) (a1 : Int) (a2 : Int) (r : Bool) (w : World) (h : spec_l1In.f a0 a1 a2 = some r) :
 Calls Tryz.prog 76 #[.int .i64 a0, .int .i64 a1, .int .i64 a2] w fun e w' => e = .returned (.bool r) ∧ Drawn0 w w' := by
 have H : (if a0 ≥ a1 then (some (decide (a0 ≤ a2))) else (some false)) = some r := h
 clear h
 by_cases c4 : a0 ≥ a1
 · rw [if_pos c4] at H
   have c4b0 : decide (a1 ≤ a0) = true := decide_eq_true c4
   clear c4
   obtain rfl := si_ H
   go_enter Tryz.func76, Tryz.ntmps76
   go_wp2
   go_ret
   exact ⟨rs_, dr_⟩
 rw [if_neg c4] at H
 have c4b0 : decide (a1 ≤ a0) = false := decide_eq_false c4
 clear c4
 obtain rfl := si_ H
 go_enter Tryz.func76, Tryz.ntmps76
 go_wp2
 go_ret
 exact ⟨rs_, dr_⟩
def spec_Plain.l0 : Nat → ByteArray → Int → Option (Bool)
 | 0, _, _ => none
 | k + 1, x0, x3 => if x3 < (x0.size : Int) then (if 0 ≤ x3 then ((spec_l1In.f (wrap64 (bt x0 x3)) 32 126).bind fun t101 => (if t101 = true then (spec_Plain.l0 k x0 (wrap64 (x3 + 1))) else (some false))) else (none)) else (some true)
def spec_Plain.f (k : Nat) (a0 : ByteArray) : Option (Bool) := spec_Plain.l0 k a0 0
theorem spec_Plain.calls (k : Nat) (a0 : ByteArray) (r : Bool) (w : World) (h : spec_Plain.f k a0 = some r) :
 Calls Tryz.prog 56 #[.string a0] w fun e w' => e = .returned (.bool r) ∧ Drawn0 w w' := by
 have H : (spec_Plain.l0 k a0 0) = some r := h
 clear h
 have H' := A_ H
 clear H
 go_enter Tryz.func56, Tryz.ntmps56
 go_wp2
 go_loopg [3] k (fun kq v3 w' => ∃ (x3_1 : Int), v3 = .int .i64 x3_1 ∧ Aside0 (spec_Plain.l0 kq a0 x3_1 = some r) ∧ Aside0 (kq ≤ k) ∧ Drawn0 w w')
 case atStart => exact ⟨(0), rs_, H', ⟨Nat.le_refl _⟩, dr_⟩
 case round =>
  clear H'
  obtain ⟨x3_1, rfl, HA, HK1, ⟨m1, rfl⟩⟩ := hrel
  cases gk with
  | zero => exact absurd HA.out (by simp [spec_Plain.l0])
  | succ k1 =>
   have H := HA.out
   clear HA
   simp only [spec_Plain.l0] at H
   by_cases c2 : x3_1 < (a0.size : Int)
   rotate_left
   · rw [if_neg c2] at H
     have c2b0 := decide_eq_false c2
     clear c2
     obtain rfl := si_ H
     go_wp2
     go_ret
     exact ⟨rs_, dr_⟩
   rw [if_pos c2] at H
   have c2b0 := decide_eq_true c2
   clear c2
   by_cases c3 : 0 ≤ x3_1
   rotate_left
   · exact absurd H (by rw [if_neg c3]; simp)
   rw [if_pos c3] at H
   have c3b0 := decide_eq_true c3
   clear c3
   obtain ⟨t7, A5, H⟩ := bo_ H
   (try dsimp only at H)
   by_cases c6 : t7 = true
   · subst c6
     rw [if_pos rfl] at H
     have H' := A_ H
     clear H
     have p4 : 0 ≤ (x3_1 : Int) := od_
     have q4 : x3_1 < (a0.size : Int) := od_
     have hx4 := bt_at a0 x3_1
     replace p4 := eq_true p4
     replace q4 := eq_true q4
     go_wp2_with (first | ((with_reducible refine gc_ (f := 76) rfl ?_); refine gL_ (some 14) Tryz.func76 #[.int .i64 (wrap64 (bt a0 x3_1)), .int .i64 32, .int .i64 126] ?_; (with_reducible refine (spec_l1In.calls (wrap64 (bt a0 x3_1)) 32 126 true _ A5.out).mono ?_); rintro e w' ⟨rfl, ⟨nd, rfl⟩⟩; refine ⟨_, rfl, ?_⟩))
     go_roundg k1
     case measure => have := HK1.out; omega
     case rel => exact ⟨(wrap64 (x3_1 + 1)), rs_, H', ⟨by have := HK1.out; omega⟩, dr_⟩
   · replace c6 := Bool.eq_false_iff.mpr c6
     subst c6
     rw [if_neg nf_] at H
     obtain rfl := si_ H
     have p4 : 0 ≤ (x3_1 : Int) := od_
     have q4 : x3_1 < (a0.size : Int) := od_
     have hx4 := bt_at a0 x3_1
     replace p4 := eq_true p4
     replace q4 := eq_true q4
     go_wp2_with (first | ((with_reducible refine gc_ (f := 76) rfl ?_); refine gL_ (some 14) Tryz.func76 #[.int .i64 (wrap64 (bt a0 x3_1)), .int .i64 32, .int .i64 126] ?_; (with_reducible refine (spec_l1In.calls (wrap64 (bt a0 x3_1)) 32 126 false _ A5.out).mono ?_); rintro e w' ⟨rfl, ⟨nd, rfl⟩⟩; refine ⟨_, rfl, ?_⟩))
     go_ret
     exact ⟨rs_, dr_⟩
def spec_l1Small.f (a0 : Int) : Option (Bool) := (spec_l1In.f (wrap64 (a0)) 97 122).bind fun t102 => (some t102)
theorem spec_l1Small.calls (a0 : Int) (r : Bool) (w : World) (h : spec_l1Small.f a0 = some r) :
 Calls Tryz.prog 92 #[.int .u8 a0] w fun e w' => e = .returned (.bool r) ∧ Drawn0 w w' := by
 have H : ((spec_l1In.f (wrap64 (a0)) 97 122).bind fun t1 => (some t1)) = some r := h
 clear h
 obtain ⟨t1, A2, H⟩ := bo_ H
 (try dsimp only at H)
 obtain rfl := si_ H
 go_enter Tryz.func92, Tryz.ntmps92
 go_wp2_with (first | ((with_reducible refine gc_ (f := 76) rfl ?_); refine gL_ (some 5) Tryz.func76 #[.int .i64 (wrap64 (a0)), .int .i64 97, .int .i64 122] ?_; (with_reducible refine (spec_l1In.calls (wrap64 (a0)) 97 122 t1 _ A2.out).mono ?_); rintro e w' ⟨rfl, ⟨nd, rfl⟩⟩; refine ⟨_, rfl, ?_⟩))
 go_ret
 exact ⟨rs_, dr_⟩
def spec_l1Digit.f (a0 : Int) : Option (Bool) := (spec_l1In.f (wrap64 (a0)) 48 57).bind fun t103 => (some t103)
theorem spec_l1Digit.calls (a0 : Int) (r : Bool) (w : World) (h : spec_l1Digit.f a0 = some r) :
 Calls Tryz.prog 93 #[.int .u8 a0] w fun e w' => e = .returned (.bool r) ∧ Drawn0 w w' := by
 have H : ((spec_l1In.f (wrap64 (a0)) 48 57).bind fun t1 => (some t1)) = some r := h
 clear h
 obtain ⟨t1, A2, H⟩ := bo_ H
 (try dsimp only at H)
 obtain rfl := si_ H
 go_enter Tryz.func93, Tryz.ntmps93
 go_wp2_with (first | ((with_reducible refine gc_ (f := 76) rfl ?_); refine gL_ (some 5) Tryz.func76 #[.int .i64 (wrap64 (a0)), .int .i64 48, .int .i64 57] ?_; (with_reducible refine (spec_l1In.calls (wrap64 (a0)) 48 57 t1 _ A2.out).mono ?_); rintro e w' ⟨rfl, ⟨nd, rfl⟩⟩; refine ⟨_, rfl, ?_⟩))
 go_ret
 exact ⟨rs_, dr_⟩
def spec_SmallName.l0 : Nat → ByteArray → Int → Option (Bool)
 | 0, _, _ => none
 | k + 1, x0, x3 => if x3 < (x0.size : Int) then (if 0 ≤ x3 then ((spec_l1Small.f (bt x0 x3)).bind fun t105 => (if t105 = true then (spec_SmallName.l0 k x0 (wrap64 (x3 + 1))) else (if x3 = 0 then (some false) else ((spec_l1Digit.f (bt x0 x3)).bind fun t106 => (if t106 = true then (spec_SmallName.l0 k x0 (wrap64 (x3 + 1))) else (if (bt x0 x3) = 45 then (spec_SmallName.l0 k x0 (wrap64 (x3 + 1))) else (some false))))))) else (none)) else ((spec_l1In.f (x0.size : Int) 1 20).bind fun t104 => (some t104))
def spec_SmallName.f (k : Nat) (a0 : ByteArray) : Option (Bool) := spec_SmallName.l0 k a0 0
theorem spec_SmallName.calls (k : Nat) (a0 : ByteArray) (r : Bool) (w : World) (h : spec_SmallName.f k a0 = some r) :
 Calls Tryz.prog 71 #[.string a0] w fun e w' => e = .returned (.bool r) ∧ Drawn0 w w' := by
 have H : (spec_SmallName.l0 k a0 0) = some r := h
 clear h
 have H' := A_ H
 clear H
 go_enter Tryz.func71, Tryz.ntmps71
 go_wp2
 go_loopg [3] k (fun kq v3 w' => ∃ (x3_1 : Int), v3 = .int .i64 x3_1 ∧ Aside0 (spec_SmallName.l0 kq a0 x3_1 = some r) ∧ Aside0 (kq ≤ k) ∧ Drawn0 w w')
 case atStart => exact ⟨(0), rs_, H', ⟨Nat.le_refl _⟩, dr_⟩
 case round =>
  clear H'
  obtain ⟨x3_1, rfl, HA, HK1, ⟨m1, rfl⟩⟩ := hrel
  cases gk with
  | zero => exact absurd HA.out (by simp [spec_SmallName.l0])
  | succ k1 =>
   have H := HA.out
   clear HA
   simp only [spec_SmallName.l0] at H
   by_cases c2 : x3_1 < (a0.size : Int)
   rotate_left
   · rw [if_neg c2] at H
     have c2b0 := decide_eq_false c2
     clear c2
     obtain ⟨t14, A13, H⟩ := bo_ H
     (try dsimp only at H)
     obtain rfl := si_ H
     go_wp2_with (first | ((with_reducible refine gc_ (f := 76) rfl ?_); refine gL_ (some 34) Tryz.func76 #[.int .i64 (a0.size : Int), .int .i64 1, .int .i64 20] ?_; (with_reducible refine (spec_l1In.calls (a0.size : Int) 1 20 t14 _ A13.out).mono ?_); rintro e w' ⟨rfl, ⟨nd, rfl⟩⟩; refine ⟨_, rfl, ?_⟩))
     go_ret
     exact ⟨rs_, dr_⟩
   rw [if_pos c2] at H
   have c2b0 := decide_eq_true c2
   clear c2
   by_cases c3 : 0 ≤ x3_1
   rotate_left
   · exact absurd H (by rw [if_neg c3]; simp)
   rw [if_pos c3] at H
   have c3b0 := decide_eq_true c3
   clear c3
   obtain ⟨t15, A5, H⟩ := bo_ H
   (try dsimp only at H)
   by_cases c6 : t15 = true
   · subst c6
     rw [if_pos rfl] at H
     have H' := A_ H
     clear H
     have p4 : 0 ≤ (x3_1 : Int) := od_
     have q4 : x3_1 < (a0.size : Int) := od_
     have hx4 := bt_at a0 x3_1
     replace p4 := eq_true p4
     replace q4 := eq_true q4
     go_wp2_with (first | ((with_reducible refine gc_ (f := 92) rfl ?_); refine gL_ (some 13) Tryz.func92 #[.int .u8 (bt a0 x3_1)] ?_; (with_reducible refine (spec_l1Small.calls (bt a0 x3_1) true _ A5.out).mono ?_); rintro e w' ⟨rfl, ⟨nd, rfl⟩⟩; refine ⟨_, rfl, ?_⟩))
     go_roundg k1
     case measure => have := HK1.out; omega
     case rel => exact ⟨(wrap64 (x3_1 + 1)), rs_, H', ⟨by have := HK1.out; omega⟩, dr_⟩
   · replace c6 := Bool.eq_false_iff.mpr c6
     subst c6
     rw [if_neg nf_] at H
     by_cases c7 : x3_1 = 0
     · rw [if_pos c7] at H
       obtain ⟨c7b0, c7b1⟩ := eT_ c7
       clear c7
       obtain rfl := si_ H
       have p4 : 0 ≤ (x3_1 : Int) := od_
       have q4 : x3_1 < (a0.size : Int) := od_
       have hx4 := bt_at a0 x3_1
       replace p4 := eq_true p4
       replace q4 := eq_true q4
       go_wp2_with (first | ((with_reducible refine gc_ (f := 92) rfl ?_); refine gL_ (some 13) Tryz.func92 #[.int .u8 (bt a0 x3_1)] ?_; (with_reducible refine (spec_l1Small.calls (bt a0 x3_1) false _ A5.out).mono ?_); rintro e w' ⟨rfl, ⟨nd, rfl⟩⟩; refine ⟨_, rfl, ?_⟩))
       go_ret
       exact ⟨rs_, dr_⟩
     rw [if_neg c7] at H
     obtain ⟨c7b0, c7b1⟩ := eF_ c7
     obtain ⟨t16, A9, H⟩ := bo_ H
     (try dsimp only at H)
     by_cases c10 : t16 = true
     · subst c10
       rw [if_pos rfl] at H
       have H' := A_ H
       clear H
       have p4 : 0 ≤ (x3_1 : Int) := od_
       have q4 : x3_1 < (a0.size : Int) := od_
       have hx4 := bt_at a0 x3_1
       replace p4 := eq_true p4
       replace q4 := eq_true q4
       go_wp2_with (first | ((with_reducible refine gc_ (f := 92) rfl ?_); refine gL_ (some 13) Tryz.func92 #[.int .u8 (bt a0 x3_1)] ?_; (with_reducible refine (spec_l1Small.calls (bt a0 x3_1) false _ A5.out).mono ?_); rintro e w' ⟨rfl, ⟨nd, rfl⟩⟩; refine ⟨_, rfl, ?_⟩; have p8 : 0 ≤ (x3_1 : Int) := od_; have q8 : x3_1 < (a0.size : Int) := od_; have hx8 := bt_at a0 x3_1; replace p8 := eq_true p8; replace q8 := eq_true q8) | (go_at_call 93; (with_reducible refine (spec_l1Digit.calls (bt a0 x3_1) true _ A9.out).mono ?_); rintro e w' ⟨rfl, ⟨nd, rfl⟩⟩))
       go_roundg k1
       case measure => have := HK1.out; omega
       case rel => exact ⟨(wrap64 (x3_1 + 1)), rs_, H', ⟨by have := HK1.out; omega⟩, dr_⟩
     · replace c10 := Bool.eq_false_iff.mpr c10
       subst c10
       rw [if_neg nf_] at H
       by_cases c12 : (bt a0 x3_1) = 45
       rotate_left
       · rw [if_neg c12] at H
         obtain ⟨c12b0, c12b1⟩ := eF_ c12
         obtain rfl := si_ H
         have p4 : 0 ≤ (x3_1 : Int) := od_
         have q4 : x3_1 < (a0.size : Int) := od_
         have hx4 := bt_at a0 x3_1
         replace p4 := eq_true p4
         replace q4 := eq_true q4
         go_wp2_with (first | ((with_reducible refine gc_ (f := 92) rfl ?_); refine gL_ (some 13) Tryz.func92 #[.int .u8 (bt a0 x3_1)] ?_; (with_reducible refine (spec_l1Small.calls (bt a0 x3_1) false _ A5.out).mono ?_); rintro e w' ⟨rfl, ⟨nd, rfl⟩⟩; refine ⟨_, rfl, ?_⟩; have p8 : 0 ≤ (x3_1 : Int) := od_; have q8 : x3_1 < (a0.size : Int) := od_; have hx8 := bt_at a0 x3_1; replace p8 := eq_true p8; replace q8 := eq_true q8) | (go_at_call 93; (with_reducible refine (spec_l1Digit.calls (bt a0 x3_1) false _ A9.out).mono ?_); rintro e w' ⟨rfl, ⟨nd, rfl⟩⟩; have p11 : 0 ≤ (x3_1 : Int) := od_; have q11 : x3_1 < (a0.size : Int) := od_; have hx11 := bt_at a0 x3_1; replace p11 := eq_true p11; replace q11 := eq_true q11))
         go_ret
         exact ⟨rs_, dr_⟩
       rw [if_pos c12] at H
       obtain ⟨c12b0, c12b1⟩ := eT_ c12
       clear c12
       have H' := A_ H
       clear H
       have p4 : 0 ≤ (x3_1 : Int) := od_
       have q4 : x3_1 < (a0.size : Int) := od_
       have hx4 := bt_at a0 x3_1
       replace p4 := eq_true p4
       replace q4 := eq_true q4
       go_wp2_with (first | ((with_reducible refine gc_ (f := 92) rfl ?_); refine gL_ (some 13) Tryz.func92 #[.int .u8 (bt a0 x3_1)] ?_; (with_reducible refine (spec_l1Small.calls (bt a0 x3_1) false _ A5.out).mono ?_); rintro e w' ⟨rfl, ⟨nd, rfl⟩⟩; refine ⟨_, rfl, ?_⟩; have p8 : 0 ≤ (x3_1 : Int) := od_; have q8 : x3_1 < (a0.size : Int) := od_; have hx8 := bt_at a0 x3_1; replace p8 := eq_true p8; replace q8 := eq_true q8) | (go_at_call 93; (with_reducible refine (spec_l1Digit.calls (bt a0 x3_1) false _ A9.out).mono ?_); rintro e w' ⟨rfl, ⟨nd, rfl⟩⟩; have p11 : 0 ≤ (x3_1 : Int) := od_; have q11 : x3_1 < (a0.size : Int) := od_; have hx11 := bt_at a0 x3_1; replace p11 := eq_true p11; replace q11 := eq_true q11))
       go_roundg k1
       case measure => have := HK1.out; omega
       case rel => exact ⟨(wrap64 (x3_1 + 1)), rs_, H', ⟨by have := HK1.out; omega⟩, dr_⟩
set_option maxHeartbeats 8000000
set_option maxRecDepth 100000
mutual
def spec_l8Count.j0 : Nat → Int → Bool → ByteArray → ByteArray → ByteArray → List (S24) → Option (Int)
 | 0, _, _, _, _, _, _ => none
 | k + 1, x1, x49, x108000, x108001, x108002, x108003 => if x49 = true then (some 100) else (spec_l8Count.l0 k x1 1 0 x108000 x108001 x108002 x108003)
def spec_l8Count.l0 : Nat → Int → Int → Int → ByteArray → ByteArray → ByteArray → List (S24) → Option (Int)
 | 0, _, _, _, _, _, _, _ => none
 | k + 1, x1, x5, x6, x108000, x108001, x108002, x108003 => if x6 < (x108003.length : Int) then (if x5 ≤ 20 then (if 0 ≤ x6 then ((spec_l8Count.f k ((rd_T24 x108003 x6).f0) ((rd_T24 x108003 x6).f1) ((rd_T24 x108003 x6).f2) ((rd_T24 x108003 x6).f3) (wrap64 (x1 + 1))).bind fun t112 => (spec_l8Count.l0 k x1 (wrap64 (x5 + t112)) (wrap64 (x6 + 1)) x108000 x108001 x108002 x108003)) else (none)) else (some x5)) else (some x5)
def spec_l8Count.f : Nat → ByteArray → ByteArray → ByteArray → List (S24) → Int → Option (Int)
 | 0, _, _, _, _, _ => none
 | k + 1, a0_0, a0_1, a0_2, l0_3, a1 => if a1 > 5 then (spec_l8Count.j0 k a1 true a0_0 a0_1 a0_2 l0_3) else ((spec_SmallName.f k a0_1).bind fun t108 => (if t108 = true then (if (a0_0.size : Int) > 20 then (spec_l8Count.j0 k a1 true a0_0 a0_1 a0_2 l0_3) else ((spec_Plain.f k a0_0).bind fun t109 => (if t109 = true then (if (a0_2.size : Int) > 60 then (spec_l8Count.j0 k a1 true a0_0 a0_1 a0_2 l0_3) else ((spec_Plain.f k a0_2).bind fun t110 => (if t110 = true then (if a0_2.toList = ([] : List UInt8) then (spec_l8Count.j0 k a1 false a0_0 a0_1 a0_2 l0_3) else (spec_l8Count.j0 k a1 (decide ((l0_3.length : Int) > 0)) a0_0 a0_1 a0_2 l0_3)) else (spec_l8Count.j0 k a1 true a0_0 a0_1 a0_2 l0_3)))) else (spec_l8Count.j0 k a1 true a0_0 a0_1 a0_2 l0_3)))) else (spec_l8Count.j0 k a1 true a0_0 a0_1 a0_2 l0_3)))
end
theorem spec_l8Count.calls (k : Nat) : ∀ (a0_0 : ByteArray) (a0_1 : ByteArray) (a0_2 : ByteArray) (A0_3 : Option Addr) (c0_3 : Nat) (l0_3 : List (S24)) (a1 : Int) (r : Int) (w : World) (hr0_3 : Kd.C k24 w A0_3 l0_3.length l0_3) (hc0_3 : l0_3.length ≤ c0_3) (h : spec_l8Count.f k a0_0 a0_1 a0_2 l0_3 a1 = some r),
 Calls Tryz.prog 50 #[.agg #[.string a0_0, .string a0_1, .string a0_2, .slice A0_3 l0_3.length c0_3], .int .i64 a1] w fun e w' => e = .returned (.int .i64 r) ∧ Below w.heap.size w w' := by
 induction k using Nat.strongRecOn with
 | _ k ih =>
 intro a0_0 a0_1 a0_2 A0_3 c0_3 l0_3 a1 r w hr0_3 hc0_3 h
 cases k with
 | zero => exact absurd h (by simp [spec_l8Count.f])
 | succ k =>
 simp only [spec_l8Count.f] at h
 have hu24 := Tryz.underlying24
 have HR0_3 := A_ hr0_3
 clear hr0_3 hc0_3
 have HB := A_ (Below.refl w.heap.size w)
 have H : (if a1 > 5 then (spec_l8Count.j0 k a1 true a0_0 a0_1 a0_2 l0_3) else ((spec_SmallName.f k a0_1).bind fun t34 => (if t34 = true then (if (a0_0.size : Int) > 20 then (spec_l8Count.j0 k a1 true a0_0 a0_1 a0_2 l0_3) else ((spec_Plain.f k a0_0).bind fun t35 => (if t35 = true then (if (a0_2.size : Int) > 60 then (spec_l8Count.j0 k a1 true a0_0 a0_1 a0_2 l0_3) else ((spec_Plain.f k a0_2).bind fun t36 => (if t36 = true then (if a0_2.toList = ([] : List UInt8) then (spec_l8Count.j0 k a1 false a0_0 a0_1 a0_2 l0_3) else (spec_l8Count.j0 k a1 (decide ((l0_3.length : Int) > 0)) a0_0 a0_1 a0_2 l0_3)) else (spec_l8Count.j0 k a1 true a0_0 a0_1 a0_2 l0_3)))) else (spec_l8Count.j0 k a1 true a0_0 a0_1 a0_2 l0_3)))) else (spec_l8Count.j0 k a1 true a0_0 a0_1 a0_2 l0_3)))) = some r := h
 clear h
 have HC3 := A_ H
 clear H
 go_enter Tryz.func50, Tryz.ntmps50
 go_upto_region 1 with (first | ((with_reducible refine gd_ (N := 2) rfl ?_); (try (refine gate_guard (by rfl) ?_; dsimp only)); refine bx_ (N := 2) (cs := #[.string a0_0, .string a0_1, .string a0_2, .slice A0_3 l0_3.length c0_3]) (t := 24) ?_; intro gb31 hg w4 hbox hb; have BK31 := A_ (hbox); have GW31 := A_ (ge_ hg bB_ : w.heap.size ≤ gb31); have GE31 := A_ (ge_ hg bB_ : w.heap.size ≤ gb31); replace HB := A_ (below_step bB_ hb); clear hb hbox hg))
 (try simp only [Act.put, List.setIfInBounds_toArray, List.set_cons_zero, List.set_cons_succ])
 go_cut [49] (fun v49 wc => ∃ (kq : Nat) (x49_2 : Bool), v49 = .bool x49_2 ∧ Aside0 (spec_l8Count.j0 kq a1 x49_2 a0_0 a0_1 a0_2 l0_3 = some r) ∧ Aside0 (kq ≤ k) ∧ Aside0 (wc.heap[gb31]? = some (.cells #[.string a0_0, .string a0_1, .string a0_2, (.slice A0_3 l0_3.length c0_3)] 24 (0, 0))) ∧ Aside0 (Below w.heap.size w wc))
 case first =>
  have H := HC3.out
  clear HC3
  by_cases c5 : a1 > 5
  · rw [if_pos c5] at H
    have c5b0 : decide (5 < a1) = true := decide_eq_true c5
    clear c5
    (first | rw [c5b0] | (simp only [i64_w, i32_w]; rw [c5b0]) | skip)
    have H' := A_ H
    clear H
    go_wp2
    go_meet
    case rel => exact ⟨_, (true), rs_, H', ⟨by first | omega | exact Nat.le_refl _⟩, ⟨vb_ BK31.out⟩, ⟨bG_ GE31.out⟩⟩
  rw [if_neg c5] at H
  have c5b0 : decide (5 < a1) = false := decide_eq_false c5
  clear c5
  (first | rw [c5b0] | (simp only [i64_w, i32_w]; rw [c5b0]) | skip)
  obtain ⟨t34, A6, H⟩ := bo_ H
  (try dsimp only at H)
  by_cases c7 : t34 = true
  · subst c7
    rw [if_pos rfl] at H
    by_cases c8 : (a0_0.size : Int) > 20
    · rw [if_pos c8] at H
      have c8b0 : decide (20 < (a0_0.size : Int)) = true := decide_eq_true c8
      have c8b1 : decide (20 < a0_0.size) = true := decide_eq_true (by omega)
      clear c8
      have H' := A_ H
      clear H
      obtain ⟨hcz9_0, hcz9_1, hcz9_2, hcz9_3, hfz9_0, hfz9_1, hfz9_2, hfz9_3⟩ := cz4_ BK31.out
      go_wp2_with (first | (go_at_call 71; (with_reducible refine (spec_SmallName.calls k a0_1 true _ A6.out).mono ?_); rintro e w' ⟨rfl, ⟨nd, rfl⟩⟩))
      go_meet
      case rel => exact ⟨_, (true), rs_, H', ⟨by first | omega | exact Nat.le_refl _⟩, ⟨vb_ BK31.out⟩, ⟨bG_ GE31.out⟩⟩
    rw [if_neg c8] at H
    have c8b0 : decide (20 < (a0_0.size : Int)) = false := decide_eq_false c8
    have c8b1 : decide (20 < a0_0.size) = false := decide_eq_false (by omega)
    clear c8
    obtain ⟨t35, A10, H⟩ := bo_ H
    (try dsimp only at H)
    by_cases c11 : t35 = true
    · subst c11
      rw [if_pos rfl] at H
      by_cases c12 : (a0_2.size : Int) > 60
      · rw [if_pos c12] at H
        have c12b0 : decide (60 < (a0_2.size : Int)) = true := decide_eq_true c12
        have c12b1 : decide (60 < a0_2.size) = true := decide_eq_true (by omega)
        clear c12
        have H' := A_ H
        clear H
        obtain ⟨hcz13_0, hcz13_1, hcz13_2, hcz13_3, hfz13_0, hfz13_1, hfz13_2, hfz13_3⟩ := cz4_ BK31.out
        go_wp2_with (first | (go_at_call 71; (with_reducible refine (spec_SmallName.calls k a0_1 true _ A6.out).mono ?_); rintro e w' ⟨rfl, ⟨nd, rfl⟩⟩) | (go_at_call 56; (with_reducible refine (spec_Plain.calls k a0_0 true _ A10.out).mono ?_); rintro e w' ⟨rfl, ⟨nd, rfl⟩⟩))
        go_meet
        case rel => exact ⟨_, (true), rs_, H', ⟨by first | omega | exact Nat.le_refl _⟩, ⟨vb_ BK31.out⟩, ⟨bG_ GE31.out⟩⟩
      rw [if_neg c12] at H
      have c12b0 : decide (60 < (a0_2.size : Int)) = false := decide_eq_false c12
      have c12b1 : decide (60 < a0_2.size) = false := decide_eq_false (by omega)
      clear c12
      obtain ⟨t36, A14, H⟩ := bo_ H
      (try dsimp only at H)
      by_cases c15 : t36 = true
      · subst c15
        rw [if_pos rfl] at H
        by_cases c16 : a0_2.toList = ([] : List UInt8)
        · rw [if_pos c16] at H
          obtain ⟨c16b0, c16b1⟩ := eT_ c16
          clear c16
          have H' := A_ H
          clear H
          obtain ⟨hcz17_0, hcz17_1, hcz17_2, hcz17_3, hfz17_0, hfz17_1, hfz17_2, hfz17_3⟩ := cz4_ BK31.out
          go_wp2_with (first | (go_at_call 71; (with_reducible refine (spec_SmallName.calls k a0_1 true _ A6.out).mono ?_); rintro e w' ⟨rfl, ⟨nd, rfl⟩⟩) | (go_at_call 56; (with_reducible refine (spec_Plain.calls k a0_0 true _ A10.out).mono ?_); rintro e w' ⟨rfl, ⟨nd, rfl⟩⟩) | (go_at_call 56; (with_reducible refine (spec_Plain.calls k a0_2 true _ A14.out).mono ?_); rintro e w' ⟨rfl, ⟨nd, rfl⟩⟩))
          go_meet
          case rel => exact ⟨_, (false), rs_, H', ⟨by first | omega | exact Nat.le_refl _⟩, ⟨vb_ BK31.out⟩, ⟨bG_ GE31.out⟩⟩
        rw [if_neg c16] at H
        obtain ⟨c16b0, c16b1⟩ := eF_ c16
        have H' := A_ H
        clear H
        obtain ⟨hcz18_0, hcz18_1, hcz18_2, hcz18_3, hfz18_0, hfz18_1, hfz18_2, hfz18_3⟩ := cz4_ BK31.out
        go_wp2_with (first | (go_at_call 71; (with_reducible refine (spec_SmallName.calls k a0_1 true _ A6.out).mono ?_); rintro e w' ⟨rfl, ⟨nd, rfl⟩⟩) | (go_at_call 56; (with_reducible refine (spec_Plain.calls k a0_0 true _ A10.out).mono ?_); rintro e w' ⟨rfl, ⟨nd, rfl⟩⟩) | (go_at_call 56; (with_reducible refine (spec_Plain.calls k a0_2 true _ A14.out).mono ?_); rintro e w' ⟨rfl, ⟨nd, rfl⟩⟩))
        go_meet
        case rel => exact ⟨_, (decide ((l0_3.length : Int) > 0)), rs_, H', ⟨by first | omega | exact Nat.le_refl _⟩, ⟨vb_ BK31.out⟩, ⟨bG_ GE31.out⟩⟩
      · replace c15 := Bool.eq_false_iff.mpr c15
        subst c15
        rw [if_neg nf_] at H
        have H' := A_ H
        clear H
        obtain ⟨hcz19_0, hcz19_1, hcz19_2, hcz19_3, hfz19_0, hfz19_1, hfz19_2, hfz19_3⟩ := cz4_ BK31.out
        go_wp2_with (first | (go_at_call 71; (with_reducible refine (spec_SmallName.calls k a0_1 true _ A6.out).mono ?_); rintro e w' ⟨rfl, ⟨nd, rfl⟩⟩) | (go_at_call 56; (with_reducible refine (spec_Plain.calls k a0_0 true _ A10.out).mono ?_); rintro e w' ⟨rfl, ⟨nd, rfl⟩⟩) | (go_at_call 56; (with_reducible refine (spec_Plain.calls k a0_2 false _ A14.out).mono ?_); rintro e w' ⟨rfl, ⟨nd, rfl⟩⟩))
        go_meet
        case rel => exact ⟨_, (true), rs_, H', ⟨by first | omega | exact Nat.le_refl _⟩, ⟨vb_ BK31.out⟩, ⟨bG_ GE31.out⟩⟩
    · replace c11 := Bool.eq_false_iff.mpr c11
      subst c11
      rw [if_neg nf_] at H
      have H' := A_ H
      clear H
      obtain ⟨hcz20_0, hcz20_1, hcz20_2, hcz20_3, hfz20_0, hfz20_1, hfz20_2, hfz20_3⟩ := cz4_ BK31.out
      go_wp2_with (first | (go_at_call 71; (with_reducible refine (spec_SmallName.calls k a0_1 true _ A6.out).mono ?_); rintro e w' ⟨rfl, ⟨nd, rfl⟩⟩) | (go_at_call 56; (with_reducible refine (spec_Plain.calls k a0_0 false _ A10.out).mono ?_); rintro e w' ⟨rfl, ⟨nd, rfl⟩⟩))
      go_meet
      case rel => exact ⟨_, (true), rs_, H', ⟨by first | omega | exact Nat.le_refl _⟩, ⟨vb_ BK31.out⟩, ⟨bG_ GE31.out⟩⟩
  · replace c7 := Bool.eq_false_iff.mpr c7
    subst c7
    rw [if_neg nf_] at H
    have H' := A_ H
    clear H
    obtain ⟨hcz21_0, hcz21_1, hcz21_2, hcz21_3, hfz21_0, hfz21_1, hfz21_2, hfz21_3⟩ := cz4_ BK31.out
    go_wp2_with (first | (go_at_call 71; (with_reducible refine (spec_SmallName.calls k a0_1 false _ A6.out).mono ?_); rintro e w' ⟨rfl, ⟨nd, rfl⟩⟩))
    go_meet
    case rel => exact ⟨_, (true), rs_, H', ⟨by first | omega | exact Nat.le_refl _⟩, ⟨vb_ BK31.out⟩, ⟨bG_ GE31.out⟩⟩
 case rest =>
  clear HC3
  obtain ⟨kq, x49_2, rfl, HA, HJ2, BK31, HB⟩ := hcut
  cases kq with
  | zero => exact absurd HA.out (by simp [spec_l8Count.j0])
  | succ kj2 =>
   have H := HA.out
   clear HA
   simp only [spec_l8Count.j0] at H
   by_cases c22 : x49_2 = true
   · subst c22
     rw [if_pos rfl] at H
     obtain rfl := si_ H
     go_wp2
     go_ret
     (try rw [show (a0_2.toList == ([] : List UInt8)) = a0_2.toList.isEmpty from by cases a0_2.toList <;> rfl])   -- as the walk has it
     exact ⟨rr_, bG_ GE31.out⟩
   · replace c22 := Bool.eq_false_iff.mpr c22
     subst c22
     rw [if_neg nf_] at H
     have H' := A_ H
     clear H
     go_wp2
     go_loopg [5, 6] kj2 (fun kq v5 v6 w' => ∃ (x5_2 : Int) (x6_2 : Int), v5 = .int .i64 x5_2 ∧ v6 = .int .i64 x6_2 ∧ Aside0 (spec_l8Count.l0 kq a1 x5_2 x6_2 a0_0 a0_1 a0_2 l0_3 = some r) ∧ Aside0 (kq ≤ kj2) ∧ Aside0 (w'.heap[gb31]? = some (.cells #[.string a0_0, .string a0_1, .string a0_2, (.slice A0_3 l0_3.length c0_3)] 24 (0, 0))) ∧ Aside0 (Below w.heap.size w w'))
     case atStart => exact ⟨(1), (0), rs_, rs_, H', ⟨Nat.le_refl _⟩, ⟨vb_ BK31.out⟩, ⟨bG_ GE31.out⟩⟩
     case round =>
      clear H'
      try clear c22
      obtain ⟨x5_2, x6_2, rfl, rfl, HA, HK2, BK31, HB⟩ := hrel
      cases gk with
      | zero => exact absurd HA.out (by simp [spec_l8Count.l0])
      | succ k2 =>
       have H := HA.out
       clear HA
       simp only [spec_l8Count.l0] at H
       by_cases c23 : x6_2 < (l0_3.length : Int)
       rotate_left
       · rw [if_neg c23] at H
         have c23b0 := decide_eq_false c23
         clear c23
         obtain rfl := si_ H
         have hcz30_0 : wr.cell? ⟨gb31, 0, none⟩ = some (.string a0_0) := bl_ BK31.out 0
         have hcz30_1 : wr.cell? ⟨gb31, 1, none⟩ = some (.string a0_1) := bl_ BK31.out 1
         have hcz30_2 : wr.cell? ⟨gb31, 2, none⟩ = some (.string a0_2) := bl_ BK31.out 2
         have hcz30_3 : wr.cell? ⟨gb31, 3, none⟩ = some (.slice A0_3 l0_3.length c0_3) := bl_ BK31.out 3
         have hfz30_0 := blk_frozen BK31.out 0
         have hfz30_1 := blk_frozen BK31.out 1
         have hfz30_2 := blk_frozen BK31.out 2
         have hfz30_3 := blk_frozen BK31.out 3
         go_wp2
         go_ret
         (try rw [show (a0_2.toList == ([] : List UInt8)) = a0_2.toList.isEmpty from by cases a0_2.toList <;> rfl])   -- as the walk has it
         exact ⟨rr_, bG_ GE31.out⟩
       rw [if_pos c23] at H
       have c23b0 := decide_eq_true c23
       clear c23
       by_cases c24 : x5_2 ≤ 20
       rotate_left
       · rw [if_neg c24] at H
         have c24b0 := decide_eq_false c24
         clear c24
         obtain rfl := si_ H
         have hcz29_0 : wr.cell? ⟨gb31, 0, none⟩ = some (.string a0_0) := bl_ BK31.out 0
         have hcz29_1 : wr.cell? ⟨gb31, 1, none⟩ = some (.string a0_1) := bl_ BK31.out 1
         have hcz29_2 : wr.cell? ⟨gb31, 2, none⟩ = some (.string a0_2) := bl_ BK31.out 2
         have hcz29_3 : wr.cell? ⟨gb31, 3, none⟩ = some (.slice A0_3 l0_3.length c0_3) := bl_ BK31.out 3
         have hfz29_0 := blk_frozen BK31.out 0
         have hfz29_1 := blk_frozen BK31.out 1
         have hfz29_2 := blk_frozen BK31.out 2
         have hfz29_3 := blk_frozen BK31.out 3
         go_wp2
         go_ret
         (try rw [show (a0_2.toList == ([] : List UInt8)) = a0_2.toList.isEmpty from by cases a0_2.toList <;> rfl])   -- as the walk has it
         exact ⟨rr_, bG_ GE31.out⟩
       rw [if_pos c24] at H
       have c24b0 := decide_eq_true c24
       clear c24
       by_cases c25 : 0 ≤ x6_2
       rotate_left
       · exact absurd H (by rw [if_neg c25]; simp)
       rw [if_pos c25] at H
       have c25b0 := decide_eq_true c25
       clear c25
       obtain ⟨t37, A26, H⟩ := bo_ H
       (try dsimp only at H)
       have H' := A_ H
       clear H
       have hcz27_0 : wr.cell? ⟨gb31, 0, none⟩ = some (.string a0_0) := bl_ BK31.out 0
       have hcz27_1 : wr.cell? ⟨gb31, 1, none⟩ = some (.string a0_1) := bl_ BK31.out 1
       have hcz27_2 : wr.cell? ⟨gb31, 2, none⟩ = some (.string a0_2) := bl_ BK31.out 2
       have hcz27_3 : wr.cell? ⟨gb31, 3, none⟩ = some (.slice A0_3 l0_3.length c0_3) := bl_ BK31.out 3
       have hfz27_0 := blk_frozen BK31.out 0
       have hfz27_1 := blk_frozen BK31.out 1
       have hfz27_2 := blk_frozen BK31.out 2
       have hfz27_3 := blk_frozen BK31.out 3
       have p33 : 0 ≤ (x6_2 : Int) := od_
       have q33 : x6_2 < (l0_3.length : Int) := od_
       obtain ⟨ad33, A33_3, c33_3, e33, hx33_0, hx33_1, hx33_2, hx33_3, hl33_3, hi33_3⟩ := at_T24 HR0_3.out x6_2 p33 q33
       cases e33
       replace hx33_0 := bc_ HB.out hx33_0
       replace hx33_1 := bc_ HB.out hx33_1
       replace hx33_2 := bc_ HB.out hx33_2
       replace hx33_3 := bc_ HB.out hx33_3
       have HR33_3 := A_ hi33_3
       have HC33_3 := A_ hl33_3
       clear hi33_3 hl33_3
       replace p33 := eq_true p33
       replace q33 := eq_true q33
       go_wp2_with (first | ((with_reducible refine gc_ (f := 50) rfl ?_); refine gL_ (some 69) Tryz.func50 #[.agg #[.string ((rd_T24 l0_3 x6_2).f0), .string ((rd_T24 l0_3 x6_2).f1), .string ((rd_T24 l0_3 x6_2).f2), .slice A33_3 ((rd_T24 l0_3 x6_2).f3).length c33_3], .int .i64 (wrap64 (a1 + 1))] ?_; (with_reducible refine (ih k2 (by have := HJ2.out; have := HK2.out; omega) ((rd_T24 l0_3 x6_2).f0) ((rd_T24 l0_3 x6_2).f1) ((rd_T24 l0_3 x6_2).f2) _ _ ((rd_T24 l0_3 x6_2).f3) (wrap64 (a1 + 1)) t37 _ ?s1 ?s2 A26.out).mono ?_); (case s1 => exact cC_ (Kd.C_below HR33_3.out HB.out)); (case s2 => exact HC33_3.out); rintro e w28 ⟨rfl, hb⟩; refine ⟨_, rfl, ?_⟩; replace BK31 := A_ (bw_ BK31.out hb); replace HB := A_ (below_step (bG_ GE31.out) hb); clear hb))
       go_roundg k2
       case measure => have := HJ2.out; have := HK2.out; omega
       case rel => exact ⟨(wrap64 (x5_2 + t37)), (wrap64 (x6_2 + 1)), rs_, rs_, H', ⟨by have := HJ2.out; have := HK2.out; omega⟩, ⟨vb_ BK31.out⟩, ⟨bG_ GE31.out⟩⟩
def spec_NodeOk.f (k : Nat) (a0_0 : ByteArray) (a0_1 : ByteArray) (a0_2 : ByteArray) (l0_3 : List (S24)) : Option (Bool) := (spec_l8Count.f k a0_0 a0_1 a0_2 l0_3 1).bind fun t114 => (some (decide (t114 ≤ 20)))
theorem spec_NodeOk.calls (k : Nat) (a0_0 : ByteArray) (a0_1 : ByteArray) (a0_2 : ByteArray) (A0_3 : Option Addr) (c0_3 : Nat) (l0_3 : List (S24)) (r : Bool) (w : World) (hr0_3 : Kd.C k24 w A0_3 l0_3.length l0_3) (hc0_3 : l0_3.length ≤ c0_3) (h : spec_NodeOk.f k a0_0 a0_1 a0_2 l0_3 = some r) :
 Calls Tryz.prog 20 #[.agg #[.string a0_0, .string a0_1, .string a0_2, .slice A0_3 l0_3.length c0_3]] w fun e w' => e = .returned (.bool r) ∧ Below w.heap.size w w' := by
 have hu24 := Tryz.underlying24
 have HR0_3 := A_ hr0_3
 have HC0_3 := A_ hc0_3
 clear hr0_3 hc0_3
 have HB := A_ (Below.refl w.heap.size w)
 have H : ((spec_l8Count.f k a0_0 a0_1 a0_2 l0_3 1).bind fun t7 => (some (decide (t7 ≤ 20)))) = some r := h
 clear h
 obtain ⟨t7, A2, H⟩ := bo_ H
 (try dsimp only at H)
 obtain rfl := si_ H
 go_enter Tryz.func20, Tryz.ntmps20
 go_wp2_with (first | ((with_reducible refine gd_ (N := 1) rfl ?_); refine bx_ (N := 1) (cs := #[.string a0_0, .string a0_1, .string a0_2, .slice A0_3 l0_3.length c0_3]) (t := 24) ?_; intro gb6 hg w3 hbox hb; have BK6 := A_ (hbox); have GW6 := A_ (ge_ hg bB_ : w.heap.size ≤ gb6); have GE6 := A_ (ge_ hg bB_ : w.heap.size ≤ gb6); replace HB := A_ (below_step bB_ hb); clear hb hbox hg; obtain ⟨hcz4_0, hcz4_1, hcz4_2, hcz4_3, hfz4_0, hfz4_1, hfz4_2, hfz4_3⟩ := cz4_ BK6.out) | ((with_reducible refine gc_ (f := 50) rfl ?_); refine gL_ (some 4) Tryz.func50 #[.agg #[.string a0_0, .string a0_1, .string a0_2, .slice A0_3 l0_3.length c0_3], .int .i64 1] ?_; (with_reducible refine (spec_l8Count.calls k a0_0 a0_1 a0_2 _ _ l0_3 1 t7 _ ?s1 ?s2 A2.out).mono ?_); (case s1 => exact cC_ (Kd.C_below HR0_3.out HB.out)); (case s2 => exact HC0_3.out); rintro e w5 ⟨rfl, hb⟩; refine ⟨_, rfl, ?_⟩; replace HB := A_ (below_step (bG_ GE6.out) hb); clear hb))
 go_ret
 exact ⟨rr_, bG_ GE6.out⟩
mutual
def spec_ParseNum.l0 : Nat → ByteArray → Int → Int → Int → Option (Int × Bool)
 | 0, _, _, _, _ => none
 | k + 1, x0, x1, x6, x7 => if x7 < (x0.size : Int) then (spec_ParseNum.j1 k x0 x1 x6 x7 (decide (x7 < 8))) else (spec_ParseNum.j1 k x0 x1 x6 x7 false)
def spec_ParseNum.j1 : Nat → ByteArray → Int → Int → Int → Bool → Option (Int × Bool)
 | 0, _, _, _, _, _ => none
 | k + 1, x0, x1, x6, x7, x15 => if x15 = true then (if 0 ≤ x7 then (if x7 < (x0.size : Int) then ((spec_l1Digit.f (bt x0 x7)).bind fun t115 => (if t115 = true then (spec_ParseNum.l0 k x0 x1 (wrap64 ((wrap64 (x6 * 10)) + (((bt x0 x7) - 48) % 256))) (wrap64 (x7 + 1))) else (some (0, false)))) else (none)) else (none)) else ((spec_l1In.f (x0.size : Int) 1 7).bind fun t116 => (if t116 = true then (if (x0.size : Int) > 1 then (if 0 < (x0.size : Int) then (if (bt x0 0) = 48 then (some (0, false)) else (if x6 > x1 then (some (0, false)) else (some (x6, true)))) else (none)) else (if x6 > x1 then (some (0, false)) else (some (x6, true)))) else (some (0, false))))
end
def spec_ParseNum.f (k : Nat) (a0 : ByteArray) (a1 : Int) : Option (Int × Bool) := spec_ParseNum.l0 k a0 a1 0 0
theorem spec_ParseNum.calls (k : Nat) (a0 : ByteArray) (a1 : Int) (r1 : Int) (r2 : Bool) (w : World) (h : spec_ParseNum.f k a0 a1 = some (r1, r2)) :
 Calls Tryz.prog 95 #[.string a0, .int .i64 a1] w fun e w' => e = .returned (.tuple #[.int .i64 r1, .bool r2]) ∧ Drawn0 w w' := by
 have H : (spec_ParseNum.l0 k a0 a1 0 0) = some (r1, r2) := h
 clear h
 have H' := A_ H
 clear H
 go_enter Tryz.func95, Tryz.ntmps95
 go_wp2
 go_loopg [6, 7] k (fun kq v6 v7 w' => ∃ (x6_1 : Int) (x7_1 : Int), v6 = .int .i64 x6_1 ∧ v7 = .int .i64 x7_1 ∧ Aside0 (spec_ParseNum.l0 kq a0 a1 x6_1 x7_1 = some (r1, r2)) ∧ Aside0 (kq ≤ k) ∧ Drawn0 w w')
 case atStart => exact ⟨(0), (0), rs_, rs_, H', ⟨Nat.le_refl _⟩, dr_⟩
 case round =>
  clear H'
  obtain ⟨x6_1, x7_1, rfl, rfl, HA, HK1, ⟨m1, rfl⟩⟩ := hrel
  cases gk with
  | zero => exact absurd HA.out (by simp [spec_ParseNum.l0])
  | succ k1 =>
   have H := HA.out
   clear HA
   simp only [spec_ParseNum.l0] at H
   have HC3 := A_ H
   clear H
   go_upto_region 3 with (fail)
   go_cut [15] (fun v15 wc => ∃ (kq : Nat) (x15_2 : Bool), v15 = .bool x15_2 ∧ Aside0 (spec_ParseNum.j1 kq a0 a1 x6_1 x7_1 x15_2 = some (r1, r2)) ∧ Aside0 (kq ≤ k1) ∧ Drawn0 w wc)
   case first =>
    have H := HC3.out
    clear HC3
    by_cases c4 : x7_1 < (a0.size : Int)
    rotate_left
    · rw [if_neg c4] at H
      have c4b0 := decide_eq_false c4
      clear c4
      (first | rw [c4b0] | (simp only [i64_w, i32_w]; rw [c4b0]) | skip)
      have H' := A_ H
      clear H
      go_wp2
      go_meet
      case rel => exact ⟨_, (false), rs_, H', ⟨by have := HK1.out; first | omega | exact Nat.le_refl _⟩, dr_⟩
    rw [if_pos c4] at H
    have c4b0 := decide_eq_true c4
    clear c4
    (first | rw [c4b0] | (simp only [i64_w, i32_w]; rw [c4b0]) | skip)
    have H' := A_ H
    clear H
    go_wp2
    go_meet
    case rel => exact ⟨_, (decide (x7_1 < 8)), rs_, H', ⟨by have := HK1.out; first | omega | exact Nat.le_refl _⟩, dr_⟩
   case rest =>
    clear HC3
    obtain ⟨kq, x15_2, rfl, HA, HJ2, ⟨mc2, rfl⟩⟩ := hcut
    cases kq with
    | zero => exact absurd HA.out (by simp [spec_ParseNum.j1])
    | succ kj2 =>
     have H := HA.out
     clear HA
     simp only [spec_ParseNum.j1] at H
     by_cases c5 : x15_2 = true
     · subst c5
       rw [if_pos rfl] at H
       by_cases c6 : 0 ≤ x7_1
       rotate_left
       · exact absurd H (by rw [if_neg c6]; simp)
       rw [if_pos c6] at H
       have c6b0 := decide_eq_true c6
       clear c6
       by_cases c7 : x7_1 < (a0.size : Int)
       rotate_left
       · exact absurd H (by rw [if_neg c7]; simp)
       rw [if_pos c7] at H
       have c7b0 := decide_eq_true c7
       clear c7
       obtain ⟨t20, A9, H⟩ := bo_ H
       (try dsimp only at H)
       by_cases c10 : t20 = true
       · subst c10
         rw [if_pos rfl] at H
         have H' := A_ H
         clear H
         have p8 : 0 ≤ (x7_1 : Int) := od_
         have q8 : x7_1 < (a0.size : Int) := od_
         have hx8 := bt_at a0 x7_1
         replace p8 := eq_true p8
         replace q8 := eq_true q8
         go_wp2_with (first | ((with_reducible refine gc_ (f := 93) rfl ?_); refine gL_ (some 21) Tryz.func93 #[.int .u8 (bt a0 x7_1)] ?_; (with_reducible refine (spec_l1Digit.calls (bt a0 x7_1) true _ A9.out).mono ?_); rintro e w' ⟨rfl, ⟨nd, rfl⟩⟩; refine ⟨_, rfl, ?_⟩; have p11 : 0 ≤ (x7_1 : Int) := od_; have q11 : x7_1 < (a0.size : Int) := od_; have hx11 := bt_at a0 x7_1; replace p11 := eq_true p11; replace q11 := eq_true q11))
         go_roundg kj2
         case measure => have := HK1.out; have := HJ2.out; omega
         case rel => exact ⟨(wrap64 ((wrap64 (x6_1 * 10)) + (((bt a0 x7_1) - 48) % 256))), (wrap64 (x7_1 + 1)), rs_, rs_, H', ⟨by have := HK1.out; have := HJ2.out; omega⟩, dr_⟩
       · replace c10 := Bool.eq_false_iff.mpr c10
         subst c10
         rw [if_neg nf_] at H
         simp only [Option.some.injEq, Prod.mk.injEq] at H
         obtain ⟨rfl, rfl⟩ := H
         have p8 : 0 ≤ (x7_1 : Int) := od_
         have q8 : x7_1 < (a0.size : Int) := od_
         have hx8 := bt_at a0 x7_1
         replace p8 := eq_true p8
         replace q8 := eq_true q8
         go_wp2_with (first | ((with_reducible refine gc_ (f := 93) rfl ?_); refine gL_ (some 21) Tryz.func93 #[.int .u8 (bt a0 x7_1)] ?_; (with_reducible refine (spec_l1Digit.calls (bt a0 x7_1) false _ A9.out).mono ?_); rintro e w' ⟨rfl, ⟨nd, rfl⟩⟩; refine ⟨_, rfl, ?_⟩))
         go_ret2
         exact ⟨rs_, dr_⟩
     · replace c5 := Bool.eq_false_iff.mpr c5
       subst c5
       rw [if_neg nf_] at H
       obtain ⟨t21, A12, H⟩ := bo_ H
       (try dsimp only at H)
       by_cases c13 : t21 = true
       · subst c13
         rw [if_pos rfl] at H
         by_cases c14 : (a0.size : Int) > 1
         rotate_left
         · rw [if_neg c14] at H
           have c14b0 : decide (1 < (a0.size : Int)) = false := decide_eq_false c14
           have c14b1 : decide (1 < a0.size) = false := decide_eq_false (by omega)
           clear c14
           by_cases c19 : x6_1 > a1
           · rw [if_pos c19] at H
             have c19b0 : decide (a1 < x6_1) = true := decide_eq_true c19
             clear c19
             simp only [Option.some.injEq, Prod.mk.injEq] at H
             obtain ⟨rfl, rfl⟩ := H
             go_wp2_with (first | ((with_reducible refine gc_ (f := 76) rfl ?_); refine gL_ (some 33) Tryz.func76 #[.int .i64 (a0.size : Int), .int .i64 1, .int .i64 7] ?_; (with_reducible refine (spec_l1In.calls (a0.size : Int) 1 7 true _ A12.out).mono ?_); rintro e w' ⟨rfl, ⟨nd, rfl⟩⟩; refine ⟨_, rfl, ?_⟩))
             go_ret2
             exact ⟨rs_, dr_⟩
           rw [if_neg c19] at H
           have c19b0 : decide (a1 < x6_1) = false := decide_eq_false c19
           clear c19
           simp only [Option.some.injEq, Prod.mk.injEq] at H
           obtain ⟨rfl, rfl⟩ := H
           go_wp2_with (first | ((with_reducible refine gc_ (f := 76) rfl ?_); refine gL_ (some 33) Tryz.func76 #[.int .i64 (a0.size : Int), .int .i64 1, .int .i64 7] ?_; (with_reducible refine (spec_l1In.calls (a0.size : Int) 1 7 true _ A12.out).mono ?_); rintro e w' ⟨rfl, ⟨nd, rfl⟩⟩; refine ⟨_, rfl, ?_⟩))
           go_ret2
           exact ⟨rs_, dr_⟩
         rw [if_pos c14] at H
         have c14b0 : decide (1 < (a0.size : Int)) = true := decide_eq_true c14
         have c14b1 : decide (1 < a0.size) = true := decide_eq_true (by omega)
         clear c14
         by_cases c15 : 0 < (a0.size : Int)
         rotate_left
         · exact absurd H (by rw [if_neg c15]; simp)
         rw [if_pos c15] at H
         have c15b0 := decide_eq_true c15
         have c15b1 : decide (0 < a0.size) = true := decide_eq_true (by omega)
         clear c15
         by_cases c17 : (bt a0 0) = 48
         · rw [if_pos c17] at H
           obtain ⟨c17b0, c17b1⟩ := eT_ c17
           clear c17
           simp only [Option.some.injEq, Prod.mk.injEq] at H
           obtain ⟨rfl, rfl⟩ := H
           go_wp2_with (first | ((with_reducible refine gc_ (f := 76) rfl ?_); refine gL_ (some 33) Tryz.func76 #[.int .i64 (a0.size : Int), .int .i64 1, .int .i64 7] ?_; (with_reducible refine (spec_l1In.calls (a0.size : Int) 1 7 true _ A12.out).mono ?_); rintro e w' ⟨rfl, ⟨nd, rfl⟩⟩; refine ⟨_, rfl, ?_⟩; have p16 : 0 ≤ (0 : Int) := (by omega); have q16 : 0 < a0.size := (by have : (0 : Int) < (a0.size : Int) := od_; omega); have hx16 : ∀ h : 0 < a0.size, ((a0[0]'h).toNat : Int) = bt a0 0 := bt_at a0 0; clear p16; have qi16 : (0 < (a0.size : Int)) = True := eq_true od_; replace q16 := eq_true q16))
           go_ret2
           exact ⟨rs_, dr_⟩
         rw [if_neg c17] at H
         obtain ⟨c17b0, c17b1⟩ := eF_ c17
         by_cases c18 : x6_1 > a1
         · rw [if_pos c18] at H
           have c18b0 : decide (a1 < x6_1) = true := decide_eq_true c18
           clear c18
           simp only [Option.some.injEq, Prod.mk.injEq] at H
           obtain ⟨rfl, rfl⟩ := H
           go_wp2_with (first | ((with_reducible refine gc_ (f := 76) rfl ?_); refine gL_ (some 33) Tryz.func76 #[.int .i64 (a0.size : Int), .int .i64 1, .int .i64 7] ?_; (with_reducible refine (spec_l1In.calls (a0.size : Int) 1 7 true _ A12.out).mono ?_); rintro e w' ⟨rfl, ⟨nd, rfl⟩⟩; refine ⟨_, rfl, ?_⟩; have p16 : 0 ≤ (0 : Int) := (by omega); have q16 : 0 < a0.size := (by have : (0 : Int) < (a0.size : Int) := od_; omega); have hx16 : ∀ h : 0 < a0.size, ((a0[0]'h).toNat : Int) = bt a0 0 := bt_at a0 0; clear p16; have qi16 : (0 < (a0.size : Int)) = True := eq_true od_; replace q16 := eq_true q16))
           go_ret2
           exact ⟨rs_, dr_⟩
         rw [if_neg c18] at H
         have c18b0 : decide (a1 < x6_1) = false := decide_eq_false c18
         clear c18
         simp only [Option.some.injEq, Prod.mk.injEq] at H
         obtain ⟨rfl, rfl⟩ := H
         go_wp2_with (first | ((with_reducible refine gc_ (f := 76) rfl ?_); refine gL_ (some 33) Tryz.func76 #[.int .i64 (a0.size : Int), .int .i64 1, .int .i64 7] ?_; (with_reducible refine (spec_l1In.calls (a0.size : Int) 1 7 true _ A12.out).mono ?_); rintro e w' ⟨rfl, ⟨nd, rfl⟩⟩; refine ⟨_, rfl, ?_⟩; have p16 : 0 ≤ (0 : Int) := (by omega); have q16 : 0 < a0.size := (by have : (0 : Int) < (a0.size : Int) := od_; omega); have hx16 : ∀ h : 0 < a0.size, ((a0[0]'h).toNat : Int) = bt a0 0 := bt_at a0 0; clear p16; have qi16 : (0 < (a0.size : Int)) = True := eq_true od_; replace q16 := eq_true q16))
         go_ret2
         exact ⟨rs_, dr_⟩
       · replace c13 := Bool.eq_false_iff.mpr c13
         subst c13
         rw [if_neg nf_] at H
         simp only [Option.some.injEq, Prod.mk.injEq] at H
         obtain ⟨rfl, rfl⟩ := H
         go_wp2_with (first | ((with_reducible refine gc_ (f := 76) rfl ?_); refine gL_ (some 33) Tryz.func76 #[.int .i64 (a0.size : Int), .int .i64 1, .int .i64 7] ?_; (with_reducible refine (spec_l1In.calls (a0.size : Int) 1 7 false _ A12.out).mono ?_); rintro e w' ⟨rfl, ⟨nd, rfl⟩⟩; refine ⟨_, rfl, ?_⟩))
         go_ret2
         exact ⟨rs_, dr_⟩
set_option maxHeartbeats 8000000
set_option maxRecDepth 100000
def spec_l7Entity.j0 : Nat → ByteArray → Bool → Option (Int)
 | 0, _, _ => none
 | k + 1, x0, x23 => if x23 = true then (if 1 ≤ (x0.size : Int) then ((spec_ParseNum.f k (x0.extract 1 x0.size) 126).bind fun bt117 => (if bt117.2 = true then (if bt117.1 ≥ 32 then (some bt117.1) else (some (-1))) else (some (-1)))) else (none)) else (some (-1))
def spec_l7Entity.f (k : Nat) (a0 : ByteArray) : Option (Int) := if a0.toList = ([97, 109, 112] : List UInt8) then (some 38) else (if a0.toList = ([108, 116] : List UInt8) then (some 60) else (if a0.toList = ([103, 116] : List UInt8) then (some 62) else (if a0.toList = ([113, 117, 111, 116] : List UInt8) then (some 34) else (if a0.toList = ([97, 112, 111, 115] : List UInt8) then (some 39) else (if (a0.size : Int) > 1 then (if 0 < (a0.size : Int) then (spec_l7Entity.j0 k a0 ((bt a0 0) == 35)) else (none)) else (spec_l7Entity.j0 k a0 false))))))
theorem spec_l7Entity.calls (k : Nat) (a0 : ByteArray) (r : Int) (w : World) (h : spec_l7Entity.f k a0 = some r) :
 Calls Tryz.prog 79 #[.string a0] w fun e w' => e = .returned (.int .i64 r) ∧ Drawn0 w w' := by
 have H : (if a0.toList = ([97, 109, 112] : List UInt8) then (some 38) else (if a0.toList = ([108, 116] : List UInt8) then (some 60) else (if a0.toList = ([103, 116] : List UInt8) then (some 62) else (if a0.toList = ([113, 117, 111, 116] : List UInt8) then (some 34) else (if a0.toList = ([97, 112, 111, 115] : List UInt8) then (some 39) else (if (a0.size : Int) > 1 then (if 0 < (a0.size : Int) then (spec_l7Entity.j0 k a0 ((bt a0 0) == 35)) else (none)) else (spec_l7Entity.j0 k a0 false))))))) = some r := h
 clear h
 by_cases c2 : a0.toList = ([97, 109, 112] : List UInt8)
 · rw [if_pos c2] at H
   obtain ⟨c2b0, c2b1⟩ := eT_ c2
   clear c2
   obtain rfl := si_ H
   go_enter Tryz.func79, Tryz.ntmps79
   go_wp2
   go_ret
   exact ⟨rs_, dr_⟩
 rw [if_neg c2] at H
 obtain ⟨c2b0, c2b1⟩ := eF_ c2
 by_cases c3 : a0.toList = ([108, 116] : List UInt8)
 · rw [if_pos c3] at H
   obtain ⟨c3b0, c3b1⟩ := eT_ c3
   clear c3
   obtain rfl := si_ H
   go_enter Tryz.func79, Tryz.ntmps79
   go_wp2
   go_ret
   exact ⟨rs_, dr_⟩
 rw [if_neg c3] at H
 obtain ⟨c3b0, c3b1⟩ := eF_ c3
 by_cases c4 : a0.toList = ([103, 116] : List UInt8)
 · rw [if_pos c4] at H
   obtain ⟨c4b0, c4b1⟩ := eT_ c4
   clear c4
   obtain rfl := si_ H
   go_enter Tryz.func79, Tryz.ntmps79
   go_wp2
   go_ret
   exact ⟨rs_, dr_⟩
 rw [if_neg c4] at H
 obtain ⟨c4b0, c4b1⟩ := eF_ c4
 by_cases c5 : a0.toList = ([113, 117, 111, 116] : List UInt8)
 · rw [if_pos c5] at H
   obtain ⟨c5b0, c5b1⟩ := eT_ c5
   clear c5
   obtain rfl := si_ H
   go_enter Tryz.func79, Tryz.ntmps79
   go_wp2
   go_ret
   exact ⟨rs_, dr_⟩
 rw [if_neg c5] at H
 obtain ⟨c5b0, c5b1⟩ := eF_ c5
 by_cases c6 : a0.toList = ([97, 112, 111, 115] : List UInt8)
 · rw [if_pos c6] at H
   obtain ⟨c6b0, c6b1⟩ := eT_ c6
   clear c6
   obtain rfl := si_ H
   go_enter Tryz.func79, Tryz.ntmps79
   go_wp2
   go_ret
   exact ⟨rs_, dr_⟩
 rw [if_neg c6] at H
 obtain ⟨c6b0, c6b1⟩ := eF_ c6
 have HC7 := A_ H
 clear H
 go_enter Tryz.func79, Tryz.ntmps79
 go_upto_region 12 with (fail)
 go_cut [23] (fun v23 wc => ∃ (kq : Nat) (x23_6 : Bool), v23 = .bool x23_6 ∧ Aside0 (spec_l7Entity.j0 kq a0 x23_6 = some r) ∧ Aside0 (kq ≤ k) ∧ Drawn0 w wc)
 case first =>
  have H := HC7.out
  clear HC7
  by_cases c8 : (a0.size : Int) > 1
  rotate_left
  · rw [if_neg c8] at H
    have c8b0 : decide (1 < (a0.size : Int)) = false := decide_eq_false c8
    have c8b1 : decide (1 < a0.size) = false := decide_eq_false (by omega)
    clear c8
    (first | rw [c8b0] | (simp only [i64_w, i32_w]; rw [c8b0]) | skip)
    have H' := A_ H
    clear H
    go_wp2
    go_meet
    case rel => exact ⟨_, (false), rs_, H', ⟨by first | omega | exact Nat.le_refl _⟩, dr_⟩
  rw [if_pos c8] at H
  have c8b0 : decide (1 < (a0.size : Int)) = true := decide_eq_true c8
  have c8b1 : decide (1 < a0.size) = true := decide_eq_true (by omega)
  clear c8
  (first | rw [c8b0] | (simp only [i64_w, i32_w]; rw [c8b0]) | skip)
  by_cases c9 : 0 < (a0.size : Int)
  rotate_left
  · exact absurd H (by rw [if_neg c9]; simp)
  rw [if_pos c9] at H
  have c9b0 := decide_eq_true c9
  have c9b1 : decide (0 < a0.size) = true := decide_eq_true (by omega)
  clear c9
  have H' := A_ H
  clear H
  have p10 : 0 ≤ (0 : Int) := (by omega)
  have q10 : 0 < a0.size := (by have : (0 : Int) < (a0.size : Int) := od_; omega)
  have hx10 : ∀ h : 0 < a0.size, ((a0[0]'h).toNat : Int) = bt a0 0 := bt_at a0 0
  clear p10
  have qi10 : (0 < (a0.size : Int)) = True := eq_true od_
  replace q10 := eq_true q10
  go_wp2
  go_meet
  case rel => exact ⟨_, (((bt a0 0) == 35)), rs_, H', ⟨by first | omega | exact Nat.le_refl _⟩, dr_⟩
 case rest =>
  clear HC7
  try clear c2
  try clear c2b0
  try clear c2b1
  try clear c3
  try clear c3b0
  try clear c3b1
  try clear c4
  try clear c4b0
  try clear c4b1
  try clear c5
  try clear c5b0
  try clear c5b1
  try clear c6
  try clear c6b0
  try clear c6b1
  obtain ⟨kq, x23_6, rfl, HA, HJ6, ⟨mc6, rfl⟩⟩ := hcut
  cases kq with
  | zero => exact absurd HA.out (by simp [spec_l7Entity.j0])
  | succ kj6 =>
   have H := HA.out
   clear HA
   simp only [spec_l7Entity.j0] at H
   by_cases c11 : x23_6 = true
   · subst c11
     rw [if_pos rfl] at H
     by_cases c12 : 1 ≤ (a0.size : Int)
     rotate_left
     · exact absurd H (by rw [if_neg c12]; simp)
     rw [if_pos c12] at H
     have c12b0 := eq_true c12
     have c12b1 := decide_eq_true c12
     clear c12
     obtain ⟨⟨t1, t16⟩, A13, H⟩ := bo_ H
     (try dsimp only at H)
     by_cases c14 : t16 = true
     · subst c14
       rw [if_pos rfl] at H
       by_cases c15 : t1 ≥ 32
       · rw [if_pos c15] at H
         have c15b0 : decide (32 ≤ t1) = true := decide_eq_true c15
         clear c15
         obtain rfl := si_ H
         go_wp2_with (first | ((with_reducible refine gc_ (f := 95) rfl ?_); refine gL_ (some 27) Tryz.func95 #[.string (a0.extract 1 a0.size), .int .i64 126] ?_; (with_reducible refine (spec_ParseNum.calls kj6 (a0.extract 1 a0.size) 126 t1 true _ A13.out).mono ?_); rintro e w' ⟨rfl, ⟨nd, rfl⟩⟩; refine ⟨_, rfl, ?_⟩))
         go_ret
         exact ⟨rs_, dr_⟩
       rw [if_neg c15] at H
       have c15b0 : decide (32 ≤ t1) = false := decide_eq_false c15
       clear c15
       obtain rfl := si_ H
       go_wp2_with (first | ((with_reducible refine gc_ (f := 95) rfl ?_); refine gL_ (some 27) Tryz.func95 #[.string (a0.extract 1 a0.size), .int .i64 126] ?_; (with_reducible refine (spec_ParseNum.calls kj6 (a0.extract 1 a0.size) 126 t1 true _ A13.out).mono ?_); rintro e w' ⟨rfl, ⟨nd, rfl⟩⟩; refine ⟨_, rfl, ?_⟩))
       go_ret
       exact ⟨rs_, dr_⟩
     · replace c14 := Bool.eq_false_iff.mpr c14
       subst c14
       rw [if_neg nf_] at H
       obtain rfl := si_ H
       go_wp2_with (first | ((with_reducible refine gc_ (f := 95) rfl ?_); refine gL_ (some 27) Tryz.func95 #[.string (a0.extract 1 a0.size), .int .i64 126] ?_; (with_reducible refine (spec_ParseNum.calls kj6 (a0.extract 1 a0.size) 126 t1 false _ A13.out).mono ?_); rintro e w' ⟨rfl, ⟨nd, rfl⟩⟩; refine ⟨_, rfl, ?_⟩))
       go_ret
       exact ⟨rs_, dr_⟩
   · replace c11 := Bool.eq_false_iff.mpr c11
     subst c11
     rw [if_neg nf_] at H
     obtain rfl := si_ H
     go_wp2
     go_ret
     exact ⟨rs_, dr_⟩
mutual
def spec_Unescape.l0 : Nat → ByteArray → List Int → Int → Option (ByteArray × Bool)
 | 0, _, _, _ => none
 | k + 1, x0, x4, x5 => if x5 < (x0.size : Int) then (if 0 ≤ x5 then (if (bt x0 x5) = 60 then (some ((⟨#[]⟩ : ByteArray), false)) else (if (bt x0 x5) = 38 then (spec_Unescape.l1 k x0 x4 x5 (wrap64 (x5 + 1))) else (if x4.length < 140737488355328 then (spec_Unescape.l0 k x0 (x4 ++ [bt x0 x5]) (wrap64 (x5 + 1))) else (none)))) else (none)) else (some (strOfNums x4, true))
def spec_Unescape.j2 : Nat → ByteArray → List Int → Int → Int → Option (ByteArray × Bool)
 | 0, _, _, _, _ => none
 | k + 1, x0, x4, x5, x6 => if x6 = (x0.size : Int) then (some ((⟨#[]⟩ : ByteArray), false)) else (if 0 ≤ (wrap64 (x5 + 1)) then (if (wrap64 (x5 + 1)) ≤ x6 then (if x6 ≤ (x0.size : Int) then ((spec_l7Entity.f k (x0.extract ((wrap64 (x5 + 1)) : Int).toNat (x6 : Int).toNat)).bind fun t125 => (if t125 < 0 then (some ((⟨#[]⟩ : ByteArray), false)) else ((spec_l7Entity.f k (x0.extract ((wrap64 (x5 + 1)) : Int).toNat (x6 : Int).toNat)).bind fun t126 => (if x4.length < 140737488355328 then (spec_Unescape.l0 k x0 (x4 ++ [(t126) % 256]) (wrap64 (x6 + 1))) else (none))))) else (none)) else (none)) else (none))
def spec_Unescape.l1 : Nat → ByteArray → List Int → Int → Int → Option (ByteArray × Bool)
 | 0, _, _, _, _ => none
 | k + 1, x0, x4, x5, x6 => if x6 < (x0.size : Int) then (if 0 ≤ x6 then (if (bt x0 x6) = 59 then (spec_Unescape.j2 k x0 x4 x5 x6) else (spec_Unescape.l1 k x0 x4 x5 (wrap64 (x6 + 1)))) else (none)) else (spec_Unescape.j2 k x0 x4 x5 x6)
end
def spec_Unescape.f (k : Nat) (a0 : ByteArray) : Option (ByteArray × Bool) := spec_Unescape.l0 k a0 (([] : List Int)) 0
theorem spec_Unescape.calls (k : Nat) (a0 : ByteArray) (r1 : ByteArray) (r2 : Bool) (w : World) (h : spec_Unescape.f k a0 = some (r1, r2)) :
 Calls Tryz.prog 58 #[.string a0] w fun e w' => e = .returned (.tuple #[.string r1, .bool r2]) ∧ Below w.heap.size w w' := by
 have HB := A_ (Below.refl w.heap.size w)
 have H : (spec_Unescape.l0 k a0 (([] : List Int)) 0) = some (r1, r2) := h
 clear h
 obtain ⟨y33, hy33⟩ : ∃ y_ : List Int, y_ = (([] : List Int)) := ⟨_, rfl⟩
 replace H : (spec_Unescape.l0 k a0 y33 0) = some (r1, r2) := hy_ hy33 H
 have Ny33 := A_ hy33
 clear hy33
 have H' := A_ H
 clear H
 go_enter Tryz.func58, Tryz.ntmps58
 go_wp2_with (first | ((with_reducible refine gd_ (N := 7) rfl ?_); refine Kd.R_lit (Kd.int .u8) _ 5 ?hg (N := 7) ?hd (xs := ([] : List Int)) (inner := []) (ok := fun _ => True) (okp := fun _ => True) ?hr ?hp (fun _ hk => hk) trivial (Below.refl _ _) (Nat.le_refl _) (by simp) ?_; (case hd => rfl); (case hg => rfl); (case hr => first | (go_simp; done) | (go_simp; rfl)); (case hp => exact (Reps.none _ _)); intro v41 w2 ho3 hb hg_ hnew_; clear hg_ hnew_; (first | rw [← Ny33.out] at ho3 | (simp only [Int.reduceToNat] at ho3; rw [← Ny33.out] at ho3)); have HO38 := A_ (Kd.R_lower ho3 (below_size bB_)); replace HB := A_ (below_step bB_ hb); clear hb ho3))
 go_loopg [4, 5] k (fun kq v4 v5 w' => ∃ (x4_1 : List Int) (x5_1 : Int), v5 = .int .i64 x5_1 ∧ Aside0 (spec_Unescape.l0 kq a0 x4_1 x5_1 = some (r1, r2)) ∧ Aside0 (kq ≤ k) ∧ Aside0 (Kd.R (Kd.int .u8) 5 w' w.heap.size (fun _ => True) v4 x4_1) ∧ Aside0 (Below w.heap.size w w'))
 case atStart => exact ⟨(y33), (0), rs_, H', ⟨Nat.le_refl _⟩, ⟨vR_ HO38.out⟩, ⟨bB_⟩⟩
 case round =>
  clear H'
  obtain ⟨x4_1, x5_1, rfl, HA, HK1, HO_4, HB⟩ := hrel
  cases gk with
  | zero => exact absurd HA.out (by simp [spec_Unescape.l0])
  | succ k1 =>
   have H := HA.out
   clear HA
   simp only [spec_Unescape.l0] at H
   by_cases c4 : x5_1 < (a0.size : Int)
   rotate_left
   · rw [if_neg c4] at H
     have c4b0 := decide_eq_false c4
     clear c4
     simp only [Option.some.injEq, Prod.mk.injEq] at H
     obtain ⟨rfl, rfl⟩ := H
     have hcv31 := own_string (P := Tryz.prog) Tryz.underlying30 Tryz.underlying5 Tryz.underlying9 (Kd.own_of_R HO_4.out)
     go_wp2
     go_ret2
     exact ⟨rr_, bB_⟩
   rw [if_pos c4] at H
   have c4b0 := decide_eq_true c4
   clear c4
   by_cases c5 : 0 ≤ x5_1
   rotate_left
   · exact absurd H (by rw [if_neg c5]; simp)
   rw [if_pos c5] at H
   have c5b0 := decide_eq_true c5
   clear c5
   by_cases c7 : (bt a0 x5_1) = 60
   · rw [if_pos c7] at H
     obtain ⟨c7b0, c7b1⟩ := eT_ c7
     clear c7
     simp only [Option.some.injEq, Prod.mk.injEq] at H
     obtain ⟨rfl, rfl⟩ := H
     have p6 : 0 ≤ (x5_1 : Int) := od_
     have q6 : x5_1 < (a0.size : Int) := od_
     have hx6 := bt_at a0 x5_1
     replace p6 := eq_true p6
     replace q6 := eq_true q6
     go_wp2
     go_ret2
     exact ⟨rr_, bB_⟩
   rw [if_neg c7] at H
   obtain ⟨c7b0, c7b1⟩ := eF_ c7
   by_cases c9 : (bt a0 x5_1) = 38
   rotate_left
   · rw [if_neg c9] at H
     obtain ⟨c9b0, c9b1⟩ := eF_ c9
     by_cases c29 : x4_1.length < 140737488355328
     rotate_left
     · exact absurd H (by rw [if_neg c29]; simp)
     rw [if_pos c29] at H
     have LMc29 := A_ c29
     clear c29
     obtain ⟨y34, hy34⟩ : ∃ y_ : List Int, y_ = (x4_1 ++ [bt a0 x5_1]) := ⟨_, rfl⟩
     replace H : (spec_Unescape.l0 k1 a0 y34 (wrap64 (x5_1 + 1))) = some (r1, r2) := hy_ hy34 H
     have Ny34 := A_ hy34
     clear hy34
     have H' := A_ H
     clear H
     have p6 : 0 ≤ (x5_1 : Int) := od_
     have q6 : x5_1 < (a0.size : Int) := od_
     have hx6 := bt_at a0 x5_1
     replace p6 := eq_true p6
     replace q6 := eq_true q6
     have p8 : 0 ≤ (x5_1 : Int) := od_
     have q8 : x5_1 < (a0.size : Int) := od_
     have hx8 := bt_at a0 x5_1
     replace p8 := eq_true p8
     replace q8 := eq_true q8
     have p28 : 0 ≤ (x5_1 : Int) := od_
     have q28 : x5_1 < (a0.size : Int) := od_
     have hx28 := bt_at a0 x5_1
     replace p28 := eq_true p28
     replace q28 := eq_true q28
     go_wp2_with (first | ((with_reducible refine gate_builtin (b := .append) (xs := #[.tmp 22, .tmp 26]) rfl ?_); at_builtin; refine Kd.R_append (Kd.int .u8) (w0 := w) w.heap.size rfl (.tmp 22) (.tmp 26) 30 5 (.int .u8 0) 1 rfl Tryz.underlying30 info5 rfl (by decide) (by omega) u4 x4_1 (bt a0 x5_1) [.int .u8 (bt a0 x5_1)] (fun _ => True) (fun _ => False) rfl rfl ?aP (fun _ hk => hk.elim) ?aF ?aO ?aB ?aS ?aL ?_; (case aP => exact rfl); (case aB => exact bB_); (case aF => exact (fun _ _ => trivial)); (case aO => exact (vR_ HO_4.out)); (case aS => exact (below_size bB_)); (case aL => have := LMc29.out; omega); intro v42 w30 ho hb hg hat; rw [← Ny34.out] at ho; replace HB := A_ (hb); have HO39 := A_ (ho); clear HO_4; clear ho hb hg hat))
     go_roundg k1
     case measure => have := HK1.out; omega
     case rel => exact ⟨(y34), (wrap64 (x5_1 + 1)), rs_, H', ⟨by have := HK1.out; omega⟩, ⟨vR_ HO39.out⟩, ⟨bB_⟩⟩
   rw [if_pos c9] at H
   obtain ⟨c9b0, c9b1⟩ := eT_ c9
   clear c9
   have HC10 := A_ H
   clear H
   have p6 : 0 ≤ (x5_1 : Int) := od_
   have q6 : x5_1 < (a0.size : Int) := od_
   have hx6 := bt_at a0 x5_1
   replace p6 := eq_true p6
   replace q6 := eq_true q6
   have p8 : 0 ≤ (x5_1 : Int) := od_
   have q8 : x5_1 < (a0.size : Int) := od_
   have hx8 := bt_at a0 x5_1
   replace p8 := eq_true p8
   replace q8 := eq_true q8
   go_upto_block 2 with (fail)
   go_cut [6] (fun v6 wc => ∃ (kq : Nat) (x6_9 : Int), v6 = .int .i64 x6_9 ∧ Aside0 (spec_Unescape.j2 kq a0 x4_1 x5_1 x6_9 = some (r1, r2)) ∧ Aside0 (kq ≤ k1) ∧ Aside0 (Kd.R (Kd.int .u8) 5 wc w.heap.size (fun _ => True) u4 x4_1) ∧ Aside0 (Below w.heap.size w wc))
   case first =>
    have H := HC10.out
    clear HC10
    have H' := A_ H
    clear H
    go_wp2
    go_loopg [6] k1 (fun kq v6 w' => ∃ (x6_2 : Int), v6 = .int .i64 x6_2 ∧ Aside0 (spec_Unescape.l1 kq a0 x4_1 x5_1 x6_2 = some (r1, r2)) ∧ Aside0 (kq ≤ k1) ∧ Aside0 (Kd.R (Kd.int .u8) 5 w' w.heap.size (fun _ => True) u4 x4_1) ∧ Aside0 (Below w.heap.size w w'))
    case atStart => exact ⟨(wrap64 (x5_1 + 1)), rs_, H', ⟨Nat.le_refl _⟩, ⟨vR_ HO_4.out⟩, ⟨bB_⟩⟩
    case round =>
     clear H'
     try clear c4
     try clear c4b0
     try clear c5
     try clear c5b0
     try clear p6
     try clear q6
     try clear hx6
     try clear c7
     try clear c7b0
     try clear c7b1
     try clear p8
     try clear q8
     try clear hx8
     try clear c9
     try clear c9b0
     try clear c9b1
     try clear p6
     try clear p8
     try clear q6
     try clear q8
     obtain ⟨x6_2, rfl, HA, HK2, HO_4, HB⟩ := hrel
     cases gk with
     | zero => exact absurd HA.out (by simp [spec_Unescape.l1])
     | succ k2 =>
      have H := HA.out
      clear HA
      simp only [spec_Unescape.l1] at H
      by_cases c11 : x6_2 < (a0.size : Int)
      rotate_left
      · rw [if_neg c11] at H
        have c11b0 := decide_eq_false c11
        clear c11
        (first | rw [c11b0] | (simp only [i64_w, i32_w]; rw [c11b0]) | skip)
        have H' := A_ H
        clear H
        go_wp2
        go_meet
        case rel => exact ⟨_, (x6_2), rs_, H', ⟨by have := HK1.out; have := HK2.out; first | omega | exact Nat.le_refl _⟩, ⟨vR_ HO_4.out⟩, ⟨bB_⟩⟩
      rw [if_pos c11] at H
      have c11b0 := decide_eq_true c11
      clear c11
      (first | rw [c11b0] | (simp only [i64_w, i32_w]; rw [c11b0]) | skip)
      by_cases c12 : 0 ≤ x6_2
      rotate_left
      · exact absurd H (by rw [if_neg c12]; simp)
      rw [if_pos c12] at H
      have c12b0 := decide_eq_true c12
      clear c12
      by_cases c14 : (bt a0 x6_2) = 59
      · rw [if_pos c14] at H
        obtain ⟨c14b0, c14b1⟩ := eT_ c14
        clear c14
        have H' := A_ H
        clear H
        have p13 : 0 ≤ (x6_2 : Int) := od_
        have q13 : x6_2 < (a0.size : Int) := od_
        have hx13 := bt_at a0 x6_2
        replace p13 := eq_true p13
        replace q13 := eq_true q13
        go_wp2
        go_meet
        case rel => exact ⟨_, (x6_2), rs_, H', ⟨by have := HK1.out; have := HK2.out; first | omega | exact Nat.le_refl _⟩, ⟨vR_ HO_4.out⟩, ⟨bB_⟩⟩
      rw [if_neg c14] at H
      obtain ⟨c14b0, c14b1⟩ := eF_ c14
      have H' := A_ H
      clear H
      have p13 : 0 ≤ (x6_2 : Int) := od_
      have q13 : x6_2 < (a0.size : Int) := od_
      have hx13 := bt_at a0 x6_2
      replace p13 := eq_true p13
      replace q13 := eq_true q13
      go_wp2
      go_roundg k2
      case measure => have := HK1.out; have := HK2.out; omega
      case rel => exact ⟨(wrap64 (x6_2 + 1)), rs_, H', ⟨by have := HK1.out; have := HK2.out; omega⟩, ⟨vR_ HO_4.out⟩, ⟨bB_⟩⟩
   case rest =>
    clear HC10
    try clear c4
    try clear c4b0
    try clear c5
    try clear c5b0
    try clear p6
    try clear q6
    try clear hx6
    try clear c7
    try clear c7b0
    try clear c7b1
    try clear p8
    try clear q8
    try clear hx8
    try clear c9
    try clear c9b0
    try clear c9b1
    try clear p6
    try clear p8
    try clear q6
    try clear q8
    obtain ⟨kq, x6_9, rfl, HA, HJ9, HO_4, HB⟩ := hcut
    cases kq with
    | zero => exact absurd HA.out (by simp [spec_Unescape.j2])
    | succ kj9 =>
     have H := HA.out
     clear HA
     simp only [spec_Unescape.j2] at H
     by_cases c15 : x6_9 = (a0.size : Int)
     · rw [if_pos c15] at H
       obtain ⟨c15b0, c15b1⟩ := eT_ c15
       clear c15
       simp only [Option.some.injEq, Prod.mk.injEq] at H
       obtain ⟨rfl, rfl⟩ := H
       go_wp2
       go_ret2
       exact ⟨rr_, bB_⟩
     rw [if_neg c15] at H
     obtain ⟨c15b0, c15b1⟩ := eF_ c15
     obtain ⟨ji16, hji16⟩ : ∃ j_ : Int, (wrap64 (x5_1 + 1)) = j_ := ⟨_, rfl⟩
     replace H : (if 0 ≤ (ji16) then (if (ji16) ≤ x6_9 then (if x6_9 ≤ (a0.size : Int) then ((spec_l7Entity.f kj9 (a0.extract ((ji16) : Int).toNat (x6_9 : Int).toNat)).bind fun t37 => (if t37 < 0 then (some ((⟨#[]⟩ : ByteArray), false)) else ((spec_l7Entity.f kj9 (a0.extract ((ji16) : Int).toNat (x6_9 : Int).toNat)).bind fun t36 => (if x4_1.length < 140737488355328 then (spec_Unescape.l0 kj9 a0 (x4_1 ++ [(t36) % 256]) (wrap64 (x6_9 + 1))) else (none))))) else (none)) else (none)) else (none)) = some (r1, r2) := by first | (rw [hji16] at H; exact H) | (simp only [hji16] at H ⊢; exact H)
     have hji16w : (IntKind.i64.wrap (x5_1 + 1)) = ji16 := (i64_w _).trans hji16
     by_cases c17 : 0 ≤ (ji16)
     rotate_left
     · exact absurd H (by rw [if_neg c17]; simp)
     rw [if_pos c17] at H
     have c17b0 := eq_true c17
     have c17b1 := decide_eq_true c17
     clear c17
     by_cases c18 : (ji16) ≤ x6_9
     rotate_left
     · exact absurd H (by rw [if_neg c18]; simp)
     rw [if_pos c18] at H
     have c18b0 := eq_true c18
     have c18b1 := decide_eq_true c18
     clear c18
     by_cases c19 : x6_9 ≤ (a0.size : Int)
     rotate_left
     · exact absurd H (by rw [if_neg c19]; simp)
     rw [if_pos c19] at H
     have c19b0 := eq_true c19
     have c19b1 := decide_eq_true c19
     clear c19
     obtain ⟨t37, A20, H⟩ := bo_ H
     (try dsimp only at H)
     by_cases c21 : t37 < 0
     · rw [if_pos c21] at H
       have c21b0 := decide_eq_true c21
       clear c21
       simp only [Option.some.injEq, Prod.mk.injEq] at H
       obtain ⟨rfl, rfl⟩ := H
       go_wp2_with (first | (go_at_call 79; (with_reducible refine (spec_l7Entity.calls kj9 (a0.extract ((ji16) : Int).toNat (x6_9 : Int).toNat) t37 _ A20.out).mono ?_); rintro e w' ⟨rfl, ⟨nd, rfl⟩⟩))
       go_ret2
       exact ⟨by first | rfl | (simp [errW_none, errW_some] <;> rfl) | (simp only [← hji16]; first | rfl | (simp [errW_none, errW_some] <;> rfl)) | (simp [*, errW_none, errW_some] <;> rfl), bB_⟩
     rw [if_neg c21] at H
     have c21b0 := decide_eq_false c21
     clear c21
     have c22b0 := eq_true (od_ : 0 ≤ (ji16))
     have c23b0 := eq_true (od_ : (ji16) ≤ x6_9)
     have c24b0 := eq_true (od_ : x6_9 ≤ (a0.size : Int))
     obtain ⟨t36, A25, H⟩ := bo_ H
     (try dsimp only at H)
     by_cases c26 : x4_1.length < 140737488355328
     rotate_left
     · exact absurd H (by rw [if_neg c26]; simp)
     rw [if_pos c26] at H
     have LMc26 := A_ c26
     clear c26
     obtain ⟨y35, hy35⟩ : ∃ y_ : List Int, y_ = (x4_1 ++ [(t36) % 256]) := ⟨_, rfl⟩
     replace H : (spec_Unescape.l0 kj9 a0 y35 (wrap64 (x6_9 + 1))) = some (r1, r2) := hy_ hy35 H
     have Ny35 := A_ hy35
     clear hy35
     have H' := A_ H
     clear H
     go_wp2_with (first | (go_at_call 79; (with_reducible refine (spec_l7Entity.calls kj9 (a0.extract ((ji16) : Int).toNat (x6_9 : Int).toNat) t37 _ A20.out).mono ?_); rintro e w' ⟨rfl, ⟨nd, rfl⟩⟩) | ((with_reducible refine gc_ (f := 79) rfl ?_); refine goesL_ (some 61) rfl rfl Tryz.func79 (by kernel_rfl) rfl #[.string (a0.extract ((ji16) : Int).toNat (x6_9 : Int).toNat)] rfl (by (try simp only [List.map_toArray, List.map_cons, List.map_nil]); first | done | (simp only [hji16]; rfl) | rfl | (simp only [List.length_drop, List.length_take]; rfl)) ?_; (with_reducible refine (spec_l7Entity.calls kj9 (a0.extract ((ji16) : Int).toNat (x6_9 : Int).toNat) t36 _ A25.out).mono ?_); rintro e w' ⟨rfl, ⟨nd, rfl⟩⟩; refine ⟨_, rfl, ?_⟩) | ((with_reducible refine gate_builtin (b := .append) (xs := #[.tmp 55, .tmp 63]) rfl ?_); at_builtin; refine Kd.R_append (Kd.int .u8) (w0 := w) w.heap.size rfl (.tmp 55) (.tmp 63) 30 5 (.int .u8 0) 1 rfl Tryz.underlying30 info5 rfl (by decide) (by omega) u4 x4_1 ((t36) % 256) [.int .u8 ((t36) % 256)] (fun _ => True) (fun _ => False) rfl rfl ?aP (fun _ hk => hk.elim) ?aF ?aO ?aB ?aS ?aL ?_; (case aP => exact rfl); (case aB => exact bB_); (case aF => exact (fun _ _ => trivial)); (case aO => exact (vR_ HO_4.out)); (case aS => exact (below_size bB_)); (case aL => have := LMc26.out; omega); intro v43 w27 ho hb hg hat; rw [← Ny35.out] at ho; replace HB := A_ (hb); have HO40 := A_ (ho); clear HO_4; clear ho hb hg hat))
     go_roundg kj9
     case measure => have := HK1.out; have := HJ9.out; omega
     case rel => exact ⟨(y35), (wrap64 (x6_9 + 1)), rs_, H', ⟨by have := HK1.out; have := HJ9.out; omega⟩, ⟨vR_ HO40.out⟩, ⟨bB_⟩⟩
def spec_l7At.f (a0 : ByteArray) (a1 : Int) (a2 : ByteArray) : Option (Bool) := if (wrap64 (a1 + (a2.size : Int))) ≤ (a0.size : Int) then (if 0 ≤ a1 then (if a1 ≤ (wrap64 (a1 + (a2.size : Int))) then (some ((a0.extract (a1 : Int).toNat ((wrap64 (a1 + (a2.size : Int))) : Int).toNat).toList == a2.toList)) else (none)) else (none)) else (some false)
theorem spec_l7At.calls (a0 : ByteArray) (a1 : Int) (a2 : ByteArray) (r : Bool) (w : World) (h : spec_l7At.f a0 a1 a2 = some r) :
 Calls Tryz.prog 77 #[.string a0, .int .i64 a1, .string a2] w fun e w' => e = .returned (.bool r) ∧ Drawn0 w w' := by
 have H : (if (wrap64 (a1 + (a2.size : Int))) ≤ (a0.size : Int) then (if 0 ≤ a1 then (if a1 ≤ (wrap64 (a1 + (a2.size : Int))) then (some ((a0.extract (a1 : Int).toNat ((wrap64 (a1 + (a2.size : Int))) : Int).toNat).toList == a2.toList)) else (none)) else (none)) else (some false)) = some r := h
 clear h
 by_cases c4 : (wrap64 (a1 + (a2.size : Int))) ≤ (a0.size : Int)
 rotate_left
 · rw [if_neg c4] at H
   have c4b0 := decide_eq_false c4
   clear c4
   obtain rfl := si_ H
   go_enter Tryz.func77, Tryz.ntmps77
   go_wp2
   go_ret
   exact ⟨rs_, dr_⟩
 rw [if_pos c4] at H
 have c4b0 := decide_eq_true c4
 clear c4
 by_cases c5 : 0 ≤ a1
 rotate_left
 · exact absurd H (by rw [if_neg c5]; simp)
 rw [if_pos c5] at H
 have c5b0 := eq_true c5
 have c5b1 := decide_eq_true c5
 clear c5
 by_cases c6 : a1 ≤ (wrap64 (a1 + (a2.size : Int)))
 rotate_left
 · exact absurd H (by rw [if_neg c6]; simp)
 rw [if_pos c6] at H
 have c6b0 := eq_true c6
 have c6b1 := decide_eq_true c6
 have c7b0 := eq_true (od_ : (wrap64 (a1 + (a2.size : Int))) ≤ (a0.size : Int))
 obtain rfl := si_ H
 go_enter Tryz.func77, Tryz.ntmps77
 go_wp2
 go_ret
 exact ⟨rs_, dr_⟩
def spec_l7Name.l0 : Nat → ByteArray → Int → Option (Int)
 | 0, _, _ => none
 | k + 1, x0, x1 => if x1 < (x0.size : Int) then (if 0 ≤ x1 then ((spec_l1Small.f (bt x0 x1)).bind fun t130 => (if t130 = true then (spec_l7Name.l0 k x0 (wrap64 (x1 + 1))) else ((spec_l1Digit.f (bt x0 x1)).bind fun t131 => (if t131 = true then (spec_l7Name.l0 k x0 (wrap64 (x1 + 1))) else (if (bt x0 x1) = 45 then (spec_l7Name.l0 k x0 (wrap64 (x1 + 1))) else (some x1)))))) else (none)) else (some x1)
def spec_l7Name.f (k : Nat) (a0 : ByteArray) (a1 : Int) : Option (Int) := spec_l7Name.l0 k a0 a1
theorem spec_l7Name.calls (k : Nat) (a0 : ByteArray) (a1 : Int) (r : Int) (w : World) (h : spec_l7Name.f k a0 a1 = some r) :
 Calls Tryz.prog 78 #[.string a0, .int .i64 a1] w fun e w' => e = .returned (.int .i64 r) ∧ Drawn0 w w' := by
 have H : (spec_l7Name.l0 k a0 a1) = some r := h
 clear h
 have H' := A_ H
 clear H
 go_enter Tryz.func78, Tryz.ntmps78
 go_wp2
 go_loopg [1] k (fun kq v1 w' => ∃ (x1_1 : Int), v1 = .int .i64 x1_1 ∧ Aside0 (spec_l7Name.l0 kq a0 x1_1 = some r) ∧ Aside0 (kq ≤ k) ∧ Drawn0 w w')
 case atStart => exact ⟨(a1), rs_, H', ⟨Nat.le_refl _⟩, dr_⟩
 case round =>
  clear H'
  obtain ⟨x1_1, rfl, HA, HK1, ⟨m1, rfl⟩⟩ := hrel
  cases gk with
  | zero => exact absurd HA.out (by simp [spec_l7Name.l0])
  | succ k1 =>
   have H := HA.out
   clear HA
   simp only [spec_l7Name.l0] at H
   by_cases c3 : x1_1 < (a0.size : Int)
   rotate_left
   · rw [if_neg c3] at H
     have c3b0 := decide_eq_false c3
     clear c3
     obtain rfl := si_ H
     go_wp2
     go_ret
     exact ⟨rs_, dr_⟩
   rw [if_pos c3] at H
   have c3b0 := decide_eq_true c3
   clear c3
   by_cases c4 : 0 ≤ x1_1
   rotate_left
   · exact absurd H (by rw [if_neg c4]; simp)
   rw [if_pos c4] at H
   have c4b0 := decide_eq_true c4
   clear c4
   obtain ⟨t2, A6, H⟩ := bo_ H
   (try dsimp only at H)
   by_cases c7 : t2 = true
   · subst c7
     rw [if_pos rfl] at H
     have H' := A_ H
     clear H
     have p5 : 0 ≤ (x1_1 : Int) := od_
     have q5 : x1_1 < (a0.size : Int) := od_
     have hx5 := bt_at a0 x1_1
     replace p5 := eq_true p5
     replace q5 := eq_true q5
     go_wp2_with (first | (go_at_call 92; (with_reducible refine (spec_l1Small.calls (bt a0 x1_1) true _ A6.out).mono ?_); rintro e w' ⟨rfl, ⟨nd, rfl⟩⟩))
     go_roundg k1
     case measure => have := HK1.out; omega
     case rel => exact ⟨(wrap64 (x1_1 + 1)), rs_, H', ⟨by have := HK1.out; omega⟩, dr_⟩
   · replace c7 := Bool.eq_false_iff.mpr c7
     subst c7
     rw [if_neg nf_] at H
     obtain ⟨t13, A9, H⟩ := bo_ H
     (try dsimp only at H)
     by_cases c10 : t13 = true
     · subst c10
       rw [if_pos rfl] at H
       have H' := A_ H
       clear H
       have p5 : 0 ≤ (x1_1 : Int) := od_
       have q5 : x1_1 < (a0.size : Int) := od_
       have hx5 := bt_at a0 x1_1
       replace p5 := eq_true p5
       replace q5 := eq_true q5
       go_wp2_with (first | (go_at_call 92; (with_reducible refine (spec_l1Small.calls (bt a0 x1_1) false _ A6.out).mono ?_); rintro e w' ⟨rfl, ⟨nd, rfl⟩⟩; have p8 : 0 ≤ (x1_1 : Int) := od_; have q8 : x1_1 < (a0.size : Int) := od_; have hx8 := bt_at a0 x1_1; replace p8 := eq_true p8; replace q8 := eq_true q8) | (go_at_call 93; (with_reducible refine (spec_l1Digit.calls (bt a0 x1_1) true _ A9.out).mono ?_); rintro e w' ⟨rfl, ⟨nd, rfl⟩⟩))
       go_roundg k1
       case measure => have := HK1.out; omega
       case rel => exact ⟨(wrap64 (x1_1 + 1)), rs_, H', ⟨by have := HK1.out; omega⟩, dr_⟩
     · replace c10 := Bool.eq_false_iff.mpr c10
       subst c10
       rw [if_neg nf_] at H
       by_cases c12 : (bt a0 x1_1) = 45
       rotate_left
       · rw [if_neg c12] at H
         obtain ⟨c12b0, c12b1⟩ := eF_ c12
         obtain rfl := si_ H
         have p5 : 0 ≤ (x1_1 : Int) := od_
         have q5 : x1_1 < (a0.size : Int) := od_
         have hx5 := bt_at a0 x1_1
         replace p5 := eq_true p5
         replace q5 := eq_true q5
         go_wp2_with (first | (go_at_call 92; (with_reducible refine (spec_l1Small.calls (bt a0 x1_1) false _ A6.out).mono ?_); rintro e w' ⟨rfl, ⟨nd, rfl⟩⟩; have p8 : 0 ≤ (x1_1 : Int) := od_; have q8 : x1_1 < (a0.size : Int) := od_; have hx8 := bt_at a0 x1_1; replace p8 := eq_true p8; replace q8 := eq_true q8) | (go_at_call 93; (with_reducible refine (spec_l1Digit.calls (bt a0 x1_1) false _ A9.out).mono ?_); rintro e w' ⟨rfl, ⟨nd, rfl⟩⟩; have p11 : 0 ≤ (x1_1 : Int) := od_; have q11 : x1_1 < (a0.size : Int) := od_; have hx11 := bt_at a0 x1_1; replace p11 := eq_true p11; replace q11 := eq_true q11))
         go_ret
         exact ⟨rs_, dr_⟩
       rw [if_pos c12] at H
       obtain ⟨c12b0, c12b1⟩ := eT_ c12
       clear c12
       have H' := A_ H
       clear H
       have p5 : 0 ≤ (x1_1 : Int) := od_
       have q5 : x1_1 < (a0.size : Int) := od_
       have hx5 := bt_at a0 x1_1
       replace p5 := eq_true p5
       replace q5 := eq_true q5
       go_wp2_with (first | (go_at_call 92; (with_reducible refine (spec_l1Small.calls (bt a0 x1_1) false _ A6.out).mono ?_); rintro e w' ⟨rfl, ⟨nd, rfl⟩⟩; have p8 : 0 ≤ (x1_1 : Int) := od_; have q8 : x1_1 < (a0.size : Int) := od_; have hx8 := bt_at a0 x1_1; replace p8 := eq_true p8; replace q8 := eq_true q8) | (go_at_call 93; (with_reducible refine (spec_l1Digit.calls (bt a0 x1_1) false _ A9.out).mono ?_); rintro e w' ⟨rfl, ⟨nd, rfl⟩⟩; have p11 : 0 ≤ (x1_1 : Int) := od_; have q11 : x1_1 < (a0.size : Int) := od_; have hx11 := bt_at a0 x1_1; replace p11 := eq_true p11; replace q11 := eq_true q11))
       go_roundg k1
       case measure => have := HK1.out; omega
       case rel => exact ⟨(wrap64 (x1_1 + 1)), rs_, H', ⟨by have := HK1.out; omega⟩, dr_⟩
end Go.Proofs.YtegkokdncakadaaGreatDoor.Q
