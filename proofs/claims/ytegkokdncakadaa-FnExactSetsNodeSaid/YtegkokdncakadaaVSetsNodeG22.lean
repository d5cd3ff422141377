import Derived.Test.YtegkokdncakadaaProg
import Derived.Below
import Derived.Deep.Draws
import Derived.Deep.AppendLies
import Derived.Maps.AppendAt
import Derived.OwnWalk
import Derived.Laws.BytesArg
import Derived.Laws.MakeOwn
import Derived.Laws.OwnMore
import Derived.Deep.OwnRows
import Derived.Tactics
import Derived.Lib.ConvBytes
import Derived.Laws.Slices
import Derived.WalkKit
import Derived.KernelRfl
import Derived.RowKit3
import Derived.Deep.LoopGhost
import Derived.Deep.QuietTactic
import Derived.BigQuiet
import Derived.WideLaws
import Derived.Deep.DeepCutAuto
import Derived.Deep.CutBlock
import Derived.Deep.RegionHeld3
import Derived.Laws.Rows
import Derived.Lib.AppendStr
import Derived.ArgAppend
import Derived.Laws.IdiomCopy
import Derived.OrdersHeld
import Derived.Laws.BitsLemmas
import Derived.RowKit
import Derived.Test.YtegkokdncakadaaVSetsNodeWFour
import Derived.Test.YtegkokdncakadaaVSetsNodeWAt
import Derived.Test.YtegkokdncakadaaVSetsNodeWEqStruct
import Derived.Test.YtegkokdncakadaaVSetsNodeWRepsOne
import Derived.Test.YtegkokdncakadaaVSetsNodeWInvWords
import Derived.Test.YtegkokdncakadaaVSetsNodeWGuard
import Derived.Test.YtegkokdncakadaaVSetsNodeG12
namespace Go.Proofs.Ytegkokdncakadaa.Q
open Go.RowKit Go.Proofs.YtegkokdncakadaaW.PrintWords Go.Proofs.YtegkokdncakadaaW.PrintLast Go.Proofs.YtegkokdncakadaaW.PrintMore
attribute [local go_sem] max2_int min2_int max_two min_two max_three min_three max_four min_four
set_option linter.unusedVariables false
set_option linter.unusedSimpArgs false
def errW : Option Int -> Value
  | none => .nilIface
  | some c => .iface 0 (.int .i64 c)
theorem errW_none : errW none = .nilIface := rfl
theorem errW_some (c : Int) : errW (some c) = .iface 0 (.int .i64 c) := rfl
theorem info26 : (Try.prog.info? 26).map (fun i => (i.zero, i.size, i.bytes)) = some (some (.agg #[(.string ⟨#[]⟩), (.string ⟨#[]⟩), (.string ⟨#[]⟩), (.slice none 0 0)]), 4, 72) := by kernel_rfl
theorem info42 : (Try.prog.info? 42).map (fun i => (i.zero, i.size, i.bytes)) = some (some (.agg #[(.bool false), (.string ⟨#[]⟩), (.string ⟨#[]⟩), (.string ⟨#[]⟩)]), 4, 56) := by kernel_rfl
-- the values' own types
structure S37 where
  f0 : ByteArray
  f1 : ByteArray
  f2 : ByteArray
def z37 : S37 := ⟨(⟨#[]⟩ : ByteArray), (⟨#[]⟩ : ByteArray), (⟨#[]⟩ : ByteArray)⟩
def k37 : Kd S37 := Kd.iso (Kd.pair Kd.string (Kd.pair Kd.string Kd.string)) (fun x : S37 => (x.f0, x.f1, x.f2))
theorem k37_open {w : World} {x : S37} {cs : List Value} (h : k37.K w x cs) : cs = [.string x.f0, .string x.f1, .string x.f2] := by
  obtain ⟨_, _, rfl, rfl, ⟨_, _, rfl, rfl, rfl⟩⟩ := h
  exact rfl
structure S39 where
  f0 : Bool
  f1 : S37
def z39 : S39 := ⟨false, z37⟩
def k39 : Kd S39 := Kd.iso (Kd.pair Kd.bool k37) (fun x : S39 => (x.f0, x.f1))
theorem k39_open {w : World} {x : S39} {cs : List Value} (h : k39.K w x cs) : cs = [.bool x.f0, .string x.f1.f0, .string x.f1.f1, .string x.f1.f2] := by
  obtain ⟨_, _, rfl, rfl, s1⟩ := h
  obtain rfl := k37_open s1
  exact rfl
def rd_T39 (xs : List S39) (i : Int) : S39 := xs.getD i.toNat z39
theorem at_T39 {w : World} {A : Option Addr} {n : Nat} {xs : List S39} (h : Kd.C k39 w A n xs) (i : Int) (h0 : 0 <= i) (h1 : i < n) : ∃ ad , A = some ad /\ w.cell? (ad.add (i.toNat * 4)) = some (.bool (rd_T39 xs i).f0) /\ w.cell? ⟨(ad.add (i.toNat * 4)).block, (ad.add (i.toNat * 4)).off + 1, none⟩ = some (.string (rd_T39 xs i).f1.f0) /\ w.cell? ⟨(ad.add (i.toNat * 4)).block, (ad.add (i.toNat * 4)).off + 2, none⟩ = some (.string (rd_T39 xs i).f1.f1) /\ w.cell? ⟨(ad.add (i.toNat * 4)).block, (ad.add (i.toNat * 4)).off + 3, none⟩ = some (.string (rd_T39 xs i).f1.f2) := by
  obtain ⟨ad, c, e, _, hK, hc0⟩ := Kd.C_get h z39 i h0 h1
  have hc : ∀ j u, c[j]? = some u -> w.cell? (ad.add (i.toNat * 4 + j)) = some u := hc0
  obtain rfl := k39_open hK
  exact ⟨ad, e, hc 0 _ rfl, by rw [← add_field _ _ 1 (by omega)]; exact hc 1 _ rfl, by rw [← add_field _ _ 2 (by omega)]; exact hc 2 _ rfl, by rw [← add_field _ _ 3 (by omega)]; exact hc 3 _ rfl⟩
structure S40 where
  f0 : ByteArray
  f1 : ByteArray
  f2 : ByteArray
def z40 : S40 := ⟨(⟨#[]⟩ : ByteArray), (⟨#[]⟩ : ByteArray), (⟨#[]⟩ : ByteArray)⟩
def k40 : Kd S40 := Kd.iso (Kd.pair Kd.string (Kd.pair Kd.string Kd.string)) (fun x : S40 => (x.f0, x.f1, x.f2))
theorem k40_open {w : World} {x : S40} {cs : List Value} (h : k40.K w x cs) : cs = [.string x.f0, .string x.f1, .string x.f2] := by
  obtain ⟨_, _, rfl, rfl, ⟨_, _, rfl, rfl, rfl⟩⟩ := h
  exact rfl
theorem k40_openM {w : World} {base : Nat} {ok : Nat -> Prop} {x : S40} {cs : List Value} (h : k40.M w base ok x cs) : cs = [.string x.f0, .string x.f1, .string x.f2] := by
  obtain ⟨_, _, rfl, rfl, ⟨_, _, rfl, rfl, rfl⟩⟩ := h
  exact rfl
theorem k40_mkM (w : World) (base : Nat) (ok : Nat -> Prop) (x : S40)  : k40.M w base ok x [.string x.f0, .string x.f1, .string x.f2] := ⟨[.string x.f0], [.string x.f1, .string x.f2], rfl, rfl, ⟨[.string x.f1], [.string x.f2], rfl, rfl, rfl⟩⟩
structure S42 where
  f0 : Bool
  f1 : S40
def z42 : S42 := ⟨false, z40⟩
def k42 : Kd S42 := Kd.iso (Kd.pair Kd.bool k40) (fun x : S42 => (x.f0, x.f1))
theorem k42_open {w : World} {x : S42} {cs : List Value} (h : k42.K w x cs) : cs = [.bool x.f0, .string x.f1.f0, .string x.f1.f1, .string x.f1.f2] := by
  obtain ⟨_, _, rfl, rfl, s1⟩ := h
  obtain rfl := k40_open s1
  exact rfl
theorem k42_openM {w : World} {base : Nat} {ok : Nat -> Prop} {x : S42} {cs : List Value} (h : k42.M w base ok x cs) : cs = [.bool x.f0, .string x.f1.f0, .string x.f1.f1, .string x.f1.f2] := by
  obtain ⟨_, _, rfl, rfl, s1⟩ := h
  obtain rfl := k40_openM s1
  exact rfl
theorem k42_mkM (w : World) (base : Nat) (ok : Nat -> Prop) (x : S42)  : k42.M w base ok x [.bool x.f0, .string x.f1.f0, .string x.f1.f1, .string x.f1.f2] := ⟨[.bool x.f0], [.string x.f1.f0, .string x.f1.f1, .string x.f1.f2], rfl, rfl, (k40_mkM w base ok x.f1 )⟩
def rd_T42 (xs : List S42) (i : Int) : S42 := xs.getD i.toNat z42
theorem at_T42 {w : World} {A : Option Addr} {n : Nat} {xs : List S42} (h : Kd.C k42 w A n xs) (i : Int) (h0 : 0 <= i) (h1 : i < n) : ∃ ad , A = some ad /\ w.cell? (ad.add (i.toNat * 4)) = some (.bool (rd_T42 xs i).f0) /\ w.cell? ⟨(ad.add (i.toNat * 4)).block, (ad.add (i.toNat * 4)).off + 1, none⟩ = some (.string (rd_T42 xs i).f1.f0) /\ w.cell? ⟨(ad.add (i.toNat * 4)).block, (ad.add (i.toNat * 4)).off + 2, none⟩ = some (.string (rd_T42 xs i).f1.f1) /\ w.cell? ⟨(ad.add (i.toNat * 4)).block, (ad.add (i.toNat * 4)).off + 3, none⟩ = some (.string (rd_T42 xs i).f1.f2) := by
  obtain ⟨ad, c, e, _, hK, hc0⟩ := Kd.C_get h z42 i h0 h1
  have hc : ∀ j u, c[j]? = some u -> w.cell? (ad.add (i.toNat * 4 + j)) = some u := hc0
  obtain rfl := k42_open hK
  exact ⟨ad, e, hc 0 _ rfl, by rw [← add_field _ _ 1 (by omega)]; exact hc 1 _ rfl, by rw [← add_field _ _ 2 (by omega)]; exact hc 2 _ rfl, by rw [← add_field _ _ 3 (by omega)]; exact hc 3 _ rfl⟩
structure S26 where
  f0 : ByteArray
  f1 : ByteArray
  f2 : ByteArray
  f3 : (List S26)
def z26 : S26 := ⟨(⟨#[]⟩ : ByteArray), (⟨#[]⟩ : ByteArray), (⟨#[]⟩ : ByteArray), ([] : List S26)⟩
def F26 (d : Kd S26) : Kd S26 := Kd.iso (Kd.pair Kd.string (Kd.pair Kd.string (Kd.pair Kd.string (Kd.slice 26 d)))) (fun x : S26 => (x.f0, x.f1, x.f2, x.f3))
theorem mono26 : Kd.Mono F26 := Kd.mono_iso _ (Kd.mono_pair (Kd.mono_const _) (Kd.mono_pair (Kd.mono_const _) (Kd.mono_pair (Kd.mono_const _) (Kd.mono_slice 26 Kd.mono_id))))
theorem sub26 : Kd.Sub F26 [26] := Kd.sub_iso _ (Kd.sub_pair (Kd.sub_const _ (by decide)) (Kd.sub_pair (Kd.sub_const _ (by decide)) (Kd.sub_pair (Kd.sub_const _ (by decide)) (Kd.sub_slice 26 (by decide) Kd.sub_id))))
theorem sz26 : ∀ n, (Kd.upto F26 4 [26] n).sz = 4 := Kd.upto_sz (fun _ => rfl)
def k26 : Kd S26 := Kd.fix F26 4 [26] sz26 (Kd.upto_E sub26)
theorem k26_open {w : World} {x : S26} {cs : List Value} (h : k26.K w x cs) : ∃ A3 c3, cs = [.string x.f0, .string x.f1, .string x.f2, .slice A3 x.f3.length c3] /\ x.f3.length <= c3 /\ k26.C w A3 x.f3.length x.f3 := by
  obtain ⟨n, h⟩ := h
  cases n with
  | zero => exact h.elim
  | succ n =>
    obtain ⟨_, _, rfl, rfl, ⟨_, _, rfl, rfl, ⟨_, _, rfl, rfl, ⟨A3, c3, rfl, l3, g3⟩⟩⟩⟩ := h
    exact ⟨A3, c3, rfl, l3, Kd.fix_C g3⟩
def rd_T26 (xs : List S26) (i : Int) : S26 := xs.getD i.toNat z26
theorem at_T26 {w : World} {A : Option Addr} {n : Nat} {xs : List S26} (h : Kd.C k26 w A n xs) (i : Int) (h0 : 0 <= i) (h1 : i < n) : ∃ ad A3 c3, A = some ad /\ w.cell? (ad.add (i.toNat * 4)) = some (.string (rd_T26 xs i).f0) /\ w.cell? ⟨(ad.add (i.toNat * 4)).block, (ad.add (i.toNat * 4)).off + 1, none⟩ = some (.string (rd_T26 xs i).f1) /\ w.cell? ⟨(ad.add (i.toNat * 4)).block, (ad.add (i.toNat * 4)).off + 2, none⟩ = some (.string (rd_T26 xs i).f2) /\ w.cell? ⟨(ad.add (i.toNat * 4)).block, (ad.add (i.toNat * 4)).off + 3, none⟩ = some (.slice A3 (rd_T26 xs i).f3.length c3) /\ (rd_T26 xs i).f3.length <= c3 /\ k26.C w A3 (rd_T26 xs i).f3.length (rd_T26 xs i).f3 := by
  obtain ⟨ad, c, e, _, hK, hc0⟩ := Kd.C_get h z26 i h0 h1
  have hc : ∀ j u, c[j]? = some u -> w.cell? (ad.add (i.toNat * 4 + j)) = some u := hc0
  obtain ⟨A3, c3, rfl, l3, g3⟩ := k26_open hK
  exact ⟨ad, A3, c3, e, hc 0 _ rfl, by rw [← add_field _ _ 1 (by omega)]; exact hc 1 _ rfl, by rw [← add_field _ _ 2 (by omega)]; exact hc 2 _ rfl, by rw [← add_field _ _ 3 (by omega)]; exact hc 3 _ rfl, l3, g3⟩
end Go.Proofs.Ytegkokdncakadaa.Q

/- laws.eqNodeS and laws.eqNode, which call each other. No condition. -/
namespace Go.Proofs.Ytegkokdncakadaa.Q
open Go.RowKit Go.Proofs.YtegkokdncakadaaW.PrintWords Go.Proofs.YtegkokdncakadaaW.PrintLast Go.Proofs.YtegkokdncakadaaW.PrintMore
attribute [local go_sem] max2_int min2_int max_two min_two max_three min_three max_four min_four
set_option linter.unusedVariables false
set_option linter.unusedSimpArgs false
def eqNode_ (g : List (S26) -> List (S26) -> Option Bool) (a b : S26) : Option Bool := if a.f0.toList = b.f0.toList then (if a.f1.toList = b.f1.toList then (if a.f2.toList = b.f2.toList then ((g a.f3 b.f3).bind fun t => (if t = true then (some true) else (some false))) else (some false)) else (some false)) else (some false)
def laws_eqNodeS.l0 : Nat -> List (S26) -> List (S26) -> Int -> Option Bool
 | 0, _, _, _ => none
 | k + 1, l0, l1, x5 => if x5 < (l0.length : Int) then (if 0 <= x5 then (if x5 < (l1.length : Int) then ((eqNode_ (fun a b => if (a.length : Int) = (b.length : Int) then laws_eqNodeS.l0 k a b 0 else some false) (rd_T26 l0 x5) (rd_T26 l1 x5)).bind fun t => (if t = true then (laws_eqNodeS.l0 k l0 l1 (wrap64 (x5 + 1))) else (some false))) else none) else none) else (some true)
def laws_eqNodeS.f (k : Nat) (l0 l1 : List (S26)) : Option Bool := if (l0.length : Int) = (l1.length : Int) then laws_eqNodeS.l0 k l0 l1 0 else some false
def laws_eqNode.f (k : Nat) (a0_0 : ByteArray) (a0_1 : ByteArray) (a0_2 : ByteArray) (l0_3 : List (S26)) (a1_0 : ByteArray) (a1_1 : ByteArray) (a1_2 : ByteArray) (l1_3 : List (S26)) : Option (Bool) := if a0_0.toList = a1_0.toList then (if a0_1.toList = a1_1.toList then (if a0_2.toList = a1_2.toList then ((laws_eqNodeS.f k l0_3 l1_3).bind fun t186 => (if t186 = true then (some true) else (some false))) else (some false)) else (some false)) else (some false)
def laws_eqNodeS.T6 : Bool × List (List Nat × List Nat) := (true, [([], []), ([], []), ([0, 1], [0, 1]), ([2], [2]), ([], []), ([], []), ([4, 5], [4, 5]), ([6], [6]), ([3, 7], [3, 7]), ([8], [8])])
def laws_eqNodeS.B6 : List Nat := [0, 0, 3, 7, 0, 0, 48, 112, 255, 511]
theorem laws_eqNodeS.tab6 : rtab .any (opsOf Try.f16 6) = laws_eqNodeS.T6 := by kernel_rfl
theorem laws_eqNodeS.bits6 : waitsOk laws_eqNodeS.T6.2 laws_eqNodeS.B6 = true := by kernel_rfl
set_option maxHeartbeats 8000000 in
set_option maxRecDepth 100000 in
theorem laws_eqNode.calls_ (k : Nat) (hS : ∀ (A0 : Option Addr) (c0 : Nat) (l0 : List (S26)) (A1 : Option Addr) (c1 : Nat) (l1 : List (S26)) (r : Bool) (w : World) (hr0 : Kd.C k26 w A0 l0.length l0) (hc0 : l0.length <= c0) (hr1 : Kd.C k26 w A1 l1.length l1) (hc1 : l1.length <= c1) (h : laws_eqNodeS.f k l0 l1 = some r), Calls Try.prog 16 #[.slice A0 l0.length c0, .slice A1 l1.length c1] w fun e w' => e = .returned (.bool r) /\ Below w.heap.size w w') (a0_0 : ByteArray) (a0_1 : ByteArray) (a0_2 : ByteArray) (A0_3 : Option Addr) (c0_3 : Nat) (l0_3 : List (S26)) (a1_0 : ByteArray) (a1_1 : ByteArray) (a1_2 : ByteArray) (A1_3 : Option Addr) (c1_3 : Nat) (l1_3 : List (S26)) (r : Bool) (w : World) (hr0_3 : Kd.C k26 w A0_3 l0_3.length l0_3) (hc0_3 : l0_3.length <= c0_3) (hr1_3 : Kd.C k26 w A1_3 l1_3.length l1_3) (hc1_3 : l1_3.length <= c1_3) (h : laws_eqNode.f k a0_0 a0_1 a0_2 l0_3 a1_0 a1_1 a1_2 l1_3 = some r) :
 Calls Try.prog 8 #[.agg #[.string a0_0, .string a0_1, .string a0_2, .slice A0_3 l0_3.length c0_3], .agg #[.string a1_0, .string a1_1, .string a1_2, .slice A1_3 l1_3.length c1_3]] w fun e w' => e = .returned (.bool r) /\ Below w.heap.size w w' := by
 have hu26 := Try.underlying26
 have HR0_3 := A_ hr0_3
 have HC0_3 := A_ hc0_3
 clear hr0_3 hc0_3
 have HR1_3 := A_ hr1_3
 have HC1_3 := A_ hc1_3
 clear hr1_3 hc1_3
 have HB := A_ (Below.refl w.heap.size w)
 have H : (if a0_0.toList = a1_0.toList then (if a0_1.toList = a1_1.toList then (if a0_2.toList = a1_2.toList then ((laws_eqNodeS.f k l0_3 l1_3).bind fun t37 => (if t37 = true then (some true) else (some false))) else (some false)) else (some false)) else (some false)) = some r := h
 clear h
 by_cases c3 : a0_0.toList = a1_0.toList
 rotate_left
 . rw [if_neg c3] at H
   obtain ⟨c3b0, c3b1⟩ := eF_ c3
   obtain rfl := si_ H
   go_enter Try.func8, Try.ntmps8
   go_wp2_with (first | ((with_reducible refine gd_ (N := 2) rfl ?_); refine bx_ (N := 2) (cs := #[.string a0_0, .string a0_1, .string a0_2, .slice A0_3 l0_3.length c0_3]) (t := 26) ?_; intro gb35 hg w30 hbox hb; have BK35 := A_ (hbox); have GW35 := A_ (ge_ hg bB_ : w.heap.size <= gb35); have GE35 := A_ (ge_ hg bB_ : w.heap.size <= gb35); replace HB := A_ (below_step bB_ hb); clear hb hbox hg) | ((with_reducible refine gd_ (N := 3) rfl ?_); refine bx_ (N := 3) (cs := #[.string a1_0, .string a1_1, .string a1_2, .slice A1_3 l1_3.length c1_3]) (t := 26) ?_; intro gb36 hg w31 hbox hb; have BK36 := A_ (hbox); have GW36 := A_ (ge_ hg (bG_ GE35.out) : w.heap.size <= gb36); have GE36 := A_ (ge_ hg (bG_ GE35.out) : w.heap.size <= gb36); replace HB := A_ (below_step (bG_ GE35.out) hb); have NB184_185 := A_ (gm_ hg BK35.out); have NB185_184 := A_ (gn_ hg BK35.out); replace BK35 := A_ (bw_ BK35.out hb); clear hb hbox hg; have hnb32 := NB184_185.out; have hnc32 := NB185_184.out; obtain ⟨hcz33_0, hcz33_1, hcz33_2, hcz33_3, hfz33_0, hfz33_1, hfz33_2, hfz33_3⟩ := cz4_ BK35.out; obtain ⟨hcz34_0, hcz34_1, hcz34_2, hcz34_3, hfz34_0, hfz34_1, hfz34_2, hfz34_3⟩ := cz4_ BK36.out))
   go_ret
   exact ⟨rr_, by repeat (first | (with_reducible first | exact HB.out | apply below_alloc | apply pw_below_drewN | apply below_drew1 | refine below_set ?_ GE35.out | refine below_set ?_ GE36.out) | exact HB.out)⟩
 rw [if_pos c3] at H
 obtain ⟨c3b0, c3b1⟩ := eT_ c3
 clear c3
 by_cases c4 : a0_1.toList = a1_1.toList
 rotate_left
 . rw [if_neg c4] at H
   obtain ⟨c4b0, c4b1⟩ := eF_ c4
   obtain rfl := si_ H
   go_enter Try.func8, Try.ntmps8
   go_wp2_with (first | ((with_reducible refine gd_ (N := 2) rfl ?_); refine bx_ (N := 2) (cs := #[.string a0_0, .string a0_1, .string a0_2, .slice A0_3 l0_3.length c0_3]) (t := 26) ?_; intro gb35 hg w25 hbox hb; have BK35 := A_ (hbox); have GW35 := A_ (ge_ hg bB_ : w.heap.size <= gb35); have GE35 := A_ (ge_ hg bB_ : w.heap.size <= gb35); replace HB := A_ (below_step bB_ hb); clear hb hbox hg) | ((with_reducible refine gd_ (N := 3) rfl ?_); refine bx_ (N := 3) (cs := #[.string a1_0, .string a1_1, .string a1_2, .slice A1_3 l1_3.length c1_3]) (t := 26) ?_; intro gb36 hg w26 hbox hb; have BK36 := A_ (hbox); have GW36 := A_ (ge_ hg (bG_ GE35.out) : w.heap.size <= gb36); have GE36 := A_ (ge_ hg (bG_ GE35.out) : w.heap.size <= gb36); replace HB := A_ (below_step (bG_ GE35.out) hb); have NB184_185 := A_ (gm_ hg BK35.out); have NB185_184 := A_ (gn_ hg BK35.out); replace BK35 := A_ (bw_ BK35.out hb); clear hb hbox hg; have hnb27 := NB184_185.out; have hnc27 := NB185_184.out; obtain ⟨hcz28_0, hcz28_1, hcz28_2, hcz28_3, hfz28_0, hfz28_1, hfz28_2, hfz28_3⟩ := cz4_ BK35.out; obtain ⟨hcz29_0, hcz29_1, hcz29_2, hcz29_3, hfz29_0, hfz29_1, hfz29_2, hfz29_3⟩ := cz4_ BK36.out))
   go_ret
   exact ⟨rr_, by repeat (first | (with_reducible first | exact HB.out | apply below_alloc | apply pw_below_drewN | apply below_drew1 | refine below_set ?_ GE35.out | refine below_set ?_ GE36.out) | exact HB.out)⟩
 rw [if_pos c4] at H
 obtain ⟨c4b0, c4b1⟩ := eT_ c4
 clear c4
 by_cases c5 : a0_2.toList = a1_2.toList
 rotate_left
 . rw [if_neg c5] at H
   obtain ⟨c5b0, c5b1⟩ := eF_ c5
   obtain rfl := si_ H
   go_enter Try.func8, Try.ntmps8
   go_wp2_with (first | ((with_reducible refine gd_ (N := 2) rfl ?_); refine bx_ (N := 2) (cs := #[.string a0_0, .string a0_1, .string a0_2, .slice A0_3 l0_3.length c0_3]) (t := 26) ?_; intro gb35 hg w20 hbox hb; have BK35 := A_ (hbox); have GW35 := A_ (ge_ hg bB_ : w.heap.size <= gb35); have GE35 := A_ (ge_ hg bB_ : w.heap.size <= gb35); replace HB := A_ (below_step bB_ hb); clear hb hbox hg) | ((with_reducible refine gd_ (N := 3) rfl ?_); refine bx_ (N := 3) (cs := #[.string a1_0, .string a1_1, .string a1_2, .slice A1_3 l1_3.length c1_3]) (t := 26) ?_; intro gb36 hg w21 hbox hb; have BK36 := A_ (hbox); have GW36 := A_ (ge_ hg (bG_ GE35.out) : w.heap.size <= gb36); have GE36 := A_ (ge_ hg (bG_ GE35.out) : w.heap.size <= gb36); replace HB := A_ (below_step (bG_ GE35.out) hb); have NB184_185 := A_ (gm_ hg BK35.out); have NB185_184 := A_ (gn_ hg BK35.out); replace BK35 := A_ (bw_ BK35.out hb); clear hb hbox hg; have hnb22 := NB184_185.out; have hnc22 := NB185_184.out; obtain ⟨hcz23_0, hcz23_1, hcz23_2, hcz23_3, hfz23_0, hfz23_1, hfz23_2, hfz23_3⟩ := cz4_ BK35.out; obtain ⟨hcz24_0, hcz24_1, hcz24_2, hcz24_3, hfz24_0, hfz24_1, hfz24_2, hfz24_3⟩ := cz4_ BK36.out))
   go_ret
   exact ⟨rr_, by repeat (first | (with_reducible first | exact HB.out | apply below_alloc | apply pw_below_drewN | apply below_drew1 | refine below_set ?_ GE35.out | refine below_set ?_ GE36.out) | exact HB.out)⟩
 rw [if_pos c5] at H
 obtain ⟨c5b0, c5b1⟩ := eT_ c5
 clear c5
 obtain ⟨t37, A6, H⟩ := bo_ H
 (try dsimp only at H)
 by_cases c7 : t37 = true
 . subst c7
   rw [if_pos rfl] at H
   obtain rfl := si_ H
   go_enter Try.func8, Try.ntmps8
   go_wp2_with (first | ((with_reducible refine gd_ (N := 2) rfl ?_); refine bx_ (N := 2) (cs := #[.string a0_0, .string a0_1, .string a0_2, .slice A0_3 l0_3.length c0_3]) (t := 26) ?_; intro gb35 hg w8 hbox hb; have BK35 := A_ (hbox); have GW35 := A_ (ge_ hg bB_ : w.heap.size <= gb35); have GE35 := A_ (ge_ hg bB_ : w.heap.size <= gb35); replace HB := A_ (below_step bB_ hb); clear hb hbox hg) | ((with_reducible refine gd_ (N := 3) rfl ?_); refine bx_ (N := 3) (cs := #[.string a1_0, .string a1_1, .string a1_2, .slice A1_3 l1_3.length c1_3]) (t := 26) ?_; intro gb36 hg w9 hbox hb; have BK36 := A_ (hbox); have GW36 := A_ (ge_ hg (bG_ GE35.out) : w.heap.size <= gb36); have GE36 := A_ (ge_ hg (bG_ GE35.out) : w.heap.size <= gb36); replace HB := A_ (below_step (bG_ GE35.out) hb); have NB184_185 := A_ (gm_ hg BK35.out); have NB185_184 := A_ (gn_ hg BK35.out); replace BK35 := A_ (bw_ BK35.out hb); clear hb hbox hg; have hnb10 := NB184_185.out; have hnc10 := NB185_184.out; obtain ⟨hcz11_0, hcz11_1, hcz11_2, hcz11_3, hfz11_0, hfz11_1, hfz11_2, hfz11_3⟩ := cz4_ BK35.out; obtain ⟨hcz12_0, hcz12_1, hcz12_2, hcz12_3, hfz12_0, hfz12_1, hfz12_2, hfz12_3⟩ := cz4_ BK36.out) | ((with_reducible refine gc_ (f := 16) rfl ?_); refine gL_ (some 24) Try.func16 #[.slice A0_3 l0_3.length c0_3, .slice A1_3 l1_3.length c1_3] ?_; (with_reducible refine (hS _ _ l0_3 _ _ l1_3 true _ ?s1 ?s2 ?s3 ?s4 A6.out).mono ?_); (case s1 => exact cC_ (Kd.C_below HR0_3.out HB.out)); (case s2 => exact HC0_3.out); (case s3 => exact cC_ (Kd.C_below HR1_3.out HB.out)); (case s4 => exact HC1_3.out); rintro e w13 ⟨rfl, hb⟩; refine ⟨_, rfl, ?_⟩; replace HB := A_ (below_step (by repeat (first | (with_reducible first | exact HB.out | apply below_alloc | apply pw_below_drewN | apply below_drew1 | refine below_set ?_ GE35.out | refine below_set ?_ GE36.out) | exact HB.out)) hb); clear hb))
   go_ret
   exact ⟨rr_, by repeat (first | (with_reducible first | exact HB.out | apply below_alloc | apply pw_below_drewN | apply below_drew1 | refine below_set ?_ GE35.out | refine below_set ?_ GE36.out) | exact HB.out)⟩
 . replace c7 := Bool.eq_false_iff.mpr c7
   subst c7
   rw [if_neg nf_] at H
   obtain rfl := si_ H
   go_enter Try.func8, Try.ntmps8
   go_wp2_with (first | ((with_reducible refine gd_ (N := 2) rfl ?_); refine bx_ (N := 2) (cs := #[.string a0_0, .string a0_1, .string a0_2, .slice A0_3 l0_3.length c0_3]) (t := 26) ?_; intro gb35 hg w14 hbox hb; have BK35 := A_ (hbox); have GW35 := A_ (ge_ hg bB_ : w.heap.size <= gb35); have GE35 := A_ (ge_ hg bB_ : w.heap.size <= gb35); replace HB := A_ (below_step bB_ hb); clear hb hbox hg) | ((with_reducible refine gd_ (N := 3) rfl ?_); refine bx_ (N := 3) (cs := #[.string a1_0, .string a1_1, .string a1_2, .slice A1_3 l1_3.length c1_3]) (t := 26) ?_; intro gb36 hg w15 hbox hb; have BK36 := A_ (hbox); have GW36 := A_ (ge_ hg (bG_ GE35.out) : w.heap.size <= gb36); have GE36 := A_ (ge_ hg (bG_ GE35.out) : w.heap.size <= gb36); replace HB := A_ (below_step (bG_ GE35.out) hb); have NB184_185 := A_ (gm_ hg BK35.out); have NB185_184 := A_ (gn_ hg BK35.out); replace BK35 := A_ (bw_ BK35.out hb); clear hb hbox hg; have hnb16 := NB184_185.out; have hnc16 := NB185_184.out; obtain ⟨hcz17_0, hcz17_1, hcz17_2, hcz17_3, hfz17_0, hfz17_1, hfz17_2, hfz17_3⟩ := cz4_ BK35.out; obtain ⟨hcz18_0, hcz18_1, hcz18_2, hcz18_3, hfz18_0, hfz18_1, hfz18_2, hfz18_3⟩ := cz4_ BK36.out) | ((with_reducible refine gc_ (f := 16) rfl ?_); refine gL_ (some 24) Try.func16 #[.slice A0_3 l0_3.length c0_3, .slice A1_3 l1_3.length c1_3] ?_; (with_reducible refine (hS _ _ l0_3 _ _ l1_3 false _ ?s1 ?s2 ?s3 ?s4 A6.out).mono ?_); (case s1 => exact cC_ (Kd.C_below HR0_3.out HB.out)); (case s2 => exact HC0_3.out); (case s3 => exact cC_ (Kd.C_below HR1_3.out HB.out)); (case s4 => exact HC1_3.out); rintro e w19 ⟨rfl, hb⟩; refine ⟨_, rfl, ?_⟩; replace HB := A_ (below_step (by repeat (first | (with_reducible first | exact HB.out | apply below_alloc | apply pw_below_drewN | apply below_drew1 | refine below_set ?_ GE35.out | refine below_set ?_ GE36.out) | exact HB.out)) hb); clear hb))
   go_ret
   exact ⟨rr_, by repeat (first | (with_reducible first | exact HB.out | apply below_alloc | apply pw_below_drewN | apply below_drew1 | refine below_set ?_ GE35.out | refine below_set ?_ GE36.out) | exact HB.out)⟩
set_option maxHeartbeats 16000000 in
set_option maxRecDepth 100000 in
theorem laws_eqNodeS.calls (k : Nat) : ∀ (A0 : Option Addr) (c0 : Nat) (l0 : List (S26)) (A1 : Option Addr) (c1 : Nat) (l1 : List (S26)) (r : Bool) (w : World) (hr0 : Kd.C k26 w A0 l0.length l0) (hc0 : l0.length <= c0) (hr1 : Kd.C k26 w A1 l1.length l1) (hc1 : l1.length <= c1) (h : laws_eqNodeS.f k l0 l1 = some r),
 Calls Try.prog 16 #[.slice A0 l0.length c0, .slice A1 l1.length c1] w fun e w' => e = .returned (.bool r) /\ Below w.heap.size w w' := by
 induction k using Nat.strongRecOn with
 | _ k ih =>
 intro A0 c0 l0 A1 c1 l1 r w hr0 hc0 hr1 hc1 h
 have HR0 := A_ hr0
 have HR1 := A_ hr1
 have HB := A_ (Below.refl w.heap.size w)
 clear hr0 hr1 hc0 hc1
 unfold laws_eqNodeS.f at h
 by_cases c1_ : (l0.length : Int) = (l1.length : Int)
 rotate_left
 . rw [if_neg c1_] at h
   have c1b0 : ((l0.length : Int) != (l1.length : Int)) = true := bne_iff_ne.mpr c1_
   have c1b1 : ((l0.length : Int) == (l1.length : Int)) = false := beq_eq_false_iff_ne.mpr c1_
   have c1b2 : (l0.length == l1.length) = false := by first | simpa using c1_ | (simp at c1_ ⊢; omega)
   obtain rfl := Option.some.inj h
   go_enter Try.func16, Try.ntmps16
   go_wp2
   go_ret
   exact ⟨rfl, HB.out⟩
 rw [if_pos c1_] at h
 have c1b0 : ((l0.length : Int) != (l1.length : Int)) = false := bne_eq_false_iff_eq.mpr c1_
 have c1b1 : ((l0.length : Int) == (l1.length : Int)) = true := beq_iff_eq.mpr c1_
 have c1b2 : (l0.length == l1.length) = true := by first | simpa using c1_ | (simp at c1_ ⊢; omega)
 have HE := A_ c1_
 have H' := A_ h
 clear h c1_
 go_enter Try.func16, Try.ntmps16
 go_wp2
 go_loopg [5] k (fun kq v5 w' => ∃ (x5_1 : Int), v5 = .int .i64 x5_1 /\ Aside0 (laws_eqNodeS.l0 kq l0 l1 x5_1 = some r) /\ Aside0 (kq <= k) /\ Aside0 (Below w.heap.size w w'))
 case atStart => exact ⟨0, rfl, H', ⟨Nat.le_refl _⟩, HB⟩
 case round =>
  clear H' HB c1b0 c1b1 c1b2
  obtain ⟨x5, rfl, HA, HK1, HB⟩ := hrel
  cases gk with
  | zero => exact absurd HA.out (by simp [laws_eqNodeS.l0])
  | succ k1 =>
   have H := HA.out
   clear HA
   simp only [laws_eqNodeS.l0] at H
   by_cases c3 : x5 < (l0.length : Int)
   rotate_left
   . rw [if_neg c3] at H
     have c3b0 := decide_eq_false c3
     obtain rfl := si_ H
     clear c3
     go_wp2
     go_ret
     exact ⟨rfl, HB.out⟩
   . rw [if_pos c3] at H
     have c3b0 := decide_eq_true c3
     by_cases c4 : 0 <= x5
     rotate_left
     . rw [if_neg c4] at H
       exact absurd H (by simp)
     . rw [if_pos c4] at H
       have c4b0 := decide_eq_true c4
       by_cases c5 : x5 < (l1.length : Int)
       rotate_left
       . rw [if_neg c5] at H
         exact absurd H (by simp)
       . rw [if_pos c5] at H
         have c5b0 := decide_eq_true c5
         replace H := Option.bind_eq_some_iff.mp H
         obtain ⟨t_, A0_, H⟩ := H
         have At_ : Aside0 (laws_eqNode.f k1 (rd_T26 l0 x5).f0 (rd_T26 l0 x5).f1 (rd_T26 l0 x5).f2 (rd_T26 l0 x5).f3 (rd_T26 l1 x5).f0 (rd_T26 l1 x5).f1 (rd_T26 l1 x5).f2 (rd_T26 l1 x5).f3 = some t_) := ⟨A0_⟩
         clear A0_
         obtain ⟨ada, A3a, c3a, ea, ha0, ha1, ha2, ha3, la_, ga_⟩ := at_T26 HR0.out x5 c4 c3
         obtain ⟨adb, A3b, c3b, eb, hb0, hb1, hb2, hb3, lb_, gb_⟩ := at_T26 HR1.out x5 c4 c5
         subst ea
         subst eb
         replace ha0 := pw_cell_below HB.out ha0
         replace ha1 := pw_cell_below HB.out ha1
         replace ha2 := pw_cell_below HB.out ha2
         replace ha3 := pw_cell_below HB.out ha3
         replace hb0 := pw_cell_below HB.out hb0
         replace hb1 := pw_cell_below HB.out hb1
         replace hb2 := pw_cell_below HB.out hb2
         replace hb3 := pw_cell_below HB.out hb3
         replace ga_ := Kd.C_below ga_ HB.out
         replace gb_ := Kd.C_below gb_ HB.out
         replace c3 := eq_true c3
         replace c4 := eq_true c4
         replace c5 := eq_true c5
         try go_wp2
         refine start_ (n := 10) (S := fun w' => w'.cell? (ada.add ((x5).toNat * 4)) = some (.string (rd_T26 l0 x5).f0) /\ w'.cell? ⟨(ada.add ((x5).toNat * 4)).block, (ada.add ((x5).toNat * 4)).off + 1, none⟩ = some (.string (rd_T26 l0 x5).f1) /\ w'.cell? ⟨(ada.add ((x5).toNat * 4)).block, (ada.add ((x5).toNat * 4)).off + 2, none⟩ = some (.string (rd_T26 l0 x5).f2) /\ w'.cell? ⟨(ada.add ((x5).toNat * 4)).block, (ada.add ((x5).toNat * 4)).off + 3, none⟩ = some (.slice A3a (rd_T26 l0 x5).f3.length c3a) /\ w'.cell? (adb.add ((x5).toNat * 4)) = some (.string (rd_T26 l1 x5).f0) /\ w'.cell? ⟨(adb.add ((x5).toNat * 4)).block, (adb.add ((x5).toNat * 4)).off + 1, none⟩ = some (.string (rd_T26 l1 x5).f1) /\ w'.cell? ⟨(adb.add ((x5).toNat * 4)).block, (adb.add ((x5).toNat * 4)).off + 2, none⟩ = some (.string (rd_T26 l1 x5).f2) /\ w'.cell? ⟨(adb.add ((x5).toNat * 4)).block, (adb.add ((x5).toNat * 4)).off + 3, none⟩ = some (.slice A3b (rd_T26 l1 x5).f3.length c3b)) (ds := [8]) #[false, false, false, false, false, false, false, false, false, false] (by kernel_rfl) rfl rfl ⟨ha0, ha1, ha2, ha3, hb0, hb1, hb2, hb3⟩ (fun hHeld => ?_); refine with_tabW laws_eqNodeS.tab6 laws_eqNodeS.bits6 (fun HT_ HW_ => ?_)
         refine pu_ (i := 0) (N := some 17) ?_
         refine pu_ (i := 1) (N := some 18) ?_
         refine pu_ (i := 2) (N := some 19) ?_
         refine pu_ (i := 4) (N := some 21) ?_
         refine pu_ (i := 5) (N := some 22) ?_
         refine pu_ (i := 6) (N := some 23) ?_
         refine tk_ (i := 3) (N := some 20) hHeld ?_
         refine tk_ (i := 7) (N := some 24) hHeld ?_
         refine last_ (i := 8) (N := some 25) #[true, true, true, true, true, true, true, true, true, false] rfl rfl (one_of HT_.out (by kernel_rfl)) (by decide) (fun K hK => ?_)
         refine goes_ Try.func8 (by kernel_rfl) rfl #[.agg #[.string (rd_T26 l0 x5).f0, .string (rd_T26 l0 x5).f1, .string (rd_T26 l0 x5).f2, .slice A3a (rd_T26 l0 x5).f3.length c3a], .agg #[.string (rd_T26 l1 x5).f0, .string (rd_T26 l1 x5).f1, .string (rd_T26 l1 x5).f2, .slice A3b (rd_T26 l1 x5).f3.length c3b]] (by rfl) rfl rfl (by simp only [List.map_toArray, List.map_cons, List.map_nil]; rfl) ?_
         with_reducible refine (laws_eqNode.calls_ k1 (ih k1 (by have := HK1.out; omega)) (rd_T26 l0 x5).f0 (rd_T26 l0 x5).f1 (rd_T26 l0 x5).f2 A3a c3a (rd_T26 l0 x5).f3 (rd_T26 l1 x5).f0 (rd_T26 l1 x5).f1 (rd_T26 l1 x5).f2 A3b c3b (rd_T26 l1 x5).f3 t_ _ (Kd.C_drew ga_) la_ (Kd.C_drew gb_) lb_ At_.out).mono ?_
         rintro e w_1 ⟨rfl, hb_⟩
         refine ⟨_, rfl, ?_⟩
         replace HB := A_ (below_step bB_ hb_)
         clear hb_
         refine hK.out _ _ ?_
         clear hK K
         refine no_ (some 25) ?_
         refine pu_ (i := 9) (N := some 26) ?_
         refine done_ (done_of HT_.out (by kernel_rfl)) ?_
         (try clear hHeld)
         clear ha0 ha1 ha2 ha3 hb0 hb1 hb2 hb3 ga_ gb_ la_ lb_
         by_cases c6 : t_ = true
         . subst c6
           have H' : Aside0 (laws_eqNodeS.l0 k1 l0 l1 (wrap64 (x5 + 1)) = some r) := ⟨by rw [if_pos rfl] at H; exact H⟩
           clear H
           go_wp2
           go_roundg k1
           case measure => have := HK1.out; omega
           case rel => exact ⟨wrap64 (x5 + 1), rfl, H', ⟨by have := HK1.out; omega⟩, HB⟩
         . replace c6 := Bool.eq_false_iff.mpr c6
           subst c6
           rw [if_neg nf_] at H
           obtain rfl := si_ H
           go_wp2
           go_ret
           exact ⟨rfl, HB.out⟩
theorem laws_eqNode.calls (k : Nat) (a0_0 : ByteArray) (a0_1 : ByteArray) (a0_2 : ByteArray) (A0_3 : Option Addr) (c0_3 : Nat) (l0_3 : List (S26)) (a1_0 : ByteArray) (a1_1 : ByteArray) (a1_2 : ByteArray) (A1_3 : Option Addr) (c1_3 : Nat) (l1_3 : List (S26)) (r : Bool) (w : World) (hr0_3 : Kd.C k26 w A0_3 l0_3.length l0_3) (hc0_3 : l0_3.length <= c0_3) (hr1_3 : Kd.C k26 w A1_3 l1_3.length l1_3) (hc1_3 : l1_3.length <= c1_3) (h : laws_eqNode.f k a0_0 a0_1 a0_2 l0_3 a1_0 a1_1 a1_2 l1_3 = some r) :
 Calls Try.prog 8 #[.agg #[.string a0_0, .string a0_1, .string a0_2, .slice A0_3 l0_3.length c0_3], .agg #[.string a1_0, .string a1_1, .string a1_2, .slice A1_3 l1_3.length c1_3]] w fun e w' => e = .returned (.bool r) /\ Below w.heap.size w w' :=
 laws_eqNode.calls_ k (laws_eqNodeS.calls k) a0_0 a0_1 a0_2 A0_3 c0_3 l0_3 a1_0 a1_1 a1_2 A1_3 c1_3 l1_3 r w hr0_3 hc0_3 hr1_3 hc1_3 h
set_option maxHeartbeats 8000000
set_option maxRecDepth 100000
attribute [local go_sem] max2_int min2_int max_two min_two max_three min_three max_four min_four
def laws_szProp.f (a0_0 : ByteArray) (a0_1 : ByteArray) (a0_2 : ByteArray) (a1 : Int) : Option (Int) := if (wrap64 (a1 - (a0_0.size : Int))) < 0 then (some (-1)) else (if (wrap64 ((wrap64 (a1 - (a0_0.size : Int))) - (a0_1.size : Int))) < 0 then (some (-1)) else (if (wrap64 ((wrap64 ((wrap64 (a1 - (a0_0.size : Int))) - (a0_1.size : Int))) - (a0_2.size : Int))) < 0 then (some (-1)) else (some (wrap64 ((wrap64 ((wrap64 (a1 - (a0_0.size : Int))) - (a0_1.size : Int))) - (a0_2.size : Int))))))
theorem laws_szProp.calls (a0_0 : ByteArray) (a0_1 : ByteArray) (a0_2 : ByteArray) (a1 : Int) (r : Int) (w : World) (h : laws_szProp.f a0_0 a0_1 a0_2 a1 = some r) :
 Calls Try.prog 21 #[.agg #[.string a0_0, .string a0_1, .string a0_2], .int .i64 a1] w fun e w' => e = .returned (.int .i64 r) /\ Below w.heap.size w w' := by
 have hu37 := Try.underlying37
 have HB := A_ (Below.refl w.heap.size w)
 have H : (if (wrap64 (a1 - (a0_0.size : Int))) < 0 then (some (-1)) else (if (wrap64 ((wrap64 (a1 - (a0_0.size : Int))) - (a0_1.size : Int))) < 0 then (some (-1)) else (if (wrap64 ((wrap64 ((wrap64 (a1 - (a0_0.size : Int))) - (a0_1.size : Int))) - (a0_2.size : Int))) < 0 then (some (-1)) else (some (wrap64 ((wrap64 ((wrap64 (a1 - (a0_0.size : Int))) - (a0_1.size : Int))) - (a0_2.size : Int))))))) = some r := h
 clear h
 by_cases c3 : (wrap64 (a1 - (a0_0.size : Int))) < 0
 . rw [if_pos c3] at H
   have c3b0 := decide_eq_true c3
   clear c3
   obtain rfl := si_ H
   go_enter Try.func21, Try.ntmps21
   go_wp2_with (first | ((with_reducible refine gd_ (N := 2) rfl ?_); refine bx_ (N := 2) (cs := #[.string a0_0, .string a0_1, .string a0_2]) (t := 37) ?_; intro gb2 hg w4 hbox hb; have BK2 := A_ (hbox); have GW2 := A_ (ge_ hg bB_ : w.heap.size <= gb2); have GE2 := A_ (ge_ hg bB_ : w.heap.size <= gb2); replace HB := A_ (below_step bB_ hb); clear hb hbox hg; obtain ⟨hcz5_0, hcz5_1, hcz5_2, hfz5_0, hfz5_1, hfz5_2⟩ := cz3_ BK2.out))
   go_ret
   exact ⟨rr_, bG_ GE2.out⟩
 rw [if_neg c3] at H
 have c3b0 := decide_eq_false c3
 clear c3
 by_cases c6 : (wrap64 ((wrap64 (a1 - (a0_0.size : Int))) - (a0_1.size : Int))) < 0
 . rw [if_pos c6] at H
   have c6b0 := decide_eq_true c6
   clear c6
   obtain rfl := si_ H
   go_enter Try.func21, Try.ntmps21
   go_wp2_with (first | ((with_reducible refine gd_ (N := 2) rfl ?_); refine bx_ (N := 2) (cs := #[.string a0_0, .string a0_1, .string a0_2]) (t := 37) ?_; intro gb2 hg w7 hbox hb; have BK2 := A_ (hbox); have GW2 := A_ (ge_ hg bB_ : w.heap.size <= gb2); have GE2 := A_ (ge_ hg bB_ : w.heap.size <= gb2); replace HB := A_ (below_step bB_ hb); clear hb hbox hg; obtain ⟨hcz8_0, hcz8_1, hcz8_2, hfz8_0, hfz8_1, hfz8_2⟩ := cz3_ BK2.out))
   go_ret
   exact ⟨rr_, bG_ GE2.out⟩
 rw [if_neg c6] at H
 have c6b0 := decide_eq_false c6
 clear c6
 by_cases c9 : (wrap64 ((wrap64 ((wrap64 (a1 - (a0_0.size : Int))) - (a0_1.size : Int))) - (a0_2.size : Int))) < 0
 . rw [if_pos c9] at H
   have c9b0 := decide_eq_true c9
   clear c9
   obtain rfl := si_ H
   go_enter Try.func21, Try.ntmps21
   go_wp2_with (first | ((with_reducible refine gd_ (N := 2) rfl ?_); refine bx_ (N := 2) (cs := #[.string a0_0, .string a0_1, .string a0_2]) (t := 37) ?_; intro gb2 hg w10 hbox hb; have BK2 := A_ (hbox); have GW2 := A_ (ge_ hg bB_ : w.heap.size <= gb2); have GE2 := A_ (ge_ hg bB_ : w.heap.size <= gb2); replace HB := A_ (below_step bB_ hb); clear hb hbox hg; obtain ⟨hcz11_0, hcz11_1, hcz11_2, hfz11_0, hfz11_1, hfz11_2⟩ := cz3_ BK2.out))
   go_ret
   exact ⟨rr_, bG_ GE2.out⟩
 rw [if_neg c9] at H
 have c9b0 := decide_eq_false c9
 clear c9
 obtain rfl := si_ H
 go_enter Try.func21, Try.ntmps21
 go_wp2_with (first | ((with_reducible refine gd_ (N := 2) rfl ?_); refine bx_ (N := 2) (cs := #[.string a0_0, .string a0_1, .string a0_2]) (t := 37) ?_; intro gb2 hg w12 hbox hb; have BK2 := A_ (hbox); have GW2 := A_ (ge_ hg bB_ : w.heap.size <= gb2); have GE2 := A_ (ge_ hg bB_ : w.heap.size <= gb2); replace HB := A_ (below_step bB_ hb); clear hb hbox hg; obtain ⟨hcz13_0, hcz13_1, hcz13_2, hfz13_0, hfz13_1, hfz13_2⟩ := cz3_ BK2.out))
 go_ret
 exact ⟨rr_, bG_ GE2.out⟩
def laws_szSet.f (a0_0 : Bool) (a0_1 : ByteArray) (a0_2 : ByteArray) (a0_3 : ByteArray) (a1 : Int) : Option (Int) := (laws_szProp.f a0_1 a0_2 a0_3 a1).bind fun t103 => (if t103 < 0 then (some (-1)) else (some t103))
theorem laws_szSet.calls (a0_0 : Bool) (a0_1 : ByteArray) (a0_2 : ByteArray) (a0_3 : ByteArray) (a1 : Int) (r : Int) (w : World) (h : laws_szSet.f a0_0 a0_1 a0_2 a0_3 a1 = some r) :
 Calls Try.prog 13 #[.agg #[.bool a0_0, .string a0_1, .string a0_2, .string a0_3], .int .i64 a1] w fun e w' => e = .returned (.int .i64 r) /\ Below w.heap.size w w' := by
 have hu39 := Try.underlying39
 have hu37 := Try.underlying37
 have HB := A_ (Below.refl w.heap.size w)
 have H : ((laws_szProp.f a0_1 a0_2 a0_3 a1).bind fun t11 => (if t11 < 0 then (some (-1)) else (some t11))) = some r := h
 clear h
 obtain ⟨t11, A3, H⟩ := bo_ H
 (try dsimp only at H)
 by_cases c4 : t11 < 0
 . rw [if_pos c4] at H
   have c4b0 := decide_eq_true c4
   clear c4
   obtain rfl := si_ H
   go_enter Try.func13, Try.ntmps13
   go_wp2_with (first | ((with_reducible refine gd_ (N := 2) rfl ?_); refine bx_ (N := 2) (cs := #[.bool a0_0, .string a0_1, .string a0_2, .string a0_3]) (t := 39) ?_; intro gb2 hg w5 hbox hb; have BK2 := A_ (hbox); have GW2 := A_ (ge_ hg bB_ : w.heap.size <= gb2); have GE2 := A_ (ge_ hg bB_ : w.heap.size <= gb2); replace HB := A_ (below_step bB_ hb); clear hb hbox hg; obtain ⟨hcz6_0, hcz6_1, hcz6_2, hcz6_3, hfz6_0, hfz6_1, hfz6_2, hfz6_3⟩ := cz4_ BK2.out) | ((with_reducible refine gc_ (f := 21) rfl ?_); refine gL_ (some 8) Try.func21 #[.agg #[.string a0_1, .string a0_2, .string a0_3], .int .i64 a1] ?_; (with_reducible refine (laws_szProp.calls a0_1 a0_2 a0_3 a1 t11 _ A3.out).mono ?_); rintro e w7 ⟨rfl, hb⟩; refine ⟨_, rfl, ?_⟩; replace HB := A_ (below_step (bG_ GE2.out) hb); clear hb))
   go_ret
   exact ⟨rr_, bG_ GE2.out⟩
 rw [if_neg c4] at H
 have c4b0 := decide_eq_false c4
 clear c4
 obtain rfl := si_ H
 go_enter Try.func13, Try.ntmps13
 go_wp2_with (first | ((with_reducible refine gd_ (N := 2) rfl ?_); refine bx_ (N := 2) (cs := #[.bool a0_0, .string a0_1, .string a0_2, .string a0_3]) (t := 39) ?_; intro gb2 hg w8 hbox hb; have BK2 := A_ (hbox); have GW2 := A_ (ge_ hg bB_ : w.heap.size <= gb2); have GE2 := A_ (ge_ hg bB_ : w.heap.size <= gb2); replace HB := A_ (below_step bB_ hb); clear hb hbox hg; obtain ⟨hcz9_0, hcz9_1, hcz9_2, hcz9_3, hfz9_0, hfz9_1, hfz9_2, hfz9_3⟩ := cz4_ BK2.out) | ((with_reducible refine gc_ (f := 21) rfl ?_); refine gL_ (some 8) Try.func21 #[.agg #[.string a0_1, .string a0_2, .string a0_3], .int .i64 a1] ?_; (with_reducible refine (laws_szProp.calls a0_1 a0_2 a0_3 a1 t11 _ A3.out).mono ?_); rintro e w10 ⟨rfl, hb⟩; refine ⟨_, rfl, ?_⟩; replace HB := A_ (below_step (bG_ GE2.out) hb); clear hb))
 go_ret
 exact ⟨rr_, bG_ GE2.out⟩
def laws_szSetS.l0 : Nat -> List (S39) -> Int -> Int -> Option (Int)
 | 0, _, _, _ => none
 | k + 1, x0, x1, x5 => if x5 < (x0.length : Int) then (if 0 <= x5 then ((laws_szSet.f ((rd_T39 x0 x5).f0) ((rd_T39 x0 x5).f1.f0) ((rd_T39 x0 x5).f1.f1) ((rd_T39 x0 x5).f1.f2) x1).bind fun t105 => (if t105 < 0 then (some (-1)) else (laws_szSetS.l0 k x0 t105 (wrap64 (x5 + 1))))) else (none)) else (some x1)
def laws_szSetS.f (k : Nat) (l0 : List (S39)) (a1 : Int) : Option (Int) := if (wrap64 (a1 - (l0.length : Int))) < 0 then (some (-1)) else (laws_szSetS.l0 k l0 (wrap64 (a1 - (l0.length : Int))) 0)
theorem laws_szSetS.calls (k : Nat) (A0 : Option Addr) (c0 : Nat) (l0 : List (S39)) (a1 : Int) (r : Int) (w : World) (hr0 : Kd.C k39 w A0 l0.length l0) (hc0 : l0.length <= c0) (h : laws_szSetS.f k l0 a1 = some r) :
 Calls Try.prog 4 #[.slice A0 l0.length c0, .int .i64 a1] w fun e w' => e = .returned (.int .i64 r) /\ Below w.heap.size w w' := by
 have hu39 := Try.underlying39
 have HR0 := A_ hr0
 clear hr0 hc0
 have HB := A_ (Below.refl w.heap.size w)
 have H : (if (wrap64 (a1 - (l0.length : Int))) < 0 then (some (-1)) else (laws_szSetS.l0 k l0 (wrap64 (a1 - (l0.length : Int))) 0)) = some r := h
 clear h
 by_cases c3 : (wrap64 (a1 - (l0.length : Int))) < 0
 . rw [if_pos c3] at H
   have c3b0 := decide_eq_true c3
   clear c3
   obtain rfl := si_ H
   go_enter Try.func4, Try.ntmps4
   go_wp2
   go_ret
   exact ⟨rr_, bB_⟩
 rw [if_neg c3] at H
 have c3b0 := decide_eq_false c3
 clear c3
 have H' := A_ H
 clear H
 go_enter Try.func4, Try.ntmps4
 go_wp2
 go_loopg [1, 5] k (fun kq v1 v5 w' => ∃ (x1_1 : Int) (x5_1 : Int), v1 = .int .i64 x1_1 /\ v5 = .int .i64 x5_1 /\ Aside0 (laws_szSetS.l0 kq l0 x1_1 x5_1 = some r) /\ Aside0 (kq <= k) /\ Aside0 (Below w.heap.size w w'))
 case atStart => exact ⟨(wrap64 (a1 - (l0.length : Int))), (0), rs_, rs_, H', ⟨Nat.le_refl _⟩, ⟨bB_⟩⟩
 case round =>
  clear H'
  try clear c3
  try clear c3b0
  obtain ⟨x1_1, x5_1, rfl, rfl, HA, HK1, HB⟩ := hrel
  cases gk with
  | zero => exact absurd HA.out (by simp [laws_szSetS.l0])
  | succ k1 =>
   have H := HA.out
   clear HA
   simp only [laws_szSetS.l0] at H
   by_cases c4 : x5_1 < (l0.length : Int)
   rotate_left
   . rw [if_neg c4] at H
     have c4b0 := decide_eq_false c4
     clear c4
     obtain rfl := si_ H
     go_wp2
     go_ret
     exact ⟨rr_, bB_⟩
   rw [if_pos c4] at H
   have c4b0 := decide_eq_true c4
   clear c4
   by_cases c5 : 0 <= x5_1
   rotate_left
   . exact absurd H (by rw [if_neg c5]; simp)
   rw [if_pos c5] at H
   have c5b0 := decide_eq_true c5
   clear c5
   obtain ⟨t10, A6, H⟩ := bo_ H
   (try dsimp only at H)
   by_cases c7 : t10 < 0
   . rw [if_pos c7] at H
     have c7b0 := decide_eq_true c7
     clear c7
     obtain rfl := si_ H
     have p2 : 0 <= (x5_1 : Int) := od_
     have q2 : x5_1 < (l0.length : Int) := od_
     obtain ⟨ad2, e2, hx2_0, hx2_1, hx2_2, hx2_3⟩ := at_T39 HR0.out x5_1 p2 q2
     cases e2
     replace hx2_0 := bc_ HB.out hx2_0
     replace hx2_1 := bc_ HB.out hx2_1
     replace hx2_2 := bc_ HB.out hx2_2
     replace hx2_3 := bc_ HB.out hx2_3
     replace p2 := eq_true p2
     replace q2 := eq_true q2
     go_wp2_with (first | ((with_reducible refine gc_ (f := 13) rfl ?_); refine gL_ (some 23) Try.func13 #[.agg #[.bool ((rd_T39 l0 x5_1).f0), .string ((rd_T39 l0 x5_1).f1.f0), .string ((rd_T39 l0 x5_1).f1.f1), .string ((rd_T39 l0 x5_1).f1.f2)], .int .i64 x1_1] ?_; (with_reducible refine (laws_szSet.calls ((rd_T39 l0 x5_1).f0) ((rd_T39 l0 x5_1).f1.f0) ((rd_T39 l0 x5_1).f1.f1) ((rd_T39 l0 x5_1).f1.f2) x1_1 t10 _ A6.out).mono ?_); rintro e w8 ⟨rfl, hb⟩; refine ⟨_, rfl, ?_⟩; replace HB := A_ (below_step bB_ hb); clear hb))
     go_ret
     exact ⟨rr_, bB_⟩
   rw [if_neg c7] at H
   have c7b0 := decide_eq_false c7
   clear c7
   have H' := A_ H
   clear H
   have p2 : 0 <= (x5_1 : Int) := od_
   have q2 : x5_1 < (l0.length : Int) := od_
   obtain ⟨ad2, e2, hx2_0, hx2_1, hx2_2, hx2_3⟩ := at_T39 HR0.out x5_1 p2 q2
   cases e2
   replace hx2_0 := bc_ HB.out hx2_0
   replace hx2_1 := bc_ HB.out hx2_1
   replace hx2_2 := bc_ HB.out hx2_2
   replace hx2_3 := bc_ HB.out hx2_3
   replace p2 := eq_true p2
   replace q2 := eq_true q2
   go_wp2_with (first | ((with_reducible refine gc_ (f := 13) rfl ?_); refine gL_ (some 23) Try.func13 #[.agg #[.bool ((rd_T39 l0 x5_1).f0), .string ((rd_T39 l0 x5_1).f1.f0), .string ((rd_T39 l0 x5_1).f1.f1), .string ((rd_T39 l0 x5_1).f1.f2)], .int .i64 x1_1] ?_; (with_reducible refine (laws_szSet.calls ((rd_T39 l0 x5_1).f0) ((rd_T39 l0 x5_1).f1.f0) ((rd_T39 l0 x5_1).f1.f1) ((rd_T39 l0 x5_1).f1.f2) x1_1 t10 _ A6.out).mono ?_); rintro e w9 ⟨rfl, hb⟩; refine ⟨_, rfl, ?_⟩; replace HB := A_ (below_step bB_ hb); clear hb))
   go_roundg k1
   case measure => have := HK1.out; omega
   case rel => exact ⟨(t10), (wrap64 (x5_1 + 1)), rs_, rs_, H', ⟨by have := HK1.out; omega⟩, ⟨bB_⟩⟩
def laws_toProp.f (a0_0 : ByteArray) (a0_1 : ByteArray) (a0_2 : ByteArray) : Option (ByteArray × ByteArray × ByteArray) := some (a0_0, a0_1, a0_2)
theorem laws_toProp.calls (a0_0 : ByteArray) (a0_1 : ByteArray) (a0_2 : ByteArray) (r1 : ByteArray) (r2 : ByteArray) (r3 : ByteArray) (w : World) (h : laws_toProp.f a0_0 a0_1 a0_2 = some (r1, r2, r3)) :
 Calls Try.prog 22 #[.agg #[.string a0_0, .string a0_1, .string a0_2]] w fun e w' => e = .returned (.agg #[.string r1, .string r2, .string r3]) /\ Below w.heap.size w w' := by
 have hu37 := Try.underlying37
 have hu40 := Try.underlying40
 have HB := A_ (Below.refl w.heap.size w)
 have H : (some (a0_0, a0_1, a0_2)) = some (r1, r2, r3) := h
 clear h
 simp only [Option.some.injEq, Prod.mk.injEq] at H
 obtain ⟨rfl, rfl, rfl⟩ := H
 go_enter Try.func22, Try.ntmps22
 go_wp2_with (first | ((with_reducible refine gd_ (N := 1) rfl ?_); refine bx_ (N := 1) (cs := #[.string a0_0, .string a0_1, .string a0_2]) (t := 37) ?_; intro gb11 hg w2 hbox hb; have BK11 := A_ (hbox); have GW11 := A_ (ge_ hg bB_ : w.heap.size <= gb11); have GE11 := A_ (ge_ hg bB_ : w.heap.size <= gb11); replace HB := A_ (below_step bB_ hb); clear hb hbox hg) | ((with_reducible refine gd_ (N := 2) rfl ?_); refine bx_ (N := 2) (cs := #[.string (⟨#[]⟩ : ByteArray), .string (⟨#[]⟩ : ByteArray), .string (⟨#[]⟩ : ByteArray)]) (t := 40) ?_; intro gb12 hg w3 hbox hb; have BK12 := A_ (hbox); have GW12 := A_ (ge_ hg (bG_ GE11.out) : w.heap.size <= gb12); have GE12 := A_ (ge_ hg (bG_ GE11.out) : w.heap.size <= gb12); replace HB := A_ (below_step (bG_ GE11.out) hb); have NB136_137 := A_ (gm_ hg BK11.out); have NB137_136 := A_ (gn_ hg BK11.out); replace BK11 := A_ (bw_ BK11.out hb); clear hb hbox hg) | ((with_reducible refine gd_ (N := 3) rfl ?_); refine bx_ (N := 3) (cs := #[.string (⟨#[]⟩ : ByteArray), .string (⟨#[]⟩ : ByteArray), .string (⟨#[]⟩ : ByteArray)]) (t := 40) ?_; intro gb13 hg w4 hbox hb; have BK13 := A_ (hbox); have GW13 := A_ ((by rw [hg]; exact (below_size (by repeat (first | (with_reducible first | exact HB.out | apply below_alloc | apply pw_below_drewN | apply below_drew1 | refine below_set ?_ GE11.out | refine below_set ?_ GE12.out) | exact HB.out))) : w.heap.size <= gb13)); have GE13 := A_ ((by rw [hg]; exact (below_size (by repeat (first | (with_reducible first | exact HB.out | apply below_alloc | apply pw_below_drewN | apply below_drew1 | refine below_set ?_ GE11.out | refine below_set ?_ GE12.out) | exact HB.out))) : w.heap.size <= gb13)); replace HB := A_ (below_step (by repeat (first | (with_reducible first | exact HB.out | apply below_alloc | apply pw_below_drewN | apply below_drew1 | refine below_set ?_ GE11.out | refine below_set ?_ GE12.out) | exact HB.out)) hb); have NB136_138 := A_ (gm_ hg BK11.out); have NB138_136 := A_ (gn_ hg BK11.out); replace BK11 := A_ (bw_ BK11.out hb); have NB137_138 := A_ (gm_ hg BK12.out); have NB138_137 := A_ (gn_ hg BK12.out); replace BK12 := A_ (bw_ BK12.out hb); clear hb hbox hg; have hnb5 := NB136_137.out; have hnc5 := NB137_136.out; have hnb6 := NB136_138.out; have hnc6 := NB138_136.out; obtain ⟨hcz7_0, hcz7_1, hcz7_2, hfz7_0, hfz7_1, hfz7_2⟩ := cz3_ BK11.out; have hnb8 := NB138_137.out; have hnc8 := NB137_138.out; obtain ⟨hcz9_0, hcz9_1, hcz9_2, hfz9_0, hfz9_1, hfz9_2⟩ := cz3_ BK13.out; obtain ⟨hcz10_0, hcz10_1, hcz10_2, hfz10_0, hfz10_1, hfz10_2⟩ := cz3_ BK12.out))
 refine bodyPost_ret (results_cell_row rfl _ _ gb12 40 #[.string a0_0, .string a0_1, .string a0_2] (0, 0) _ rfl (by (with_reducible repeat (first | refine blk_drewN ?_ _ | refine blk_drew ?_ | refine blk_alloc ?_ _)); refine blk_put (cs := #[.string a0_0, .string a0_1, .string (⟨#[]⟩ : ByteArray)]) ?_ 2 _ rfl; (with_reducible repeat (first | refine blk_drewN ?_ _ | refine blk_drew ?_ | refine blk_alloc ?_ _)); refine blk_put (cs := #[.string a0_0, .string (⟨#[]⟩ : ByteArray), .string (⟨#[]⟩ : ByteArray)]) ?_ 1 _ rfl; (with_reducible repeat (first | refine blk_drewN ?_ _ | refine blk_drew ?_ | refine blk_alloc ?_ _)); refine blk_put (cs := #[.string (⟨#[]⟩ : ByteArray), .string (⟨#[]⟩ : ByteArray), .string (⟨#[]⟩ : ByteArray)]) ?_ 0 _ rfl; (with_reducible repeat (first | refine blk_drewN ?_ _ | refine blk_drew ?_ | refine blk_alloc ?_ _)); refine blk_far ?_ NB137_138.out _; (with_reducible repeat (first | refine blk_drewN ?_ _ | refine blk_drew ?_ | refine blk_alloc ?_ _)); refine blk_far ?_ NB137_138.out _; (with_reducible repeat (first | refine blk_drewN ?_ _ | refine blk_drew ?_ | refine blk_alloc ?_ _)); refine blk_far ?_ NB137_138.out _; (with_reducible repeat (first | refine blk_drewN ?_ _ | refine blk_drew ?_ | refine blk_alloc ?_ _)); exact BK12.out) Try.underlying40 rfl (by kernel_rfl)) rfl ?_
 exact ⟨rr_, by repeat (first | (with_reducible first | exact HB.out | apply below_alloc | apply pw_below_drewN | apply below_drew1 | refine below_set ?_ GE11.out | refine below_set ?_ GE12.out | refine below_set ?_ GE13.out) | exact HB.out)⟩
def laws_toSet.f (a0_0 : Bool) (a0_1 : ByteArray) (a0_2 : ByteArray) (a0_3 : ByteArray) : Option (Bool × ByteArray × ByteArray × ByteArray) := (laws_toProp.f a0_1 a0_2 a0_3).bind fun bt142 => (some (a0_0, bt142.1, bt142.2.1, bt142.2.2))
theorem laws_toSet.calls (a0_0 : Bool) (a0_1 : ByteArray) (a0_2 : ByteArray) (a0_3 : ByteArray) (r1 : Bool) (r2 : ByteArray) (r3 : ByteArray) (r4 : ByteArray) (w : World) (h : laws_toSet.f a0_0 a0_1 a0_2 a0_3 = some (r1, r2, r3, r4)) :
 Calls Try.prog 14 #[.agg #[.bool a0_0, .string a0_1, .string a0_2, .string a0_3]] w fun e w' => e = .returned (.agg #[.bool r1, .string r2, .string r3, .string r4]) /\ Below w.heap.size w w' := by
 have hu39 := Try.underlying39
 have hu42 := Try.underlying42
 have hu37 := Try.underlying37
 have hu40 := Try.underlying40
 have HB := A_ (Below.refl w.heap.size w)
 have H : ((laws_toProp.f a0_1 a0_2 a0_3).bind fun bt17 => (some (a0_0, bt17.1, bt17.2.1, bt17.2.2))) = some (r1, r2, r3, r4) := h
 clear h
 obtain ⟨⟨t17, t18, t19⟩, A2, H⟩ := bo_ H
 (try dsimp only at H)
 simp only [Option.some.injEq, Prod.mk.injEq] at H
 obtain ⟨rfl, rfl, rfl, rfl⟩ := H
 go_enter Try.func14, Try.ntmps14
 go_wp2_with (first | ((with_reducible refine gd_ (N := 1) rfl ?_); refine bx_ (N := 1) (cs := #[.bool a0_0, .string a0_1, .string a0_2, .string a0_3]) (t := 39) ?_; intro gb14 hg w3 hbox hb; have BK14 := A_ (hbox); have GW14 := A_ (ge_ hg bB_ : w.heap.size <= gb14); have GE14 := A_ (ge_ hg bB_ : w.heap.size <= gb14); replace HB := A_ (below_step bB_ hb); clear hb hbox hg) | ((with_reducible refine gd_ (N := 2) rfl ?_); refine bx_ (N := 2) (cs := #[.bool false, .string (⟨#[]⟩ : ByteArray), .string (⟨#[]⟩ : ByteArray), .string (⟨#[]⟩ : ByteArray)]) (t := 42) ?_; intro gb15 hg w4 hbox hb; have BK15 := A_ (hbox); have GW15 := A_ (ge_ hg (bG_ GE14.out) : w.heap.size <= gb15); have GE15 := A_ (ge_ hg (bG_ GE14.out) : w.heap.size <= gb15); replace HB := A_ (below_step (bG_ GE14.out) hb); have NB139_140 := A_ (gm_ hg BK14.out); have NB140_139 := A_ (gn_ hg BK14.out); replace BK14 := A_ (bw_ BK14.out hb); clear hb hbox hg) | ((with_reducible refine gd_ (N := 3) rfl ?_); refine bx_ (N := 3) (cs := #[.bool false, .string (⟨#[]⟩ : ByteArray), .string (⟨#[]⟩ : ByteArray), .string (⟨#[]⟩ : ByteArray)]) (t := 42) ?_; intro gb16 hg w5 hbox hb; have BK16 := A_ (hbox); have GW16 := A_ ((by rw [hg]; exact (below_size (by repeat (first | (with_reducible first | exact HB.out | apply below_alloc | apply pw_below_drewN | apply below_drew1 | refine below_set ?_ GE14.out | refine below_set ?_ GE15.out) | exact HB.out))) : w.heap.size <= gb16)); have GE16 := A_ ((by rw [hg]; exact (below_size (by repeat (first | (with_reducible first | exact HB.out | apply below_alloc | apply pw_below_drewN | apply below_drew1 | refine below_set ?_ GE14.out | refine below_set ?_ GE15.out) | exact HB.out))) : w.heap.size <= gb16)); replace HB := A_ (below_step (by repeat (first | (with_reducible first | exact HB.out | apply below_alloc | apply pw_below_drewN | apply below_drew1 | refine below_set ?_ GE14.out | refine below_set ?_ GE15.out) | exact HB.out)) hb); have NB139_141 := A_ (gm_ hg BK14.out); have NB141_139 := A_ (gn_ hg BK14.out); replace BK14 := A_ (bw_ BK14.out hb); have NB140_141 := A_ (gm_ hg BK15.out); have NB141_140 := A_ (gn_ hg BK15.out); replace BK15 := A_ (bw_ BK15.out hb); clear hb hbox hg; have hnb6 := NB139_140.out; have hnc6 := NB140_139.out; have hnb7 := NB139_141.out; have hnc7 := NB141_139.out; obtain ⟨hcz8_0, hcz8_1, hcz8_2, hcz8_3, hfz8_0, hfz8_1, hfz8_2, hfz8_3⟩ := cz4_ BK14.out; have hnb9 := NB141_140.out; have hnc9 := NB140_141.out; obtain ⟨hcz10_0, hcz10_1, hcz10_2, hcz10_3, hfz10_0, hfz10_1, hfz10_2, hfz10_3⟩ := cz4_ BK16.out) | ((with_reducible refine gc_ (f := 22) rfl ?_); refine gL_ (some 9) Try.func22 #[.agg #[.string a0_1, .string a0_2, .string a0_3]] ?_; (with_reducible refine (laws_toProp.calls a0_1 a0_2 a0_3 t17 t18 t19 _ A2.out).mono ?_); rintro e w11 ⟨rfl, hb⟩; refine ⟨_, rfl, ?_⟩; replace BK15 := A_ (blk_below (g := gb15) (o := .cells #[.bool false, .string (⟨#[]⟩ : ByteArray), .string (⟨#[]⟩ : ByteArray), .string (⟨#[]⟩ : ByteArray)] 42 (0, 0)) (by (with_reducible repeat (first | refine blk_drewN ?_ _ | refine blk_drew ?_ | refine blk_alloc ?_ _)); refine blk_far ?_ NB140_141.out _; (with_reducible repeat (first | refine blk_drewN ?_ _ | refine blk_drew ?_ | refine blk_alloc ?_ _)); exact BK15.out) hb); replace BK16 := A_ (blk_below (g := gb16) (o := .cells #[.bool a0_0, .string (⟨#[]⟩ : ByteArray), .string (⟨#[]⟩ : ByteArray), .string (⟨#[]⟩ : ByteArray)] 42 (0, 0)) (by (with_reducible repeat (first | refine blk_drewN ?_ _ | refine blk_drew ?_ | refine blk_alloc ?_ _)); with_reducible exact p4_0_ (vb_ BK16.out)) hb); replace HB := A_ (below_step (by repeat (first | (with_reducible first | exact HB.out | apply below_alloc | apply pw_below_drewN | apply below_drew1 | refine below_set ?_ GE14.out | refine below_set ?_ GE15.out | refine below_set ?_ GE16.out) | exact HB.out)) hb); clear hb; obtain ⟨hcz12_0, hcz12_1, hcz12_2, hcz12_3, hfz12_0, hfz12_1, hfz12_2, hfz12_3⟩ := cz4_ BK16.out; obtain ⟨hcz13_0, hcz13_1, hcz13_2, hcz13_3, hfz13_0, hfz13_1, hfz13_2, hfz13_3⟩ := cz4_ BK15.out))
 refine bodyPost_ret (results_cell_row rfl _ _ gb15 42 #[.bool a0_0, .string t17, .string t18, .string t19] (0, 0) _ rfl (by (with_reducible repeat (first | refine blk_drewN ?_ _ | refine blk_drew ?_ | refine blk_alloc ?_ _)); refine blk_put (cs := #[.bool a0_0, .string t17, .string t18, .string (⟨#[]⟩ : ByteArray)]) ?_ 3 _ rfl; (with_reducible repeat (first | refine blk_drewN ?_ _ | refine blk_drew ?_ | refine blk_alloc ?_ _)); refine blk_put (cs := #[.bool a0_0, .string t17, .string (⟨#[]⟩ : ByteArray), .string (⟨#[]⟩ : ByteArray)]) ?_ 2 _ rfl; (with_reducible repeat (first | refine blk_drewN ?_ _ | refine blk_drew ?_ | refine blk_alloc ?_ _)); refine blk_put (cs := #[.bool a0_0, .string (⟨#[]⟩ : ByteArray), .string (⟨#[]⟩ : ByteArray), .string (⟨#[]⟩ : ByteArray)]) ?_ 1 _ rfl; (with_reducible repeat (first | refine blk_drewN ?_ _ | refine blk_drew ?_ | refine blk_alloc ?_ _)); refine blk_put (cs := #[.bool false, .string (⟨#[]⟩ : ByteArray), .string (⟨#[]⟩ : ByteArray), .string (⟨#[]⟩ : ByteArray)]) ?_ 0 _ rfl; (with_reducible repeat (first | refine blk_drewN ?_ _ | refine blk_drew ?_ | refine blk_alloc ?_ _)); refine blk_far ?_ NB140_141.out _; (with_reducible repeat (first | refine blk_drewN ?_ _ | refine blk_drew ?_ | refine blk_alloc ?_ _)); refine blk_far ?_ NB140_141.out _; (with_reducible repeat (first | refine blk_drewN ?_ _ | refine blk_drew ?_ | refine blk_alloc ?_ _)); refine blk_far ?_ NB140_141.out _; (with_reducible repeat (first | refine blk_drewN ?_ _ | refine blk_drew ?_ | refine blk_alloc ?_ _)); exact BK15.out) Try.underlying42 rfl (by kernel_rfl)) rfl ?_
 exact ⟨rr_, by repeat (first | (with_reducible first | exact HB.out | apply below_alloc | apply pw_below_drewN | apply below_drew1 | refine below_set ?_ GE14.out | refine below_set ?_ GE15.out | refine below_set ?_ GE16.out) | exact HB.out)⟩
def laws_toSetS.l0 : Nat -> List (S39) -> List (S42) -> Int -> Option ((List (S42)))
 | 0, _, _, _ => none
 | k + 1, x0, x3, x4 => if x4 < (x0.length : Int) then (if 0 <= x4 then ((laws_toSet.f ((rd_T39 x0 x4).f0) ((rd_T39 x0 x4).f1.f0) ((rd_T39 x0 x4).f1.f1) ((rd_T39 x0 x4).f1.f2)).bind fun bt149 => (if x4 < (x3.length : Int) then (laws_toSetS.l0 k x0 (x3.set (x4 : Int).toNat (⟨bt149.1, (⟨bt149.2.1, bt149.2.2.1, bt149.2.2.2⟩ : S40)⟩ : S42)) (wrap64 (x4 + 1))) else (none))) else (none)) else (some x3)
def laws_toSetS.f (k : Nat) (l0 : List (S39)) : Option ((List (S42))) := if 0 <= (l0.length : Int) then (if ((l0.length : Int) : Int).toNat <= 5026338869833 then (laws_toSetS.l0 k l0 (List.replicate ((l0.length : Int) : Int).toNat z42) 0) else (none)) else (none)
theorem laws_toSetS.calls (k : Nat) (A0 : Option Addr) (c0 : Nat) (l0 : List (S39)) (r : List (S42)) (w : World) (hr0 : Kd.C k39 w A0 l0.length l0) (hc0 : l0.length <= c0) (h : laws_toSetS.f k l0 = some r) :
 Calls Try.prog 6 #[.slice A0 l0.length c0] w fun e w' => ∃ v0_ : Value, e = .returned (v0_) /\ Kd.R k42 42 w' w.heap.size (fun _ => True) v0_ r /\ Below w.heap.size w w' := by
 have hu39 := Try.underlying39
 have hu42 := Try.underlying42
 have HR0 := A_ hr0
 clear hr0 hc0
 have HB := A_ (Below.refl w.heap.size w)
 have H : (if 0 <= (l0.length : Int) then (if ((l0.length : Int) : Int).toNat <= 5026338869833 then (laws_toSetS.l0 k l0 (List.replicate ((l0.length : Int) : Int).toNat z42) 0) else (none)) else (none)) = some r := h
 clear h
 by_cases c2 : 0 <= (l0.length : Int)
 rotate_left
 . exact absurd H (by rw [if_neg c2]; simp)
 rw [if_pos c2] at H
 have c2b0 := eq_true c2
 have c2b1 := decide_eq_true c2
 clear c2
 by_cases c3 : ((l0.length : Int) : Int).toNat <= 5026338869833
 rotate_left
 . exact absurd H (by rw [if_neg c3]; simp)
 rw [if_pos c3] at H
 have c3b0 := eq_true c3
 have c3b1 := decide_eq_true c3
 clear c3
 obtain ⟨y15, hy15⟩ : ∃ y_ : List (S42), y_ = (List.replicate ((l0.length : Int) : Int).toNat z42) := ⟨_, rfl⟩
 replace H : (laws_toSetS.l0 k l0 y15 0) = some r := hy_ hy15 H
 have Ny15 := A_ hy15
 clear hy15
 have H' := A_ H
 clear H
 go_enter Try.func6, Try.ntmps6
 go_wp2_with (first | ((with_reducible refine gd_ (N := 7) rfl ?_); refine Kd.R_make k42 _ 42 rfl (N := 7) rfl 28 _ _ rfl (l0.length : Int) rfl rfl Try.underlying28 (.agg #[(.bool false), (.string ⟨#[]⟩), (.string ⟨#[]⟩), (.string ⟨#[]⟩)]) 56 info42 rfl (by decide) (by omega) z42 (ok := fun _ => True) (okp := fun _ => True) (k42_mkM _ _ _ z42 ) (fun _ hk => hk) trivial od_ (Nat.le_trans (Nat.mul_le_mul_right _ (od_ : (l0.length : Int).toNat <= 5026338869833)) (by omega)) (Below.refl _ _) (Nat.le_refl _) ?_; intro v21 w4 ho5 hb hg_ hnew_; clear hg_ hnew_; (first | rw [← Ny15.out] at ho5 | (simp only [Int.reduceToNat] at ho5; rw [← Ny15.out] at ho5)); have HO22 := A_ (Kd.R_lower ho5 (below_size bB_)); replace HB := A_ (below_step bB_ hb); clear hb ho5))
 go_loopg [4] k (fun kq v4 w' => ∃ (x3_1 : List (S42)) (x4_1 : Int), v4 = .int .i64 x4_1 /\ Aside0 (laws_toSetS.l0 kq l0 x3_1 x4_1 = some r) /\ Aside0 (kq <= k) /\ Aside0 (Kd.R k42 42 w' w.heap.size (fun _ => True) v21 x3_1) /\ Aside0 (Below w.heap.size w w'))
 case atStart => exact ⟨(y15), (0), rs_, H', ⟨Nat.le_refl _⟩, ⟨vR_ HO22.out⟩, ⟨bB_⟩⟩
 case round =>
  clear H'
  try clear c2
  try clear c2b0
  try clear c2b1
  try clear c3
  try clear c3b0
  try clear c3b1
  obtain ⟨x3_1, x4_1, rfl, HA, HK1, HO_3, HB⟩ := hrel
  cases gk with
  | zero => exact absurd HA.out (by simp [laws_toSetS.l0])
  | succ k1 =>
   have H := HA.out
   clear HA
   simp only [laws_toSetS.l0] at H
   by_cases c6 : x4_1 < (l0.length : Int)
   rotate_left
   . rw [if_neg c6] at H
     have c6b0 := decide_eq_false c6
     clear c6
     obtain rfl := si_ H
     go_wp2
     go_ret
     exact ⟨_, rr_, vR_ HO_3.out, bB_⟩
   rw [if_pos c6] at H
   have c6b0 := decide_eq_true c6
   clear c6
   by_cases c7 : 0 <= x4_1
   rotate_left
   . exact absurd H (by rw [if_neg c7]; simp)
   rw [if_pos c7] at H
   have c7b0 := decide_eq_true c7
   clear c7
   obtain ⟨⟨t17, t18, t19, t20⟩, A8, H⟩ := bo_ H
   (try dsimp only at H)
   by_cases c9 : x4_1 < (x3_1.length : Int)
   rotate_left
   . exact absurd H (by rw [if_neg c9]; simp)
   rw [if_pos c9] at H
   have c9b0 := decide_eq_true c9
   clear c9
   obtain ⟨y16, hy16⟩ : ∃ y_ : List (S42), y_ = (x3_1.set (x4_1 : Int).toNat (⟨t17, (⟨t18, t19, t20⟩ : S40)⟩ : S42)) := ⟨_, rfl⟩
   replace H : (laws_toSetS.l0 k1 l0 y16 (wrap64 (x4_1 + 1))) = some r := hy_ hy16 H
   have Ny16 := A_ hy16
   clear hy16
   have H' := A_ H
   clear H
   have p14 : 0 <= (x4_1 : Int) := od_
   have q14 : x4_1 < (l0.length : Int) := od_
   obtain ⟨ad14, e14, hx14_0, hx14_1, hx14_2, hx14_3⟩ := at_T39 HR0.out x4_1 p14 q14
   cases e14
   replace hx14_0 := bc_ HB.out hx14_0
   replace hx14_1 := bc_ HB.out hx14_1
   replace hx14_2 := bc_ HB.out hx14_2
   replace hx14_3 := bc_ HB.out hx14_3
   replace p14 := eq_true p14
   replace q14 := eq_true q14
   go_wp2_with (first | ((with_reducible refine gc_ (f := 14) rfl ?_); refine gL_ (some 20) Try.func14 #[.agg #[.bool ((rd_T39 l0 x4_1).f0), .string ((rd_T39 l0 x4_1).f1.f0), .string ((rd_T39 l0 x4_1).f1.f1), .string ((rd_T39 l0 x4_1).f1.f2)]] ?_; (with_reducible refine (laws_toSet.calls ((rd_T39 l0 x4_1).f0) ((rd_T39 l0 x4_1).f1.f0) ((rd_T39 l0 x4_1).f1.f1) ((rd_T39 l0 x4_1).f1.f2) t17 t18 t19 t20 _ A8.out).mono ?_); rintro e w11 ⟨rfl, hb⟩; refine ⟨_, rfl, ?_⟩; replace HO_3 := A_ (Kd.R_below (vR_ HO_3.out) hb); replace HB := A_ (below_step bB_ hb); clear hb; have p10 : 0 <= (x4_1 : Int) := od_; have q10 : (x4_1 : Int) < ((x3_1.length : Int) : Int) := od_; obtain ⟨go10, co10, eo10, gb10, gl10, cl10, HG10⟩ := Kd.R_form HO_3.out (by omega); (first | cases eo10 | (injection eo10 with ea_ en_ ec_; (first | subst ea_ | (injection ea_ with ea_; subst ea_)); subst ec_; clear en_)); have GB10 := A_ gb10; have GG10 := A_ HG10; clear gb10 gl10 HG10; obtain ⟨ce10, hcl10, hM10, hcc10, hfr10⟩ := Kd.R_elem HO_3.out z42 (x4_1 : Int) p10 q10; obtain rfl := k42_openM hM10; have hx10_0 : w11.cell? ⟨go10, (x4_1 : Int).toNat * 4, none⟩ = some (.bool ((rd_T42 x3_1 x4_1).f0)) := hcc10 0 _ rfl; have hx10_1 : w11.cell? ⟨go10, (x4_1 : Int).toNat * 4 + 1, none⟩ = some (.string ((rd_T42 x3_1 x4_1).f1.f0)) := hcc10 1 _ rfl; have hx10_2 : w11.cell? ⟨go10, (x4_1 : Int).toNat * 4 + 2, none⟩ = some (.string ((rd_T42 x3_1 x4_1).f1.f1)) := hcc10 2 _ rfl; have hx10_3 : w11.cell? ⟨go10, (x4_1 : Int).toNat * 4 + 3, none⟩ = some (.string ((rd_T42 x3_1 x4_1).f1.f2)) := hcc10 3 _ rfl; have hf10_0 : w11.frozen? ⟨go10, (x4_1 : Int).toNat * 4, none⟩ = false := hfr10 0; have hf10_1 : w11.frozen? ⟨go10, (x4_1 : Int).toNat * 4 + 1, none⟩ = false := hfr10 1; have hf10_2 : w11.frozen? ⟨go10, (x4_1 : Int).toNat * 4 + 2, none⟩ = false := hfr10 2; have hf10_3 : w11.frozen? ⟨go10, (x4_1 : Int).toNat * 4 + 3, none⟩ = false := hfr10 3; (try clear hcl10); (try clear hcc10); (try clear hfr10); (try clear hM10); replace p10 := eq_true p10; replace q10 := eq_true q10; have HX12 := A_ (show Kd.R k42 42 w11 w.heap.size (fun _ => True) (.slice (some ⟨go10, 0, none⟩) x3_1.length co10) x3_1 from (vR_ HO_3.out)); obtain ⟨ce12, hcl12, hM12, hcc12, hfr12⟩ := Kd.R_elem HX12.out z42 (x4_1 : Int) od_ (by have h_ : (x4_1 : Int) < ((x3_1.length : Int) : Int) := od_; first | exact h_ | (have e_ := (Kd.R_reads' HO_3.out).1; omega) | simpa using h_); obtain rfl := k42_openM hM12; have HP12 := Kd.R_seg HX12.out (x4_1 : Int) od_ (by have h_ : (x4_1 : Int) < ((x3_1.length : Int) : Int) := od_; first | exact h_ | (have e_ := (Kd.R_reads' HO_3.out).1; omega) | simpa using h_) (seg := [.bool t17, .string t18, .string t19, .string t20]) (j := 0) hcl12 hcc12 (show 4 <= 4 from by decide) (x' := (⟨t17, (⟨t18, t19, t20⟩ : S40)⟩ : S42)) (k42_mkM _ _ _ (⟨t17, (⟨t18, t19, t20⟩ : S40)⟩ : S42) ) (fun _ hk => hk); have hx12_0 := hcc12 0 _ rfl; (try simp only [show (k42).sz = 4 from rfl, Nat.mul_one, Nat.add_zero] at hx12_0); have hf12_0 := hfr12 0; (try simp only [show (k42).sz = 4 from rfl, Nat.mul_one, Nat.add_zero] at hf12_0); have hx12_1 := hcc12 1 _ rfl; (try simp only [show (k42).sz = 4 from rfl, Nat.mul_one, Nat.add_zero] at hx12_1); have hf12_1 := hfr12 1; (try simp only [show (k42).sz = 4 from rfl, Nat.mul_one, Nat.add_zero] at hf12_1); have hx12_2 := hcc12 2 _ rfl; (try simp only [show (k42).sz = 4 from rfl, Nat.mul_one, Nat.add_zero] at hx12_2); have hf12_2 := hfr12 2; (try simp only [show (k42).sz = 4 from rfl, Nat.mul_one, Nat.add_zero] at hf12_2); have hx12_3 := hcc12 3 _ rfl; (try simp only [show (k42).sz = 4 from rfl, Nat.mul_one, Nat.add_zero] at hx12_3); have hf12_3 := hfr12 3; (try simp only [show (k42).sz = 4 from rfl, Nat.mul_one, Nat.add_zero] at hf12_3); (try clear hcl12); (try clear hcc12); (try clear hfr12); (try clear hM12)) | ((with_reducible refine gate_store (t := 42) (p := 21) rfl ?_); refine store_event (t := 42) (p := 21) (v := ?vo_w13) (w1 := ((((w11.setCell ⟨go10, (x4_1 : Int).toNat * 4, none⟩ (.bool t17)).setCell ⟨go10, (x4_1 : Int).toNat * 4 + 1, none⟩ (.string t18)).setCell ⟨go10, (x4_1 : Int).toNat * 4 + 2, none⟩ (.string t19)).setCell ⟨go10, (x4_1 : Int).toNat * 4 + 3, none⟩ (.string t20))) ?hg ?ho ?hn ?hr ?_; (case ho => rfl); (case hg => rfl); (case hn => rfl); (case hr => first | (go_simp; done) | (go_simp; rfl)); intro w13 hw; have hg : w11.grownBy w13 (some go10) := (by rw [hw]; exact HP12.2); have hp_ : Kd.R k42 42 w13 w.heap.size (fun _ => True) (.slice (some ⟨go10, 0, none⟩) x3_1.length co10) y16 := (by rw [hw, Ny16.out]; exact HP12.1); clear HP12; replace HO_3 := A_ (hp_); replace HB := A_ ((by rw [hw]; exact below_set (below_set (below_set (below_set (HB.out) GB10.out) GB10.out) GB10.out) GB10.out : Below w.heap.size w w13)); clear hg hw hp_))
   go_roundg k1
   case measure => have := HK1.out; omega
   case rel => exact ⟨(y16), (wrap64 (x4_1 + 1)), rs_, H', ⟨by have := HK1.out; omega⟩, ⟨vR_ HO_3.out⟩, ⟨bB_⟩⟩
def laws_eqProp.f (a0_0 : ByteArray) (a0_1 : ByteArray) (a0_2 : ByteArray) (a1_0 : ByteArray) (a1_1 : ByteArray) (a1_2 : ByteArray) : Option (Bool) := if a0_0.toList = a1_0.toList then (if a0_1.toList = a1_1.toList then (if a0_2.toList = a1_2.toList then (some true) else (some false)) else (some false)) else (some false)
theorem laws_eqProp.calls (a0_0 : ByteArray) (a0_1 : ByteArray) (a0_2 : ByteArray) (a1_0 : ByteArray) (a1_1 : ByteArray) (a1_2 : ByteArray) (r : Bool) (w : World) (h : laws_eqProp.f a0_0 a0_1 a0_2 a1_0 a1_1 a1_2 = some r) :
 Calls Try.prog 23 #[.agg #[.string a0_0, .string a0_1, .string a0_2], .agg #[.string a1_0, .string a1_1, .string a1_2]] w fun e w' => e = .returned (.bool r) /\ Below w.heap.size w w' := by
 have hu40 := Try.underlying40
 have HB := A_ (Below.refl w.heap.size w)
 have H : (if a0_0.toList = a1_0.toList then (if a0_1.toList = a1_1.toList then (if a0_2.toList = a1_2.toList then (some true) else (some false)) else (some false)) else (some false)) = some r := h
 clear h
 by_cases c3 : a0_0.toList = a1_0.toList
 rotate_left
 . rw [if_neg c3] at H
   obtain ⟨c3b0, c3b1⟩ := eF_ c3
   obtain rfl := si_ H
   go_enter Try.func23, Try.ntmps23
   go_wp2_with (first | ((with_reducible refine gd_ (N := 2) rfl ?_); refine bx_ (N := 2) (cs := #[.string a0_0, .string a0_1, .string a0_2]) (t := 40) ?_; intro gb2 hg w21 hbox hb; have BK2 := A_ (hbox); have GW2 := A_ (ge_ hg bB_ : w.heap.size <= gb2); have GE2 := A_ (ge_ hg bB_ : w.heap.size <= gb2); replace HB := A_ (below_step bB_ hb); clear hb hbox hg) | ((with_reducible refine gd_ (N := 3) rfl ?_); refine bx_ (N := 3) (cs := #[.string a1_0, .string a1_1, .string a1_2]) (t := 40) ?_; intro gb26 hg w22 hbox hb; have BK26 := A_ (hbox); have GW26 := A_ (ge_ hg (bG_ GE2.out) : w.heap.size <= gb26); have GE26 := A_ (ge_ hg (bG_ GE2.out) : w.heap.size <= gb26); replace HB := A_ (below_step (bG_ GE2.out) hb); have NB188_189 := A_ (gm_ hg BK2.out); have NB189_188 := A_ (gn_ hg BK2.out); replace BK2 := A_ (bw_ BK2.out hb); clear hb hbox hg; have hnb23 := NB188_189.out; have hnc23 := NB189_188.out; obtain ⟨hcz24_0, hcz24_1, hcz24_2, hfz24_0, hfz24_1, hfz24_2⟩ := cz3_ BK2.out; obtain ⟨hcz25_0, hcz25_1, hcz25_2, hfz25_0, hfz25_1, hfz25_2⟩ := cz3_ BK26.out))
   go_ret
   exact ⟨rr_, by repeat (first | (with_reducible first | exact HB.out | apply below_alloc | apply pw_below_drewN | apply below_drew1 | refine below_set ?_ GE2.out | refine below_set ?_ GE26.out) | exact HB.out)⟩
 rw [if_pos c3] at H
 obtain ⟨c3b0, c3b1⟩ := eT_ c3
 clear c3
 by_cases c4 : a0_1.toList = a1_1.toList
 rotate_left
 . rw [if_neg c4] at H
   obtain ⟨c4b0, c4b1⟩ := eF_ c4
   obtain rfl := si_ H
   go_enter Try.func23, Try.ntmps23
   go_wp2_with (first | ((with_reducible refine gd_ (N := 2) rfl ?_); refine bx_ (N := 2) (cs := #[.string a0_0, .string a0_1, .string a0_2]) (t := 40) ?_; intro gb2 hg w16 hbox hb; have BK2 := A_ (hbox); have GW2 := A_ (ge_ hg bB_ : w.heap.size <= gb2); have GE2 := A_ (ge_ hg bB_ : w.heap.size <= gb2); replace HB := A_ (below_step bB_ hb); clear hb hbox hg) | ((with_reducible refine gd_ (N := 3) rfl ?_); refine bx_ (N := 3) (cs := #[.string a1_0, .string a1_1, .string a1_2]) (t := 40) ?_; intro gb26 hg w17 hbox hb; have BK26 := A_ (hbox); have GW26 := A_ (ge_ hg (bG_ GE2.out) : w.heap.size <= gb26); have GE26 := A_ (ge_ hg (bG_ GE2.out) : w.heap.size <= gb26); replace HB := A_ (below_step (bG_ GE2.out) hb); have NB188_189 := A_ (gm_ hg BK2.out); have NB189_188 := A_ (gn_ hg BK2.out); replace BK2 := A_ (bw_ BK2.out hb); clear hb hbox hg; have hnb18 := NB188_189.out; have hnc18 := NB189_188.out; obtain ⟨hcz19_0, hcz19_1, hcz19_2, hfz19_0, hfz19_1, hfz19_2⟩ := cz3_ BK2.out; obtain ⟨hcz20_0, hcz20_1, hcz20_2, hfz20_0, hfz20_1, hfz20_2⟩ := cz3_ BK26.out))
   go_ret
   exact ⟨rr_, by repeat (first | (with_reducible first | exact HB.out | apply below_alloc | apply pw_below_drewN | apply below_drew1 | refine below_set ?_ GE2.out | refine below_set ?_ GE26.out) | exact HB.out)⟩
 rw [if_pos c4] at H
 obtain ⟨c4b0, c4b1⟩ := eT_ c4
 clear c4
 by_cases c5 : a0_2.toList = a1_2.toList
 rotate_left
 . rw [if_neg c5] at H
   obtain ⟨c5b0, c5b1⟩ := eF_ c5
   obtain rfl := si_ H
   go_enter Try.func23, Try.ntmps23
   go_wp2_with (first | ((with_reducible refine gd_ (N := 2) rfl ?_); refine bx_ (N := 2) (cs := #[.string a0_0, .string a0_1, .string a0_2]) (t := 40) ?_; intro gb2 hg w11 hbox hb; have BK2 := A_ (hbox); have GW2 := A_ (ge_ hg bB_ : w.heap.size <= gb2); have GE2 := A_ (ge_ hg bB_ : w.heap.size <= gb2); replace HB := A_ (below_step bB_ hb); clear hb hbox hg) | ((with_reducible refine gd_ (N := 3) rfl ?_); refine bx_ (N := 3) (cs := #[.string a1_0, .string a1_1, .string a1_2]) (t := 40) ?_; intro gb26 hg w12 hbox hb; have BK26 := A_ (hbox); have GW26 := A_ (ge_ hg (bG_ GE2.out) : w.heap.size <= gb26); have GE26 := A_ (ge_ hg (bG_ GE2.out) : w.heap.size <= gb26); replace HB := A_ (below_step (bG_ GE2.out) hb); have NB188_189 := A_ (gm_ hg BK2.out); have NB189_188 := A_ (gn_ hg BK2.out); replace BK2 := A_ (bw_ BK2.out hb); clear hb hbox hg; have hnb13 := NB188_189.out; have hnc13 := NB189_188.out; obtain ⟨hcz14_0, hcz14_1, hcz14_2, hfz14_0, hfz14_1, hfz14_2⟩ := cz3_ BK2.out; obtain ⟨hcz15_0, hcz15_1, hcz15_2, hfz15_0, hfz15_1, hfz15_2⟩ := cz3_ BK26.out))
   go_ret
   exact ⟨rr_, by repeat (first | (with_reducible first | exact HB.out | apply below_alloc | apply pw_below_drewN | apply below_drew1 | refine below_set ?_ GE2.out | refine below_set ?_ GE26.out) | exact HB.out)⟩
 rw [if_pos c5] at H
 obtain ⟨c5b0, c5b1⟩ := eT_ c5
 clear c5
 obtain rfl := si_ H
 go_enter Try.func23, Try.ntmps23
 go_wp2_with (first | ((with_reducible refine gd_ (N := 2) rfl ?_); refine bx_ (N := 2) (cs := #[.string a0_0, .string a0_1, .string a0_2]) (t := 40) ?_; intro gb2 hg w6 hbox hb; have BK2 := A_ (hbox); have GW2 := A_ (ge_ hg bB_ : w.heap.size <= gb2); have GE2 := A_ (ge_ hg bB_ : w.heap.size <= gb2); replace HB := A_ (below_step bB_ hb); clear hb hbox hg) | ((with_reducible refine gd_ (N := 3) rfl ?_); refine bx_ (N := 3) (cs := #[.string a1_0, .string a1_1, .string a1_2]) (t := 40) ?_; intro gb26 hg w7 hbox hb; have BK26 := A_ (hbox); have GW26 := A_ (ge_ hg (bG_ GE2.out) : w.heap.size <= gb26); have GE26 := A_ (ge_ hg (bG_ GE2.out) : w.heap.size <= gb26); replace HB := A_ (below_step (bG_ GE2.out) hb); have NB188_189 := A_ (gm_ hg BK2.out); have NB189_188 := A_ (gn_ hg BK2.out); replace BK2 := A_ (bw_ BK2.out hb); clear hb hbox hg; have hnb8 := NB188_189.out; have hnc8 := NB189_188.out; obtain ⟨hcz9_0, hcz9_1, hcz9_2, hfz9_0, hfz9_1, hfz9_2⟩ := cz3_ BK2.out; obtain ⟨hcz10_0, hcz10_1, hcz10_2, hfz10_0, hfz10_1, hfz10_2⟩ := cz3_ BK26.out))
 go_ret
 exact ⟨rr_, by repeat (first | (with_reducible first | exact HB.out | apply below_alloc | apply pw_below_drewN | apply below_drew1 | refine below_set ?_ GE2.out | refine below_set ?_ GE26.out) | exact HB.out)⟩
def laws_eqSet.f (a0_0 : Bool) (a0_1 : ByteArray) (a0_2 : ByteArray) (a0_3 : ByteArray) (a1_0 : Bool) (a1_1 : ByteArray) (a1_2 : ByteArray) (a1_3 : ByteArray) : Option (Bool) := if (a0_0 != a1_0) = true then (some false) else ((laws_eqProp.f a0_1 a0_2 a0_3 a1_1 a1_2 a1_3).bind fun t192 => (if t192 = true then (some true) else (some false)))
theorem laws_eqSet.calls (a0_0 : Bool) (a0_1 : ByteArray) (a0_2 : ByteArray) (a0_3 : ByteArray) (a1_0 : Bool) (a1_1 : ByteArray) (a1_2 : ByteArray) (a1_3 : ByteArray) (r : Bool) (w : World) (h : laws_eqSet.f a0_0 a0_1 a0_2 a0_3 a1_0 a1_1 a1_2 a1_3 = some r) :
 Calls Try.prog 17 #[.agg #[.bool a0_0, .string a0_1, .string a0_2, .string a0_3], .agg #[.bool a1_0, .string a1_1, .string a1_2, .string a1_3]] w fun e w' => e = .returned (.bool r) /\ Below w.heap.size w w' := by
 have hu42 := Try.underlying42
 have hu40 := Try.underlying40
 have HB := A_ (Below.refl w.heap.size w)
 have H : (if (a0_0 != a1_0) = true then (some false) else ((laws_eqProp.f a0_1 a0_2 a0_3 a1_1 a1_2 a1_3).bind fun t24 => (if t24 = true then (some true) else (some false)))) = some r := h
 clear h
 by_cases c3 : (a0_0 != a1_0) = true
 . rw [if_pos c3] at H
   have c3b0 : (a0_0 != a1_0) = true := c3
   (try (have c3b1 : decide (a0_0 = a1_0) = false := by simpa using c3))
   (try (have c3b2 : (a0_0 == a1_0) = false := by simpa using c3))
   (try (have c3b3 : ¬ (a0_0 = a1_0) := by simpa using c3))
   clear c3
   obtain rfl := si_ H
   go_enter Try.func17, Try.ntmps17
   go_wp2_with (first | ((with_reducible refine gd_ (N := 2) rfl ?_); refine bx_ (N := 2) (cs := #[.bool a0_0, .string a0_1, .string a0_2, .string a0_3]) (t := 42) ?_; intro gb2 hg w4 hbox hb; have BK2 := A_ (hbox); have GW2 := A_ (ge_ hg bB_ : w.heap.size <= gb2); have GE2 := A_ (ge_ hg bB_ : w.heap.size <= gb2); replace HB := A_ (below_step bB_ hb); clear hb hbox hg) | ((with_reducible refine gd_ (N := 3) rfl ?_); refine bx_ (N := 3) (cs := #[.bool a1_0, .string a1_1, .string a1_2, .string a1_3]) (t := 42) ?_; intro gb23 hg w5 hbox hb; have BK23 := A_ (hbox); have GW23 := A_ (ge_ hg (bG_ GE2.out) : w.heap.size <= gb23); have GE23 := A_ (ge_ hg (bG_ GE2.out) : w.heap.size <= gb23); replace HB := A_ (below_step (bG_ GE2.out) hb); have NB190_191 := A_ (gm_ hg BK2.out); have NB191_190 := A_ (gn_ hg BK2.out); replace BK2 := A_ (bw_ BK2.out hb); clear hb hbox hg; have hnb6 := NB190_191.out; have hnc6 := NB191_190.out; obtain ⟨hcz7_0, hcz7_1, hcz7_2, hcz7_3, hfz7_0, hfz7_1, hfz7_2, hfz7_3⟩ := cz4_ BK2.out; obtain ⟨hcz8_0, hcz8_1, hcz8_2, hcz8_3, hfz8_0, hfz8_1, hfz8_2, hfz8_3⟩ := cz4_ BK23.out))
   go_ret
   exact ⟨rr_, by repeat (first | (with_reducible first | exact HB.out | apply below_alloc | apply pw_below_drewN | apply below_drew1 | refine below_set ?_ GE2.out | refine below_set ?_ GE23.out) | exact HB.out)⟩
 rw [if_neg c3] at H
 have c3b0 : (a0_0 != a1_0) = false := by simpa using c3
 (try (have c3b1 : decide (a0_0 = a1_0) = true := by simpa using c3))
 (try (have c3b2 : (a0_0 == a1_0) = true := by simpa using c3))
 clear c3
 obtain ⟨t24, A9, H⟩ := bo_ H
 (try dsimp only at H)
 by_cases c10 : t24 = true
 . subst c10
   rw [if_pos rfl] at H
   obtain rfl := si_ H
   go_enter Try.func17, Try.ntmps17
   go_wp2_with (first | ((with_reducible refine gd_ (N := 2) rfl ?_); refine bx_ (N := 2) (cs := #[.bool a0_0, .string a0_1, .string a0_2, .string a0_3]) (t := 42) ?_; intro gb2 hg w11 hbox hb; have BK2 := A_ (hbox); have GW2 := A_ (ge_ hg bB_ : w.heap.size <= gb2); have GE2 := A_ (ge_ hg bB_ : w.heap.size <= gb2); replace HB := A_ (below_step bB_ hb); clear hb hbox hg) | ((with_reducible refine gd_ (N := 3) rfl ?_); refine bx_ (N := 3) (cs := #[.bool a1_0, .string a1_1, .string a1_2, .string a1_3]) (t := 42) ?_; intro gb23 hg w12 hbox hb; have BK23 := A_ (hbox); have GW23 := A_ (ge_ hg (bG_ GE2.out) : w.heap.size <= gb23); have GE23 := A_ (ge_ hg (bG_ GE2.out) : w.heap.size <= gb23); replace HB := A_ (below_step (bG_ GE2.out) hb); have NB190_191 := A_ (gm_ hg BK2.out); have NB191_190 := A_ (gn_ hg BK2.out); replace BK2 := A_ (bw_ BK2.out hb); clear hb hbox hg; have hnb13 := NB190_191.out; have hnc13 := NB191_190.out; obtain ⟨hcz14_0, hcz14_1, hcz14_2, hcz14_3, hfz14_0, hfz14_1, hfz14_2, hfz14_3⟩ := cz4_ BK2.out; obtain ⟨hcz15_0, hcz15_1, hcz15_2, hcz15_3, hfz15_0, hfz15_1, hfz15_2, hfz15_3⟩ := cz4_ BK23.out) | ((with_reducible refine gc_ (f := 23) rfl ?_); refine gL_ (some 14) Try.func23 #[.agg #[.string a0_1, .string a0_2, .string a0_3], .agg #[.string a1_1, .string a1_2, .string a1_3]] ?_; (with_reducible refine (laws_eqProp.calls a0_1 a0_2 a0_3 a1_1 a1_2 a1_3 true _ A9.out).mono ?_); rintro e w16 ⟨rfl, hb⟩; refine ⟨_, rfl, ?_⟩; replace HB := A_ (below_step (by repeat (first | (with_reducible first | exact HB.out | apply below_alloc | apply pw_below_drewN | apply below_drew1 | refine below_set ?_ GE2.out | refine below_set ?_ GE23.out) | exact HB.out)) hb); clear hb))
   go_ret
   exact ⟨rr_, by repeat (first | (with_reducible first | exact HB.out | apply below_alloc | apply pw_below_drewN | apply below_drew1 | refine below_set ?_ GE2.out | refine below_set ?_ GE23.out) | exact HB.out)⟩
 . replace c10 := Bool.eq_false_iff.mpr c10
   subst c10
   rw [if_neg nf_] at H
   obtain rfl := si_ H
   go_enter Try.func17, Try.ntmps17
   go_wp2_with (first | ((with_reducible refine gd_ (N := 2) rfl ?_); refine bx_ (N := 2) (cs := #[.bool a0_0, .string a0_1, .string a0_2, .string a0_3]) (t := 42) ?_; intro gb2 hg w17 hbox hb; have BK2 := A_ (hbox); have GW2 := A_ (ge_ hg bB_ : w.heap.size <= gb2); have GE2 := A_ (ge_ hg bB_ : w.heap.size <= gb2); replace HB := A_ (below_step bB_ hb); clear hb hbox hg) | ((with_reducible refine gd_ (N := 3) rfl ?_); refine bx_ (N := 3) (cs := #[.bool a1_0, .string a1_1, .string a1_2, .string a1_3]) (t := 42) ?_; intro gb23 hg w18 hbox hb; have BK23 := A_ (hbox); have GW23 := A_ (ge_ hg (bG_ GE2.out) : w.heap.size <= gb23); have GE23 := A_ (ge_ hg (bG_ GE2.out) : w.heap.size <= gb23); replace HB := A_ (below_step (bG_ GE2.out) hb); have NB190_191 := A_ (gm_ hg BK2.out); have NB191_190 := A_ (gn_ hg BK2.out); replace BK2 := A_ (bw_ BK2.out hb); clear hb hbox hg; have hnb19 := NB190_191.out; have hnc19 := NB191_190.out; obtain ⟨hcz20_0, hcz20_1, hcz20_2, hcz20_3, hfz20_0, hfz20_1, hfz20_2, hfz20_3⟩ := cz4_ BK2.out; obtain ⟨hcz21_0, hcz21_1, hcz21_2, hcz21_3, hfz21_0, hfz21_1, hfz21_2, hfz21_3⟩ := cz4_ BK23.out) | ((with_reducible refine gc_ (f := 23) rfl ?_); refine gL_ (some 14) Try.func23 #[.agg #[.string a0_1, .string a0_2, .string a0_3], .agg #[.string a1_1, .string a1_2, .string a1_3]] ?_; (with_reducible refine (laws_eqProp.calls a0_1 a0_2 a0_3 a1_1 a1_2 a1_3 false _ A9.out).mono ?_); rintro e w22 ⟨rfl, hb⟩; refine ⟨_, rfl, ?_⟩; replace HB := A_ (below_step (by repeat (first | (with_reducible first | exact HB.out | apply below_alloc | apply pw_below_drewN | apply below_drew1 | refine below_set ?_ GE2.out | refine below_set ?_ GE23.out) | exact HB.out)) hb); clear hb))
   go_ret
   exact ⟨rr_, by repeat (first | (with_reducible first | exact HB.out | apply below_alloc | apply pw_below_drewN | apply below_drew1 | refine below_set ?_ GE2.out | refine below_set ?_ GE23.out) | exact HB.out)⟩
end Go.Proofs.Ytegkokdncakadaa.Q
