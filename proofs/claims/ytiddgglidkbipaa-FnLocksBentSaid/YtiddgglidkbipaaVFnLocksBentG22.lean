-- PRINTED by print.py (a twelfth state) out of the translation. Not trusted: Lean checks it.
import Derived.Test.YtiddgglidkbipaaProg
import Derived.Below
import Derived.Deep.Draws
import Derived.Deep.AppendLies
import Derived.Maps.AppendAt
import Derived.OwnWalk
import Derived.Laws.BytesArg
import Derived.Laws.MakeOwn
import Derived.Laws.OwnMore
import Derived.Deep.OwnRows
import Derived.Tactics
import Derived.Lib.ConvBytes
import Derived.Laws.Slices
import Derived.WalkKit
import Derived.KernelRfl
import Derived.RowKit3
import Derived.Deep.LoopGhost
import Derived.Deep.QuietTactic
import Derived.BigQuiet
import Derived.WideLaws
import Derived.Deep.DeepCutAuto
import Derived.Deep.CutBlock
import Derived.Deep.RegionHeld3
import Derived.Laws.Rows
import Derived.Lib.AppendStr
import Derived.ArgAppend
import Derived.Laws.IdiomCopy
import Derived.OrdersHeld
import Derived.Laws.BitsLemmas
import Derived.RowKit
import Derived.Test.YtiddgglidkbipaaVFnLocksBentG12
import Derived.Test.YtiddgglidkbipaaVFnLocksBentWWords
import Derived.Test.YtiddgglidkbipaaVFnLocksBentWLast
import Derived.Test.YtiddgglidkbipaaVFnLocksBentWTab
import Derived.Test.YtiddgglidkbipaaVFnLocksBentWFour
import Derived.Test.YtiddgglidkbipaaVFnLocksBentWQPut
import Derived.Test.YtiddgglidkbipaaVFnLocksBentWApart
import Derived.Test.YtiddgglidkbipaaVFnLocksBentWArr
import Derived.Test.YtiddgglidkbipaaVFnLocksBentWZeros
import Derived.Test.YtiddgglidkbipaaVFnLocksBentWFoot
import Derived.Test.YtiddgglidkbipaaVFnLocksBentWKept
import Derived.Test.YtiddgglidkbipaaVFnLocksBentWShare
import Derived.Test.YtiddgglidkbipaaVFnLocksBentWN
import Derived.Test.YtiddgglidkbipaaVFnLocksBentWFootNe
import Derived.Test.YtiddgglidkbipaaVFnLocksBentWAt
import Derived.Test.YtiddgglidkbipaaVFnLocksBentWEqStruct
import Derived.Test.YtiddgglidkbipaaVFnLocksBentWRepsOne
import Derived.Test.YtiddgglidkbipaaVFnLocksBentWInv
import Derived.Test.YtiddgglidkbipaaVFnLocksBentWInvWords
import Derived.Test.YtiddgglidkbipaaVFnLocksBentWGuard
import Derived.Test.YtiddgglidkbipaaVFnLocksBentWNEv
import Derived.Test.YtiddgglidkbipaaVFnLocksBentWMore
namespace Go.Proofs.Ytiddgglidkbipaa.Q
open Go.RowKit Go.Proofs.YtiddgglidkbipaaW.PrintWords Go.Proofs.YtiddgglidkbipaaW.PrintLast Go.Proofs.YtiddgglidkbipaaW.PrintMore
attribute [local go_sem] max2_int min2_int max_two min_two max_three min_three max_four min_four   -- for this text's walks alone
set_option linter.unusedVariables false
set_option linter.unusedSimpArgs false
def errW : Option Int → Value
  | none => .nilIface
  | some c => .iface 0 (.int .i64 c)
theorem errW_none : errW none = .nilIface := rfl
theorem errW_some (c : Int) : errW (some c) = .iface 0 (.int .i64 c) := rfl
theorem info3 : (Try.prog.info? 3).map (fun i => (i.zero, i.size, i.bytes)) = some (some (.int .i64 0), 1, 8) := by kernel_rfl
theorem info9 : (Try.prog.info? 9).map (fun i => (i.zero, i.size, i.bytes)) = some (some (.string ⟨#[]⟩), 1, 16) := by kernel_rfl
theorem info28 : (Try.prog.info? 28).map (fun i => (i.zero, i.size, i.bytes)) = some (some (.agg #[(.int .i64 0), (.slice none 0 0), (.bool false), (.bool false), (.int .i64 0)]), 5, 48) := by kernel_rfl
-- the values' own types
structure S24 where
  f0 : Int
  f1 : (List ByteArray)
  f2 : Bool
  f3 : Bool
  f4 : Int
def z24 : S24 := ⟨(0 : Int), ([] : List ByteArray), false, false, (0 : Int)⟩
structure S28 where
  f0 : Int
  f1 : (List ByteArray)
  f2 : Bool
  f3 : Bool
  f4 : Int
def z28 : S28 := ⟨(0 : Int), ([] : List ByteArray), false, false, (0 : Int)⟩
def k28 : Kd S28 := Kd.iso (Kd.pair (Kd.int .i64) (Kd.pair (Kd.slice 9 Kd.string) (Kd.pair Kd.bool (Kd.pair Kd.bool (Kd.int .i64))))) (fun x : S28 => (x.f0, x.f1, x.f2, x.f3, x.f4))
theorem k28_open {w : World} {x : S28} {cs : List Value} (h : k28.K w x cs) : ∃ A1 c1, cs = [.int .i64 x.f0, .slice A1 x.f1.length c1, .bool x.f2, .bool x.f3, .int .i64 x.f4] ∧ x.f1.length ≤ c1 ∧ Kd.string.C w A1 x.f1.length x.f1 := by
  obtain ⟨_, _, rfl, rfl, ⟨_, _, rfl, ⟨A1, c1, rfl, l1, g1⟩, ⟨_, _, rfl, rfl, ⟨_, _, rfl, rfl, rfl⟩⟩⟩⟩ := h
  exact ⟨A1, c1, rfl, l1, g1⟩
theorem k28_openM {w : World} {base : Nat} {ok : Nat → Prop} {x : S28} {cs : List Value} (h : k28.M w base ok x cs) : ∃ v1, cs = [.int .i64 x.f0, v1, .bool x.f2, .bool x.f3, .int .i64 x.f4] ∧ Kd.string.R 9 w base ok v1 x.f1 := by
  obtain ⟨_, _, rfl, rfl, ⟨_, _, rfl, ⟨v1, rfl, g1⟩, ⟨_, _, rfl, rfl, ⟨_, _, rfl, rfl, rfl⟩⟩⟩⟩ := h
  exact ⟨v1, rfl, g1⟩
theorem k28_mk (w : World) (x : S28) {A1 : Option Addr} {c1 : Nat} (l1 : x.f1.length ≤ c1) (g1 : Kd.string.C w A1 x.f1.length x.f1) : k28.K w x [.int .i64 x.f0, .slice A1 x.f1.length c1, .bool x.f2, .bool x.f3, .int .i64 x.f4] := ⟨[.int .i64 x.f0], [.slice A1 x.f1.length c1, .bool x.f2, .bool x.f3, .int .i64 x.f4], rfl, rfl, ⟨[.slice A1 x.f1.length c1], [.bool x.f2, .bool x.f3, .int .i64 x.f4], rfl, ⟨A1, c1, rfl, l1, g1⟩, ⟨[.bool x.f2], [.bool x.f3, .int .i64 x.f4], rfl, rfl, ⟨[.bool x.f3], [.int .i64 x.f4], rfl, rfl, rfl⟩⟩⟩⟩
theorem k28_mkM (w : World) (base : Nat) (ok : Nat → Prop) (x : S28) {v1 : Value} (g1 : Kd.string.R 9 w base ok v1 x.f1) : k28.M w base ok x [.int .i64 x.f0, v1, .bool x.f2, .bool x.f3, .int .i64 x.f4] := ⟨[.int .i64 x.f0], [v1, .bool x.f2, .bool x.f3, .int .i64 x.f4], rfl, rfl, ⟨[v1], [.bool x.f2, .bool x.f3, .int .i64 x.f4], rfl, ⟨v1, rfl, g1⟩, ⟨[.bool x.f2], [.bool x.f3, .int .i64 x.f4], rfl, rfl, ⟨[.bool x.f3], [.int .i64 x.f4], rfl, rfl, rfl⟩⟩⟩⟩
theorem k28_openF {W : World} {ok : Nat → Prop} {x : S28} {cs : List Value} (h : Kd.FK k28 W ok x cs) : ∃ A1 c1, cs = [.int .i64 x.f0, .slice A1 x.f1.length c1, .bool x.f2, .bool x.f3, .int .i64 x.f4] ∧ x.f1.length ≤ c1 ∧ Kd.F Kd.string W ok A1 x.f1.length x.f1 := by
  obtain ⟨A1, c1, rfl, l1, _⟩ := k28_open (Kd.FK_now h)
  exact ⟨A1, c1, rfl, l1, (fun W' hW => by obtain ⟨A1_, c1_, he, l1_, g1_⟩ := k28_open (h W' hW); injection (Option.some.inj (show some (Value.slice A1 x.f1.length c1) = some (Value.slice A1_ x.f1.length c1_) from congrArg (fun l => l[1]?) he)) with ha_ _ _; rw [ha_]; exact g1_)⟩
theorem k28_mkF (W : World) (ok : Nat → Prop) (x : S28) {A1 : Option Addr} {c1 : Nat} (l1 : x.f1.length ≤ c1) (g1 : Kd.F Kd.string W ok A1 x.f1.length x.f1) : Kd.FK k28 W ok x [.int .i64 x.f0, .slice A1 x.f1.length c1, .bool x.f2, .bool x.f3, .int .i64 x.f4] := fun W2 hW => k28_mk W2 x l1 (g1 W2 hW)
def rd_T28 (xs : List S28) (i : Int) : S28 := xs.getD i.toNat z28
theorem at_T28 {w : World} {A : Option Addr} {n : Nat} {xs : List S28} (h : Kd.C k28 w A n xs) (i : Int) (h0 : 0 ≤ i) (h1 : i < n) : ∃ ad A1 c1, A = some ad ∧ w.cell? (ad.add (i.toNat * 5)) = some (.int .i64 (rd_T28 xs i).f0) ∧ w.cell? ⟨(ad.add (i.toNat * 5)).block, (ad.add (i.toNat * 5)).off + 1, none⟩ = some (.slice A1 (rd_T28 xs i).f1.length c1) ∧ w.cell? ⟨(ad.add (i.toNat * 5)).block, (ad.add (i.toNat * 5)).off + 2, none⟩ = some (.bool (rd_T28 xs i).f2) ∧ w.cell? ⟨(ad.add (i.toNat * 5)).block, (ad.add (i.toNat * 5)).off + 3, none⟩ = some (.bool (rd_T28 xs i).f3) ∧ w.cell? ⟨(ad.add (i.toNat * 5)).block, (ad.add (i.toNat * 5)).off + 4, none⟩ = some (.int .i64 (rd_T28 xs i).f4) ∧ (rd_T28 xs i).f1.length ≤ c1 ∧ Kd.string.C w A1 (rd_T28 xs i).f1.length (rd_T28 xs i).f1 := by
  obtain ⟨ad, c, e, _, hK, hc0⟩ := Kd.C_get h z28 i h0 h1
  have hc : ∀ j u, c[j]? = some u → w.cell? (ad.add (i.toNat * 5 + j)) = some u := hc0
  obtain ⟨A1, c1, rfl, l1, g1⟩ := k28_open hK
  exact ⟨ad, A1, c1, e, hc 0 _ rfl, by rw [← add_field _ _ 1 (by omega)]; exact hc 1 _ rfl, by rw [← add_field _ _ 2 (by omega)]; exact hc 2 _ rfl, by rw [← add_field _ _ 3 (by omega)]; exact hc 3 _ rfl, by rw [← add_field _ _ 4 (by omega)]; exact hc 4 _ rfl, l1, g1⟩
def spec_l13Copy.l0 : Nat → List (S28) → List (S28) → Int → Option ((List (S28)))
 | 0, _, _, _ => none
 | k + 1, x0, x3, x4 => if x4 < (x0.length : Int) then (if 0 ≤ x4 then ((some (([] : List ByteArray) : List ByteArray)).bind fun y319 => (if y319.length + ((rd_T28 x0 x4).f1).length < 8796093022208 then (if x3.length < 2932031007402 then (spec_l13Copy.l0 k x0 (x3 ++ [(⟨(rd_T28 x0 x4).f0, (y319 ++ ((rd_T28 x0 x4).f1)), (rd_T28 x0 x4).f2, (rd_T28 x0 x4).f3, (rd_T28 x0 x4).f4⟩ : S28)]) (wrap64 (x4 + 1))) else (none)) else (none))) else (none)) else (some x3)
def spec_l13Copy.f (k : Nat) (l0 : List (S28)) : Option ((List (S28))) := spec_l13Copy.l0 k l0 (([] : List (S28))) 0
set_option maxHeartbeats 8000000 in
set_option maxRecDepth 100000 in
theorem spec_l13Copy.calls (k : Nat) (A0 : Option Addr) (c0 : Nat) (l0 : List (S28)) (r : List (S28)) (w : World) (hr0 : Kd.C k28 w A0 l0.length l0) (hc0 : l0.length ≤ c0) (h : spec_l13Copy.f k l0 = some r) :
 Calls Try.prog 68 #[.slice A0 l0.length c0] w fun e w' => ∃ v0_ : Value, e = .returned (v0_) ∧ Kd.S k28 28 w' w.heap.size (fun _ => True) v0_ r ∧ Below w.heap.size w w' := by
 have hu28 := Try.underlying28
 have HR0 := Aside0.mk hr0
 have HC0 := Aside0.mk hc0
 clear hr0 hc0
 have HB := A_ (Below.refl w.heap.size w)
 have H : (spec_l13Copy.l0 k l0 (([] : List (S28))) 0) = some r := h
 clear h
 obtain ⟨y314, hy314⟩ : ∃ y_ : List (S28), y_ = (([] : List (S28))) := ⟨_, rfl⟩
 replace H : (spec_l13Copy.l0 k l0 y314 0) = some r := hy_ hy314 H
 have Ny314 := Aside0.mk hy314
 clear hy314
 have H' := Aside0.mk H
 clear H
 go_enter Try.func68, Try.ntmps68
 go_wp2_with (first | ((with_reducible refine gate_dst (N := 6) rfl ?_); refine Kd.S_lit k28 _ 28 ?hg (N := 6) ?hd (xs := ([] : List (S28))) (inner := []) (ok := fun _ => True) (okp := fun _ => True) ?hr ?hp (fun _ hk => hk) trivial (Below.refl _ _) (Nat.le_refl _) (by simp) ?_; (case hd => rfl); (case hg => rfl); (case hr => first | (go_simp; done) | (go_simp; rfl)); (case hp => exact (Reps.none _ _)); intro v315 w2 ho3 hb hg_ hnew_; clear hg_ hnew_; (first | rw [← Ny314.out] at ho3 | (simp only [Int.reduceToNat] at ho3; rw [← Ny314.out] at ho3)); have HO316 := A_ (Kd.S_lower ho3 (below_size bB_)); replace HB := A_ (below_step bB_ hb); clear hb ho3))
 go_loopg [3, 4] k (fun kq v3 v4 w' => ∃ (x3_1 : List (S28)) (x4_1 : Int), v4 = .int .i64 x4_1 ∧ Aside0 (spec_l13Copy.l0 kq l0 x3_1 x4_1 = some r) ∧ Aside0 (kq ≤ k) ∧ Aside0 (Kd.S k28 28 w' w.heap.size (fun _ => True) v3 x3_1) ∧ Aside0 (Below w.heap.size w w'))
 case atStart => exact ⟨(y314), (0), rs_, H', ⟨Nat.le_refl _⟩, ⟨vS_ HO316.out⟩, ⟨bB_⟩⟩
 case round =>
  clear H'
  try clear p2
  obtain ⟨x3_1, x4_1, rfl, HA, HK1, HO_3, HB⟩ := hrel
  cases gk with
  | zero => exact absurd HA.out (by simp [spec_l13Copy.l0])
  | succ k1 =>
   have H := HA.out
   clear HA
   simp only [spec_l13Copy.l0] at H
   by_cases c4 : x4_1 < (l0.length : Int)
   rotate_left
   · rw [if_neg c4] at H
     have c4b0 : decide (x4_1 < (l0.length : Int)) = false := decide_eq_false c4
     clear c4
     obtain rfl := Option.some.inj H
     go_wp2
     go_ret
     exact ⟨_, rr_, by (with_reducible repeat (first | apply Kd.S_alloc | apply Kd.S_drewN | apply Kd.S_drew)); exact HO_3.out, bB_⟩
   rw [if_pos c4] at H
   have c4b0 : decide (x4_1 < (l0.length : Int)) = true := decide_eq_true c4
   clear c4
   by_cases c5 : 0 ≤ x4_1
   rotate_left
   · exact absurd H (by rw [if_neg c5]; simp)
   rw [if_pos c5] at H
   have c5b0 : decide (0 ≤ x4_1) = true := decide_eq_true c5
   clear c5
   obtain ⟨y319, hy319⟩ : ∃ y_ : List ByteArray, y_ = (([] : List ByteArray)) := ⟨_, rfl⟩
   replace H : (if y319.length + ((rd_T28 l0 x4_1).f1).length < 8796093022208 then (if x3_1.length < 2932031007402 then (spec_l13Copy.l0 k1 l0 (x3_1 ++ [(⟨(rd_T28 l0 x4_1).f0, (y319 ++ ((rd_T28 l0 x4_1).f1)), (rd_T28 l0 x4_1).f2, (rd_T28 l0 x4_1).f3, (rd_T28 l0 x4_1).f4⟩ : S28)]) (wrap64 (x4_1 + 1))) else (none)) else (none)) = some r := hy_ hy319 H
   have Ny319 := Aside0.mk hy319
   clear hy319
   by_cases c6 : y319.length + ((rd_T28 l0 x4_1).f1).length < 8796093022208
   rotate_left
   · exact absurd H (by rw [if_neg c6]; simp)
   rw [if_pos c6] at H
   have LMc6 := Aside0.mk c6
   clear c6
   obtain ⟨y323, hy323⟩ : ∃ y_ : List ByteArray, y_ = (y319 ++ ((rd_T28 l0 x4_1).f1)) := ⟨_, rfl⟩
   replace H : (if x3_1.length < 2932031007402 then (spec_l13Copy.l0 k1 l0 (x3_1 ++ [(⟨(rd_T28 l0 x4_1).f0, y323, (rd_T28 l0 x4_1).f2, (rd_T28 l0 x4_1).f3, (rd_T28 l0 x4_1).f4⟩ : S28)]) (wrap64 (x4_1 + 1))) else (none)) = some r := hy_ hy323 H
   have Ny323 := Aside0.mk hy323
   clear hy323
   by_cases c7 : x3_1.length < 2932031007402
   rotate_left
   · exact absurd H (by rw [if_neg c7]; simp)
   rw [if_pos c7] at H
   have LMc7 := Aside0.mk c7
   clear c7
   obtain ⟨y326, hy326⟩ : ∃ y_ : List (S28), y_ = (x3_1 ++ [(⟨(rd_T28 l0 x4_1).f0, y323, (rd_T28 l0 x4_1).f2, (rd_T28 l0 x4_1).f3, (rd_T28 l0 x4_1).f4⟩ : S28)]) := ⟨_, rfl⟩
   replace H : (spec_l13Copy.l0 k1 l0 y326 (wrap64 (x4_1 + 1))) = some r := hy_ hy326 H
   have Ny326 := Aside0.mk hy326
   clear hy326
   have H' := Aside0.mk H
   clear H
   have p317 : 0 ≤ (x4_1 : Int) := of_decide_eq_true as_
   have q317 : x4_1 < (l0.length : Int) := of_decide_eq_true as_
   obtain ⟨ad317, A317_1, c317_1, e317, hx317_0, hx317_1, hx317_2, hx317_3, hx317_4, hl317_1, hi317_1⟩ := at_T28 HR0.out x4_1 p317 q317
   cases e317
   replace hx317_0 := bc_ HB.out hx317_0
   replace hx317_1 := bc_ HB.out hx317_1
   replace hx317_2 := bc_ HB.out hx317_2
   replace hx317_3 := bc_ HB.out hx317_3
   replace hx317_4 := bc_ HB.out hx317_4
   have HR317_1 := Aside0.mk hi317_1
   have HC317_1 := Aside0.mk hl317_1
   clear hi317_1 hl317_1
   replace p317 := eq_true p317
   replace q317 := eq_true q317
   go_wp2_with (first | ((with_reducible refine gate_dst (N := 5) rfl ?_); refine bx_ (N := 5) (cs := #[.int .i64 0, .slice none 0 0, .bool false, .bool false, .int .i64 0]) (t := 28) ?_; intro gb318 hg w8 hbox hb; replace HO_3 := A_ (Kd.S_below (Kd.S_elderB (vS_ HO_3.out) gb318 (Nat.le_of_eq hg.symm)) hb); have BK318 := A_ (hbox); have GW318 := A_ (ge_ hg bB_ : w.heap.size ≤ gb318); have GE318 := A_ (ge_ hg bB_ : w.heap.size ≤ gb318); replace HB := A_ (below_step bB_ hb); clear hb hbox hg; obtain ⟨hcz9_0, hcz9_1, hcz9_2, hcz9_3, hcz9_4, hfz9_0, hfz9_1, hfz9_2, hfz9_3, hfz9_4⟩ := cz5_ BK318.out) | ((with_reducible refine gate_dst (N := 17) rfl ?_); refine Kd.R_lit Kd.string _ 9 ?hg (N := 17) ?hd (xs := ([] : List ByteArray)) (inner := []) (ok := fun _ => True) (okp := fun _ => True) ?hr ?hp (fun _ hk => hk) trivial (Below.refl _ _) (Nat.le_refl _) (by simp) ?_; (case hd => rfl); (case hg => rfl); (case hr => first | (go_simp; done) | (go_simp; rfl)); (case hp => exact (Reps.none _ _)); intro v320 w10 ho11 hb hg_ hnew_; clear hg_ hnew_; (first | rw [← Ny319.out] at ho11 | (simp only [Int.reduceToNat] at ho11; rw [← Ny319.out] at ho11)); replace HO_3 := A_ (Kd.S_elder' (by (with_reducible repeat (first | apply Kd.S_alloc | apply Kd.S_drewN | apply Kd.S_drew)); exact (Kd.S_mono (Kd.S_far (p := ⟨gb318, 4, none⟩) (Kd.S_far (p := ⟨gb318, 3, none⟩) (Kd.S_far (p := ⟨gb318, 2, none⟩) (Kd.S_far (p := ⟨gb318, 1, none⟩) (Kd.S_far (p := ⟨gb318, 0, none⟩) (Kd.S_mono HO_3.out (fun k_ hk => (⟨hk, hk.2⟩ : _ ∧ k_ ≠ gb318))) (fun _ hk => hk.2) (.int .i64 ((rd_T28 l0 x4_1).f0))) (fun _ hk => hk.2) (.slice A317_1 ((rd_T28 l0 x4_1).f1).length c317_1)) (fun _ hk => hk.2) (.bool ((rd_T28 l0 x4_1).f2))) (fun _ hk => hk.2) (.bool ((rd_T28 l0 x4_1).f3))) (fun _ hk => hk.2) (.int .i64 ((rd_T28 l0 x4_1).f4))) (fun _ h_ => h_.1))) (kb_ ho11) hb); have HO321 := A_ (Kd.R_lower ho11 (below_size (bG_ GE318.out))); replace BK318 := A_ (blk_below (g := gb318) (o := .cells #[.int .i64 ((rd_T28 l0 x4_1).f0), .slice A317_1 ((rd_T28 l0 x4_1).f1).length c317_1, .bool ((rd_T28 l0 x4_1).f2), .bool ((rd_T28 l0 x4_1).f3), .int .i64 ((rd_T28 l0 x4_1).f4)] 28 (0, 0)) (by (with_reducible repeat (first | refine blk_drewN ?_ _ | refine blk_drew ?_ | refine blk_alloc ?_ _)); refine blk_put (cs := #[.int .i64 ((rd_T28 l0 x4_1).f0), .slice A317_1 ((rd_T28 l0 x4_1).f1).length c317_1, .bool ((rd_T28 l0 x4_1).f2), .bool ((rd_T28 l0 x4_1).f3), .int .i64 0]) ?_ 4 _ rfl; (with_reducible repeat (first | refine blk_drewN ?_ _ | refine blk_drew ?_ | refine blk_alloc ?_ _)); refine blk_put (cs := #[.int .i64 ((rd_T28 l0 x4_1).f0), .slice A317_1 ((rd_T28 l0 x4_1).f1).length c317_1, .bool ((rd_T28 l0 x4_1).f2), .bool false, .int .i64 0]) ?_ 3 _ rfl; (with_reducible repeat (first | refine blk_drewN ?_ _ | refine blk_drew ?_ | refine blk_alloc ?_ _)); refine blk_put (cs := #[.int .i64 ((rd_T28 l0 x4_1).f0), .slice A317_1 ((rd_T28 l0 x4_1).f1).length c317_1, .bool false, .bool false, .int .i64 0]) ?_ 2 _ rfl; (with_reducible repeat (first | refine blk_drewN ?_ _ | refine blk_drew ?_ | refine blk_alloc ?_ _)); refine blk_put (cs := #[.int .i64 ((rd_T28 l0 x4_1).f0), .slice none 0 0, .bool false, .bool false, .int .i64 0]) ?_ 1 _ rfl; (with_reducible repeat (first | refine blk_drewN ?_ _ | refine blk_drew ?_ | refine blk_alloc ?_ _)); refine blk_put (cs := #[.int .i64 0, .slice none 0 0, .bool false, .bool false, .int .i64 0]) ?_ 0 _ rfl; (with_reducible repeat (first | refine blk_drewN ?_ _ | refine blk_drew ?_ | refine blk_alloc ?_ _)); exact BK318.out) hb); replace HB := A_ (below_step (bG_ GE318.out) hb); clear hb ho11; have p322 : 0 ≤ (x4_1 : Int) := of_decide_eq_true as_; have q322 : x4_1 < (l0.length : Int) := of_decide_eq_true as_; obtain ⟨ad322, A322_1, c322_1, e322, hx322_0, hx322_1, hx322_2, hx322_3, hx322_4, hl322_1, hi322_1⟩ := at_T28 HR0.out x4_1 p322 q322; obtain rfl : ad317 = ad322 := (by injection e322); replace hx322_0 := bc_ HB.out hx322_0; replace hx322_1 := bc_ HB.out hx322_1; replace hx322_2 := bc_ HB.out hx322_2; replace hx322_3 := bc_ HB.out hx322_3; replace hx322_4 := bc_ HB.out hx322_4; have HR322_1 := Aside0.mk hi322_1; have HC322_1 := Aside0.mk hl322_1; clear hi322_1 hl322_1; replace p322 := eq_true p322; replace q322 := eq_true q322) | ((with_reducible refine gate_builtin (b := .append) (xs := #[.tmp 17, .tmp 22]) rfl ?_); at_builtin; refine Kd.R_append_rows Kd.string (w0 := w) w.heap.size rfl (.tmp 17) (.tmp 22) 22 9 (.string ⟨#[]⟩) 16 rfl Try.underlying22 info9 rfl (by decide) (by omega) v320 y319 ((rd_T28 l0 x4_1).f1) _ _ _ (fun _ => True) (fun _ => False) rfl rfl ?aO ?aR (fun _ _ h => h) (fun _ h => h.elim) ?aF ?aB ?aS ?aL ?_; (case aR => exact cC_ (Kd.C_below HR322_1.out HB.out)); (case aB => exact (bG_ GE318.out)); (case aF => exact (fun _ _ => trivial)); (case aO => exact (vR_ HO321.out)); (case aS => exact (below_size (bG_ GE318.out))); (case aL => have := LMc6.out; omega); intro v324 w12 ho hb hg hat; rw [← Ny323.out] at ho; replace HO_3 := A_ (Kd.S_after (ok := (fun k_ => k_ ≠ gb318)) (by (with_reducible repeat (first | apply Kd.S_alloc | apply Kd.S_drewN | apply Kd.S_drew)); exact Kd.S_mono HO_3.out (fun _ hk => ⟨hk.1.2, hk.2⟩)) hg hat); replace BK318 := A_ (blk_grown (g := gb318) (o := .cells #[.int .i64 ((rd_T28 l0 x4_1).f0), .slice A317_1 ((rd_T28 l0 x4_1).f1).length c317_1, .bool ((rd_T28 l0 x4_1).f2), .bool ((rd_T28 l0 x4_1).f3), .int .i64 ((rd_T28 l0 x4_1).f4)] 28 (0, 0)) (vb_ BK318.out) hg (Kd.R_ne HO321.out BK318.out (by decide))); replace HB := A_ (hb); have HO325 := A_ (ho); clear HO321; clear ho hb hg hat; obtain ⟨Ao13, co13, eo13⟩ := Kd.R_slice HO325.out; subst eo13; obtain ⟨hcz14_0, hcz14_1, hcz14_2, hcz14_3, hcz14_4, hfz14_0, hfz14_1, hfz14_2, hfz14_3, hfz14_4⟩ := cz5_ BK318.out) | ((with_reducible refine gate_store (t := 22) (p := 24) rfl ?_); refine store_event (t := 22) (p := 24) (v := ?vo_w15) (w1 := (w12.setCell ⟨gb318, 1, none⟩ (.slice Ao13 y323.length co13))) ?hg ?ho ?hn ?hr ?_; (case ho => rfl); (case hg => rfl); (case hn => rfl); (case hr => first | (go_simp; done) | (go_simp; rfl)); intro w15 hw; have n0_ : Aside0 (Kd.S k28 28 w15 w.heap.size (fun k_ => some k_ ≠ (.slice Ao13 y323.length co13 : Value).ownBlock ∧ k_ ≠ gb318) u3 x3_1) := ⟨(by rw [hw]; exact (by (with_reducible repeat (first | apply Kd.S_alloc | apply Kd.S_drewN | apply Kd.S_drew)); exact Kd.S_mono (Kd.S_far (p := ⟨gb318, 1, none⟩) (Kd.S_mono HO_3.out (fun k_ hk => (⟨hk, hk.1⟩ : _ ∧ k_ ≠ gb318))) (fun _ hk => hk.2) (.slice Ao13 y323.length co13)) (fun _ hk => ⟨hk.1.2, hk.1.1⟩)))⟩; have n1_ : Aside0 (Kd.R Kd.string 9 w15 w.heap.size (fun _ => True) (.slice Ao13 y323.length co13) y323) := ⟨(by rw [hw]; exact (by (with_reducible repeat (first | apply Kd.R_alloc | apply Kd.R_drewN | apply Kd.R_drew)); exact Kd.R_mono (Kd.R_far (p := ⟨gb318, 1, none⟩) (Kd.R_types HO325.out BK318.out (by decide)) (fun _ hk => hk.2) (.slice Ao13 y323.length co13)) (fun _ hk => trivial)))⟩; have n2_ : Aside0 (w15.heap[gb318]? = some (.cells #[.int .i64 ((rd_T28 l0 x4_1).f0), .slice Ao13 y323.length co13, .bool ((rd_T28 l0 x4_1).f2), .bool ((rd_T28 l0 x4_1).f3), .int .i64 ((rd_T28 l0 x4_1).f4)] 28 (0, 0))) := ⟨(by rw [hw]; exact (by (with_reducible repeat (first | refine blk_drewN ?_ _ | refine blk_drew ?_ | refine blk_alloc ?_ _)); refine blk_put (cs := #[.int .i64 ((rd_T28 l0 x4_1).f0), .slice A317_1 ((rd_T28 l0 x4_1).f1).length c317_1, .bool ((rd_T28 l0 x4_1).f2), .bool ((rd_T28 l0 x4_1).f3), .int .i64 ((rd_T28 l0 x4_1).f4)]) ?_ 1 _ rfl; (with_reducible repeat (first | refine blk_drewN ?_ _ | refine blk_drew ?_ | refine blk_alloc ?_ _)); exact BK318.out))⟩; have n3_ : Aside0 (Below w.heap.size w w15) := ⟨(by rw [hw]; exact (bG_ GE318.out))⟩; clear hw; clear HO_3; clear HO325; clear BK318; clear HB; have HO_3 := n0_; have HO325 := n1_; have BK318 := n2_; have HB := n3_; clear n0_ n1_ n2_ n3_; obtain ⟨hcz16_0, hcz16_1, hcz16_2, hcz16_3, hcz16_4, hfz16_0, hfz16_1, hfz16_2, hfz16_3, hfz16_4⟩ := cz5_ BK318.out) | ((with_reducible refine gate_builtin (b := .append) (xs := #[.tmp 25, .tmp 27]) rfl ?_); at_builtin; refine Kd.S_append k28 (w0 := w) w.heap.size rfl (.tmp 25) (.tmp 27) 39 28 (.agg #[(.int .i64 0), (.slice none 0 0), (.bool false), (.bool false), (.int .i64 0)]) 48 rfl Try.underlying39 info28 rfl (by decide) (by omega) u3 x3_1 (⟨(rd_T28 l0 x4_1).f0, y323, (rd_T28 l0 x4_1).f2, (rd_T28 l0 x4_1).f3, (rd_T28 l0 x4_1).f4⟩ : S28) [.int .i64 ((rd_T28 l0 x4_1).f0), .slice Ao13 y323.length co13, .bool ((rd_T28 l0 x4_1).f2), .bool ((rd_T28 l0 x4_1).f3), .int .i64 ((rd_T28 l0 x4_1).f4)] (fun k_ => k_ ≠ gb318) (fun k_ => some k_ = (.slice Ao13 y323.length co13 : Value).ownBlock) rfl rfl ?aP (fun k_ hk_ => ((Kd.R_mono (ok' := fun k_ => ((fun k_ => k_ ≠ gb318)) k_ ∧ some k_ ≠ (u3 : Value).ownBlock) (Kd.R_types (Kd.R_apart' (HO325.out) (Kd.S_typed HO_3.out) (by decide)) BK318.out (by decide)) (fun k_ hk => ⟨hk.2, hk.1.2⟩))).1 k_ hk_.symm) ?aF ?aO ?aB ?aS ?aL ?_; (case aP => exact k28_mkM _ _ _ (⟨(rd_T28 l0 x4_1).f0, y323, (rd_T28 l0 x4_1).f2, (rd_T28 l0 x4_1).f3, (rd_T28 l0 x4_1).f4⟩ : S28) (Kd.R_mono (Kd.R_tight rfl (Kd.R_mono (ok' := fun k_ => ((fun k_ => k_ ≠ gb318)) k_ ∧ some k_ ≠ (u3 : Value).ownBlock) (Kd.R_types (Kd.R_apart' (HO325.out) (Kd.S_typed HO_3.out) (by decide)) BK318.out (by decide)) (fun k_ hk => ⟨hk.2, hk.1.2⟩))) (fun _ h_ => h_))); (case aB => exact (bG_ GE318.out)); (case aF => exact (fun k_ hk => Kd.freshB (g := gb318) (o := .cells #[.int .i64 ((rd_T28 l0 x4_1).f0), .slice Ao13 y323.length co13, .bool ((rd_T28 l0 x4_1).f2), .bool ((rd_T28 l0 x4_1).f3), .int .i64 ((rd_T28 l0 x4_1).f4)] 28 (0, 0)) (vb_ BK318.out) k_ hk)); (case aO => exact (by (with_reducible repeat (first | apply Kd.S_alloc | apply Kd.S_drewN | apply Kd.S_drew)); exact Kd.S_mono HO_3.out (fun k_ hk => ⟨hk.2, fun e_ => hk.1 e_⟩))); (case aS => exact (below_size (bG_ GE318.out))); (case aL => have := LMc7.out; omega); intro v327 w17 ho hb hg hat; rw [← Ny326.out] at ho; replace BK318 := A_ (blk_grown (g := gb318) (o := .cells #[.int .i64 ((rd_T28 l0 x4_1).f0), .slice Ao13 y323.length co13, .bool ((rd_T28 l0 x4_1).f2), .bool ((rd_T28 l0 x4_1).f3), .int .i64 ((rd_T28 l0 x4_1).f4)] 28 (0, 0)) (vb_ BK318.out) hg (Kd.S_away HO_3.out (fun _ hk => hk.2))); replace HB := A_ (hb); have HO328 := A_ (ho); clear HO_3 HO325; clear ho hb hg hat))
   go_roundg k1
   case measure => have := HK1.out; omega
   case rel => exact ⟨(y326), (wrap64 (x4_1 + 1)), rs_, H', ⟨by have := HK1.out; omega⟩, ⟨by (with_reducible repeat (first | apply Kd.S_alloc | apply Kd.S_drewN | apply Kd.S_drew)); exact Kd.S_mono HO328.out (fun _ hk => trivial)⟩, ⟨bG_ GE318.out⟩⟩
def spec_DropLock.l0 : Nat → Int → List (S28) → List (S28) → Bool → Int → Option ((List (S28)) × Bool)
 | 0, _, _, _, _, _ => none
 | k + 1, x1, x6, x7, x8, x9 => if x9 < (x7.length : Int) then (if x8 = true then (if 0 ≤ x9 then (if x6.length < 2932031007402 then (spec_DropLock.l0 k x1 (x6 ++ [(⟨(rd_T28 x7 x9).f0, (rd_T28 x7 x9).f1, (rd_T28 x7 x9).f2, (rd_T28 x7 x9).f3, (rd_T28 x7 x9).f4⟩ : S28)]) x7 x8 (wrap64 (x9 + 1))) else (none)) else (none)) else (if 0 ≤ x9 then (if ((rd_T28 x7 x9).f0) = x1 then (spec_DropLock.l0 k x1 x6 x7 true (wrap64 (x9 + 1))) else (if x6.length < 2932031007402 then (spec_DropLock.l0 k x1 (x6 ++ [(⟨(rd_T28 x7 x9).f0, (rd_T28 x7 x9).f1, (rd_T28 x7 x9).f2, (rd_T28 x7 x9).f3, (rd_T28 x7 x9).f4⟩ : S28)]) x7 x8 (wrap64 (x9 + 1))) else (none))) else (none))) else (some (x6, x8))
def spec_DropLock.f (k : Nat) (l0 : List (S28)) (a1 : Int) : Option ((List (S28)) × Bool) := (spec_l13Copy.f k l0).bind fun t332 => (spec_DropLock.l0 k a1 (([] : List (S28))) t332 false 0)
set_option maxHeartbeats 8000000 in
set_option maxRecDepth 100000 in
theorem spec_DropLock.calls (k : Nat) (A0 : Option Addr) (c0 : Nat) (l0 : List (S28)) (a1 : Int) (r1 : List (S28)) (r2 : Bool) (w : World) (hr0 : Kd.C k28 w A0 l0.length l0) (hc0 : l0.length ≤ c0) (h : spec_DropLock.f k l0 a1 = some (r1, r2)) :
 Calls Try.prog 32 #[.slice A0 l0.length c0, .int .i64 a1] w fun e w' => ∃ v0_ : Value, e = .returned (.tuple #[v0_, .bool r2]) ∧ Kd.N k28 28 w' w.heap.size (fun k_ => (w.heap.size ≤ k_)) v0_ r1 ∧ Below w.heap.size w w' := by
 have hu28 := Try.underlying28
 have HR0 := Aside0.mk hr0
 have HC0 := Aside0.mk hc0
 clear hr0 hc0
 have HB := A_ (Below.refl w.heap.size w)
 have H : ((spec_l13Copy.f k l0).bind fun t332 => (spec_DropLock.l0 k a1 (([] : List (S28))) t332 false 0)) = some (r1, r2) := h
 clear h
 obtain ⟨y329, hy329⟩ : ∃ y_ : List (S28), y_ = (([] : List (S28))) := ⟨_, rfl⟩
 replace H : ((spec_l13Copy.f k l0).bind fun t332 => (spec_DropLock.l0 k a1 y329 t332 false 0)) = some (r1, r2) := hy_ hy329 H
 have Ny329 := Aside0.mk hy329
 clear hy329
 obtain ⟨t332, A3, H⟩ := bo_ H
 (try dsimp only at H)
 have H' := Aside0.mk H
 clear H
 go_enter Try.func32, Try.ntmps32
 go_wp2_with (first | ((with_reducible refine gate_dst (N := 10) rfl ?_); refine Kd.N_lit k28 _ 28 ?hg (N' := 10) ?hd (xs := ([] : List (S28))) (inner := []) (ok := (fun k_ => (w.heap.size ≤ k_))) (okp := (fun k_ => (w.heap.size ≤ k_))) ?hr ?hp (fun _ hk => hk) ((show ∀ k_, w.heap.size ≤ k_ → (fun k_ => (w.heap.size ≤ k_)) k_ from fun k_ hk => (Nat.le_trans (below_size bB_) hk)) _ (Nat.le_refl _)) (Below.refl _ _) (Nat.le_refl _) (by simp) ?_; (case hd => rfl); (case hg => rfl); (case hr => first | (go_simp; done) | (go_simp; rfl)); (case hp => exact (Reps.none _ _)); intro v330 w4 ho5 hb hg_ hnew_; clear hg_ hnew_; (first | rw [← Ny329.out] at ho5 | (simp only [Int.reduceToNat] at ho5; rw [← Ny329.out] at ho5)); have HO331 := A_ (Kd.N_lower ho5 (below_size bB_)); replace HB := A_ (below_step bB_ hb); clear hb ho5) | ((with_reducible refine gate_callee (f := 68) rfl ?_); refine gL_ (some 12) Try.func68 #[.slice A0 l0.length c0] ?_; (with_reducible refine (spec_l13Copy.calls k _ _ l0 t332 _ ?s1 ?s2 A3.out).mono ?_); (case s1 => exact cC_ (Kd.C_below HR0.out HB.out)); (case s2 => exact HC0.out); rintro e w6 ⟨v333, rfl, ho0, hb⟩; refine ⟨_, rfl, ?_⟩; have HO334 := A_ (Kd.N_lower (Kd.N_mono (ok' := fun k_ => (w.heap.size ≤ k_) ∧ some k_ ≠ (v330 : Value).ownBlock) (Kd.S_N (Kd.S_bound ho0)) (fun k_ hk_ => ⟨(Nat.le_trans (below_size bB_) hk_.2.1), (Kd.fresh' (Kd.N_lt (vN_ HO331.out)) k_ hk_.2.1)⟩)) (below_size bB_)); replace HO331 := A_ (Kd.N_elder' (vN_ HO331.out) (kb_ ho0) hb); replace HB := A_ (below_step bB_ hb); (try clear hb); (try clear ho0)))
 go_loopg [6, 8, 9] k (fun kq v6 v8 v9 w' => ∃ (x6_1 : List (S28)) (x8_1 : Bool) (x9_1 : Int), v8 = .bool x8_1 ∧ v9 = .int .i64 x9_1 ∧ Aside0 (spec_DropLock.l0 kq a1 x6_1 t332 x8_1 x9_1 = some (r1, r2)) ∧ Aside0 (kq ≤ k) ∧ Aside0 (Kd.N k28 28 w' w.heap.size (fun k_ => (w.heap.size ≤ k_) ∧ some k_ ≠ (v333 : Value).ownBlock) v6 x6_1) ∧ Aside0 (Kd.N k28 28 w' w.heap.size (fun k_ => (w.heap.size ≤ k_) ∧ some k_ ≠ (v6 : Value).ownBlock) v333 t332) ∧ Aside0 (Below w.heap.size w w'))
 case atStart => exact ⟨(y329), (false), (0), rs_, rs_, H', ⟨Nat.le_refl _⟩, ⟨vN_ HO331.out⟩, ⟨vN_ HO334.out⟩, ⟨bB_⟩⟩
 case round =>
  clear H'
  try clear p2
  try clear c3
  try clear c6
  obtain ⟨x6_1, x8_1, x9_1, rfl, rfl, HA, HK1, HO_6, HO_7, HB⟩ := hrel
  cases gk with
  | zero => exact absurd HA.out (by simp [spec_DropLock.l0])
  | succ k1 =>
   have H := HA.out
   clear HA
   simp only [spec_DropLock.l0] at H
   by_cases c7 : x9_1 < (t332.length : Int)
   rotate_left
   · rw [if_neg c7] at H
     have c7b0 : decide (x9_1 < (t332.length : Int)) = false := decide_eq_false c7
     clear c7
     simp only [Option.some.injEq, Prod.mk.injEq] at H
     obtain ⟨rfl, rfl⟩ := H
     obtain ⟨Ao19, co19, eo19⟩ := Kd.N_slice HO_7.out
     subst eo19
     go_wp2
     go_ret2
     exact ⟨_, rr_, by (with_reducible repeat (first | apply Kd.N_alloc | apply Kd.N_drewN | apply Kd.N_drew)); exact Kd.N_mono HO_6.out (fun _ hk => hk.1), bB_⟩
   rw [if_pos c7] at H
   have c7b0 : decide (x9_1 < (t332.length : Int)) = true := decide_eq_true c7
   clear c7
   by_cases c8 : x8_1 = true
   · subst c8
     rw [if_pos rfl] at H
     by_cases c9 : 0 ≤ x9_1
     rotate_left
     · exact absurd H (by rw [if_neg c9]; simp)
     rw [if_pos c9] at H
     have c9b0 : decide (0 ≤ x9_1) = true := decide_eq_true c9
     clear c9
     by_cases c10 : x6_1.length < 2932031007402
     rotate_left
     · exact absurd H (by rw [if_neg c10]; simp)
     rw [if_pos c10] at H
     have LMc10 := Aside0.mk c10
     clear c10
     obtain ⟨y336, hy336⟩ : ∃ y_ : List (S28), y_ = (x6_1 ++ [(⟨(rd_T28 t332 x9_1).f0, (rd_T28 t332 x9_1).f1, (rd_T28 t332 x9_1).f2, (rd_T28 t332 x9_1).f3, (rd_T28 t332 x9_1).f4⟩ : S28)]) := ⟨_, rfl⟩
     replace H : (spec_DropLock.l0 k1 a1 y336 t332 true (wrap64 (x9_1 + 1))) = some (r1, r2) := hy_ hy336 H
     have Ny336 := Aside0.mk hy336
     clear hy336
     have H' := Aside0.mk H
     clear H
     obtain ⟨Ao11, co11, eo11⟩ := Kd.N_slice HO_7.out
     subst eo11
     have p335 : 0 ≤ (x9_1 : Int) := of_decide_eq_true as_
     have q335 : x9_1 < (t332.length : Int) := of_decide_eq_true as_
     obtain ⟨ad335, A335_1, c335_1, e335, hx335_0, hx335_1, hx335_2, hx335_3, hx335_4, hl335_1, hi335_1⟩ := at_T28 (Kd.N_reads' HO_7.out).2.2 x9_1 p335 q335
     cases e335
     obtain ⟨ce335, hce335, hMe335, hcc335⟩ := Kd.N_get HO_7.out z28 x9_1 p335 (by first | exact q335 | exact of_decide_eq_true as_ | (have e_ := (Kd.N_reads' HO_7.out).1; omega))
     obtain ⟨ua335_1, uc335_1, rfl, ul335_1, ge335_1⟩ := k28_openF hMe335
     have hv335_1 := hcc335 1 _ rfl
     rw [add_field _ _ 1 (by omega)] at hv335_1
     replace hv335_1 := Option.some.inj (hv335_1.symm.trans hx335_1)
     injection hv335_1 with hva_ hvn_ hvc_
     rw [hva_] at ge335_1
     rw [hvc_] at ul335_1
     have HL335_1 := A_ (show Kd.V Kd.string 9 _ w.heap.size _ _ ((rd_T28 t332 x9_1).f1) from Kd.V_mk ul335_1 ge335_1)
     clear hva_ hvn_ hvc_ ge335_1 ul335_1
     clear hcc335 hce335
     have HR335_1 := Aside0.mk hi335_1
     have HC335_1 := Aside0.mk hl335_1
     clear hi335_1 hl335_1
     replace p335 := eq_true p335
     replace q335 := eq_true q335
     go_wp2_with (first | ((with_reducible refine gate_builtin (b := .append) (xs := #[.tmp 30, .tmp 35]) rfl ?_); at_builtin; refine Kd.N_append k28 (w0 := w) w.heap.size rfl (.tmp 30) (.tmp 35) 39 28 (.agg #[(.int .i64 0), (.slice none 0 0), (.bool false), (.bool false), (.int .i64 0)]) 48 rfl Try.underlying39 info28 rfl (by decide) (by omega) u6 x6_1 (⟨(rd_T28 t332 x9_1).f0, (rd_T28 t332 x9_1).f1, (rd_T28 t332 x9_1).f2, (rd_T28 t332 x9_1).f3, (rd_T28 t332 x9_1).f4⟩ : S28) [.int .i64 ((rd_T28 t332 x9_1).f0), .slice A335_1 ((rd_T28 t332 x9_1).f1).length c335_1, .bool ((rd_T28 t332 x9_1).f2), .bool ((rd_T28 t332 x9_1).f3), .int .i64 ((rd_T28 t332 x9_1).f4)] (fun k_ => (w.heap.size ≤ k_) ∧ some k_ ≠ (.slice (some ad335) t332.length co11 : Value).ownBlock) (fun k_ => ((fun k_ => (w.heap.size ≤ k_) ∧ some k_ ≠ (.slice (some ad335) t332.length co11 : Value).ownBlock)) k_ ∧ some k_ ≠ (u6 : Value).ownBlock) rfl rfl ?aP (fun _ hk => hk) ?aF ?aO ?aB ?aS ?aL ?_; (case aP => exact (k28_mkF _ _ (⟨(rd_T28 t332 x9_1).f0, (rd_T28 t332 x9_1).f1, (rd_T28 t332 x9_1).f2, (rd_T28 t332 x9_1).f3, (rd_T28 t332 x9_1).f4⟩ : S28) (Kd.V_reads' (Kd.V_mono (ok' := (fun k_ => ((fun k_ => (w.heap.size ≤ k_) ∧ some k_ ≠ (.slice (some ad335) t332.length co11 : Value).ownBlock)) k_ ∧ some k_ ≠ (u6 : Value).ownBlock)) (HL335_1.out) (fun k_ hk => ⟨⟨hk.1.1, hk.2⟩, hk.1.2⟩))).2.1 (Kd.V_F (Kd.V_mono (ok' := (fun k_ => ((fun k_ => (w.heap.size ≤ k_) ∧ some k_ ≠ (.slice (some ad335) t332.length co11 : Value).ownBlock)) k_ ∧ some k_ ≠ (u6 : Value).ownBlock)) (HL335_1.out) (fun k_ hk => ⟨⟨hk.1.1, hk.2⟩, hk.1.2⟩))))); (case aB => exact bB_); (case aF => exact (fun k_ hk => ⟨(Nat.le_trans (below_size bB_) hk), Kd.fresh' (Kd.N_lt (vN_ HO_7.out)) k_ hk⟩)); (case aO => exact (vN_ HO_6.out)); (case aS => exact (below_size bB_)); (case aL => have := LMc10.out; omega); intro v337 w12 ho hb hg hat; rw [← Ny336.out] at ho; replace HO_7 := A_ (Kd.N_afterv (ok := (fun k_ => (w.heap.size ≤ k_))) (vN_ HO_7.out) hg hat); replace HL335_1 := A_ (Kd.V_afterv (ok := (fun k_ => (w.heap.size ≤ k_) ∧ some k_ ≠ (.slice (some ad335) t332.length co11 : Value).ownBlock)) (by (with_reducible repeat (first | apply Kd.V_alloc | apply Kd.V_drewN | apply Kd.V_drew)); exact Kd.V_mono HL335_1.out (fun _ hk => ⟨⟨hk.1.1, hk.2⟩, hk.1.2⟩)) hg hat); replace HB := A_ (hb); have HO338 := A_ (ho); clear HO_6; clear ho hb hg hat))
     go_roundg k1
     case measure => have := HK1.out; omega
     case rel => exact ⟨(y336), (true), (wrap64 (x9_1 + 1)), rs_, rs_, H', ⟨by have := HK1.out; omega⟩, ⟨vN_ HO338.out⟩, ⟨vN_ HO_7.out⟩, ⟨bB_⟩⟩
   · replace c8 := Bool.eq_false_iff.mpr c8
     subst c8
     rw [if_neg nf_] at H
     by_cases c13 : 0 ≤ x9_1
     rotate_left
     · exact absurd H (by rw [if_neg c13]; simp)
     rw [if_pos c13] at H
     have c13b0 : decide (0 ≤ x9_1) = true := decide_eq_true c13
     clear c13
     by_cases c14 : ((rd_T28 t332 x9_1).f0) = a1
     · rw [if_pos c14] at H
       have c14b0 : (((rd_T28 t332 x9_1).f0) == a1) = true := beq_iff_eq.mpr c14
       have c14b1 : (((rd_T28 t332 x9_1).f0) != a1) = false := bne_eq_false_iff_eq.mpr c14
       clear c14
       have H' := Aside0.mk H
       clear H
       obtain ⟨Ao15, co15, eo15⟩ := Kd.N_slice HO_7.out
       subst eo15
       have p339 : 0 ≤ (x9_1 : Int) := of_decide_eq_true as_
       have q339 : x9_1 < (t332.length : Int) := of_decide_eq_true as_
       obtain ⟨ad339, A339_1, c339_1, e339, hx339_0, hx339_1, hx339_2, hx339_3, hx339_4, hl339_1, hi339_1⟩ := at_T28 (Kd.N_reads' HO_7.out).2.2 x9_1 p339 q339
       cases e339
       obtain ⟨ce339, hce339, hMe339, hcc339⟩ := Kd.N_get HO_7.out z28 x9_1 p339 (by first | exact q339 | exact of_decide_eq_true as_ | (have e_ := (Kd.N_reads' HO_7.out).1; omega))
       obtain ⟨ua339_1, uc339_1, rfl, ul339_1, ge339_1⟩ := k28_openF hMe339
       have hv339_1 := hcc339 1 _ rfl
       rw [add_field _ _ 1 (by omega)] at hv339_1
       replace hv339_1 := Option.some.inj (hv339_1.symm.trans hx339_1)
       injection hv339_1 with hva_ hvn_ hvc_
       rw [hva_] at ge339_1
       rw [hvc_] at ul339_1
       have HL339_1 := A_ (show Kd.V Kd.string 9 _ w.heap.size _ _ ((rd_T28 t332 x9_1).f1) from Kd.V_mk ul339_1 ge339_1)
       clear hva_ hvn_ hvc_ ge339_1 ul339_1
       clear hcc339 hce339
       have HR339_1 := Aside0.mk hi339_1
       have HC339_1 := Aside0.mk hl339_1
       clear hi339_1 hl339_1
       replace p339 := eq_true p339
       replace q339 := eq_true q339
       go_wp2
       go_roundg k1
       case measure => have := HK1.out; omega
       case rel => exact ⟨(x6_1), (true), (wrap64 (x9_1 + 1)), rs_, rs_, H', ⟨by have := HK1.out; omega⟩, ⟨vN_ HO_6.out⟩, ⟨vN_ HO_7.out⟩, ⟨bB_⟩⟩
     rw [if_neg c14] at H
     have c14b0 : (((rd_T28 t332 x9_1).f0) == a1) = false := beq_eq_false_iff_ne.mpr c14
     have c14b1 : (((rd_T28 t332 x9_1).f0) != a1) = true := bne_iff_ne.mpr c14
     by_cases c16 : x6_1.length < 2932031007402
     rotate_left
     · exact absurd H (by rw [if_neg c16]; simp)
     rw [if_pos c16] at H
     have LMc16 := Aside0.mk c16
     clear c16
     obtain ⟨y341, hy341⟩ : ∃ y_ : List (S28), y_ = (x6_1 ++ [(⟨(rd_T28 t332 x9_1).f0, (rd_T28 t332 x9_1).f1, (rd_T28 t332 x9_1).f2, (rd_T28 t332 x9_1).f3, (rd_T28 t332 x9_1).f4⟩ : S28)]) := ⟨_, rfl⟩
     replace H : (spec_DropLock.l0 k1 a1 y341 t332 false (wrap64 (x9_1 + 1))) = some (r1, r2) := hy_ hy341 H
     have Ny341 := Aside0.mk hy341
     clear hy341
     have H' := Aside0.mk H
     clear H
     obtain ⟨Ao17, co17, eo17⟩ := Kd.N_slice HO_7.out
     subst eo17
     have p339 : 0 ≤ (x9_1 : Int) := of_decide_eq_true as_
     have q339 : x9_1 < (t332.length : Int) := of_decide_eq_true as_
     obtain ⟨ad339, A339_1, c339_1, e339, hx339_0, hx339_1, hx339_2, hx339_3, hx339_4, hl339_1, hi339_1⟩ := at_T28 (Kd.N_reads' HO_7.out).2.2 x9_1 p339 q339
     cases e339
     obtain ⟨ce339, hce339, hMe339, hcc339⟩ := Kd.N_get HO_7.out z28 x9_1 p339 (by first | exact q339 | exact of_decide_eq_true as_ | (have e_ := (Kd.N_reads' HO_7.out).1; omega))
     obtain ⟨ua339_1, uc339_1, rfl, ul339_1, ge339_1⟩ := k28_openF hMe339
     have hv339_1 := hcc339 1 _ rfl
     rw [add_field _ _ 1 (by omega)] at hv339_1
     replace hv339_1 := Option.some.inj (hv339_1.symm.trans hx339_1)
     injection hv339_1 with hva_ hvn_ hvc_
     rw [hva_] at ge339_1
     rw [hvc_] at ul339_1
     have HL339_1 := A_ (show Kd.V Kd.string 9 _ w.heap.size _ _ ((rd_T28 t332 x9_1).f1) from Kd.V_mk ul339_1 ge339_1)
     clear hva_ hvn_ hvc_ ge339_1 ul339_1
     clear hcc339 hce339
     have HR339_1 := Aside0.mk hi339_1
     have HC339_1 := Aside0.mk hl339_1
     clear hi339_1 hl339_1
     replace p339 := eq_true p339
     replace q339 := eq_true q339
     have p340 : 0 ≤ (x9_1 : Int) := of_decide_eq_true as_
     have q340 : x9_1 < (t332.length : Int) := of_decide_eq_true as_
     obtain ⟨ad340, A340_1, c340_1, e340, hx340_0, hx340_1, hx340_2, hx340_3, hx340_4, hl340_1, hi340_1⟩ := at_T28 (Kd.N_reads' HO_7.out).2.2 x9_1 p340 q340
     obtain rfl : ad339 = ad340 := (by injection e340)
     obtain ⟨ce340, hce340, hMe340, hcc340⟩ := Kd.N_get HO_7.out z28 x9_1 p340 (by first | exact q340 | exact of_decide_eq_true as_ | (have e_ := (Kd.N_reads' HO_7.out).1; omega))
     obtain ⟨ua340_1, uc340_1, rfl, ul340_1, ge340_1⟩ := k28_openF hMe340
     have hv340_1 := hcc340 1 _ rfl
     rw [add_field _ _ 1 (by omega)] at hv340_1
     replace hv340_1 := Option.some.inj (hv340_1.symm.trans hx340_1)
     injection hv340_1 with hva_ hvn_ hvc_
     rw [hva_] at ge340_1
     rw [hvc_] at ul340_1
     have HL340_1 := A_ (show Kd.V Kd.string 9 _ w.heap.size _ _ ((rd_T28 t332 x9_1).f1) from Kd.V_mk ul340_1 ge340_1)
     clear hva_ hvn_ hvc_ ge340_1 ul340_1
     clear hcc340 hce340
     have HR340_1 := Aside0.mk hi340_1
     have HC340_1 := Aside0.mk hl340_1
     clear hi340_1 hl340_1
     replace p340 := eq_true p340
     replace q340 := eq_true q340
     have ea_ := Option.some.inj (hx339_1.symm.trans hx340_1)
     injection ea_ with ea_ en_ ec_
     subst ea_
     subst ec_
     clear en_
     go_wp2_with (first | ((with_reducible refine gate_builtin (b := .append) (xs := #[.tmp 30, .tmp 35]) rfl ?_); at_builtin; refine Kd.N_append k28 (w0 := w) w.heap.size rfl (.tmp 30) (.tmp 35) 39 28 (.agg #[(.int .i64 0), (.slice none 0 0), (.bool false), (.bool false), (.int .i64 0)]) 48 rfl Try.underlying39 info28 rfl (by decide) (by omega) u6 x6_1 (⟨(rd_T28 t332 x9_1).f0, (rd_T28 t332 x9_1).f1, (rd_T28 t332 x9_1).f2, (rd_T28 t332 x9_1).f3, (rd_T28 t332 x9_1).f4⟩ : S28) [.int .i64 ((rd_T28 t332 x9_1).f0), .slice A339_1 ((rd_T28 t332 x9_1).f1).length c339_1, .bool ((rd_T28 t332 x9_1).f2), .bool ((rd_T28 t332 x9_1).f3), .int .i64 ((rd_T28 t332 x9_1).f4)] (fun k_ => (w.heap.size ≤ k_) ∧ some k_ ≠ (.slice (some ad339) t332.length co17 : Value).ownBlock) (fun k_ => ((fun k_ => (w.heap.size ≤ k_) ∧ some k_ ≠ (.slice (some ad339) t332.length co17 : Value).ownBlock)) k_ ∧ some k_ ≠ (u6 : Value).ownBlock) rfl rfl ?aP (fun _ hk => hk) ?aF ?aO ?aB ?aS ?aL ?_; (case aP => exact (k28_mkF _ _ (⟨(rd_T28 t332 x9_1).f0, (rd_T28 t332 x9_1).f1, (rd_T28 t332 x9_1).f2, (rd_T28 t332 x9_1).f3, (rd_T28 t332 x9_1).f4⟩ : S28) (Kd.V_reads' (Kd.V_mono (ok' := (fun k_ => ((fun k_ => (w.heap.size ≤ k_) ∧ some k_ ≠ (.slice (some ad339) t332.length co17 : Value).ownBlock)) k_ ∧ some k_ ≠ (u6 : Value).ownBlock)) (HL340_1.out) (fun k_ hk => ⟨⟨hk.1.1, hk.2⟩, hk.1.2⟩))).2.1 (Kd.V_F (Kd.V_mono (ok' := (fun k_ => ((fun k_ => (w.heap.size ≤ k_) ∧ some k_ ≠ (.slice (some ad339) t332.length co17 : Value).ownBlock)) k_ ∧ some k_ ≠ (u6 : Value).ownBlock)) (HL340_1.out) (fun k_ hk => ⟨⟨hk.1.1, hk.2⟩, hk.1.2⟩))))); (case aB => exact bB_); (case aF => exact (fun k_ hk => ⟨(Nat.le_trans (below_size bB_) hk), Kd.fresh' (Kd.N_lt (vN_ HO_7.out)) k_ hk⟩)); (case aO => exact (vN_ HO_6.out)); (case aS => exact (below_size bB_)); (case aL => have := LMc16.out; omega); intro v342 w18 ho hb hg hat; rw [← Ny341.out] at ho; replace HO_7 := A_ (Kd.N_afterv (ok := (fun k_ => (w.heap.size ≤ k_))) (vN_ HO_7.out) hg hat); replace HL339_1 := A_ (Kd.V_afterv (ok := (fun k_ => (w.heap.size ≤ k_) ∧ some k_ ≠ (.slice (some ad339) t332.length co17 : Value).ownBlock)) (by (with_reducible repeat (first | apply Kd.V_alloc | apply Kd.V_drewN | apply Kd.V_drew)); exact Kd.V_mono HL339_1.out (fun _ hk => ⟨⟨hk.1.1, hk.2⟩, hk.1.2⟩)) hg hat); replace HL340_1 := A_ (Kd.V_afterv (ok := (fun k_ => (w.heap.size ≤ k_) ∧ some k_ ≠ (.slice (some ad339) t332.length co17 : Value).ownBlock)) (by (with_reducible repeat (first | apply Kd.V_alloc | apply Kd.V_drewN | apply Kd.V_drew)); exact Kd.V_mono HL340_1.out (fun _ hk => ⟨⟨hk.1.1, hk.2⟩, hk.1.2⟩)) hg hat); replace HB := A_ (hb); have HO343 := A_ (ho); clear HO_6; clear ho hb hg hat))
     go_roundg k1
     case measure => have := HK1.out; omega
     case rel => exact ⟨(y341), (false), (wrap64 (x9_1 + 1)), rs_, rs_, H', ⟨by have := HK1.out; omega⟩, ⟨vN_ HO343.out⟩, ⟨vN_ HO_7.out⟩, ⟨bB_⟩⟩
def impl_copyPath.f (l0 : List ByteArray) : Option (List ByteArray) := if ([] : List ByteArray).length + l0.length < 8796093022208 then (some (([] : List ByteArray) ++ l0)) else (none)
set_option maxHeartbeats 8000000 in
set_option maxRecDepth 100000 in
theorem impl_copyPath.calls (A0 : Option Addr) (c0 : Nat) (l0 : List ByteArray) (r : List ByteArray) (w : World) (hr0 : Kd.C Kd.string w A0 l0.length l0) (hc0 : l0.length ≤ c0) (h : impl_copyPath.f l0 = some r) :
 Calls Try.prog 88 #[.slice A0 l0.length c0] w fun e w' => ∃ v0_ : Value, e = .returned (v0_) ∧ Kd.R Kd.string 9 w' w.heap.size (fun _ => True) v0_ r ∧ Below w.heap.size w w' := by
 have HR0 := Aside0.mk hr0
 have HC0 := Aside0.mk hc0
 clear hr0 hc0
 have HB := A_ (Below.refl w.heap.size w)
 have H : (if ([] : List ByteArray).length + l0.length < 8796093022208 then (some (([] : List ByteArray) ++ l0)) else (none)) = some r := h
 clear h
 by_cases c2 : ([] : List ByteArray).length + l0.length < 8796093022208
 rotate_left
 · exact absurd H (by rw [if_neg c2]; simp)
 rw [if_pos c2] at H
 have LMc2 := Aside0.mk c2
 clear c2
 obtain ⟨y344, hy344⟩ : ∃ y_ : List ByteArray, y_ = (([] : List ByteArray) ++ l0) := ⟨_, rfl⟩
 replace H : (some y344) = some r := hy_ hy344 H
 have Ny344 := Aside0.mk hy344
 clear hy344
 obtain rfl := Option.some.inj H
 go_enter Try.func88, Try.ntmps88
 go_wp2_with (first | ((with_reducible refine gate_builtin (b := .append) (xs := #[.const (.slice none 0 0), .tmp 3]) rfl ?_); at_builtin; refine Kd.R_append_rows Kd.string (w0 := w) w.heap.size rfl (.const (.slice none 0 0)) (.tmp 3) 22 9 (.string ⟨#[]⟩) 16 rfl Try.underlying22 info9 rfl (by decide) (by omega) (.slice none 0 0) ([] : List ByteArray) l0 _ _ _ (fun _ => True) (fun _ => False) rfl rfl ?aO ?aR (fun _ _ h => h) (fun _ h => h.elim) ?aF ?aB ?aS ?aL ?_; (case aR => exact cC_ HR0.out); (case aB => exact bB_); (case aF => exact (fun _ _ => trivial)); (case aO => exact ((Kd.R_nil _ _ _ _ (fun _ => True)))); (case aS => exact (below_size bB_)); (case aL => have := LMc2.out; omega); intro v345 w3 ho hb hg hat; rw [← Ny344.out] at ho; replace HB := A_ (hb); have HO346 := A_ (ho); clear ho hb hg hat))
 go_ret
 exact ⟨_, rr_, by (with_reducible repeat (first | apply Kd.R_alloc | apply Kd.R_drewN | apply Kd.R_drew)); exact HO346.out, bB_⟩
def impl_copyLocks.l0 : Nat → List (S28) → List (S28) → Int → Int → Option ((List (S28)))
 | 0, _, _, _, _ => none
 | k + 1, x3, x6, x7, x8 => if x8 < x7 then (if 0 ≤ x8 then (if x8 < (x6.length : Int) then ((impl_copyPath.f ((rd_T28 x6 x8).f1)).bind fun t349 => (if x3.length < 2932031007402 then (impl_copyLocks.l0 k (x3 ++ [(⟨(rd_T28 x6 x8).f0, t349, (rd_T28 x6 x8).f2, (rd_T28 x6 x8).f3, (rd_T28 x6 x8).f4⟩ : S28)]) x6 x7 (wrap64 (x8 + 1))) else (none))) else (none)) else (none)) else (some x3)
def impl_copyLocks.f (k : Nat) (l0 : List (S28)) : Option ((List (S28))) := impl_copyLocks.l0 k ([] : List (S28)) l0 (l0.length : Int) 0
set_option maxHeartbeats 8000000 in
set_option maxRecDepth 100000 in
theorem impl_copyLocks.calls (k : Nat) (A0 : Option Addr) (c0 : Nat) (l0 : List (S28)) (r : List (S28)) (w : World) (hr0 : Kd.C k28 w A0 l0.length l0) (hc0 : l0.length ≤ c0) (h : impl_copyLocks.f k l0 = some r) :
 Calls Try.prog 69 #[.slice A0 l0.length c0] w fun e w' => ∃ v0_ : Value, e = .returned (v0_) ∧ Kd.S k28 28 w' w.heap.size (fun _ => True) v0_ r ∧ Below w.heap.size w w' := by
 have hu28 := Try.underlying28
 have HR0 := Aside0.mk hr0
 have HC0 := Aside0.mk hc0
 clear hr0 hc0
 have HB := A_ (Below.refl w.heap.size w)
 have H : (impl_copyLocks.l0 k ([] : List (S28)) l0 (l0.length : Int) 0) = some r := h
 clear h
 have H' := Aside0.mk H
 clear H
 go_enter Try.func69, Try.ntmps69
 go_wp2
 go_loopg [3, 8] k (fun kq v3 v8 w' => ∃ (x3_1 : List (S28)) (x8_1 : Int), v8 = .int .i64 x8_1 ∧ Aside0 (impl_copyLocks.l0 kq x3_1 l0 (l0.length : Int) x8_1 = some r) ∧ Aside0 (kq ≤ k) ∧ Aside0 (Kd.S k28 28 w' w.heap.size (fun _ => True) v3 x3_1) ∧ Aside0 (Below w.heap.size w w'))
 case atStart => exact ⟨(([] : List (S28))), (0), rs_, H', ⟨Nat.le_refl _⟩, ⟨by first | exact Kd.S_nil _ _ _ _ _ | exact Kd.N_nil _ _ _ _ _ | exact Kd.V_nil _ _ _ _ _ | exact Kd.Q_nil _ _ _ _ _ | exact Kd.R_nil _ _ _ _ _⟩, ⟨bB_⟩⟩
 case round =>
  clear H'
  obtain ⟨x3_1, x8_1, rfl, HA, HK1, HO_3, HB⟩ := hrel
  cases gk with
  | zero => exact absurd HA.out (by simp [impl_copyLocks.l0])
  | succ k1 =>
   have H := HA.out
   clear HA
   simp only [impl_copyLocks.l0] at H
   by_cases c2 : x8_1 < (l0.length : Int)
   rotate_left
   · rw [if_neg c2] at H
     have c2b0 : decide (x8_1 < (l0.length : Int)) = false := decide_eq_false c2
     clear c2
     obtain rfl := Option.some.inj H
     go_wp2
     go_ret
     exact ⟨_, rr_, by (with_reducible repeat (first | apply Kd.S_alloc | apply Kd.S_drewN | apply Kd.S_drew)); exact HO_3.out, bB_⟩
   rw [if_pos c2] at H
   have c2b0 : decide (x8_1 < (l0.length : Int)) = true := decide_eq_true c2
   clear c2
   by_cases c3 : 0 ≤ x8_1
   rotate_left
   · exact absurd H (by rw [if_neg c3]; simp)
   rw [if_pos c3] at H
   have c3b0 : decide (0 ≤ x8_1) = true := decide_eq_true c3
   clear c3
   by_cases c4 : x8_1 < (l0.length : Int)
   rotate_left
   · exact absurd H (by rw [if_neg c4]; simp)
   rw [if_pos c4] at H
   have c4b0 : decide (x8_1 < (l0.length : Int)) = true := decide_eq_true c4
   clear c4
   obtain ⟨t349, A5, H⟩ := bo_ H
   (try dsimp only at H)
   by_cases c6 : x3_1.length < 2932031007402
   rotate_left
   · exact absurd H (by rw [if_neg c6]; simp)
   rw [if_pos c6] at H
   have LMc6 := Aside0.mk c6
   clear c6
   obtain ⟨y352, hy352⟩ : ∃ y_ : List (S28), y_ = (x3_1 ++ [(⟨(rd_T28 l0 x8_1).f0, t349, (rd_T28 l0 x8_1).f2, (rd_T28 l0 x8_1).f3, (rd_T28 l0 x8_1).f4⟩ : S28)]) := ⟨_, rfl⟩
   replace H : (impl_copyLocks.l0 k1 y352 l0 (l0.length : Int) (wrap64 (x8_1 + 1))) = some r := hy_ hy352 H
   have Ny352 := Aside0.mk hy352
   clear hy352
   have H' := Aside0.mk H
   clear H
   have p347 : 0 ≤ (x8_1 : Int) := of_decide_eq_true as_
   have q347 : x8_1 < (l0.length : Int) := of_decide_eq_true as_
   obtain ⟨ad347, A347_1, c347_1, e347, hx347_0, hx347_1, hx347_2, hx347_3, hx347_4, hl347_1, hi347_1⟩ := at_T28 HR0.out x8_1 p347 q347
   cases e347
   replace hx347_0 := bc_ HB.out hx347_0
   replace hx347_1 := bc_ HB.out hx347_1
   replace hx347_2 := bc_ HB.out hx347_2
   replace hx347_3 := bc_ HB.out hx347_3
   replace hx347_4 := bc_ HB.out hx347_4
   have HR347_1 := Aside0.mk hi347_1
   have HC347_1 := Aside0.mk hl347_1
   clear hi347_1 hl347_1
   replace p347 := eq_true p347
   replace q347 := eq_true q347
   go_wp2_with (first | ((with_reducible refine gate_dst (N := 5) rfl ?_); refine bx_ (N := 5) (cs := #[.int .i64 0, .slice none 0 0, .bool false, .bool false, .int .i64 0]) (t := 28) ?_; intro gb348 hg w7 hbox hb; replace HO_3 := A_ (Kd.S_below (Kd.S_elderB (vS_ HO_3.out) gb348 (Nat.le_of_eq hg.symm)) hb); have BK348 := A_ (hbox); have GW348 := A_ (ge_ hg bB_ : w.heap.size ≤ gb348); have GE348 := A_ (ge_ hg bB_ : w.heap.size ≤ gb348); replace HB := A_ (below_step bB_ hb); clear hb hbox hg; obtain ⟨hcz8_0, hcz8_1, hcz8_2, hcz8_3, hcz8_4, hfz8_0, hfz8_1, hfz8_2, hfz8_3, hfz8_4⟩ := cz5_ BK348.out) | ((with_reducible refine gate_callee (f := 88) rfl ?_); refine gL_ (some 14) Try.func88 #[.slice A347_1 ((rd_T28 l0 x8_1).f1).length c347_1] ?_; (with_reducible refine (impl_copyPath.calls _ _ ((rd_T28 l0 x8_1).f1) t349 _ ?s1 ?s2 A5.out).mono ?_); (case s1 => exact Kd.C_below HR347_1.out (bG_ GE348.out)); (case s2 => exact HC347_1.out); rintro e w9 ⟨v350, rfl, ho0, hb⟩; refine ⟨_, rfl, ?_⟩; replace HO_3 := A_ (Kd.S_elder' (by (with_reducible repeat (first | apply Kd.S_alloc | apply Kd.S_drewN | apply Kd.S_drew)); exact (Kd.S_mono (Kd.S_far (p := ⟨gb348, 4, none⟩) (Kd.S_far (p := ⟨gb348, 3, none⟩) (Kd.S_far (p := ⟨gb348, 2, none⟩) (Kd.S_far (p := ⟨gb348, 1, none⟩) (Kd.S_far (p := ⟨gb348, 0, none⟩) (Kd.S_mono HO_3.out (fun k_ hk => (⟨hk, hk.2⟩ : _ ∧ k_ ≠ gb348))) (fun _ hk => hk.2) (.int .i64 ((rd_T28 l0 x8_1).f0))) (fun _ hk => hk.2) (.slice A347_1 ((rd_T28 l0 x8_1).f1).length c347_1)) (fun _ hk => hk.2) (.bool ((rd_T28 l0 x8_1).f2))) (fun _ hk => hk.2) (.bool ((rd_T28 l0 x8_1).f3))) (fun _ hk => hk.2) (.int .i64 ((rd_T28 l0 x8_1).f4))) (fun _ h_ => h_.1))) (kb_ ho0) hb); have HO351 := A_ (Kd.R_lower ho0 (below_size (bG_ GE348.out))); replace BK348 := A_ (blk_below (g := gb348) (o := .cells #[.int .i64 ((rd_T28 l0 x8_1).f0), .slice A347_1 ((rd_T28 l0 x8_1).f1).length c347_1, .bool ((rd_T28 l0 x8_1).f2), .bool ((rd_T28 l0 x8_1).f3), .int .i64 ((rd_T28 l0 x8_1).f4)] 28 (0, 0)) (by (with_reducible repeat (first | refine blk_drewN ?_ _ | refine blk_drew ?_ | refine blk_alloc ?_ _)); refine blk_put (cs := #[.int .i64 ((rd_T28 l0 x8_1).f0), .slice A347_1 ((rd_T28 l0 x8_1).f1).length c347_1, .bool ((rd_T28 l0 x8_1).f2), .bool ((rd_T28 l0 x8_1).f3), .int .i64 0]) ?_ 4 _ rfl; (with_reducible repeat (first | refine blk_drewN ?_ _ | refine blk_drew ?_ | refine blk_alloc ?_ _)); refine blk_put (cs := #[.int .i64 ((rd_T28 l0 x8_1).f0), .slice A347_1 ((rd_T28 l0 x8_1).f1).length c347_1, .bool ((rd_T28 l0 x8_1).f2), .bool false, .int .i64 0]) ?_ 3 _ rfl; (with_reducible repeat (first | refine blk_drewN ?_ _ | refine blk_drew ?_ | refine blk_alloc ?_ _)); refine blk_put (cs := #[.int .i64 ((rd_T28 l0 x8_1).f0), .slice A347_1 ((rd_T28 l0 x8_1).f1).length c347_1, .bool false, .bool false, .int .i64 0]) ?_ 2 _ rfl; (with_reducible repeat (first | refine blk_drewN ?_ _ | refine blk_drew ?_ | refine blk_alloc ?_ _)); refine blk_put (cs := #[.int .i64 ((rd_T28 l0 x8_1).f0), .slice none 0 0, .bool false, .bool false, .int .i64 0]) ?_ 1 _ rfl; (with_reducible repeat (first | refine blk_drewN ?_ _ | refine blk_drew ?_ | refine blk_alloc ?_ _)); refine blk_put (cs := #[.int .i64 0, .slice none 0 0, .bool false, .bool false, .int .i64 0]) ?_ 0 _ rfl; (with_reducible repeat (first | refine blk_drewN ?_ _ | refine blk_drew ?_ | refine blk_alloc ?_ _)); exact BK348.out) hb); replace HB := A_ (below_step (bG_ GE348.out) hb); (try clear hb); (try clear hk); (try clear ho0); obtain ⟨Ao10, co10, eo10⟩ := Kd.R_slice HO351.out; subst eo10; obtain ⟨hcz11_0, hcz11_1, hcz11_2, hcz11_3, hcz11_4, hfz11_0, hfz11_1, hfz11_2, hfz11_3, hfz11_4⟩ := cz5_ BK348.out) | ((with_reducible refine gate_store (t := 22) (p := 15) rfl ?_); refine store_event (t := 22) (p := 15) (v := ?vo_w12) (w1 := (w9.setCell ⟨gb348, 1, none⟩ (.slice Ao10 t349.length co10))) ?hg ?ho ?hn ?hr ?_; (case ho => rfl); (case hg => rfl); (case hn => rfl); (case hr => first | (go_simp; done) | (go_simp; rfl)); intro w12 hw; have n0_ : Aside0 (Kd.S k28 28 w12 w.heap.size (fun k_ => some k_ ≠ (.slice Ao10 t349.length co10 : Value).ownBlock ∧ k_ ≠ gb348) u3 x3_1) := ⟨(by rw [hw]; exact (by (with_reducible repeat (first | apply Kd.S_alloc | apply Kd.S_drewN | apply Kd.S_drew)); exact Kd.S_mono (Kd.S_far (p := ⟨gb348, 1, none⟩) (Kd.S_mono HO_3.out (fun k_ hk => (⟨hk, hk.1.2⟩ : _ ∧ k_ ≠ gb348))) (fun _ hk => hk.2) (.slice Ao10 t349.length co10)) (fun _ hk => ⟨hk.1.2, hk.1.1.2⟩)))⟩; have n1_ : Aside0 (Kd.R Kd.string 9 w12 w.heap.size (fun _ => True) (.slice Ao10 t349.length co10) t349) := ⟨(by rw [hw]; exact (by (with_reducible repeat (first | apply Kd.R_alloc | apply Kd.R_drewN | apply Kd.R_drew)); exact Kd.R_mono (Kd.R_far (p := ⟨gb348, 1, none⟩) (Kd.R_types HO351.out BK348.out (by decide)) (fun _ hk => hk.2) (.slice Ao10 t349.length co10)) (fun _ hk => trivial)))⟩; have n2_ : Aside0 (w12.heap[gb348]? = some (.cells #[.int .i64 ((rd_T28 l0 x8_1).f0), .slice Ao10 t349.length co10, .bool ((rd_T28 l0 x8_1).f2), .bool ((rd_T28 l0 x8_1).f3), .int .i64 ((rd_T28 l0 x8_1).f4)] 28 (0, 0))) := ⟨(by rw [hw]; exact (by (with_reducible repeat (first | refine blk_drewN ?_ _ | refine blk_drew ?_ | refine blk_alloc ?_ _)); refine blk_put (cs := #[.int .i64 ((rd_T28 l0 x8_1).f0), .slice A347_1 ((rd_T28 l0 x8_1).f1).length c347_1, .bool ((rd_T28 l0 x8_1).f2), .bool ((rd_T28 l0 x8_1).f3), .int .i64 ((rd_T28 l0 x8_1).f4)]) ?_ 1 _ rfl; (with_reducible repeat (first | refine blk_drewN ?_ _ | refine blk_drew ?_ | refine blk_alloc ?_ _)); exact BK348.out))⟩; have n3_ : Aside0 (Below w.heap.size w w12) := ⟨(by rw [hw]; exact (bG_ GE348.out))⟩; clear hw; clear HO_3; clear HO351; clear BK348; clear HB; have HO_3 := n0_; have HO351 := n1_; have BK348 := n2_; have HB := n3_; clear n0_ n1_ n2_ n3_; obtain ⟨hcz13_0, hcz13_1, hcz13_2, hcz13_3, hcz13_4, hfz13_0, hfz13_1, hfz13_2, hfz13_3, hfz13_4⟩ := cz5_ BK348.out) | ((with_reducible refine gate_builtin (b := .append) (xs := #[.tmp 16, .tmp 18]) rfl ?_); at_builtin; refine Kd.S_append k28 (w0 := w) w.heap.size rfl (.tmp 16) (.tmp 18) 39 28 (.agg #[(.int .i64 0), (.slice none 0 0), (.bool false), (.bool false), (.int .i64 0)]) 48 rfl Try.underlying39 info28 rfl (by decide) (by omega) u3 x3_1 (⟨(rd_T28 l0 x8_1).f0, t349, (rd_T28 l0 x8_1).f2, (rd_T28 l0 x8_1).f3, (rd_T28 l0 x8_1).f4⟩ : S28) [.int .i64 ((rd_T28 l0 x8_1).f0), .slice Ao10 t349.length co10, .bool ((rd_T28 l0 x8_1).f2), .bool ((rd_T28 l0 x8_1).f3), .int .i64 ((rd_T28 l0 x8_1).f4)] (fun k_ => k_ ≠ gb348) (fun k_ => some k_ = (.slice Ao10 t349.length co10 : Value).ownBlock) rfl rfl ?aP (fun k_ hk_ => ((Kd.R_mono (ok' := fun k_ => ((fun k_ => k_ ≠ gb348)) k_ ∧ some k_ ≠ (u3 : Value).ownBlock) (Kd.R_types (Kd.R_apart' (HO351.out) (Kd.S_typed HO_3.out) (by decide)) BK348.out (by decide)) (fun k_ hk => ⟨hk.2, hk.1.2⟩))).1 k_ hk_.symm) ?aF ?aO ?aB ?aS ?aL ?_; (case aP => exact k28_mkM _ _ _ (⟨(rd_T28 l0 x8_1).f0, t349, (rd_T28 l0 x8_1).f2, (rd_T28 l0 x8_1).f3, (rd_T28 l0 x8_1).f4⟩ : S28) (Kd.R_mono (Kd.R_tight rfl (Kd.R_mono (ok' := fun k_ => ((fun k_ => k_ ≠ gb348)) k_ ∧ some k_ ≠ (u3 : Value).ownBlock) (Kd.R_types (Kd.R_apart' (HO351.out) (Kd.S_typed HO_3.out) (by decide)) BK348.out (by decide)) (fun k_ hk => ⟨hk.2, hk.1.2⟩))) (fun _ h_ => h_))); (case aB => exact (bG_ GE348.out)); (case aF => exact (fun k_ hk => Kd.freshB (g := gb348) (o := .cells #[.int .i64 ((rd_T28 l0 x8_1).f0), .slice Ao10 t349.length co10, .bool ((rd_T28 l0 x8_1).f2), .bool ((rd_T28 l0 x8_1).f3), .int .i64 ((rd_T28 l0 x8_1).f4)] 28 (0, 0)) (vb_ BK348.out) k_ hk)); (case aO => exact (by (with_reducible repeat (first | apply Kd.S_alloc | apply Kd.S_drewN | apply Kd.S_drew)); exact Kd.S_mono HO_3.out (fun k_ hk => ⟨hk.2, fun e_ => hk.1 e_⟩))); (case aS => exact (below_size (bG_ GE348.out))); (case aL => have := LMc6.out; omega); intro v353 w14 ho hb hg hat; rw [← Ny352.out] at ho; replace BK348 := A_ (blk_grown (g := gb348) (o := .cells #[.int .i64 ((rd_T28 l0 x8_1).f0), .slice Ao10 t349.length co10, .bool ((rd_T28 l0 x8_1).f2), .bool ((rd_T28 l0 x8_1).f3), .int .i64 ((rd_T28 l0 x8_1).f4)] 28 (0, 0)) (vb_ BK348.out) hg (Kd.S_away HO_3.out (fun _ hk => hk.2))); replace HB := A_ (hb); have HO354 := A_ (ho); clear HO_3 HO351; clear ho hb hg hat))
   go_roundg k1
   case measure => have := HK1.out; omega
   case rel => exact ⟨(y352), (wrap64 (x8_1 + 1)), rs_, H', ⟨by have := HK1.out; omega⟩, ⟨by (with_reducible repeat (first | apply Kd.S_alloc | apply Kd.S_drewN | apply Kd.S_drew)); exact Kd.S_mono HO354.out (fun _ hk => trivial)⟩, ⟨bG_ GE348.out⟩⟩
end Go.Proofs.Ytiddgglidkbipaa.Q

/- Rows whose elements' rows lie apart (S): their tags told anew; one appended to the other, or a part of one. No condition. -/
set_option linter.unusedSimpArgs false
set_option linter.unusedVariables false
namespace Go.Proofs.Ytiddgglidkbipaa.Q
open Go.RowKit Go.Proofs.YtiddgglidkbipaaW.PrintWords Go.Proofs.YtiddgglidkbipaaW.PrintLast
namespace SR
section
variable {α : Type} {d : Kd α} {e n c base : Nat} {ok okp : Nat → Prop} {w W : World} {v : Value} {A : Option Addr} {f : Nat → Nat}
theorem R_rowsM {xs : List α} (h : d.R e W base ok (.slice A n c) xs) : n = xs.length ∧ n ≤ c ∧ ReadsRow (fun x cs => d.M W base (fun k => ok k ∧ some k ≠ (Value.slice A n c).ownBlock) x cs) d.sz W A n xs := by
  obtain ⟨A', c', he, hl, hr⟩ := OwnRow.reads h.2
  injection he with h1 h2 h3
  subst h1 h2 h3
  exact ⟨rfl, hl, hr⟩
open Classical in
theorem S_of_tags {zs : List (α × Nat)} (h : (Kd.tag f d).R e w base ok v zs) (hn : ∀ (i j : Nat) (x y : α × Nat), zs[i]? = some x → zs[j]? = some y → x.2 = y.2 → i = j) : Kd.S d e w base ok v (zs.map Prod.fst) := by
  obtain ⟨h0, inner, ho, hr⟩ := h
  refine ⟨fun k => if h : ∃ (j : Nat) (x : α × Nat), zs[j]? = some x ∧ x.2 = f k then h.choose else 0, h0, inner, by rw [List.length_zipIdx, List.length_map]; exact ho, by rw [List.length_zipIdx, List.length_map]; exact hr.1, fun j p hj => ?_⟩
  rw [List.getElem?_zipIdx, Nat.zero_add, List.getElem?_map] at hj
  obtain ⟨x, hx, rfl⟩ := Option.map_eq_some_iff.1 hj
  obtain ⟨z, hz, rfl⟩ := Option.map_eq_some_iff.1 hx
  refine d.M_mono (fun k hk => ⟨hk.1, ?_⟩) (hr.2 j z hz)
  have h : ∃ (j : Nat) (x : α × Nat), zs[j]? = some x ∧ x.2 = f k := ⟨j, z, hz, hk.2.symm⟩
  obtain ⟨x, h1, h2⟩ := h.choose_spec
  exact (dif_pos h).trans (hn _ _ x z h1 hz (h2.trans hk.2))
theorem rows_shift {Rr Rr' : α × Nat → List Value → Prop} {sz : Nat} {zs : List (α × Nat)} {g : α × Nat → α × Nat} (h : ReadsRow Rr sz W A n zs) (hi : ∀ x cs, Rr x cs → Rr' (g x) cs) : ReadsRow Rr' sz W A n (zs.map g) := by
  obtain ⟨hl, hm, hp⟩ := h
  refine ⟨by rw [List.length_map]; exact hl, hm, fun h0 => ?_⟩
  obtain ⟨ad, hA, hc⟩ := hp h0
  refine ⟨ad, hA, fun j p hj => ?_⟩
  rw [List.getElem?_map] at hj
  obtain ⟨z, hz, rfl⟩ := Option.map_eq_some_iff.1 hj
  obtain ⟨cs, h1, h2, h3⟩ := hc j z hz
  exact ⟨cs, h1, hi _ _ h2, h3⟩
theorem zip_shift (ys : List α) (m : Nat) : ys.zipIdx.map (fun z => (z.1, z.2 + m)) = ys.zipIdx m := by
  apply List.ext_getElem?
  intro j
  rw [List.getElem?_map, List.getElem?_zipIdx, List.getElem?_zipIdx]
  cases ys[j]? <;> simp [Nat.add_comm]
end
section
variable {P : Program} {ops : Array Oper} {rest : List Oper} {o : Oper} {a : Act} {Q : Exit → Act → World → Prop} {Kc : Act → World → Prop} {α : Type}
open Classical in
theorem rows_ready {d : Kd α} {e e' base : Nat} {W : World} {v : Value} {xs ys : List α} {A : Option Addr} {m c : Nat} {ok okp : Nat → Prop}
    (HO : Kd.S d e W base (fun k => ok k ∧ ¬ okp k) v xs) (HX : Kd.S d e' W base okp (.slice A m c) ys) :
    ∃ f, (Kd.tag f d).R e W base ok v xs.zipIdx ∧ ReadsRow (fun z cs => (Kd.tag f d).M W base okp z cs) d.sz W A m (ys.zipIdx xs.length) := by
  obtain ⟨f1, h1⟩ := HO
  obtain ⟨f2, h2⟩ := HX
  refine ⟨fun k => if okp k then f2 k + xs.length else f1 k, ?_, ?_⟩
  · exact Kd.R_mono (Kd.R_tag h1 (fun k hk _ => if_neg hk.2)) (fun k hk => hk.1)
  · obtain ⟨_, _, h3⟩ := R_rowsM h2
    rw [← zip_shift]
    refine rows_shift h3 (fun x cs hM => d.M_mono (fun k hk => ⟨hk.1.1, ?_⟩) hM)
    show (if okp k then f2 k + xs.length else f1 k) = x.2 + xs.length
    rw [if_pos hk.1.1, hk.2]
theorem S_append_S_step (d : Kd α) {w0 W : World} (base : Nat) (hw : Region.wanted o (yielded ops a.tmps) = true) (s x : Operand) (t e e' : TypeId) (z : Value) (bytes : Nat)
    (ho : o.op = .call { callee := .builtin .append, args := #[s, x], argTypes := #[t, t] })
    (ht : P.underlying t = some (.slice e)) (hinfo : (P.info? e).map (fun i => (i.zero, i.size, i.bytes)) = some (some z, d.sz, bytes)) (hz : z.cells.size = d.sz) (hs0 : 0 < d.sz) (hb0 : 0 < bytes)
    (v : Value) (xs ys : List α) (A : Option Addr) (m c : Nat) (ok okp : Nat → Prop) (hs : a.eval s = v) (hx : a.eval x = .slice A m c)
    (HO : Kd.S d e W base (fun k => ok k ∧ ¬ okp k) v xs) (HX : Kd.S d e' W base okp (.slice A m c) ys) (hokp : ∀ k, okp k → ok k ∧ some k ≠ v.ownBlock) (hfresh : ∀ k, W.heap.size ≤ k → ok k)
    (HB : Below base w0 W) (hbase : base ≤ W.heap.size) (hl : (xs.length + m) * bytes ≤ 140737488355328)
    (h : ∀ v1 w1, Kd.S d e w1 base ok v1 (xs ++ ys) → Below base w0 w1 → W.grownBy w1 v.ownBlock → (v1.ownBlock = v.ownBlock ∨ ∃ b, v1.ownBlock = some b ∧ W.heap.size ≤ b) → Kc (a.put o.dst v1) w1) :
    if Region.wanted o (yielded ops a.tmps) = true then Oper.wp P o a W Kc Q else Kc (a.put o.dst undef) W := by
  obtain ⟨f, h1, h2⟩ := rows_ready HO HX
  refine Kd.R_append_rows_step (Kd.tag f d) base hw s x t e z bytes ho ht hinfo hz hs0 hb0 v xs.zipIdx (ys.zipIdx xs.length) A m c ok okp hs hx h1 h2 (fun _ _ hM => hM) hokp hfresh HB hbase (by rw [List.length_zipIdx]; exact hl) ?_
  intro v1 w1 hr
  refine h v1 w1 ⟨f, ?_⟩
  rw [List.zipIdx_append, Nat.zero_add]
  exact hr
end
def fixT {α : Type} (f : Nat → Nat) (w : World) (base : Nat) (okM : Nat → Prop) (d : Kd α) : Kd (α × Nat) where
  sz := d.sz
  E := []
  K := fun W x cs => d.K W x.1 cs ∧ (Kd.tag f d).M w base okM x cs
  M := fun _ _ _ _ _ => False
  K_len := fun h => d.K_len h.1
  K_one := fun h => d.K_one h.1
  K_below := fun hb h => ⟨d.K_below hb h.1, h.2⟩
  K_of_M := fun h => h.elim
  M_mono := fun _ h => h
  M_bound := fun h => h
  M_move := fun _ h => h
  M_lower := fun _ h => h
section
variable {α : Type} {d : Kd α} {e n c base base' : Nat} {ok okM : Nat → Prop} {w W : World} {v : Value} {A : Option Addr} {f : Nat → Nat}
theorem S_of_fix {zs : List (α × Nat)} (h : Kd.N (fixT f w base okM d) e W base' ok v zs) (hb : Below w.heap.size w W) (h1 : base ≤ base') (h2 : w.heap.size ≤ base') (hlt : ∀ k, okM k → k < w.heap.size) (hn : ∀ (i j : Nat) (x y : α × Nat), zs[i]? = some x → zs[j]? = some y → x.2 = y.2 → i = j) :
    Kd.S d e W base (fun k => okM k ∨ w.heap.size ≤ k) v (zs.map Prod.fst) := by
  obtain ⟨_, rows, hl, ⟨h0, inner, ho, hr⟩, hf⟩ := h
  have hbase : ∀ k, v.ownBlock = some k → base' ≤ k := fun k hk => own_base ho k hk
  refine S_of_tags (f := f) (zs := zs) ⟨fun k hk => .inr (Nat.le_trans h2 (hbase k hk)), inner, by rw [← hl]; exact own_weaken ho h1, by rw [← hl]; exact hr.1, fun j z hj => ?_⟩ hn
  have hjl : j < rows.length := by have := (List.getElem?_eq_some_iff.1 hj).1; omega
  have hc := hr.2 j _ (List.getElem?_eq_getElem hjl)
  have hk := (Kd.FK_now (hf j z _ hj (List.getElem?_eq_getElem hjl))).2
  rw [← hc.1] at hk
  refine d.M_mono (fun k hk => ⟨⟨.inl hk.1, fun e_ => ?_⟩, hk.2⟩) (Kd.M_below (d := d) (d.M_mono (fun k hk => hk) hk) hb)
  have := hbase k e_.symm
  have := hlt k hk.1
  omega
theorem FK_fix {ok' : Nat → Prop} {x : α} {m : Nat} {cs : List Value} (h : Kd.FK d W ok' x cs) (hM : (Kd.tag f d).M w base okM (x, m) cs) : Kd.FK (fixT f w base okM d) W ok' (x, m) cs := fun W' hW => ⟨h W' hW, hM⟩
end
end SR
end Go.Proofs.Ytiddgglidkbipaa.Q

/- The walks of keepLocks with the question of LiveLocks (a function value with one whole number), and of LiveLocks: the elements' rows lie apart. No condition. -/
set_option linter.unusedSimpArgs false
set_option linter.unusedVariables false
namespace Go.Proofs.Ytiddgglidkbipaa.Q
open Go.RowKit Go.Proofs.YtiddgglidkbipaaW.PrintWords Go.Proofs.YtiddgglidkbipaaW.PrintLast Go.Proofs.YtiddgglidkbipaaW.PrintMore
attribute [local go_sem] max2_int min2_int max_two min_two max_three min_three max_four min_four
set_option linter.unusedVariables false
set_option linter.unusedSimpArgs false
def Sto (g : Nat) (W w' : World) : Prop := ∃ l : List (Nat × Value), w' = l.foldl (fun w p => w.setCell ⟨g, p.1, none⟩ p.2) W
theorem Sto.refl (g : Nat) (W : World) : Sto g W W := ⟨[], rfl⟩
theorem Sto.step {g : Nat} {W w1 : World} (h : Sto g W w1) (i : Nat) (u : Value) : Sto g W (w1.setCell ⟨g, i, none⟩ u) := by
 obtain ⟨l, rfl⟩ := h
 exact ⟨l ++ [(i, u)], by simp⟩
theorem Sto.keeps {g : Nat} {W w' : World} (h : Sto g W w') {I : World → Prop} (h0 : I W) (hs : ∀ w i u, I w → I (w.setCell ⟨g, i, none⟩ u)) : I w' := by
 obtain ⟨l, rfl⟩ := h
 induction l generalizing W with
 | nil => exact h0
 | cons p l ih => exact ih (hs _ _ _ h0)
def IsBlk (g : Nat) (t : TypeId) (w : World) (cs : Array Value) : Prop := w.heap[g]? = some (.cells cs t (0, 0))
theorem IsBlk.set {g : Nat} {t : TypeId} {w : World} {cs : Array Value} (h : IsBlk g t w cs) (i : Nat) (u : Value) : IsBlk g t (w.setCell ⟨g, i, none⟩ u) (cs.setIfInBounds i u) := blk_set h i u
theorem IsBlk.of {g : Nat} {t : TypeId} {w : World} {cs : Array Value} (h : w.heap[g]? = some (.cells cs t (0, 0))) : IsBlk g t w cs := h
theorem box_store {P : Program} {ops : Array Oper} {rest : List Oper} {o : Oper} {a : Act} {Q : Exit → Act → World → Prop} {W w1 : World} {g : Nat} {t0 t : TypeId} {p : Tmp} {v : Operand} {cs : Array Value} (hgd : o.guard = none) (_ho : o.op = .store t (.tmp p) v) (hN : o.dst = none)
 (hrun : (execOp a.eval o).run P W = .ok .skip w1) (hs : Sto g W w1) (hb : IsBlk g t0 w1 cs)
 (h : ∀ w', Sto g W w' → w'.heap[g]? = some (.cells cs t0 (0, 0)) → wpList P ops Q rest a w') : wpList P ops Q (o :: rest) a W :=
 store_event hgd _ho hN hrun (fun w' e => h w' (e ▸ hs) (e ▸ (show w1.heap[g]? = some (.cells cs t0 (0, 0)) from hb)))
section
variable {w0 W w' : World} {g : Nat} (hw : Sto g W w')
include hw
theorem stored_below (h : Below w0.heap.size w0 W) (hg : w0.heap.size ≤ g) : Below w0.heap.size w0 w' := hw.keeps (I := fun w => Below w0.heap.size w0 w) h (fun _ _ _ h => below_set h hg)
end
theorem stored_N {W w' : World} {g : Nat} (hw : Sto g W w') {α : Type} {d : Kd α} {e base : Nat} {ok : Nat → Prop} {v : Value} {xs : List α} (h : Kd.N d e W base ok v xs) (hne : ∀ k, ok k → k ≠ g) : Kd.N d e w' base ok v xs := hw.keeps (I := fun w => Kd.N d e w base ok v xs) h (fun _ _ u h => Kd.N_far h hne u)
def impl_keepLocks.l0 : Nat → Int → List (S28) → List (S28) → Int → Int → Option ((List (S28)))
 | 0, _, _, _, _, _ => none
 | k + 1, x1, x5, x9, x10, x11 => if x11 < x10 then (if 0 ≤ x11 then (if x11 < (x9.length : Int) then (if ((rd_T28 x9 x11).f4) > x1 then (if x5.length < 2932031007402 then (impl_keepLocks.l0 k x1 (x5 ++ [(⟨(rd_T28 x9 x11).f0, (rd_T28 x9 x11).f1, (rd_T28 x9 x11).f2, (rd_T28 x9 x11).f3, (rd_T28 x9 x11).f4⟩ : S28)]) x9 x10 (wrap64 (x11 + 1))) else (none)) else (impl_keepLocks.l0 k x1 x5 x9 x10 (wrap64 (x11 + 1)))) else (none)) else (none)) else (some x5)
def impl_keepLocks.f (k : Nat) (l0 : List (S28)) (a1 : Int) : Option ((List (S28))) := (impl_copyLocks.f k l0).bind fun t421 => (impl_keepLocks.l0 k a1 ([] : List (S28)) t421 (t421.length : Int) 0)
def impl_LiveLocks.f (k : Nat) (l0 : List (S28)) (a1 : Int) : Option ((List (S28))) := (impl_keepLocks.f k l0 a1).bind fun t429 => (some t429)
theorem live_ask (g : Nat) (x0 x4 a1 : Int) (x1 : Value) (x2 x3 : Bool) (w : World) (h : w.cell? ⟨g, 0, none⟩ = some (.int .i64 a1)) :
 Calls Try.prog 72 #[.agg #[.int .i64 x0, x1, .bool x2, .bool x3, .int .i64 x4], .pointer (some ⟨g, 0, none⟩)] w fun e w' => e = .returned (.bool (decide (a1 < x4))) ∧ Below w.heap.size w w' := by
 have h2 : (w.alloc (Obj.cells #[Value.int IntKind.i64 x0, x1, Value.bool x2, Value.bool x3, Value.int IntKind.i64 x4] 28 (0, 0))).cell? ⟨g, 0, none⟩ = some (.int .i64 a1) := ((below_alloc (Below.refl w.heap.size w) _).cell (World.block_lt_of_cell? w _ h)).trans h
 have hB := A_ (below_alloc (Below.refl w.heap.size w) (Obj.cells #[Value.int IntKind.i64 x0, x1, Value.bool x2, Value.bool x3, Value.int IntKind.i64 x4] 28 (0, 0)))
 go_enter Try.func72, Try.ntmps72
 go_wp2
 go_ret
 exact ⟨by first | rfl | simp, hB.out⟩
theorem zip_rd (t : List S28) (i : Int) : (t.zipIdx).getD i.toNat (z28, i.toNat) = (rd_T28 t i, i.toNat) := by
 unfold rd_T28
 rw [List.getD_eq_getElem?_getD, List.getElem?_zipIdx, Nat.zero_add, List.getD_eq_getElem?_getD]
 cases t[i.toNat]? <;> rfl
theorem wrap_next {x : Int} (h : x < 9223372036854775808) (h0 : 0 ≤ x) : (wrap64 (x + 1) < 9223372036854775808) ∧ (0 ≤ wrap64 (x + 1) → x < wrap64 (x + 1)) := by
 unfold wrap64
 omega
set_option maxHeartbeats 16000000 in
set_option maxRecDepth 100000 in
theorem impl_keepLocks.calls (k : Nat) (A0 : Option Addr) (c0 : Nat) (l0 : List (S28)) (a1 : Int) (g : Nat) (r : List (S28)) (w : World) (hr0 : Kd.C k28 w A0 l0.length l0) (hc0 : l0.length ≤ c0) (hg0 : w.cell? ⟨g, 0, none⟩ = some (.int .i64 a1)) (h : impl_keepLocks.f k l0 a1 = some r) :
 Calls Try.prog 71 #[.slice A0 l0.length c0, .func (.func 72) #[] #[.pointer (some ⟨g, 0, none⟩)]] w fun e w' => ∃ v0_ : Value, e = .returned (v0_) ∧ Kd.S k28 28 w' w.heap.size (fun _ => True) v0_ r ∧ Below w.heap.size w w' := by
 have hu28 := Try.underlying28
 have HR0 := Aside0.mk hr0
 have HC0 := Aside0.mk hc0
 have HG := Aside0.mk hg0
 clear hr0 hc0 hg0
 have H : ((impl_copyLocks.f k l0).bind fun t421 => (impl_keepLocks.l0 k a1 ([] : List (S28)) t421 (t421.length : Int) 0)) = some r := h
 clear h
 obtain ⟨t421, A30, H⟩ := Option.bind_eq_some_iff.mp H
 have A3 := Aside0.mk A30
 clear A30
 have H' := Aside0.mk H
 clear H
 go_enter Try.func71, Try.ntmps71
 go_wp2_with (first | ((with_reducible refine gate_callee (f := 69) rfl ?_); refine gL_ (some 9) Try.func69 #[.slice A0 l0.length c0] ?_; (with_reducible refine (impl_copyLocks.calls k _ _ l0 t421 _ ?s1 ?s2 A3.out).mono ?_); (case s1 => exact HR0.out); (case s2 => exact HC0.out); rintro e w4 ⟨v422, rfl, ho0, hb⟩; refine ⟨_, rfl, ?_⟩; obtain ⟨Ao5, co5, eo5⟩ := Kd.S_slice ho0; subst eo5; obtain ⟨f_, hf0_⟩ := Kd.S_bound ho0; have HF := A_ (Kd.R_mono (ok' := fun k_ => k_ < w4.heap.size) hf0_ (fun _ h_ => h_.2.2.1)); have HC4 := A_ (Kd.S_reads' ho0).2.2; have HB0 := Aside0.mk hb; have HG4 := A_ ((hb.cell (World.block_lt_of_cell? w _ HG.out)).trans HG.out); have HB := A_ (Below.refl w4.heap.size w4); clear ho0 hb hf0_ HR0 HC0 HG))
 go_loopg [5, 11] k (fun kq v5 v11 w' => ∃ (x5_1 : List (S28)) (x11_1 : Int) (z5_1 : List (S28 × Nat)), v11 = .int .i64 x11_1 ∧ Aside0 (impl_keepLocks.l0 kq a1 x5_1 t421 (t421.length : Int) x11_1 = some r) ∧ Aside0 (kq ≤ k) ∧ Aside0 (Kd.N (SR.fixT f_ w4 w.heap.size (fun k_ => k_ < w4.heap.size) k28) 28 w' w4.heap.size (fun _ => True) v5 z5_1) ∧ Aside0 (z5_1.map Prod.fst = x5_1 ∧ z5_1.Pairwise (fun a b => a.2 < b.2) ∧ (0 ≤ x11_1 → ∀ z ∈ z5_1, (z.2 : Int) < x11_1) ∧ x11_1 < 9223372036854775808) ∧ Aside0 (Below w4.heap.size w4 w'))
 case atStart => exact ⟨[], 0, [], rs_, H', ⟨Nat.le_refl _⟩, ⟨Kd.N_nil _ _ _ _ _⟩, ⟨rfl, List.Pairwise.nil, fun _ z hz => (by cases hz), by omega⟩, ⟨bB_⟩⟩
 case round =>
  clear H'
  try clear p2
  obtain ⟨x5_1, x11_1, z5_1, rfl, HA, HK1, HO_5, HT5, HB⟩ := hrel
  cases gk with
  | zero => exact absurd HA.out (by simp [impl_keepLocks.l0])
  | succ k1 =>
   have H := HA.out
   clear HA
   simp only [impl_keepLocks.l0] at H
   by_cases c6 : x11_1 < (t421.length : Int)
   rotate_left
   · rw [if_neg c6] at H
     have c6b0 : decide (x11_1 < (t421.length : Int)) = false := decide_eq_false c6
     clear c6
     obtain rfl := Option.some.inj H
     go_wp2
     go_ret
     refine ⟨_, rfl, ?_, below_step HB0.out bB_⟩
     rw [← HT5.out.1]
     refine Kd.S_mono (ok := fun k_ => k_ < w4.heap.size ∨ w4.heap.size ≤ k_) (SR.S_of_fix (f := f_) (w := w4) (okM := fun k_ => k_ < w4.heap.size) (base := w.heap.size) (base' := w4.heap.size) (ok := fun _ => True) ?n1 ?n2 (below_size HB0.out) (Nat.le_refl _) (fun _ h_ => h_) ?n3) (fun _ _ => trivial)
     case n1 => (with_reducible repeat (first | apply Kd.N_alloc | apply Kd.N_drewN | apply Kd.N_drew)); exact HO_5.out
     case n2 => repeat (first | (with_reducible first | exact HB.out | apply below_alloc | apply pw_below_drewN | apply below_drew1) | exact HB.out)
     case n3 =>
      intro i j x y hx hy hxy
      have hp := HT5.out.2.1
      rcases Nat.lt_trichotomy i j with h_ | h_ | h_
      · have h2 := List.pairwise_iff_getElem.1 hp i j (List.getElem?_eq_some_iff.1 hx).1 (List.getElem?_eq_some_iff.1 hy).1 h_
        rw [(List.getElem?_eq_some_iff.1 hx).2, (List.getElem?_eq_some_iff.1 hy).2] at h2
        exact absurd hxy (Nat.ne_of_lt h2)
      · exact h_
      · have h2 := List.pairwise_iff_getElem.1 hp j i (List.getElem?_eq_some_iff.1 hy).1 (List.getElem?_eq_some_iff.1 hx).1 h_
        rw [(List.getElem?_eq_some_iff.1 hx).2, (List.getElem?_eq_some_iff.1 hy).2] at h2
        exact absurd hxy.symm (Nat.ne_of_lt h2)
   rw [if_pos c6] at H
   have c6b0 : decide (x11_1 < (t421.length : Int)) = true := decide_eq_true c6
   by_cases c7 : 0 ≤ x11_1
   rotate_left
   · exact absurd H (by rw [if_neg c7]; simp)
   rw [if_pos c7] at H
   have c7b0 : decide (0 ≤ x11_1) = true := decide_eq_true c7
   rw [if_pos c6] at H
   have p424 : 0 ≤ (x11_1 : Int) := c7
   have q424 : x11_1 < (t421.length : Int) := c6
   have hwn := wrap_next HT5.out.2.2.2 c7
   have HC5 := A_ (Kd.C_below HC4.out HB.out)
   obtain ⟨ad424, A424_1, c424_1, e424, hx424_0, hx424_1, hx424_2, hx424_3, hx424_4, hl424_1, hi424_1⟩ := at_T28 HC5.out x11_1 p424 q424
   cases e424
   obtain ⟨ce424, hcl424, hM424, hcc424⟩ := Kd.R_getA HF.out (z28, x11_1.toNat) x11_1 p424 q424
   rw [zip_rd] at hM424
   obtain ⟨v424, rfl, _⟩ := k28_openM hM424
   have hv424 := hcc424 1 _ rfl
   replace hv424 := (HB.out.cell (World.block_lt_of_cell? w4 _ hv424)).trans hv424
   rw [show (Kd.tag f_ k28).sz = 5 from rfl, add_field _ _ 1 (by omega)] at hv424
   replace hv424 := Option.some.inj (hv424.symm.trans hx424_1)
   subst hv424
   have HM := Aside0.mk hM424
   clear hM424 hcc424 hcl424 hl424_1 hi424_1 HC5
   have HGN : ∀ W, Below w4.heap.size w4 W → W.cell? ⟨g, 0, none⟩ = some (.int .i64 a1) := fun W hW => (hW.cell (World.block_lt_of_cell? w4 _ HG4.out)).trans HG4.out
   have HGA := Aside0.mk HGN
   clear HGN c6 c7
   replace p424 := eq_true p424
   replace q424 := eq_true q424
   by_cases c9 : ((rd_T28 t421 x11_1).f4) > a1
   rotate_left
   · rw [if_neg c9] at H
     have c9b0 : decide (a1 < ((rd_T28 t421 x11_1).f4)) = false := decide_eq_false c9
     clear c9
     have H' := Aside0.mk H
     clear H
     go_wp2_with (first | ((with_reducible refine gate_dst (N := 7) rfl ?_); refine bx_ (N := 7) (cs := #[.int .i64 0, .slice none 0 0, .bool false, .bool false, .int .i64 0]) (t := 28) ?_; intro gb425 hg w11 hbox hb; replace HO_5 := A_ (Kd.N_below (Kd.N_elderB (vN_ HO_5.out) gb425 (Nat.le_of_eq hg.symm)) hb); have BK425 := A_ (hbox); have GE425 := A_ ((by rw [hg]; exact (below_size bB_)) : w4.heap.size ≤ gb425); replace HB := A_ (below_step bB_ hb); clear hb hbox hg; have hcz_0 : w11.cell? ⟨gb425, 0, none⟩ = some (.int .i64 0) := (blk_cell BK425.out 0).trans rfl; have hcz_1 : w11.cell? ⟨gb425, 1, none⟩ = some (.slice none 0 0) := (blk_cell BK425.out 1).trans rfl; have hcz_2 : w11.cell? ⟨gb425, 2, none⟩ = some (.bool false) := (blk_cell BK425.out 2).trans rfl; have hcz_3 : w11.cell? ⟨gb425, 3, none⟩ = some (.bool false) := (blk_cell BK425.out 3).trans rfl; have hcz_4 : w11.cell? ⟨gb425, 4, none⟩ = some (.int .i64 0) := (blk_cell BK425.out 4).trans rfl; have hfz_0 := blk_frozen BK425.out 0; have hfz_1 := blk_frozen BK425.out 1; have hfz_2 := blk_frozen BK425.out 2; have hfz_3 := blk_frozen BK425.out 3; have hfz_4 := blk_frozen BK425.out 4) | ((with_reducible refine gate_store (t := _) (p := _) (v := _) rfl ?_); apply box_store (g := gb425); (case hrun => first | (go_simp; done) | (go_simp; rfl)); (case _ho => rfl); (case hN => rfl); (case hgd => rfl); (case hs => repeat (first | (with_reducible exact Sto.refl _ _) | refine Sto.step ?_ _ _)); (case hb => repeat (first | (with_reducible exact IsBlk.of BK425.out) | (with_reducible apply IsBlk.set))); intro w13 hw' bk_; simp only [List.setIfInBounds_toArray, List.set_cons_zero, List.set_cons_succ] at bk_; replace HO_5 := A_ (stored_N hw' HO_5.out (fun _ hk => hk.2)); replace HB := A_ (stored_below hw' HB.out GE425.out); replace BK425 := A_ (bk_); clear bk_ hw' hcz_0 hfz_0 hcz_1 hfz_1 hcz_2 hfz_2 hcz_3 hfz_3 hcz_4 hfz_4; have hcz_0 : w13.cell? ⟨gb425, 0, none⟩ = some (.int .i64 ((rd_T28 t421 x11_1).f0)) := (blk_cell BK425.out 0).trans rfl; have hcz_1 : w13.cell? ⟨gb425, 1, none⟩ = some (.slice A424_1 ((rd_T28 t421 x11_1).f1).length c424_1) := (blk_cell BK425.out 1).trans rfl; have hcz_2 : w13.cell? ⟨gb425, 2, none⟩ = some (.bool ((rd_T28 t421 x11_1).f2)) := (blk_cell BK425.out 2).trans rfl; have hcz_3 : w13.cell? ⟨gb425, 3, none⟩ = some (.bool ((rd_T28 t421 x11_1).f3)) := (blk_cell BK425.out 3).trans rfl; have hcz_4 : w13.cell? ⟨gb425, 4, none⟩ = some (.int .i64 ((rd_T28 t421 x11_1).f4)) := (blk_cell BK425.out 4).trans rfl; have hfz_0 := blk_frozen BK425.out 0; have hfz_1 := blk_frozen BK425.out 1; have hfz_2 := blk_frozen BK425.out 2; have hfz_3 := blk_frozen BK425.out 3; have hfz_4 := blk_frozen BK425.out 4) | (go_at_call 72; refine (live_ask g _ _ a1 _ _ _ _ (HGA.out _ bB_)).mono ?_; rintro e w14 ⟨rfl, hb⟩; replace HO_5 := A_ (Kd.N_below (vN_ HO_5.out) hb); replace HB := A_ (below_step bB_ hb); replace BK425 := A_ (blk_below (g := gb425) (o := .cells #[.int .i64 ((rd_T28 t421 x11_1).f0), .slice A424_1 ((rd_T28 t421 x11_1).f1).length c424_1, .bool ((rd_T28 t421 x11_1).f2), .bool ((rd_T28 t421 x11_1).f3), .int .i64 ((rd_T28 t421 x11_1).f4)] 28 (0, 0)) BK425.out hb); clear hb hcz_0 hfz_0 hcz_1 hfz_1 hcz_2 hfz_2 hcz_3 hfz_3 hcz_4 hfz_4; have hcz_0 : w14.cell? ⟨gb425, 0, none⟩ = some (.int .i64 ((rd_T28 t421 x11_1).f0)) := (blk_cell BK425.out 0).trans rfl; have hcz_1 : w14.cell? ⟨gb425, 1, none⟩ = some (.slice A424_1 ((rd_T28 t421 x11_1).f1).length c424_1) := (blk_cell BK425.out 1).trans rfl; have hcz_2 : w14.cell? ⟨gb425, 2, none⟩ = some (.bool ((rd_T28 t421 x11_1).f2)) := (blk_cell BK425.out 2).trans rfl; have hcz_3 : w14.cell? ⟨gb425, 3, none⟩ = some (.bool ((rd_T28 t421 x11_1).f3)) := (blk_cell BK425.out 3).trans rfl; have hcz_4 : w14.cell? ⟨gb425, 4, none⟩ = some (.int .i64 ((rd_T28 t421 x11_1).f4)) := (blk_cell BK425.out 4).trans rfl; have hfz_0 := blk_frozen BK425.out 0; have hfz_1 := blk_frozen BK425.out 1; have hfz_2 := blk_frozen BK425.out 2; have hfz_3 := blk_frozen BK425.out 3; have hfz_4 := blk_frozen BK425.out 4))
     go_roundg k1
     case measure => have := HK1.out; omega
     case rel =>
      refine ⟨_, (wrap64 (x11_1 + 1)), z5_1, rs_, H', ⟨by have := HK1.out; omega⟩, ⟨Kd.N_mono HO_5.out (fun _ _ => trivial)⟩, ⟨HT5.out.1, HT5.out.2.1, fun h0 z hz => ?_, hwn.1⟩, HB⟩
      have h1 := hwn.2 h0
      have := HT5.out.2.2.1 (of_eq_true p424) z hz
      omega
   rw [if_pos c9] at H
   have c9b0 : decide (a1 < ((rd_T28 t421 x11_1).f4)) = true := decide_eq_true c9
   clear c9
   by_cases c10 : x5_1.length < 2932031007402
   rotate_left
   · exact absurd H (by rw [if_neg c10]; simp)
   rw [if_pos c10] at H
   have LMc10 := Aside0.mk c10
   clear c10
   have H' := Aside0.mk H
   clear H
   go_wp2_with (first | ((with_reducible refine gate_dst (N := 7) rfl ?_); refine bx_ (N := 7) (cs := #[.int .i64 0, .slice none 0 0, .bool false, .bool false, .int .i64 0]) (t := 28) ?_; intro gb425 hg w11 hbox hb; replace HO_5 := A_ (Kd.N_below (Kd.N_elderB (vN_ HO_5.out) gb425 (Nat.le_of_eq hg.symm)) hb); have BK425 := A_ (hbox); have GE425 := A_ ((by rw [hg]; exact (below_size bB_)) : w4.heap.size ≤ gb425); replace HB := A_ (below_step bB_ hb); clear hb hbox hg; have hcz_0 : w11.cell? ⟨gb425, 0, none⟩ = some (.int .i64 0) := (blk_cell BK425.out 0).trans rfl; have hcz_1 : w11.cell? ⟨gb425, 1, none⟩ = some (.slice none 0 0) := (blk_cell BK425.out 1).trans rfl; have hcz_2 : w11.cell? ⟨gb425, 2, none⟩ = some (.bool false) := (blk_cell BK425.out 2).trans rfl; have hcz_3 : w11.cell? ⟨gb425, 3, none⟩ = some (.bool false) := (blk_cell BK425.out 3).trans rfl; have hcz_4 : w11.cell? ⟨gb425, 4, none⟩ = some (.int .i64 0) := (blk_cell BK425.out 4).trans rfl; have hfz_0 := blk_frozen BK425.out 0; have hfz_1 := blk_frozen BK425.out 1; have hfz_2 := blk_frozen BK425.out 2; have hfz_3 := blk_frozen BK425.out 3; have hfz_4 := blk_frozen BK425.out 4) | ((with_reducible refine gate_store (t := _) (p := _) (v := _) rfl ?_); apply box_store (g := gb425); (case hrun => first | (go_simp; done) | (go_simp; rfl)); (case _ho => rfl); (case hN => rfl); (case hgd => rfl); (case hs => repeat (first | (with_reducible exact Sto.refl _ _) | refine Sto.step ?_ _ _)); (case hb => repeat (first | (with_reducible exact IsBlk.of BK425.out) | (with_reducible apply IsBlk.set))); intro w13 hw' bk_; simp only [List.setIfInBounds_toArray, List.set_cons_zero, List.set_cons_succ] at bk_; replace HO_5 := A_ (stored_N hw' HO_5.out (fun _ hk => hk.2)); replace HB := A_ (stored_below hw' HB.out GE425.out); replace BK425 := A_ (bk_); clear bk_ hw' hcz_0 hfz_0 hcz_1 hfz_1 hcz_2 hfz_2 hcz_3 hfz_3 hcz_4 hfz_4; have hcz_0 : w13.cell? ⟨gb425, 0, none⟩ = some (.int .i64 ((rd_T28 t421 x11_1).f0)) := (blk_cell BK425.out 0).trans rfl; have hcz_1 : w13.cell? ⟨gb425, 1, none⟩ = some (.slice A424_1 ((rd_T28 t421 x11_1).f1).length c424_1) := (blk_cell BK425.out 1).trans rfl; have hcz_2 : w13.cell? ⟨gb425, 2, none⟩ = some (.bool ((rd_T28 t421 x11_1).f2)) := (blk_cell BK425.out 2).trans rfl; have hcz_3 : w13.cell? ⟨gb425, 3, none⟩ = some (.bool ((rd_T28 t421 x11_1).f3)) := (blk_cell BK425.out 3).trans rfl; have hcz_4 : w13.cell? ⟨gb425, 4, none⟩ = some (.int .i64 ((rd_T28 t421 x11_1).f4)) := (blk_cell BK425.out 4).trans rfl; have hfz_0 := blk_frozen BK425.out 0; have hfz_1 := blk_frozen BK425.out 1; have hfz_2 := blk_frozen BK425.out 2; have hfz_3 := blk_frozen BK425.out 3; have hfz_4 := blk_frozen BK425.out 4) | (go_at_call 72; refine (live_ask g _ _ a1 _ _ _ _ (HGA.out _ bB_)).mono ?_; rintro e w14 ⟨rfl, hb⟩; replace HO_5 := A_ (Kd.N_below (vN_ HO_5.out) hb); replace HB := A_ (below_step bB_ hb); replace BK425 := A_ (blk_below (g := gb425) (o := .cells #[.int .i64 ((rd_T28 t421 x11_1).f0), .slice A424_1 ((rd_T28 t421 x11_1).f1).length c424_1, .bool ((rd_T28 t421 x11_1).f2), .bool ((rd_T28 t421 x11_1).f3), .int .i64 ((rd_T28 t421 x11_1).f4)] 28 (0, 0)) BK425.out hb); clear hb hcz_0 hfz_0 hcz_1 hfz_1 hcz_2 hfz_2 hcz_3 hfz_3 hcz_4 hfz_4; have hcz_0 : w14.cell? ⟨gb425, 0, none⟩ = some (.int .i64 ((rd_T28 t421 x11_1).f0)) := (blk_cell BK425.out 0).trans rfl; have hcz_1 : w14.cell? ⟨gb425, 1, none⟩ = some (.slice A424_1 ((rd_T28 t421 x11_1).f1).length c424_1) := (blk_cell BK425.out 1).trans rfl; have hcz_2 : w14.cell? ⟨gb425, 2, none⟩ = some (.bool ((rd_T28 t421 x11_1).f2)) := (blk_cell BK425.out 2).trans rfl; have hcz_3 : w14.cell? ⟨gb425, 3, none⟩ = some (.bool ((rd_T28 t421 x11_1).f3)) := (blk_cell BK425.out 3).trans rfl; have hcz_4 : w14.cell? ⟨gb425, 4, none⟩ = some (.int .i64 ((rd_T28 t421 x11_1).f4)) := (blk_cell BK425.out 4).trans rfl; have hfz_0 := blk_frozen BK425.out 0; have hfz_1 := blk_frozen BK425.out 1; have hfz_2 := blk_frozen BK425.out 2; have hfz_3 := blk_frozen BK425.out 3; have hfz_4 := blk_frozen BK425.out 4) | ((with_reducible refine gate_builtin (b := .append) (xs := #[.tmp 18, .tmp 20]) rfl ?_); at_builtin; refine Kd.N_append (SR.fixT f_ w4 w.heap.size (fun k_ => k_ < w4.heap.size) k28) (w0 := w4) w4.heap.size rfl (.tmp 18) (.tmp 20) 39 28 (.agg #[(.int .i64 0), (.slice none 0 0), (.bool false), (.bool false), (.int .i64 0)]) 48 rfl Try.underlying39 info28 rfl (show 0 < k28.sz by decide) (by omega) u5 z5_1 ((⟨(rd_T28 t421 x11_1).f0, (rd_T28 t421 x11_1).f1, (rd_T28 t421 x11_1).f2, (rd_T28 t421 x11_1).f3, (rd_T28 t421 x11_1).f4⟩ : S28), x11_1.toNat) [.int .i64 ((rd_T28 t421 x11_1).f0), .slice A424_1 ((rd_T28 t421 x11_1).f1).length c424_1, .bool ((rd_T28 t421 x11_1).f2), .bool ((rd_T28 t421 x11_1).f3), .int .i64 ((rd_T28 t421 x11_1).f4)] (fun k_ => True ∧ k_ ≠ gb425) (fun k_ => k_ < w4.heap.size) rfl rfl ?aP ?aK ?aF ?aO ?aB ?aS ?aL ?_; (case aP => exact SR.FK_fix (d := k28) (Kd.FK_below (Kd.FK_mono (Kd.FK_of_M (d := k28) HM.out) (fun k_ h_ => h_.1.1)) HB.out) ((Kd.tag f_ k28).M_mono (fun k_ h_ => h_.1) HM.out)); (case aK => exact fun k_ h_ => ⟨⟨trivial, fun e_ => by have := GE425.out; omega⟩, fun e_ => by have := Kd.N_base HO_5.out k_ e_.symm; omega⟩); (case aF => exact fun k_ hk => ⟨trivial, fun e_ => by have := blk_lt BK425.out; omega⟩); (case aO => exact HO_5.out); (case aB => exact HB.out); (case aS => exact below_size HB.out); (case aL => have h_ := congrArg List.length HT5.out.1; rw [List.length_map] at h_; have := LMc10.out; omega); intro v427 w15 ho hb hg hat; have HO428 := Aside0.mk ho; have HBN := Aside0.mk hb; clear ho hb hg hat HB HO_5; have HB := HBN; clear HBN))
   go_roundg k1
   case measure => have := HK1.out; omega
   case rel =>
    refine ⟨_, (wrap64 (x11_1 + 1)), z5_1 ++ [((⟨(rd_T28 t421 x11_1).f0, (rd_T28 t421 x11_1).f1, (rd_T28 t421 x11_1).f2, (rd_T28 t421 x11_1).f3, (rd_T28 t421 x11_1).f4⟩ : S28), x11_1.toNat)], rs_, H', ⟨by have := HK1.out; omega⟩, ⟨Kd.N_mono HO428.out (fun _ _ => trivial)⟩, ⟨by rw [List.map_append, HT5.out.1]; rfl, ?_, ?_, hwn.1⟩, HB⟩
    · refine List.pairwise_append.2 ⟨HT5.out.2.1, List.pairwise_singleton _ _, fun a ha b hb => ?_⟩
      rw [List.mem_singleton.1 hb]
      have := HT5.out.2.2.1 (of_eq_true p424) a ha
      show a.2 < x11_1.toNat
      omega
    · intro h0 z hz
      have h1 := hwn.2 h0
      rcases List.mem_append.1 hz with hz | hz
      · have := HT5.out.2.2.1 (of_eq_true p424) z hz
        omega
      · rw [List.mem_singleton.1 hz]
        have := of_eq_true p424
        show ((x11_1.toNat : Nat) : Int) < _
        omega
set_option maxHeartbeats 16000000 in
set_option maxRecDepth 100000 in
theorem impl_LiveLocks.calls (k : Nat) (A0 : Option Addr) (c0 : Nat) (l0 : List (S28)) (a1 : Int) (r : List (S28)) (w : World) (hr0 : Kd.C k28 w A0 l0.length l0) (hc0 : l0.length ≤ c0) (h : impl_LiveLocks.f k l0 a1 = some r) :
 Calls Try.prog 37 #[.slice A0 l0.length c0, .int .i64 a1] w fun e w' => ∃ v0_ : Value, e = .returned (v0_) ∧ Kd.S k28 28 w' w.heap.size (fun _ => True) v0_ r ∧ Below w.heap.size w w' := by
 obtain ⟨t429, A2, H⟩ := Option.bind_eq_some_iff.mp h
 obtain rfl := Option.some.inj H
 have hw1 : (w.alloc (Obj.cells #[Value.int IntKind.i64 a1] 3 (0, 0))).cell? ⟨w.heap.size, 0, none⟩ = some (.int .i64 a1) := (blk_cell (blk_new w _) 0).trans rfl
 have hb1 := below_alloc (Below.refl w.heap.size w) (Obj.cells #[Value.int IntKind.i64 a1] 3 (0, 0))
 have HW1 := Aside0.mk hw1
 have HB1 := Aside0.mk hb1
 have HR1 := A_ (Kd.C_below hr0 hb1)
 clear hw1 hb1
 go_enter Try.func37, Try.ntmps37
 go_wp2_with (first | (go_at_call 71; refine (impl_keepLocks.calls k _ _ l0 a1 w.heap.size t429 _ HR1.out hc0 HW1.out A2).mono ?_; rintro e w5 ⟨v0, rfl, ho, hb⟩; have HO := Aside0.mk ho; have HBB := Aside0.mk hb; clear ho hb))
 go_ret
 exact ⟨_, rfl, Kd.S_lower HO.out (below_size HB1.out), below_step HB1.out HBB.out⟩
end Go.Proofs.Ytiddgglidkbipaa.Q
