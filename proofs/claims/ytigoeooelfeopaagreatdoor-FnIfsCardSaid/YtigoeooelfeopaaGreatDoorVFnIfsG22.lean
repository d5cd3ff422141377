-- PRINTED by print.py (a twelfth state) out of the translation. Not trusted: Lean checks it.
import Derived.Test.YtigoeooelfeopaaGreatDoorProg
import Derived.Below
import Derived.Deep.Draws
import Derived.Deep.AppendLies
import Derived.Maps.AppendAt
import Derived.OwnWalk
import Derived.Laws.BytesArg
import Derived.Laws.MakeOwn
import Derived.Laws.OwnMore
import Derived.Deep.OwnRows
import Derived.Tactics
import Derived.Lib.ConvBytes
import Derived.Laws.Slices
import Derived.WalkKit
import Derived.KernelRfl
import Derived.RowKit3
import Derived.Deep.LoopGhost
import Derived.Deep.QuietTactic
import Derived.BigQuiet
import Derived.WideLaws
import Derived.Deep.DeepCutAuto
import Derived.Deep.CutBlock
import Derived.Deep.RegionHeld3
import Derived.Laws.Rows
import Derived.Lib.AppendStr
import Derived.ArgAppend
import Derived.Laws.IdiomCopy
import Derived.OrdersHeld
import Derived.Laws.BitsLemmas
import Derived.RowKit
import Derived.Test.YtigoeooelfeopaaGreatDoorVFnIfsG12
import Derived.Test.YtigoeooelfeopaaGreatDoorVFnIfsWFour
import Derived.Test.YtigoeooelfeopaaGreatDoorVFnIfsWAt
import Derived.Test.YtigoeooelfeopaaGreatDoorVFnIfsWEqStruct
import Derived.Test.YtigoeooelfeopaaGreatDoorVFnIfsWRepsOne
import Derived.Test.YtigoeooelfeopaaGreatDoorVFnIfsWInvWords
import Derived.Test.YtigoeooelfeopaaGreatDoorVFnIfsWGuard
namespace Go.Proofs.YtigoeooelfeopaaGreatDoor.Q
open Go.RowKit Go.Proofs.YtigoeooelfeopaaGreatDoorW.PrintWords Go.Proofs.YtigoeooelfeopaaGreatDoorW.PrintLast Go.Proofs.YtigoeooelfeopaaGreatDoorW.PrintMore
attribute [local go_sem] max2_int min2_int max_two min_two max_three min_three max_four min_four   -- for this text's walks alone
set_option linter.unusedVariables false
set_option linter.unusedSimpArgs false
def errW : Option Int → Value
  | none => .nilIface
  | some c => .iface 0 (.int .i64 c)
theorem errW_none : errW none = .nilIface := rfl
theorem errW_some (c : Int) : errW (some c) = .iface 0 (.int .i64 c) := rfl
theorem info3 : (Tryz.prog.info? 3).map (fun i => (i.zero, i.size, i.bytes)) = some (some (.int .i64 0), 1, 8) := by kernel_rfl
theorem info9 : (Tryz.prog.info? 9).map (fun i => (i.zero, i.size, i.bytes)) = some (some (.string ⟨#[]⟩), 1, 16) := by kernel_rfl
theorem info41 : (Tryz.prog.info? 41).map (fun i => (i.zero, i.size, i.bytes)) = some (some (.slice none 0 0), 1, 24) := by kernel_rfl
theorem info43 : (Tryz.prog.info? 43).map (fun i => (i.zero, i.size, i.bytes)) = some (some (.agg #[(.bool false), (.int .i64 0), (.string ⟨#[]⟩)]), 3, 32) := by kernel_rfl
-- the values' own types
structure S43 where
  f0 : Bool
  f1 : Int
  f2 : ByteArray
def z43 : S43 := ⟨false, (0 : Int), (⟨#[]⟩ : ByteArray)⟩
def k43 : Kd S43 := Kd.iso (Kd.pair Kd.bool (Kd.pair (Kd.int .i64) Kd.string)) (fun x : S43 => (x.f0, x.f1, x.f2))
theorem k43_open {w : World} {x : S43} {cs : List Value} (h : k43.K w x cs) : cs = [.bool x.f0, .int .i64 x.f1, .string x.f2] := by
  obtain ⟨_, _, rfl, rfl, ⟨_, _, rfl, rfl, rfl⟩⟩ := h
  exact rfl
theorem k43_mkM (w : World) (base : Nat) (ok : Nat → Prop) (x : S43)  : k43.M w base ok x [.bool x.f0, .int .i64 x.f1, .string x.f2] := ⟨[.bool x.f0], [.int .i64 x.f1, .string x.f2], rfl, rfl, ⟨[.int .i64 x.f1], [.string x.f2], rfl, rfl, rfl⟩⟩
def rd_T43 (xs : List S43) (i : Int) : S43 := xs.getD i.toNat z43
theorem at_T43 {w : World} {A : Option Addr} {n : Nat} {xs : List S43} (h : Kd.C k43 w A n xs) (i : Int) (h0 : 0 ≤ i) (h1 : i < n) : ∃ ad , A = some ad ∧ w.cell? (ad.add (i.toNat * 3)) = some (.bool (rd_T43 xs i).f0) ∧ w.cell? ⟨(ad.add (i.toNat * 3)).block, (ad.add (i.toNat * 3)).off + 1, none⟩ = some (.int .i64 (rd_T43 xs i).f1) ∧ w.cell? ⟨(ad.add (i.toNat * 3)).block, (ad.add (i.toNat * 3)).off + 2, none⟩ = some (.string (rd_T43 xs i).f2) := by
  obtain ⟨ad, c, e, _, hK, hc0⟩ := Kd.C_get h z43 i h0 h1
  have hc : ∀ j u, c[j]? = some u → w.cell? (ad.add (i.toNat * 3 + j)) = some u := hc0
  obtain rfl := k43_open hK
  exact ⟨ad, e, hc 0 _ rfl, by rw [← add_field _ _ 1 (by omega)]; exact hc 1 _ rfl, by rw [← add_field _ _ 2 (by omega)]; exact hc 2 _ rfl⟩
def rd_L5 (xs : List (List S43)) (i : Int) : (List S43) := xs.getD i.toNat ([] : List S43)
theorem at_L5 {w : World} {A : Option Addr} {n : Nat} {xs : List (List S43)} (h : Kd.C (Kd.slice 43 k43) w A n xs) (i : Int) (h0 : 0 ≤ i) (h1 : i < n) : ∃ ad A0 c0, A = some ad ∧ w.cell? (ad.add i.toNat) = some (.slice A0 (rd_L5 xs i).length c0) ∧ (rd_L5 xs i).length ≤ c0 ∧ k43.C w A0 (rd_L5 xs i).length (rd_L5 xs i) := by
  obtain ⟨ad, c, e, _, hK, hc0⟩ := Kd.C_get h ([] : List S43) i h0 h1
  have hc : ∀ j u, c[j]? = some u → w.cell? (ad.add (i.toNat * 1 + j)) = some u := hc0
  obtain ⟨A0, c0, rfl, l0, g0⟩ := hK
  exact ⟨ad, A0, c0, e, by have hq := hc 0 _ rfl; rwa [Nat.mul_one, Nat.add_zero] at hq, l0, g0⟩
set_option maxHeartbeats 8000000
set_option maxRecDepth 100000
theorem bIQx20_ {P : Prop} (h : P := by repeat (first | (with_reducible first | exact HI0.out | apply IsS60.alloc | apply IsS60.drewN | apply IsS60.drew | apply IsS60.set_1 | apply IsS60.set_2) | exact HI0.out)) : P := h
theorem bIQx21_ {P : Prop} (h : P := by repeat (first | (with_reducible first | exact HB.out | apply below_alloc | apply pw_below_drewN | apply below_drew1 | refine below_set ?_ (IsS60.ge HI0.out)) | exact HB.out)) : P := h
def laws_big.f (l0 : List Int) : Option (Bool) := some (decide ((l0.length : Int) > 1048576))
theorem laws_big.calls (A0 : Option Addr) (c0 : Nat) (l0 : List Int) (r : Bool) (w : World) (hr0 : Kd.C (Kd.int .u8) w A0 l0.length l0) (hc0 : l0.length ≤ c0) (h : laws_big.f l0 = some r) :
 Calls Tryz.prog 4 #[.slice A0 l0.length c0] w fun e w' => e = .returned (.bool r) ∧ Drawn0 w w' := by
 have HR0 := A_ hr0
 have HC0 := A_ hc0
 clear hr0 hc0
 have H : (some (decide ((l0.length : Int) > 1048576))) = some r := h
 clear h
 obtain rfl := si_ H
 go_enter Tryz.func4, Tryz.ntmps4
 go_wp2
 go_ret
 exact ⟨rs_, dr_⟩
def IsS60 (w0 W : World) (g : Nat) (f0 : List Int) (f1 : Int) (f2 : Int) : Prop := ∃ A0 c0, W.heap[g]? = some (.cells #[.slice A0 f0.length c0, .int .i64 f1, .int .i64 f2] 60 (0, 0)) ∧ w0.heap.size ≤ g ∧ Kd.C (Kd.int .u8) w0 A0 f0.length f0
theorem IsS60.grown {w0 W : World} {g : Nat} {f0 : List Int} {f1 : Int} {f2 : Int} {W1 : World} {row : Option Nat} (h : IsS60 w0 W g f0 f1 f2) (hw : W.grownBy W1 row) (hne : some g ≠ row) : IsS60 w0 W1 g f0 f1 f2 := by
 obtain ⟨A0, c0, hb, hg, hr0⟩ := h
 exact ⟨A0, c0, blk_grown hb hw hne, hg, hr0⟩
theorem IsS60.kept {w0 W : World} {g : Nat} {f0 : List Int} {f1 : Int} {f2 : Int} {W1 : World} {S : Nat → Prop} (h : IsS60 w0 W g f0 f1 f2) (hk : Kept W W1 S) (hne : ¬ S g) : IsS60 w0 W1 g f0 f1 f2 := by
 obtain ⟨A0, c0, hb, hg, hr0⟩ := h
 exact ⟨A0, c0, blk_kept hb hk hne, hg, hr0⟩
theorem IsS60.below {w0 W : World} {g : Nat} {f0 : List Int} {f1 : Int} {f2 : Int} {W1 : World} (h : IsS60 w0 W g f0 f1 f2) (hw : Below W.heap.size W W1) : IsS60 w0 W1 g f0 f1 f2 := h.grown (grown_of_below hw none) (by simp)
theorem IsS60.alloc {w0 W : World} {g : Nat} {f0 : List Int} {f1 : Int} {f2 : Int} (h : IsS60 w0 W g f0 f1 f2) (o : Obj) : IsS60 w0 (W.alloc o) g f0 f1 f2 := h.below (below_alloc (Below.refl _ _) o)
theorem IsS60.drewN {w0 W : World} {g : Nat} {f0 : List Int} {f1 : Int} {f2 : Int} (h : IsS60 w0 W g f0 f1 f2) (m : Nat) : IsS60 w0 (W.drewN m) g f0 f1 f2 := h
theorem IsS60.drew {w0 W : World} {g : Nat} {f0 : List Int} {f1 : Int} {f2 : Int} (h : IsS60 w0 W g f0 f1 f2) : IsS60 w0 W.drew g f0 f1 f2 := h
theorem IsS60.apart {w0 W : World} {g : Nat} {f0 : List Int} {f1 : Int} {f2 : Int} {α : Type} {d : Kd α} {e : Nat} {base : Nat} {ok : Nat → Prop} {v : Value} {xs : List α} (h : IsS60 w0 W g f0 f1 f2) (ho : d.R e W base ok v xs) (ht : ∀ q, q ∈ e :: d.E → q ≠ 60) : d.R e W base (fun k => ok k ∧ k ≠ g) v xs := by
 obtain ⟨A0, c0, hb, hg, hr0⟩ := h
 exact Kd.R_types ho hb ht
theorem IsS60.own_ne {w0 W : World} {g : Nat} {f0 : List Int} {f1 : Int} {f2 : Int} {α : Type} {d : Kd α} {e : Nat} {base : Nat} {ok : Nat → Prop} {v : Value} {xs : List α} (h : IsS60 w0 W g f0 f1 f2) (ho : d.R e W base ok v xs) (ht : e ≠ 60) : some g ≠ v.ownBlock := by
 obtain ⟨A0, c0, hb, hg, hr0⟩ := h
 exact Kd.R_ne ho hb ht
theorem IsS60.apartS {w0 W : World} {g : Nat} {f0 : List Int} {f1 : Int} {f2 : Int} {α : Type} {d : Kd α} {e : Nat} {base : Nat} {ok : Nat → Prop} {v : Value} {xs : List α} (h : IsS60 w0 W g f0 f1 f2) (ho : d.S e W base ok v xs) (ht : ∀ q, q ∈ e :: d.E → q ≠ 60) : d.S e W base (fun k => ok k ∧ k ≠ g) v xs := by
 obtain ⟨A0, c0, hb, hg, hr0⟩ := h
 exact Kd.S_types ho hb ht
theorem IsS60.own_neS {w0 W : World} {g : Nat} {f0 : List Int} {f1 : Int} {f2 : Int} {α : Type} {d : Kd α} {e : Nat} {base : Nat} {ok : Nat → Prop} {v : Value} {xs : List α} (h : IsS60 w0 W g f0 f1 f2) (ho : d.S e W base ok v xs) (ht : e ≠ 60) : some g ≠ v.ownBlock := by
 obtain ⟨A0, c0, hb, hg, hr0⟩ := h
 exact Kd.S_ne ho hb ht
theorem IsS60.lt {w0 W : World} {g : Nat} {f0 : List Int} {f1 : Int} {f2 : Int} (h : IsS60 w0 W g f0 f1 f2) : g < W.heap.size := by
 obtain ⟨A0, c0, hb, hg, hr0⟩ := h
 exact blk_lt hb
theorem IsS60.ge {w0 W : World} {g : Nat} {f0 : List Int} {f1 : Int} {f2 : Int} (h : IsS60 w0 W g f0 f1 f2) : w0.heap.size ≤ g := by
 obtain ⟨A0, c0, hb, hg, hr0⟩ := h
 exact hg
theorem IsS60.far {w0 W : World} {g : Nat} {f0 : List Int} {f1 : Int} {f2 : Int} {p : Addr} (h : IsS60 w0 W g f0 f1 f2) (hne : g ≠ p.block) (u : Value) : IsS60 w0 (W.setCell p u) g f0 f1 f2 := by
 obtain ⟨A0, c0, hb, hg, hr0⟩ := h
 exact ⟨A0, c0, blk_far hb hne u, hg, hr0⟩
theorem cellS60_0 {W : World} {g : Nat} {A0 : Option Addr} {c0 : Nat} {f0 : List Int} {f1 : Int} {f2 : Int} (h : W.heap[g]? = some (.cells #[.slice A0 f0.length c0, .int .i64 f1, .int .i64 f2] 60 (0, 0))) : W.cell? ⟨g, 0, none⟩ = some (.slice A0 f0.length c0) := (blk_cell h 0).trans rfl
theorem cellS60_1 {W : World} {g : Nat} {A0 : Option Addr} {c0 : Nat} {f0 : List Int} {f1 : Int} {f2 : Int} (h : W.heap[g]? = some (.cells #[.slice A0 f0.length c0, .int .i64 f1, .int .i64 f2] 60 (0, 0))) : W.cell? ⟨g, 1, none⟩ = some (.int .i64 f1) := (blk_cell h 1).trans rfl
theorem IsS60.set_1 {w0 W : World} {g : Nat} {f0 : List Int} {f1 : Int} {f2 : Int} (h : IsS60 w0 W g f0 f1 f2) (x : Int) : IsS60 w0 (W.setCell ⟨g, 1, none⟩ (.int .i64 x)) g f0 x f2 := by
 obtain ⟨A0, c0, hb, hg, hr0⟩ := h
 exact ⟨A0, c0, by simpa using blk_set hb 1 (.int .i64 x), hg, hr0⟩
theorem cellS60_2 {W : World} {g : Nat} {A0 : Option Addr} {c0 : Nat} {f0 : List Int} {f1 : Int} {f2 : Int} (h : W.heap[g]? = some (.cells #[.slice A0 f0.length c0, .int .i64 f1, .int .i64 f2] 60 (0, 0))) : W.cell? ⟨g, 2, none⟩ = some (.int .i64 f2) := (blk_cell h 2).trans rfl
theorem IsS60.set_2 {w0 W : World} {g : Nat} {f0 : List Int} {f1 : Int} {f2 : Int} (h : IsS60 w0 W g f0 f1 f2) (x : Int) : IsS60 w0 (W.setCell ⟨g, 2, none⟩ (.int .i64 x)) g f0 f1 x := by
 obtain ⟨A0, c0, hb, hg, hr0⟩ := h
 exact ⟨A0, c0, by simpa using blk_set hb 2 (.int .i64 x), hg, hr0⟩
theorem IsS60.new (w0 W : World) (A0 : Option Addr) (c0 : Nat) (f0 : List Int) (f1 : Int) (f2 : Int) (hB : Below w0.heap.size w0 W) (hr0 : Kd.C (Kd.int .u8) w0 A0 f0.length f0) : IsS60 w0 (W.alloc (.cells #[.slice A0 f0.length c0, .int .i64 f1, .int .i64 f2] 60)) W.heap.size f0 f1 f2 := ⟨A0, c0, by simpa using heap_alloc_new W _, hB.size, hr0⟩
def spec_l1New.l0 : Nat → List Int → Int → Int → Option (List Int × Int × Int)
 | 0, _, _, _ => none
 | k + 1, x0, x3, x4 => if x4 < (x0.length : Int) then (if x4 < 4000 then (if 0 ≤ x4 then (spec_l1New.l0 k x0 (Go.bits .and .i64 (wrap64 ((wrap64 ((wrap64 (x3 * 137)) + (wrap64 (rd x0 x4)))) + 11)) 1073741823) (wrap64 (x4 + 1))) else (none)) else (some (x0, 0, x3))) else (some (x0, 0, x3))
def spec_l1New.f (k : Nat) (l0 : List Int) : Option (List Int × Int × Int) := spec_l1New.l0 k l0 (wrap64 (774774 + (l0.length : Int))) 0
theorem spec_l1New.calls (k : Nat) (A0 : Option Addr) (c0 : Nat) (l0 : List Int) (r1 : List Int) (r2 : Int) (r3 : Int) (w0 w : World) (hB : Below w0.heap.size w0 w) (hr0 : Kd.C (Kd.int .u8) w0 A0 l0.length l0) (hc0 : l0.length ≤ c0) (h : spec_l1New.f k l0 = some (r1, r2, r3)) :
 Calls Tryz.prog 19 #[.slice A0 l0.length c0] w fun e w' => ∃ g_ : Nat, e = .returned (.pointer (some ⟨g_, 0, none⟩)) ∧ IsS60 w0 w' g_ r1 r2 r3 ∧ Below w0.heap.size w0 w' ∧ Below w.heap.size w w' := by
 have hu60 := Tryz.underlying60
 have HR0 := A_ hr0
 have HC0 := A_ hc0
 clear hr0 hc0
 have HBW := A_ (Below.refl w.heap.size w)
 have HW0 := A_ hB.size
 have HB := A_ hB
 clear hB
 have H : (spec_l1New.l0 k l0 (wrap64 (774774 + (l0.length : Int))) 0) = some (r1, r2, r3) := h
 clear h
 have H' := A_ H
 clear H
 go_enter Tryz.func19, Tryz.ntmps19
 go_wp2
 go_loopg [3, 4] k (fun kq v3 v4 w' => ∃ (x3_1 : Int) (x4_1 : Int), v3 = .int .i64 x3_1 ∧ v4 = .int .i64 x4_1 ∧ Aside0 (spec_l1New.l0 kq l0 x3_1 x4_1 = some (r1, r2, r3)) ∧ Aside0 (kq ≤ k) ∧ Aside0 (Below w0.heap.size w0 w') ∧ Aside0 (Below w.heap.size w w'))
 case atStart => exact ⟨(wrap64 (774774 + (l0.length : Int))), (0), rs_, rs_, H', ⟨Nat.le_refl _⟩, ⟨bB_⟩, ⟨by repeat (first | (with_reducible first | exact HBW.out | apply below_alloc | apply pw_below_drewN | apply below_drew1) | exact HBW.out)⟩⟩
 case round =>
  clear H'
  try clear c1
  obtain ⟨x3_1, x4_1, rfl, rfl, HA, HK1, HB, HBW⟩ := hrel
  cases gk with
  | zero => exact absurd HA.out (by simp [spec_l1New.l0])
  | succ k1 =>
   have H := HA.out
   clear HA
   simp only [spec_l1New.l0] at H
   by_cases c2 : x4_1 < (l0.length : Int)
   rotate_left
   · rw [if_neg c2] at H
     have c2b0 : decide (x4_1 < (l0.length : Int)) = false := decide_eq_false c2
     clear c2
     simp only [Option.some.injEq, Prod.mk.injEq] at H
     obtain ⟨rfl, rfl, rfl⟩ := H
     go_wp2_with (first | ((with_reducible refine gd_ (N := 31) rfl ?_); refine bx_ (N := 31) (cs := #[.slice A0 l0.length c0, .int .i64 0, .int .i64 x3_1]) (t := 60) ?_; intro gb103 hg w6 hbox hb; replace HB := A_ (below_step bB_ hb); have BK103 := A_ (hbox); have GW103 := A_ ((by rw [hg]; exact (below_size (by repeat (first | (with_reducible first | exact HBW.out | apply below_alloc | apply pw_below_drewN | apply below_drew1) | exact HBW.out))) : w.heap.size ≤ gb103)); have GE103 := A_ ((Nat.le_trans HW0.out (by rw [hg]; exact (below_size (by repeat (first | (with_reducible first | exact HBW.out | apply below_alloc | apply pw_below_drewN | apply below_drew1) | exact HBW.out))) : w.heap.size ≤ gb103) : w0.heap.size ≤ gb103)); replace HBW := A_ (below_step HBW.out hb); clear hb hbox hg))
     go_ret
     exact ⟨_, rfl, (show IsS60 w0 _ gb103 l0 0 x3_1 from ⟨_, _, by (with_reducible repeat (first | refine blk_drewN ?_ _ | refine blk_drew ?_ | refine blk_alloc ?_ _)); exact BK103.out, GE103.out, HR0.out⟩), bG_ GE103.out, by repeat (first | (with_reducible first | exact HBW.out | apply below_alloc | apply pw_below_drewN | apply below_drew1 | refine below_set ?_ GW103.out) | exact HBW.out)⟩
   rw [if_pos c2] at H
   have c2b0 : decide (x4_1 < (l0.length : Int)) = true := decide_eq_true c2
   clear c2
   by_cases c3 : x4_1 < 4000
   · rw [if_pos c3] at H
     have c3b0 : decide (x4_1 < 4000) = true := decide_eq_true c3
     clear c3
     by_cases c4 : 0 ≤ x4_1
     rotate_left
     · exact absurd H (by rw [if_neg c4]; simp)
     rw [if_pos c4] at H
     have c4b0 : decide (0 ≤ x4_1) = true := decide_eq_true c4
     clear c4
     have H' := A_ H
     clear H
     have p101 : 0 ≤ (x4_1 : Int) := od_
     have q101 : x4_1 < (l0.length : Int) := od_
     obtain ⟨ad101, e101, hx101_0⟩ := Kd.at_int HR0.out x4_1 p101 q101
     cases e101
     replace hx101_0 := pw_cell_below HB.out hx101_0
     replace p101 := eq_true p101
     replace q101 := eq_true q101
     go_wp2
     go_roundg k1
     case measure => have := HK1.out; omega
     case rel => exact ⟨(Go.bits .and .i64 (wrap64 ((wrap64 ((wrap64 (x3_1 * 137)) + (wrap64 (rd l0 x4_1)))) + 11)) 1073741823), (wrap64 (x4_1 + 1)), rs_, rs_, H', ⟨by have := HK1.out; omega⟩, ⟨bB_⟩, ⟨by repeat (first | (with_reducible first | exact HBW.out | apply below_alloc | apply pw_below_drewN | apply below_drew1) | exact HBW.out)⟩⟩
   rw [if_neg c3] at H
   have c3b0 : decide (x4_1 < 4000) = false := decide_eq_false c3
   clear c3
   simp only [Option.some.injEq, Prod.mk.injEq] at H
   obtain ⟨rfl, rfl, rfl⟩ := H
   go_wp2_with (first | ((with_reducible refine gd_ (N := 31) rfl ?_); refine bx_ (N := 31) (cs := #[.slice A0 l0.length c0, .int .i64 0, .int .i64 x3_1]) (t := 60) ?_; intro gb102 hg w5 hbox hb; replace HB := A_ (below_step bB_ hb); have BK102 := A_ (hbox); have GW102 := A_ ((by rw [hg]; exact (below_size (by repeat (first | (with_reducible first | exact HBW.out | apply below_alloc | apply pw_below_drewN | apply below_drew1) | exact HBW.out))) : w.heap.size ≤ gb102)); have GE102 := A_ ((Nat.le_trans HW0.out (by rw [hg]; exact (below_size (by repeat (first | (with_reducible first | exact HBW.out | apply below_alloc | apply pw_below_drewN | apply below_drew1) | exact HBW.out))) : w.heap.size ≤ gb102) : w0.heap.size ≤ gb102)); replace HBW := A_ (below_step HBW.out hb); clear hb hbox hg))
   go_ret
   exact ⟨_, rfl, (show IsS60 w0 _ gb102 l0 0 x3_1 from ⟨_, _, by (with_reducible repeat (first | refine blk_drewN ?_ _ | refine blk_drew ?_ | refine blk_alloc ?_ _)); exact BK102.out, GE102.out, HR0.out⟩), bG_ GE102.out, by repeat (first | (with_reducible first | exact HBW.out | apply below_alloc | apply pw_below_drewN | apply below_drew1 | refine below_set ?_ GW102.out) | exact HBW.out)⟩
def spec_l1Byte.f (s0_0 : List Int) (s0_1 : Int) (s0_2 : Int) : Option (Int × Int × Int) := if s0_1 < (s0_0.length : Int) then (if 0 ≤ s0_1 then (some (Go.bits .and .i64 (wrap64 ((Go.bits .and .i64 (Go.bits .xor .i64 ((wrap64 ((wrap64 (s0_2 * 6364136223846793005)) + 1442695040888963407)) / 8589934592) ((wrap64 ((wrap64 (s0_2 * 6364136223846793005)) + 1442695040888963407)) / 140737488355328)) 255) + (wrap64 (rd s0_0 s0_1)))) 255, wrap64 (s0_1 + 1), wrap64 ((wrap64 (s0_2 * 6364136223846793005)) + 1442695040888963407))) else (none)) else (some (Go.bits .and .i64 (Go.bits .xor .i64 ((wrap64 ((wrap64 (s0_2 * 6364136223846793005)) + 1442695040888963407)) / 8589934592) ((wrap64 ((wrap64 (s0_2 * 6364136223846793005)) + 1442695040888963407)) / 140737488355328)) 255, s0_1, wrap64 ((wrap64 (s0_2 * 6364136223846793005)) + 1442695040888963407)))
theorem spec_l1Byte.calls (g : Nat) (s0_0 : List Int) (s0_1 : Int) (s0_2 : Int) (r1 : Int) (r2 : Int) (r3 : Int) (w0 w : World) (hI : IsS60 w0 w g s0_0 s0_1 s0_2) (hB : Below w0.heap.size w0 w) (h : spec_l1Byte.f s0_0 s0_1 s0_2 = some (r1, r2, r3)) :
 Calls Tryz.prog 43 #[.pointer (some ⟨g, 0, none⟩)] w fun e w' => e = .returned (.int .i64 r1) ∧ IsS60 w0 w' g s0_0 r2 r3 ∧ Below w0.heap.size w0 w' ∧ KeepBut w w' g none := by
 have HI0 := A_ hI
 have HK := A_ (KeepBut.refl w g none)
 have HL := A_ hB.size
 clear hI
 have HW0 := A_ hB.size
 have HB := A_ hB
 clear hB
 have H : (if s0_1 < (s0_0.length : Int) then (if 0 ≤ s0_1 then (some (Go.bits .and .i64 (wrap64 ((Go.bits .and .i64 (Go.bits .xor .i64 ((wrap64 ((wrap64 (s0_2 * 6364136223846793005)) + 1442695040888963407)) / 8589934592) ((wrap64 ((wrap64 (s0_2 * 6364136223846793005)) + 1442695040888963407)) / 140737488355328)) 255) + (wrap64 (rd s0_0 s0_1)))) 255, wrap64 (s0_1 + 1), wrap64 ((wrap64 (s0_2 * 6364136223846793005)) + 1442695040888963407))) else (none)) else (some (Go.bits .and .i64 (Go.bits .xor .i64 ((wrap64 ((wrap64 (s0_2 * 6364136223846793005)) + 1442695040888963407)) / 8589934592) ((wrap64 ((wrap64 (s0_2 * 6364136223846793005)) + 1442695040888963407)) / 140737488355328)) 255, s0_1, wrap64 ((wrap64 (s0_2 * 6364136223846793005)) + 1442695040888963407)))) = some (r1, r2, r3) := h
 clear h
 by_cases c2 : s0_1 < (s0_0.length : Int)
 rotate_left
 · rw [if_neg c2] at H
   have c2b0 : decide (s0_1 < (s0_0.length : Int)) = false := decide_eq_false c2
   clear c2
   simp only [Option.some.injEq, Prod.mk.injEq] at H
   obtain ⟨rfl, rfl, rfl⟩ := H
   obtain ⟨ASz5_0, cSz5_0, HGz5, hgz5, HSz5_0⟩ := HI0.out
   have hcz5_0 := cellS60_0 HGz5
   have hcz5_1 := cellS60_1 HGz5
   have hcz5_2 := cellS60_2 HGz5
   have hfz5_1 := blk_frozen HGz5 1
   have hfz5_2 := blk_frozen HGz5 2
   clear HGz5 hgz5
   go_enter Tryz.func43, Tryz.ntmps43
   go_wp2
   repeat (go_quiet (fail); try go_wp2)
   go_ret
   exact ⟨rr_, bIQx20_, bIQx21_, bK_⟩
 rw [if_pos c2] at H
 have c2b0 : decide (s0_1 < (s0_0.length : Int)) = true := decide_eq_true c2
 clear c2
 by_cases c3 : 0 ≤ s0_1
 rotate_left
 · exact absurd H (by rw [if_neg c3]; simp)
 rw [if_pos c3] at H
 have c3b0 : decide (0 ≤ s0_1) = true := decide_eq_true c3
 clear c3
 simp only [Option.some.injEq, Prod.mk.injEq] at H
 obtain ⟨rfl, rfl, rfl⟩ := H
 obtain ⟨ASz4_0, cSz4_0, HGz4, hgz4, HSz4_0⟩ := HI0.out
 have hcz4_0 := cellS60_0 HGz4
 have hcz4_1 := cellS60_1 HGz4
 have hcz4_2 := cellS60_2 HGz4
 have hfz4_1 := blk_frozen HGz4 1
 have hfz4_2 := blk_frozen HGz4 2
 clear HGz4 hgz4
 have p104 : 0 ≤ (s0_1 : Int) := od_
 have q104 : s0_1 < (s0_0.length : Int) := od_
 obtain ⟨ad104, e104, hx104_0⟩ := Kd.at_int HSz4_0 s0_1 p104 q104
 cases e104
 have hn104_0 : ad104.block ≠ g := Nat.ne_of_lt (Nat.lt_of_lt_of_le (by have := World.block_lt_of_cell? _ _ hx104_0; first | rwa [add_block] at this | exact this) (IsS60.ge HI0.out))
 replace hx104_0 := pw_cell_below HB.out hx104_0
 replace hx104_0 := (cell_far (p := ⟨g, 2, none⟩) (by first | (rw [add_block]; exact hn104_0) | (show (Addr.add _ _).block ≠ _; rw [add_block]; exact hn104_0) | exact hn104_0) (.int .i64 (wrap64 ((wrap64 (s0_2 * 6364136223846793005)) + 1442695040888963407)))).trans hx104_0
 (try have hy104_0 := fun (n_ : Nat) => (show (((w.drewN n_).setCell ⟨g, 2, none⟩ (.int .i64 (wrap64 ((wrap64 (s0_2 * 6364136223846793005)) + 1442695040888963407))))).cell? _ = some _ from hx104_0))
 clear hn104_0
 replace p104 := eq_true p104
 replace q104 := eq_true q104
 go_enter Tryz.func43, Tryz.ntmps43
 go_wp2
 repeat (go_quiet (fail); try go_wp2)
 go_ret
 exact ⟨rr_, bIQx20_, bIQx21_, bK_⟩
def spec_l1Below.f (s0_0 : List Int) (s0_1 : Int) (s0_2 : Int) (a1 : Int) : Option (Int × Int × Int) := if a1 ≤ 0 then (some (0, s0_1, s0_2)) else (if a1 ≤ 256 then ((spec_l1Byte.f s0_0 s0_1 s0_2).bind fun bt105 => (if a1 = 0 then (none) else (some (Int.tmod bt105.1 a1, bt105.2.1, bt105.2.2)))) else ((spec_l1Byte.f s0_0 s0_1 s0_2).bind fun bt108 => ((spec_l1Byte.f s0_0 bt108.2.1 bt108.2.2).bind fun bt111 => ((spec_l1Byte.f s0_0 bt111.2.1 bt111.2.2).bind fun bt114 => (if a1 = 0 then (none) else (some (Int.tmod (wrap64 ((wrap64 ((wrap64 (bt108.1 * 65536)) + (wrap64 (bt111.1 * 256)))) + bt114.1)) a1, bt114.2.1, bt114.2.2)))))))
theorem spec_l1Below.calls (g : Nat) (s0_0 : List Int) (s0_1 : Int) (s0_2 : Int) (a1 : Int) (r1 : Int) (r2 : Int) (r3 : Int) (w0 w : World) (hI : IsS60 w0 w g s0_0 s0_1 s0_2) (hB : Below w0.heap.size w0 w) (h : spec_l1Below.f s0_0 s0_1 s0_2 a1 = some (r1, r2, r3)) :
 Calls Tryz.prog 25 #[.pointer (some ⟨g, 0, none⟩), .int .i64 a1] w fun e w' => e = .returned (.int .i64 r1) ∧ IsS60 w0 w' g s0_0 r2 r3 ∧ Below w0.heap.size w0 w' ∧ KeepBut w w' g none := by
 have HI0 := A_ hI
 have HK := A_ (KeepBut.refl w g none)
 have HL := A_ hB.size
 clear hI
 have HW0 := A_ hB.size
 have HB := A_ hB
 clear hB
 have H : (if a1 ≤ 0 then (some (0, s0_1, s0_2)) else (if a1 ≤ 256 then ((spec_l1Byte.f s0_0 s0_1 s0_2).bind fun bt105 => (if a1 = 0 then (none) else (some (Int.tmod bt105.1 a1, bt105.2.1, bt105.2.2)))) else ((spec_l1Byte.f s0_0 s0_1 s0_2).bind fun bt108 => ((spec_l1Byte.f s0_0 bt108.2.1 bt108.2.2).bind fun bt111 => ((spec_l1Byte.f s0_0 bt111.2.1 bt111.2.2).bind fun bt114 => (if a1 = 0 then (none) else (some (Int.tmod (wrap64 ((wrap64 ((wrap64 (bt108.1 * 65536)) + (wrap64 (bt111.1 * 256)))) + bt114.1)) a1, bt114.2.1, bt114.2.2)))))))) = some (r1, r2, r3) := h
 clear h
 by_cases c3 : a1 ≤ 0
 · rw [if_pos c3] at H
   have c3b0 : decide (a1 ≤ 0) = true := decide_eq_true c3
   clear c3
   simp only [Option.some.injEq, Prod.mk.injEq] at H
   obtain ⟨rfl, rfl, rfl⟩ := H
   go_enter Tryz.func25, Tryz.ntmps25
   go_wp2
   go_ret
   exact ⟨rr_, bIQx20_, bIQx21_, bK_⟩
 rw [if_neg c3] at H
 have c3b0 : decide (a1 ≤ 0) = false := decide_eq_false c3
 clear c3
 by_cases c4 : a1 ≤ 256
 · rw [if_pos c4] at H
   have c4b0 : decide (a1 ≤ 256) = true := decide_eq_true c4
   clear c4
   obtain ⟨⟨t105, t106, t107⟩, A5, H⟩ := bo_ H
   (try dsimp only at H)
   by_cases c6 : a1 = 0
   · rw [if_pos c6] at H
     exact absurd H (by simp)
   rw [if_neg c6] at H
   have c6b0 : (a1 == 0) = false := beq_eq_false_iff_ne.mpr c6
   have c6b1 : (a1 != 0) = true := bne_iff_ne.mpr c6
   simp only [Option.some.injEq, Prod.mk.injEq] at H
   obtain ⟨rfl, rfl, rfl⟩ := H
   go_enter Tryz.func25, Tryz.ntmps25
   go_wp2_with (first | ((with_reducible refine gc_ (f := 43) rfl ?_); refine gL_ (some 13) Tryz.func43 #[.pointer (some ⟨g, 0, none⟩)] ?_; (with_reducible refine (spec_l1Byte.calls g s0_0 s0_1 s0_2 t105 t106 t107 w0 _ ?s1 ?s2 A5.out).mono ?_); (case s1 => exact bIQx20_); (case s2 => exact bIQx21_); rintro e w7 ⟨rfl, hi, hb, hk⟩; refine ⟨_, rfl, ?_⟩; replace HK := A_ (KeepBut.trans bK_ hk (.inl rfl)); replace HB := A_ (hb); replace HI0 := A_ (hi); (try clear hb); (try clear hk); (try clear hi)))
   go_ret
   exact ⟨rr_, bIQx20_, bIQx21_, bK_⟩
 rw [if_neg c4] at H
 have c4b0 : decide (a1 ≤ 256) = false := decide_eq_false c4
 clear c4
 obtain ⟨⟨t108, t109, t110⟩, A8, H⟩ := bo_ H
 (try dsimp only at H)
 obtain ⟨⟨t111, t112, t113⟩, A9, H⟩ := bo_ H
 (try dsimp only at H)
 obtain ⟨⟨t114, t115, t116⟩, A10, H⟩ := bo_ H
 (try dsimp only at H)
 by_cases c11 : a1 = 0
 · rw [if_pos c11] at H
   exact absurd H (by simp)
 rw [if_neg c11] at H
 have c11b0 : (a1 == 0) = false := beq_eq_false_iff_ne.mpr c11
 have c11b1 : (a1 != 0) = true := bne_iff_ne.mpr c11
 simp only [Option.some.injEq, Prod.mk.injEq] at H
 obtain ⟨rfl, rfl, rfl⟩ := H
 go_enter Tryz.func25, Tryz.ntmps25
 go_wp2_with (first | ((with_reducible refine gc_ (f := 43) rfl ?_); refine gL_ (some 17) Tryz.func43 #[.pointer (some ⟨g, 0, none⟩)] ?_; (with_reducible refine (spec_l1Byte.calls g s0_0 s0_1 s0_2 t108 t109 t110 w0 _ ?s1 ?s2 A8.out).mono ?_); (case s1 => exact bIQx20_); (case s2 => exact bIQx21_); rintro e w12 ⟨rfl, hi, hb, hk⟩; refine ⟨_, rfl, ?_⟩; replace HK := A_ (KeepBut.trans bK_ hk (.inl rfl)); replace HB := A_ (hb); replace HI0 := A_ (hi); (try clear hb); (try clear hk); (try clear hi)) | ((with_reducible refine gc_ (f := 43) rfl ?_); refine gL_ (some 19) Tryz.func43 #[.pointer (some ⟨g, 0, none⟩)] ?_; (with_reducible refine (spec_l1Byte.calls g s0_0 t109 t110 t111 t112 t113 w0 _ ?s1 ?s2 A9.out).mono ?_); (case s1 => exact bIQx20_); (case s2 => exact bIQx21_); rintro e w13 ⟨rfl, hi, hb, hk⟩; refine ⟨_, rfl, ?_⟩; replace HK := A_ (KeepBut.trans bK_ hk (.inl rfl)); replace HB := A_ (hb); replace HI0 := A_ (hi); (try clear hb); (try clear hk); (try clear hi)) | ((with_reducible refine gc_ (f := 43) rfl ?_); refine gL_ (some 21) Tryz.func43 #[.pointer (some ⟨g, 0, none⟩)] ?_; (with_reducible refine (spec_l1Byte.calls g s0_0 t112 t113 t114 t115 t116 w0 _ ?s1 ?s2 A10.out).mono ?_); (case s1 => exact bIQx20_); (case s2 => exact bIQx21_); rintro e w14 ⟨rfl, hi, hb, hk⟩; refine ⟨_, rfl, ?_⟩; replace HK := A_ (KeepBut.trans bK_ hk (.inl rfl)); replace HB := A_ (hb); replace HI0 := A_ (hi); (try clear hb); (try clear hk); (try clear hi)))
 go_ret
 exact ⟨rr_, bIQx20_, bIQx21_, bK_⟩
def spec_l1Once.f (s0_0 : List Int) (s0_1 : Int) (s0_2 : Int) (a1 : Int) : Option (Bool × Int × Int) := (spec_l1Below.f s0_0 s0_1 s0_2 a1).bind fun bt117 => (some ((bt117.1 == 0), bt117.2.1, bt117.2.2))
theorem spec_l1Once.calls (g : Nat) (s0_0 : List Int) (s0_1 : Int) (s0_2 : Int) (a1 : Int) (r1 : Bool) (r2 : Int) (r3 : Int) (w0 w : World) (hI : IsS60 w0 w g s0_0 s0_1 s0_2) (hB : Below w0.heap.size w0 w) (h : spec_l1Once.f s0_0 s0_1 s0_2 a1 = some (r1, r2, r3)) :
 Calls Tryz.prog 41 #[.pointer (some ⟨g, 0, none⟩), .int .i64 a1] w fun e w' => e = .returned (.bool r1) ∧ IsS60 w0 w' g s0_0 r2 r3 ∧ Below w0.heap.size w0 w' ∧ KeepBut w w' g none := by
 have HI0 := A_ hI
 have HK := A_ (KeepBut.refl w g none)
 have HL := A_ hB.size
 clear hI
 have HW0 := A_ hB.size
 have HB := A_ hB
 clear hB
 have H : ((spec_l1Below.f s0_0 s0_1 s0_2 a1).bind fun bt117 => (some ((bt117.1 == 0), bt117.2.1, bt117.2.2))) = some (r1, r2, r3) := h
 clear h
 obtain ⟨⟨t117, t118, t119⟩, A3, H⟩ := bo_ H
 (try dsimp only at H)
 simp only [Option.some.injEq, Prod.mk.injEq] at H
 obtain ⟨rfl, rfl, rfl⟩ := H
 go_enter Tryz.func41, Tryz.ntmps41
 go_wp2_with (first | ((with_reducible refine gc_ (f := 25) rfl ?_); refine gL_ (some 7) Tryz.func25 #[.pointer (some ⟨g, 0, none⟩), .int .i64 a1] ?_; (with_reducible refine (spec_l1Below.calls g s0_0 s0_1 s0_2 a1 t117 t118 t119 w0 _ ?s1 ?s2 A3.out).mono ?_); (case s1 => exact bIQx20_); (case s2 => exact bIQx21_); rintro e w4 ⟨rfl, hi, hb, hk⟩; refine ⟨_, rfl, ?_⟩; replace HK := A_ (KeepBut.trans bK_ hk (.inl rfl)); replace HB := A_ (hb); replace HI0 := A_ (hi); (try clear hb); (try clear hk); (try clear hi)))
 go_ret
 exact ⟨rr_, bIQx20_, bIQx21_, bK_⟩
mutual
def spec_NumText.j0 : Nat → Int → Option (ByteArray)
 | 0, _ => none
 | k + 1, x0 => spec_NumText.l0 k x0 (strOfNums (([(wrap64 (48 + (Int.tmod x0 10))) % 256] : List Int)))
def spec_NumText.l0 : Nat → Int → ByteArray → Option (ByteArray)
 | 0, _, _ => none
 | k + 1, x0, x3 => if x0 > 9 then ((some (([(wrap64 (48 + (Int.tmod (wrap64 (Int.tdiv x0 10)) 10))) % 256] : List Int) : List Int)).bind fun y123 => (if (strOfNums y123).size + x3.size ≤ 9223372036854775807 then (spec_NumText.l0 k (wrap64 (Int.tdiv x0 10)) ((strOfNums y123) ++ x3)) else (none))) else (some x3)
end
def spec_NumText.f (k : Nat) (a0 : Int) : Option (ByteArray) := if a0 < 0 then (spec_NumText.j0 k 0) else (spec_NumText.j0 k a0)
theorem spec_NumText.calls (k : Nat) (a0 : Int) (r : ByteArray) (w : World) (h : spec_NumText.f k a0 = some r) :
 Calls Tryz.prog 53 #[.int .i64 a0] w fun e w' => e = .returned (.string r) ∧ Below w.heap.size w w' := by
 have HB := A_ (Below.refl w.heap.size w)
 have H : (if a0 < 0 then (spec_NumText.j0 k 0) else (spec_NumText.j0 k a0)) = some r := h
 clear h
 have HC2 := A_ H
 clear H
 go_enter Tryz.func53, Tryz.ntmps53
 go_upto_if 5 with (fail)
 go_cut [0] (fun v0 wc => ∃ (kq : Nat) (x0_1 : Int), v0 = .int .i64 x0_1 ∧ Aside0 (spec_NumText.j0 kq x0_1 = some r) ∧ Aside0 (kq ≤ k) ∧ Aside0 (Below w.heap.size w wc))
 case first =>
  have H := HC2.out
  clear HC2
  by_cases c3 : a0 < 0
  · rw [if_pos c3] at H
    have c3b0 : decide (a0 < 0) = true := decide_eq_true c3
    clear c3
    (first | rw [c3b0] | (simp only [i64_w, i32_w]; rw [c3b0]) | skip)
    have H' := A_ H
    clear H
    go_wp2
    go_meet
    case rel => exact ⟨_, (0), rs_, H', ⟨by first | omega | exact Nat.le_refl _⟩, ⟨bB_⟩⟩
  rw [if_neg c3] at H
  have c3b0 : decide (a0 < 0) = false := decide_eq_false c3
  clear c3
  (first | rw [c3b0] | (simp only [i64_w, i32_w]; rw [c3b0]) | skip)
  have H' := A_ H
  clear H
  go_wp2
  go_meet
  case rel => exact ⟨_, (a0), rs_, H', ⟨by first | omega | exact Nat.le_refl _⟩, ⟨bB_⟩⟩
 case rest =>
  clear HC2
  try clear p2
  try clear c3
  try clear c3b0
  obtain ⟨kq, x0_1, rfl, HA, HJ1, HB⟩ := hcut
  cases kq with
  | zero => exact absurd HA.out (by simp [spec_NumText.j0])
  | succ kj1 =>
   have H := HA.out
   clear HA
   simp only [spec_NumText.j0] at H
   obtain ⟨y120, hy120⟩ : ∃ y_ : List Int, y_ = (([(wrap64 (48 + (Int.tmod x0_1 10))) % 256] : List Int)) := ⟨_, rfl⟩
   replace H : (spec_NumText.l0 kj1 x0_1 (strOfNums y120)) = some r := hy_ hy120 H
   have Ny120 := A_ hy120
   clear hy120
   have H' := A_ H
   clear H
   go_wp2_with (first | ((with_reducible refine gd_ (N := 10) rfl ?_); refine Kd.R_lit (Kd.int .u8) _ 5 ?hg (N := 10) ?hd (xs := ([(wrap64 (48 + (Int.tmod x0_1 10))) % 256] : List Int)) (inner := [.int .u8 ((wrap64 (48 + (Int.tmod x0_1 10))) % 256)]) (ok := fun _ => True) (okp := fun _ => True) ?hr ?hp (fun _ hk => hk) trivial (Below.refl _ _) (Nat.le_refl _) (by simp) ?_; (case hd => rfl); (case hg => rfl); (case hr => first | (go_simp; done) | (go_simp; rfl)); (case hp => exact (Reps.one (show Kd.M (Kd.int .u8) _ _ _ ((wrap64 (48 + (Int.tmod x0_1 10))) % 256) [.int .u8 ((wrap64 (48 + (Int.tmod x0_1 10))) % 256)] from rfl) (Reps.none _ _))); intro v121 w4 ho5 hb hg_ hnew_; clear hg_ hnew_; (first | rw [← Ny120.out] at ho5 | (simp only [Int.reduceToNat] at ho5; rw [← Ny120.out] at ho5)); have HO122 := A_ (Kd.R_lower ho5 (below_size bB_)); replace HB := A_ (below_step bB_ hb); clear hb ho5; have hcv6 := own_string (P := Tryz.prog) Tryz.underlying22 Tryz.underlying5 Tryz.underlying9 (Kd.own_of_R HO122.out)))
   go_loopg [0, 3] kj1 (fun kq v0 v3 w' => ∃ (x0_2 : Int) (x3_2 : ByteArray), v0 = .int .i64 x0_2 ∧ v3 = .string x3_2 ∧ Aside0 (spec_NumText.l0 kq x0_2 x3_2 = some r) ∧ Aside0 (kq ≤ kj1) ∧ Aside0 (Below w.heap.size w w'))
   case atStart => exact ⟨(x0_1), (strOfNums y120), rs_, rs_, H', ⟨Nat.le_refl _⟩, ⟨bB_⟩⟩
   case round =>
    clear H'
    try clear p2
    try clear c3
    try clear c3b0
    try clear c5
    try clear p6
    try clear hcv6
    try clear p2
    obtain ⟨x0_2, x3_2, rfl, rfl, HA, HK2, HB⟩ := hrel
    cases gk with
    | zero => exact absurd HA.out (by simp [spec_NumText.l0])
    | succ k2 =>
     have H := HA.out
     clear HA
     simp only [spec_NumText.l0] at H
     by_cases c7 : x0_2 > 9
     rotate_left
     · rw [if_neg c7] at H
       have c7b0 : decide (9 < x0_2) = false := decide_eq_false c7
       clear c7
       obtain rfl := si_ H
       go_wp2
       go_ret
       exact ⟨rr_, bB_⟩
     rw [if_pos c7] at H
     have c7b0 : decide (9 < x0_2) = true := decide_eq_true c7
     clear c7
     obtain ⟨y123, hy123⟩ : ∃ y_ : List Int, y_ = (([(wrap64 (48 + (Int.tmod (wrap64 (Int.tdiv x0_2 10)) 10))) % 256] : List Int)) := ⟨_, rfl⟩
     replace H : (if (strOfNums y123).size + x3_2.size ≤ 9223372036854775807 then (spec_NumText.l0 k2 (wrap64 (Int.tdiv x0_2 10)) ((strOfNums y123) ++ x3_2)) else (none)) = some r := hy_ hy123 H
     have Ny123 := A_ hy123
     clear hy123
     by_cases c8 : (strOfNums y123).size + x3_2.size ≤ 9223372036854775807
     rotate_left
     · exact absurd H (by rw [if_neg c8]; simp)
     rw [if_pos c8] at H
     have c8b0 := eq_true c8
     have c8b1 : decide ((strOfNums y123).size + x3_2.size ≤ 9223372036854775807) = true := decide_eq_true c8
     try have c8b2 : (9223372036854775807 < (strOfNums y123).size + x3_2.size) = False := eq_false (Nat.not_lt.2 c8)
     have H' := A_ H
     clear H
     go_wp2_with (first | ((with_reducible refine gd_ (N := 20) rfl ?_); refine Kd.R_lit (Kd.int .u8) _ 5 ?hg (N := 20) ?hd (xs := ([(wrap64 (48 + (Int.tmod (wrap64 (Int.tdiv x0_2 10)) 10))) % 256] : List Int)) (inner := [.int .u8 ((wrap64 (48 + (Int.tmod (wrap64 (Int.tdiv x0_2 10)) 10))) % 256)]) (ok := fun _ => True) (okp := fun _ => True) ?hr ?hp (fun _ hk => hk) trivial (Below.refl _ _) (Nat.le_refl _) (by simp) ?_; (case hd => rfl); (case hg => rfl); (case hr => first | (go_simp; done) | (go_simp; rfl)); (case hp => exact (Reps.one (show Kd.M (Kd.int .u8) _ _ _ ((wrap64 (48 + (Int.tmod (wrap64 (Int.tdiv x0_2 10)) 10))) % 256) [.int .u8 ((wrap64 (48 + (Int.tmod (wrap64 (Int.tdiv x0_2 10)) 10))) % 256)] from rfl) (Reps.none _ _))); intro v124 w9 ho10 hb hg_ hnew_; clear hg_ hnew_; (first | rw [← Ny123.out] at ho10 | (simp only [Int.reduceToNat] at ho10; rw [← Ny123.out] at ho10)); have HO125 := A_ (Kd.R_lower ho10 (below_size bB_)); replace HB := A_ (below_step bB_ hb); clear hb ho10; have hcv11 := own_string (P := Tryz.prog) Tryz.underlying22 Tryz.underlying5 Tryz.underlying9 (Kd.own_of_R HO125.out)))
     go_roundg k2
     case measure => have := HJ1.out; have := HK2.out; omega
     case rel => exact ⟨(wrap64 (Int.tdiv x0_2 10)), ((strOfNums y123) ++ x3_2), rs_, rs_, H', ⟨by have := HJ1.out; have := HK2.out; omega⟩, ⟨bB_⟩⟩
def spec_TagText.f (k : Nat) (a0 : Int) : Option (ByteArray) := (spec_NumText.f k a0).bind fun t126 => (if 2 + t126.size ≤ 9223372036854775807 then (if ((⟨#[34, 118]⟩ : ByteArray) ++ t126).size + 1 ≤ 9223372036854775807 then (some (((⟨#[34, 118]⟩ : ByteArray) ++ t126) ++ (⟨#[34]⟩ : ByteArray))) else (none)) else (none))
theorem spec_TagText.calls (k : Nat) (a0 : Int) (r : ByteArray) (w : World) (h : spec_TagText.f k a0 = some r) :
 Calls Tryz.prog 42 #[.int .i64 a0] w fun e w' => e = .returned (.string r) ∧ Below w.heap.size w w' := by
 have HB := A_ (Below.refl w.heap.size w)
 have H : ((spec_NumText.f k a0).bind fun t126 => (if 2 + t126.size ≤ 9223372036854775807 then (if ((⟨#[34, 118]⟩ : ByteArray) ++ t126).size + 1 ≤ 9223372036854775807 then (some (((⟨#[34, 118]⟩ : ByteArray) ++ t126) ++ (⟨#[34]⟩ : ByteArray))) else (none)) else (none))) = some r := h
 clear h
 obtain ⟨t126, A2, H⟩ := bo_ H
 (try dsimp only at H)
 by_cases c3 : 2 + t126.size ≤ 9223372036854775807
 rotate_left
 · exact absurd H (by rw [if_neg c3]; simp)
 rw [if_pos c3] at H
 have c3b0 := eq_true c3
 have c3b1 : decide (2 + t126.size ≤ 9223372036854775807) = true := decide_eq_true c3
 try have c3b2 : (9223372036854775807 < 2 + t126.size) = False := eq_false (Nat.not_lt.2 c3)
 by_cases c4 : ((⟨#[34, 118]⟩ : ByteArray) ++ t126).size + 1 ≤ 9223372036854775807
 rotate_left
 · exact absurd H (by rw [if_neg c4]; simp)
 rw [if_pos c4] at H
 have c4b0 := eq_true c4
 have c4b1 : decide (((⟨#[34, 118]⟩ : ByteArray) ++ t126).size + 1 ≤ 9223372036854775807) = true := decide_eq_true c4
 try have c4b2 : (9223372036854775807 < ((⟨#[34, 118]⟩ : ByteArray) ++ t126).size + 1) = False := eq_false (Nat.not_lt.2 c4)
 try have c4b3 : (9223372036854775807 < 2 + t126.size + 1) = False := eq_false (Nat.not_lt.2 (by have h_ := c4; simp only [ByteArray.size_append] at h_; exact h_))
 obtain rfl := si_ H
 go_enter Tryz.func42, Tryz.ntmps42
 go_wp2_with (first | ((with_reducible refine gc_ (f := 53) rfl ?_); refine gL_ (some 4) Tryz.func53 #[.int .i64 a0] ?_; (with_reducible refine (spec_NumText.calls k a0 t126 _ A2.out).mono ?_); rintro e w5 ⟨rfl, hb⟩; refine ⟨_, rfl, ?_⟩; replace HB := A_ (below_step bB_ hb); (try clear hb)))
 go_ret
 exact ⟨rr_, bB_⟩
mutual
def spec_l14Draw.l0 : Nat → List (List (S43)) → Int → List Int → Int → Int → Option ((List (List (S43))) × Int × Int)
 | 0, _, _, _, _, _ => none
 | k + 1, x3, x4, x1000, x1001, x1002 => if x4 > 0 then ((spec_l1Below.f x1000 x1001 x1002 2).bind fun bt136 => (spec_l14Draw.l1 k x3 x4 (([] : List (S43))) (wrap64 (1 + bt136.1)) x1000 bt136.2.1 bt136.2.2)) else (some (x3, x1001, x1002))
def spec_l14Draw.l1 : Nat → List (List (S43)) → Int → List (S43) → Int → List Int → Int → Int → Option ((List (List (S43))) × Int × Int)
 | 0, _, _, _, _, _, _, _ => none
 | k + 1, x3, x4, x5, x6, x1000, x1001, x1002 => if x6 > 0 then ((spec_l1Once.f x1000 x1001 x1002 4).bind fun bt142 => ((spec_l1Once.f x1000 bt142.2.1 bt142.2.2 3).bind fun bt146 => (if bt146.1 = true then ((spec_l1Below.f x1000 bt146.2.1 bt146.2.2 4).bind fun bt149 => ((spec_TagText.f k bt149.1).bind fun t152 => (if x5.length < 4398046511104 then (spec_l14Draw.l1 k x3 x4 (x5 ++ [(⟨bt142.1, 0, t152⟩ : S43)]) (wrap64 (x6 - 1)) x1000 bt149.2.1 bt149.2.2) else (none)))) else ((spec_l1Below.f x1000 bt146.2.1 bt146.2.2 9).bind fun bt156 => (if x5.length < 4398046511104 then (spec_l14Draw.l1 k x3 x4 (x5 ++ [(⟨bt142.1, wrap64 (1 + bt156.1), (⟨#[]⟩ : ByteArray)⟩ : S43)]) (wrap64 (x6 - 1)) x1000 bt156.2.1 bt156.2.2) else (none)))))) else (if x3.length < 5864062014805 then (spec_l14Draw.l0 k (x3 ++ [x5]) (wrap64 (x4 - 1)) x1000 x1001 x1002) else (none))
end
def spec_l14Draw.f (k : Nat) (s0_0 : List Int) (s0_1 : Int) (s0_2 : Int) : Option ((List (List (S43))) × Int × Int) := (spec_l1Below.f s0_0 s0_1 s0_2 2).bind fun bt130 => (spec_l14Draw.l0 k (([] : List (List (S43)))) (wrap64 (1 + bt130.1)) s0_0 bt130.2.1 bt130.2.2)
theorem spec_l14Draw.calls (k : Nat) (g : Nat) (s0_0 : List Int) (s0_1 : Int) (s0_2 : Int) (r1 : List (List (S43))) (r2 : Int) (r3 : Int) (w0 w : World) (hI : IsS60 w0 w g s0_0 s0_1 s0_2) (hB : Below w0.heap.size w0 w) (h : spec_l14Draw.f k s0_0 s0_1 s0_2 = some (r1, r2, r3)) :
 Calls Tryz.prog 24 #[.pointer (some ⟨g, 0, none⟩)] w fun e w' => ∃ v0_ : Value, e = .returned (v0_) ∧ Kd.S (Kd.slice 43 k43) 41 w' w.heap.size (fun _ => True) v0_ r1 ∧ IsS60 w0 w' g s0_0 r2 r3 ∧ Below w0.heap.size w0 w' ∧ KeepBut w w' g none := by
 have hu43 := Tryz.underlying43
 have HI0 := A_ hI
 have HK := A_ (KeepBut.refl w g none)
 have HL := A_ hB.size
 clear hI
 have HW0 := A_ hB.size
 have HB := A_ hB
 clear hB
 have H : ((spec_l1Below.f s0_0 s0_1 s0_2 2).bind fun bt130 => (spec_l14Draw.l0 k (([] : List (List (S43)))) (wrap64 (1 + bt130.1)) s0_0 bt130.2.1 bt130.2.2)) = some (r1, r2, r3) := h
 clear h
 obtain ⟨y127, hy127⟩ : ∃ y_ : List (List (S43)), y_ = (([] : List (List (S43)))) := ⟨_, rfl⟩
 replace H : ((spec_l1Below.f s0_0 s0_1 s0_2 2).bind fun bt130 => (spec_l14Draw.l0 k y127 (wrap64 (1 + bt130.1)) s0_0 bt130.2.1 bt130.2.2)) = some (r1, r2, r3) := hy_ hy127 H
 have Ny127 := A_ hy127
 clear hy127
 obtain ⟨⟨t130, t131, t132⟩, A2, H⟩ := bo_ H
 (try dsimp only at H)
 have H' := A_ H
 clear H
 go_enter Tryz.func24, Tryz.ntmps24
 go_wp2_with (first | ((with_reducible refine gd_ (N := 8) rfl ?_); refine Kd.S_lit (Kd.slice 43 k43) _ 41 ?hg (N := 8) ?hd (xs := ([] : List (List (S43)))) (inner := []) (ok := fun _ => True) (okp := fun _ => True) ?hr ?hp (fun _ hk => hk) trivial (Below.refl _ _) (Nat.le_refl _) (by simp) ?_; (case hd => rfl); (case hg => rfl); (case hr => first | (go_simp; done) | (go_simp; rfl)); (case hp => exact (Reps.none _ _)); intro v128 w3 ho4 hb hg_ hnew_; clear hg_ hnew_; (first | rw [← Ny127.out] at ho4 | (simp only [Int.reduceToNat] at ho4; rw [← Ny127.out] at ho4)); have HO129 := A_ (Kd.S_lower ho4 (keep_size (w := w) (g := g) (row := none) bK_)); replace HK := A_ (KeepBut.trans bK_ (KeepBut.of_below hb g none) (.inl rfl)); replace HB := A_ (below_step bIQx21_ hb); replace HI0 := A_ (IsS60.below bIQx20_ hb); clear hb ho4) | ((with_reducible refine gc_ (f := 25) rfl ?_); refine gL_ (some 10) Tryz.func25 #[.pointer (some ⟨g, 0, none⟩), .int .i64 2] ?_; (with_reducible refine (spec_l1Below.calls g s0_0 s0_1 s0_2 2 t130 t131 t132 w0 _ ?s1 ?s2 A2.out).mono ?_); (case s1 => exact bIQx20_); (case s2 => exact bIQx21_); rintro e w5 ⟨rfl, hi, hb, hk⟩; refine ⟨_, rfl, ?_⟩; replace HO129 := A_ (Kd.S_mono (Kd.S_keep (IsS60.apartS (show IsS60 w0 _ g s0_0 s0_1 s0_2 from bIQx20_) (vS_ HO129.out) (by decide)) hk (fun _ h => h.2)) (fun _ h => h.1)); replace HK := A_ (KeepBut.trans bK_ hk (.inl rfl)); replace HB := A_ (hb); replace HI0 := A_ (hi); (try clear hb); (try clear hk); (try clear hi)))
 go_loopg [3, 4] k (fun kq v3 v4 w' => ∃ (x3_1 : List (List (S43))) (x4_1 : Int) (x1001_1 : Int) (x1002_1 : Int), v4 = .int .i64 x4_1 ∧ Aside0 (spec_l14Draw.l0 kq x3_1 x4_1 s0_0 x1001_1 x1002_1 = some (r1, r2, r3)) ∧ Aside0 (kq ≤ k) ∧ Aside0 (Kd.S (Kd.slice 43 k43) 41 w' w.heap.size (fun _ => True) v3 x3_1) ∧ Aside0 (IsS60 w0 w' g s0_0 x1001_1 x1002_1) ∧ Aside0 (KeepBut w w' g none) ∧ Aside0 (Below w0.heap.size w0 w'))
 case atStart => exact ⟨(y127), (wrap64 (1 + t130)), (t131), (t132), rs_, H', ⟨Nat.le_refl _⟩, ⟨vS_ HO129.out⟩, ⟨bIQx20_⟩, ⟨bK_⟩, ⟨bIQx21_⟩⟩
 case round =>
  clear H'
  try clear c2
  try clear p2
  obtain ⟨x3_1, x4_1, x1001_1, x1002_1, rfl, HA, HK1, HO_3, HI0, HK, HB⟩ := hrel
  cases gk with
  | zero => exact absurd HA.out (by simp [spec_l14Draw.l0])
  | succ k1 =>
   have H := HA.out
   clear HA
   simp only [spec_l14Draw.l0] at H
   by_cases c6 : x4_1 > 0
   rotate_left
   · rw [if_neg c6] at H
     have c6b0 : decide (0 < x4_1) = false := decide_eq_false c6
     clear c6
     simp only [Option.some.injEq, Prod.mk.injEq] at H
     obtain ⟨rfl, rfl, rfl⟩ := H
     go_wp2
     go_ret
     exact ⟨_, rr_, by (with_reducible repeat (first | apply Kd.S_alloc | apply Kd.S_drewN | apply Kd.S_drew)); exact HO_3.out, bIQx20_, bIQx21_, bK_⟩
   rw [if_pos c6] at H
   have c6b0 : decide (0 < x4_1) = true := decide_eq_true c6
   clear c6
   obtain ⟨y133, hy133⟩ : ∃ y_ : List (S43), y_ = (([] : List (S43))) := ⟨_, rfl⟩
   replace H : ((spec_l1Below.f s0_0 x1001_1 x1002_1 2).bind fun bt136 => (spec_l14Draw.l1 k1 x3_1 x4_1 y133 (wrap64 (1 + bt136.1)) s0_0 bt136.2.1 bt136.2.2)) = some (r1, r2, r3) := hy_ hy133 H
   have Ny133 := A_ hy133
   clear hy133
   obtain ⟨⟨t136, t137, t138⟩, A7, H⟩ := bo_ H
   (try dsimp only at H)
   have H' := A_ H
   clear H
   go_wp2_with (first | ((with_reducible refine gd_ (N := 16) rfl ?_); refine Kd.R_lit k43 _ 43 ?hg (N := 16) ?hd (xs := ([] : List (S43))) (inner := []) (ok := fun _ => True) (okp := fun _ => True) ?hr ?hp (fun _ hk => hk) trivial (Below.refl _ _) (Nat.le_refl _) (by simp) ?_; (case hd => rfl); (case hg => rfl); (case hr => first | (go_simp; done) | (go_simp; rfl)); (case hp => exact (Reps.none _ _)); intro v134 w8 ho9 hb hg_ hnew_; clear hg_ hnew_; (first | rw [← Ny133.out] at ho9 | (simp only [Int.reduceToNat] at ho9; rw [← Ny133.out] at ho9)); replace HO_3 := A_ (Kd.S_elder' (vS_ HO_3.out) (kb_ ho9) hb); have HO135 := A_ (Kd.R_lower ho9 (keep_size (w := w) (g := g) (row := none) bK_)); replace HK := A_ (KeepBut.trans bK_ (KeepBut.of_below hb g none) (.inl rfl)); replace HB := A_ (below_step bIQx21_ hb); replace HI0 := A_ (IsS60.below bIQx20_ hb); clear hb ho9) | ((with_reducible refine gc_ (f := 25) rfl ?_); refine gL_ (some 18) Tryz.func25 #[.pointer (some ⟨g, 0, none⟩), .int .i64 2] ?_; (with_reducible refine (spec_l1Below.calls g s0_0 x1001_1 x1002_1 2 t136 t137 t138 w0 _ ?s1 ?s2 A7.out).mono ?_); (case s1 => exact bIQx20_); (case s2 => exact bIQx21_); rintro e w10 ⟨rfl, hi, hb, hk⟩; refine ⟨_, rfl, ?_⟩; replace HO_3 := A_ (Kd.S_mono (Kd.S_keep (IsS60.apartS (show IsS60 w0 _ g s0_0 x1001_1 x1002_1 from bIQx20_) (vS_ HO_3.out) (by decide)) hk (fun _ h => h.2)) (fun _ h => h.1)); replace HO135 := A_ (Kd.R_mono (Kd.R_keep (IsS60.apart (show IsS60 w0 _ g s0_0 x1001_1 x1002_1 from bIQx20_) (vR_ HO135.out) (by decide)) hk (fun _ h => h.2)) (fun _ h => h.1)); replace HK := A_ (KeepBut.trans bK_ hk (.inl rfl)); replace HB := A_ (hb); replace HI0 := A_ (hi); (try clear hb); (try clear hk); (try clear hi)))
   go_loopg [5, 6] k1 (fun kq v5 v6 w' => ∃ (x5_2 : List (S43)) (x6_2 : Int) (x1001_2 : Int) (x1002_2 : Int), v6 = .int .i64 x6_2 ∧ Aside0 (spec_l14Draw.l1 kq x3_1 x4_1 x5_2 x6_2 s0_0 x1001_2 x1002_2 = some (r1, r2, r3)) ∧ Aside0 (kq ≤ k1) ∧ Aside0 (Kd.S (Kd.slice 43 k43) 41 w' w.heap.size (fun k_ => some k_ ≠ (v5 : Value).ownBlock) u3 x3_1) ∧ Aside0 (Kd.R k43 43 w' w.heap.size (fun _ => True) v5 x5_2) ∧ Aside0 (IsS60 w0 w' g s0_0 x1001_2 x1002_2) ∧ Aside0 (KeepBut w w' g none) ∧ Aside0 (Below w0.heap.size w0 w'))
   case atStart => exact ⟨(y133), (wrap64 (1 + t136)), (t137), (t138), rs_, H', ⟨Nat.le_refl _⟩, ⟨by (with_reducible repeat (first | apply Kd.S_alloc | apply Kd.S_drewN | apply Kd.S_drew)); exact Kd.S_mono HO_3.out (fun _ hk => hk.2)⟩, ⟨vR_ HO135.out⟩, ⟨bIQx20_⟩, ⟨bK_⟩, ⟨bIQx21_⟩⟩
   case round =>
    clear H'
    try clear c2
    try clear p2
    try clear c6
    try clear c6b0
    try clear p6
    try clear p2
    obtain ⟨x5_2, x6_2, x1001_2, x1002_2, rfl, HA, HK2, HO_3, HO_5, HI0, HK, HB⟩ := hrel
    cases gk with
    | zero => exact absurd HA.out (by simp [spec_l14Draw.l1])
    | succ k2 =>
     have H := HA.out
     clear HA
     simp only [spec_l14Draw.l1] at H
     by_cases c11 : x6_2 > 0
     rotate_left
     · rw [if_neg c11] at H
       have c11b0 : decide (0 < x6_2) = false := decide_eq_false c11
       clear c11
       by_cases c37 : x3_1.length < 5864062014805
       rotate_left
       · exact absurd H (by rw [if_neg c37]; simp)
       rw [if_pos c37] at H
       have LMc37 := A_ c37
       clear c37
       obtain ⟨y139, hy139⟩ : ∃ y_ : List (List (S43)), y_ = (x3_1 ++ [x5_2]) := ⟨_, rfl⟩
       replace H : (spec_l14Draw.l0 k2 y139 (wrap64 (x4_1 - 1)) s0_0 x1001_2 x1002_2) = some (r1, r2, r3) := hy_ hy139 H
       have Ny139 := A_ hy139
       clear hy139
       have H' := A_ H
       clear H
       obtain ⟨Ao39, co39, eo39⟩ := Kd.R_slice HO_5.out
       subst eo39
       go_wp2_with (first | ((with_reducible refine gate_builtin (b := .append) (xs := #[.tmp 41, .tmp 43]) rfl ?_); at_builtin; refine Kd.S_append (Kd.slice 43 k43) w.heap.size rfl (.tmp 41) (.tmp 43) 24 41 (.slice none 0 0) 24 rfl Tryz.underlying24 info41 rfl (by decide) (by omega) u3 x3_1 x5_2 [.slice Ao39 x5_2.length co39] (fun _ => True) (fun k_ => some k_ = (.slice Ao39 x5_2.length co39 : Value).ownBlock) rfl rfl ?aP (fun k_ hk_ => ((Kd.R_mono (ok' := fun k_ => ((fun _ => True)) k_ ∧ some k_ ≠ (u3 : Value).ownBlock) (Kd.R_apart' (HO_5.out) (Kd.S_typed HO_3.out) (by decide)) (fun k_ hk => ⟨trivial, hk.2⟩))).1 k_ hk_.symm) ?aF ?aO (Below.refl _ _) ?aS ?aL ?_; (case aP => exact Kd.M_row (Kd.R_mono (Kd.R_tight rfl (Kd.R_mono (ok' := fun k_ => ((fun _ => True)) k_ ∧ some k_ ≠ (u3 : Value).ownBlock) (Kd.R_apart' (HO_5.out) (Kd.S_typed HO_3.out) (by decide)) (fun k_ hk => ⟨trivial, hk.2⟩))) (fun _ h_ => h_))); (case aF => exact (fun _ _ => trivial)); (case aO => exact (by (with_reducible repeat (first | apply Kd.S_alloc | apply Kd.S_drewN | apply Kd.S_drew)); exact Kd.S_mono HO_3.out (fun k_ hk => ⟨trivial, fun e_ => hk e_⟩))); (case aS => exact (keep_size (w := w) (g := g) (row := none) bK_)); (case aL => have := LMc37.out; omega); intro v140 w38 ho hb hg hat; rw [← Ny139.out] at ho; replace HB := A_ (below_weaken bIQx21_ HL.out hb); replace HI0 := A_ (IsS60.grown bIQx20_ hg (IsS60.own_neS HI0.out HO_3.out (by decide))); replace HK := A_ (KeepBut.trans bK_ (KeepBut.of_grown hg g) (Kd.S_base2 HO_3.out)); have HO141 := A_ (ho); clear HO_3 HO_5; clear ho hb hg hat))
       go_roundg k2
       case measure => have := HK1.out; have := HK2.out; omega
       case rel => exact ⟨(y139), (wrap64 (x4_1 - 1)), (x1001_2), (x1002_2), rs_, H', ⟨by have := HK1.out; have := HK2.out; omega⟩, ⟨vS_ HO141.out⟩, ⟨bIQx20_⟩, ⟨bK_⟩, ⟨bIQx21_⟩⟩
     rw [if_pos c11] at H
     have c11b0 : decide (0 < x6_2) = true := decide_eq_true c11
     clear c11
     obtain ⟨⟨t142, t143, t144⟩, A12, H⟩ := bo_ H
     (try dsimp only at H)
     obtain ⟨⟨t146, t147, t148⟩, A13, H⟩ := bo_ H
     (try dsimp only at H)
     by_cases c14 : t146 = true
     · subst c14
       rw [if_pos rfl] at H
       obtain ⟨⟨t149, t150, t151⟩, A15, H⟩ := bo_ H
       (try dsimp only at H)
       obtain ⟨t152, A16, H⟩ := bo_ H
       (try dsimp only at H)
       by_cases c17 : x5_2.length < 4398046511104
       rotate_left
       · exact absurd H (by rw [if_neg c17]; simp)
       rw [if_pos c17] at H
       have LMc17 := A_ c17
       clear c17
       obtain ⟨y153, hy153⟩ : ∃ y_ : List (S43), y_ = (x5_2 ++ [(⟨t142, 0, t152⟩ : S43)]) := ⟨_, rfl⟩
       replace H : (spec_l14Draw.l1 k2 x3_1 x4_1 y153 (wrap64 (x6_2 - 1)) s0_0 t150 t151) = some (r1, r2, r3) := hy_ hy153 H
       have Ny153 := A_ hy153
       clear hy153
       have H' := A_ H
       clear H
       go_wp2_with (first | ((with_reducible refine gc_ (f := 41) rfl ?_); refine gL_ (some 25) Tryz.func41 #[.pointer (some ⟨g, 0, none⟩), .int .i64 4] ?_; (with_reducible refine (spec_l1Once.calls g s0_0 x1001_2 x1002_2 4 t142 t143 t144 w0 _ ?s1 ?s2 A12.out).mono ?_); (case s1 => exact bIQx20_); (case s2 => exact bIQx21_); rintro e w18 ⟨rfl, hi, hb, hk⟩; refine ⟨_, rfl, ?_⟩; replace HO_3 := A_ (Kd.S_mono (Kd.S_keep (IsS60.apartS (show IsS60 w0 _ g s0_0 x1001_2 x1002_2 from bIQx20_) (vS_ HO_3.out) (by decide)) hk (fun _ h => h.2)) (fun _ h => h.1)); replace HO_5 := A_ (Kd.R_mono (Kd.R_keep (IsS60.apart (show IsS60 w0 _ g s0_0 x1001_2 x1002_2 from bIQx20_) (vR_ HO_5.out) (by decide)) hk (fun _ h => h.2)) (fun _ h => h.1)); replace HK := A_ (KeepBut.trans bK_ hk (.inl rfl)); replace HB := A_ (hb); replace HI0 := A_ (hi); (try clear hb); (try clear hk); (try clear hi)) | ((with_reducible refine gd_ (N := 7) rfl ?_); refine bx_ (N := 7) (cs := #[.bool false, .int .i64 0, .string (⟨#[]⟩ : ByteArray)]) (t := 43) ?_; intro gb145 hg w19 hbox hb; replace HO_3 := A_ (Kd.S_below (Kd.S_elderB (vS_ HO_3.out) gb145 (Nat.le_of_eq hg.symm)) hb); replace HO_5 := A_ (Kd.R_below (Kd.R_elderB (vR_ HO_5.out) gb145 (Nat.le_of_eq hg.symm)) hb); replace HB := A_ (below_step bIQx21_ hb); have BK145 := A_ (hbox); have GW145 := A_ ((by rw [hg]; exact (keep_size (w := w) (g := g) (row := none) bK_) : w.heap.size ≤ gb145)); have GE145 := A_ ((Nat.le_trans HW0.out (by rw [hg]; exact (keep_size (w := w) (g := g) (row := none) bK_) : w.heap.size ≤ gb145) : w0.heap.size ≤ gb145)); replace HK := A_ (KeepBut.trans bK_ (KeepBut.of_below hb g none) (.inl rfl)); have NB0_145 := A_ ((by rw [hg]; exact Nat.ne_of_lt (IsS60.lt (show IsS60 w0 _ g s0_0 t143 t144 from bIQx20_)) : g ≠ gb145)); have NB145_0 := A_ ((by rw [hg]; exact Nat.ne_of_gt (IsS60.lt (show IsS60 w0 _ g s0_0 t143 t144 from bIQx20_)) : gb145 ≠ g)); replace HI0 := A_ (IsS60.below bIQx20_ hb); clear hb hbox hg; have hnb20 := NB145_0.out; have hnc20 := NB0_145.out; obtain ⟨hcz21_0, hcz21_1, hcz21_2, hfz21_0, hfz21_1, hfz21_2⟩ := cz3_ BK145.out) | ((with_reducible refine gc_ (f := 41) rfl ?_); refine gL_ (some 28) Tryz.func41 #[.pointer (some ⟨g, 0, none⟩), .int .i64 3] ?_; (with_reducible refine (spec_l1Once.calls g s0_0 t143 t144 3 true t147 t148 w0 _ ?s1 ?s2 A13.out).mono ?_); (case s1 => repeat (first | (with_reducible first | exact HI0.out | apply IsS60.alloc | apply IsS60.drewN | apply IsS60.drew | apply IsS60.set_1 | apply IsS60.set_2 | apply IsS60.far (hne := NB0_145.out)) | exact HI0.out)); (case s2 => repeat (first | (with_reducible first | exact HB.out | apply below_alloc | apply pw_below_drewN | apply below_drew1 | refine below_set ?_ (IsS60.ge HI0.out) | refine below_set ?_ GE145.out) | exact HB.out)); rintro e w22 ⟨rfl, hi, hb, hk⟩; refine ⟨_, rfl, ?_⟩; replace HO_3 := A_ (Kd.S_mono (Kd.S_keep (IsS60.apartS (show IsS60 w0 _ g s0_0 t143 t144 from by repeat (first | (with_reducible first | exact HI0.out | apply IsS60.alloc | apply IsS60.drewN | apply IsS60.drew | apply IsS60.set_1 | apply IsS60.set_2 | apply IsS60.far (hne := NB0_145.out)) | exact HI0.out)) (by (with_reducible repeat (first | apply Kd.S_alloc | apply Kd.S_drewN | apply Kd.S_drew)); exact (Kd.S_mono (Kd.S_far (p := ⟨gb145, 2, none⟩) (Kd.S_far (p := ⟨gb145, 1, none⟩) (Kd.S_far (p := ⟨gb145, 0, none⟩) (Kd.S_mono HO_3.out (fun k_ hk => (⟨hk, hk.2⟩ : _ ∧ k_ ≠ gb145))) (fun _ hk => hk.2) (.bool t142)) (fun _ hk => hk.2) (.int .i64 0)) (fun _ hk => hk.2) (.string (⟨#[]⟩ : ByteArray))) (fun _ h_ => h_.1))) (by decide)) hk (fun _ h => h.2)) (fun _ h => h.1)); replace HO_5 := A_ (Kd.R_mono (Kd.R_keep (IsS60.apart (show IsS60 w0 _ g s0_0 t143 t144 from by repeat (first | (with_reducible first | exact HI0.out | apply IsS60.alloc | apply IsS60.drewN | apply IsS60.drew | apply IsS60.set_1 | apply IsS60.set_2 | apply IsS60.far (hne := NB0_145.out)) | exact HI0.out)) (by (with_reducible repeat (first | apply Kd.R_alloc | apply Kd.R_drewN | apply Kd.R_drew)); exact (Kd.R_mono (Kd.R_far (p := ⟨gb145, 2, none⟩) (Kd.R_far (p := ⟨gb145, 1, none⟩) (Kd.R_far (p := ⟨gb145, 0, none⟩) (Kd.R_mono HO_5.out (fun k_ hk => (⟨hk, hk.2⟩ : _ ∧ k_ ≠ gb145))) (fun _ hk => hk.2) (.bool t142)) (fun _ hk => hk.2) (.int .i64 0)) (fun _ hk => hk.2) (.string (⟨#[]⟩ : ByteArray))) (fun _ h_ => h_.1))) (by decide)) hk (fun _ h => h.2)) (fun _ h => h.1)); replace BK145 := A_ (KeepBut.blk hk (g' := gb145) (o := .cells #[.bool t142, .int .i64 0, .string (⟨#[]⟩ : ByteArray)] 43 (0, 0)) (by (with_reducible repeat (first | refine blk_drewN ?_ _ | refine blk_drew ?_ | refine blk_alloc ?_ _)); refine blk_put (cs := #[.bool t142, .int .i64 0, .string (⟨#[]⟩ : ByteArray)]) ?_ 2 _ rfl; (with_reducible repeat (first | refine blk_drewN ?_ _ | refine blk_drew ?_ | refine blk_alloc ?_ _)); refine blk_put (cs := #[.bool t142, .int .i64 0, .string (⟨#[]⟩ : ByteArray)]) ?_ 1 _ rfl; (with_reducible repeat (first | refine blk_drewN ?_ _ | refine blk_drew ?_ | refine blk_alloc ?_ _)); refine blk_put (cs := #[.bool false, .int .i64 0, .string (⟨#[]⟩ : ByteArray)]) ?_ 0 _ rfl; (with_reducible repeat (first | refine blk_drewN ?_ _ | refine blk_drew ?_ | refine blk_alloc ?_ _)); exact BK145.out) NB145_0.out (by simp)); replace HK := A_ (KeepBut.trans (by repeat (first | (with_reducible first | exact HK.out | apply KeepBut.set_ | apply keep_drewN | apply keep_drew | apply keep_alloc | refine keep_far ?_ GW145.out _) | exact HK.out)) hk (.inl rfl)); replace HB := A_ (hb); replace HI0 := A_ (hi); (try clear hb); (try clear hk); (try clear hi)) | ((with_reducible refine gc_ (f := 25) rfl ?_); refine gL_ (some 30) Tryz.func25 #[.pointer (some ⟨g, 0, none⟩), .int .i64 4] ?_; (with_reducible refine (spec_l1Below.calls g s0_0 t147 t148 4 t149 t150 t151 w0 _ ?s1 ?s2 A15.out).mono ?_); (case s1 => repeat (first | (with_reducible first | exact HI0.out | apply IsS60.alloc | apply IsS60.drewN | apply IsS60.drew | apply IsS60.set_1 | apply IsS60.set_2 | apply IsS60.far (hne := NB0_145.out)) | exact HI0.out)); (case s2 => repeat (first | (with_reducible first | exact HB.out | apply below_alloc | apply pw_below_drewN | apply below_drew1 | refine below_set ?_ (IsS60.ge HI0.out) | refine below_set ?_ GE145.out) | exact HB.out)); rintro e w23 ⟨rfl, hi, hb, hk⟩; refine ⟨_, rfl, ?_⟩; replace HO_3 := A_ (Kd.S_mono (Kd.S_keep (IsS60.apartS (show IsS60 w0 _ g s0_0 t147 t148 from by repeat (first | (with_reducible first | exact HI0.out | apply IsS60.alloc | apply IsS60.drewN | apply IsS60.drew | apply IsS60.set_1 | apply IsS60.set_2 | apply IsS60.far (hne := NB0_145.out)) | exact HI0.out)) (vS_ HO_3.out) (by decide)) hk (fun _ h => h.2)) (fun _ h => h.1)); replace HO_5 := A_ (Kd.R_mono (Kd.R_keep (IsS60.apart (show IsS60 w0 _ g s0_0 t147 t148 from by repeat (first | (with_reducible first | exact HI0.out | apply IsS60.alloc | apply IsS60.drewN | apply IsS60.drew | apply IsS60.set_1 | apply IsS60.set_2 | apply IsS60.far (hne := NB0_145.out)) | exact HI0.out)) (vR_ HO_5.out) (by decide)) hk (fun _ h => h.2)) (fun _ h => h.1)); replace BK145 := A_ (KeepBut.blk hk (g' := gb145) (o := .cells #[.bool t142, .int .i64 0, .string (⟨#[]⟩ : ByteArray)] 43 (0, 0)) (vb_ BK145.out) NB145_0.out (by simp)); replace HK := A_ (KeepBut.trans (by repeat (first | (with_reducible first | exact HK.out | apply KeepBut.set_ | apply keep_drewN | apply keep_drew | apply keep_alloc | refine keep_far ?_ GW145.out _) | exact HK.out)) hk (.inl rfl)); replace HB := A_ (hb); replace HI0 := A_ (hi); (try clear hb); (try clear hk); (try clear hi)) | ((with_reducible refine gc_ (f := 42) rfl ?_); refine gL_ (some 31) Tryz.func42 #[.int .i64 t149] ?_; (with_reducible refine (spec_TagText.calls k2 t149 t152 _ A16.out).mono ?_); rintro e w24 ⟨rfl, hb⟩; refine ⟨_, rfl, ?_⟩; replace HO_3 := A_ (Kd.S_below (vS_ HO_3.out) hb); replace HO_5 := A_ (Kd.R_below (vR_ HO_5.out) hb); replace BK145 := A_ (bw_ BK145.out hb); replace HK := A_ (KeepBut.trans (by repeat (first | (with_reducible first | exact HK.out | apply KeepBut.set_ | apply keep_drewN | apply keep_drew | apply keep_alloc | refine keep_far ?_ GW145.out _) | exact HK.out)) (KeepBut.of_below hb g none) (.inl rfl)); replace HB := A_ (below_step (by repeat (first | (with_reducible first | exact HB.out | apply below_alloc | apply pw_below_drewN | apply below_drew1 | refine below_set ?_ (IsS60.ge HI0.out) | refine below_set ?_ GE145.out) | exact HB.out)) hb); replace HI0 := A_ (IsS60.below (by repeat (first | (with_reducible first | exact HI0.out | apply IsS60.alloc | apply IsS60.drewN | apply IsS60.drew | apply IsS60.set_1 | apply IsS60.set_2 | apply IsS60.far (hne := NB0_145.out)) | exact HI0.out)) hb); (try clear hb); (try clear hk); (try clear hi); obtain ⟨hcz25_0, hcz25_1, hcz25_2, hfz25_0, hfz25_1, hfz25_2⟩ := cz3_ BK145.out) | ((with_reducible refine gate_builtin (b := .append) (xs := #[.tmp 37, .tmp 39]) rfl ?_); at_builtin; refine Kd.R_append k43 w.heap.size rfl (.tmp 37) (.tmp 39) 41 43 (.agg #[(.bool false), (.int .i64 0), (.string ⟨#[]⟩)]) 32 rfl Tryz.underlying41 info43 rfl (by decide) (by omega) u5 x5_2 (⟨t142, 0, t152⟩ : S43) [.bool t142, .int .i64 0, .string t152] (fun k_ => k_ ≠ gb145) (fun _ => False) rfl (by first | (go_simp; done) | (go_simp; rfl)) ?aP (fun _ hk => hk.elim) ?aF ?aO (Below.refl _ _) ?aS ?aL ?_; (case aP => exact k43_mkM _ _ _ (⟨t142, 0, t152⟩ : S43)); (case aF => exact (fun k_ hk => Kd.freshB (g := gb145) (o := .cells #[.bool t142, .int .i64 0, .string t152] 43 (0, 0)) (by (with_reducible repeat (first | refine blk_drewN ?_ _ | refine blk_drew ?_ | refine blk_alloc ?_ _)); refine blk_put (cs := #[.bool t142, .int .i64 0, .string (⟨#[]⟩ : ByteArray)]) ?_ 2 _ rfl; (with_reducible repeat (first | refine blk_drewN ?_ _ | refine blk_drew ?_ | refine blk_alloc ?_ _)); exact BK145.out) k_ hk)); (case aO => exact (by (with_reducible repeat (first | apply Kd.R_alloc | apply Kd.R_drewN | apply Kd.R_drew)); exact Kd.R_mono (Kd.R_far (p := ⟨gb145, 2, none⟩) (Kd.R_mono HO_5.out (fun k_ hk => (⟨hk, hk.2⟩ : _ ∧ k_ ≠ gb145))) (fun _ hk => hk.2) (.string t152)) (fun _ hk => hk.1.2))); (case aS => exact (keep_size (w := w) (g := g) (row := none) (by repeat (first | (with_reducible first | exact HK.out | apply KeepBut.set_ | apply keep_drewN | apply keep_drew | apply keep_alloc | refine keep_far ?_ GW145.out _) | exact HK.out)))); (case aL => have := LMc17.out; omega); intro v154 w26 ho hb hg hat; rw [← Ny153.out] at ho; replace HO_3 := A_ (Kd.S_after (ok := (fun k_ => k_ ≠ gb145)) (by (with_reducible repeat (first | apply Kd.S_alloc | apply Kd.S_drewN | apply Kd.S_drew)); exact Kd.S_mono (Kd.S_far (p := ⟨gb145, 2, none⟩) (Kd.S_mono HO_3.out (fun k_ hk => (⟨hk, hk.2⟩ : _ ∧ k_ ≠ gb145))) (fun _ hk => hk.2) (.string t152)) (fun _ hk => ⟨hk.1.2, hk.1.1⟩)) hg hat); replace BK145 := A_ (blk_grown (g := gb145) (o := .cells #[.bool t142, .int .i64 0, .string t152] 43 (0, 0)) (by (with_reducible repeat (first | refine blk_drewN ?_ _ | refine blk_drew ?_ | refine blk_alloc ?_ _)); refine blk_put (cs := #[.bool t142, .int .i64 0, .string (⟨#[]⟩ : ByteArray)]) ?_ 2 _ rfl; (with_reducible repeat (first | refine blk_drewN ?_ _ | refine blk_drew ?_ | refine blk_alloc ?_ _)); exact BK145.out) hg (Kd.R_away HO_5.out (fun _ hk => hk.2))); replace HB := A_ (below_weaken (by repeat (first | (with_reducible first | exact HB.out | apply below_alloc | apply pw_below_drewN | apply below_drew1 | refine below_set ?_ (IsS60.ge HI0.out) | refine below_set ?_ GE145.out) | exact HB.out)) HL.out hb); replace HI0 := A_ (IsS60.grown (by repeat (first | (with_reducible first | exact HI0.out | apply IsS60.alloc | apply IsS60.drewN | apply IsS60.drew | apply IsS60.set_1 | apply IsS60.set_2 | apply IsS60.far (hne := NB0_145.out)) | exact HI0.out)) hg (IsS60.own_ne HI0.out HO_5.out (by decide))); replace HK := A_ (KeepBut.trans (by repeat (first | (with_reducible first | exact HK.out | apply KeepBut.set_ | apply keep_drewN | apply keep_drew | apply keep_alloc | refine keep_far ?_ GW145.out _) | exact HK.out)) (KeepBut.of_grown hg g) (Kd.R_base2 HO_5.out)); have HO155 := A_ (ho); clear HO_5; clear ho hb hg hat))
       go_roundg k2
       case measure => have := HK1.out; have := HK2.out; omega
       case rel => exact ⟨(y153), (wrap64 (x6_2 - 1)), (t150), (t151), rs_, H', ⟨by have := HK1.out; have := HK2.out; omega⟩, ⟨by (with_reducible repeat (first | apply Kd.S_alloc | apply Kd.S_drewN | apply Kd.S_drew)); exact Kd.S_mono HO_3.out (fun _ hk => hk.2)⟩, ⟨by (with_reducible repeat (first | apply Kd.R_alloc | apply Kd.R_drewN | apply Kd.R_drew)); exact Kd.R_mono HO155.out (fun _ hk => trivial)⟩, ⟨by repeat (first | (with_reducible first | exact HI0.out | apply IsS60.alloc | apply IsS60.drewN | apply IsS60.drew | apply IsS60.set_1 | apply IsS60.set_2 | apply IsS60.far (hne := NB0_145.out)) | exact HI0.out)⟩, ⟨by repeat (first | (with_reducible first | exact HK.out | apply KeepBut.set_ | apply keep_drewN | apply keep_drew | apply keep_alloc | refine keep_far ?_ GW145.out _) | exact HK.out)⟩, ⟨by repeat (first | (with_reducible first | exact HB.out | apply below_alloc | apply pw_below_drewN | apply below_drew1 | refine below_set ?_ (IsS60.ge HI0.out) | refine below_set ?_ GE145.out) | exact HB.out)⟩⟩
     · replace c14 := Bool.eq_false_iff.mpr c14
       subst c14
       rw [if_neg nf_] at H
       obtain ⟨⟨t156, t157, t158⟩, A27, H⟩ := bo_ H
       (try dsimp only at H)
       by_cases c28 : x5_2.length < 4398046511104
       rotate_left
       · exact absurd H (by rw [if_neg c28]; simp)
       rw [if_pos c28] at H
       have LMc28 := A_ c28
       clear c28
       obtain ⟨y159, hy159⟩ : ∃ y_ : List (S43), y_ = (x5_2 ++ [(⟨t142, wrap64 (1 + t156), (⟨#[]⟩ : ByteArray)⟩ : S43)]) := ⟨_, rfl⟩
       replace H : (spec_l14Draw.l1 k2 x3_1 x4_1 y159 (wrap64 (x6_2 - 1)) s0_0 t157 t158) = some (r1, r2, r3) := hy_ hy159 H
       have Ny159 := A_ hy159
       clear hy159
       have H' := A_ H
       clear H
       go_wp2_with (first | ((with_reducible refine gc_ (f := 41) rfl ?_); refine gL_ (some 25) Tryz.func41 #[.pointer (some ⟨g, 0, none⟩), .int .i64 4] ?_; (with_reducible refine (spec_l1Once.calls g s0_0 x1001_2 x1002_2 4 t142 t143 t144 w0 _ ?s1 ?s2 A12.out).mono ?_); (case s1 => exact bIQx20_); (case s2 => exact bIQx21_); rintro e w29 ⟨rfl, hi, hb, hk⟩; refine ⟨_, rfl, ?_⟩; replace HO_3 := A_ (Kd.S_mono (Kd.S_keep (IsS60.apartS (show IsS60 w0 _ g s0_0 x1001_2 x1002_2 from bIQx20_) (vS_ HO_3.out) (by decide)) hk (fun _ h => h.2)) (fun _ h => h.1)); replace HO_5 := A_ (Kd.R_mono (Kd.R_keep (IsS60.apart (show IsS60 w0 _ g s0_0 x1001_2 x1002_2 from bIQx20_) (vR_ HO_5.out) (by decide)) hk (fun _ h => h.2)) (fun _ h => h.1)); replace HK := A_ (KeepBut.trans bK_ hk (.inl rfl)); replace HB := A_ (hb); replace HI0 := A_ (hi); (try clear hb); (try clear hk); (try clear hi)) | ((with_reducible refine gd_ (N := 7) rfl ?_); refine bx_ (N := 7) (cs := #[.bool false, .int .i64 0, .string (⟨#[]⟩ : ByteArray)]) (t := 43) ?_; intro gb145 hg w30 hbox hb; replace HO_3 := A_ (Kd.S_below (Kd.S_elderB (vS_ HO_3.out) gb145 (Nat.le_of_eq hg.symm)) hb); replace HO_5 := A_ (Kd.R_below (Kd.R_elderB (vR_ HO_5.out) gb145 (Nat.le_of_eq hg.symm)) hb); replace HB := A_ (below_step bIQx21_ hb); have BK145 := A_ (hbox); have GW145 := A_ ((by rw [hg]; exact (keep_size (w := w) (g := g) (row := none) bK_) : w.heap.size ≤ gb145)); have GE145 := A_ ((Nat.le_trans HW0.out (by rw [hg]; exact (keep_size (w := w) (g := g) (row := none) bK_) : w.heap.size ≤ gb145) : w0.heap.size ≤ gb145)); replace HK := A_ (KeepBut.trans bK_ (KeepBut.of_below hb g none) (.inl rfl)); have NB0_145 := A_ ((by rw [hg]; exact Nat.ne_of_lt (IsS60.lt (show IsS60 w0 _ g s0_0 t143 t144 from bIQx20_)) : g ≠ gb145)); have NB145_0 := A_ ((by rw [hg]; exact Nat.ne_of_gt (IsS60.lt (show IsS60 w0 _ g s0_0 t143 t144 from bIQx20_)) : gb145 ≠ g)); replace HI0 := A_ (IsS60.below bIQx20_ hb); clear hb hbox hg; have hnb31 := NB145_0.out; have hnc31 := NB0_145.out; obtain ⟨hcz32_0, hcz32_1, hcz32_2, hfz32_0, hfz32_1, hfz32_2⟩ := cz3_ BK145.out) | ((with_reducible refine gc_ (f := 41) rfl ?_); refine gL_ (some 28) Tryz.func41 #[.pointer (some ⟨g, 0, none⟩), .int .i64 3] ?_; (with_reducible refine (spec_l1Once.calls g s0_0 t143 t144 3 false t147 t148 w0 _ ?s1 ?s2 A13.out).mono ?_); (case s1 => repeat (first | (with_reducible first | exact HI0.out | apply IsS60.alloc | apply IsS60.drewN | apply IsS60.drew | apply IsS60.set_1 | apply IsS60.set_2 | apply IsS60.far (hne := NB0_145.out)) | exact HI0.out)); (case s2 => repeat (first | (with_reducible first | exact HB.out | apply below_alloc | apply pw_below_drewN | apply below_drew1 | refine below_set ?_ (IsS60.ge HI0.out) | refine below_set ?_ GE145.out) | exact HB.out)); rintro e w33 ⟨rfl, hi, hb, hk⟩; refine ⟨_, rfl, ?_⟩; replace HO_3 := A_ (Kd.S_mono (Kd.S_keep (IsS60.apartS (show IsS60 w0 _ g s0_0 t143 t144 from by repeat (first | (with_reducible first | exact HI0.out | apply IsS60.alloc | apply IsS60.drewN | apply IsS60.drew | apply IsS60.set_1 | apply IsS60.set_2 | apply IsS60.far (hne := NB0_145.out)) | exact HI0.out)) (by (with_reducible repeat (first | apply Kd.S_alloc | apply Kd.S_drewN | apply Kd.S_drew)); exact (Kd.S_mono (Kd.S_far (p := ⟨gb145, 2, none⟩) (Kd.S_far (p := ⟨gb145, 1, none⟩) (Kd.S_far (p := ⟨gb145, 0, none⟩) (Kd.S_mono HO_3.out (fun k_ hk => (⟨hk, hk.2⟩ : _ ∧ k_ ≠ gb145))) (fun _ hk => hk.2) (.bool t142)) (fun _ hk => hk.2) (.int .i64 0)) (fun _ hk => hk.2) (.string (⟨#[]⟩ : ByteArray))) (fun _ h_ => h_.1))) (by decide)) hk (fun _ h => h.2)) (fun _ h => h.1)); replace HO_5 := A_ (Kd.R_mono (Kd.R_keep (IsS60.apart (show IsS60 w0 _ g s0_0 t143 t144 from by repeat (first | (with_reducible first | exact HI0.out | apply IsS60.alloc | apply IsS60.drewN | apply IsS60.drew | apply IsS60.set_1 | apply IsS60.set_2 | apply IsS60.far (hne := NB0_145.out)) | exact HI0.out)) (by (with_reducible repeat (first | apply Kd.R_alloc | apply Kd.R_drewN | apply Kd.R_drew)); exact (Kd.R_mono (Kd.R_far (p := ⟨gb145, 2, none⟩) (Kd.R_far (p := ⟨gb145, 1, none⟩) (Kd.R_far (p := ⟨gb145, 0, none⟩) (Kd.R_mono HO_5.out (fun k_ hk => (⟨hk, hk.2⟩ : _ ∧ k_ ≠ gb145))) (fun _ hk => hk.2) (.bool t142)) (fun _ hk => hk.2) (.int .i64 0)) (fun _ hk => hk.2) (.string (⟨#[]⟩ : ByteArray))) (fun _ h_ => h_.1))) (by decide)) hk (fun _ h => h.2)) (fun _ h => h.1)); replace BK145 := A_ (KeepBut.blk hk (g' := gb145) (o := .cells #[.bool t142, .int .i64 0, .string (⟨#[]⟩ : ByteArray)] 43 (0, 0)) (by (with_reducible repeat (first | refine blk_drewN ?_ _ | refine blk_drew ?_ | refine blk_alloc ?_ _)); refine blk_put (cs := #[.bool t142, .int .i64 0, .string (⟨#[]⟩ : ByteArray)]) ?_ 2 _ rfl; (with_reducible repeat (first | refine blk_drewN ?_ _ | refine blk_drew ?_ | refine blk_alloc ?_ _)); refine blk_put (cs := #[.bool t142, .int .i64 0, .string (⟨#[]⟩ : ByteArray)]) ?_ 1 _ rfl; (with_reducible repeat (first | refine blk_drewN ?_ _ | refine blk_drew ?_ | refine blk_alloc ?_ _)); refine blk_put (cs := #[.bool false, .int .i64 0, .string (⟨#[]⟩ : ByteArray)]) ?_ 0 _ rfl; (with_reducible repeat (first | refine blk_drewN ?_ _ | refine blk_drew ?_ | refine blk_alloc ?_ _)); exact BK145.out) NB145_0.out (by simp)); replace HK := A_ (KeepBut.trans (by repeat (first | (with_reducible first | exact HK.out | apply KeepBut.set_ | apply keep_drewN | apply keep_drew | apply keep_alloc | refine keep_far ?_ GW145.out _) | exact HK.out)) hk (.inl rfl)); replace HB := A_ (hb); replace HI0 := A_ (hi); (try clear hb); (try clear hk); (try clear hi)) | ((with_reducible refine gc_ (f := 25) rfl ?_); refine gL_ (some 34) Tryz.func25 #[.pointer (some ⟨g, 0, none⟩), .int .i64 9] ?_; (with_reducible refine (spec_l1Below.calls g s0_0 t147 t148 9 t156 t157 t158 w0 _ ?s1 ?s2 A27.out).mono ?_); (case s1 => repeat (first | (with_reducible first | exact HI0.out | apply IsS60.alloc | apply IsS60.drewN | apply IsS60.drew | apply IsS60.set_1 | apply IsS60.set_2 | apply IsS60.far (hne := NB0_145.out)) | exact HI0.out)); (case s2 => repeat (first | (with_reducible first | exact HB.out | apply below_alloc | apply pw_below_drewN | apply below_drew1 | refine below_set ?_ (IsS60.ge HI0.out) | refine below_set ?_ GE145.out) | exact HB.out)); rintro e w34 ⟨rfl, hi, hb, hk⟩; refine ⟨_, rfl, ?_⟩; replace HO_3 := A_ (Kd.S_mono (Kd.S_keep (IsS60.apartS (show IsS60 w0 _ g s0_0 t147 t148 from by repeat (first | (with_reducible first | exact HI0.out | apply IsS60.alloc | apply IsS60.drewN | apply IsS60.drew | apply IsS60.set_1 | apply IsS60.set_2 | apply IsS60.far (hne := NB0_145.out)) | exact HI0.out)) (vS_ HO_3.out) (by decide)) hk (fun _ h => h.2)) (fun _ h => h.1)); replace HO_5 := A_ (Kd.R_mono (Kd.R_keep (IsS60.apart (show IsS60 w0 _ g s0_0 t147 t148 from by repeat (first | (with_reducible first | exact HI0.out | apply IsS60.alloc | apply IsS60.drewN | apply IsS60.drew | apply IsS60.set_1 | apply IsS60.set_2 | apply IsS60.far (hne := NB0_145.out)) | exact HI0.out)) (vR_ HO_5.out) (by decide)) hk (fun _ h => h.2)) (fun _ h => h.1)); replace BK145 := A_ (KeepBut.blk hk (g' := gb145) (o := .cells #[.bool t142, .int .i64 0, .string (⟨#[]⟩ : ByteArray)] 43 (0, 0)) (vb_ BK145.out) NB145_0.out (by simp)); replace HK := A_ (KeepBut.trans (by repeat (first | (with_reducible first | exact HK.out | apply KeepBut.set_ | apply keep_drewN | apply keep_drew | apply keep_alloc | refine keep_far ?_ GW145.out _) | exact HK.out)) hk (.inl rfl)); replace HB := A_ (hb); replace HI0 := A_ (hi); (try clear hb); (try clear hk); (try clear hi); obtain ⟨hcz35_0, hcz35_1, hcz35_2, hfz35_0, hfz35_1, hfz35_2⟩ := cz3_ BK145.out) | ((with_reducible refine gate_builtin (b := .append) (xs := #[.tmp 37, .tmp 39]) rfl ?_); at_builtin; refine Kd.R_append k43 w.heap.size rfl (.tmp 37) (.tmp 39) 41 43 (.agg #[(.bool false), (.int .i64 0), (.string ⟨#[]⟩)]) 32 rfl Tryz.underlying41 info43 rfl (by decide) (by omega) u5 x5_2 (⟨t142, wrap64 (1 + t156), (⟨#[]⟩ : ByteArray)⟩ : S43) [.bool t142, .int .i64 (wrap64 (1 + t156)), .string (⟨#[]⟩ : ByteArray)] (fun k_ => k_ ≠ gb145) (fun _ => False) rfl (by first | (go_simp; done) | (go_simp; rfl)) ?aP (fun _ hk => hk.elim) ?aF ?aO (Below.refl _ _) ?aS ?aL ?_; (case aP => exact k43_mkM _ _ _ (⟨t142, wrap64 (1 + t156), (⟨#[]⟩ : ByteArray)⟩ : S43)); (case aF => exact (fun k_ hk => Kd.freshB (g := gb145) (o := .cells #[.bool t142, .int .i64 (wrap64 (1 + t156)), .string (⟨#[]⟩ : ByteArray)] 43 (0, 0)) (by (with_reducible repeat (first | refine blk_drewN ?_ _ | refine blk_drew ?_ | refine blk_alloc ?_ _)); refine blk_put (cs := #[.bool t142, .int .i64 0, .string (⟨#[]⟩ : ByteArray)]) ?_ 1 _ rfl; (with_reducible repeat (first | refine blk_drewN ?_ _ | refine blk_drew ?_ | refine blk_alloc ?_ _)); exact BK145.out) k_ hk)); (case aO => exact (by (with_reducible repeat (first | apply Kd.R_alloc | apply Kd.R_drewN | apply Kd.R_drew)); exact Kd.R_mono (Kd.R_far (p := ⟨gb145, 1, none⟩) (Kd.R_mono HO_5.out (fun k_ hk => (⟨hk, hk.2⟩ : _ ∧ k_ ≠ gb145))) (fun _ hk => hk.2) (.int .i64 (wrap64 (1 + t156)))) (fun _ hk => hk.1.2))); (case aS => exact (keep_size (w := w) (g := g) (row := none) (by repeat (first | (with_reducible first | exact HK.out | apply KeepBut.set_ | apply keep_drewN | apply keep_drew | apply keep_alloc | refine keep_far ?_ GW145.out _) | exact HK.out)))); (case aL => have := LMc28.out; omega); intro v160 w36 ho hb hg hat; rw [← Ny159.out] at ho; replace HO_3 := A_ (Kd.S_after (ok := (fun k_ => k_ ≠ gb145)) (by (with_reducible repeat (first | apply Kd.S_alloc | apply Kd.S_drewN | apply Kd.S_drew)); exact Kd.S_mono (Kd.S_far (p := ⟨gb145, 1, none⟩) (Kd.S_mono HO_3.out (fun k_ hk => (⟨hk, hk.2⟩ : _ ∧ k_ ≠ gb145))) (fun _ hk => hk.2) (.int .i64 (wrap64 (1 + t156)))) (fun _ hk => ⟨hk.1.2, hk.1.1⟩)) hg hat); replace BK145 := A_ (blk_grown (g := gb145) (o := .cells #[.bool t142, .int .i64 (wrap64 (1 + t156)), .string (⟨#[]⟩ : ByteArray)] 43 (0, 0)) (by (with_reducible repeat (first | refine blk_drewN ?_ _ | refine blk_drew ?_ | refine blk_alloc ?_ _)); refine blk_put (cs := #[.bool t142, .int .i64 0, .string (⟨#[]⟩ : ByteArray)]) ?_ 1 _ rfl; (with_reducible repeat (first | refine blk_drewN ?_ _ | refine blk_drew ?_ | refine blk_alloc ?_ _)); exact BK145.out) hg (Kd.R_away HO_5.out (fun _ hk => hk.2))); replace HB := A_ (below_weaken (by repeat (first | (with_reducible first | exact HB.out | apply below_alloc | apply pw_below_drewN | apply below_drew1 | refine below_set ?_ (IsS60.ge HI0.out) | refine below_set ?_ GE145.out) | exact HB.out)) HL.out hb); replace HI0 := A_ (IsS60.grown (by repeat (first | (with_reducible first | exact HI0.out | apply IsS60.alloc | apply IsS60.drewN | apply IsS60.drew | apply IsS60.set_1 | apply IsS60.set_2 | apply IsS60.far (hne := NB0_145.out)) | exact HI0.out)) hg (IsS60.own_ne HI0.out HO_5.out (by decide))); replace HK := A_ (KeepBut.trans (by repeat (first | (with_reducible first | exact HK.out | apply KeepBut.set_ | apply keep_drewN | apply keep_drew | apply keep_alloc | refine keep_far ?_ GW145.out _) | exact HK.out)) (KeepBut.of_grown hg g) (Kd.R_base2 HO_5.out)); have HO161 := A_ (ho); clear HO_5; clear ho hb hg hat))
       go_roundg k2
       case measure => have := HK1.out; have := HK2.out; omega
       case rel => exact ⟨(y159), (wrap64 (x6_2 - 1)), (t157), (t158), rs_, H', ⟨by have := HK1.out; have := HK2.out; omega⟩, ⟨by (with_reducible repeat (first | apply Kd.S_alloc | apply Kd.S_drewN | apply Kd.S_drew)); exact Kd.S_mono HO_3.out (fun _ hk => hk.2)⟩, ⟨by (with_reducible repeat (first | apply Kd.R_alloc | apply Kd.R_drewN | apply Kd.R_drew)); exact Kd.R_mono HO161.out (fun _ hk => trivial)⟩, ⟨by repeat (first | (with_reducible first | exact HI0.out | apply IsS60.alloc | apply IsS60.drewN | apply IsS60.drew | apply IsS60.set_1 | apply IsS60.set_2 | apply IsS60.far (hne := NB0_145.out)) | exact HI0.out)⟩, ⟨by repeat (first | (with_reducible first | exact HK.out | apply KeepBut.set_ | apply keep_drewN | apply keep_drew | apply keep_alloc | refine keep_far ?_ GW145.out _) | exact HK.out)⟩, ⟨by repeat (first | (with_reducible first | exact HB.out | apply below_alloc | apply pw_below_drewN | apply below_drew1 | refine below_set ?_ (IsS60.ge HI0.out) | refine below_set ?_ GE145.out) | exact HB.out)⟩⟩
def spec_l1Str.f (s0_0 : List Int) (s0_1 : Int) (s0_2 : Int) (l1 : List ByteArray) : Option (ByteArray × Int × Int) := (spec_l1Below.f s0_0 s0_1 s0_2 (l1.length : Int)).bind fun bt162 => (if 0 ≤ bt162.1 then (if bt162.1 < (l1.length : Int) then (some (rdOf ByteArray.empty l1 bt162.1, bt162.2.1, bt162.2.2)) else (none)) else (none))
theorem spec_l1Str.calls (g : Nat) (s0_0 : List Int) (s0_1 : Int) (s0_2 : Int) (A1 : Option Addr) (c1 : Nat) (l1 : List ByteArray) (r1 : ByteArray) (r2 : Int) (r3 : Int) (w0 w : World) (hI : IsS60 w0 w g s0_0 s0_1 s0_2) (hB : Below w0.heap.size w0 w) (hr1 : Kd.C Kd.string w A1 l1.length l1) (hc1 : l1.length ≤ c1) (hf1 : ∀ ad, A1 = some ad → 0 < l1.length → ad.block ≠ g) (h : spec_l1Str.f s0_0 s0_1 s0_2 l1 = some (r1, r2, r3)) :
 Calls Tryz.prog 26 #[.pointer (some ⟨g, 0, none⟩), .slice A1 l1.length c1] w fun e w' => e = .returned (.string r1) ∧ IsS60 w0 w' g s0_0 r2 r3 ∧ Below w0.heap.size w0 w' ∧ KeepBut w w' g none := by
 have HR1 := A_ hr1
 have HC1 := A_ hc1
 clear hr1 hc1
 have HI0 := A_ hI
 have HK := A_ (KeepBut.refl w g none)
 have HL := A_ hB.size
 clear hI
 have HW0 := A_ hB.size
 have HB := A_ hB
 clear hB
 have H : ((spec_l1Below.f s0_0 s0_1 s0_2 (l1.length : Int)).bind fun bt162 => (if 0 ≤ bt162.1 then (if bt162.1 < (l1.length : Int) then (some (rdOf ByteArray.empty l1 bt162.1, bt162.2.1, bt162.2.2)) else (none)) else (none))) = some (r1, r2, r3) := h
 clear h
 obtain ⟨⟨t162, t163, t164⟩, A3, H⟩ := bo_ H
 (try dsimp only at H)
 by_cases c4 : 0 ≤ t162
 rotate_left
 · exact absurd H (by rw [if_neg c4]; simp)
 rw [if_pos c4] at H
 have c4b0 : decide (0 ≤ t162) = true := decide_eq_true c4
 clear c4
 by_cases c5 : t162 < (l1.length : Int)
 rotate_left
 · exact absurd H (by rw [if_neg c5]; simp)
 rw [if_pos c5] at H
 have c5b0 : decide (t162 < (l1.length : Int)) = true := decide_eq_true c5
 clear c5
 simp only [Option.some.injEq, Prod.mk.injEq] at H
 obtain ⟨rfl, rfl, rfl⟩ := H
 go_enter Tryz.func26, Tryz.ntmps26
 go_wp2_with (first | ((with_reducible refine gc_ (f := 25) rfl ?_); refine gL_ (some 9) Tryz.func25 #[.pointer (some ⟨g, 0, none⟩), .int .i64 (l1.length : Int)] ?_; (with_reducible refine (spec_l1Below.calls g s0_0 s0_1 s0_2 (l1.length : Int) t162 t163 t164 w0 _ ?s1 ?s2 A3.out).mono ?_); (case s1 => exact bIQx20_); (case s2 => exact bIQx21_); rintro e w6 ⟨rfl, hi, hb, hk⟩; refine ⟨_, rfl, ?_⟩; replace HK := A_ (KeepBut.trans bK_ hk (.inl rfl)); replace HB := A_ (hb); replace HI0 := A_ (hi); (try clear hb); (try clear hk); (try clear hi); have p165 : 0 ≤ (t162 : Int) := od_; have q165 : t162 < (l1.length : Int) := od_; obtain ⟨ad165, e165, hx165_0⟩ := Kd.at_string HR1.out t162 p165 q165; cases e165; replace hx165_0 := keep_cell HK.out hx165_0 (by first | (rw [add_block]; exact hf1 _ rfl (by omega)) | exact hf1 _ rfl (by omega) | exact hf1 ad165 rfl (by omega)); replace p165 := eq_true p165; replace q165 := eq_true q165))
 go_ret
 exact ⟨rr_, bIQx20_, bIQx21_, bK_⟩
def spec_l1Int.f (s0_0 : List Int) (s0_1 : Int) (s0_2 : Int) (l1 : List Int) : Option (Int × Int × Int) := (spec_l1Below.f s0_0 s0_1 s0_2 (l1.length : Int)).bind fun bt166 => (if 0 ≤ bt166.1 then (if bt166.1 < (l1.length : Int) then (some (rd l1 bt166.1, bt166.2.1, bt166.2.2)) else (none)) else (none))
theorem spec_l1Int.calls (g : Nat) (s0_0 : List Int) (s0_1 : Int) (s0_2 : Int) (A1 : Option Addr) (c1 : Nat) (l1 : List Int) (r1 : Int) (r2 : Int) (r3 : Int) (w0 w : World) (hI : IsS60 w0 w g s0_0 s0_1 s0_2) (hB : Below w0.heap.size w0 w) (hr1 : Kd.C (Kd.int .i64) w A1 l1.length l1) (hc1 : l1.length ≤ c1) (hf1 : ∀ ad, A1 = some ad → 0 < l1.length → ad.block ≠ g) (h : spec_l1Int.f s0_0 s0_1 s0_2 l1 = some (r1, r2, r3)) :
 Calls Tryz.prog 36 #[.pointer (some ⟨g, 0, none⟩), .slice A1 l1.length c1] w fun e w' => e = .returned (.int .i64 r1) ∧ IsS60 w0 w' g s0_0 r2 r3 ∧ Below w0.heap.size w0 w' ∧ KeepBut w w' g none := by
 have HR1 := A_ hr1
 have HC1 := A_ hc1
 clear hr1 hc1
 have HI0 := A_ hI
 have HK := A_ (KeepBut.refl w g none)
 have HL := A_ hB.size
 clear hI
 have HW0 := A_ hB.size
 have HB := A_ hB
 clear hB
 have H : ((spec_l1Below.f s0_0 s0_1 s0_2 (l1.length : Int)).bind fun bt166 => (if 0 ≤ bt166.1 then (if bt166.1 < (l1.length : Int) then (some (rd l1 bt166.1, bt166.2.1, bt166.2.2)) else (none)) else (none))) = some (r1, r2, r3) := h
 clear h
 obtain ⟨⟨t166, t167, t168⟩, A3, H⟩ := bo_ H
 (try dsimp only at H)
 by_cases c4 : 0 ≤ t166
 rotate_left
 · exact absurd H (by rw [if_neg c4]; simp)
 rw [if_pos c4] at H
 have c4b0 : decide (0 ≤ t166) = true := decide_eq_true c4
 clear c4
 by_cases c5 : t166 < (l1.length : Int)
 rotate_left
 · exact absurd H (by rw [if_neg c5]; simp)
 rw [if_pos c5] at H
 have c5b0 : decide (t166 < (l1.length : Int)) = true := decide_eq_true c5
 clear c5
 simp only [Option.some.injEq, Prod.mk.injEq] at H
 obtain ⟨rfl, rfl, rfl⟩ := H
 go_enter Tryz.func36, Tryz.ntmps36
 go_wp2_with (first | ((with_reducible refine gc_ (f := 25) rfl ?_); refine gL_ (some 9) Tryz.func25 #[.pointer (some ⟨g, 0, none⟩), .int .i64 (l1.length : Int)] ?_; (with_reducible refine (spec_l1Below.calls g s0_0 s0_1 s0_2 (l1.length : Int) t166 t167 t168 w0 _ ?s1 ?s2 A3.out).mono ?_); (case s1 => exact bIQx20_); (case s2 => exact bIQx21_); rintro e w6 ⟨rfl, hi, hb, hk⟩; refine ⟨_, rfl, ?_⟩; replace HK := A_ (KeepBut.trans bK_ hk (.inl rfl)); replace HB := A_ (hb); replace HI0 := A_ (hi); (try clear hb); (try clear hk); (try clear hi); have p169 : 0 ≤ (t166 : Int) := od_; have q169 : t166 < (l1.length : Int) := od_; obtain ⟨ad169, e169, hx169_0⟩ := Kd.at_int HR1.out t166 p169 q169; cases e169; replace hx169_0 := keep_cell HK.out hx169_0 (by first | (rw [add_block]; exact hf1 _ rfl (by omega)) | exact hf1 _ rfl (by omega) | exact hf1 ad169 rfl (by omega)); replace p169 := eq_true p169; replace q169 := eq_true q169))
 go_ret
 exact ⟨rr_, bIQx20_, bIQx21_, bK_⟩
end Go.Proofs.YtigoeooelfeopaaGreatDoor.Q
