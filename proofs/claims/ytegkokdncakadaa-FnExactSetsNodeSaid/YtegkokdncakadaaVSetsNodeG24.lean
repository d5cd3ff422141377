/- impl.SetsNode and spec.SetsNode: nodes made anew, whose rows lie apart. No condition. -/
import Derived.Test.YtegkokdncakadaaProg
import Derived.Below
import Derived.Deep.Draws
import Derived.Deep.AppendLies
import Derived.Maps.AppendAt
import Derived.OwnWalk
import Derived.Laws.BytesArg
import Derived.Laws.MakeOwn
import Derived.Laws.OwnMore
import Derived.Deep.OwnRows
import Derived.Tactics
import Derived.Lib.ConvBytes
import Derived.Laws.Slices
import Derived.WalkKit
import Derived.KernelRfl
import Derived.RowKit3
import Derived.Deep.LoopGhost
import Derived.Deep.QuietTactic
import Derived.BigQuiet
import Derived.WideLaws
import Derived.Deep.DeepCutAuto
import Derived.Deep.CutBlock
import Derived.Deep.RegionHeld3
import Derived.Laws.Rows
import Derived.Lib.AppendStr
import Derived.ArgAppend
import Derived.Laws.IdiomCopy
import Derived.OrdersHeld
import Derived.Laws.BitsLemmas
import Derived.RowKit
import Derived.Test.YtegkokdncakadaaVSetsNodeG23
namespace Go.Proofs.Ytegkokdncakadaa.Q
open Go.RowKit Go.Proofs.YtegkokdncakadaaW.PrintWords Go.Proofs.YtegkokdncakadaaW.PrintLast Go.Proofs.YtegkokdncakadaaW.PrintMore
attribute [local go_sem] max2_int min2_int max_two min_two max_three min_three max_four min_four
set_option linter.unusedVariables false
set_option linter.unusedSimpArgs false
def setNode_ (s : S42) : S26 := ⟨(⟨#[68, 65, 86, 58]⟩ : ByteArray), (if s.f0 = true then (⟨#[114, 101, 109, 111, 118, 101]⟩ : ByteArray) else (⟨#[115, 101, 116]⟩ : ByteArray)), (⟨#[]⟩ : ByteArray), [⟨(⟨#[68, 65, 86, 58]⟩ : ByteArray), (⟨#[112, 114, 111, 112]⟩ : ByteArray), (⟨#[]⟩ : ByteArray), [⟨s.f1.f0, s.f1.f1, (if s.f0 = true then (⟨#[]⟩ : ByteArray) else s.f1.f2), []⟩]⟩]⟩
def setsNode_ : Nat -> List (S42) -> Int -> List (S26) -> Option (List (S26))
 | 0, _, _, _ => none
 | k + 1, l0, x, acc => if x < (l0.length : Int) then (if 0 <= x then (if acc.length < 1954687338268 then setsNode_ k l0 (wrap64 (x + 1)) (acc ++ [setNode_ (rd_T42 l0 x)]) else none) else none) else (some acc)
def impl_SetsNode.f (k : Nat) (l0 : List (S42)) : Option (ByteArray × ByteArray × ByteArray × List (S26)) := (setsNode_ k l0 0 []).bind fun r => some ((⟨#[68, 65, 86, 58]⟩ : ByteArray), (⟨#[112, 114, 111, 112, 101, 114, 116, 121, 117, 112, 100, 97, 116, 101]⟩ : ByteArray), (⟨#[]⟩ : ByteArray), r)
def spec_SetsNode.f (k : Nat) (l0 : List (S42)) : Option (ByteArray × ByteArray × ByteArray × List (S26)) := (setsNode_ k l0 0 []).bind fun r => some ((⟨#[68, 65, 86, 58]⟩ : ByteArray), (⟨#[112, 114, 111, 112, 101, 114, 116, 121, 117, 112, 100, 97, 116, 101]⟩ : ByteArray), (⟨#[]⟩ : ByteArray), r)
def impl_SetsNode.T10 : Bool × List (List Nat × List Nat) := (true, [([], []), ([0], [0]), ([], []), ([], []), ([3], [3]), ([4], [4]), ([5], [5]), ([2, 6, 5], [2, 6]), ([7], [7]), ([1, 8, 7], [1, 8]), ([0, 1, 2, 3, 4, 5, 6, 7, 8, 9], []), ([10, 9, 9, 0, 1, 2, 3, 4, 5, 6, 7, 8, 9], [9, 10])])
def impl_SetsNode.B10 : List Nat := [0, 1, 0, 0, 8, 24, 56, 124, 252, 511, 1023, 2047]
theorem impl_SetsNode.tab10 : rtab .any (opsOf Try.f7 10) = impl_SetsNode.T10 := by kernel_rfl
theorem impl_SetsNode.bits10 : waitsOk impl_SetsNode.T10.2 impl_SetsNode.B10 = true := by kernel_rfl
set_option maxHeartbeats 32000000 in
set_option maxRecDepth 100000 in
theorem impl_SetsNode.calls (k : Nat) (A0 : Option Addr) (c0 : Nat) (l0 : List (S42)) (r1 : ByteArray) (r2 : ByteArray) (r3 : ByteArray) (r4 : List (S26)) (w : World) (hr0 : Kd.C k42 w A0 l0.length l0) (hc0 : l0.length <= c0) (h : impl_SetsNode.f k l0 = some (r1, r2, r3, r4)) :
 Calls Try.prog 7 #[.slice A0 l0.length c0] w fun e w' => ∃ v3_ : Value, e = .returned (.agg #[.string r1, .string r2, .string r3, v3_]) /\ Kd.S kA 26 w' w.heap.size (fun _ => True) v3_ r4 /\ Below w.heap.size w w' := by
 obtain ⟨r_, hA_, h2_⟩ := Option.bind_eq_some_iff.mp h
 simp only [Option.some.injEq, Prod.mk.injEq] at h2_
 obtain ⟨rfl, rfl, rfl, rfl⟩ := h2_
 have hu_ := Try.underlying26
 have hus_ := Try.underlying42
 have HR := A_ hr0
 have HB := A_ (Below.refl w.heap.size w)
 have H' := A_ hA_
 clear hr0 hA_ h
 go_enter Try.func7, Try.ntmps7
 go_wp2_with (first | ((with_reducible refine gd_ (N := 2) rfl ?_); refine bx_ (N := 2) (cs := #[.string (⟨#[]⟩ : ByteArray), .string (⟨#[]⟩ : ByteArray), .string (⟨#[]⟩ : ByteArray), .slice none 0 0]) (t := 26) ?_; intro g2 hg_ w_1 hbox_ hb_; have GEg2 : Aside0 (w.heap.size <= g2) := ⟨by rw [hg_]; exact below_size HB.out⟩; have m0_ : Aside0 (Below w.heap.size w w_1) := ⟨below_step HB.out hb_⟩; have m1_ : Aside0 (w_1.heap[g2]? = some (.cells #[.string (⟨#[]⟩ : ByteArray), .string (⟨#[]⟩ : ByteArray), .string (⟨#[]⟩ : ByteArray), .slice none 0 0] 26 (0, 0))) := ⟨hbox_⟩; (try clear HB); (try clear BKg2); have HB := m0_; have BKg2 := m1_; clear m0_ m1_; clear hb_ hbox_ hg_; have hxg2_0 : w_1.cell? ⟨g2, 0, none⟩ = some (.string (⟨#[]⟩ : ByteArray)) := (blk_cell BKg2.out 0).trans rfl; have hfg2_0 := blk_frozen BKg2.out 0; have hxg2_1 : w_1.cell? ⟨g2, 1, none⟩ = some (.string (⟨#[]⟩ : ByteArray)) := (blk_cell BKg2.out 1).trans rfl; have hfg2_1 := blk_frozen BKg2.out 1; have hxg2_2 : w_1.cell? ⟨g2, 2, none⟩ = some (.string (⟨#[]⟩ : ByteArray)) := (blk_cell BKg2.out 2).trans rfl; have hfg2_2 := blk_frozen BKg2.out 2; have hxg2_3 : w_1.cell? ⟨g2, 3, none⟩ = some (.slice none 0 0) := (blk_cell BKg2.out 3).trans rfl; have hfg2_3 := blk_frozen BKg2.out 3) | ((with_reducible refine gc_ (f := 15) rfl ?_); refine gL_ (some 8) Try.func15 #[.string (⟨#[112, 114, 111, 112, 101, 114, 116, 121, 117, 112, 100, 97, 116, 101]⟩ : ByteArray), .slice none 0 0] ?_; (with_reducible refine (dav_calls (⟨#[112, 114, 111, 112, 101, 114, 116, 121, 117, 112, 100, 97, 116, 101]⟩ : ByteArray) none 0 0 _).mono ?_); rintro e w_2 ⟨rfl, hb_⟩; refine ⟨_, rfl, ?_⟩; have m0_ : Aside0 (w_2.heap[g2]? = some (.cells #[.string (⟨#[]⟩ : ByteArray), .string (⟨#[]⟩ : ByteArray), .string (⟨#[]⟩ : ByteArray), .slice none 0 0] 26 (0, 0))) := ⟨blk_below BKg2.out hb_⟩; have m1_ : Aside0 (Below w.heap.size w w_2) := ⟨below_step HB.out hb_⟩; (try clear hxg2_0 hfg2_0 hxg2_1 hfg2_1 hxg2_2 hfg2_2 hxg2_3 hfg2_3); (try clear BKg2); (try clear HB); have BKg2 := m0_; have HB := m1_; clear m0_ m1_; clear hb_; have hxg2_0 : w_2.cell? ⟨g2, 0, none⟩ = some (.string (⟨#[]⟩ : ByteArray)) := (blk_cell BKg2.out 0).trans rfl; have hfg2_0 := blk_frozen BKg2.out 0; have hxg2_1 : w_2.cell? ⟨g2, 1, none⟩ = some (.string (⟨#[]⟩ : ByteArray)) := (blk_cell BKg2.out 1).trans rfl; have hfg2_1 := blk_frozen BKg2.out 1; have hxg2_2 : w_2.cell? ⟨g2, 2, none⟩ = some (.string (⟨#[]⟩ : ByteArray)) := (blk_cell BKg2.out 2).trans rfl; have hfg2_2 := blk_frozen BKg2.out 2; have hxg2_3 : w_2.cell? ⟨g2, 3, none⟩ = some (.slice none 0 0) := (blk_cell BKg2.out 3).trans rfl; have hfg2_3 := blk_frozen BKg2.out 3) | ((with_reducible refine gd_ (N := 3) rfl ?_); refine bx_ (N := 3) (cs := #[.string (⟨#[]⟩ : ByteArray), .string (⟨#[]⟩ : ByteArray), .string (⟨#[]⟩ : ByteArray), .slice none 0 0]) (t := 26) ?_; intro g3 hg_ w_3 hbox_ hb_; have hn_g2_g3 : g2 ≠ g3 := (by have := blk_lt BKg2.out; rw [hg_]; omega); have hn_g3_g2 : g3 ≠ g2 := (by have := blk_lt BKg2.out; rw [hg_]; omega); have GEg3 : Aside0 (w.heap.size <= g3) := ⟨by rw [hg_]; exact below_size HB.out⟩; have m0_ : Aside0 (w_3.heap[g2]? = some (.cells #[.string (⟨#[]⟩ : ByteArray), .string (⟨#[]⟩ : ByteArray), .string (⟨#[]⟩ : ByteArray), .slice none 0 0] 26 (0, 0))) := ⟨blk_below BKg2.out hb_⟩; have m1_ : Aside0 (Below w.heap.size w w_3) := ⟨below_step HB.out hb_⟩; have m2_ : Aside0 (w_3.heap[g3]? = some (.cells #[.string (⟨#[]⟩ : ByteArray), .string (⟨#[]⟩ : ByteArray), .string (⟨#[]⟩ : ByteArray), .slice none 0 0] 26 (0, 0))) := ⟨hbox_⟩; (try clear hxg2_0 hfg2_0 hxg2_1 hfg2_1 hxg2_2 hfg2_2 hxg2_3 hfg2_3); (try clear BKg2); (try clear HB); (try clear BKg3); have BKg2 := m0_; have HB := m1_; have BKg3 := m2_; clear m0_ m1_ m2_; clear hb_ hbox_ hg_; have hxg2_0 : w_3.cell? ⟨g2, 0, none⟩ = some (.string (⟨#[]⟩ : ByteArray)) := (blk_cell BKg2.out 0).trans rfl; have hfg2_0 := blk_frozen BKg2.out 0; have hxg2_1 : w_3.cell? ⟨g2, 1, none⟩ = some (.string (⟨#[]⟩ : ByteArray)) := (blk_cell BKg2.out 1).trans rfl; have hfg2_1 := blk_frozen BKg2.out 1; have hxg2_2 : w_3.cell? ⟨g2, 2, none⟩ = some (.string (⟨#[]⟩ : ByteArray)) := (blk_cell BKg2.out 2).trans rfl; have hfg2_2 := blk_frozen BKg2.out 2; have hxg2_3 : w_3.cell? ⟨g2, 3, none⟩ = some (.slice none 0 0) := (blk_cell BKg2.out 3).trans rfl; have hfg2_3 := blk_frozen BKg2.out 3; have hxg3_0 : w_3.cell? ⟨g3, 0, none⟩ = some (.string (⟨#[]⟩ : ByteArray)) := (blk_cell BKg3.out 0).trans rfl; have hfg3_0 := blk_frozen BKg3.out 0; have hxg3_1 : w_3.cell? ⟨g3, 1, none⟩ = some (.string (⟨#[]⟩ : ByteArray)) := (blk_cell BKg3.out 1).trans rfl; have hfg3_1 := blk_frozen BKg3.out 1; have hxg3_2 : w_3.cell? ⟨g3, 2, none⟩ = some (.string (⟨#[]⟩ : ByteArray)) := (blk_cell BKg3.out 2).trans rfl; have hfg3_2 := blk_frozen BKg3.out 2; have hxg3_3 : w_3.cell? ⟨g3, 3, none⟩ = some (.slice none 0 0) := (blk_cell BKg3.out 3).trans rfl; have hfg3_3 := blk_frozen BKg3.out 3) | ((with_reducible refine gate_store (t := 26) (p := 3) rfl ?_); apply box_store (g := g3); (case hrun => first | (go_simp; done) | (go_simp; rfl)); (case _ho => rfl); (case hN => rfl); (case hgd => rfl); (case hs => repeat (first | (with_reducible exact Sto.refl _ _) | refine Sto.step ?_ _ _)); (case hb => repeat (first | (with_reducible exact IsBlk.of BKg3.out) | (with_reducible apply IsBlk.set))); intro w_4 hw' bk_; simp only [List.setIfInBounds_toArray, List.set_cons_zero, List.set_cons_succ] at bk_; have m0_ : Aside0 (w_4.heap[g2]? = some (.cells #[.string (⟨#[]⟩ : ByteArray), .string (⟨#[]⟩ : ByteArray), .string (⟨#[]⟩ : ByteArray), .slice none 0 0] 26 (0, 0))) := ⟨stored_blk hw' BKg2.out hn_g2_g3⟩; have m1_ : Aside0 (Below w.heap.size w w_4) := ⟨stored_below hw' HB.out GEg3.out⟩; have m2_ : Aside0 (w_4.heap[g3]? = some (.cells #[.string (⟨#[68, 65, 86, 58]⟩ : ByteArray), .string (⟨#[112, 114, 111, 112, 101, 114, 116, 121, 117, 112, 100, 97, 116, 101]⟩ : ByteArray), .string (⟨#[]⟩ : ByteArray), .slice none 0 0] 26 (0, 0))) := ⟨bk_⟩; (try clear hxg2_0 hfg2_0 hxg2_1 hfg2_1 hxg2_2 hfg2_2 hxg2_3 hfg2_3 hxg3_0 hfg3_0 hxg3_1 hfg3_1 hxg3_2 hfg3_2 hxg3_3 hfg3_3); (try clear BKg2); (try clear HB); (try clear BKg3); have BKg2 := m0_; have HB := m1_; have BKg3 := m2_; clear m0_ m1_ m2_; clear hw' bk_; have hxg2_0 : w_4.cell? ⟨g2, 0, none⟩ = some (.string (⟨#[]⟩ : ByteArray)) := (blk_cell BKg2.out 0).trans rfl; have hfg2_0 := blk_frozen BKg2.out 0; have hxg2_1 : w_4.cell? ⟨g2, 1, none⟩ = some (.string (⟨#[]⟩ : ByteArray)) := (blk_cell BKg2.out 1).trans rfl; have hfg2_1 := blk_frozen BKg2.out 1; have hxg2_2 : w_4.cell? ⟨g2, 2, none⟩ = some (.string (⟨#[]⟩ : ByteArray)) := (blk_cell BKg2.out 2).trans rfl; have hfg2_2 := blk_frozen BKg2.out 2; have hxg2_3 : w_4.cell? ⟨g2, 3, none⟩ = some (.slice none 0 0) := (blk_cell BKg2.out 3).trans rfl; have hfg2_3 := blk_frozen BKg2.out 3; have hxg3_0 : w_4.cell? ⟨g3, 0, none⟩ = some (.string (⟨#[68, 65, 86, 58]⟩ : ByteArray)) := (blk_cell BKg3.out 0).trans rfl; have hfg3_0 := blk_frozen BKg3.out 0; have hxg3_1 : w_4.cell? ⟨g3, 1, none⟩ = some (.string (⟨#[112, 114, 111, 112, 101, 114, 116, 121, 117, 112, 100, 97, 116, 101]⟩ : ByteArray)) := (blk_cell BKg3.out 1).trans rfl; have hfg3_1 := blk_frozen BKg3.out 1; have hxg3_2 : w_4.cell? ⟨g3, 2, none⟩ = some (.string (⟨#[]⟩ : ByteArray)) := (blk_cell BKg3.out 2).trans rfl; have hfg3_2 := blk_frozen BKg3.out 2; have hxg3_3 : w_4.cell? ⟨g3, 3, none⟩ = some (.slice none 0 0) := (blk_cell BKg3.out 3).trans rfl; have hfg3_3 := blk_frozen BKg3.out 3))
 go_loopg [11] k (fun kq v11 w' => ∃ (x_1 : Int) (acc_1 : List (S26)) (u_1 : Value), v11 = .int .i64 x_1 /\ Aside0 (setsNode_ kq l0 x_1 acc_1 = some r_) /\ Aside0 (kq <= k) /\ Aside0 (Kd.S kA 26 w' w.heap.size (fun k_ => (k_ ≠ g2 /\ k_ ≠ g3)) u_1 acc_1) /\ Aside0 (w'.heap[g2]? = some (.cells #[.string (⟨#[]⟩ : ByteArray), .string (⟨#[]⟩ : ByteArray), .string (⟨#[]⟩ : ByteArray), .slice none 0 0] 26 (0, 0))) /\ Aside0 (w'.heap[g3]? = some (.cells #[.string (⟨#[68, 65, 86, 58]⟩ : ByteArray), .string (⟨#[112, 114, 111, 112, 101, 114, 116, 121, 117, 112, 100, 97, 116, 101]⟩ : ByteArray), .string (⟨#[]⟩ : ByteArray), u_1] 26 (0, 0))) /\ Aside0 (Below w.heap.size w w'))
 case atStart => exact ⟨0, [], .slice none 0 0, rfl, H', ⟨Nat.le_refl _⟩, ⟨Kd.S_nil _ _ _ _ _⟩, BKg2, BKg3, HB⟩
 case round =>
  clear H' BKg2 BKg3 HB
  (try clear hxg2_0 hfg2_0 hxg2_1 hfg2_1 hxg2_2 hfg2_2 hxg2_3 hfg2_3 hxg3_0 hfg3_0 hxg3_1 hfg3_1 hxg3_2 hfg3_2 hxg3_3 hfg3_3)
  obtain ⟨x, acc, u, rfl, HA, HK1, HO, BKg2, BKg3, HB⟩ := hrel
  cases gk with
  | zero => exact absurd HA.out (by simp [setsNode_])
  | succ k1 =>
   have H := HA.out
   clear HA
   simp only [setsNode_] at H
   obtain ⟨Au, cu, rfl⟩ := Kd.S_slice HO.out
   have hxg2_0 : wr.cell? ⟨g2, 0, none⟩ = some (.string (⟨#[]⟩ : ByteArray)) := (blk_cell BKg2.out 0).trans rfl
   have hfg2_0 := blk_frozen BKg2.out 0
   have hxg2_1 : wr.cell? ⟨g2, 1, none⟩ = some (.string (⟨#[]⟩ : ByteArray)) := (blk_cell BKg2.out 1).trans rfl
   have hfg2_1 := blk_frozen BKg2.out 1
   have hxg2_2 : wr.cell? ⟨g2, 2, none⟩ = some (.string (⟨#[]⟩ : ByteArray)) := (blk_cell BKg2.out 2).trans rfl
   have hfg2_2 := blk_frozen BKg2.out 2
   have hxg2_3 : wr.cell? ⟨g2, 3, none⟩ = some (.slice none 0 0) := (blk_cell BKg2.out 3).trans rfl
   have hfg2_3 := blk_frozen BKg2.out 3
   have hxg3_0 : wr.cell? ⟨g3, 0, none⟩ = some (.string (⟨#[68, 65, 86, 58]⟩ : ByteArray)) := (blk_cell BKg3.out 0).trans rfl
   have hfg3_0 := blk_frozen BKg3.out 0
   have hxg3_1 : wr.cell? ⟨g3, 1, none⟩ = some (.string (⟨#[112, 114, 111, 112, 101, 114, 116, 121, 117, 112, 100, 97, 116, 101]⟩ : ByteArray)) := (blk_cell BKg3.out 1).trans rfl
   have hfg3_1 := blk_frozen BKg3.out 1
   have hxg3_2 : wr.cell? ⟨g3, 2, none⟩ = some (.string (⟨#[]⟩ : ByteArray)) := (blk_cell BKg3.out 2).trans rfl
   have hfg3_2 := blk_frozen BKg3.out 2
   have hxg3_3 : wr.cell? ⟨g3, 3, none⟩ = some (.slice Au acc.length cu) := (blk_cell BKg3.out 3).trans rfl
   have hfg3_3 := blk_frozen BKg3.out 3
   by_cases c3 : x < (l0.length : Int)
   rotate_left
   . rw [if_neg c3] at H
     have c3b0 := decide_eq_false c3
     obtain rfl := si_ H
     clear c3
     go_wp2
     refine bodyPost_ret (results_cell_row rfl _ _ g2 26 #[.string (⟨#[68, 65, 86, 58]⟩ : ByteArray), .string (⟨#[112, 114, 111, 112, 101, 114, 116, 121, 117, 112, 100, 97, 116, 101]⟩ : ByteArray), .string (⟨#[]⟩ : ByteArray), .slice Au acc.length cu] (0, 0) _ rfl (by (with_reducible repeat (first | refine blk_drewN ?_ _ | refine blk_drew ?_ | refine blk_alloc ?_ _)); with_reducible exact p4_0123_ (vb_ BKg2.out)) Try.underlying26 rfl (by kernel_rfl)) rfl ?_
     exact ⟨_, by first | rfl | (simp; done), by (with_reducible repeat (first | apply Kd.S_alloc | apply Kd.S_drewN | apply Kd.S_drew)); exact Kd.S_mono (Kd.S_far (p := ⟨g2, 3, none⟩) (Kd.S_far (p := ⟨g2, 2, none⟩) (Kd.S_far (p := ⟨g2, 1, none⟩) (Kd.S_far (p := ⟨g2, 0, none⟩) (HO.out) (fun _ hk => hk.1) (.string (⟨#[68, 65, 86, 58]⟩ : ByteArray))) (fun _ hk => hk.1) (.string (⟨#[112, 114, 111, 112, 101, 114, 116, 121, 117, 112, 100, 97, 116, 101]⟩ : ByteArray))) (fun _ hk => hk.1) (.string (⟨#[]⟩ : ByteArray))) (fun _ hk => hk.1) (.slice Au acc.length cu)) (fun _ _ => trivial), by repeat (first | (with_reducible first | exact HB.out | apply below_alloc | apply pw_below_drewN | apply below_drew1 | refine below_set ?_ GEg2.out) | exact HB.out)⟩
   rw [if_pos c3] at H
   have c3b0 := decide_eq_true c3
   by_cases c4 : 0 <= x
   rotate_left
   . rw [if_neg c4] at H
     exact absurd H (by simp)
   rw [if_pos c4] at H
   have c4b0 := decide_eq_true c4
   by_cases c5 : acc.length < 1954687338268
   rotate_left
   . rw [if_neg c5] at H
     exact absurd H (by simp)
   rw [if_pos c5] at H
   have LM := A_ c5
   clear c5
   obtain ⟨ade, ee, he0, he1, he2, he3⟩ := at_T42 HR.out x c4 c3
   subst ee
   replace he0 := pw_cell_below HB.out he0
   replace he1 := pw_cell_below HB.out he1
   replace he2 := pw_cell_below HB.out he2
   replace he3 := pw_cell_below HB.out he3
   replace c3 := eq_true c3
   replace c4 := eq_true c4
   obtain ⟨d, hd⟩ : ∃ d_ : Bool, (rd_T42 l0 x).f0 = d_ := ⟨_, rfl⟩
   rw [hd] at he0
   cases d
   . have hEl_ : setNode_ (rd_T42 l0 x) = (⟨(⟨#[68, 65, 86, 58]⟩ : ByteArray), (⟨#[115, 101, 116]⟩ : ByteArray), (⟨#[]⟩ : ByteArray), [(⟨(⟨#[68, 65, 86, 58]⟩ : ByteArray), (⟨#[112, 114, 111, 112]⟩ : ByteArray), (⟨#[]⟩ : ByteArray), [(⟨(rd_T42 l0 x).f1.f0, (rd_T42 l0 x).f1.f1, (rd_T42 l0 x).f1.f2, []⟩ : S26)]⟩ : S26)]⟩ : S26) := by unfold setNode_; rw [hd]; rfl
     rw [hEl_] at H
     clear hEl_
     obtain ⟨y, hy_⟩ : ∃ y_ : List (S26), y_ = acc ++ [(⟨(⟨#[68, 65, 86, 58]⟩ : ByteArray), (⟨#[115, 101, 116]⟩ : ByteArray), (⟨#[]⟩ : ByteArray), [(⟨(⟨#[68, 65, 86, 58]⟩ : ByteArray), (⟨#[112, 114, 111, 112]⟩ : ByteArray), (⟨#[]⟩ : ByteArray), [(⟨(rd_T42 l0 x).f1.f0, (rd_T42 l0 x).f1.f1, (rd_T42 l0 x).f1.f2, []⟩ : S26)]⟩ : S26)]⟩ : S26)] := ⟨_, rfl⟩
     rw [← hy_] at H
     have Ny := A_ hy_
     clear hy_
     have H' := A_ H
     clear H
     try go_wp2_with (first | ((with_reducible refine gd_ (N := 5) rfl ?_); refine bx_ (N := 5) (cs := #[.bool false, .string (⟨#[]⟩ : ByteArray), .string (⟨#[]⟩ : ByteArray), .string (⟨#[]⟩ : ByteArray)]) (t := 42) ?_; intro g5 hg_ w_1 hbox_ hb_; have hn_g2_g5 : g2 ≠ g5 := (by have := blk_lt BKg2.out; rw [hg_]; omega); have hn_g5_g2 : g5 ≠ g2 := (by have := blk_lt BKg2.out; rw [hg_]; omega); have hn_g3_g5 : g3 ≠ g5 := (by have := blk_lt BKg3.out; rw [hg_]; omega); have hn_g5_g3 : g5 ≠ g3 := (by have := blk_lt BKg3.out; rw [hg_]; omega); have GEg5 : Aside0 (w.heap.size <= g5) := ⟨by rw [hg_]; exact below_size HB.out⟩; have m0_ : Aside0 (w_1.heap[g2]? = some (.cells #[.string (⟨#[]⟩ : ByteArray), .string (⟨#[]⟩ : ByteArray), .string (⟨#[]⟩ : ByteArray), .slice none 0 0] 26 (0, 0))) := ⟨blk_below BKg2.out hb_⟩; have m1_ : Aside0 (w_1.heap[g3]? = some (.cells #[.string (⟨#[68, 65, 86, 58]⟩ : ByteArray), .string (⟨#[112, 114, 111, 112, 101, 114, 116, 121, 117, 112, 100, 97, 116, 101]⟩ : ByteArray), .string (⟨#[]⟩ : ByteArray), .slice Au acc.length cu] 26 (0, 0))) := ⟨blk_below BKg3.out hb_⟩; have m2_ : Aside0 (Kd.S kA 26 w_1 w.heap.size (fun k_ => ((k_ ≠ g2 /\ k_ ≠ g3) /\ k_ ≠ g5)) (.slice Au acc.length cu) acc) := ⟨Kd.S_below (Kd.S_elderB HO.out g5 (Nat.le_of_eq hg_.symm)) hb_⟩; have m3_ : Aside0 (Below w.heap.size w w_1) := ⟨below_step HB.out hb_⟩; have m4_ : Aside0 (w_1.heap[g5]? = some (.cells #[.bool false, .string (⟨#[]⟩ : ByteArray), .string (⟨#[]⟩ : ByteArray), .string (⟨#[]⟩ : ByteArray)] 42 (0, 0))) := ⟨hbox_⟩; (try clear hxg2_0 hfg2_0 hxg2_1 hfg2_1 hxg2_2 hfg2_2 hxg2_3 hfg2_3 hxg3_0 hfg3_0 hxg3_1 hfg3_1 hxg3_2 hfg3_2 hxg3_3 hfg3_3); (try clear BKg2); (try clear BKg3); (try clear HO); (try clear HB); (try clear BKg5); have BKg2 := m0_; have BKg3 := m1_; have HO := m2_; have HB := m3_; have BKg5 := m4_; clear m0_ m1_ m2_ m3_ m4_; clear hb_ hbox_ hg_; have hxg2_0 : w_1.cell? ⟨g2, 0, none⟩ = some (.string (⟨#[]⟩ : ByteArray)) := (blk_cell BKg2.out 0).trans rfl; have hfg2_0 := blk_frozen BKg2.out 0; have hxg2_1 : w_1.cell? ⟨g2, 1, none⟩ = some (.string (⟨#[]⟩ : ByteArray)) := (blk_cell BKg2.out 1).trans rfl; have hfg2_1 := blk_frozen BKg2.out 1; have hxg2_2 : w_1.cell? ⟨g2, 2, none⟩ = some (.string (⟨#[]⟩ : ByteArray)) := (blk_cell BKg2.out 2).trans rfl; have hfg2_2 := blk_frozen BKg2.out 2; have hxg2_3 : w_1.cell? ⟨g2, 3, none⟩ = some (.slice none 0 0) := (blk_cell BKg2.out 3).trans rfl; have hfg2_3 := blk_frozen BKg2.out 3; have hxg3_0 : w_1.cell? ⟨g3, 0, none⟩ = some (.string (⟨#[68, 65, 86, 58]⟩ : ByteArray)) := (blk_cell BKg3.out 0).trans rfl; have hfg3_0 := blk_frozen BKg3.out 0; have hxg3_1 : w_1.cell? ⟨g3, 1, none⟩ = some (.string (⟨#[112, 114, 111, 112, 101, 114, 116, 121, 117, 112, 100, 97, 116, 101]⟩ : ByteArray)) := (blk_cell BKg3.out 1).trans rfl; have hfg3_1 := blk_frozen BKg3.out 1; have hxg3_2 : w_1.cell? ⟨g3, 2, none⟩ = some (.string (⟨#[]⟩ : ByteArray)) := (blk_cell BKg3.out 2).trans rfl; have hfg3_2 := blk_frozen BKg3.out 2; have hxg3_3 : w_1.cell? ⟨g3, 3, none⟩ = some (.slice Au acc.length cu) := (blk_cell BKg3.out 3).trans rfl; have hfg3_3 := blk_frozen BKg3.out 3; have hxg5_0 : w_1.cell? ⟨g5, 0, none⟩ = some (.bool false) := (blk_cell BKg5.out 0).trans rfl; have hfg5_0 := blk_frozen BKg5.out 0; have hxg5_1 : w_1.cell? ⟨g5, 1, none⟩ = some (.string (⟨#[]⟩ : ByteArray)) := (blk_cell BKg5.out 1).trans rfl; have hfg5_1 := blk_frozen BKg5.out 1; have hxg5_2 : w_1.cell? ⟨g5, 2, none⟩ = some (.string (⟨#[]⟩ : ByteArray)) := (blk_cell BKg5.out 2).trans rfl; have hfg5_2 := blk_frozen BKg5.out 2; have hxg5_3 : w_1.cell? ⟨g5, 3, none⟩ = some (.string (⟨#[]⟩ : ByteArray)) := (blk_cell BKg5.out 3).trans rfl; have hfg5_3 := blk_frozen BKg5.out 3) | ((with_reducible refine gate_store (t := 42) (p := 5) rfl ?_); apply box_store (g := g5); (case hrun => first | (go_simp; done) | (go_simp; rfl)); (case _ho => rfl); (case hN => rfl); (case hgd => rfl); (case hs => repeat (first | (with_reducible exact Sto.refl _ _) | refine Sto.step ?_ _ _)); (case hb => repeat (first | (with_reducible exact IsBlk.of BKg5.out) | (with_reducible apply IsBlk.set))); intro w_2 hw' bk_; simp only [List.setIfInBounds_toArray, List.set_cons_zero, List.set_cons_succ] at bk_; have m0_ : Aside0 (w_2.heap[g2]? = some (.cells #[.string (⟨#[]⟩ : ByteArray), .string (⟨#[]⟩ : ByteArray), .string (⟨#[]⟩ : ByteArray), .slice none 0 0] 26 (0, 0))) := ⟨stored_blk hw' BKg2.out hn_g2_g5⟩; have m1_ : Aside0 (w_2.heap[g3]? = some (.cells #[.string (⟨#[68, 65, 86, 58]⟩ : ByteArray), .string (⟨#[112, 114, 111, 112, 101, 114, 116, 121, 117, 112, 100, 97, 116, 101]⟩ : ByteArray), .string (⟨#[]⟩ : ByteArray), .slice Au acc.length cu] 26 (0, 0))) := ⟨stored_blk hw' BKg3.out hn_g3_g5⟩; have m2_ : Aside0 (Kd.S kA 26 w_2 w.heap.size (fun k_ => ((k_ ≠ g2 /\ k_ ≠ g3) /\ k_ ≠ g5)) (.slice Au acc.length cu) acc) := ⟨stored_S hw' HO.out (fun _ hk => hk.2)⟩; have m3_ : Aside0 (Below w.heap.size w w_2) := ⟨stored_below hw' HB.out GEg5.out⟩; have m4_ : Aside0 (w_2.heap[g5]? = some (.cells #[.bool false, .string (rd_T42 l0 x).f1.f0, .string (rd_T42 l0 x).f1.f1, .string (rd_T42 l0 x).f1.f2] 42 (0, 0))) := ⟨bk_⟩; (try clear hxg2_0 hfg2_0 hxg2_1 hfg2_1 hxg2_2 hfg2_2 hxg2_3 hfg2_3 hxg3_0 hfg3_0 hxg3_1 hfg3_1 hxg3_2 hfg3_2 hxg3_3 hfg3_3 hxg5_0 hfg5_0 hxg5_1 hfg5_1 hxg5_2 hfg5_2 hxg5_3 hfg5_3); (try clear BKg2); (try clear BKg3); (try clear HO); (try clear HB); (try clear BKg5); have BKg2 := m0_; have BKg3 := m1_; have HO := m2_; have HB := m3_; have BKg5 := m4_; clear m0_ m1_ m2_ m3_ m4_; clear hw' bk_; have hxg2_0 : w_2.cell? ⟨g2, 0, none⟩ = some (.string (⟨#[]⟩ : ByteArray)) := (blk_cell BKg2.out 0).trans rfl; have hfg2_0 := blk_frozen BKg2.out 0; have hxg2_1 : w_2.cell? ⟨g2, 1, none⟩ = some (.string (⟨#[]⟩ : ByteArray)) := (blk_cell BKg2.out 1).trans rfl; have hfg2_1 := blk_frozen BKg2.out 1; have hxg2_2 : w_2.cell? ⟨g2, 2, none⟩ = some (.string (⟨#[]⟩ : ByteArray)) := (blk_cell BKg2.out 2).trans rfl; have hfg2_2 := blk_frozen BKg2.out 2; have hxg2_3 : w_2.cell? ⟨g2, 3, none⟩ = some (.slice none 0 0) := (blk_cell BKg2.out 3).trans rfl; have hfg2_3 := blk_frozen BKg2.out 3; have hxg3_0 : w_2.cell? ⟨g3, 0, none⟩ = some (.string (⟨#[68, 65, 86, 58]⟩ : ByteArray)) := (blk_cell BKg3.out 0).trans rfl; have hfg3_0 := blk_frozen BKg3.out 0; have hxg3_1 : w_2.cell? ⟨g3, 1, none⟩ = some (.string (⟨#[112, 114, 111, 112, 101, 114, 116, 121, 117, 112, 100, 97, 116, 101]⟩ : ByteArray)) := (blk_cell BKg3.out 1).trans rfl; have hfg3_1 := blk_frozen BKg3.out 1; have hxg3_2 : w_2.cell? ⟨g3, 2, none⟩ = some (.string (⟨#[]⟩ : ByteArray)) := (blk_cell BKg3.out 2).trans rfl; have hfg3_2 := blk_frozen BKg3.out 2; have hxg3_3 : w_2.cell? ⟨g3, 3, none⟩ = some (.slice Au acc.length cu) := (blk_cell BKg3.out 3).trans rfl; have hfg3_3 := blk_frozen BKg3.out 3; have hxg5_0 : w_2.cell? ⟨g5, 0, none⟩ = some (.bool false) := (blk_cell BKg5.out 0).trans rfl; have hfg5_0 := blk_frozen BKg5.out 0; have hxg5_1 : w_2.cell? ⟨g5, 1, none⟩ = some (.string (rd_T42 l0 x).f1.f0) := (blk_cell BKg5.out 1).trans rfl; have hfg5_1 := blk_frozen BKg5.out 1; have hxg5_2 : w_2.cell? ⟨g5, 2, none⟩ = some (.string (rd_T42 l0 x).f1.f1) := (blk_cell BKg5.out 2).trans rfl; have hfg5_2 := blk_frozen BKg5.out 2; have hxg5_3 : w_2.cell? ⟨g5, 3, none⟩ = some (.string (rd_T42 l0 x).f1.f2) := (blk_cell BKg5.out 3).trans rfl; have hfg5_3 := blk_frozen BKg5.out 3) | ((with_reducible refine gd_ (N := 6) rfl ?_); refine bx_ (N := 6) (cs := #[.string (⟨#[]⟩ : ByteArray), .string (⟨#[]⟩ : ByteArray), .string (⟨#[]⟩ : ByteArray), .slice none 0 0]) (t := 26) ?_; intro g6 hg_ w_3 hbox_ hb_; have hn_g2_g6 : g2 ≠ g6 := (by have := blk_lt BKg2.out; rw [hg_]; omega); have hn_g6_g2 : g6 ≠ g2 := (by have := blk_lt BKg2.out; rw [hg_]; omega); have hn_g3_g6 : g3 ≠ g6 := (by have := blk_lt BKg3.out; rw [hg_]; omega); have hn_g6_g3 : g6 ≠ g3 := (by have := blk_lt BKg3.out; rw [hg_]; omega); have hn_g5_g6 : g5 ≠ g6 := (by have := blk_lt BKg5.out; rw [hg_]; omega); have hn_g6_g5 : g6 ≠ g5 := (by have := blk_lt BKg5.out; rw [hg_]; omega); have GEg6 : Aside0 (w.heap.size <= g6) := ⟨by rw [hg_]; exact below_size HB.out⟩; have m0_ : Aside0 (w_3.heap[g2]? = some (.cells #[.string (⟨#[]⟩ : ByteArray), .string (⟨#[]⟩ : ByteArray), .string (⟨#[]⟩ : ByteArray), .slice none 0 0] 26 (0, 0))) := ⟨blk_below BKg2.out hb_⟩; have m1_ : Aside0 (w_3.heap[g3]? = some (.cells #[.string (⟨#[68, 65, 86, 58]⟩ : ByteArray), .string (⟨#[112, 114, 111, 112, 101, 114, 116, 121, 117, 112, 100, 97, 116, 101]⟩ : ByteArray), .string (⟨#[]⟩ : ByteArray), .slice Au acc.length cu] 26 (0, 0))) := ⟨blk_below BKg3.out hb_⟩; have m2_ : Aside0 (w_3.heap[g5]? = some (.cells #[.bool false, .string (rd_T42 l0 x).f1.f0, .string (rd_T42 l0 x).f1.f1, .string (rd_T42 l0 x).f1.f2] 42 (0, 0))) := ⟨blk_below BKg5.out hb_⟩; have m3_ : Aside0 (Kd.S kA 26 w_3 w.heap.size (fun k_ => (((k_ ≠ g2 /\ k_ ≠ g3) /\ k_ ≠ g5) /\ k_ ≠ g6)) (.slice Au acc.length cu) acc) := ⟨Kd.S_below (Kd.S_elderB HO.out g6 (Nat.le_of_eq hg_.symm)) hb_⟩; have m4_ : Aside0 (Below w.heap.size w w_3) := ⟨below_step HB.out hb_⟩; have m5_ : Aside0 (w_3.heap[g6]? = some (.cells #[.string (⟨#[]⟩ : ByteArray), .string (⟨#[]⟩ : ByteArray), .string (⟨#[]⟩ : ByteArray), .slice none 0 0] 26 (0, 0))) := ⟨hbox_⟩; (try clear hxg2_0 hfg2_0 hxg2_1 hfg2_1 hxg2_2 hfg2_2 hxg2_3 hfg2_3 hxg3_0 hfg3_0 hxg3_1 hfg3_1 hxg3_2 hfg3_2 hxg3_3 hfg3_3 hxg5_0 hfg5_0 hxg5_1 hfg5_1 hxg5_2 hfg5_2 hxg5_3 hfg5_3); (try clear BKg2); (try clear BKg3); (try clear BKg5); (try clear HO); (try clear HB); (try clear BKg6); have BKg2 := m0_; have BKg3 := m1_; have BKg5 := m2_; have HO := m3_; have HB := m4_; have BKg6 := m5_; clear m0_ m1_ m2_ m3_ m4_ m5_; clear hb_ hbox_ hg_; have hxg2_0 : w_3.cell? ⟨g2, 0, none⟩ = some (.string (⟨#[]⟩ : ByteArray)) := (blk_cell BKg2.out 0).trans rfl; have hfg2_0 := blk_frozen BKg2.out 0; have hxg2_1 : w_3.cell? ⟨g2, 1, none⟩ = some (.string (⟨#[]⟩ : ByteArray)) := (blk_cell BKg2.out 1).trans rfl; have hfg2_1 := blk_frozen BKg2.out 1; have hxg2_2 : w_3.cell? ⟨g2, 2, none⟩ = some (.string (⟨#[]⟩ : ByteArray)) := (blk_cell BKg2.out 2).trans rfl; have hfg2_2 := blk_frozen BKg2.out 2; have hxg2_3 : w_3.cell? ⟨g2, 3, none⟩ = some (.slice none 0 0) := (blk_cell BKg2.out 3).trans rfl; have hfg2_3 := blk_frozen BKg2.out 3; have hxg3_0 : w_3.cell? ⟨g3, 0, none⟩ = some (.string (⟨#[68, 65, 86, 58]⟩ : ByteArray)) := (blk_cell BKg3.out 0).trans rfl; have hfg3_0 := blk_frozen BKg3.out 0; have hxg3_1 : w_3.cell? ⟨g3, 1, none⟩ = some (.string (⟨#[112, 114, 111, 112, 101, 114, 116, 121, 117, 112, 100, 97, 116, 101]⟩ : ByteArray)) := (blk_cell BKg3.out 1).trans rfl; have hfg3_1 := blk_frozen BKg3.out 1; have hxg3_2 : w_3.cell? ⟨g3, 2, none⟩ = some (.string (⟨#[]⟩ : ByteArray)) := (blk_cell BKg3.out 2).trans rfl; have hfg3_2 := blk_frozen BKg3.out 2; have hxg3_3 : w_3.cell? ⟨g3, 3, none⟩ = some (.slice Au acc.length cu) := (blk_cell BKg3.out 3).trans rfl; have hfg3_3 := blk_frozen BKg3.out 3; have hxg5_0 : w_3.cell? ⟨g5, 0, none⟩ = some (.bool false) := (blk_cell BKg5.out 0).trans rfl; have hfg5_0 := blk_frozen BKg5.out 0; have hxg5_1 : w_3.cell? ⟨g5, 1, none⟩ = some (.string (rd_T42 l0 x).f1.f0) := (blk_cell BKg5.out 1).trans rfl; have hfg5_1 := blk_frozen BKg5.out 1; have hxg5_2 : w_3.cell? ⟨g5, 2, none⟩ = some (.string (rd_T42 l0 x).f1.f1) := (blk_cell BKg5.out 2).trans rfl; have hfg5_2 := blk_frozen BKg5.out 2; have hxg5_3 : w_3.cell? ⟨g5, 3, none⟩ = some (.string (rd_T42 l0 x).f1.f2) := (blk_cell BKg5.out 3).trans rfl; have hfg5_3 := blk_frozen BKg5.out 3; have hxg6_0 : w_3.cell? ⟨g6, 0, none⟩ = some (.string (⟨#[]⟩ : ByteArray)) := (blk_cell BKg6.out 0).trans rfl; have hfg6_0 := blk_frozen BKg6.out 0; have hxg6_1 : w_3.cell? ⟨g6, 1, none⟩ = some (.string (⟨#[]⟩ : ByteArray)) := (blk_cell BKg6.out 1).trans rfl; have hfg6_1 := blk_frozen BKg6.out 1; have hxg6_2 : w_3.cell? ⟨g6, 2, none⟩ = some (.string (⟨#[]⟩ : ByteArray)) := (blk_cell BKg6.out 2).trans rfl; have hfg6_2 := blk_frozen BKg6.out 2; have hxg6_3 : w_3.cell? ⟨g6, 3, none⟩ = some (.slice none 0 0) := (blk_cell BKg6.out 3).trans rfl; have hfg6_3 := blk_frozen BKg6.out 3) | ((with_reducible refine gate_store (t := 26) (p := 6) rfl ?_); apply box_store (g := g6); (case hrun => first | (go_simp; done) | (go_simp; rfl)); (case _ho => rfl); (case hN => rfl); (case hgd => rfl); (case hs => repeat (first | (with_reducible exact Sto.refl _ _) | refine Sto.step ?_ _ _)); (case hb => repeat (first | (with_reducible exact IsBlk.of BKg6.out) | (with_reducible apply IsBlk.set))); intro w_4 hw' bk_; simp only [List.setIfInBounds_toArray, List.set_cons_zero, List.set_cons_succ] at bk_; have m0_ : Aside0 (w_4.heap[g2]? = some (.cells #[.string (⟨#[]⟩ : ByteArray), .string (⟨#[]⟩ : ByteArray), .string (⟨#[]⟩ : ByteArray), .slice none 0 0] 26 (0, 0))) := ⟨stored_blk hw' BKg2.out hn_g2_g6⟩; have m1_ : Aside0 (w_4.heap[g3]? = some (.cells #[.string (⟨#[68, 65, 86, 58]⟩ : ByteArray), .string (⟨#[112, 114, 111, 112, 101, 114, 116, 121, 117, 112, 100, 97, 116, 101]⟩ : ByteArray), .string (⟨#[]⟩ : ByteArray), .slice Au acc.length cu] 26 (0, 0))) := ⟨stored_blk hw' BKg3.out hn_g3_g6⟩; have m2_ : Aside0 (w_4.heap[g5]? = some (.cells #[.bool false, .string (rd_T42 l0 x).f1.f0, .string (rd_T42 l0 x).f1.f1, .string (rd_T42 l0 x).f1.f2] 42 (0, 0))) := ⟨stored_blk hw' BKg5.out hn_g5_g6⟩; have m3_ : Aside0 (Kd.S kA 26 w_4 w.heap.size (fun k_ => (((k_ ≠ g2 /\ k_ ≠ g3) /\ k_ ≠ g5) /\ k_ ≠ g6)) (.slice Au acc.length cu) acc) := ⟨stored_S hw' HO.out (fun _ hk => hk.2)⟩; have m4_ : Aside0 (Below w.heap.size w w_4) := ⟨stored_below hw' HB.out GEg6.out⟩; have m5_ : Aside0 (w_4.heap[g6]? = some (.cells #[.string (rd_T42 l0 x).f1.f0, .string (rd_T42 l0 x).f1.f1, .string (rd_T42 l0 x).f1.f2, .slice none 0 0] 26 (0, 0))) := ⟨bk_⟩; (try clear hxg2_0 hfg2_0 hxg2_1 hfg2_1 hxg2_2 hfg2_2 hxg2_3 hfg2_3 hxg3_0 hfg3_0 hxg3_1 hfg3_1 hxg3_2 hfg3_2 hxg3_3 hfg3_3 hxg5_0 hfg5_0 hxg5_1 hfg5_1 hxg5_2 hfg5_2 hxg5_3 hfg5_3 hxg6_0 hfg6_0 hxg6_1 hfg6_1 hxg6_2 hfg6_2 hxg6_3 hfg6_3); (try clear BKg2); (try clear BKg3); (try clear BKg5); (try clear HO); (try clear HB); (try clear BKg6); have BKg2 := m0_; have BKg3 := m1_; have BKg5 := m2_; have HO := m3_; have HB := m4_; have BKg6 := m5_; clear m0_ m1_ m2_ m3_ m4_ m5_; clear hw' bk_; have hxg2_0 : w_4.cell? ⟨g2, 0, none⟩ = some (.string (⟨#[]⟩ : ByteArray)) := (blk_cell BKg2.out 0).trans rfl; have hfg2_0 := blk_frozen BKg2.out 0; have hxg2_1 : w_4.cell? ⟨g2, 1, none⟩ = some (.string (⟨#[]⟩ : ByteArray)) := (blk_cell BKg2.out 1).trans rfl; have hfg2_1 := blk_frozen BKg2.out 1; have hxg2_2 : w_4.cell? ⟨g2, 2, none⟩ = some (.string (⟨#[]⟩ : ByteArray)) := (blk_cell BKg2.out 2).trans rfl; have hfg2_2 := blk_frozen BKg2.out 2; have hxg2_3 : w_4.cell? ⟨g2, 3, none⟩ = some (.slice none 0 0) := (blk_cell BKg2.out 3).trans rfl; have hfg2_3 := blk_frozen BKg2.out 3; have hxg3_0 : w_4.cell? ⟨g3, 0, none⟩ = some (.string (⟨#[68, 65, 86, 58]⟩ : ByteArray)) := (blk_cell BKg3.out 0).trans rfl; have hfg3_0 := blk_frozen BKg3.out 0; have hxg3_1 : w_4.cell? ⟨g3, 1, none⟩ = some (.string (⟨#[112, 114, 111, 112, 101, 114, 116, 121, 117, 112, 100, 97, 116, 101]⟩ : ByteArray)) := (blk_cell BKg3.out 1).trans rfl; have hfg3_1 := blk_frozen BKg3.out 1; have hxg3_2 : w_4.cell? ⟨g3, 2, none⟩ = some (.string (⟨#[]⟩ : ByteArray)) := (blk_cell BKg3.out 2).trans rfl; have hfg3_2 := blk_frozen BKg3.out 2; have hxg3_3 : w_4.cell? ⟨g3, 3, none⟩ = some (.slice Au acc.length cu) := (blk_cell BKg3.out 3).trans rfl; have hfg3_3 := blk_frozen BKg3.out 3; have hxg5_0 : w_4.cell? ⟨g5, 0, none⟩ = some (.bool false) := (blk_cell BKg5.out 0).trans rfl; have hfg5_0 := blk_frozen BKg5.out 0; have hxg5_1 : w_4.cell? ⟨g5, 1, none⟩ = some (.string (rd_T42 l0 x).f1.f0) := (blk_cell BKg5.out 1).trans rfl; have hfg5_1 := blk_frozen BKg5.out 1; have hxg5_2 : w_4.cell? ⟨g5, 2, none⟩ = some (.string (rd_T42 l0 x).f1.f1) := (blk_cell BKg5.out 2).trans rfl; have hfg5_2 := blk_frozen BKg5.out 2; have hxg5_3 : w_4.cell? ⟨g5, 3, none⟩ = some (.string (rd_T42 l0 x).f1.f2) := (blk_cell BKg5.out 3).trans rfl; have hfg5_3 := blk_frozen BKg5.out 3; have hxg6_0 : w_4.cell? ⟨g6, 0, none⟩ = some (.string (rd_T42 l0 x).f1.f0) := (blk_cell BKg6.out 0).trans rfl; have hfg6_0 := blk_frozen BKg6.out 0; have hxg6_1 : w_4.cell? ⟨g6, 1, none⟩ = some (.string (rd_T42 l0 x).f1.f1) := (blk_cell BKg6.out 1).trans rfl; have hfg6_1 := blk_frozen BKg6.out 1; have hxg6_2 : w_4.cell? ⟨g6, 2, none⟩ = some (.string (rd_T42 l0 x).f1.f2) := (blk_cell BKg6.out 2).trans rfl; have hfg6_2 := blk_frozen BKg6.out 2; have hxg6_3 : w_4.cell? ⟨g6, 3, none⟩ = some (.slice none 0 0) := (blk_cell BKg6.out 3).trans rfl; have hfg6_3 := blk_frozen BKg6.out 3))
     obtain ⟨nb, hnb_⟩ : ∃ n_, n_ = w_4.heap.size := ⟨_, rfl⟩
     have HNB : Aside0 (nb <= w_4.heap.size) := ⟨Nat.le_of_eq hnb_⟩
     have HU : Aside0 (∀ k_, nb <= k_ -> some k_ ≠ ((.slice Au acc.length cu) : Value).ownBlock) := ⟨fun k_ h_ e_ => by have := Kd.S_lt HO.out k_ e_.symm; omega⟩
     have HLg2 : Aside0 (g2 < nb) := ⟨by have := blk_lt BKg2.out; omega⟩
     have HLg3 : Aside0 (g3 < nb) := ⟨by have := blk_lt BKg3.out; omega⟩
     have HLg5 : Aside0 (g5 < nb) := ⟨by have := blk_lt BKg5.out; omega⟩
     have HLg6 : Aside0 (g6 < nb) := ⟨by have := blk_lt BKg6.out; omega⟩
     have HOn : Aside0 (Kd.S kA 26 w_4 w.heap.size (fun k_ => ((((k_ ≠ g2 /\ k_ ≠ g3) /\ k_ ≠ g5) /\ k_ ≠ g6)) /\ k_ < nb) (.slice Au acc.length cu) acc) := ⟨Kd.S_mono (Kd.S_bound HO.out) (fun k_ h_ => ⟨h_.1, by have := h_.2.2.1; omega⟩)⟩
     clear hnb_
     refine start_ (n := 12) (S := fun w' => w'.cell? ⟨g3, 3, none⟩ = some (.slice Au acc.length cu) /\ w'.cell? ⟨g6, 0, none⟩ = some (.string (rd_T42 l0 x).f1.f0) /\ w'.cell? ⟨g6, 1, none⟩ = some (.string (rd_T42 l0 x).f1.f1) /\ w'.cell? ⟨g6, 2, none⟩ = some (.string (rd_T42 l0 x).f1.f2) /\ w'.cell? ⟨g6, 3, none⟩ = some (.slice none 0 0)) (ds := [9, 11]) #[false, false, false, false, false, false, false, false, false, false, false, false] (by kernel_rfl) rfl rfl ⟨hxg3_3, hxg6_0, hxg6_1, hxg6_2, hxg6_3⟩ (fun hHeld => ?_); refine with_tabW impl_SetsNode.tab10 impl_SetsNode.bits10 (fun HT_ HW_ => ?_)
     generalize hWd_ : w_4.drew = w_5 at hHeld ⊢
     have hb_ : Below w_4.heap.size w_4 w_5 := (by rw [← hWd_]; exact below_drew (Below.refl _ _))
     clear hWd_
     have m0_ : Aside0 (w_5.heap[g2]? = some (.cells #[.string (⟨#[]⟩ : ByteArray), .string (⟨#[]⟩ : ByteArray), .string (⟨#[]⟩ : ByteArray), .slice none 0 0] 26 (0, 0))) := ⟨blk_below BKg2.out hb_⟩
     have m1_ : Aside0 (w_5.heap[g3]? = some (.cells #[.string (⟨#[68, 65, 86, 58]⟩ : ByteArray), .string (⟨#[112, 114, 111, 112, 101, 114, 116, 121, 117, 112, 100, 97, 116, 101]⟩ : ByteArray), .string (⟨#[]⟩ : ByteArray), .slice Au acc.length cu] 26 (0, 0))) := ⟨blk_below BKg3.out hb_⟩
     have m2_ : Aside0 (w_5.heap[g5]? = some (.cells #[.bool false, .string (rd_T42 l0 x).f1.f0, .string (rd_T42 l0 x).f1.f1, .string (rd_T42 l0 x).f1.f2] 42 (0, 0))) := ⟨blk_below BKg5.out hb_⟩
     have m3_ : Aside0 (w_5.heap[g6]? = some (.cells #[.string (rd_T42 l0 x).f1.f0, .string (rd_T42 l0 x).f1.f1, .string (rd_T42 l0 x).f1.f2, .slice none 0 0] 26 (0, 0))) := ⟨blk_below BKg6.out hb_⟩
     have m4_ : Aside0 (Kd.S kA 26 w_5 w.heap.size (fun k_ => (((k_ ≠ g2 /\ k_ ≠ g3) /\ k_ ≠ g5) /\ k_ ≠ g6)) (.slice Au acc.length cu) acc) := ⟨Kd.S_below HO.out hb_⟩
     have m5_ : Aside0 (nb <= w_5.heap.size) := ⟨Nat.le_trans HNB.out (below_size hb_)⟩
     have m6_ : Aside0 (Below w.heap.size w w_5) := ⟨below_step HB.out hb_⟩
     have m7_ : Aside0 (Kd.S kA 26 w_5 w.heap.size (fun k_ => ((((k_ ≠ g2 /\ k_ ≠ g3) /\ k_ ≠ g5) /\ k_ ≠ g6)) /\ k_ < nb) (.slice Au acc.length cu) acc) := ⟨Kd.S_below HOn.out hb_⟩
     (try clear hxg2_0 hfg2_0 hxg2_1 hfg2_1 hxg2_2 hfg2_2 hxg2_3 hfg2_3 hxg3_0 hfg3_0 hxg3_1 hfg3_1 hxg3_2 hfg3_2 hxg3_3 hfg3_3 hxg5_0 hfg5_0 hxg5_1 hfg5_1 hxg5_2 hfg5_2 hxg5_3 hfg5_3 hxg6_0 hfg6_0 hxg6_1 hfg6_1 hxg6_2 hfg6_2 hxg6_3 hfg6_3)
     (try clear BKg2)
     (try clear BKg3)
     (try clear BKg5)
     (try clear BKg6)
     (try clear HO)
     (try clear HNB)
     (try clear HB)
     (try clear HOn)
     have BKg2 := m0_
     have BKg3 := m1_
     have BKg5 := m2_
     have BKg6 := m3_
     have HO := m4_
     have HNB := m5_
     have HB := m6_
     have HOn := m7_
     clear m0_ m1_ m2_ m3_ m4_ m5_ m6_ m7_
     clear hb_
     have hxg2_0 : w_5.cell? ⟨g2, 0, none⟩ = some (.string (⟨#[]⟩ : ByteArray)) := (blk_cell BKg2.out 0).trans rfl
     have hfg2_0 := blk_frozen BKg2.out 0
     have hxg2_1 : w_5.cell? ⟨g2, 1, none⟩ = some (.string (⟨#[]⟩ : ByteArray)) := (blk_cell BKg2.out 1).trans rfl
     have hfg2_1 := blk_frozen BKg2.out 1
     have hxg2_2 : w_5.cell? ⟨g2, 2, none⟩ = some (.string (⟨#[]⟩ : ByteArray)) := (blk_cell BKg2.out 2).trans rfl
     have hfg2_2 := blk_frozen BKg2.out 2
     have hxg2_3 : w_5.cell? ⟨g2, 3, none⟩ = some (.slice none 0 0) := (blk_cell BKg2.out 3).trans rfl
     have hfg2_3 := blk_frozen BKg2.out 3
     have hxg3_0 : w_5.cell? ⟨g3, 0, none⟩ = some (.string (⟨#[68, 65, 86, 58]⟩ : ByteArray)) := (blk_cell BKg3.out 0).trans rfl
     have hfg3_0 := blk_frozen BKg3.out 0
     have hxg3_1 : w_5.cell? ⟨g3, 1, none⟩ = some (.string (⟨#[112, 114, 111, 112, 101, 114, 116, 121, 117, 112, 100, 97, 116, 101]⟩ : ByteArray)) := (blk_cell BKg3.out 1).trans rfl
     have hfg3_1 := blk_frozen BKg3.out 1
     have hxg3_2 : w_5.cell? ⟨g3, 2, none⟩ = some (.string (⟨#[]⟩ : ByteArray)) := (blk_cell BKg3.out 2).trans rfl
     have hfg3_2 := blk_frozen BKg3.out 2
     have hxg3_3 : w_5.cell? ⟨g3, 3, none⟩ = some (.slice Au acc.length cu) := (blk_cell BKg3.out 3).trans rfl
     have hfg3_3 := blk_frozen BKg3.out 3
     have hxg5_0 : w_5.cell? ⟨g5, 0, none⟩ = some (.bool false) := (blk_cell BKg5.out 0).trans rfl
     have hfg5_0 := blk_frozen BKg5.out 0
     have hxg5_1 : w_5.cell? ⟨g5, 1, none⟩ = some (.string (rd_T42 l0 x).f1.f0) := (blk_cell BKg5.out 1).trans rfl
     have hfg5_1 := blk_frozen BKg5.out 1
     have hxg5_2 : w_5.cell? ⟨g5, 2, none⟩ = some (.string (rd_T42 l0 x).f1.f1) := (blk_cell BKg5.out 2).trans rfl
     have hfg5_2 := blk_frozen BKg5.out 2
     have hxg5_3 : w_5.cell? ⟨g5, 3, none⟩ = some (.string (rd_T42 l0 x).f1.f2) := (blk_cell BKg5.out 3).trans rfl
     have hfg5_3 := blk_frozen BKg5.out 3
     have hxg6_0 : w_5.cell? ⟨g6, 0, none⟩ = some (.string (rd_T42 l0 x).f1.f0) := (blk_cell BKg6.out 0).trans rfl
     have hfg6_0 := blk_frozen BKg6.out 0
     have hxg6_1 : w_5.cell? ⟨g6, 1, none⟩ = some (.string (rd_T42 l0 x).f1.f1) := (blk_cell BKg6.out 1).trans rfl
     have hfg6_1 := blk_frozen BKg6.out 1
     have hxg6_2 : w_5.cell? ⟨g6, 2, none⟩ = some (.string (rd_T42 l0 x).f1.f2) := (blk_cell BKg6.out 2).trans rfl
     have hfg6_2 := blk_frozen BKg6.out 2
     have hxg6_3 : w_5.cell? ⟨g6, 3, none⟩ = some (.slice none 0 0) := (blk_cell BKg6.out 3).trans rfl
     have hfg6_3 := blk_frozen BKg6.out 3
     refine pu_ (i := 0) (N := some 28) ?_
     refine pu_ (i := 2) (N := some 30) ?_
     refine tk_ (i := 1) (N := some 29) hHeld ?_
     refine tk_ (i := 3) (N := some 31) hHeld ?_
     refine on_ (i := 4) (N := some 32) (fun K hK => ?_)
     refine lit1_step kA w.heap.size 26 (by rfl) (N := 32) rfl (p := (⟨(rd_T42 l0 x).f1.f0, (rd_T42 l0 x).f1.f1, (rd_T42 l0 x).f1.f2, []⟩ : S26)) (cs := [.string (rd_T42 l0 x).f1.f0, .string (rd_T42 l0 x).f1.f1, .string (rd_T42 l0 x).f1.f2, .slice none 0 0]) (ok := fun k_ => nb <= k_) (okp := fun k_ => nb <= k_) ?hr ?hp (fun _ h_ => h_) ?hf ?hs ?_
     (case hr => first | (go_simp; done) | (go_simp; rfl))
     (case hp => exact kA_mkM _ _ _ (⟨(rd_T42 l0 x).f1.f0, (rd_T42 l0 x).f1.f1, (rd_T42 l0 x).f1.f2, []⟩ : S26) (Kd.S_nil _ _ _ _ _))
     (case hf => exact HNB.out)
     (case hs => exact below_size HB.out)
     intro b1 w_6 hg_ hv_ hb_
     have hS0_ := pw_cell_below hb_ hHeld.1
     have hS1_ := pw_cell_below hb_ hHeld.2.1
     have hS2_ := pw_cell_below hb_ hHeld.2.2.1
     have hS3_ := pw_cell_below hb_ hHeld.2.2.2.1
     have hS4_ := pw_cell_below hb_ hHeld.2.2.2.2
     have m0_ : Aside0 (w_6.heap[g2]? = some (.cells #[.string (⟨#[]⟩ : ByteArray), .string (⟨#[]⟩ : ByteArray), .string (⟨#[]⟩ : ByteArray), .slice none 0 0] 26 (0, 0))) := ⟨blk_below BKg2.out hb_⟩
     have m1_ : Aside0 (w_6.heap[g3]? = some (.cells #[.string (⟨#[68, 65, 86, 58]⟩ : ByteArray), .string (⟨#[112, 114, 111, 112, 101, 114, 116, 121, 117, 112, 100, 97, 116, 101]⟩ : ByteArray), .string (⟨#[]⟩ : ByteArray), .slice Au acc.length cu] 26 (0, 0))) := ⟨blk_below BKg3.out hb_⟩
     have m2_ : Aside0 (w_6.heap[g5]? = some (.cells #[.bool false, .string (rd_T42 l0 x).f1.f0, .string (rd_T42 l0 x).f1.f1, .string (rd_T42 l0 x).f1.f2] 42 (0, 0))) := ⟨blk_below BKg5.out hb_⟩
     have m3_ : Aside0 (w_6.heap[g6]? = some (.cells #[.string (rd_T42 l0 x).f1.f0, .string (rd_T42 l0 x).f1.f1, .string (rd_T42 l0 x).f1.f2, .slice none 0 0] 26 (0, 0))) := ⟨blk_below BKg6.out hb_⟩
     have m4_ : Aside0 (Kd.S kA 26 w_6 w.heap.size (fun k_ => (((k_ ≠ g2 /\ k_ ≠ g3) /\ k_ ≠ g5) /\ k_ ≠ g6)) (.slice Au acc.length cu) acc) := ⟨Kd.S_below HO.out hb_⟩
     have m5_ : Aside0 (nb <= w_6.heap.size) := ⟨Nat.le_trans HNB.out (below_size hb_)⟩
     have m6_ : Aside0 (Below w.heap.size w w_6) := ⟨below_step HB.out hb_⟩
     have m7_ : Aside0 (Kd.S kA 26 w_6 w.heap.size (fun k_ => ((((k_ ≠ g2 /\ k_ ≠ g3) /\ k_ ≠ g5) /\ k_ ≠ g6)) /\ k_ < nb) (.slice Au acc.length cu) acc) := ⟨Kd.S_below HOn.out hb_⟩
     have m8_ : Aside0 (Kd.S kA 26 w_6 w.heap.size (fun k_ => nb <= k_) (.slice (some ⟨b1, 0, none⟩) 1 1) [(⟨(rd_T42 l0 x).f1.f0, (rd_T42 l0 x).f1.f1, (rd_T42 l0 x).f1.f2, []⟩ : S26)]) := ⟨hv_⟩
     (try clear hxg2_0 hfg2_0 hxg2_1 hfg2_1 hxg2_2 hfg2_2 hxg2_3 hfg2_3 hxg3_0 hfg3_0 hxg3_1 hfg3_1 hxg3_2 hfg3_2 hxg3_3 hfg3_3 hxg5_0 hfg5_0 hxg5_1 hfg5_1 hxg5_2 hfg5_2 hxg5_3 hfg5_3 hxg6_0 hfg6_0 hxg6_1 hfg6_1 hxg6_2 hfg6_2 hxg6_3 hfg6_3)
     (try clear BKg2)
     (try clear BKg3)
     (try clear BKg5)
     (try clear BKg6)
     (try clear HO)
     (try clear HNB)
     (try clear HB)
     (try clear HOn)
     (try clear HV0)
     have BKg2 := m0_
     have BKg3 := m1_
     have BKg5 := m2_
     have BKg6 := m3_
     have HO := m4_
     have HNB := m5_
     have HB := m6_
     have HOn := m7_
     have HV0 := m8_
     clear m0_ m1_ m2_ m3_ m4_ m5_ m6_ m7_ m8_
     clear hb_ hv_ hg_
     have hxg2_0 : w_6.cell? ⟨g2, 0, none⟩ = some (.string (⟨#[]⟩ : ByteArray)) := (blk_cell BKg2.out 0).trans rfl
     have hfg2_0 := blk_frozen BKg2.out 0
     have hxg2_1 : w_6.cell? ⟨g2, 1, none⟩ = some (.string (⟨#[]⟩ : ByteArray)) := (blk_cell BKg2.out 1).trans rfl
     have hfg2_1 := blk_frozen BKg2.out 1
     have hxg2_2 : w_6.cell? ⟨g2, 2, none⟩ = some (.string (⟨#[]⟩ : ByteArray)) := (blk_cell BKg2.out 2).trans rfl
     have hfg2_2 := blk_frozen BKg2.out 2
     have hxg2_3 : w_6.cell? ⟨g2, 3, none⟩ = some (.slice none 0 0) := (blk_cell BKg2.out 3).trans rfl
     have hfg2_3 := blk_frozen BKg2.out 3
     have hxg3_0 : w_6.cell? ⟨g3, 0, none⟩ = some (.string (⟨#[68, 65, 86, 58]⟩ : ByteArray)) := (blk_cell BKg3.out 0).trans rfl
     have hfg3_0 := blk_frozen BKg3.out 0
     have hxg3_1 : w_6.cell? ⟨g3, 1, none⟩ = some (.string (⟨#[112, 114, 111, 112, 101, 114, 116, 121, 117, 112, 100, 97, 116, 101]⟩ : ByteArray)) := (blk_cell BKg3.out 1).trans rfl
     have hfg3_1 := blk_frozen BKg3.out 1
     have hxg3_2 : w_6.cell? ⟨g3, 2, none⟩ = some (.string (⟨#[]⟩ : ByteArray)) := (blk_cell BKg3.out 2).trans rfl
     have hfg3_2 := blk_frozen BKg3.out 2
     have hxg3_3 : w_6.cell? ⟨g3, 3, none⟩ = some (.slice Au acc.length cu) := (blk_cell BKg3.out 3).trans rfl
     have hfg3_3 := blk_frozen BKg3.out 3
     have hxg5_0 : w_6.cell? ⟨g5, 0, none⟩ = some (.bool false) := (blk_cell BKg5.out 0).trans rfl
     have hfg5_0 := blk_frozen BKg5.out 0
     have hxg5_1 : w_6.cell? ⟨g5, 1, none⟩ = some (.string (rd_T42 l0 x).f1.f0) := (blk_cell BKg5.out 1).trans rfl
     have hfg5_1 := blk_frozen BKg5.out 1
     have hxg5_2 : w_6.cell? ⟨g5, 2, none⟩ = some (.string (rd_T42 l0 x).f1.f1) := (blk_cell BKg5.out 2).trans rfl
     have hfg5_2 := blk_frozen BKg5.out 2
     have hxg5_3 : w_6.cell? ⟨g5, 3, none⟩ = some (.string (rd_T42 l0 x).f1.f2) := (blk_cell BKg5.out 3).trans rfl
     have hfg5_3 := blk_frozen BKg5.out 3
     have hxg6_0 : w_6.cell? ⟨g6, 0, none⟩ = some (.string (rd_T42 l0 x).f1.f0) := (blk_cell BKg6.out 0).trans rfl
     have hfg6_0 := blk_frozen BKg6.out 0
     have hxg6_1 : w_6.cell? ⟨g6, 1, none⟩ = some (.string (rd_T42 l0 x).f1.f1) := (blk_cell BKg6.out 1).trans rfl
     have hfg6_1 := blk_frozen BKg6.out 1
     have hxg6_2 : w_6.cell? ⟨g6, 2, none⟩ = some (.string (rd_T42 l0 x).f1.f2) := (blk_cell BKg6.out 2).trans rfl
     have hfg6_2 := blk_frozen BKg6.out 2
     have hxg6_3 : w_6.cell? ⟨g6, 3, none⟩ = some (.slice none 0 0) := (blk_cell BKg6.out 3).trans rfl
     have hfg6_3 := blk_frozen BKg6.out 3
     refine hK.out _ _ ⟨hS0_, hS1_, hS2_, hS3_, hS4_⟩ (fun hHeld => ?_)
     clear hK K
     (try clear hS0_ hS1_ hS2_ hS3_ hS4_)
     refine no_ (some 32) ?_
     refine on_ (i := 5) (N := some 33) (fun K hK => ?_)
     refine goes_ Try.func15 (by kernel_rfl) rfl #[.string (⟨#[112, 114, 111, 112]⟩ : ByteArray), .slice (some ⟨b1, 0, none⟩) 1 1] (by rfl) rfl rfl (by simp only [List.map_toArray, List.map_cons, List.map_nil]; rfl) ?_
     with_reducible refine (dav_calls (⟨#[112, 114, 111, 112]⟩ : ByteArray) (some ⟨b1, 0, none⟩) 1 1 _).mono ?_
     rintro e w_7 ⟨rfl, hb_⟩
     refine ⟨_, rfl, ?_⟩
     have hS0_ := pw_cell_below hb_ hHeld.1
     have hS1_ := pw_cell_below hb_ hHeld.2.1
     have hS2_ := pw_cell_below hb_ hHeld.2.2.1
     have hS3_ := pw_cell_below hb_ hHeld.2.2.2.1
     have hS4_ := pw_cell_below hb_ hHeld.2.2.2.2
     have m0_ : Aside0 (w_7.heap[g2]? = some (.cells #[.string (⟨#[]⟩ : ByteArray), .string (⟨#[]⟩ : ByteArray), .string (⟨#[]⟩ : ByteArray), .slice none 0 0] 26 (0, 0))) := ⟨blk_below BKg2.out hb_⟩
     have m1_ : Aside0 (w_7.heap[g3]? = some (.cells #[.string (⟨#[68, 65, 86, 58]⟩ : ByteArray), .string (⟨#[112, 114, 111, 112, 101, 114, 116, 121, 117, 112, 100, 97, 116, 101]⟩ : ByteArray), .string (⟨#[]⟩ : ByteArray), .slice Au acc.length cu] 26 (0, 0))) := ⟨blk_below BKg3.out hb_⟩
     have m2_ : Aside0 (w_7.heap[g5]? = some (.cells #[.bool false, .string (rd_T42 l0 x).f1.f0, .string (rd_T42 l0 x).f1.f1, .string (rd_T42 l0 x).f1.f2] 42 (0, 0))) := ⟨blk_below BKg5.out hb_⟩
     have m3_ : Aside0 (w_7.heap[g6]? = some (.cells #[.string (rd_T42 l0 x).f1.f0, .string (rd_T42 l0 x).f1.f1, .string (rd_T42 l0 x).f1.f2, .slice none 0 0] 26 (0, 0))) := ⟨blk_below BKg6.out hb_⟩
     have m4_ : Aside0 (Kd.S kA 26 w_7 w.heap.size (fun k_ => (((k_ ≠ g2 /\ k_ ≠ g3) /\ k_ ≠ g5) /\ k_ ≠ g6)) (.slice Au acc.length cu) acc) := ⟨Kd.S_below HO.out hb_⟩
     have m5_ : Aside0 (Kd.S kA 26 w_7 w.heap.size (fun k_ => nb <= k_) (.slice (some ⟨b1, 0, none⟩) 1 1) [(⟨(rd_T42 l0 x).f1.f0, (rd_T42 l0 x).f1.f1, (rd_T42 l0 x).f1.f2, []⟩ : S26)]) := ⟨Kd.S_below HV0.out hb_⟩
     have m6_ : Aside0 (nb <= w_7.heap.size) := ⟨Nat.le_trans HNB.out (below_size hb_)⟩
     have m7_ : Aside0 (Below w.heap.size w w_7) := ⟨below_step HB.out hb_⟩
     have m8_ : Aside0 (Kd.S kA 26 w_7 w.heap.size (fun k_ => ((((k_ ≠ g2 /\ k_ ≠ g3) /\ k_ ≠ g5) /\ k_ ≠ g6)) /\ k_ < nb) (.slice Au acc.length cu) acc) := ⟨Kd.S_below HOn.out hb_⟩
     (try clear hxg2_0 hfg2_0 hxg2_1 hfg2_1 hxg2_2 hfg2_2 hxg2_3 hfg2_3 hxg3_0 hfg3_0 hxg3_1 hfg3_1 hxg3_2 hfg3_2 hxg3_3 hfg3_3 hxg5_0 hfg5_0 hxg5_1 hfg5_1 hxg5_2 hfg5_2 hxg5_3 hfg5_3 hxg6_0 hfg6_0 hxg6_1 hfg6_1 hxg6_2 hfg6_2 hxg6_3 hfg6_3)
     (try clear BKg2)
     (try clear BKg3)
     (try clear BKg5)
     (try clear BKg6)
     (try clear HO)
     (try clear HV0)
     (try clear HNB)
     (try clear HB)
     (try clear HOn)
     have BKg2 := m0_
     have BKg3 := m1_
     have BKg5 := m2_
     have BKg6 := m3_
     have HO := m4_
     have HV0 := m5_
     have HNB := m6_
     have HB := m7_
     have HOn := m8_
     clear m0_ m1_ m2_ m3_ m4_ m5_ m6_ m7_ m8_
     clear hb_
     have hxg2_0 : w_7.cell? ⟨g2, 0, none⟩ = some (.string (⟨#[]⟩ : ByteArray)) := (blk_cell BKg2.out 0).trans rfl
     have hfg2_0 := blk_frozen BKg2.out 0
     have hxg2_1 : w_7.cell? ⟨g2, 1, none⟩ = some (.string (⟨#[]⟩ : ByteArray)) := (blk_cell BKg2.out 1).trans rfl
     have hfg2_1 := blk_frozen BKg2.out 1
     have hxg2_2 : w_7.cell? ⟨g2, 2, none⟩ = some (.string (⟨#[]⟩ : ByteArray)) := (blk_cell BKg2.out 2).trans rfl
     have hfg2_2 := blk_frozen BKg2.out 2
     have hxg2_3 : w_7.cell? ⟨g2, 3, none⟩ = some (.slice none 0 0) := (blk_cell BKg2.out 3).trans rfl
     have hfg2_3 := blk_frozen BKg2.out 3
     have hxg3_0 : w_7.cell? ⟨g3, 0, none⟩ = some (.string (⟨#[68, 65, 86, 58]⟩ : ByteArray)) := (blk_cell BKg3.out 0).trans rfl
     have hfg3_0 := blk_frozen BKg3.out 0
     have hxg3_1 : w_7.cell? ⟨g3, 1, none⟩ = some (.string (⟨#[112, 114, 111, 112, 101, 114, 116, 121, 117, 112, 100, 97, 116, 101]⟩ : ByteArray)) := (blk_cell BKg3.out 1).trans rfl
     have hfg3_1 := blk_frozen BKg3.out 1
     have hxg3_2 : w_7.cell? ⟨g3, 2, none⟩ = some (.string (⟨#[]⟩ : ByteArray)) := (blk_cell BKg3.out 2).trans rfl
     have hfg3_2 := blk_frozen BKg3.out 2
     have hxg3_3 : w_7.cell? ⟨g3, 3, none⟩ = some (.slice Au acc.length cu) := (blk_cell BKg3.out 3).trans rfl
     have hfg3_3 := blk_frozen BKg3.out 3
     have hxg5_0 : w_7.cell? ⟨g5, 0, none⟩ = some (.bool false) := (blk_cell BKg5.out 0).trans rfl
     have hfg5_0 := blk_frozen BKg5.out 0
     have hxg5_1 : w_7.cell? ⟨g5, 1, none⟩ = some (.string (rd_T42 l0 x).f1.f0) := (blk_cell BKg5.out 1).trans rfl
     have hfg5_1 := blk_frozen BKg5.out 1
     have hxg5_2 : w_7.cell? ⟨g5, 2, none⟩ = some (.string (rd_T42 l0 x).f1.f1) := (blk_cell BKg5.out 2).trans rfl
     have hfg5_2 := blk_frozen BKg5.out 2
     have hxg5_3 : w_7.cell? ⟨g5, 3, none⟩ = some (.string (rd_T42 l0 x).f1.f2) := (blk_cell BKg5.out 3).trans rfl
     have hfg5_3 := blk_frozen BKg5.out 3
     have hxg6_0 : w_7.cell? ⟨g6, 0, none⟩ = some (.string (rd_T42 l0 x).f1.f0) := (blk_cell BKg6.out 0).trans rfl
     have hfg6_0 := blk_frozen BKg6.out 0
     have hxg6_1 : w_7.cell? ⟨g6, 1, none⟩ = some (.string (rd_T42 l0 x).f1.f1) := (blk_cell BKg6.out 1).trans rfl
     have hfg6_1 := blk_frozen BKg6.out 1
     have hxg6_2 : w_7.cell? ⟨g6, 2, none⟩ = some (.string (rd_T42 l0 x).f1.f2) := (blk_cell BKg6.out 2).trans rfl
     have hfg6_2 := blk_frozen BKg6.out 2
     have hxg6_3 : w_7.cell? ⟨g6, 3, none⟩ = some (.slice none 0 0) := (blk_cell BKg6.out 3).trans rfl
     have hfg6_3 := blk_frozen BKg6.out 3
     refine hK.out _ _ ⟨hS0_, hS1_, hS2_, hS3_, hS4_⟩ (fun hHeld => ?_)
     clear hK K
     (try clear hS0_ hS1_ hS2_ hS3_ hS4_)
     refine no_ (some 33) ?_
     refine on_ (i := 6) (N := some 34) (fun K hK => ?_)
     refine lit1_step kA w.heap.size 26 (by rfl) (N := 34) rfl (p := (⟨(⟨#[68, 65, 86, 58]⟩ : ByteArray), (⟨#[112, 114, 111, 112]⟩ : ByteArray), (⟨#[]⟩ : ByteArray), [(⟨(rd_T42 l0 x).f1.f0, (rd_T42 l0 x).f1.f1, (rd_T42 l0 x).f1.f2, []⟩ : S26)]⟩ : S26)) (cs := [.string (⟨#[68, 65, 86, 58]⟩ : ByteArray), .string (⟨#[112, 114, 111, 112]⟩ : ByteArray), .string (⟨#[]⟩ : ByteArray), .slice (some ⟨b1, 0, none⟩) 1 1]) (ok := fun k_ => nb <= k_) (okp := fun k_ => nb <= k_) ?hr ?hp (fun _ h_ => h_) ?hf ?hs ?_
     (case hr => first | (go_simp; done) | (go_simp; rfl))
     (case hp => exact kA_mkM _ _ _ (⟨(⟨#[68, 65, 86, 58]⟩ : ByteArray), (⟨#[112, 114, 111, 112]⟩ : ByteArray), (⟨#[]⟩ : ByteArray), [(⟨(rd_T42 l0 x).f1.f0, (rd_T42 l0 x).f1.f1, (rd_T42 l0 x).f1.f2, []⟩ : S26)]⟩ : S26) HV0.out)
     (case hf => exact HNB.out)
     (case hs => exact below_size HB.out)
     intro b2 w_8 hg_ hv_ hb_
     have hS0_ := pw_cell_below hb_ hHeld.1
     have hS1_ := pw_cell_below hb_ hHeld.2.1
     have hS2_ := pw_cell_below hb_ hHeld.2.2.1
     have hS3_ := pw_cell_below hb_ hHeld.2.2.2.1
     have hS4_ := pw_cell_below hb_ hHeld.2.2.2.2
     have m0_ : Aside0 (w_8.heap[g2]? = some (.cells #[.string (⟨#[]⟩ : ByteArray), .string (⟨#[]⟩ : ByteArray), .string (⟨#[]⟩ : ByteArray), .slice none 0 0] 26 (0, 0))) := ⟨blk_below BKg2.out hb_⟩
     have m1_ : Aside0 (w_8.heap[g3]? = some (.cells #[.string (⟨#[68, 65, 86, 58]⟩ : ByteArray), .string (⟨#[112, 114, 111, 112, 101, 114, 116, 121, 117, 112, 100, 97, 116, 101]⟩ : ByteArray), .string (⟨#[]⟩ : ByteArray), .slice Au acc.length cu] 26 (0, 0))) := ⟨blk_below BKg3.out hb_⟩
     have m2_ : Aside0 (w_8.heap[g5]? = some (.cells #[.bool false, .string (rd_T42 l0 x).f1.f0, .string (rd_T42 l0 x).f1.f1, .string (rd_T42 l0 x).f1.f2] 42 (0, 0))) := ⟨blk_below BKg5.out hb_⟩
     have m3_ : Aside0 (w_8.heap[g6]? = some (.cells #[.string (rd_T42 l0 x).f1.f0, .string (rd_T42 l0 x).f1.f1, .string (rd_T42 l0 x).f1.f2, .slice none 0 0] 26 (0, 0))) := ⟨blk_below BKg6.out hb_⟩
     have m4_ : Aside0 (Kd.S kA 26 w_8 w.heap.size (fun k_ => (((k_ ≠ g2 /\ k_ ≠ g3) /\ k_ ≠ g5) /\ k_ ≠ g6)) (.slice Au acc.length cu) acc) := ⟨Kd.S_below HO.out hb_⟩
     have m5_ : Aside0 (Kd.S kA 26 w_8 w.heap.size (fun k_ => nb <= k_) (.slice (some ⟨b1, 0, none⟩) 1 1) [(⟨(rd_T42 l0 x).f1.f0, (rd_T42 l0 x).f1.f1, (rd_T42 l0 x).f1.f2, []⟩ : S26)]) := ⟨Kd.S_below HV0.out hb_⟩
     have m6_ : Aside0 (nb <= w_8.heap.size) := ⟨Nat.le_trans HNB.out (below_size hb_)⟩
     have m7_ : Aside0 (Below w.heap.size w w_8) := ⟨below_step HB.out hb_⟩
     have m8_ : Aside0 (Kd.S kA 26 w_8 w.heap.size (fun k_ => ((((k_ ≠ g2 /\ k_ ≠ g3) /\ k_ ≠ g5) /\ k_ ≠ g6)) /\ k_ < nb) (.slice Au acc.length cu) acc) := ⟨Kd.S_below HOn.out hb_⟩
     have m9_ : Aside0 (Kd.S kA 26 w_8 w.heap.size (fun k_ => nb <= k_) (.slice (some ⟨b2, 0, none⟩) 1 1) [(⟨(⟨#[68, 65, 86, 58]⟩ : ByteArray), (⟨#[112, 114, 111, 112]⟩ : ByteArray), (⟨#[]⟩ : ByteArray), [(⟨(rd_T42 l0 x).f1.f0, (rd_T42 l0 x).f1.f1, (rd_T42 l0 x).f1.f2, []⟩ : S26)]⟩ : S26)]) := ⟨hv_⟩
     (try clear hxg2_0 hfg2_0 hxg2_1 hfg2_1 hxg2_2 hfg2_2 hxg2_3 hfg2_3 hxg3_0 hfg3_0 hxg3_1 hfg3_1 hxg3_2 hfg3_2 hxg3_3 hfg3_3 hxg5_0 hfg5_0 hxg5_1 hfg5_1 hxg5_2 hfg5_2 hxg5_3 hfg5_3 hxg6_0 hfg6_0 hxg6_1 hfg6_1 hxg6_2 hfg6_2 hxg6_3 hfg6_3)
     (try clear BKg2)
     (try clear BKg3)
     (try clear BKg5)
     (try clear BKg6)
     (try clear HO)
     (try clear HV0)
     (try clear HNB)
     (try clear HB)
     (try clear HOn)
     (try clear HV1)
     have BKg2 := m0_
     have BKg3 := m1_
     have BKg5 := m2_
     have BKg6 := m3_
     have HO := m4_
     have HV0 := m5_
     have HNB := m6_
     have HB := m7_
     have HOn := m8_
     have HV1 := m9_
     clear m0_ m1_ m2_ m3_ m4_ m5_ m6_ m7_ m8_ m9_
     clear hb_ hv_ hg_
     have hxg2_0 : w_8.cell? ⟨g2, 0, none⟩ = some (.string (⟨#[]⟩ : ByteArray)) := (blk_cell BKg2.out 0).trans rfl
     have hfg2_0 := blk_frozen BKg2.out 0
     have hxg2_1 : w_8.cell? ⟨g2, 1, none⟩ = some (.string (⟨#[]⟩ : ByteArray)) := (blk_cell BKg2.out 1).trans rfl
     have hfg2_1 := blk_frozen BKg2.out 1
     have hxg2_2 : w_8.cell? ⟨g2, 2, none⟩ = some (.string (⟨#[]⟩ : ByteArray)) := (blk_cell BKg2.out 2).trans rfl
     have hfg2_2 := blk_frozen BKg2.out 2
     have hxg2_3 : w_8.cell? ⟨g2, 3, none⟩ = some (.slice none 0 0) := (blk_cell BKg2.out 3).trans rfl
     have hfg2_3 := blk_frozen BKg2.out 3
     have hxg3_0 : w_8.cell? ⟨g3, 0, none⟩ = some (.string (⟨#[68, 65, 86, 58]⟩ : ByteArray)) := (blk_cell BKg3.out 0).trans rfl
     have hfg3_0 := blk_frozen BKg3.out 0
     have hxg3_1 : w_8.cell? ⟨g3, 1, none⟩ = some (.string (⟨#[112, 114, 111, 112, 101, 114, 116, 121, 117, 112, 100, 97, 116, 101]⟩ : ByteArray)) := (blk_cell BKg3.out 1).trans rfl
     have hfg3_1 := blk_frozen BKg3.out 1
     have hxg3_2 : w_8.cell? ⟨g3, 2, none⟩ = some (.string (⟨#[]⟩ : ByteArray)) := (blk_cell BKg3.out 2).trans rfl
     have hfg3_2 := blk_frozen BKg3.out 2
     have hxg3_3 : w_8.cell? ⟨g3, 3, none⟩ = some (.slice Au acc.length cu) := (blk_cell BKg3.out 3).trans rfl
     have hfg3_3 := blk_frozen BKg3.out 3
     have hxg5_0 : w_8.cell? ⟨g5, 0, none⟩ = some (.bool false) := (blk_cell BKg5.out 0).trans rfl
     have hfg5_0 := blk_frozen BKg5.out 0
     have hxg5_1 : w_8.cell? ⟨g5, 1, none⟩ = some (.string (rd_T42 l0 x).f1.f0) := (blk_cell BKg5.out 1).trans rfl
     have hfg5_1 := blk_frozen BKg5.out 1
     have hxg5_2 : w_8.cell? ⟨g5, 2, none⟩ = some (.string (rd_T42 l0 x).f1.f1) := (blk_cell BKg5.out 2).trans rfl
     have hfg5_2 := blk_frozen BKg5.out 2
     have hxg5_3 : w_8.cell? ⟨g5, 3, none⟩ = some (.string (rd_T42 l0 x).f1.f2) := (blk_cell BKg5.out 3).trans rfl
     have hfg5_3 := blk_frozen BKg5.out 3
     have hxg6_0 : w_8.cell? ⟨g6, 0, none⟩ = some (.string (rd_T42 l0 x).f1.f0) := (blk_cell BKg6.out 0).trans rfl
     have hfg6_0 := blk_frozen BKg6.out 0
     have hxg6_1 : w_8.cell? ⟨g6, 1, none⟩ = some (.string (rd_T42 l0 x).f1.f1) := (blk_cell BKg6.out 1).trans rfl
     have hfg6_1 := blk_frozen BKg6.out 1
     have hxg6_2 : w_8.cell? ⟨g6, 2, none⟩ = some (.string (rd_T42 l0 x).f1.f2) := (blk_cell BKg6.out 2).trans rfl
     have hfg6_2 := blk_frozen BKg6.out 2
     have hxg6_3 : w_8.cell? ⟨g6, 3, none⟩ = some (.slice none 0 0) := (blk_cell BKg6.out 3).trans rfl
     have hfg6_3 := blk_frozen BKg6.out 3
     refine hK.out _ _ ⟨hS0_, hS1_, hS2_, hS3_, hS4_⟩ (fun hHeld => ?_)
     clear hK K
     (try clear hS0_ hS1_ hS2_ hS3_ hS4_)
     refine no_ (some 34) ?_
     refine on_ (i := 7) (N := some 35) (fun K hK => ?_)
     refine goes_ Try.func15 (by kernel_rfl) rfl #[.string (⟨#[115, 101, 116]⟩ : ByteArray), .slice (some ⟨b2, 0, none⟩) 1 1] (by rfl) rfl rfl (by simp only [List.map_toArray, List.map_cons, List.map_nil]; rfl) ?_
     with_reducible refine (dav_calls (⟨#[115, 101, 116]⟩ : ByteArray) (some ⟨b2, 0, none⟩) 1 1 _).mono ?_
     rintro e w_9 ⟨rfl, hb_⟩
     refine ⟨_, rfl, ?_⟩
     have hS0_ := pw_cell_below hb_ hHeld.1
     have hS1_ := pw_cell_below hb_ hHeld.2.1
     have hS2_ := pw_cell_below hb_ hHeld.2.2.1
     have hS3_ := pw_cell_below hb_ hHeld.2.2.2.1
     have hS4_ := pw_cell_below hb_ hHeld.2.2.2.2
     have m0_ : Aside0 (w_9.heap[g2]? = some (.cells #[.string (⟨#[]⟩ : ByteArray), .string (⟨#[]⟩ : ByteArray), .string (⟨#[]⟩ : ByteArray), .slice none 0 0] 26 (0, 0))) := ⟨blk_below BKg2.out hb_⟩
     have m1_ : Aside0 (w_9.heap[g3]? = some (.cells #[.string (⟨#[68, 65, 86, 58]⟩ : ByteArray), .string (⟨#[112, 114, 111, 112, 101, 114, 116, 121, 117, 112, 100, 97, 116, 101]⟩ : ByteArray), .string (⟨#[]⟩ : ByteArray), .slice Au acc.length cu] 26 (0, 0))) := ⟨blk_below BKg3.out hb_⟩
     have m2_ : Aside0 (w_9.heap[g5]? = some (.cells #[.bool false, .string (rd_T42 l0 x).f1.f0, .string (rd_T42 l0 x).f1.f1, .string (rd_T42 l0 x).f1.f2] 42 (0, 0))) := ⟨blk_below BKg5.out hb_⟩
     have m3_ : Aside0 (w_9.heap[g6]? = some (.cells #[.string (rd_T42 l0 x).f1.f0, .string (rd_T42 l0 x).f1.f1, .string (rd_T42 l0 x).f1.f2, .slice none 0 0] 26 (0, 0))) := ⟨blk_below BKg6.out hb_⟩
     have m4_ : Aside0 (Kd.S kA 26 w_9 w.heap.size (fun k_ => (((k_ ≠ g2 /\ k_ ≠ g3) /\ k_ ≠ g5) /\ k_ ≠ g6)) (.slice Au acc.length cu) acc) := ⟨Kd.S_below HO.out hb_⟩
     have m5_ : Aside0 (Kd.S kA 26 w_9 w.heap.size (fun k_ => nb <= k_) (.slice (some ⟨b1, 0, none⟩) 1 1) [(⟨(rd_T42 l0 x).f1.f0, (rd_T42 l0 x).f1.f1, (rd_T42 l0 x).f1.f2, []⟩ : S26)]) := ⟨Kd.S_below HV0.out hb_⟩
     have m6_ : Aside0 (Kd.S kA 26 w_9 w.heap.size (fun k_ => nb <= k_) (.slice (some ⟨b2, 0, none⟩) 1 1) [(⟨(⟨#[68, 65, 86, 58]⟩ : ByteArray), (⟨#[112, 114, 111, 112]⟩ : ByteArray), (⟨#[]⟩ : ByteArray), [(⟨(rd_T42 l0 x).f1.f0, (rd_T42 l0 x).f1.f1, (rd_T42 l0 x).f1.f2, []⟩ : S26)]⟩ : S26)]) := ⟨Kd.S_below HV1.out hb_⟩
     have m7_ : Aside0 (nb <= w_9.heap.size) := ⟨Nat.le_trans HNB.out (below_size hb_)⟩
     have m8_ : Aside0 (Below w.heap.size w w_9) := ⟨below_step HB.out hb_⟩
     have m9_ : Aside0 (Kd.S kA 26 w_9 w.heap.size (fun k_ => ((((k_ ≠ g2 /\ k_ ≠ g3) /\ k_ ≠ g5) /\ k_ ≠ g6)) /\ k_ < nb) (.slice Au acc.length cu) acc) := ⟨Kd.S_below HOn.out hb_⟩
     (try clear hxg2_0 hfg2_0 hxg2_1 hfg2_1 hxg2_2 hfg2_2 hxg2_3 hfg2_3 hxg3_0 hfg3_0 hxg3_1 hfg3_1 hxg3_2 hfg3_2 hxg3_3 hfg3_3 hxg5_0 hfg5_0 hxg5_1 hfg5_1 hxg5_2 hfg5_2 hxg5_3 hfg5_3 hxg6_0 hfg6_0 hxg6_1 hfg6_1 hxg6_2 hfg6_2 hxg6_3 hfg6_3)
     (try clear BKg2)
     (try clear BKg3)
     (try clear BKg5)
     (try clear BKg6)
     (try clear HO)
     (try clear HV0)
     (try clear HV1)
     (try clear HNB)
     (try clear HB)
     (try clear HOn)
     have BKg2 := m0_
     have BKg3 := m1_
     have BKg5 := m2_
     have BKg6 := m3_
     have HO := m4_
     have HV0 := m5_
     have HV1 := m6_
     have HNB := m7_
     have HB := m8_
     have HOn := m9_
     clear m0_ m1_ m2_ m3_ m4_ m5_ m6_ m7_ m8_ m9_
     clear hb_
     have hxg2_0 : w_9.cell? ⟨g2, 0, none⟩ = some (.string (⟨#[]⟩ : ByteArray)) := (blk_cell BKg2.out 0).trans rfl
     have hfg2_0 := blk_frozen BKg2.out 0
     have hxg2_1 : w_9.cell? ⟨g2, 1, none⟩ = some (.string (⟨#[]⟩ : ByteArray)) := (blk_cell BKg2.out 1).trans rfl
     have hfg2_1 := blk_frozen BKg2.out 1
     have hxg2_2 : w_9.cell? ⟨g2, 2, none⟩ = some (.string (⟨#[]⟩ : ByteArray)) := (blk_cell BKg2.out 2).trans rfl
     have hfg2_2 := blk_frozen BKg2.out 2
     have hxg2_3 : w_9.cell? ⟨g2, 3, none⟩ = some (.slice none 0 0) := (blk_cell BKg2.out 3).trans rfl
     have hfg2_3 := blk_frozen BKg2.out 3
     have hxg3_0 : w_9.cell? ⟨g3, 0, none⟩ = some (.string (⟨#[68, 65, 86, 58]⟩ : ByteArray)) := (blk_cell BKg3.out 0).trans rfl
     have hfg3_0 := blk_frozen BKg3.out 0
     have hxg3_1 : w_9.cell? ⟨g3, 1, none⟩ = some (.string (⟨#[112, 114, 111, 112, 101, 114, 116, 121, 117, 112, 100, 97, 116, 101]⟩ : ByteArray)) := (blk_cell BKg3.out 1).trans rfl
     have hfg3_1 := blk_frozen BKg3.out 1
     have hxg3_2 : w_9.cell? ⟨g3, 2, none⟩ = some (.string (⟨#[]⟩ : ByteArray)) := (blk_cell BKg3.out 2).trans rfl
     have hfg3_2 := blk_frozen BKg3.out 2
     have hxg3_3 : w_9.cell? ⟨g3, 3, none⟩ = some (.slice Au acc.length cu) := (blk_cell BKg3.out 3).trans rfl
     have hfg3_3 := blk_frozen BKg3.out 3
     have hxg5_0 : w_9.cell? ⟨g5, 0, none⟩ = some (.bool false) := (blk_cell BKg5.out 0).trans rfl
     have hfg5_0 := blk_frozen BKg5.out 0
     have hxg5_1 : w_9.cell? ⟨g5, 1, none⟩ = some (.string (rd_T42 l0 x).f1.f0) := (blk_cell BKg5.out 1).trans rfl
     have hfg5_1 := blk_frozen BKg5.out 1
     have hxg5_2 : w_9.cell? ⟨g5, 2, none⟩ = some (.string (rd_T42 l0 x).f1.f1) := (blk_cell BKg5.out 2).trans rfl
     have hfg5_2 := blk_frozen BKg5.out 2
     have hxg5_3 : w_9.cell? ⟨g5, 3, none⟩ = some (.string (rd_T42 l0 x).f1.f2) := (blk_cell BKg5.out 3).trans rfl
     have hfg5_3 := blk_frozen BKg5.out 3
     have hxg6_0 : w_9.cell? ⟨g6, 0, none⟩ = some (.string (rd_T42 l0 x).f1.f0) := (blk_cell BKg6.out 0).trans rfl
     have hfg6_0 := blk_frozen BKg6.out 0
     have hxg6_1 : w_9.cell? ⟨g6, 1, none⟩ = some (.string (rd_T42 l0 x).f1.f1) := (blk_cell BKg6.out 1).trans rfl
     have hfg6_1 := blk_frozen BKg6.out 1
     have hxg6_2 : w_9.cell? ⟨g6, 2, none⟩ = some (.string (rd_T42 l0 x).f1.f2) := (blk_cell BKg6.out 2).trans rfl
     have hfg6_2 := blk_frozen BKg6.out 2
     have hxg6_3 : w_9.cell? ⟨g6, 3, none⟩ = some (.slice none 0 0) := (blk_cell BKg6.out 3).trans rfl
     have hfg6_3 := blk_frozen BKg6.out 3
     refine hK.out _ _ ⟨hS0_, hS1_, hS2_, hS3_, hS4_⟩ (fun hHeld => ?_)
     clear hK K
     (try clear hS0_ hS1_ hS2_ hS3_ hS4_)
     refine no_ (some 35) ?_
     refine on_ (i := 8) (N := some 36) (fun K hK => ?_)
     refine value_ (w1 := ?_) (v := ?_) (by rfl) rfl ?_ ?_
     rotate_left 2
     . go_simp
       constructor
       . rfl
       . rfl
     refine hK.out _ _ ⟨(World.cell?_alloc_lt _ _ _ (World.block_lt_of_cell? _ _ (hHeld.1))).trans (hHeld.1), (World.cell?_alloc_lt _ _ _ (World.block_lt_of_cell? _ _ (hHeld.2.1))).trans (hHeld.2.1), (World.cell?_alloc_lt _ _ _ (World.block_lt_of_cell? _ _ (hHeld.2.2.1))).trans (hHeld.2.2.1), (World.cell?_alloc_lt _ _ _ (World.block_lt_of_cell? _ _ (hHeld.2.2.2.1))).trans (hHeld.2.2.2.1), (World.cell?_alloc_lt _ _ _ (World.block_lt_of_cell? _ _ (hHeld.2.2.2.2))).trans (hHeld.2.2.2.2)⟩ (fun hHeld => ?_)
     clear hK K
     (try clear hS0_ hS1_ hS2_ hS3_ hS4_)
     refine no_ (some 36) ?_
     refine last_ (i := 9) (N := some 37) #[true, true, true, true, true, true, true, true, true, true, false, false] rfl rfl (one_of HT_.out (by kernel_rfl)) (by decide) (fun K hK => ?_)
     refine Kd.S_append_step kA (w0 := w) w.heap.size (by rfl) (.tmp 29) (.tmp 36) 24 26 (.agg #[(.string ⟨#[]⟩), (.string ⟨#[]⟩), (.string ⟨#[]⟩), (.slice none 0 0)]) 72 rfl Try.underlying24 info26 rfl (by decide) (by omega) (.slice Au acc.length cu) acc (⟨(⟨#[68, 65, 86, 58]⟩ : ByteArray), (⟨#[115, 101, 116]⟩ : ByteArray), (⟨#[]⟩ : ByteArray), [(⟨(⟨#[68, 65, 86, 58]⟩ : ByteArray), (⟨#[112, 114, 111, 112]⟩ : ByteArray), (⟨#[]⟩ : ByteArray), [(⟨(rd_T42 l0 x).f1.f0, (rd_T42 l0 x).f1.f1, (rd_T42 l0 x).f1.f2, []⟩ : S26)]⟩ : S26)]⟩ : S26) [.string (⟨#[68, 65, 86, 58]⟩ : ByteArray), .string (⟨#[115, 101, 116]⟩ : ByteArray), .string (⟨#[]⟩ : ByteArray), .slice (some ⟨b2, 0, none⟩) 1 1] (fun k_ => (((k_ ≠ g2 /\ k_ ≠ g3) /\ k_ ≠ g5) /\ k_ ≠ g6)) (fun k_ => nb <= k_) rfl rfl ?aP ?aK ?aF ?aO ?aB ?aS ?aL ?_
     (case aP => exact kA_mkM _ _ _ (⟨(⟨#[68, 65, 86, 58]⟩ : ByteArray), (⟨#[115, 101, 116]⟩ : ByteArray), (⟨#[]⟩ : ByteArray), [(⟨(⟨#[68, 65, 86, 58]⟩ : ByteArray), (⟨#[112, 114, 111, 112]⟩ : ByteArray), (⟨#[]⟩ : ByteArray), [(⟨(rd_T42 l0 x).f1.f0, (rd_T42 l0 x).f1.f1, (rd_T42 l0 x).f1.f2, []⟩ : S26)]⟩ : S26)]⟩ : S26) HV1.out)
     (case aK => exact fun k_ h_ => ⟨⟨⟨⟨(by have := HLg2.out; have : nb <= k_ := h_; omega), (by have := HLg3.out; have : nb <= k_ := h_; omega)⟩, (by have := HLg5.out; have : nb <= k_ := h_; omega)⟩, (by have := HLg6.out; have : nb <= k_ := h_; omega)⟩, HU.out k_ h_⟩)
     (case aF => exact fun k_ h_ => ⟨⟨⟨(by have := blk_lt BKg2.out; have := h_; omega), (by have := blk_lt BKg3.out; have := h_; omega)⟩, (by have := blk_lt BKg5.out; have := h_; omega)⟩, (by have := blk_lt BKg6.out; have := h_; omega)⟩)
     (case aO => exact Kd.S_mono (Kd.S_bound HOn.out) (fun k_ h_ => ⟨h_.1.1, fun h2_ => absurd h_.1.2 (Nat.not_lt.2 h2_)⟩))
     (case aB => exact HB.out)
     (case aS => exact below_size HB.out)
     (case aL => have := LM.out; omega)
     intro v1 w_10 ho_ hbb_ hg_ hat_
     rw [← Ny.out] at ho_
     obtain ⟨A1_, c1_, rfl⟩ := Kd.S_slice ho_
     have m0_ : Aside0 (w_10.heap[g2]? = some (.cells #[.string (⟨#[]⟩ : ByteArray), .string (⟨#[]⟩ : ByteArray), .string (⟨#[]⟩ : ByteArray), .slice none 0 0] 26 (0, 0))) := ⟨blk_grown BKg2.out hg_ (Kd.S_away HO.out (fun _ hk => hk.1.1.1))⟩
     have m1_ : Aside0 (w_10.heap[g3]? = some (.cells #[.string (⟨#[68, 65, 86, 58]⟩ : ByteArray), .string (⟨#[112, 114, 111, 112, 101, 114, 116, 121, 117, 112, 100, 97, 116, 101]⟩ : ByteArray), .string (⟨#[]⟩ : ByteArray), .slice Au acc.length cu] 26 (0, 0))) := ⟨blk_grown BKg3.out hg_ (Kd.S_away HO.out (fun _ hk => hk.1.1.2))⟩
     have m2_ : Aside0 (w_10.heap[g5]? = some (.cells #[.bool false, .string (rd_T42 l0 x).f1.f0, .string (rd_T42 l0 x).f1.f1, .string (rd_T42 l0 x).f1.f2] 42 (0, 0))) := ⟨blk_grown BKg5.out hg_ (Kd.S_away HO.out (fun _ hk => hk.1.2))⟩
     have m3_ : Aside0 (w_10.heap[g6]? = some (.cells #[.string (rd_T42 l0 x).f1.f0, .string (rd_T42 l0 x).f1.f1, .string (rd_T42 l0 x).f1.f2, .slice none 0 0] 26 (0, 0))) := ⟨blk_grown BKg6.out hg_ (Kd.S_away HO.out (fun _ hk => hk.2))⟩
     have m4_ : Aside0 (Kd.S kA 26 w_10 w.heap.size (fun k_ => (((k_ ≠ g2 /\ k_ ≠ g3) /\ k_ ≠ g5) /\ k_ ≠ g6)) (.slice A1_ y.length c1_) y) := ⟨ho_⟩
     have m5_ : Aside0 (Below w.heap.size w w_10) := ⟨hbb_⟩
     (try clear hxg2_0 hfg2_0 hxg2_1 hfg2_1 hxg2_2 hfg2_2 hxg2_3 hfg2_3 hxg3_0 hfg3_0 hxg3_1 hfg3_1 hxg3_2 hfg3_2 hxg3_3 hfg3_3 hxg5_0 hfg5_0 hxg5_1 hfg5_1 hxg5_2 hfg5_2 hxg5_3 hfg5_3 hxg6_0 hfg6_0 hxg6_1 hfg6_1 hxg6_2 hfg6_2 hxg6_3 hfg6_3)
     (try clear BKg2)
     (try clear BKg3)
     (try clear BKg5)
     (try clear BKg6)
     (try clear HO)
     (try clear HB)
     have BKg2 := m0_
     have BKg3 := m1_
     have BKg5 := m2_
     have BKg6 := m3_
     have HO := m4_
     have HB := m5_
     clear m0_ m1_ m2_ m3_ m4_ m5_
     clear ho_ hbb_ hg_ hat_
     have hxg2_0 : w_10.cell? ⟨g2, 0, none⟩ = some (.string (⟨#[]⟩ : ByteArray)) := (blk_cell BKg2.out 0).trans rfl
     have hfg2_0 := blk_frozen BKg2.out 0
     have hxg2_1 : w_10.cell? ⟨g2, 1, none⟩ = some (.string (⟨#[]⟩ : ByteArray)) := (blk_cell BKg2.out 1).trans rfl
     have hfg2_1 := blk_frozen BKg2.out 1
     have hxg2_2 : w_10.cell? ⟨g2, 2, none⟩ = some (.string (⟨#[]⟩ : ByteArray)) := (blk_cell BKg2.out 2).trans rfl
     have hfg2_2 := blk_frozen BKg2.out 2
     have hxg2_3 : w_10.cell? ⟨g2, 3, none⟩ = some (.slice none 0 0) := (blk_cell BKg2.out 3).trans rfl
     have hfg2_3 := blk_frozen BKg2.out 3
     have hxg3_0 : w_10.cell? ⟨g3, 0, none⟩ = some (.string (⟨#[68, 65, 86, 58]⟩ : ByteArray)) := (blk_cell BKg3.out 0).trans rfl
     have hfg3_0 := blk_frozen BKg3.out 0
     have hxg3_1 : w_10.cell? ⟨g3, 1, none⟩ = some (.string (⟨#[112, 114, 111, 112, 101, 114, 116, 121, 117, 112, 100, 97, 116, 101]⟩ : ByteArray)) := (blk_cell BKg3.out 1).trans rfl
     have hfg3_1 := blk_frozen BKg3.out 1
     have hxg3_2 : w_10.cell? ⟨g3, 2, none⟩ = some (.string (⟨#[]⟩ : ByteArray)) := (blk_cell BKg3.out 2).trans rfl
     have hfg3_2 := blk_frozen BKg3.out 2
     have hxg3_3 : w_10.cell? ⟨g3, 3, none⟩ = some (.slice Au acc.length cu) := (blk_cell BKg3.out 3).trans rfl
     have hfg3_3 := blk_frozen BKg3.out 3
     have hxg5_0 : w_10.cell? ⟨g5, 0, none⟩ = some (.bool false) := (blk_cell BKg5.out 0).trans rfl
     have hfg5_0 := blk_frozen BKg5.out 0
     have hxg5_1 : w_10.cell? ⟨g5, 1, none⟩ = some (.string (rd_T42 l0 x).f1.f0) := (blk_cell BKg5.out 1).trans rfl
     have hfg5_1 := blk_frozen BKg5.out 1
     have hxg5_2 : w_10.cell? ⟨g5, 2, none⟩ = some (.string (rd_T42 l0 x).f1.f1) := (blk_cell BKg5.out 2).trans rfl
     have hfg5_2 := blk_frozen BKg5.out 2
     have hxg5_3 : w_10.cell? ⟨g5, 3, none⟩ = some (.string (rd_T42 l0 x).f1.f2) := (blk_cell BKg5.out 3).trans rfl
     have hfg5_3 := blk_frozen BKg5.out 3
     have hxg6_0 : w_10.cell? ⟨g6, 0, none⟩ = some (.string (rd_T42 l0 x).f1.f0) := (blk_cell BKg6.out 0).trans rfl
     have hfg6_0 := blk_frozen BKg6.out 0
     have hxg6_1 : w_10.cell? ⟨g6, 1, none⟩ = some (.string (rd_T42 l0 x).f1.f1) := (blk_cell BKg6.out 1).trans rfl
     have hfg6_1 := blk_frozen BKg6.out 1
     have hxg6_2 : w_10.cell? ⟨g6, 2, none⟩ = some (.string (rd_T42 l0 x).f1.f2) := (blk_cell BKg6.out 2).trans rfl
     have hfg6_2 := blk_frozen BKg6.out 2
     have hxg6_3 : w_10.cell? ⟨g6, 3, none⟩ = some (.slice none 0 0) := (blk_cell BKg6.out 3).trans rfl
     have hfg6_3 := blk_frozen BKg6.out 3
     refine hK.out _ _ ?_
     clear hK K
     (try clear hS0_ hS1_ hS2_ hS3_ hS4_)
     refine no_ (some 37) ?_
     refine pu_ (i := 10) (N := some 38) ?_
     refine last_ (i := 11) (N := none) #[true, true, true, true, true, true, true, true, true, true, true, true] rfl rfl (one_of HT_.out (by kernel_rfl)) (by decide) (fun K hK => ?_)
     refine skip_ (w1 := ?_) (by rfl) rfl ?_ ?_
     rotate_left
     . go_simp
       rfl
     refine hK.out _ _ ?_
     clear hK K
     (try clear hS0_ hS1_ hS2_ hS3_ hS4_)
     refine done_ (done_of HT_.out (by kernel_rfl)) ?_
     (try clear hHeld)
     try go_wp2
     go_roundg k1
     case measure => have := HK1.out; omega
     case rel => exact ⟨wrap64 (x + 1), y, (.slice A1_ y.length c1_), rfl, H', ⟨by have := HK1.out; omega⟩, ⟨Kd.S_far (p := ⟨g3, 3, none⟩) (Kd.S_mono HO.out (fun _ hk => ⟨hk.1.1.1, hk.1.1.2⟩)) (fun _ hk => hk.2) _⟩, ⟨blk_far BKg2.out hn_g2_g3 _⟩, ⟨blk_put (cs := #[.string (⟨#[68, 65, 86, 58]⟩ : ByteArray), .string (⟨#[112, 114, 111, 112, 101, 114, 116, 121, 117, 112, 100, 97, 116, 101]⟩ : ByteArray), .string (⟨#[]⟩ : ByteArray), .slice Au acc.length cu]) BKg3.out 3 _ rfl⟩, ⟨below_set HB.out GEg3.out⟩⟩
   . have hEl_ : setNode_ (rd_T42 l0 x) = (⟨(⟨#[68, 65, 86, 58]⟩ : ByteArray), (⟨#[114, 101, 109, 111, 118, 101]⟩ : ByteArray), (⟨#[]⟩ : ByteArray), [(⟨(⟨#[68, 65, 86, 58]⟩ : ByteArray), (⟨#[112, 114, 111, 112]⟩ : ByteArray), (⟨#[]⟩ : ByteArray), [(⟨(rd_T42 l0 x).f1.f0, (rd_T42 l0 x).f1.f1, (⟨#[]⟩ : ByteArray), []⟩ : S26)]⟩ : S26)]⟩ : S26) := by unfold setNode_; rw [hd]; rfl
     rw [hEl_] at H
     clear hEl_
     obtain ⟨y, hy_⟩ : ∃ y_ : List (S26), y_ = acc ++ [(⟨(⟨#[68, 65, 86, 58]⟩ : ByteArray), (⟨#[114, 101, 109, 111, 118, 101]⟩ : ByteArray), (⟨#[]⟩ : ByteArray), [(⟨(⟨#[68, 65, 86, 58]⟩ : ByteArray), (⟨#[112, 114, 111, 112]⟩ : ByteArray), (⟨#[]⟩ : ByteArray), [(⟨(rd_T42 l0 x).f1.f0, (rd_T42 l0 x).f1.f1, (⟨#[]⟩ : ByteArray), []⟩ : S26)]⟩ : S26)]⟩ : S26)] := ⟨_, rfl⟩
     rw [← hy_] at H
     have Ny := A_ hy_
     clear hy_
     have H' := A_ H
     clear H
     try go_wp2_with (first | ((with_reducible refine gd_ (N := 5) rfl ?_); refine bx_ (N := 5) (cs := #[.bool false, .string (⟨#[]⟩ : ByteArray), .string (⟨#[]⟩ : ByteArray), .string (⟨#[]⟩ : ByteArray)]) (t := 42) ?_; intro g5 hg_ w_1 hbox_ hb_; have hn_g2_g5 : g2 ≠ g5 := (by have := blk_lt BKg2.out; rw [hg_]; omega); have hn_g5_g2 : g5 ≠ g2 := (by have := blk_lt BKg2.out; rw [hg_]; omega); have hn_g3_g5 : g3 ≠ g5 := (by have := blk_lt BKg3.out; rw [hg_]; omega); have hn_g5_g3 : g5 ≠ g3 := (by have := blk_lt BKg3.out; rw [hg_]; omega); have GEg5 : Aside0 (w.heap.size <= g5) := ⟨by rw [hg_]; exact below_size HB.out⟩; have m0_ : Aside0 (w_1.heap[g2]? = some (.cells #[.string (⟨#[]⟩ : ByteArray), .string (⟨#[]⟩ : ByteArray), .string (⟨#[]⟩ : ByteArray), .slice none 0 0] 26 (0, 0))) := ⟨blk_below BKg2.out hb_⟩; have m1_ : Aside0 (w_1.heap[g3]? = some (.cells #[.string (⟨#[68, 65, 86, 58]⟩ : ByteArray), .string (⟨#[112, 114, 111, 112, 101, 114, 116, 121, 117, 112, 100, 97, 116, 101]⟩ : ByteArray), .string (⟨#[]⟩ : ByteArray), .slice Au acc.length cu] 26 (0, 0))) := ⟨blk_below BKg3.out hb_⟩; have m2_ : Aside0 (Kd.S kA 26 w_1 w.heap.size (fun k_ => ((k_ ≠ g2 /\ k_ ≠ g3) /\ k_ ≠ g5)) (.slice Au acc.length cu) acc) := ⟨Kd.S_below (Kd.S_elderB HO.out g5 (Nat.le_of_eq hg_.symm)) hb_⟩; have m3_ : Aside0 (Below w.heap.size w w_1) := ⟨below_step HB.out hb_⟩; have m4_ : Aside0 (w_1.heap[g5]? = some (.cells #[.bool false, .string (⟨#[]⟩ : ByteArray), .string (⟨#[]⟩ : ByteArray), .string (⟨#[]⟩ : ByteArray)] 42 (0, 0))) := ⟨hbox_⟩; (try clear hxg2_0 hfg2_0 hxg2_1 hfg2_1 hxg2_2 hfg2_2 hxg2_3 hfg2_3 hxg3_0 hfg3_0 hxg3_1 hfg3_1 hxg3_2 hfg3_2 hxg3_3 hfg3_3); (try clear BKg2); (try clear BKg3); (try clear HO); (try clear HB); (try clear BKg5); have BKg2 := m0_; have BKg3 := m1_; have HO := m2_; have HB := m3_; have BKg5 := m4_; clear m0_ m1_ m2_ m3_ m4_; clear hb_ hbox_ hg_; have hxg2_0 : w_1.cell? ⟨g2, 0, none⟩ = some (.string (⟨#[]⟩ : ByteArray)) := (blk_cell BKg2.out 0).trans rfl; have hfg2_0 := blk_frozen BKg2.out 0; have hxg2_1 : w_1.cell? ⟨g2, 1, none⟩ = some (.string (⟨#[]⟩ : ByteArray)) := (blk_cell BKg2.out 1).trans rfl; have hfg2_1 := blk_frozen BKg2.out 1; have hxg2_2 : w_1.cell? ⟨g2, 2, none⟩ = some (.string (⟨#[]⟩ : ByteArray)) := (blk_cell BKg2.out 2).trans rfl; have hfg2_2 := blk_frozen BKg2.out 2; have hxg2_3 : w_1.cell? ⟨g2, 3, none⟩ = some (.slice none 0 0) := (blk_cell BKg2.out 3).trans rfl; have hfg2_3 := blk_frozen BKg2.out 3; have hxg3_0 : w_1.cell? ⟨g3, 0, none⟩ = some (.string (⟨#[68, 65, 86, 58]⟩ : ByteArray)) := (blk_cell BKg3.out 0).trans rfl; have hfg3_0 := blk_frozen BKg3.out 0; have hxg3_1 : w_1.cell? ⟨g3, 1, none⟩ = some (.string (⟨#[112, 114, 111, 112, 101, 114, 116, 121, 117, 112, 100, 97, 116, 101]⟩ : ByteArray)) := (blk_cell BKg3.out 1).trans rfl; have hfg3_1 := blk_frozen BKg3.out 1; have hxg3_2 : w_1.cell? ⟨g3, 2, none⟩ = some (.string (⟨#[]⟩ : ByteArray)) := (blk_cell BKg3.out 2).trans rfl; have hfg3_2 := blk_frozen BKg3.out 2; have hxg3_3 : w_1.cell? ⟨g3, 3, none⟩ = some (.slice Au acc.length cu) := (blk_cell BKg3.out 3).trans rfl; have hfg3_3 := blk_frozen BKg3.out 3; have hxg5_0 : w_1.cell? ⟨g5, 0, none⟩ = some (.bool false) := (blk_cell BKg5.out 0).trans rfl; have hfg5_0 := blk_frozen BKg5.out 0; have hxg5_1 : w_1.cell? ⟨g5, 1, none⟩ = some (.string (⟨#[]⟩ : ByteArray)) := (blk_cell BKg5.out 1).trans rfl; have hfg5_1 := blk_frozen BKg5.out 1; have hxg5_2 : w_1.cell? ⟨g5, 2, none⟩ = some (.string (⟨#[]⟩ : ByteArray)) := (blk_cell BKg5.out 2).trans rfl; have hfg5_2 := blk_frozen BKg5.out 2; have hxg5_3 : w_1.cell? ⟨g5, 3, none⟩ = some (.string (⟨#[]⟩ : ByteArray)) := (blk_cell BKg5.out 3).trans rfl; have hfg5_3 := blk_frozen BKg5.out 3) | ((with_reducible refine gate_store (t := 42) (p := 5) rfl ?_); apply box_store (g := g5); (case hrun => first | (go_simp; done) | (go_simp; rfl)); (case _ho => rfl); (case hN => rfl); (case hgd => rfl); (case hs => repeat (first | (with_reducible exact Sto.refl _ _) | refine Sto.step ?_ _ _)); (case hb => repeat (first | (with_reducible exact IsBlk.of BKg5.out) | (with_reducible apply IsBlk.set))); intro w_2 hw' bk_; simp only [List.setIfInBounds_toArray, List.set_cons_zero, List.set_cons_succ] at bk_; have m0_ : Aside0 (w_2.heap[g2]? = some (.cells #[.string (⟨#[]⟩ : ByteArray), .string (⟨#[]⟩ : ByteArray), .string (⟨#[]⟩ : ByteArray), .slice none 0 0] 26 (0, 0))) := ⟨stored_blk hw' BKg2.out hn_g2_g5⟩; have m1_ : Aside0 (w_2.heap[g3]? = some (.cells #[.string (⟨#[68, 65, 86, 58]⟩ : ByteArray), .string (⟨#[112, 114, 111, 112, 101, 114, 116, 121, 117, 112, 100, 97, 116, 101]⟩ : ByteArray), .string (⟨#[]⟩ : ByteArray), .slice Au acc.length cu] 26 (0, 0))) := ⟨stored_blk hw' BKg3.out hn_g3_g5⟩; have m2_ : Aside0 (Kd.S kA 26 w_2 w.heap.size (fun k_ => ((k_ ≠ g2 /\ k_ ≠ g3) /\ k_ ≠ g5)) (.slice Au acc.length cu) acc) := ⟨stored_S hw' HO.out (fun _ hk => hk.2)⟩; have m3_ : Aside0 (Below w.heap.size w w_2) := ⟨stored_below hw' HB.out GEg5.out⟩; have m4_ : Aside0 (w_2.heap[g5]? = some (.cells #[.bool true, .string (rd_T42 l0 x).f1.f0, .string (rd_T42 l0 x).f1.f1, .string (rd_T42 l0 x).f1.f2] 42 (0, 0))) := ⟨bk_⟩; (try clear hxg2_0 hfg2_0 hxg2_1 hfg2_1 hxg2_2 hfg2_2 hxg2_3 hfg2_3 hxg3_0 hfg3_0 hxg3_1 hfg3_1 hxg3_2 hfg3_2 hxg3_3 hfg3_3 hxg5_0 hfg5_0 hxg5_1 hfg5_1 hxg5_2 hfg5_2 hxg5_3 hfg5_3); (try clear BKg2); (try clear BKg3); (try clear HO); (try clear HB); (try clear BKg5); have BKg2 := m0_; have BKg3 := m1_; have HO := m2_; have HB := m3_; have BKg5 := m4_; clear m0_ m1_ m2_ m3_ m4_; clear hw' bk_; have hxg2_0 : w_2.cell? ⟨g2, 0, none⟩ = some (.string (⟨#[]⟩ : ByteArray)) := (blk_cell BKg2.out 0).trans rfl; have hfg2_0 := blk_frozen BKg2.out 0; have hxg2_1 : w_2.cell? ⟨g2, 1, none⟩ = some (.string (⟨#[]⟩ : ByteArray)) := (blk_cell BKg2.out 1).trans rfl; have hfg2_1 := blk_frozen BKg2.out 1; have hxg2_2 : w_2.cell? ⟨g2, 2, none⟩ = some (.string (⟨#[]⟩ : ByteArray)) := (blk_cell BKg2.out 2).trans rfl; have hfg2_2 := blk_frozen BKg2.out 2; have hxg2_3 : w_2.cell? ⟨g2, 3, none⟩ = some (.slice none 0 0) := (blk_cell BKg2.out 3).trans rfl; have hfg2_3 := blk_frozen BKg2.out 3; have hxg3_0 : w_2.cell? ⟨g3, 0, none⟩ = some (.string (⟨#[68, 65, 86, 58]⟩ : ByteArray)) := (blk_cell BKg3.out 0).trans rfl; have hfg3_0 := blk_frozen BKg3.out 0; have hxg3_1 : w_2.cell? ⟨g3, 1, none⟩ = some (.string (⟨#[112, 114, 111, 112, 101, 114, 116, 121, 117, 112, 100, 97, 116, 101]⟩ : ByteArray)) := (blk_cell BKg3.out 1).trans rfl; have hfg3_1 := blk_frozen BKg3.out 1; have hxg3_2 : w_2.cell? ⟨g3, 2, none⟩ = some (.string (⟨#[]⟩ : ByteArray)) := (blk_cell BKg3.out 2).trans rfl; have hfg3_2 := blk_frozen BKg3.out 2; have hxg3_3 : w_2.cell? ⟨g3, 3, none⟩ = some (.slice Au acc.length cu) := (blk_cell BKg3.out 3).trans rfl; have hfg3_3 := blk_frozen BKg3.out 3; have hxg5_0 : w_2.cell? ⟨g5, 0, none⟩ = some (.bool true) := (blk_cell BKg5.out 0).trans rfl; have hfg5_0 := blk_frozen BKg5.out 0; have hxg5_1 : w_2.cell? ⟨g5, 1, none⟩ = some (.string (rd_T42 l0 x).f1.f0) := (blk_cell BKg5.out 1).trans rfl; have hfg5_1 := blk_frozen BKg5.out 1; have hxg5_2 : w_2.cell? ⟨g5, 2, none⟩ = some (.string (rd_T42 l0 x).f1.f1) := (blk_cell BKg5.out 2).trans rfl; have hfg5_2 := blk_frozen BKg5.out 2; have hxg5_3 : w_2.cell? ⟨g5, 3, none⟩ = some (.string (rd_T42 l0 x).f1.f2) := (blk_cell BKg5.out 3).trans rfl; have hfg5_3 := blk_frozen BKg5.out 3) | ((with_reducible refine gd_ (N := 6) rfl ?_); refine bx_ (N := 6) (cs := #[.string (⟨#[]⟩ : ByteArray), .string (⟨#[]⟩ : ByteArray), .string (⟨#[]⟩ : ByteArray), .slice none 0 0]) (t := 26) ?_; intro g6 hg_ w_3 hbox_ hb_; have hn_g2_g6 : g2 ≠ g6 := (by have := blk_lt BKg2.out; rw [hg_]; omega); have hn_g6_g2 : g6 ≠ g2 := (by have := blk_lt BKg2.out; rw [hg_]; omega); have hn_g3_g6 : g3 ≠ g6 := (by have := blk_lt BKg3.out; rw [hg_]; omega); have hn_g6_g3 : g6 ≠ g3 := (by have := blk_lt BKg3.out; rw [hg_]; omega); have hn_g5_g6 : g5 ≠ g6 := (by have := blk_lt BKg5.out; rw [hg_]; omega); have hn_g6_g5 : g6 ≠ g5 := (by have := blk_lt BKg5.out; rw [hg_]; omega); have GEg6 : Aside0 (w.heap.size <= g6) := ⟨by rw [hg_]; exact below_size HB.out⟩; have m0_ : Aside0 (w_3.heap[g2]? = some (.cells #[.string (⟨#[]⟩ : ByteArray), .string (⟨#[]⟩ : ByteArray), .string (⟨#[]⟩ : ByteArray), .slice none 0 0] 26 (0, 0))) := ⟨blk_below BKg2.out hb_⟩; have m1_ : Aside0 (w_3.heap[g3]? = some (.cells #[.string (⟨#[68, 65, 86, 58]⟩ : ByteArray), .string (⟨#[112, 114, 111, 112, 101, 114, 116, 121, 117, 112, 100, 97, 116, 101]⟩ : ByteArray), .string (⟨#[]⟩ : ByteArray), .slice Au acc.length cu] 26 (0, 0))) := ⟨blk_below BKg3.out hb_⟩; have m2_ : Aside0 (w_3.heap[g5]? = some (.cells #[.bool true, .string (rd_T42 l0 x).f1.f0, .string (rd_T42 l0 x).f1.f1, .string (rd_T42 l0 x).f1.f2] 42 (0, 0))) := ⟨blk_below BKg5.out hb_⟩; have m3_ : Aside0 (Kd.S kA 26 w_3 w.heap.size (fun k_ => (((k_ ≠ g2 /\ k_ ≠ g3) /\ k_ ≠ g5) /\ k_ ≠ g6)) (.slice Au acc.length cu) acc) := ⟨Kd.S_below (Kd.S_elderB HO.out g6 (Nat.le_of_eq hg_.symm)) hb_⟩; have m4_ : Aside0 (Below w.heap.size w w_3) := ⟨below_step HB.out hb_⟩; have m5_ : Aside0 (w_3.heap[g6]? = some (.cells #[.string (⟨#[]⟩ : ByteArray), .string (⟨#[]⟩ : ByteArray), .string (⟨#[]⟩ : ByteArray), .slice none 0 0] 26 (0, 0))) := ⟨hbox_⟩; (try clear hxg2_0 hfg2_0 hxg2_1 hfg2_1 hxg2_2 hfg2_2 hxg2_3 hfg2_3 hxg3_0 hfg3_0 hxg3_1 hfg3_1 hxg3_2 hfg3_2 hxg3_3 hfg3_3 hxg5_0 hfg5_0 hxg5_1 hfg5_1 hxg5_2 hfg5_2 hxg5_3 hfg5_3); (try clear BKg2); (try clear BKg3); (try clear BKg5); (try clear HO); (try clear HB); (try clear BKg6); have BKg2 := m0_; have BKg3 := m1_; have BKg5 := m2_; have HO := m3_; have HB := m4_; have BKg6 := m5_; clear m0_ m1_ m2_ m3_ m4_ m5_; clear hb_ hbox_ hg_; have hxg2_0 : w_3.cell? ⟨g2, 0, none⟩ = some (.string (⟨#[]⟩ : ByteArray)) := (blk_cell BKg2.out 0).trans rfl; have hfg2_0 := blk_frozen BKg2.out 0; have hxg2_1 : w_3.cell? ⟨g2, 1, none⟩ = some (.string (⟨#[]⟩ : ByteArray)) := (blk_cell BKg2.out 1).trans rfl; have hfg2_1 := blk_frozen BKg2.out 1; have hxg2_2 : w_3.cell? ⟨g2, 2, none⟩ = some (.string (⟨#[]⟩ : ByteArray)) := (blk_cell BKg2.out 2).trans rfl; have hfg2_2 := blk_frozen BKg2.out 2; have hxg2_3 : w_3.cell? ⟨g2, 3, none⟩ = some (.slice none 0 0) := (blk_cell BKg2.out 3).trans rfl; have hfg2_3 := blk_frozen BKg2.out 3; have hxg3_0 : w_3.cell? ⟨g3, 0, none⟩ = some (.string (⟨#[68, 65, 86, 58]⟩ : ByteArray)) := (blk_cell BKg3.out 0).trans rfl; have hfg3_0 := blk_frozen BKg3.out 0; have hxg3_1 : w_3.cell? ⟨g3, 1, none⟩ = some (.string (⟨#[112, 114, 111, 112, 101, 114, 116, 121, 117, 112, 100, 97, 116, 101]⟩ : ByteArray)) := (blk_cell BKg3.out 1).trans rfl; have hfg3_1 := blk_frozen BKg3.out 1; have hxg3_2 : w_3.cell? ⟨g3, 2, none⟩ = some (.string (⟨#[]⟩ : ByteArray)) := (blk_cell BKg3.out 2).trans rfl; have hfg3_2 := blk_frozen BKg3.out 2; have hxg3_3 : w_3.cell? ⟨g3, 3, none⟩ = some (.slice Au acc.length cu) := (blk_cell BKg3.out 3).trans rfl; have hfg3_3 := blk_frozen BKg3.out 3; have hxg5_0 : w_3.cell? ⟨g5, 0, none⟩ = some (.bool true) := (blk_cell BKg5.out 0).trans rfl; have hfg5_0 := blk_frozen BKg5.out 0; have hxg5_1 : w_3.cell? ⟨g5, 1, none⟩ = some (.string (rd_T42 l0 x).f1.f0) := (blk_cell BKg5.out 1).trans rfl; have hfg5_1 := blk_frozen BKg5.out 1; have hxg5_2 : w_3.cell? ⟨g5, 2, none⟩ = some (.string (rd_T42 l0 x).f1.f1) := (blk_cell BKg5.out 2).trans rfl; have hfg5_2 := blk_frozen BKg5.out 2; have hxg5_3 : w_3.cell? ⟨g5, 3, none⟩ = some (.string (rd_T42 l0 x).f1.f2) := (blk_cell BKg5.out 3).trans rfl; have hfg5_3 := blk_frozen BKg5.out 3; have hxg6_0 : w_3.cell? ⟨g6, 0, none⟩ = some (.string (⟨#[]⟩ : ByteArray)) := (blk_cell BKg6.out 0).trans rfl; have hfg6_0 := blk_frozen BKg6.out 0; have hxg6_1 : w_3.cell? ⟨g6, 1, none⟩ = some (.string (⟨#[]⟩ : ByteArray)) := (blk_cell BKg6.out 1).trans rfl; have hfg6_1 := blk_frozen BKg6.out 1; have hxg6_2 : w_3.cell? ⟨g6, 2, none⟩ = some (.string (⟨#[]⟩ : ByteArray)) := (blk_cell BKg6.out 2).trans rfl; have hfg6_2 := blk_frozen BKg6.out 2; have hxg6_3 : w_3.cell? ⟨g6, 3, none⟩ = some (.slice none 0 0) := (blk_cell BKg6.out 3).trans rfl; have hfg6_3 := blk_frozen BKg6.out 3) | ((with_reducible refine gate_store (t := 26) (p := 6) rfl ?_); apply box_store (g := g6); (case hrun => first | (go_simp; done) | (go_simp; rfl)); (case _ho => rfl); (case hN => rfl); (case hgd => rfl); (case hs => repeat (first | (with_reducible exact Sto.refl _ _) | refine Sto.step ?_ _ _)); (case hb => repeat (first | (with_reducible exact IsBlk.of BKg6.out) | (with_reducible apply IsBlk.set))); intro w_4 hw' bk_; simp only [List.setIfInBounds_toArray, List.set_cons_zero, List.set_cons_succ] at bk_; have m0_ : Aside0 (w_4.heap[g2]? = some (.cells #[.string (⟨#[]⟩ : ByteArray), .string (⟨#[]⟩ : ByteArray), .string (⟨#[]⟩ : ByteArray), .slice none 0 0] 26 (0, 0))) := ⟨stored_blk hw' BKg2.out hn_g2_g6⟩; have m1_ : Aside0 (w_4.heap[g3]? = some (.cells #[.string (⟨#[68, 65, 86, 58]⟩ : ByteArray), .string (⟨#[112, 114, 111, 112, 101, 114, 116, 121, 117, 112, 100, 97, 116, 101]⟩ : ByteArray), .string (⟨#[]⟩ : ByteArray), .slice Au acc.length cu] 26 (0, 0))) := ⟨stored_blk hw' BKg3.out hn_g3_g6⟩; have m2_ : Aside0 (w_4.heap[g5]? = some (.cells #[.bool true, .string (rd_T42 l0 x).f1.f0, .string (rd_T42 l0 x).f1.f1, .string (rd_T42 l0 x).f1.f2] 42 (0, 0))) := ⟨stored_blk hw' BKg5.out hn_g5_g6⟩; have m3_ : Aside0 (Kd.S kA 26 w_4 w.heap.size (fun k_ => (((k_ ≠ g2 /\ k_ ≠ g3) /\ k_ ≠ g5) /\ k_ ≠ g6)) (.slice Au acc.length cu) acc) := ⟨stored_S hw' HO.out (fun _ hk => hk.2)⟩; have m4_ : Aside0 (Below w.heap.size w w_4) := ⟨stored_below hw' HB.out GEg6.out⟩; have m5_ : Aside0 (w_4.heap[g6]? = some (.cells #[.string (rd_T42 l0 x).f1.f0, .string (rd_T42 l0 x).f1.f1, .string (rd_T42 l0 x).f1.f2, .slice none 0 0] 26 (0, 0))) := ⟨bk_⟩; (try clear hxg2_0 hfg2_0 hxg2_1 hfg2_1 hxg2_2 hfg2_2 hxg2_3 hfg2_3 hxg3_0 hfg3_0 hxg3_1 hfg3_1 hxg3_2 hfg3_2 hxg3_3 hfg3_3 hxg5_0 hfg5_0 hxg5_1 hfg5_1 hxg5_2 hfg5_2 hxg5_3 hfg5_3 hxg6_0 hfg6_0 hxg6_1 hfg6_1 hxg6_2 hfg6_2 hxg6_3 hfg6_3); (try clear BKg2); (try clear BKg3); (try clear BKg5); (try clear HO); (try clear HB); (try clear BKg6); have BKg2 := m0_; have BKg3 := m1_; have BKg5 := m2_; have HO := m3_; have HB := m4_; have BKg6 := m5_; clear m0_ m1_ m2_ m3_ m4_ m5_; clear hw' bk_; have hxg2_0 : w_4.cell? ⟨g2, 0, none⟩ = some (.string (⟨#[]⟩ : ByteArray)) := (blk_cell BKg2.out 0).trans rfl; have hfg2_0 := blk_frozen BKg2.out 0; have hxg2_1 : w_4.cell? ⟨g2, 1, none⟩ = some (.string (⟨#[]⟩ : ByteArray)) := (blk_cell BKg2.out 1).trans rfl; have hfg2_1 := blk_frozen BKg2.out 1; have hxg2_2 : w_4.cell? ⟨g2, 2, none⟩ = some (.string (⟨#[]⟩ : ByteArray)) := (blk_cell BKg2.out 2).trans rfl; have hfg2_2 := blk_frozen BKg2.out 2; have hxg2_3 : w_4.cell? ⟨g2, 3, none⟩ = some (.slice none 0 0) := (blk_cell BKg2.out 3).trans rfl; have hfg2_3 := blk_frozen BKg2.out 3; have hxg3_0 : w_4.cell? ⟨g3, 0, none⟩ = some (.string (⟨#[68, 65, 86, 58]⟩ : ByteArray)) := (blk_cell BKg3.out 0).trans rfl; have hfg3_0 := blk_frozen BKg3.out 0; have hxg3_1 : w_4.cell? ⟨g3, 1, none⟩ = some (.string (⟨#[112, 114, 111, 112, 101, 114, 116, 121, 117, 112, 100, 97, 116, 101]⟩ : ByteArray)) := (blk_cell BKg3.out 1).trans rfl; have hfg3_1 := blk_frozen BKg3.out 1; have hxg3_2 : w_4.cell? ⟨g3, 2, none⟩ = some (.string (⟨#[]⟩ : ByteArray)) := (blk_cell BKg3.out 2).trans rfl; have hfg3_2 := blk_frozen BKg3.out 2; have hxg3_3 : w_4.cell? ⟨g3, 3, none⟩ = some (.slice Au acc.length cu) := (blk_cell BKg3.out 3).trans rfl; have hfg3_3 := blk_frozen BKg3.out 3; have hxg5_0 : w_4.cell? ⟨g5, 0, none⟩ = some (.bool true) := (blk_cell BKg5.out 0).trans rfl; have hfg5_0 := blk_frozen BKg5.out 0; have hxg5_1 : w_4.cell? ⟨g5, 1, none⟩ = some (.string (rd_T42 l0 x).f1.f0) := (blk_cell BKg5.out 1).trans rfl; have hfg5_1 := blk_frozen BKg5.out 1; have hxg5_2 : w_4.cell? ⟨g5, 2, none⟩ = some (.string (rd_T42 l0 x).f1.f1) := (blk_cell BKg5.out 2).trans rfl; have hfg5_2 := blk_frozen BKg5.out 2; have hxg5_3 : w_4.cell? ⟨g5, 3, none⟩ = some (.string (rd_T42 l0 x).f1.f2) := (blk_cell BKg5.out 3).trans rfl; have hfg5_3 := blk_frozen BKg5.out 3; have hxg6_0 : w_4.cell? ⟨g6, 0, none⟩ = some (.string (rd_T42 l0 x).f1.f0) := (blk_cell BKg6.out 0).trans rfl; have hfg6_0 := blk_frozen BKg6.out 0; have hxg6_1 : w_4.cell? ⟨g6, 1, none⟩ = some (.string (rd_T42 l0 x).f1.f1) := (blk_cell BKg6.out 1).trans rfl; have hfg6_1 := blk_frozen BKg6.out 1; have hxg6_2 : w_4.cell? ⟨g6, 2, none⟩ = some (.string (rd_T42 l0 x).f1.f2) := (blk_cell BKg6.out 2).trans rfl; have hfg6_2 := blk_frozen BKg6.out 2; have hxg6_3 : w_4.cell? ⟨g6, 3, none⟩ = some (.slice none 0 0) := (blk_cell BKg6.out 3).trans rfl; have hfg6_3 := blk_frozen BKg6.out 3) | ((with_reducible refine gate_store (t := 9) (p := 27) rfl ?_); apply box_store (g := g6); (case hrun => first | (go_simp; done) | (go_simp; rfl)); (case _ho => rfl); (case hN => rfl); (case hgd => rfl); (case hs => repeat (first | (with_reducible exact Sto.refl _ _) | refine Sto.step ?_ _ _)); (case hb => repeat (first | (with_reducible exact IsBlk.of BKg6.out) | (with_reducible apply IsBlk.set))); intro w_5 hw' bk_; simp only [List.setIfInBounds_toArray, List.set_cons_zero, List.set_cons_succ] at bk_; have m0_ : Aside0 (w_5.heap[g2]? = some (.cells #[.string (⟨#[]⟩ : ByteArray), .string (⟨#[]⟩ : ByteArray), .string (⟨#[]⟩ : ByteArray), .slice none 0 0] 26 (0, 0))) := ⟨stored_blk hw' BKg2.out hn_g2_g6⟩; have m1_ : Aside0 (w_5.heap[g3]? = some (.cells #[.string (⟨#[68, 65, 86, 58]⟩ : ByteArray), .string (⟨#[112, 114, 111, 112, 101, 114, 116, 121, 117, 112, 100, 97, 116, 101]⟩ : ByteArray), .string (⟨#[]⟩ : ByteArray), .slice Au acc.length cu] 26 (0, 0))) := ⟨stored_blk hw' BKg3.out hn_g3_g6⟩; have m2_ : Aside0 (w_5.heap[g5]? = some (.cells #[.bool true, .string (rd_T42 l0 x).f1.f0, .string (rd_T42 l0 x).f1.f1, .string (rd_T42 l0 x).f1.f2] 42 (0, 0))) := ⟨stored_blk hw' BKg5.out hn_g5_g6⟩; have m3_ : Aside0 (Kd.S kA 26 w_5 w.heap.size (fun k_ => (((k_ ≠ g2 /\ k_ ≠ g3) /\ k_ ≠ g5) /\ k_ ≠ g6)) (.slice Au acc.length cu) acc) := ⟨stored_S hw' HO.out (fun _ hk => hk.2)⟩; have m4_ : Aside0 (Below w.heap.size w w_5) := ⟨stored_below hw' HB.out GEg6.out⟩; have m5_ : Aside0 (w_5.heap[g6]? = some (.cells #[.string (rd_T42 l0 x).f1.f0, .string (rd_T42 l0 x).f1.f1, .string (⟨#[]⟩ : ByteArray), .slice none 0 0] 26 (0, 0))) := ⟨bk_⟩; (try clear hxg2_0 hfg2_0 hxg2_1 hfg2_1 hxg2_2 hfg2_2 hxg2_3 hfg2_3 hxg3_0 hfg3_0 hxg3_1 hfg3_1 hxg3_2 hfg3_2 hxg3_3 hfg3_3 hxg5_0 hfg5_0 hxg5_1 hfg5_1 hxg5_2 hfg5_2 hxg5_3 hfg5_3 hxg6_0 hfg6_0 hxg6_1 hfg6_1 hxg6_2 hfg6_2 hxg6_3 hfg6_3); (try clear BKg2); (try clear BKg3); (try clear BKg5); (try clear HO); (try clear HB); (try clear BKg6); have BKg2 := m0_; have BKg3 := m1_; have BKg5 := m2_; have HO := m3_; have HB := m4_; have BKg6 := m5_; clear m0_ m1_ m2_ m3_ m4_ m5_; clear hw' bk_; have hxg2_0 : w_5.cell? ⟨g2, 0, none⟩ = some (.string (⟨#[]⟩ : ByteArray)) := (blk_cell BKg2.out 0).trans rfl; have hfg2_0 := blk_frozen BKg2.out 0; have hxg2_1 : w_5.cell? ⟨g2, 1, none⟩ = some (.string (⟨#[]⟩ : ByteArray)) := (blk_cell BKg2.out 1).trans rfl; have hfg2_1 := blk_frozen BKg2.out 1; have hxg2_2 : w_5.cell? ⟨g2, 2, none⟩ = some (.string (⟨#[]⟩ : ByteArray)) := (blk_cell BKg2.out 2).trans rfl; have hfg2_2 := blk_frozen BKg2.out 2; have hxg2_3 : w_5.cell? ⟨g2, 3, none⟩ = some (.slice none 0 0) := (blk_cell BKg2.out 3).trans rfl; have hfg2_3 := blk_frozen BKg2.out 3; have hxg3_0 : w_5.cell? ⟨g3, 0, none⟩ = some (.string (⟨#[68, 65, 86, 58]⟩ : ByteArray)) := (blk_cell BKg3.out 0).trans rfl; have hfg3_0 := blk_frozen BKg3.out 0; have hxg3_1 : w_5.cell? ⟨g3, 1, none⟩ = some (.string (⟨#[112, 114, 111, 112, 101, 114, 116, 121, 117, 112, 100, 97, 116, 101]⟩ : ByteArray)) := (blk_cell BKg3.out 1).trans rfl; have hfg3_1 := blk_frozen BKg3.out 1; have hxg3_2 : w_5.cell? ⟨g3, 2, none⟩ = some (.string (⟨#[]⟩ : ByteArray)) := (blk_cell BKg3.out 2).trans rfl; have hfg3_2 := blk_frozen BKg3.out 2; have hxg3_3 : w_5.cell? ⟨g3, 3, none⟩ = some (.slice Au acc.length cu) := (blk_cell BKg3.out 3).trans rfl; have hfg3_3 := blk_frozen BKg3.out 3; have hxg5_0 : w_5.cell? ⟨g5, 0, none⟩ = some (.bool true) := (blk_cell BKg5.out 0).trans rfl; have hfg5_0 := blk_frozen BKg5.out 0; have hxg5_1 : w_5.cell? ⟨g5, 1, none⟩ = some (.string (rd_T42 l0 x).f1.f0) := (blk_cell BKg5.out 1).trans rfl; have hfg5_1 := blk_frozen BKg5.out 1; have hxg5_2 : w_5.cell? ⟨g5, 2, none⟩ = some (.string (rd_T42 l0 x).f1.f1) := (blk_cell BKg5.out 2).trans rfl; have hfg5_2 := blk_frozen BKg5.out 2; have hxg5_3 : w_5.cell? ⟨g5, 3, none⟩ = some (.string (rd_T42 l0 x).f1.f2) := (blk_cell BKg5.out 3).trans rfl; have hfg5_3 := blk_frozen BKg5.out 3; have hxg6_0 : w_5.cell? ⟨g6, 0, none⟩ = some (.string (rd_T42 l0 x).f1.f0) := (blk_cell BKg6.out 0).trans rfl; have hfg6_0 := blk_frozen BKg6.out 0; have hxg6_1 : w_5.cell? ⟨g6, 1, none⟩ = some (.string (rd_T42 l0 x).f1.f1) := (blk_cell BKg6.out 1).trans rfl; have hfg6_1 := blk_frozen BKg6.out 1; have hxg6_2 : w_5.cell? ⟨g6, 2, none⟩ = some (.string (⟨#[]⟩ : ByteArray)) := (blk_cell BKg6.out 2).trans rfl; have hfg6_2 := blk_frozen BKg6.out 2; have hxg6_3 : w_5.cell? ⟨g6, 3, none⟩ = some (.slice none 0 0) := (blk_cell BKg6.out 3).trans rfl; have hfg6_3 := blk_frozen BKg6.out 3))
     obtain ⟨nb, hnb_⟩ : ∃ n_, n_ = w_5.heap.size := ⟨_, rfl⟩
     have HNB : Aside0 (nb <= w_5.heap.size) := ⟨Nat.le_of_eq hnb_⟩
     have HU : Aside0 (∀ k_, nb <= k_ -> some k_ ≠ ((.slice Au acc.length cu) : Value).ownBlock) := ⟨fun k_ h_ e_ => by have := Kd.S_lt HO.out k_ e_.symm; omega⟩
     have HLg2 : Aside0 (g2 < nb) := ⟨by have := blk_lt BKg2.out; omega⟩
     have HLg3 : Aside0 (g3 < nb) := ⟨by have := blk_lt BKg3.out; omega⟩
     have HLg5 : Aside0 (g5 < nb) := ⟨by have := blk_lt BKg5.out; omega⟩
     have HLg6 : Aside0 (g6 < nb) := ⟨by have := blk_lt BKg6.out; omega⟩
     have HOn : Aside0 (Kd.S kA 26 w_5 w.heap.size (fun k_ => ((((k_ ≠ g2 /\ k_ ≠ g3) /\ k_ ≠ g5) /\ k_ ≠ g6)) /\ k_ < nb) (.slice Au acc.length cu) acc) := ⟨Kd.S_mono (Kd.S_bound HO.out) (fun k_ h_ => ⟨h_.1, by have := h_.2.2.1; omega⟩)⟩
     clear hnb_
     refine start_ (n := 12) (S := fun w' => w'.cell? ⟨g3, 3, none⟩ = some (.slice Au acc.length cu) /\ w'.cell? ⟨g6, 0, none⟩ = some (.string (rd_T42 l0 x).f1.f0) /\ w'.cell? ⟨g6, 1, none⟩ = some (.string (rd_T42 l0 x).f1.f1) /\ w'.cell? ⟨g6, 2, none⟩ = some (.string (⟨#[]⟩ : ByteArray)) /\ w'.cell? ⟨g6, 3, none⟩ = some (.slice none 0 0)) (ds := [9, 11]) #[false, false, false, false, false, false, false, false, false, false, false, false] (by kernel_rfl) rfl rfl ⟨hxg3_3, hxg6_0, hxg6_1, hxg6_2, hxg6_3⟩ (fun hHeld => ?_); refine with_tabW impl_SetsNode.tab10 impl_SetsNode.bits10 (fun HT_ HW_ => ?_)
     generalize hWd_ : w_5.drew = w_6 at hHeld ⊢
     have hb_ : Below w_5.heap.size w_5 w_6 := (by rw [← hWd_]; exact below_drew (Below.refl _ _))
     clear hWd_
     have m0_ : Aside0 (w_6.heap[g2]? = some (.cells #[.string (⟨#[]⟩ : ByteArray), .string (⟨#[]⟩ : ByteArray), .string (⟨#[]⟩ : ByteArray), .slice none 0 0] 26 (0, 0))) := ⟨blk_below BKg2.out hb_⟩
     have m1_ : Aside0 (w_6.heap[g3]? = some (.cells #[.string (⟨#[68, 65, 86, 58]⟩ : ByteArray), .string (⟨#[112, 114, 111, 112, 101, 114, 116, 121, 117, 112, 100, 97, 116, 101]⟩ : ByteArray), .string (⟨#[]⟩ : ByteArray), .slice Au acc.length cu] 26 (0, 0))) := ⟨blk_below BKg3.out hb_⟩
     have m2_ : Aside0 (w_6.heap[g5]? = some (.cells #[.bool true, .string (rd_T42 l0 x).f1.f0, .string (rd_T42 l0 x).f1.f1, .string (rd_T42 l0 x).f1.f2] 42 (0, 0))) := ⟨blk_below BKg5.out hb_⟩
     have m3_ : Aside0 (w_6.heap[g6]? = some (.cells #[.string (rd_T42 l0 x).f1.f0, .string (rd_T42 l0 x).f1.f1, .string (⟨#[]⟩ : ByteArray), .slice none 0 0] 26 (0, 0))) := ⟨blk_below BKg6.out hb_⟩
     have m4_ : Aside0 (Kd.S kA 26 w_6 w.heap.size (fun k_ => (((k_ ≠ g2 /\ k_ ≠ g3) /\ k_ ≠ g5) /\ k_ ≠ g6)) (.slice Au acc.length cu) acc) := ⟨Kd.S_below HO.out hb_⟩
     have m5_ : Aside0 (nb <= w_6.heap.size) := ⟨Nat.le_trans HNB.out (below_size hb_)⟩
     have m6_ : Aside0 (Below w.heap.size w w_6) := ⟨below_step HB.out hb_⟩
     have m7_ : Aside0 (Kd.S kA 26 w_6 w.heap.size (fun k_ => ((((k_ ≠ g2 /\ k_ ≠ g3) /\ k_ ≠ g5) /\ k_ ≠ g6)) /\ k_ < nb) (.slice Au acc.length cu) acc) := ⟨Kd.S_below HOn.out hb_⟩
     (try clear hxg2_0 hfg2_0 hxg2_1 hfg2_1 hxg2_2 hfg2_2 hxg2_3 hfg2_3 hxg3_0 hfg3_0 hxg3_1 hfg3_1 hxg3_2 hfg3_2 hxg3_3 hfg3_3 hxg5_0 hfg5_0 hxg5_1 hfg5_1 hxg5_2 hfg5_2 hxg5_3 hfg5_3 hxg6_0 hfg6_0 hxg6_1 hfg6_1 hxg6_2 hfg6_2 hxg6_3 hfg6_3)
     (try clear BKg2)
     (try clear BKg3)
     (try clear BKg5)
     (try clear BKg6)
     (try clear HO)
     (try clear HNB)
     (try clear HB)
     (try clear HOn)
     have BKg2 := m0_
     have BKg3 := m1_
     have BKg5 := m2_
     have BKg6 := m3_
     have HO := m4_
     have HNB := m5_
     have HB := m6_
     have HOn := m7_
     clear m0_ m1_ m2_ m3_ m4_ m5_ m6_ m7_
     clear hb_
     have hxg2_0 : w_6.cell? ⟨g2, 0, none⟩ = some (.string (⟨#[]⟩ : ByteArray)) := (blk_cell BKg2.out 0).trans rfl
     have hfg2_0 := blk_frozen BKg2.out 0
     have hxg2_1 : w_6.cell? ⟨g2, 1, none⟩ = some (.string (⟨#[]⟩ : ByteArray)) := (blk_cell BKg2.out 1).trans rfl
     have hfg2_1 := blk_frozen BKg2.out 1
     have hxg2_2 : w_6.cell? ⟨g2, 2, none⟩ = some (.string (⟨#[]⟩ : ByteArray)) := (blk_cell BKg2.out 2).trans rfl
     have hfg2_2 := blk_frozen BKg2.out 2
     have hxg2_3 : w_6.cell? ⟨g2, 3, none⟩ = some (.slice none 0 0) := (blk_cell BKg2.out 3).trans rfl
     have hfg2_3 := blk_frozen BKg2.out 3
     have hxg3_0 : w_6.cell? ⟨g3, 0, none⟩ = some (.string (⟨#[68, 65, 86, 58]⟩ : ByteArray)) := (blk_cell BKg3.out 0).trans rfl
     have hfg3_0 := blk_frozen BKg3.out 0
     have hxg3_1 : w_6.cell? ⟨g3, 1, none⟩ = some (.string (⟨#[112, 114, 111, 112, 101, 114, 116, 121, 117, 112, 100, 97, 116, 101]⟩ : ByteArray)) := (blk_cell BKg3.out 1).trans rfl
     have hfg3_1 := blk_frozen BKg3.out 1
     have hxg3_2 : w_6.cell? ⟨g3, 2, none⟩ = some (.string (⟨#[]⟩ : ByteArray)) := (blk_cell BKg3.out 2).trans rfl
     have hfg3_2 := blk_frozen BKg3.out 2
     have hxg3_3 : w_6.cell? ⟨g3, 3, none⟩ = some (.slice Au acc.length cu) := (blk_cell BKg3.out 3).trans rfl
     have hfg3_3 := blk_frozen BKg3.out 3
     have hxg5_0 : w_6.cell? ⟨g5, 0, none⟩ = some (.bool true) := (blk_cell BKg5.out 0).trans rfl
     have hfg5_0 := blk_frozen BKg5.out 0
     have hxg5_1 : w_6.cell? ⟨g5, 1, none⟩ = some (.string (rd_T42 l0 x).f1.f0) := (blk_cell BKg5.out 1).trans rfl
     have hfg5_1 := blk_frozen BKg5.out 1
     have hxg5_2 : w_6.cell? ⟨g5, 2, none⟩ = some (.string (rd_T42 l0 x).f1.f1) := (blk_cell BKg5.out 2).trans rfl
     have hfg5_2 := blk_frozen BKg5.out 2
     have hxg5_3 : w_6.cell? ⟨g5, 3, none⟩ = some (.string (rd_T42 l0 x).f1.f2) := (blk_cell BKg5.out 3).trans rfl
     have hfg5_3 := blk_frozen BKg5.out 3
     have hxg6_0 : w_6.cell? ⟨g6, 0, none⟩ = some (.string (rd_T42 l0 x).f1.f0) := (blk_cell BKg6.out 0).trans rfl
     have hfg6_0 := blk_frozen BKg6.out 0
     have hxg6_1 : w_6.cell? ⟨g6, 1, none⟩ = some (.string (rd_T42 l0 x).f1.f1) := (blk_cell BKg6.out 1).trans rfl
     have hfg6_1 := blk_frozen BKg6.out 1
     have hxg6_2 : w_6.cell? ⟨g6, 2, none⟩ = some (.string (⟨#[]⟩ : ByteArray)) := (blk_cell BKg6.out 2).trans rfl
     have hfg6_2 := blk_frozen BKg6.out 2
     have hxg6_3 : w_6.cell? ⟨g6, 3, none⟩ = some (.slice none 0 0) := (blk_cell BKg6.out 3).trans rfl
     have hfg6_3 := blk_frozen BKg6.out 3
     refine pu_ (i := 0) (N := some 28) ?_
     refine pu_ (i := 2) (N := some 30) ?_
     refine tk_ (i := 1) (N := some 29) hHeld ?_
     refine tk_ (i := 3) (N := some 31) hHeld ?_
     refine on_ (i := 4) (N := some 32) (fun K hK => ?_)
     refine lit1_step kA w.heap.size 26 (by rfl) (N := 32) rfl (p := (⟨(rd_T42 l0 x).f1.f0, (rd_T42 l0 x).f1.f1, (⟨#[]⟩ : ByteArray), []⟩ : S26)) (cs := [.string (rd_T42 l0 x).f1.f0, .string (rd_T42 l0 x).f1.f1, .string (⟨#[]⟩ : ByteArray), .slice none 0 0]) (ok := fun k_ => nb <= k_) (okp := fun k_ => nb <= k_) ?hr ?hp (fun _ h_ => h_) ?hf ?hs ?_
     (case hr => first | (go_simp; done) | (go_simp; rfl))
     (case hp => exact kA_mkM _ _ _ (⟨(rd_T42 l0 x).f1.f0, (rd_T42 l0 x).f1.f1, (⟨#[]⟩ : ByteArray), []⟩ : S26) (Kd.S_nil _ _ _ _ _))
     (case hf => exact HNB.out)
     (case hs => exact below_size HB.out)
     intro b1 w_7 hg_ hv_ hb_
     have hS0_ := pw_cell_below hb_ hHeld.1
     have hS1_ := pw_cell_below hb_ hHeld.2.1
     have hS2_ := pw_cell_below hb_ hHeld.2.2.1
     have hS3_ := pw_cell_below hb_ hHeld.2.2.2.1
     have hS4_ := pw_cell_below hb_ hHeld.2.2.2.2
     have m0_ : Aside0 (w_7.heap[g2]? = some (.cells #[.string (⟨#[]⟩ : ByteArray), .string (⟨#[]⟩ : ByteArray), .string (⟨#[]⟩ : ByteArray), .slice none 0 0] 26 (0, 0))) := ⟨blk_below BKg2.out hb_⟩
     have m1_ : Aside0 (w_7.heap[g3]? = some (.cells #[.string (⟨#[68, 65, 86, 58]⟩ : ByteArray), .string (⟨#[112, 114, 111, 112, 101, 114, 116, 121, 117, 112, 100, 97, 116, 101]⟩ : ByteArray), .string (⟨#[]⟩ : ByteArray), .slice Au acc.length cu] 26 (0, 0))) := ⟨blk_below BKg3.out hb_⟩
     have m2_ : Aside0 (w_7.heap[g5]? = some (.cells #[.bool true, .string (rd_T42 l0 x).f1.f0, .string (rd_T42 l0 x).f1.f1, .string (rd_T42 l0 x).f1.f2] 42 (0, 0))) := ⟨blk_below BKg5.out hb_⟩
     have m3_ : Aside0 (w_7.heap[g6]? = some (.cells #[.string (rd_T42 l0 x).f1.f0, .string (rd_T42 l0 x).f1.f1, .string (⟨#[]⟩ : ByteArray), .slice none 0 0] 26 (0, 0))) := ⟨blk_below BKg6.out hb_⟩
     have m4_ : Aside0 (Kd.S kA 26 w_7 w.heap.size (fun k_ => (((k_ ≠ g2 /\ k_ ≠ g3) /\ k_ ≠ g5) /\ k_ ≠ g6)) (.slice Au acc.length cu) acc) := ⟨Kd.S_below HO.out hb_⟩
     have m5_ : Aside0 (nb <= w_7.heap.size) := ⟨Nat.le_trans HNB.out (below_size hb_)⟩
     have m6_ : Aside0 (Below w.heap.size w w_7) := ⟨below_step HB.out hb_⟩
     have m7_ : Aside0 (Kd.S kA 26 w_7 w.heap.size (fun k_ => ((((k_ ≠ g2 /\ k_ ≠ g3) /\ k_ ≠ g5) /\ k_ ≠ g6)) /\ k_ < nb) (.slice Au acc.length cu) acc) := ⟨Kd.S_below HOn.out hb_⟩
     have m8_ : Aside0 (Kd.S kA 26 w_7 w.heap.size (fun k_ => nb <= k_) (.slice (some ⟨b1, 0, none⟩) 1 1) [(⟨(rd_T42 l0 x).f1.f0, (rd_T42 l0 x).f1.f1, (⟨#[]⟩ : ByteArray), []⟩ : S26)]) := ⟨hv_⟩
     (try clear hxg2_0 hfg2_0 hxg2_1 hfg2_1 hxg2_2 hfg2_2 hxg2_3 hfg2_3 hxg3_0 hfg3_0 hxg3_1 hfg3_1 hxg3_2 hfg3_2 hxg3_3 hfg3_3 hxg5_0 hfg5_0 hxg5_1 hfg5_1 hxg5_2 hfg5_2 hxg5_3 hfg5_3 hxg6_0 hfg6_0 hxg6_1 hfg6_1 hxg6_2 hfg6_2 hxg6_3 hfg6_3)
     (try clear BKg2)
     (try clear BKg3)
     (try clear BKg5)
     (try clear BKg6)
     (try clear HO)
     (try clear HNB)
     (try clear HB)
     (try clear HOn)
     (try clear HV0)
     have BKg2 := m0_
     have BKg3 := m1_
     have BKg5 := m2_
     have BKg6 := m3_
     have HO := m4_
     have HNB := m5_
     have HB := m6_
     have HOn := m7_
     have HV0 := m8_
     clear m0_ m1_ m2_ m3_ m4_ m5_ m6_ m7_ m8_
     clear hb_ hv_ hg_
     have hxg2_0 : w_7.cell? ⟨g2, 0, none⟩ = some (.string (⟨#[]⟩ : ByteArray)) := (blk_cell BKg2.out 0).trans rfl
     have hfg2_0 := blk_frozen BKg2.out 0
     have hxg2_1 : w_7.cell? ⟨g2, 1, none⟩ = some (.string (⟨#[]⟩ : ByteArray)) := (blk_cell BKg2.out 1).trans rfl
     have hfg2_1 := blk_frozen BKg2.out 1
     have hxg2_2 : w_7.cell? ⟨g2, 2, none⟩ = some (.string (⟨#[]⟩ : ByteArray)) := (blk_cell BKg2.out 2).trans rfl
     have hfg2_2 := blk_frozen BKg2.out 2
     have hxg2_3 : w_7.cell? ⟨g2, 3, none⟩ = some (.slice none 0 0) := (blk_cell BKg2.out 3).trans rfl
     have hfg2_3 := blk_frozen BKg2.out 3
     have hxg3_0 : w_7.cell? ⟨g3, 0, none⟩ = some (.string (⟨#[68, 65, 86, 58]⟩ : ByteArray)) := (blk_cell BKg3.out 0).trans rfl
     have hfg3_0 := blk_frozen BKg3.out 0
     have hxg3_1 : w_7.cell? ⟨g3, 1, none⟩ = some (.string (⟨#[112, 114, 111, 112, 101, 114, 116, 121, 117, 112, 100, 97, 116, 101]⟩ : ByteArray)) := (blk_cell BKg3.out 1).trans rfl
     have hfg3_1 := blk_frozen BKg3.out 1
     have hxg3_2 : w_7.cell? ⟨g3, 2, none⟩ = some (.string (⟨#[]⟩ : ByteArray)) := (blk_cell BKg3.out 2).trans rfl
     have hfg3_2 := blk_frozen BKg3.out 2
     have hxg3_3 : w_7.cell? ⟨g3, 3, none⟩ = some (.slice Au acc.length cu) := (blk_cell BKg3.out 3).trans rfl
     have hfg3_3 := blk_frozen BKg3.out 3
     have hxg5_0 : w_7.cell? ⟨g5, 0, none⟩ = some (.bool true) := (blk_cell BKg5.out 0).trans rfl
     have hfg5_0 := blk_frozen BKg5.out 0
     have hxg5_1 : w_7.cell? ⟨g5, 1, none⟩ = some (.string (rd_T42 l0 x).f1.f0) := (blk_cell BKg5.out 1).trans rfl
     have hfg5_1 := blk_frozen BKg5.out 1
     have hxg5_2 : w_7.cell? ⟨g5, 2, none⟩ = some (.string (rd_T42 l0 x).f1.f1) := (blk_cell BKg5.out 2).trans rfl
     have hfg5_2 := blk_frozen BKg5.out 2
     have hxg5_3 : w_7.cell? ⟨g5, 3, none⟩ = some (.string (rd_T42 l0 x).f1.f2) := (blk_cell BKg5.out 3).trans rfl
     have hfg5_3 := blk_frozen BKg5.out 3
     have hxg6_0 : w_7.cell? ⟨g6, 0, none⟩ = some (.string (rd_T42 l0 x).f1.f0) := (blk_cell BKg6.out 0).trans rfl
     have hfg6_0 := blk_frozen BKg6.out 0
     have hxg6_1 : w_7.cell? ⟨g6, 1, none⟩ = some (.string (rd_T42 l0 x).f1.f1) := (blk_cell BKg6.out 1).trans rfl
     have hfg6_1 := blk_frozen BKg6.out 1
     have hxg6_2 : w_7.cell? ⟨g6, 2, none⟩ = some (.string (⟨#[]⟩ : ByteArray)) := (blk_cell BKg6.out 2).trans rfl
     have hfg6_2 := blk_frozen BKg6.out 2
     have hxg6_3 : w_7.cell? ⟨g6, 3, none⟩ = some (.slice none 0 0) := (blk_cell BKg6.out 3).trans rfl
     have hfg6_3 := blk_frozen BKg6.out 3
     refine hK.out _ _ ⟨hS0_, hS1_, hS2_, hS3_, hS4_⟩ (fun hHeld => ?_)
     clear hK K
     (try clear hS0_ hS1_ hS2_ hS3_ hS4_)
     refine no_ (some 32) ?_
     refine on_ (i := 5) (N := some 33) (fun K hK => ?_)
     refine goes_ Try.func15 (by kernel_rfl) rfl #[.string (⟨#[112, 114, 111, 112]⟩ : ByteArray), .slice (some ⟨b1, 0, none⟩) 1 1] (by rfl) rfl rfl (by simp only [List.map_toArray, List.map_cons, List.map_nil]; rfl) ?_
     with_reducible refine (dav_calls (⟨#[112, 114, 111, 112]⟩ : ByteArray) (some ⟨b1, 0, none⟩) 1 1 _).mono ?_
     rintro e w_8 ⟨rfl, hb_⟩
     refine ⟨_, rfl, ?_⟩
     have hS0_ := pw_cell_below hb_ hHeld.1
     have hS1_ := pw_cell_below hb_ hHeld.2.1
     have hS2_ := pw_cell_below hb_ hHeld.2.2.1
     have hS3_ := pw_cell_below hb_ hHeld.2.2.2.1
     have hS4_ := pw_cell_below hb_ hHeld.2.2.2.2
     have m0_ : Aside0 (w_8.heap[g2]? = some (.cells #[.string (⟨#[]⟩ : ByteArray), .string (⟨#[]⟩ : ByteArray), .string (⟨#[]⟩ : ByteArray), .slice none 0 0] 26 (0, 0))) := ⟨blk_below BKg2.out hb_⟩
     have m1_ : Aside0 (w_8.heap[g3]? = some (.cells #[.string (⟨#[68, 65, 86, 58]⟩ : ByteArray), .string (⟨#[112, 114, 111, 112, 101, 114, 116, 121, 117, 112, 100, 97, 116, 101]⟩ : ByteArray), .string (⟨#[]⟩ : ByteArray), .slice Au acc.length cu] 26 (0, 0))) := ⟨blk_below BKg3.out hb_⟩
     have m2_ : Aside0 (w_8.heap[g5]? = some (.cells #[.bool true, .string (rd_T42 l0 x).f1.f0, .string (rd_T42 l0 x).f1.f1, .string (rd_T42 l0 x).f1.f2] 42 (0, 0))) := ⟨blk_below BKg5.out hb_⟩
     have m3_ : Aside0 (w_8.heap[g6]? = some (.cells #[.string (rd_T42 l0 x).f1.f0, .string (rd_T42 l0 x).f1.f1, .string (⟨#[]⟩ : ByteArray), .slice none 0 0] 26 (0, 0))) := ⟨blk_below BKg6.out hb_⟩
     have m4_ : Aside0 (Kd.S kA 26 w_8 w.heap.size (fun k_ => (((k_ ≠ g2 /\ k_ ≠ g3) /\ k_ ≠ g5) /\ k_ ≠ g6)) (.slice Au acc.length cu) acc) := ⟨Kd.S_below HO.out hb_⟩
     have m5_ : Aside0 (Kd.S kA 26 w_8 w.heap.size (fun k_ => nb <= k_) (.slice (some ⟨b1, 0, none⟩) 1 1) [(⟨(rd_T42 l0 x).f1.f0, (rd_T42 l0 x).f1.f1, (⟨#[]⟩ : ByteArray), []⟩ : S26)]) := ⟨Kd.S_below HV0.out hb_⟩
     have m6_ : Aside0 (nb <= w_8.heap.size) := ⟨Nat.le_trans HNB.out (below_size hb_)⟩
     have m7_ : Aside0 (Below w.heap.size w w_8) := ⟨below_step HB.out hb_⟩
     have m8_ : Aside0 (Kd.S kA 26 w_8 w.heap.size (fun k_ => ((((k_ ≠ g2 /\ k_ ≠ g3) /\ k_ ≠ g5) /\ k_ ≠ g6)) /\ k_ < nb) (.slice Au acc.length cu) acc) := ⟨Kd.S_below HOn.out hb_⟩
     (try clear hxg2_0 hfg2_0 hxg2_1 hfg2_1 hxg2_2 hfg2_2 hxg2_3 hfg2_3 hxg3_0 hfg3_0 hxg3_1 hfg3_1 hxg3_2 hfg3_2 hxg3_3 hfg3_3 hxg5_0 hfg5_0 hxg5_1 hfg5_1 hxg5_2 hfg5_2 hxg5_3 hfg5_3 hxg6_0 hfg6_0 hxg6_1 hfg6_1 hxg6_2 hfg6_2 hxg6_3 hfg6_3)
     (try clear BKg2)
     (try clear BKg3)
     (try clear BKg5)
     (try clear BKg6)
     (try clear HO)
     (try clear HV0)
     (try clear HNB)
     (try clear HB)
     (try clear HOn)
     have BKg2 := m0_
     have BKg3 := m1_
     have BKg5 := m2_
     have BKg6 := m3_
     have HO := m4_
     have HV0 := m5_
     have HNB := m6_
     have HB := m7_
     have HOn := m8_
     clear m0_ m1_ m2_ m3_ m4_ m5_ m6_ m7_ m8_
     clear hb_
     have hxg2_0 : w_8.cell? ⟨g2, 0, none⟩ = some (.string (⟨#[]⟩ : ByteArray)) := (blk_cell BKg2.out 0).trans rfl
     have hfg2_0 := blk_frozen BKg2.out 0
     have hxg2_1 : w_8.cell? ⟨g2, 1, none⟩ = some (.string (⟨#[]⟩ : ByteArray)) := (blk_cell BKg2.out 1).trans rfl
     have hfg2_1 := blk_frozen BKg2.out 1
     have hxg2_2 : w_8.cell? ⟨g2, 2, none⟩ = some (.string (⟨#[]⟩ : ByteArray)) := (blk_cell BKg2.out 2).trans rfl
     have hfg2_2 := blk_frozen BKg2.out 2
     have hxg2_3 : w_8.cell? ⟨g2, 3, none⟩ = some (.slice none 0 0) := (blk_cell BKg2.out 3).trans rfl
     have hfg2_3 := blk_frozen BKg2.out 3
     have hxg3_0 : w_8.cell? ⟨g3, 0, none⟩ = some (.string (⟨#[68, 65, 86, 58]⟩ : ByteArray)) := (blk_cell BKg3.out 0).trans rfl
     have hfg3_0 := blk_frozen BKg3.out 0
     have hxg3_1 : w_8.cell? ⟨g3, 1, none⟩ = some (.string (⟨#[112, 114, 111, 112, 101, 114, 116, 121, 117, 112, 100, 97, 116, 101]⟩ : ByteArray)) := (blk_cell BKg3.out 1).trans rfl
     have hfg3_1 := blk_frozen BKg3.out 1
     have hxg3_2 : w_8.cell? ⟨g3, 2, none⟩ = some (.string (⟨#[]⟩ : ByteArray)) := (blk_cell BKg3.out 2).trans rfl
     have hfg3_2 := blk_frozen BKg3.out 2
     have hxg3_3 : w_8.cell? ⟨g3, 3, none⟩ = some (.slice Au acc.length cu) := (blk_cell BKg3.out 3).trans rfl
     have hfg3_3 := blk_frozen BKg3.out 3
     have hxg5_0 : w_8.cell? ⟨g5, 0, none⟩ = some (.bool true) := (blk_cell BKg5.out 0).trans rfl
     have hfg5_0 := blk_frozen BKg5.out 0
     have hxg5_1 : w_8.cell? ⟨g5, 1, none⟩ = some (.string (rd_T42 l0 x).f1.f0) := (blk_cell BKg5.out 1).trans rfl
     have hfg5_1 := blk_frozen BKg5.out 1
     have hxg5_2 : w_8.cell? ⟨g5, 2, none⟩ = some (.string (rd_T42 l0 x).f1.f1) := (blk_cell BKg5.out 2).trans rfl
     have hfg5_2 := blk_frozen BKg5.out 2
     have hxg5_3 : w_8.cell? ⟨g5, 3, none⟩ = some (.string (rd_T42 l0 x).f1.f2) := (blk_cell BKg5.out 3).trans rfl
     have hfg5_3 := blk_frozen BKg5.out 3
     have hxg6_0 : w_8.cell? ⟨g6, 0, none⟩ = some (.string (rd_T42 l0 x).f1.f0) := (blk_cell BKg6.out 0).trans rfl
     have hfg6_0 := blk_frozen BKg6.out 0
     have hxg6_1 : w_8.cell? ⟨g6, 1, none⟩ = some (.string (rd_T42 l0 x).f1.f1) := (blk_cell BKg6.out 1).trans rfl
     have hfg6_1 := blk_frozen BKg6.out 1
     have hxg6_2 : w_8.cell? ⟨g6, 2, none⟩ = some (.string (⟨#[]⟩ : ByteArray)) := (blk_cell BKg6.out 2).trans rfl
     have hfg6_2 := blk_frozen BKg6.out 2
     have hxg6_3 : w_8.cell? ⟨g6, 3, none⟩ = some (.slice none 0 0) := (blk_cell BKg6.out 3).trans rfl
     have hfg6_3 := blk_frozen BKg6.out 3
     refine hK.out _ _ ⟨hS0_, hS1_, hS2_, hS3_, hS4_⟩ (fun hHeld => ?_)
     clear hK K
     (try clear hS0_ hS1_ hS2_ hS3_ hS4_)
     refine no_ (some 33) ?_
     refine on_ (i := 6) (N := some 34) (fun K hK => ?_)
     refine lit1_step kA w.heap.size 26 (by rfl) (N := 34) rfl (p := (⟨(⟨#[68, 65, 86, 58]⟩ : ByteArray), (⟨#[112, 114, 111, 112]⟩ : ByteArray), (⟨#[]⟩ : ByteArray), [(⟨(rd_T42 l0 x).f1.f0, (rd_T42 l0 x).f1.f1, (⟨#[]⟩ : ByteArray), []⟩ : S26)]⟩ : S26)) (cs := [.string (⟨#[68, 65, 86, 58]⟩ : ByteArray), .string (⟨#[112, 114, 111, 112]⟩ : ByteArray), .string (⟨#[]⟩ : ByteArray), .slice (some ⟨b1, 0, none⟩) 1 1]) (ok := fun k_ => nb <= k_) (okp := fun k_ => nb <= k_) ?hr ?hp (fun _ h_ => h_) ?hf ?hs ?_
     (case hr => first | (go_simp; done) | (go_simp; rfl))
     (case hp => exact kA_mkM _ _ _ (⟨(⟨#[68, 65, 86, 58]⟩ : ByteArray), (⟨#[112, 114, 111, 112]⟩ : ByteArray), (⟨#[]⟩ : ByteArray), [(⟨(rd_T42 l0 x).f1.f0, (rd_T42 l0 x).f1.f1, (⟨#[]⟩ : ByteArray), []⟩ : S26)]⟩ : S26) HV0.out)
     (case hf => exact HNB.out)
     (case hs => exact below_size HB.out)
     intro b2 w_9 hg_ hv_ hb_
     have hS0_ := pw_cell_below hb_ hHeld.1
     have hS1_ := pw_cell_below hb_ hHeld.2.1
     have hS2_ := pw_cell_below hb_ hHeld.2.2.1
     have hS3_ := pw_cell_below hb_ hHeld.2.2.2.1
     have hS4_ := pw_cell_below hb_ hHeld.2.2.2.2
     have m0_ : Aside0 (w_9.heap[g2]? = some (.cells #[.string (⟨#[]⟩ : ByteArray), .string (⟨#[]⟩ : ByteArray), .string (⟨#[]⟩ : ByteArray), .slice none 0 0] 26 (0, 0))) := ⟨blk_below BKg2.out hb_⟩
     have m1_ : Aside0 (w_9.heap[g3]? = some (.cells #[.string (⟨#[68, 65, 86, 58]⟩ : ByteArray), .string (⟨#[112, 114, 111, 112, 101, 114, 116, 121, 117, 112, 100, 97, 116, 101]⟩ : ByteArray), .string (⟨#[]⟩ : ByteArray), .slice Au acc.length cu] 26 (0, 0))) := ⟨blk_below BKg3.out hb_⟩
     have m2_ : Aside0 (w_9.heap[g5]? = some (.cells #[.bool true, .string (rd_T42 l0 x).f1.f0, .string (rd_T42 l0 x).f1.f1, .string (rd_T42 l0 x).f1.f2] 42 (0, 0))) := ⟨blk_below BKg5.out hb_⟩
     have m3_ : Aside0 (w_9.heap[g6]? = some (.cells #[.string (rd_T42 l0 x).f1.f0, .string (rd_T42 l0 x).f1.f1, .string (⟨#[]⟩ : ByteArray), .slice none 0 0] 26 (0, 0))) := ⟨blk_below BKg6.out hb_⟩
     have m4_ : Aside0 (Kd.S kA 26 w_9 w.heap.size (fun k_ => (((k_ ≠ g2 /\ k_ ≠ g3) /\ k_ ≠ g5) /\ k_ ≠ g6)) (.slice Au acc.length cu) acc) := ⟨Kd.S_below HO.out hb_⟩
     have m5_ : Aside0 (Kd.S kA 26 w_9 w.heap.size (fun k_ => nb <= k_) (.slice (some ⟨b1, 0, none⟩) 1 1) [(⟨(rd_T42 l0 x).f1.f0, (rd_T42 l0 x).f1.f1, (⟨#[]⟩ : ByteArray), []⟩ : S26)]) := ⟨Kd.S_below HV0.out hb_⟩
     have m6_ : Aside0 (nb <= w_9.heap.size) := ⟨Nat.le_trans HNB.out (below_size hb_)⟩
     have m7_ : Aside0 (Below w.heap.size w w_9) := ⟨below_step HB.out hb_⟩
     have m8_ : Aside0 (Kd.S kA 26 w_9 w.heap.size (fun k_ => ((((k_ ≠ g2 /\ k_ ≠ g3) /\ k_ ≠ g5) /\ k_ ≠ g6)) /\ k_ < nb) (.slice Au acc.length cu) acc) := ⟨Kd.S_below HOn.out hb_⟩
     have m9_ : Aside0 (Kd.S kA 26 w_9 w.heap.size (fun k_ => nb <= k_) (.slice (some ⟨b2, 0, none⟩) 1 1) [(⟨(⟨#[68, 65, 86, 58]⟩ : ByteArray), (⟨#[112, 114, 111, 112]⟩ : ByteArray), (⟨#[]⟩ : ByteArray), [(⟨(rd_T42 l0 x).f1.f0, (rd_T42 l0 x).f1.f1, (⟨#[]⟩ : ByteArray), []⟩ : S26)]⟩ : S26)]) := ⟨hv_⟩
     (try clear hxg2_0 hfg2_0 hxg2_1 hfg2_1 hxg2_2 hfg2_2 hxg2_3 hfg2_3 hxg3_0 hfg3_0 hxg3_1 hfg3_1 hxg3_2 hfg3_2 hxg3_3 hfg3_3 hxg5_0 hfg5_0 hxg5_1 hfg5_1 hxg5_2 hfg5_2 hxg5_3 hfg5_3 hxg6_0 hfg6_0 hxg6_1 hfg6_1 hxg6_2 hfg6_2 hxg6_3 hfg6_3)
     (try clear BKg2)
     (try clear BKg3)
     (try clear BKg5)
     (try clear BKg6)
     (try clear HO)
     (try clear HV0)
     (try clear HNB)
     (try clear HB)
     (try clear HOn)
     (try clear HV1)
     have BKg2 := m0_
     have BKg3 := m1_
     have BKg5 := m2_
     have BKg6 := m3_
     have HO := m4_
     have HV0 := m5_
     have HNB := m6_
     have HB := m7_
     have HOn := m8_
     have HV1 := m9_
     clear m0_ m1_ m2_ m3_ m4_ m5_ m6_ m7_ m8_ m9_
     clear hb_ hv_ hg_
     have hxg2_0 : w_9.cell? ⟨g2, 0, none⟩ = some (.string (⟨#[]⟩ : ByteArray)) := (blk_cell BKg2.out 0).trans rfl
     have hfg2_0 := blk_frozen BKg2.out 0
     have hxg2_1 : w_9.cell? ⟨g2, 1, none⟩ = some (.string (⟨#[]⟩ : ByteArray)) := (blk_cell BKg2.out 1).trans rfl
     have hfg2_1 := blk_frozen BKg2.out 1
     have hxg2_2 : w_9.cell? ⟨g2, 2, none⟩ = some (.string (⟨#[]⟩ : ByteArray)) := (blk_cell BKg2.out 2).trans rfl
     have hfg2_2 := blk_frozen BKg2.out 2
     have hxg2_3 : w_9.cell? ⟨g2, 3, none⟩ = some (.slice none 0 0) := (blk_cell BKg2.out 3).trans rfl
     have hfg2_3 := blk_frozen BKg2.out 3
     have hxg3_0 : w_9.cell? ⟨g3, 0, none⟩ = some (.string (⟨#[68, 65, 86, 58]⟩ : ByteArray)) := (blk_cell BKg3.out 0).trans rfl
     have hfg3_0 := blk_frozen BKg3.out 0
     have hxg3_1 : w_9.cell? ⟨g3, 1, none⟩ = some (.string (⟨#[112, 114, 111, 112, 101, 114, 116, 121, 117, 112, 100, 97, 116, 101]⟩ : ByteArray)) := (blk_cell BKg3.out 1).trans rfl
     have hfg3_1 := blk_frozen BKg3.out 1
     have hxg3_2 : w_9.cell? ⟨g3, 2, none⟩ = some (.string (⟨#[]⟩ : ByteArray)) := (blk_cell BKg3.out 2).trans rfl
     have hfg3_2 := blk_frozen BKg3.out 2
     have hxg3_3 : w_9.cell? ⟨g3, 3, none⟩ = some (.slice Au acc.length cu) := (blk_cell BKg3.out 3).trans rfl
     have hfg3_3 := blk_frozen BKg3.out 3
     have hxg5_0 : w_9.cell? ⟨g5, 0, none⟩ = some (.bool true) := (blk_cell BKg5.out 0).trans rfl
     have hfg5_0 := blk_frozen BKg5.out 0
     have hxg5_1 : w_9.cell? ⟨g5, 1, none⟩ = some (.string (rd_T42 l0 x).f1.f0) := (blk_cell BKg5.out 1).trans rfl
     have hfg5_1 := blk_frozen BKg5.out 1
     have hxg5_2 : w_9.cell? ⟨g5, 2, none⟩ = some (.string (rd_T42 l0 x).f1.f1) := (blk_cell BKg5.out 2).trans rfl
     have hfg5_2 := blk_frozen BKg5.out 2
     have hxg5_3 : w_9.cell? ⟨g5, 3, none⟩ = some (.string (rd_T42 l0 x).f1.f2) := (blk_cell BKg5.out 3).trans rfl
     have hfg5_3 := blk_frozen BKg5.out 3
     have hxg6_0 : w_9.cell? ⟨g6, 0, none⟩ = some (.string (rd_T42 l0 x).f1.f0) := (blk_cell BKg6.out 0).trans rfl
     have hfg6_0 := blk_frozen BKg6.out 0
     have hxg6_1 : w_9.cell? ⟨g6, 1, none⟩ = some (.string (rd_T42 l0 x).f1.f1) := (blk_cell BKg6.out 1).trans rfl
     have hfg6_1 := blk_frozen BKg6.out 1
     have hxg6_2 : w_9.cell? ⟨g6, 2, none⟩ = some (.string (⟨#[]⟩ : ByteArray)) := (blk_cell BKg6.out 2).trans rfl
     have hfg6_2 := blk_frozen BKg6.out 2
     have hxg6_3 : w_9.cell? ⟨g6, 3, none⟩ = some (.slice none 0 0) := (blk_cell BKg6.out 3).trans rfl
     have hfg6_3 := blk_frozen BKg6.out 3
     refine hK.out _ _ ⟨hS0_, hS1_, hS2_, hS3_, hS4_⟩ (fun hHeld => ?_)
     clear hK K
     (try clear hS0_ hS1_ hS2_ hS3_ hS4_)
     refine no_ (some 34) ?_
     refine on_ (i := 7) (N := some 35) (fun K hK => ?_)
     refine goes_ Try.func15 (by kernel_rfl) rfl #[.string (⟨#[114, 101, 109, 111, 118, 101]⟩ : ByteArray), .slice (some ⟨b2, 0, none⟩) 1 1] (by rfl) rfl rfl (by simp only [List.map_toArray, List.map_cons, List.map_nil]; rfl) ?_
     with_reducible refine (dav_calls (⟨#[114, 101, 109, 111, 118, 101]⟩ : ByteArray) (some ⟨b2, 0, none⟩) 1 1 _).mono ?_
     rintro e w_10 ⟨rfl, hb_⟩
     refine ⟨_, rfl, ?_⟩
     have hS0_ := pw_cell_below hb_ hHeld.1
     have hS1_ := pw_cell_below hb_ hHeld.2.1
     have hS2_ := pw_cell_below hb_ hHeld.2.2.1
     have hS3_ := pw_cell_below hb_ hHeld.2.2.2.1
     have hS4_ := pw_cell_below hb_ hHeld.2.2.2.2
     have m0_ : Aside0 (w_10.heap[g2]? = some (.cells #[.string (⟨#[]⟩ : ByteArray), .string (⟨#[]⟩ : ByteArray), .string (⟨#[]⟩ : ByteArray), .slice none 0 0] 26 (0, 0))) := ⟨blk_below BKg2.out hb_⟩
     have m1_ : Aside0 (w_10.heap[g3]? = some (.cells #[.string (⟨#[68, 65, 86, 58]⟩ : ByteArray), .string (⟨#[112, 114, 111, 112, 101, 114, 116, 121, 117, 112, 100, 97, 116, 101]⟩ : ByteArray), .string (⟨#[]⟩ : ByteArray), .slice Au acc.length cu] 26 (0, 0))) := ⟨blk_below BKg3.out hb_⟩
     have m2_ : Aside0 (w_10.heap[g5]? = some (.cells #[.bool true, .string (rd_T42 l0 x).f1.f0, .string (rd_T42 l0 x).f1.f1, .string (rd_T42 l0 x).f1.f2] 42 (0, 0))) := ⟨blk_below BKg5.out hb_⟩
     have m3_ : Aside0 (w_10.heap[g6]? = some (.cells #[.string (rd_T42 l0 x).f1.f0, .string (rd_T42 l0 x).f1.f1, .string (⟨#[]⟩ : ByteArray), .slice none 0 0] 26 (0, 0))) := ⟨blk_below BKg6.out hb_⟩
     have m4_ : Aside0 (Kd.S kA 26 w_10 w.heap.size (fun k_ => (((k_ ≠ g2 /\ k_ ≠ g3) /\ k_ ≠ g5) /\ k_ ≠ g6)) (.slice Au acc.length cu) acc) := ⟨Kd.S_below HO.out hb_⟩
     have m5_ : Aside0 (Kd.S kA 26 w_10 w.heap.size (fun k_ => nb <= k_) (.slice (some ⟨b1, 0, none⟩) 1 1) [(⟨(rd_T42 l0 x).f1.f0, (rd_T42 l0 x).f1.f1, (⟨#[]⟩ : ByteArray), []⟩ : S26)]) := ⟨Kd.S_below HV0.out hb_⟩
     have m6_ : Aside0 (Kd.S kA 26 w_10 w.heap.size (fun k_ => nb <= k_) (.slice (some ⟨b2, 0, none⟩) 1 1) [(⟨(⟨#[68, 65, 86, 58]⟩ : ByteArray), (⟨#[112, 114, 111, 112]⟩ : ByteArray), (⟨#[]⟩ : ByteArray), [(⟨(rd_T42 l0 x).f1.f0, (rd_T42 l0 x).f1.f1, (⟨#[]⟩ : ByteArray), []⟩ : S26)]⟩ : S26)]) := ⟨Kd.S_below HV1.out hb_⟩
     have m7_ : Aside0 (nb <= w_10.heap.size) := ⟨Nat.le_trans HNB.out (below_size hb_)⟩
     have m8_ : Aside0 (Below w.heap.size w w_10) := ⟨below_step HB.out hb_⟩
     have m9_ : Aside0 (Kd.S kA 26 w_10 w.heap.size (fun k_ => ((((k_ ≠ g2 /\ k_ ≠ g3) /\ k_ ≠ g5) /\ k_ ≠ g6)) /\ k_ < nb) (.slice Au acc.length cu) acc) := ⟨Kd.S_below HOn.out hb_⟩
     (try clear hxg2_0 hfg2_0 hxg2_1 hfg2_1 hxg2_2 hfg2_2 hxg2_3 hfg2_3 hxg3_0 hfg3_0 hxg3_1 hfg3_1 hxg3_2 hfg3_2 hxg3_3 hfg3_3 hxg5_0 hfg5_0 hxg5_1 hfg5_1 hxg5_2 hfg5_2 hxg5_3 hfg5_3 hxg6_0 hfg6_0 hxg6_1 hfg6_1 hxg6_2 hfg6_2 hxg6_3 hfg6_3)
     (try clear BKg2)
     (try clear BKg3)
     (try clear BKg5)
     (try clear BKg6)
     (try clear HO)
     (try clear HV0)
     (try clear HV1)
     (try clear HNB)
     (try clear HB)
     (try clear HOn)
     have BKg2 := m0_
     have BKg3 := m1_
     have BKg5 := m2_
     have BKg6 := m3_
     have HO := m4_
     have HV0 := m5_
     have HV1 := m6_
     have HNB := m7_
     have HB := m8_
     have HOn := m9_
     clear m0_ m1_ m2_ m3_ m4_ m5_ m6_ m7_ m8_ m9_
     clear hb_
     have hxg2_0 : w_10.cell? ⟨g2, 0, none⟩ = some (.string (⟨#[]⟩ : ByteArray)) := (blk_cell BKg2.out 0).trans rfl
     have hfg2_0 := blk_frozen BKg2.out 0
     have hxg2_1 : w_10.cell? ⟨g2, 1, none⟩ = some (.string (⟨#[]⟩ : ByteArray)) := (blk_cell BKg2.out 1).trans rfl
     have hfg2_1 := blk_frozen BKg2.out 1
     have hxg2_2 : w_10.cell? ⟨g2, 2, none⟩ = some (.string (⟨#[]⟩ : ByteArray)) := (blk_cell BKg2.out 2).trans rfl
     have hfg2_2 := blk_frozen BKg2.out 2
     have hxg2_3 : w_10.cell? ⟨g2, 3, none⟩ = some (.slice none 0 0) := (blk_cell BKg2.out 3).trans rfl
     have hfg2_3 := blk_frozen BKg2.out 3
     have hxg3_0 : w_10.cell? ⟨g3, 0, none⟩ = some (.string (⟨#[68, 65, 86, 58]⟩ : ByteArray)) := (blk_cell BKg3.out 0).trans rfl
     have hfg3_0 := blk_frozen BKg3.out 0
     have hxg3_1 : w_10.cell? ⟨g3, 1, none⟩ = some (.string (⟨#[112, 114, 111, 112, 101, 114, 116, 121, 117, 112, 100, 97, 116, 101]⟩ : ByteArray)) := (blk_cell BKg3.out 1).trans rfl
     have hfg3_1 := blk_frozen BKg3.out 1
     have hxg3_2 : w_10.cell? ⟨g3, 2, none⟩ = some (.string (⟨#[]⟩ : ByteArray)) := (blk_cell BKg3.out 2).trans rfl
     have hfg3_2 := blk_frozen BKg3.out 2
     have hxg3_3 : w_10.cell? ⟨g3, 3, none⟩ = some (.slice Au acc.length cu) := (blk_cell BKg3.out 3).trans rfl
     have hfg3_3 := blk_frozen BKg3.out 3
     have hxg5_0 : w_10.cell? ⟨g5, 0, none⟩ = some (.bool true) := (blk_cell BKg5.out 0).trans rfl
     have hfg5_0 := blk_frozen BKg5.out 0
     have hxg5_1 : w_10.cell? ⟨g5, 1, none⟩ = some (.string (rd_T42 l0 x).f1.f0) := (blk_cell BKg5.out 1).trans rfl
     have hfg5_1 := blk_frozen BKg5.out 1
     have hxg5_2 : w_10.cell? ⟨g5, 2, none⟩ = some (.string (rd_T42 l0 x).f1.f1) := (blk_cell BKg5.out 2).trans rfl
     have hfg5_2 := blk_frozen BKg5.out 2
     have hxg5_3 : w_10.cell? ⟨g5, 3, none⟩ = some (.string (rd_T42 l0 x).f1.f2) := (blk_cell BKg5.out 3).trans rfl
     have hfg5_3 := blk_frozen BKg5.out 3
     have hxg6_0 : w_10.cell? ⟨g6, 0, none⟩ = some (.string (rd_T42 l0 x).f1.f0) := (blk_cell BKg6.out 0).trans rfl
     have hfg6_0 := blk_frozen BKg6.out 0
     have hxg6_1 : w_10.cell? ⟨g6, 1, none⟩ = some (.string (rd_T42 l0 x).f1.f1) := (blk_cell BKg6.out 1).trans rfl
     have hfg6_1 := blk_frozen BKg6.out 1
     have hxg6_2 : w_10.cell? ⟨g6, 2, none⟩ = some (.string (⟨#[]⟩ : ByteArray)) := (blk_cell BKg6.out 2).trans rfl
     have hfg6_2 := blk_frozen BKg6.out 2
     have hxg6_3 : w_10.cell? ⟨g6, 3, none⟩ = some (.slice none 0 0) := (blk_cell BKg6.out 3).trans rfl
     have hfg6_3 := blk_frozen BKg6.out 3
     refine hK.out _ _ ⟨hS0_, hS1_, hS2_, hS3_, hS4_⟩ (fun hHeld => ?_)
     clear hK K
     (try clear hS0_ hS1_ hS2_ hS3_ hS4_)
     refine no_ (some 35) ?_
     refine on_ (i := 8) (N := some 36) (fun K hK => ?_)
     refine value_ (w1 := ?_) (v := ?_) (by rfl) rfl ?_ ?_
     rotate_left 2
     . go_simp
       constructor
       . rfl
       . rfl
     refine hK.out _ _ ⟨(World.cell?_alloc_lt _ _ _ (World.block_lt_of_cell? _ _ (hHeld.1))).trans (hHeld.1), (World.cell?_alloc_lt _ _ _ (World.block_lt_of_cell? _ _ (hHeld.2.1))).trans (hHeld.2.1), (World.cell?_alloc_lt _ _ _ (World.block_lt_of_cell? _ _ (hHeld.2.2.1))).trans (hHeld.2.2.1), (World.cell?_alloc_lt _ _ _ (World.block_lt_of_cell? _ _ (hHeld.2.2.2.1))).trans (hHeld.2.2.2.1), (World.cell?_alloc_lt _ _ _ (World.block_lt_of_cell? _ _ (hHeld.2.2.2.2))).trans (hHeld.2.2.2.2)⟩ (fun hHeld => ?_)
     clear hK K
     (try clear hS0_ hS1_ hS2_ hS3_ hS4_)
     refine no_ (some 36) ?_
     refine last_ (i := 9) (N := some 37) #[true, true, true, true, true, true, true, true, true, true, false, false] rfl rfl (one_of HT_.out (by kernel_rfl)) (by decide) (fun K hK => ?_)
     refine Kd.S_append_step kA (w0 := w) w.heap.size (by rfl) (.tmp 29) (.tmp 36) 24 26 (.agg #[(.string ⟨#[]⟩), (.string ⟨#[]⟩), (.string ⟨#[]⟩), (.slice none 0 0)]) 72 rfl Try.underlying24 info26 rfl (by decide) (by omega) (.slice Au acc.length cu) acc (⟨(⟨#[68, 65, 86, 58]⟩ : ByteArray), (⟨#[114, 101, 109, 111, 118, 101]⟩ : ByteArray), (⟨#[]⟩ : ByteArray), [(⟨(⟨#[68, 65, 86, 58]⟩ : ByteArray), (⟨#[112, 114, 111, 112]⟩ : ByteArray), (⟨#[]⟩ : ByteArray), [(⟨(rd_T42 l0 x).f1.f0, (rd_T42 l0 x).f1.f1, (⟨#[]⟩ : ByteArray), []⟩ : S26)]⟩ : S26)]⟩ : S26) [.string (⟨#[68, 65, 86, 58]⟩ : ByteArray), .string (⟨#[114, 101, 109, 111, 118, 101]⟩ : ByteArray), .string (⟨#[]⟩ : ByteArray), .slice (some ⟨b2, 0, none⟩) 1 1] (fun k_ => (((k_ ≠ g2 /\ k_ ≠ g3) /\ k_ ≠ g5) /\ k_ ≠ g6)) (fun k_ => nb <= k_) rfl rfl ?aP ?aK ?aF ?aO ?aB ?aS ?aL ?_
     (case aP => exact kA_mkM _ _ _ (⟨(⟨#[68, 65, 86, 58]⟩ : ByteArray), (⟨#[114, 101, 109, 111, 118, 101]⟩ : ByteArray), (⟨#[]⟩ : ByteArray), [(⟨(⟨#[68, 65, 86, 58]⟩ : ByteArray), (⟨#[112, 114, 111, 112]⟩ : ByteArray), (⟨#[]⟩ : ByteArray), [(⟨(rd_T42 l0 x).f1.f0, (rd_T42 l0 x).f1.f1, (⟨#[]⟩ : ByteArray), []⟩ : S26)]⟩ : S26)]⟩ : S26) HV1.out)
     (case aK => exact fun k_ h_ => ⟨⟨⟨⟨(by have := HLg2.out; have : nb <= k_ := h_; omega), (by have := HLg3.out; have : nb <= k_ := h_; omega)⟩, (by have := HLg5.out; have : nb <= k_ := h_; omega)⟩, (by have := HLg6.out; have : nb <= k_ := h_; omega)⟩, HU.out k_ h_⟩)
     (case aF => exact fun k_ h_ => ⟨⟨⟨(by have := blk_lt BKg2.out; have := h_; omega), (by have := blk_lt BKg3.out; have := h_; omega)⟩, (by have := blk_lt BKg5.out; have := h_; omega)⟩, (by have := blk_lt BKg6.out; have := h_; omega)⟩)
     (case aO => exact Kd.S_mono (Kd.S_bound HOn.out) (fun k_ h_ => ⟨h_.1.1, fun h2_ => absurd h_.1.2 (Nat.not_lt.2 h2_)⟩))
     (case aB => exact HB.out)
     (case aS => exact below_size HB.out)
     (case aL => have := LM.out; omega)
     intro v1 w_11 ho_ hbb_ hg_ hat_
     rw [← Ny.out] at ho_
     obtain ⟨A1_, c1_, rfl⟩ := Kd.S_slice ho_
     have m0_ : Aside0 (w_11.heap[g2]? = some (.cells #[.string (⟨#[]⟩ : ByteArray), .string (⟨#[]⟩ : ByteArray), .string (⟨#[]⟩ : ByteArray), .slice none 0 0] 26 (0, 0))) := ⟨blk_grown BKg2.out hg_ (Kd.S_away HO.out (fun _ hk => hk.1.1.1))⟩
     have m1_ : Aside0 (w_11.heap[g3]? = some (.cells #[.string (⟨#[68, 65, 86, 58]⟩ : ByteArray), .string (⟨#[112, 114, 111, 112, 101, 114, 116, 121, 117, 112, 100, 97, 116, 101]⟩ : ByteArray), .string (⟨#[]⟩ : ByteArray), .slice Au acc.length cu] 26 (0, 0))) := ⟨blk_grown BKg3.out hg_ (Kd.S_away HO.out (fun _ hk => hk.1.1.2))⟩
     have m2_ : Aside0 (w_11.heap[g5]? = some (.cells #[.bool true, .string (rd_T42 l0 x).f1.f0, .string (rd_T42 l0 x).f1.f1, .string (rd_T42 l0 x).f1.f2] 42 (0, 0))) := ⟨blk_grown BKg5.out hg_ (Kd.S_away HO.out (fun _ hk => hk.1.2))⟩
     have m3_ : Aside0 (w_11.heap[g6]? = some (.cells #[.string (rd_T42 l0 x).f1.f0, .string (rd_T42 l0 x).f1.f1, .string (⟨#[]⟩ : ByteArray), .slice none 0 0] 26 (0, 0))) := ⟨blk_grown BKg6.out hg_ (Kd.S_away HO.out (fun _ hk => hk.2))⟩
     have m4_ : Aside0 (Kd.S kA 26 w_11 w.heap.size (fun k_ => (((k_ ≠ g2 /\ k_ ≠ g3) /\ k_ ≠ g5) /\ k_ ≠ g6)) (.slice A1_ y.length c1_) y) := ⟨ho_⟩
     have m5_ : Aside0 (Below w.heap.size w w_11) := ⟨hbb_⟩
     (try clear hxg2_0 hfg2_0 hxg2_1 hfg2_1 hxg2_2 hfg2_2 hxg2_3 hfg2_3 hxg3_0 hfg3_0 hxg3_1 hfg3_1 hxg3_2 hfg3_2 hxg3_3 hfg3_3 hxg5_0 hfg5_0 hxg5_1 hfg5_1 hxg5_2 hfg5_2 hxg5_3 hfg5_3 hxg6_0 hfg6_0 hxg6_1 hfg6_1 hxg6_2 hfg6_2 hxg6_3 hfg6_3)
     (try clear BKg2)
     (try clear BKg3)
     (try clear BKg5)
     (try clear BKg6)
     (try clear HO)
     (try clear HB)
     have BKg2 := m0_
     have BKg3 := m1_
     have BKg5 := m2_
     have BKg6 := m3_
     have HO := m4_
     have HB := m5_
     clear m0_ m1_ m2_ m3_ m4_ m5_
     clear ho_ hbb_ hg_ hat_
     have hxg2_0 : w_11.cell? ⟨g2, 0, none⟩ = some (.string (⟨#[]⟩ : ByteArray)) := (blk_cell BKg2.out 0).trans rfl
     have hfg2_0 := blk_frozen BKg2.out 0
     have hxg2_1 : w_11.cell? ⟨g2, 1, none⟩ = some (.string (⟨#[]⟩ : ByteArray)) := (blk_cell BKg2.out 1).trans rfl
     have hfg2_1 := blk_frozen BKg2.out 1
     have hxg2_2 : w_11.cell? ⟨g2, 2, none⟩ = some (.string (⟨#[]⟩ : ByteArray)) := (blk_cell BKg2.out 2).trans rfl
     have hfg2_2 := blk_frozen BKg2.out 2
     have hxg2_3 : w_11.cell? ⟨g2, 3, none⟩ = some (.slice none 0 0) := (blk_cell BKg2.out 3).trans rfl
     have hfg2_3 := blk_frozen BKg2.out 3
     have hxg3_0 : w_11.cell? ⟨g3, 0, none⟩ = some (.string (⟨#[68, 65, 86, 58]⟩ : ByteArray)) := (blk_cell BKg3.out 0).trans rfl
     have hfg3_0 := blk_frozen BKg3.out 0
     have hxg3_1 : w_11.cell? ⟨g3, 1, none⟩ = some (.string (⟨#[112, 114, 111, 112, 101, 114, 116, 121, 117, 112, 100, 97, 116, 101]⟩ : ByteArray)) := (blk_cell BKg3.out 1).trans rfl
     have hfg3_1 := blk_frozen BKg3.out 1
     have hxg3_2 : w_11.cell? ⟨g3, 2, none⟩ = some (.string (⟨#[]⟩ : ByteArray)) := (blk_cell BKg3.out 2).trans rfl
     have hfg3_2 := blk_frozen BKg3.out 2
     have hxg3_3 : w_11.cell? ⟨g3, 3, none⟩ = some (.slice Au acc.length cu) := (blk_cell BKg3.out 3).trans rfl
     have hfg3_3 := blk_frozen BKg3.out 3
     have hxg5_0 : w_11.cell? ⟨g5, 0, none⟩ = some (.bool true) := (blk_cell BKg5.out 0).trans rfl
     have hfg5_0 := blk_frozen BKg5.out 0
     have hxg5_1 : w_11.cell? ⟨g5, 1, none⟩ = some (.string (rd_T42 l0 x).f1.f0) := (blk_cell BKg5.out 1).trans rfl
     have hfg5_1 := blk_frozen BKg5.out 1
     have hxg5_2 : w_11.cell? ⟨g5, 2, none⟩ = some (.string (rd_T42 l0 x).f1.f1) := (blk_cell BKg5.out 2).trans rfl
     have hfg5_2 := blk_frozen BKg5.out 2
     have hxg5_3 : w_11.cell? ⟨g5, 3, none⟩ = some (.string (rd_T42 l0 x).f1.f2) := (blk_cell BKg5.out 3).trans rfl
     have hfg5_3 := blk_frozen BKg5.out 3
     have hxg6_0 : w_11.cell? ⟨g6, 0, none⟩ = some (.string (rd_T42 l0 x).f1.f0) := (blk_cell BKg6.out 0).trans rfl
     have hfg6_0 := blk_frozen BKg6.out 0
     have hxg6_1 : w_11.cell? ⟨g6, 1, none⟩ = some (.string (rd_T42 l0 x).f1.f1) := (blk_cell BKg6.out 1).trans rfl
     have hfg6_1 := blk_frozen BKg6.out 1
     have hxg6_2 : w_11.cell? ⟨g6, 2, none⟩ = some (.string (⟨#[]⟩ : ByteArray)) := (blk_cell BKg6.out 2).trans rfl
     have hfg6_2 := blk_frozen BKg6.out 2
     have hxg6_3 : w_11.cell? ⟨g6, 3, none⟩ = some (.slice none 0 0) := (blk_cell BKg6.out 3).trans rfl
     have hfg6_3 := blk_frozen BKg6.out 3
     refine hK.out _ _ ?_
     clear hK K
     (try clear hS0_ hS1_ hS2_ hS3_ hS4_)
     refine no_ (some 37) ?_
     refine pu_ (i := 10) (N := some 38) ?_
     refine last_ (i := 11) (N := none) #[true, true, true, true, true, true, true, true, true, true, true, true] rfl rfl (one_of HT_.out (by kernel_rfl)) (by decide) (fun K hK => ?_)
     refine skip_ (w1 := ?_) (by rfl) rfl ?_ ?_
     rotate_left
     . go_simp
       rfl
     refine hK.out _ _ ?_
     clear hK K
     (try clear hS0_ hS1_ hS2_ hS3_ hS4_)
     refine done_ (done_of HT_.out (by kernel_rfl)) ?_
     (try clear hHeld)
     try go_wp2
     go_roundg k1
     case measure => have := HK1.out; omega
     case rel => exact ⟨wrap64 (x + 1), y, (.slice A1_ y.length c1_), rfl, H', ⟨by have := HK1.out; omega⟩, ⟨Kd.S_far (p := ⟨g3, 3, none⟩) (Kd.S_mono HO.out (fun _ hk => ⟨hk.1.1.1, hk.1.1.2⟩)) (fun _ hk => hk.2) _⟩, ⟨blk_far BKg2.out hn_g2_g3 _⟩, ⟨blk_put (cs := #[.string (⟨#[68, 65, 86, 58]⟩ : ByteArray), .string (⟨#[112, 114, 111, 112, 101, 114, 116, 121, 117, 112, 100, 97, 116, 101]⟩ : ByteArray), .string (⟨#[]⟩ : ByteArray), .slice Au acc.length cu]) BKg3.out 3 _ rfl⟩, ⟨below_set HB.out GEg3.out⟩⟩
def spec_SetsNode.T10 : Bool × List (List Nat × List Nat) := (true, [([], []), ([], []), ([0, 1], [0, 1]), ([2], [2]), ([3], [3]), ([4], [4]), ([], []), ([], []), ([6, 7], [6, 7]), ([8], [8]), ([9], [9]), ([10], [10]), ([], []), ([5, 11, 12], [5, 11, 12]), ([], []), ([14, 13, 0, 1, 2, 3, 4, 5, 6, 7, 8, 9, 10, 11, 12, 13, 14], [13, 14])])
def spec_SetsNode.B10 : List Nat := [0, 0, 3, 7, 15, 31, 0, 0, 192, 448, 960, 1984, 0, 8191, 0, 32767]
theorem spec_SetsNode.tab10 : rtab .any (opsOf Try.f5 10) = spec_SetsNode.T10 := by kernel_rfl
theorem spec_SetsNode.bits10 : waitsOk spec_SetsNode.T10.2 spec_SetsNode.B10 = true := by kernel_rfl
set_option maxHeartbeats 32000000 in
set_option maxRecDepth 100000 in
theorem spec_SetsNode.calls (k : Nat) (A0 : Option Addr) (c0 : Nat) (l0 : List (S42)) (r1 : ByteArray) (r2 : ByteArray) (r3 : ByteArray) (r4 : List (S26)) (w : World) (hr0 : Kd.C k42 w A0 l0.length l0) (hc0 : l0.length <= c0) (h : spec_SetsNode.f k l0 = some (r1, r2, r3, r4)) :
 Calls Try.prog 5 #[.slice A0 l0.length c0] w fun e w' => ∃ v3_ : Value, e = .returned (.agg #[.string r1, .string r2, .string r3, v3_]) /\ Kd.S kA 26 w' w.heap.size (fun _ => True) v3_ r4 /\ Below w.heap.size w w' := by
 obtain ⟨r_, hA_, h2_⟩ := Option.bind_eq_some_iff.mp h
 simp only [Option.some.injEq, Prod.mk.injEq] at h2_
 obtain ⟨rfl, rfl, rfl, rfl⟩ := h2_
 have hu_ := Try.underlying26
 have hus_ := Try.underlying42
 have HR := A_ hr0
 have HB := A_ (Below.refl w.heap.size w)
 have H' := A_ hA_
 clear hr0 hA_ h
 go_enter Try.func5, Try.ntmps5
 go_wp2_with (first | ((with_reducible refine gd_ (N := 2) rfl ?_); refine bx_ (N := 2) (cs := #[.string (⟨#[]⟩ : ByteArray), .string (⟨#[]⟩ : ByteArray), .string (⟨#[]⟩ : ByteArray), .slice none 0 0]) (t := 26) ?_; intro g2 hg_ w_1 hbox_ hb_; have GEg2 : Aside0 (w.heap.size <= g2) := ⟨by rw [hg_]; exact below_size HB.out⟩; have m0_ : Aside0 (Below w.heap.size w w_1) := ⟨below_step HB.out hb_⟩; have m1_ : Aside0 (w_1.heap[g2]? = some (.cells #[.string (⟨#[]⟩ : ByteArray), .string (⟨#[]⟩ : ByteArray), .string (⟨#[]⟩ : ByteArray), .slice none 0 0] 26 (0, 0))) := ⟨hbox_⟩; (try clear HB); (try clear BKg2); have HB := m0_; have BKg2 := m1_; clear m0_ m1_; clear hb_ hbox_ hg_; have hxg2_0 : w_1.cell? ⟨g2, 0, none⟩ = some (.string (⟨#[]⟩ : ByteArray)) := (blk_cell BKg2.out 0).trans rfl; have hfg2_0 := blk_frozen BKg2.out 0; have hxg2_1 : w_1.cell? ⟨g2, 1, none⟩ = some (.string (⟨#[]⟩ : ByteArray)) := (blk_cell BKg2.out 1).trans rfl; have hfg2_1 := blk_frozen BKg2.out 1; have hxg2_2 : w_1.cell? ⟨g2, 2, none⟩ = some (.string (⟨#[]⟩ : ByteArray)) := (blk_cell BKg2.out 2).trans rfl; have hfg2_2 := blk_frozen BKg2.out 2; have hxg2_3 : w_1.cell? ⟨g2, 3, none⟩ = some (.slice none 0 0) := (blk_cell BKg2.out 3).trans rfl; have hfg2_3 := blk_frozen BKg2.out 3) | ((with_reducible refine gd_ (N := 3) rfl ?_); refine bx_ (N := 3) (cs := #[.string (⟨#[]⟩ : ByteArray), .string (⟨#[]⟩ : ByteArray), .string (⟨#[]⟩ : ByteArray), .slice none 0 0]) (t := 26) ?_; intro g3 hg_ w_2 hbox_ hb_; have hn_g2_g3 : g2 ≠ g3 := (by have := blk_lt BKg2.out; rw [hg_]; omega); have hn_g3_g2 : g3 ≠ g2 := (by have := blk_lt BKg2.out; rw [hg_]; omega); have GEg3 : Aside0 (w.heap.size <= g3) := ⟨by rw [hg_]; exact below_size HB.out⟩; have m0_ : Aside0 (w_2.heap[g2]? = some (.cells #[.string (⟨#[]⟩ : ByteArray), .string (⟨#[]⟩ : ByteArray), .string (⟨#[]⟩ : ByteArray), .slice none 0 0] 26 (0, 0))) := ⟨blk_below BKg2.out hb_⟩; have m1_ : Aside0 (Below w.heap.size w w_2) := ⟨below_step HB.out hb_⟩; have m2_ : Aside0 (w_2.heap[g3]? = some (.cells #[.string (⟨#[]⟩ : ByteArray), .string (⟨#[]⟩ : ByteArray), .string (⟨#[]⟩ : ByteArray), .slice none 0 0] 26 (0, 0))) := ⟨hbox_⟩; (try clear hxg2_0 hfg2_0 hxg2_1 hfg2_1 hxg2_2 hfg2_2 hxg2_3 hfg2_3); (try clear BKg2); (try clear HB); (try clear BKg3); have BKg2 := m0_; have HB := m1_; have BKg3 := m2_; clear m0_ m1_ m2_; clear hb_ hbox_ hg_; have hxg2_0 : w_2.cell? ⟨g2, 0, none⟩ = some (.string (⟨#[]⟩ : ByteArray)) := (blk_cell BKg2.out 0).trans rfl; have hfg2_0 := blk_frozen BKg2.out 0; have hxg2_1 : w_2.cell? ⟨g2, 1, none⟩ = some (.string (⟨#[]⟩ : ByteArray)) := (blk_cell BKg2.out 1).trans rfl; have hfg2_1 := blk_frozen BKg2.out 1; have hxg2_2 : w_2.cell? ⟨g2, 2, none⟩ = some (.string (⟨#[]⟩ : ByteArray)) := (blk_cell BKg2.out 2).trans rfl; have hfg2_2 := blk_frozen BKg2.out 2; have hxg2_3 : w_2.cell? ⟨g2, 3, none⟩ = some (.slice none 0 0) := (blk_cell BKg2.out 3).trans rfl; have hfg2_3 := blk_frozen BKg2.out 3; have hxg3_0 : w_2.cell? ⟨g3, 0, none⟩ = some (.string (⟨#[]⟩ : ByteArray)) := (blk_cell BKg3.out 0).trans rfl; have hfg3_0 := blk_frozen BKg3.out 0; have hxg3_1 : w_2.cell? ⟨g3, 1, none⟩ = some (.string (⟨#[]⟩ : ByteArray)) := (blk_cell BKg3.out 1).trans rfl; have hfg3_1 := blk_frozen BKg3.out 1; have hxg3_2 : w_2.cell? ⟨g3, 2, none⟩ = some (.string (⟨#[]⟩ : ByteArray)) := (blk_cell BKg3.out 2).trans rfl; have hfg3_2 := blk_frozen BKg3.out 2; have hxg3_3 : w_2.cell? ⟨g3, 3, none⟩ = some (.slice none 0 0) := (blk_cell BKg3.out 3).trans rfl; have hfg3_3 := blk_frozen BKg3.out 3) | ((with_reducible refine gate_store (t := 26) (p := 3) rfl ?_); apply box_store (g := g3); (case hrun => first | (go_simp; done) | (go_simp; rfl)); (case _ho => rfl); (case hN => rfl); (case hgd => rfl); (case hs => repeat (first | (with_reducible exact Sto.refl _ _) | refine Sto.step ?_ _ _)); (case hb => repeat (first | (with_reducible exact IsBlk.of BKg3.out) | (with_reducible apply IsBlk.set))); intro w_3 hw' bk_; simp only [List.setIfInBounds_toArray, List.set_cons_zero, List.set_cons_succ] at bk_; have m0_ : Aside0 (w_3.heap[g2]? = some (.cells #[.string (⟨#[]⟩ : ByteArray), .string (⟨#[]⟩ : ByteArray), .string (⟨#[]⟩ : ByteArray), .slice none 0 0] 26 (0, 0))) := ⟨stored_blk hw' BKg2.out hn_g2_g3⟩; have m1_ : Aside0 (Below w.heap.size w w_3) := ⟨stored_below hw' HB.out GEg3.out⟩; have m2_ : Aside0 (w_3.heap[g3]? = some (.cells #[.string (⟨#[68, 65, 86, 58]⟩ : ByteArray), .string (⟨#[112, 114, 111, 112, 101, 114, 116, 121, 117, 112, 100, 97, 116, 101]⟩ : ByteArray), .string (⟨#[]⟩ : ByteArray), .slice none 0 0] 26 (0, 0))) := ⟨bk_⟩; (try clear hxg2_0 hfg2_0 hxg2_1 hfg2_1 hxg2_2 hfg2_2 hxg2_3 hfg2_3 hxg3_0 hfg3_0 hxg3_1 hfg3_1 hxg3_2 hfg3_2 hxg3_3 hfg3_3); (try clear BKg2); (try clear HB); (try clear BKg3); have BKg2 := m0_; have HB := m1_; have BKg3 := m2_; clear m0_ m1_ m2_; clear hw' bk_; have hxg2_0 : w_3.cell? ⟨g2, 0, none⟩ = some (.string (⟨#[]⟩ : ByteArray)) := (blk_cell BKg2.out 0).trans rfl; have hfg2_0 := blk_frozen BKg2.out 0; have hxg2_1 : w_3.cell? ⟨g2, 1, none⟩ = some (.string (⟨#[]⟩ : ByteArray)) := (blk_cell BKg2.out 1).trans rfl; have hfg2_1 := blk_frozen BKg2.out 1; have hxg2_2 : w_3.cell? ⟨g2, 2, none⟩ = some (.string (⟨#[]⟩ : ByteArray)) := (blk_cell BKg2.out 2).trans rfl; have hfg2_2 := blk_frozen BKg2.out 2; have hxg2_3 : w_3.cell? ⟨g2, 3, none⟩ = some (.slice none 0 0) := (blk_cell BKg2.out 3).trans rfl; have hfg2_3 := blk_frozen BKg2.out 3; have hxg3_0 : w_3.cell? ⟨g3, 0, none⟩ = some (.string (⟨#[68, 65, 86, 58]⟩ : ByteArray)) := (blk_cell BKg3.out 0).trans rfl; have hfg3_0 := blk_frozen BKg3.out 0; have hxg3_1 : w_3.cell? ⟨g3, 1, none⟩ = some (.string (⟨#[112, 114, 111, 112, 101, 114, 116, 121, 117, 112, 100, 97, 116, 101]⟩ : ByteArray)) := (blk_cell BKg3.out 1).trans rfl; have hfg3_1 := blk_frozen BKg3.out 1; have hxg3_2 : w_3.cell? ⟨g3, 2, none⟩ = some (.string (⟨#[]⟩ : ByteArray)) := (blk_cell BKg3.out 2).trans rfl; have hfg3_2 := blk_frozen BKg3.out 2; have hxg3_3 : w_3.cell? ⟨g3, 3, none⟩ = some (.slice none 0 0) := (blk_cell BKg3.out 3).trans rfl; have hfg3_3 := blk_frozen BKg3.out 3))
 go_loopg [4] k (fun kq v4 w' => ∃ (x_1 : Int) (acc_1 : List (S26)) (u_1 : Value), v4 = .int .i64 x_1 /\ Aside0 (setsNode_ kq l0 x_1 acc_1 = some r_) /\ Aside0 (kq <= k) /\ Aside0 (Kd.S kA 26 w' w.heap.size (fun k_ => (k_ ≠ g2 /\ k_ ≠ g3)) u_1 acc_1) /\ Aside0 (w'.heap[g2]? = some (.cells #[.string (⟨#[]⟩ : ByteArray), .string (⟨#[]⟩ : ByteArray), .string (⟨#[]⟩ : ByteArray), .slice none 0 0] 26 (0, 0))) /\ Aside0 (w'.heap[g3]? = some (.cells #[.string (⟨#[68, 65, 86, 58]⟩ : ByteArray), .string (⟨#[112, 114, 111, 112, 101, 114, 116, 121, 117, 112, 100, 97, 116, 101]⟩ : ByteArray), .string (⟨#[]⟩ : ByteArray), u_1] 26 (0, 0))) /\ Aside0 (Below w.heap.size w w'))
 case atStart => exact ⟨0, [], .slice none 0 0, rfl, H', ⟨Nat.le_refl _⟩, ⟨Kd.S_nil _ _ _ _ _⟩, BKg2, BKg3, HB⟩
 case round =>
  clear H' BKg2 BKg3 HB
  (try clear hxg2_0 hfg2_0 hxg2_1 hfg2_1 hxg2_2 hfg2_2 hxg2_3 hfg2_3 hxg3_0 hfg3_0 hxg3_1 hfg3_1 hxg3_2 hfg3_2 hxg3_3 hfg3_3)
  obtain ⟨x, acc, u, rfl, HA, HK1, HO, BKg2, BKg3, HB⟩ := hrel
  cases gk with
  | zero => exact absurd HA.out (by simp [setsNode_])
  | succ k1 =>
   have H := HA.out
   clear HA
   simp only [setsNode_] at H
   obtain ⟨Au, cu, rfl⟩ := Kd.S_slice HO.out
   have hxg2_0 : wr.cell? ⟨g2, 0, none⟩ = some (.string (⟨#[]⟩ : ByteArray)) := (blk_cell BKg2.out 0).trans rfl
   have hfg2_0 := blk_frozen BKg2.out 0
   have hxg2_1 : wr.cell? ⟨g2, 1, none⟩ = some (.string (⟨#[]⟩ : ByteArray)) := (blk_cell BKg2.out 1).trans rfl
   have hfg2_1 := blk_frozen BKg2.out 1
   have hxg2_2 : wr.cell? ⟨g2, 2, none⟩ = some (.string (⟨#[]⟩ : ByteArray)) := (blk_cell BKg2.out 2).trans rfl
   have hfg2_2 := blk_frozen BKg2.out 2
   have hxg2_3 : wr.cell? ⟨g2, 3, none⟩ = some (.slice none 0 0) := (blk_cell BKg2.out 3).trans rfl
   have hfg2_3 := blk_frozen BKg2.out 3
   have hxg3_0 : wr.cell? ⟨g3, 0, none⟩ = some (.string (⟨#[68, 65, 86, 58]⟩ : ByteArray)) := (blk_cell BKg3.out 0).trans rfl
   have hfg3_0 := blk_frozen BKg3.out 0
   have hxg3_1 : wr.cell? ⟨g3, 1, none⟩ = some (.string (⟨#[112, 114, 111, 112, 101, 114, 116, 121, 117, 112, 100, 97, 116, 101]⟩ : ByteArray)) := (blk_cell BKg3.out 1).trans rfl
   have hfg3_1 := blk_frozen BKg3.out 1
   have hxg3_2 : wr.cell? ⟨g3, 2, none⟩ = some (.string (⟨#[]⟩ : ByteArray)) := (blk_cell BKg3.out 2).trans rfl
   have hfg3_2 := blk_frozen BKg3.out 2
   have hxg3_3 : wr.cell? ⟨g3, 3, none⟩ = some (.slice Au acc.length cu) := (blk_cell BKg3.out 3).trans rfl
   have hfg3_3 := blk_frozen BKg3.out 3
   by_cases c3 : x < (l0.length : Int)
   rotate_left
   . rw [if_neg c3] at H
     have c3b0 := decide_eq_false c3
     obtain rfl := si_ H
     clear c3
     go_wp2
     refine bodyPost_ret (results_cell_row rfl _ _ g2 26 #[.string (⟨#[68, 65, 86, 58]⟩ : ByteArray), .string (⟨#[112, 114, 111, 112, 101, 114, 116, 121, 117, 112, 100, 97, 116, 101]⟩ : ByteArray), .string (⟨#[]⟩ : ByteArray), .slice Au acc.length cu] (0, 0) _ rfl (by (with_reducible repeat (first | refine blk_drewN ?_ _ | refine blk_drew ?_ | refine blk_alloc ?_ _)); with_reducible exact p4_0123_ (vb_ BKg2.out)) Try.underlying26 rfl (by kernel_rfl)) rfl ?_
     exact ⟨_, by first | rfl | (simp; done), by (with_reducible repeat (first | apply Kd.S_alloc | apply Kd.S_drewN | apply Kd.S_drew)); exact Kd.S_mono (Kd.S_far (p := ⟨g2, 3, none⟩) (Kd.S_far (p := ⟨g2, 2, none⟩) (Kd.S_far (p := ⟨g2, 1, none⟩) (Kd.S_far (p := ⟨g2, 0, none⟩) (HO.out) (fun _ hk => hk.1) (.string (⟨#[68, 65, 86, 58]⟩ : ByteArray))) (fun _ hk => hk.1) (.string (⟨#[112, 114, 111, 112, 101, 114, 116, 121, 117, 112, 100, 97, 116, 101]⟩ : ByteArray))) (fun _ hk => hk.1) (.string (⟨#[]⟩ : ByteArray))) (fun _ hk => hk.1) (.slice Au acc.length cu)) (fun _ _ => trivial), by repeat (first | (with_reducible first | exact HB.out | apply below_alloc | apply pw_below_drewN | apply below_drew1 | refine below_set ?_ GEg2.out) | exact HB.out)⟩
   rw [if_pos c3] at H
   have c3b0 := decide_eq_true c3
   by_cases c4 : 0 <= x
   rotate_left
   . rw [if_neg c4] at H
     exact absurd H (by simp)
   rw [if_pos c4] at H
   have c4b0 := decide_eq_true c4
   by_cases c5 : acc.length < 1954687338268
   rotate_left
   . rw [if_neg c5] at H
     exact absurd H (by simp)
   rw [if_pos c5] at H
   have LM := A_ c5
   clear c5
   obtain ⟨ade, ee, he0, he1, he2, he3⟩ := at_T42 HR.out x c4 c3
   subst ee
   replace he0 := pw_cell_below HB.out he0
   replace he1 := pw_cell_below HB.out he1
   replace he2 := pw_cell_below HB.out he2
   replace he3 := pw_cell_below HB.out he3
   replace c3 := eq_true c3
   replace c4 := eq_true c4
   obtain ⟨d, hd⟩ : ∃ d_ : Bool, (rd_T42 l0 x).f0 = d_ := ⟨_, rfl⟩
   rw [hd] at he0
   cases d
   . have hEl_ : setNode_ (rd_T42 l0 x) = (⟨(⟨#[68, 65, 86, 58]⟩ : ByteArray), (⟨#[115, 101, 116]⟩ : ByteArray), (⟨#[]⟩ : ByteArray), [(⟨(⟨#[68, 65, 86, 58]⟩ : ByteArray), (⟨#[112, 114, 111, 112]⟩ : ByteArray), (⟨#[]⟩ : ByteArray), [(⟨(rd_T42 l0 x).f1.f0, (rd_T42 l0 x).f1.f1, (rd_T42 l0 x).f1.f2, []⟩ : S26)]⟩ : S26)]⟩ : S26) := by unfold setNode_; rw [hd]; rfl
     rw [hEl_] at H
     clear hEl_
     obtain ⟨y, hy_⟩ : ∃ y_ : List (S26), y_ = acc ++ [(⟨(⟨#[68, 65, 86, 58]⟩ : ByteArray), (⟨#[115, 101, 116]⟩ : ByteArray), (⟨#[]⟩ : ByteArray), [(⟨(⟨#[68, 65, 86, 58]⟩ : ByteArray), (⟨#[112, 114, 111, 112]⟩ : ByteArray), (⟨#[]⟩ : ByteArray), [(⟨(rd_T42 l0 x).f1.f0, (rd_T42 l0 x).f1.f1, (rd_T42 l0 x).f1.f2, []⟩ : S26)]⟩ : S26)]⟩ : S26)] := ⟨_, rfl⟩
     rw [← hy_] at H
     have Ny := A_ hy_
     clear hy_
     have H' := A_ H
     clear H
     try go_wp2
     refine start_ (n := 16) (S := fun w' => w'.cell? ⟨(ade.add ((x).toNat * 4)).block, (ade.add ((x).toNat * 4)).off + 1, none⟩ = some (.string (rd_T42 l0 x).f1.f0) /\ w'.cell? ⟨(ade.add ((x).toNat * 4)).block, (ade.add ((x).toNat * 4)).off + 2, none⟩ = some (.string (rd_T42 l0 x).f1.f1)) (ds := [15]) #[false, false, false, false, false, false, false, false, false, false, false, false, false, false, false, false] (by kernel_rfl) rfl rfl ⟨he1, he2⟩ (fun hHeld => ?_); refine with_tabW spec_SetsNode.tab10 spec_SetsNode.bits10 (fun HT_ HW_ => ?_)
     generalize hWd_ : wr.drew = w_1 at hHeld ⊢
     have hb_ : Below wr.heap.size wr w_1 := (by rw [← hWd_]; exact below_drew (Below.refl _ _))
     clear hWd_
     have m0_ : Aside0 (w_1.heap[g2]? = some (.cells #[.string (⟨#[]⟩ : ByteArray), .string (⟨#[]⟩ : ByteArray), .string (⟨#[]⟩ : ByteArray), .slice none 0 0] 26 (0, 0))) := ⟨blk_below BKg2.out hb_⟩
     have m1_ : Aside0 (w_1.heap[g3]? = some (.cells #[.string (⟨#[68, 65, 86, 58]⟩ : ByteArray), .string (⟨#[112, 114, 111, 112, 101, 114, 116, 121, 117, 112, 100, 97, 116, 101]⟩ : ByteArray), .string (⟨#[]⟩ : ByteArray), .slice Au acc.length cu] 26 (0, 0))) := ⟨blk_below BKg3.out hb_⟩
     have m2_ : Aside0 (Kd.S kA 26 w_1 w.heap.size (fun k_ => (k_ ≠ g2 /\ k_ ≠ g3)) (.slice Au acc.length cu) acc) := ⟨Kd.S_below HO.out hb_⟩
     have m3_ : Aside0 (Below w.heap.size w w_1) := ⟨below_step HB.out hb_⟩
     (try clear hxg2_0 hfg2_0 hxg2_1 hfg2_1 hxg2_2 hfg2_2 hxg2_3 hfg2_3 hxg3_0 hfg3_0 hxg3_1 hfg3_1 hxg3_2 hfg3_2 hxg3_3 hfg3_3)
     (try clear BKg2)
     (try clear BKg3)
     (try clear HO)
     (try clear HB)
     have BKg2 := m0_
     have BKg3 := m1_
     have HO := m2_
     have HB := m3_
     clear m0_ m1_ m2_ m3_
     clear hb_
     have hxg2_0 : w_1.cell? ⟨g2, 0, none⟩ = some (.string (⟨#[]⟩ : ByteArray)) := (blk_cell BKg2.out 0).trans rfl
     have hfg2_0 := blk_frozen BKg2.out 0
     have hxg2_1 : w_1.cell? ⟨g2, 1, none⟩ = some (.string (⟨#[]⟩ : ByteArray)) := (blk_cell BKg2.out 1).trans rfl
     have hfg2_1 := blk_frozen BKg2.out 1
     have hxg2_2 : w_1.cell? ⟨g2, 2, none⟩ = some (.string (⟨#[]⟩ : ByteArray)) := (blk_cell BKg2.out 2).trans rfl
     have hfg2_2 := blk_frozen BKg2.out 2
     have hxg2_3 : w_1.cell? ⟨g2, 3, none⟩ = some (.slice none 0 0) := (blk_cell BKg2.out 3).trans rfl
     have hfg2_3 := blk_frozen BKg2.out 3
     have hxg3_0 : w_1.cell? ⟨g3, 0, none⟩ = some (.string (⟨#[68, 65, 86, 58]⟩ : ByteArray)) := (blk_cell BKg3.out 0).trans rfl
     have hfg3_0 := blk_frozen BKg3.out 0
     have hxg3_1 : w_1.cell? ⟨g3, 1, none⟩ = some (.string (⟨#[112, 114, 111, 112, 101, 114, 116, 121, 117, 112, 100, 97, 116, 101]⟩ : ByteArray)) := (blk_cell BKg3.out 1).trans rfl
     have hfg3_1 := blk_frozen BKg3.out 1
     have hxg3_2 : w_1.cell? ⟨g3, 2, none⟩ = some (.string (⟨#[]⟩ : ByteArray)) := (blk_cell BKg3.out 2).trans rfl
     have hfg3_2 := blk_frozen BKg3.out 2
     have hxg3_3 : w_1.cell? ⟨g3, 3, none⟩ = some (.slice Au acc.length cu) := (blk_cell BKg3.out 3).trans rfl
     have hfg3_3 := blk_frozen BKg3.out 3
     refine pu_ (i := 0) (N := some 27) ?_
     refine pu_ (i := 1) (N := some 28) ?_
     refine pu_ (i := 2) (N := some 29) ?_
     refine pu_ (i := 3) (N := some 30) ?_
     refine pu_ (i := 4) (N := some 31) ?_
     refine pu_ (i := 6) (N := some 33) ?_
     refine pu_ (i := 7) (N := some 34) ?_
     refine pu_ (i := 8) (N := some 35) ?_
     refine pu_ (i := 9) (N := some 36) ?_
     refine pu_ (i := 10) (N := some 37) ?_
     refine pu_ (i := 12) (N := some 39) ?_
     refine tk_ (i := 5) (N := some 32) hHeld ?_
     refine tk_ (i := 11) (N := some 38) hHeld ?_
     refine pu_ (i := 13) (N := some 40) ?_
     refine on_ (i := 14) (N := some 7) (fun K hK => ?_)
     refine box_step ?hg (N := 7) ?hd (cs := #[.string (⟨#[]⟩ : ByteArray), .string (⟨#[]⟩ : ByteArray), .string (⟨#[]⟩ : ByteArray), .slice none 0 0]) (t := 26) ?hr ?_
     (case hd => rfl)
     (case hg => rfl)
     (case hr => first | (go_simp; done) | (go_simp; rfl))
     intro g7 hg_ w_2 hbox_ hb_
     have hS0_ := pw_cell_below hb_ hHeld.1
     have hS1_ := pw_cell_below hb_ hHeld.2
     have hn_g2_g7 : g2 ≠ g7 := (by have := blk_lt BKg2.out; rw [hg_]; omega)
     have hn_g7_g2 : g7 ≠ g2 := (by have := blk_lt BKg2.out; rw [hg_]; omega)
     have hn_g3_g7 : g3 ≠ g7 := (by have := blk_lt BKg3.out; rw [hg_]; omega)
     have hn_g7_g3 : g7 ≠ g3 := (by have := blk_lt BKg3.out; rw [hg_]; omega)
     have GEg7 : Aside0 (w.heap.size <= g7) := ⟨by rw [hg_]; exact below_size HB.out⟩
     have m0_ : Aside0 (w_2.heap[g2]? = some (.cells #[.string (⟨#[]⟩ : ByteArray), .string (⟨#[]⟩ : ByteArray), .string (⟨#[]⟩ : ByteArray), .slice none 0 0] 26 (0, 0))) := ⟨blk_below BKg2.out hb_⟩
     have m1_ : Aside0 (w_2.heap[g3]? = some (.cells #[.string (⟨#[68, 65, 86, 58]⟩ : ByteArray), .string (⟨#[112, 114, 111, 112, 101, 114, 116, 121, 117, 112, 100, 97, 116, 101]⟩ : ByteArray), .string (⟨#[]⟩ : ByteArray), .slice Au acc.length cu] 26 (0, 0))) := ⟨blk_below BKg3.out hb_⟩
     have m2_ : Aside0 (Kd.S kA 26 w_2 w.heap.size (fun k_ => ((k_ ≠ g2 /\ k_ ≠ g3) /\ k_ ≠ g7)) (.slice Au acc.length cu) acc) := ⟨Kd.S_below (Kd.S_elderB HO.out g7 (Nat.le_of_eq hg_.symm)) hb_⟩
     have m3_ : Aside0 (Below w.heap.size w w_2) := ⟨below_step HB.out hb_⟩
     have m4_ : Aside0 (w_2.heap[g7]? = some (.cells #[.string (⟨#[]⟩ : ByteArray), .string (⟨#[]⟩ : ByteArray), .string (⟨#[]⟩ : ByteArray), .slice none 0 0] 26 (0, 0))) := ⟨hbox_⟩
     (try clear hxg2_0 hfg2_0 hxg2_1 hfg2_1 hxg2_2 hfg2_2 hxg2_3 hfg2_3 hxg3_0 hfg3_0 hxg3_1 hfg3_1 hxg3_2 hfg3_2 hxg3_3 hfg3_3)
     (try clear BKg2)
     (try clear BKg3)
     (try clear HO)
     (try clear HB)
     (try clear BKg7)
     have BKg2 := m0_
     have BKg3 := m1_
     have HO := m2_
     have HB := m3_
     have BKg7 := m4_
     clear m0_ m1_ m2_ m3_ m4_
     clear hb_ hbox_ hg_
     have hxg2_0 : w_2.cell? ⟨g2, 0, none⟩ = some (.string (⟨#[]⟩ : ByteArray)) := (blk_cell BKg2.out 0).trans rfl
     have hfg2_0 := blk_frozen BKg2.out 0
     have hxg2_1 : w_2.cell? ⟨g2, 1, none⟩ = some (.string (⟨#[]⟩ : ByteArray)) := (blk_cell BKg2.out 1).trans rfl
     have hfg2_1 := blk_frozen BKg2.out 1
     have hxg2_2 : w_2.cell? ⟨g2, 2, none⟩ = some (.string (⟨#[]⟩ : ByteArray)) := (blk_cell BKg2.out 2).trans rfl
     have hfg2_2 := blk_frozen BKg2.out 2
     have hxg2_3 : w_2.cell? ⟨g2, 3, none⟩ = some (.slice none 0 0) := (blk_cell BKg2.out 3).trans rfl
     have hfg2_3 := blk_frozen BKg2.out 3
     have hxg3_0 : w_2.cell? ⟨g3, 0, none⟩ = some (.string (⟨#[68, 65, 86, 58]⟩ : ByteArray)) := (blk_cell BKg3.out 0).trans rfl
     have hfg3_0 := blk_frozen BKg3.out 0
     have hxg3_1 : w_2.cell? ⟨g3, 1, none⟩ = some (.string (⟨#[112, 114, 111, 112, 101, 114, 116, 121, 117, 112, 100, 97, 116, 101]⟩ : ByteArray)) := (blk_cell BKg3.out 1).trans rfl
     have hfg3_1 := blk_frozen BKg3.out 1
     have hxg3_2 : w_2.cell? ⟨g3, 2, none⟩ = some (.string (⟨#[]⟩ : ByteArray)) := (blk_cell BKg3.out 2).trans rfl
     have hfg3_2 := blk_frozen BKg3.out 2
     have hxg3_3 : w_2.cell? ⟨g3, 3, none⟩ = some (.slice Au acc.length cu) := (blk_cell BKg3.out 3).trans rfl
     have hfg3_3 := blk_frozen BKg3.out 3
     have hxg7_0 : w_2.cell? ⟨g7, 0, none⟩ = some (.string (⟨#[]⟩ : ByteArray)) := (blk_cell BKg7.out 0).trans rfl
     have hfg7_0 := blk_frozen BKg7.out 0
     have hxg7_1 : w_2.cell? ⟨g7, 1, none⟩ = some (.string (⟨#[]⟩ : ByteArray)) := (blk_cell BKg7.out 1).trans rfl
     have hfg7_1 := blk_frozen BKg7.out 1
     have hxg7_2 : w_2.cell? ⟨g7, 2, none⟩ = some (.string (⟨#[]⟩ : ByteArray)) := (blk_cell BKg7.out 2).trans rfl
     have hfg7_2 := blk_frozen BKg7.out 2
     have hxg7_3 : w_2.cell? ⟨g7, 3, none⟩ = some (.slice none 0 0) := (blk_cell BKg7.out 3).trans rfl
     have hfg7_3 := blk_frozen BKg7.out 3
     refine hK.out _ _ ⟨hS0_, hS1_⟩ (fun hHeld => ?_)
     clear hK K
     refine no_ (some 7) ?_
     refine last_ (i := 15) (N := none) #[true, true, true, true, true, true, true, true, true, true, true, true, true, true, true, true] rfl rfl (one_of HT_.out (by kernel_rfl)) (by decide) (fun K hK => ?_)
     refine skip_ (w1 := ?_) (by rfl) rfl ?_ ?_
     rotate_left
     . go_simp
       rfl
     refine hK.out _ _ ?_
     clear hK K
     refine done_ (done_of HT_.out (by kernel_rfl)) ?_
     (try clear hHeld hS0_ hS1_)
     (try clear he0 he1 he2 he3)
     generalize hWs_ : ((((w_2.setCell ⟨g7, 0, none⟩ (.string (rd_T42 l0 x).f1.f0)).setCell ⟨g7, 1, none⟩ (.string (rd_T42 l0 x).f1.f1)).setCell ⟨g7, 2, none⟩ (.string (rd_T42 l0 x).f1.f2)).setCell ⟨g7, 3, none⟩ (.slice none 0 0)) = w_3
     have hw' : Sto g7 w_2 w_3 := (by rw [← hWs_]; exact Sto.step (Sto.step (Sto.step (Sto.step (Sto.refl _ _) _ _) _ _) _ _) _ _)
     have bk_ : w_3.heap[g7]? = some (.cells #[.string (rd_T42 l0 x).f1.f0, .string (rd_T42 l0 x).f1.f1, .string (rd_T42 l0 x).f1.f2, .slice none 0 0] 26 (0, 0)) := (by rw [← hWs_]; exact (IsBlk.set (IsBlk.set (IsBlk.set (IsBlk.set (IsBlk.of BKg7.out) 0 _) 1 _) 2 _) 3 _ : IsBlk _ _ _ _))
     clear hWs_
     have m0_ : Aside0 (w_3.heap[g2]? = some (.cells #[.string (⟨#[]⟩ : ByteArray), .string (⟨#[]⟩ : ByteArray), .string (⟨#[]⟩ : ByteArray), .slice none 0 0] 26 (0, 0))) := ⟨stored_blk hw' BKg2.out hn_g2_g7⟩
     have m1_ : Aside0 (w_3.heap[g3]? = some (.cells #[.string (⟨#[68, 65, 86, 58]⟩ : ByteArray), .string (⟨#[112, 114, 111, 112, 101, 114, 116, 121, 117, 112, 100, 97, 116, 101]⟩ : ByteArray), .string (⟨#[]⟩ : ByteArray), .slice Au acc.length cu] 26 (0, 0))) := ⟨stored_blk hw' BKg3.out hn_g3_g7⟩
     have m2_ : Aside0 (Kd.S kA 26 w_3 w.heap.size (fun k_ => ((k_ ≠ g2 /\ k_ ≠ g3) /\ k_ ≠ g7)) (.slice Au acc.length cu) acc) := ⟨stored_S hw' HO.out (fun _ hk => hk.2)⟩
     have m3_ : Aside0 (Below w.heap.size w w_3) := ⟨stored_below hw' HB.out GEg7.out⟩
     have m4_ : Aside0 (w_3.heap[g7]? = some (.cells #[.string (rd_T42 l0 x).f1.f0, .string (rd_T42 l0 x).f1.f1, .string (rd_T42 l0 x).f1.f2, .slice none 0 0] 26 (0, 0))) := ⟨bk_⟩
     (try clear hxg2_0 hfg2_0 hxg2_1 hfg2_1 hxg2_2 hfg2_2 hxg2_3 hfg2_3 hxg3_0 hfg3_0 hxg3_1 hfg3_1 hxg3_2 hfg3_2 hxg3_3 hfg3_3 hxg7_0 hfg7_0 hxg7_1 hfg7_1 hxg7_2 hfg7_2 hxg7_3 hfg7_3)
     (try clear BKg2)
     (try clear BKg3)
     (try clear HO)
     (try clear HB)
     (try clear BKg7)
     have BKg2 := m0_
     have BKg3 := m1_
     have HO := m2_
     have HB := m3_
     have BKg7 := m4_
     clear m0_ m1_ m2_ m3_ m4_
     clear hw' bk_
     have hxg2_0 : w_3.cell? ⟨g2, 0, none⟩ = some (.string (⟨#[]⟩ : ByteArray)) := (blk_cell BKg2.out 0).trans rfl
     have hfg2_0 := blk_frozen BKg2.out 0
     have hxg2_1 : w_3.cell? ⟨g2, 1, none⟩ = some (.string (⟨#[]⟩ : ByteArray)) := (blk_cell BKg2.out 1).trans rfl
     have hfg2_1 := blk_frozen BKg2.out 1
     have hxg2_2 : w_3.cell? ⟨g2, 2, none⟩ = some (.string (⟨#[]⟩ : ByteArray)) := (blk_cell BKg2.out 2).trans rfl
     have hfg2_2 := blk_frozen BKg2.out 2
     have hxg2_3 : w_3.cell? ⟨g2, 3, none⟩ = some (.slice none 0 0) := (blk_cell BKg2.out 3).trans rfl
     have hfg2_3 := blk_frozen BKg2.out 3
     have hxg3_0 : w_3.cell? ⟨g3, 0, none⟩ = some (.string (⟨#[68, 65, 86, 58]⟩ : ByteArray)) := (blk_cell BKg3.out 0).trans rfl
     have hfg3_0 := blk_frozen BKg3.out 0
     have hxg3_1 : w_3.cell? ⟨g3, 1, none⟩ = some (.string (⟨#[112, 114, 111, 112, 101, 114, 116, 121, 117, 112, 100, 97, 116, 101]⟩ : ByteArray)) := (blk_cell BKg3.out 1).trans rfl
     have hfg3_1 := blk_frozen BKg3.out 1
     have hxg3_2 : w_3.cell? ⟨g3, 2, none⟩ = some (.string (⟨#[]⟩ : ByteArray)) := (blk_cell BKg3.out 2).trans rfl
     have hfg3_2 := blk_frozen BKg3.out 2
     have hxg3_3 : w_3.cell? ⟨g3, 3, none⟩ = some (.slice Au acc.length cu) := (blk_cell BKg3.out 3).trans rfl
     have hfg3_3 := blk_frozen BKg3.out 3
     have hxg7_0 : w_3.cell? ⟨g7, 0, none⟩ = some (.string (rd_T42 l0 x).f1.f0) := (blk_cell BKg7.out 0).trans rfl
     have hfg7_0 := blk_frozen BKg7.out 0
     have hxg7_1 : w_3.cell? ⟨g7, 1, none⟩ = some (.string (rd_T42 l0 x).f1.f1) := (blk_cell BKg7.out 1).trans rfl
     have hfg7_1 := blk_frozen BKg7.out 1
     have hxg7_2 : w_3.cell? ⟨g7, 2, none⟩ = some (.string (rd_T42 l0 x).f1.f2) := (blk_cell BKg7.out 2).trans rfl
     have hfg7_2 := blk_frozen BKg7.out 2
     have hxg7_3 : w_3.cell? ⟨g7, 3, none⟩ = some (.slice none 0 0) := (blk_cell BKg7.out 3).trans rfl
     have hfg7_3 := blk_frozen BKg7.out 3
     obtain ⟨nb, hnb_⟩ : ∃ n_, n_ = w_3.heap.size := ⟨_, rfl⟩
     have HNB : Aside0 (nb <= w_3.heap.size) := ⟨Nat.le_of_eq hnb_⟩
     have HU : Aside0 (∀ k_, nb <= k_ -> some k_ ≠ ((.slice Au acc.length cu) : Value).ownBlock) := ⟨fun k_ h_ e_ => by have := Kd.S_lt HO.out k_ e_.symm; omega⟩
     have HLg2 : Aside0 (g2 < nb) := ⟨by have := blk_lt BKg2.out; omega⟩
     have HLg3 : Aside0 (g3 < nb) := ⟨by have := blk_lt BKg3.out; omega⟩
     have HLg7 : Aside0 (g7 < nb) := ⟨by have := blk_lt BKg7.out; omega⟩
     have HOn : Aside0 (Kd.S kA 26 w_3 w.heap.size (fun k_ => (((k_ ≠ g2 /\ k_ ≠ g3) /\ k_ ≠ g7)) /\ k_ < nb) (.slice Au acc.length cu) acc) := ⟨Kd.S_mono (Kd.S_bound HO.out) (fun k_ h_ => ⟨h_.1, by have := h_.2.2.1; omega⟩)⟩
     clear hnb_
     go_wp2_with (first | ((with_reducible refine gd_ (N := 42) rfl ?_); refine lit1 kA w.heap.size 26 rfl (N := 42) rfl (p := (⟨(rd_T42 l0 x).f1.f0, (rd_T42 l0 x).f1.f1, (rd_T42 l0 x).f1.f2, []⟩ : S26)) (cs := [.string (rd_T42 l0 x).f1.f0, .string (rd_T42 l0 x).f1.f1, .string (rd_T42 l0 x).f1.f2, .slice none 0 0]) (ok := fun k_ => nb <= k_) (okp := fun k_ => nb <= k_) ?hr ?hp (fun _ h_ => h_) ?hf ?hs ?_; (case hr => first | (go_simp; done) | (go_simp; rfl)); (case hp => exact kA_mkM _ _ _ (⟨(rd_T42 l0 x).f1.f0, (rd_T42 l0 x).f1.f1, (rd_T42 l0 x).f1.f2, []⟩ : S26) (Kd.S_nil _ _ _ _ _)); (case hf => exact HNB.out); (case hs => exact below_size HB.out); intro b1 w_4 hg_ hv_ hb_; have m0_ : Aside0 (w_4.heap[g2]? = some (.cells #[.string (⟨#[]⟩ : ByteArray), .string (⟨#[]⟩ : ByteArray), .string (⟨#[]⟩ : ByteArray), .slice none 0 0] 26 (0, 0))) := ⟨blk_below BKg2.out hb_⟩; have m1_ : Aside0 (w_4.heap[g3]? = some (.cells #[.string (⟨#[68, 65, 86, 58]⟩ : ByteArray), .string (⟨#[112, 114, 111, 112, 101, 114, 116, 121, 117, 112, 100, 97, 116, 101]⟩ : ByteArray), .string (⟨#[]⟩ : ByteArray), .slice Au acc.length cu] 26 (0, 0))) := ⟨blk_below BKg3.out hb_⟩; have m2_ : Aside0 (w_4.heap[g7]? = some (.cells #[.string (rd_T42 l0 x).f1.f0, .string (rd_T42 l0 x).f1.f1, .string (rd_T42 l0 x).f1.f2, .slice none 0 0] 26 (0, 0))) := ⟨blk_below BKg7.out hb_⟩; have m3_ : Aside0 (Kd.S kA 26 w_4 w.heap.size (fun k_ => ((k_ ≠ g2 /\ k_ ≠ g3) /\ k_ ≠ g7)) (.slice Au acc.length cu) acc) := ⟨Kd.S_below HO.out hb_⟩; have m4_ : Aside0 (nb <= w_4.heap.size) := ⟨Nat.le_trans HNB.out (below_size hb_)⟩; have m5_ : Aside0 (Below w.heap.size w w_4) := ⟨below_step HB.out hb_⟩; have m6_ : Aside0 (Kd.S kA 26 w_4 w.heap.size (fun k_ => (((k_ ≠ g2 /\ k_ ≠ g3) /\ k_ ≠ g7)) /\ k_ < nb) (.slice Au acc.length cu) acc) := ⟨Kd.S_below HOn.out hb_⟩; have m7_ : Aside0 (Kd.S kA 26 w_4 w.heap.size (fun k_ => nb <= k_) (.slice (some ⟨b1, 0, none⟩) 1 1) [(⟨(rd_T42 l0 x).f1.f0, (rd_T42 l0 x).f1.f1, (rd_T42 l0 x).f1.f2, []⟩ : S26)]) := ⟨hv_⟩; (try clear hxg2_0 hfg2_0 hxg2_1 hfg2_1 hxg2_2 hfg2_2 hxg2_3 hfg2_3 hxg3_0 hfg3_0 hxg3_1 hfg3_1 hxg3_2 hfg3_2 hxg3_3 hfg3_3 hxg7_0 hfg7_0 hxg7_1 hfg7_1 hxg7_2 hfg7_2 hxg7_3 hfg7_3); (try clear BKg2); (try clear BKg3); (try clear BKg7); (try clear HO); (try clear HNB); (try clear HB); (try clear HOn); (try clear HV0); have BKg2 := m0_; have BKg3 := m1_; have BKg7 := m2_; have HO := m3_; have HNB := m4_; have HB := m5_; have HOn := m6_; have HV0 := m7_; clear m0_ m1_ m2_ m3_ m4_ m5_ m6_ m7_; clear hb_ hv_ hg_; have hxg2_0 : w_4.cell? ⟨g2, 0, none⟩ = some (.string (⟨#[]⟩ : ByteArray)) := (blk_cell BKg2.out 0).trans rfl; have hfg2_0 := blk_frozen BKg2.out 0; have hxg2_1 : w_4.cell? ⟨g2, 1, none⟩ = some (.string (⟨#[]⟩ : ByteArray)) := (blk_cell BKg2.out 1).trans rfl; have hfg2_1 := blk_frozen BKg2.out 1; have hxg2_2 : w_4.cell? ⟨g2, 2, none⟩ = some (.string (⟨#[]⟩ : ByteArray)) := (blk_cell BKg2.out 2).trans rfl; have hfg2_2 := blk_frozen BKg2.out 2; have hxg2_3 : w_4.cell? ⟨g2, 3, none⟩ = some (.slice none 0 0) := (blk_cell BKg2.out 3).trans rfl; have hfg2_3 := blk_frozen BKg2.out 3; have hxg3_0 : w_4.cell? ⟨g3, 0, none⟩ = some (.string (⟨#[68, 65, 86, 58]⟩ : ByteArray)) := (blk_cell BKg3.out 0).trans rfl; have hfg3_0 := blk_frozen BKg3.out 0; have hxg3_1 : w_4.cell? ⟨g3, 1, none⟩ = some (.string (⟨#[112, 114, 111, 112, 101, 114, 116, 121, 117, 112, 100, 97, 116, 101]⟩ : ByteArray)) := (blk_cell BKg3.out 1).trans rfl; have hfg3_1 := blk_frozen BKg3.out 1; have hxg3_2 : w_4.cell? ⟨g3, 2, none⟩ = some (.string (⟨#[]⟩ : ByteArray)) := (blk_cell BKg3.out 2).trans rfl; have hfg3_2 := blk_frozen BKg3.out 2; have hxg3_3 : w_4.cell? ⟨g3, 3, none⟩ = some (.slice Au acc.length cu) := (blk_cell BKg3.out 3).trans rfl; have hfg3_3 := blk_frozen BKg3.out 3; have hxg7_0 : w_4.cell? ⟨g7, 0, none⟩ = some (.string (rd_T42 l0 x).f1.f0) := (blk_cell BKg7.out 0).trans rfl; have hfg7_0 := blk_frozen BKg7.out 0; have hxg7_1 : w_4.cell? ⟨g7, 1, none⟩ = some (.string (rd_T42 l0 x).f1.f1) := (blk_cell BKg7.out 1).trans rfl; have hfg7_1 := blk_frozen BKg7.out 1; have hxg7_2 : w_4.cell? ⟨g7, 2, none⟩ = some (.string (rd_T42 l0 x).f1.f2) := (blk_cell BKg7.out 2).trans rfl; have hfg7_2 := blk_frozen BKg7.out 2; have hxg7_3 : w_4.cell? ⟨g7, 3, none⟩ = some (.slice none 0 0) := (blk_cell BKg7.out 3).trans rfl; have hfg7_3 := blk_frozen BKg7.out 3) | ((with_reducible refine gd_ (N := 8) rfl ?_); refine bx_ (N := 8) (cs := #[.string (⟨#[]⟩ : ByteArray), .string (⟨#[]⟩ : ByteArray), .string (⟨#[]⟩ : ByteArray), .slice none 0 0]) (t := 26) ?_; intro g8 hg_ w_5 hbox_ hb_; have HG8 : Aside0 (nb <= g8) := ⟨by rw [hg_]; exact HNB.out⟩; have hv8_ := Kd.S_below (Kd.S_elderB HV0.out g8 (Nat.le_of_eq hg_.symm)) hb_; have hn_g2_g8 : g2 ≠ g8 := (by have := blk_lt BKg2.out; rw [hg_]; omega); have hn_g8_g2 : g8 ≠ g2 := (by have := blk_lt BKg2.out; rw [hg_]; omega); have hn_g3_g8 : g3 ≠ g8 := (by have := blk_lt BKg3.out; rw [hg_]; omega); have hn_g8_g3 : g8 ≠ g3 := (by have := blk_lt BKg3.out; rw [hg_]; omega); have hn_g7_g8 : g7 ≠ g8 := (by have := blk_lt BKg7.out; rw [hg_]; omega); have hn_g8_g7 : g8 ≠ g7 := (by have := blk_lt BKg7.out; rw [hg_]; omega); have GEg8 : Aside0 (w.heap.size <= g8) := ⟨by rw [hg_]; exact below_size HB.out⟩; have m0_ : Aside0 (w_5.heap[g2]? = some (.cells #[.string (⟨#[]⟩ : ByteArray), .string (⟨#[]⟩ : ByteArray), .string (⟨#[]⟩ : ByteArray), .slice none 0 0] 26 (0, 0))) := ⟨blk_below BKg2.out hb_⟩; have m1_ : Aside0 (w_5.heap[g3]? = some (.cells #[.string (⟨#[68, 65, 86, 58]⟩ : ByteArray), .string (⟨#[112, 114, 111, 112, 101, 114, 116, 121, 117, 112, 100, 97, 116, 101]⟩ : ByteArray), .string (⟨#[]⟩ : ByteArray), .slice Au acc.length cu] 26 (0, 0))) := ⟨blk_below BKg3.out hb_⟩; have m2_ : Aside0 (w_5.heap[g7]? = some (.cells #[.string (rd_T42 l0 x).f1.f0, .string (rd_T42 l0 x).f1.f1, .string (rd_T42 l0 x).f1.f2, .slice none 0 0] 26 (0, 0))) := ⟨blk_below BKg7.out hb_⟩; have m3_ : Aside0 (Kd.S kA 26 w_5 w.heap.size (fun k_ => (((k_ ≠ g2 /\ k_ ≠ g3) /\ k_ ≠ g7) /\ k_ ≠ g8)) (.slice Au acc.length cu) acc) := ⟨Kd.S_below (Kd.S_elderB HO.out g8 (Nat.le_of_eq hg_.symm)) hb_⟩; have m4_ : Aside0 (Kd.S kA 26 w_5 w.heap.size (fun k_ => nb <= k_) (.slice (some ⟨b1, 0, none⟩) 1 1) [(⟨(rd_T42 l0 x).f1.f0, (rd_T42 l0 x).f1.f1, (rd_T42 l0 x).f1.f2, []⟩ : S26)]) := ⟨Kd.S_below HV0.out hb_⟩; have m5_ : Aside0 (nb <= w_5.heap.size) := ⟨Nat.le_trans HNB.out (below_size hb_)⟩; have m6_ : Aside0 (Below w.heap.size w w_5) := ⟨below_step HB.out hb_⟩; have m7_ : Aside0 (Kd.S kA 26 w_5 w.heap.size (fun k_ => (((k_ ≠ g2 /\ k_ ≠ g3) /\ k_ ≠ g7)) /\ k_ < nb) (.slice Au acc.length cu) acc) := ⟨Kd.S_below HOn.out hb_⟩; have m8_ : Aside0 (w_5.heap[g8]? = some (.cells #[.string (⟨#[]⟩ : ByteArray), .string (⟨#[]⟩ : ByteArray), .string (⟨#[]⟩ : ByteArray), .slice none 0 0] 26 (0, 0))) := ⟨hbox_⟩; (try clear hxg2_0 hfg2_0 hxg2_1 hfg2_1 hxg2_2 hfg2_2 hxg2_3 hfg2_3 hxg3_0 hfg3_0 hxg3_1 hfg3_1 hxg3_2 hfg3_2 hxg3_3 hfg3_3 hxg7_0 hfg7_0 hxg7_1 hfg7_1 hxg7_2 hfg7_2 hxg7_3 hfg7_3); (try clear BKg2); (try clear BKg3); (try clear BKg7); (try clear HO); (try clear HV0); (try clear HNB); (try clear HB); (try clear HOn); (try clear BKg8); have BKg2 := m0_; have BKg3 := m1_; have BKg7 := m2_; have HO := m3_; have HV0 := m4_; have HNB := m5_; have HB := m6_; have HOn := m7_; have BKg8 := m8_; clear m0_ m1_ m2_ m3_ m4_ m5_ m6_ m7_ m8_; clear hb_ hbox_ hg_; have hxg2_0 : w_5.cell? ⟨g2, 0, none⟩ = some (.string (⟨#[]⟩ : ByteArray)) := (blk_cell BKg2.out 0).trans rfl; have hfg2_0 := blk_frozen BKg2.out 0; have hxg2_1 : w_5.cell? ⟨g2, 1, none⟩ = some (.string (⟨#[]⟩ : ByteArray)) := (blk_cell BKg2.out 1).trans rfl; have hfg2_1 := blk_frozen BKg2.out 1; have hxg2_2 : w_5.cell? ⟨g2, 2, none⟩ = some (.string (⟨#[]⟩ : ByteArray)) := (blk_cell BKg2.out 2).trans rfl; have hfg2_2 := blk_frozen BKg2.out 2; have hxg2_3 : w_5.cell? ⟨g2, 3, none⟩ = some (.slice none 0 0) := (blk_cell BKg2.out 3).trans rfl; have hfg2_3 := blk_frozen BKg2.out 3; have hxg3_0 : w_5.cell? ⟨g3, 0, none⟩ = some (.string (⟨#[68, 65, 86, 58]⟩ : ByteArray)) := (blk_cell BKg3.out 0).trans rfl; have hfg3_0 := blk_frozen BKg3.out 0; have hxg3_1 : w_5.cell? ⟨g3, 1, none⟩ = some (.string (⟨#[112, 114, 111, 112, 101, 114, 116, 121, 117, 112, 100, 97, 116, 101]⟩ : ByteArray)) := (blk_cell BKg3.out 1).trans rfl; have hfg3_1 := blk_frozen BKg3.out 1; have hxg3_2 : w_5.cell? ⟨g3, 2, none⟩ = some (.string (⟨#[]⟩ : ByteArray)) := (blk_cell BKg3.out 2).trans rfl; have hfg3_2 := blk_frozen BKg3.out 2; have hxg3_3 : w_5.cell? ⟨g3, 3, none⟩ = some (.slice Au acc.length cu) := (blk_cell BKg3.out 3).trans rfl; have hfg3_3 := blk_frozen BKg3.out 3; have hxg7_0 : w_5.cell? ⟨g7, 0, none⟩ = some (.string (rd_T42 l0 x).f1.f0) := (blk_cell BKg7.out 0).trans rfl; have hfg7_0 := blk_frozen BKg7.out 0; have hxg7_1 : w_5.cell? ⟨g7, 1, none⟩ = some (.string (rd_T42 l0 x).f1.f1) := (blk_cell BKg7.out 1).trans rfl; have hfg7_1 := blk_frozen BKg7.out 1; have hxg7_2 : w_5.cell? ⟨g7, 2, none⟩ = some (.string (rd_T42 l0 x).f1.f2) := (blk_cell BKg7.out 2).trans rfl; have hfg7_2 := blk_frozen BKg7.out 2; have hxg7_3 : w_5.cell? ⟨g7, 3, none⟩ = some (.slice none 0 0) := (blk_cell BKg7.out 3).trans rfl; have hfg7_3 := blk_frozen BKg7.out 3; have hxg8_0 : w_5.cell? ⟨g8, 0, none⟩ = some (.string (⟨#[]⟩ : ByteArray)) := (blk_cell BKg8.out 0).trans rfl; have hfg8_0 := blk_frozen BKg8.out 0; have hxg8_1 : w_5.cell? ⟨g8, 1, none⟩ = some (.string (⟨#[]⟩ : ByteArray)) := (blk_cell BKg8.out 1).trans rfl; have hfg8_1 := blk_frozen BKg8.out 1; have hxg8_2 : w_5.cell? ⟨g8, 2, none⟩ = some (.string (⟨#[]⟩ : ByteArray)) := (blk_cell BKg8.out 2).trans rfl; have hfg8_2 := blk_frozen BKg8.out 2; have hxg8_3 : w_5.cell? ⟨g8, 3, none⟩ = some (.slice none 0 0) := (blk_cell BKg8.out 3).trans rfl; have hfg8_3 := blk_frozen BKg8.out 3; clear HV0; have HV0 := A_ hv8_; clear hv8_) | ((with_reducible refine gate_store (t := 26) (p := 8) rfl ?_); apply box_store (g := g8); (case hrun => first | (go_simp; done) | (go_simp; rfl)); (case _ho => rfl); (case hN => rfl); (case hgd => rfl); (case hs => repeat (first | (with_reducible exact Sto.refl _ _) | refine Sto.step ?_ _ _)); (case hb => repeat (first | (with_reducible exact IsBlk.of BKg8.out) | (with_reducible apply IsBlk.set))); intro w_6 hw' bk_; simp only [List.setIfInBounds_toArray, List.set_cons_zero, List.set_cons_succ] at bk_; have m0_ : Aside0 (w_6.heap[g2]? = some (.cells #[.string (⟨#[]⟩ : ByteArray), .string (⟨#[]⟩ : ByteArray), .string (⟨#[]⟩ : ByteArray), .slice none 0 0] 26 (0, 0))) := ⟨stored_blk hw' BKg2.out hn_g2_g8⟩; have m1_ : Aside0 (w_6.heap[g3]? = some (.cells #[.string (⟨#[68, 65, 86, 58]⟩ : ByteArray), .string (⟨#[112, 114, 111, 112, 101, 114, 116, 121, 117, 112, 100, 97, 116, 101]⟩ : ByteArray), .string (⟨#[]⟩ : ByteArray), .slice Au acc.length cu] 26 (0, 0))) := ⟨stored_blk hw' BKg3.out hn_g3_g8⟩; have m2_ : Aside0 (w_6.heap[g7]? = some (.cells #[.string (rd_T42 l0 x).f1.f0, .string (rd_T42 l0 x).f1.f1, .string (rd_T42 l0 x).f1.f2, .slice none 0 0] 26 (0, 0))) := ⟨stored_blk hw' BKg7.out hn_g7_g8⟩; have m3_ : Aside0 (Kd.S kA 26 w_6 w.heap.size (fun k_ => (((k_ ≠ g2 /\ k_ ≠ g3) /\ k_ ≠ g7) /\ k_ ≠ g8)) (.slice Au acc.length cu) acc) := ⟨stored_S hw' HO.out (fun _ hk => hk.2)⟩; have m4_ : Aside0 (Below w.heap.size w w_6) := ⟨stored_below hw' HB.out GEg8.out⟩; have m5_ : Aside0 (w_6.heap[g8]? = some (.cells #[.string (⟨#[68, 65, 86, 58]⟩ : ByteArray), .string (⟨#[112, 114, 111, 112]⟩ : ByteArray), .string (⟨#[]⟩ : ByteArray), .slice (some ⟨b1, 0, none⟩) 1 1] 26 (0, 0))) := ⟨bk_⟩; (try clear hxg2_0 hfg2_0 hxg2_1 hfg2_1 hxg2_2 hfg2_2 hxg2_3 hfg2_3 hxg3_0 hfg3_0 hxg3_1 hfg3_1 hxg3_2 hfg3_2 hxg3_3 hfg3_3 hxg7_0 hfg7_0 hxg7_1 hfg7_1 hxg7_2 hfg7_2 hxg7_3 hfg7_3 hxg8_0 hfg8_0 hxg8_1 hfg8_1 hxg8_2 hfg8_2 hxg8_3 hfg8_3); (try clear BKg2); (try clear BKg3); (try clear BKg7); (try clear HO); (try clear HB); (try clear BKg8); have BKg2 := m0_; have BKg3 := m1_; have BKg7 := m2_; have HO := m3_; have HB := m4_; have BKg8 := m5_; clear m0_ m1_ m2_ m3_ m4_ m5_; have e0_ : Aside0 (Kd.S kA 26 w_6 w.heap.size (fun k_ => (((k_ ≠ g2 /\ k_ ≠ g3) /\ k_ ≠ g7)) /\ k_ < nb) (.slice Au acc.length cu) acc) := ⟨stored_S hw' HOn.out (fun k_ hk => fun e_ => absurd hk.2 (by rw [e_]; exact Nat.not_lt.2 HG8.out))⟩; have e1_ : Aside0 (Kd.S kA 26 w_6 w.heap.size (fun k_ => nb <= k_ /\ k_ ≠ g8) (.slice (some ⟨b1, 0, none⟩) 1 1) [(⟨(rd_T42 l0 x).f1.f0, (rd_T42 l0 x).f1.f1, (rd_T42 l0 x).f1.f2, []⟩ : S26)]) := ⟨stored_S hw' HV0.out (fun _ hk => hk.2)⟩; have e2_ : Aside0 (nb <= w_6.heap.size) := ⟨Nat.le_trans HNB.out (Nat.le_of_eq (stored_size hw'))⟩; clear HOn; clear HV0; clear HNB; have HOn := e0_; have HV0 := e1_; have HNB := e2_; clear e0_ e1_ e2_; clear hw' bk_; have hxg2_0 : w_6.cell? ⟨g2, 0, none⟩ = some (.string (⟨#[]⟩ : ByteArray)) := (blk_cell BKg2.out 0).trans rfl; have hfg2_0 := blk_frozen BKg2.out 0; have hxg2_1 : w_6.cell? ⟨g2, 1, none⟩ = some (.string (⟨#[]⟩ : ByteArray)) := (blk_cell BKg2.out 1).trans rfl; have hfg2_1 := blk_frozen BKg2.out 1; have hxg2_2 : w_6.cell? ⟨g2, 2, none⟩ = some (.string (⟨#[]⟩ : ByteArray)) := (blk_cell BKg2.out 2).trans rfl; have hfg2_2 := blk_frozen BKg2.out 2; have hxg2_3 : w_6.cell? ⟨g2, 3, none⟩ = some (.slice none 0 0) := (blk_cell BKg2.out 3).trans rfl; have hfg2_3 := blk_frozen BKg2.out 3; have hxg3_0 : w_6.cell? ⟨g3, 0, none⟩ = some (.string (⟨#[68, 65, 86, 58]⟩ : ByteArray)) := (blk_cell BKg3.out 0).trans rfl; have hfg3_0 := blk_frozen BKg3.out 0; have hxg3_1 : w_6.cell? ⟨g3, 1, none⟩ = some (.string (⟨#[112, 114, 111, 112, 101, 114, 116, 121, 117, 112, 100, 97, 116, 101]⟩ : ByteArray)) := (blk_cell BKg3.out 1).trans rfl; have hfg3_1 := blk_frozen BKg3.out 1; have hxg3_2 : w_6.cell? ⟨g3, 2, none⟩ = some (.string (⟨#[]⟩ : ByteArray)) := (blk_cell BKg3.out 2).trans rfl; have hfg3_2 := blk_frozen BKg3.out 2; have hxg3_3 : w_6.cell? ⟨g3, 3, none⟩ = some (.slice Au acc.length cu) := (blk_cell BKg3.out 3).trans rfl; have hfg3_3 := blk_frozen BKg3.out 3; have hxg7_0 : w_6.cell? ⟨g7, 0, none⟩ = some (.string (rd_T42 l0 x).f1.f0) := (blk_cell BKg7.out 0).trans rfl; have hfg7_0 := blk_frozen BKg7.out 0; have hxg7_1 : w_6.cell? ⟨g7, 1, none⟩ = some (.string (rd_T42 l0 x).f1.f1) := (blk_cell BKg7.out 1).trans rfl; have hfg7_1 := blk_frozen BKg7.out 1; have hxg7_2 : w_6.cell? ⟨g7, 2, none⟩ = some (.string (rd_T42 l0 x).f1.f2) := (blk_cell BKg7.out 2).trans rfl; have hfg7_2 := blk_frozen BKg7.out 2; have hxg7_3 : w_6.cell? ⟨g7, 3, none⟩ = some (.slice none 0 0) := (blk_cell BKg7.out 3).trans rfl; have hfg7_3 := blk_frozen BKg7.out 3; have hxg8_0 : w_6.cell? ⟨g8, 0, none⟩ = some (.string (⟨#[68, 65, 86, 58]⟩ : ByteArray)) := (blk_cell BKg8.out 0).trans rfl; have hfg8_0 := blk_frozen BKg8.out 0; have hxg8_1 : w_6.cell? ⟨g8, 1, none⟩ = some (.string (⟨#[112, 114, 111, 112]⟩ : ByteArray)) := (blk_cell BKg8.out 1).trans rfl; have hfg8_1 := blk_frozen BKg8.out 1; have hxg8_2 : w_6.cell? ⟨g8, 2, none⟩ = some (.string (⟨#[]⟩ : ByteArray)) := (blk_cell BKg8.out 2).trans rfl; have hfg8_2 := blk_frozen BKg8.out 2; have hxg8_3 : w_6.cell? ⟨g8, 3, none⟩ = some (.slice (some ⟨b1, 0, none⟩) 1 1) := (blk_cell BKg8.out 3).trans rfl; have hfg8_3 := blk_frozen BKg8.out 3) | ((with_reducible refine gd_ (N := 48) rfl ?_); refine lit1 kA w.heap.size 26 rfl (N := 48) rfl (p := (⟨(⟨#[68, 65, 86, 58]⟩ : ByteArray), (⟨#[112, 114, 111, 112]⟩ : ByteArray), (⟨#[]⟩ : ByteArray), [(⟨(rd_T42 l0 x).f1.f0, (rd_T42 l0 x).f1.f1, (rd_T42 l0 x).f1.f2, []⟩ : S26)]⟩ : S26)) (cs := [.string (⟨#[68, 65, 86, 58]⟩ : ByteArray), .string (⟨#[112, 114, 111, 112]⟩ : ByteArray), .string (⟨#[]⟩ : ByteArray), .slice (some ⟨b1, 0, none⟩) 1 1]) (ok := fun k_ => nb <= k_ /\ k_ ≠ g8) (okp := fun k_ => nb <= k_ /\ k_ ≠ g8) ?hr ?hp (fun _ h_ => h_) ?hf ?hs ?_; (case hr => first | (go_simp; done) | (go_simp; rfl)); (case hp => exact kA_mkM _ _ _ (⟨(⟨#[68, 65, 86, 58]⟩ : ByteArray), (⟨#[112, 114, 111, 112]⟩ : ByteArray), (⟨#[]⟩ : ByteArray), [(⟨(rd_T42 l0 x).f1.f0, (rd_T42 l0 x).f1.f1, (rd_T42 l0 x).f1.f2, []⟩ : S26)]⟩ : S26) HV0.out); (case hf => exact ⟨HNB.out, Nat.ne_of_gt (blk_lt BKg8.out)⟩); (case hs => exact below_size HB.out); intro b2 w_7 hg_ hv_ hb_; have m0_ : Aside0 (w_7.heap[g2]? = some (.cells #[.string (⟨#[]⟩ : ByteArray), .string (⟨#[]⟩ : ByteArray), .string (⟨#[]⟩ : ByteArray), .slice none 0 0] 26 (0, 0))) := ⟨blk_below BKg2.out hb_⟩; have m1_ : Aside0 (w_7.heap[g3]? = some (.cells #[.string (⟨#[68, 65, 86, 58]⟩ : ByteArray), .string (⟨#[112, 114, 111, 112, 101, 114, 116, 121, 117, 112, 100, 97, 116, 101]⟩ : ByteArray), .string (⟨#[]⟩ : ByteArray), .slice Au acc.length cu] 26 (0, 0))) := ⟨blk_below BKg3.out hb_⟩; have m2_ : Aside0 (w_7.heap[g7]? = some (.cells #[.string (rd_T42 l0 x).f1.f0, .string (rd_T42 l0 x).f1.f1, .string (rd_T42 l0 x).f1.f2, .slice none 0 0] 26 (0, 0))) := ⟨blk_below BKg7.out hb_⟩; have m3_ : Aside0 (w_7.heap[g8]? = some (.cells #[.string (⟨#[68, 65, 86, 58]⟩ : ByteArray), .string (⟨#[112, 114, 111, 112]⟩ : ByteArray), .string (⟨#[]⟩ : ByteArray), .slice (some ⟨b1, 0, none⟩) 1 1] 26 (0, 0))) := ⟨blk_below BKg8.out hb_⟩; have m4_ : Aside0 (Kd.S kA 26 w_7 w.heap.size (fun k_ => (((k_ ≠ g2 /\ k_ ≠ g3) /\ k_ ≠ g7) /\ k_ ≠ g8)) (.slice Au acc.length cu) acc) := ⟨Kd.S_below HO.out hb_⟩; have m5_ : Aside0 (Kd.S kA 26 w_7 w.heap.size (fun k_ => nb <= k_ /\ k_ ≠ g8) (.slice (some ⟨b1, 0, none⟩) 1 1) [(⟨(rd_T42 l0 x).f1.f0, (rd_T42 l0 x).f1.f1, (rd_T42 l0 x).f1.f2, []⟩ : S26)]) := ⟨Kd.S_below HV0.out hb_⟩; have m6_ : Aside0 (nb <= w_7.heap.size) := ⟨Nat.le_trans HNB.out (below_size hb_)⟩; have m7_ : Aside0 (Below w.heap.size w w_7) := ⟨below_step HB.out hb_⟩; have m8_ : Aside0 (Kd.S kA 26 w_7 w.heap.size (fun k_ => (((k_ ≠ g2 /\ k_ ≠ g3) /\ k_ ≠ g7)) /\ k_ < nb) (.slice Au acc.length cu) acc) := ⟨Kd.S_below HOn.out hb_⟩; have m9_ : Aside0 (Kd.S kA 26 w_7 w.heap.size (fun k_ => nb <= k_ /\ k_ ≠ g8) (.slice (some ⟨b2, 0, none⟩) 1 1) [(⟨(⟨#[68, 65, 86, 58]⟩ : ByteArray), (⟨#[112, 114, 111, 112]⟩ : ByteArray), (⟨#[]⟩ : ByteArray), [(⟨(rd_T42 l0 x).f1.f0, (rd_T42 l0 x).f1.f1, (rd_T42 l0 x).f1.f2, []⟩ : S26)]⟩ : S26)]) := ⟨hv_⟩; (try clear hxg2_0 hfg2_0 hxg2_1 hfg2_1 hxg2_2 hfg2_2 hxg2_3 hfg2_3 hxg3_0 hfg3_0 hxg3_1 hfg3_1 hxg3_2 hfg3_2 hxg3_3 hfg3_3 hxg7_0 hfg7_0 hxg7_1 hfg7_1 hxg7_2 hfg7_2 hxg7_3 hfg7_3 hxg8_0 hfg8_0 hxg8_1 hfg8_1 hxg8_2 hfg8_2 hxg8_3 hfg8_3); (try clear BKg2); (try clear BKg3); (try clear BKg7); (try clear BKg8); (try clear HO); (try clear HV0); (try clear HNB); (try clear HB); (try clear HOn); (try clear HV1); have BKg2 := m0_; have BKg3 := m1_; have BKg7 := m2_; have BKg8 := m3_; have HO := m4_; have HV0 := m5_; have HNB := m6_; have HB := m7_; have HOn := m8_; have HV1 := m9_; clear m0_ m1_ m2_ m3_ m4_ m5_ m6_ m7_ m8_ m9_; clear hb_ hv_ hg_; have hxg2_0 : w_7.cell? ⟨g2, 0, none⟩ = some (.string (⟨#[]⟩ : ByteArray)) := (blk_cell BKg2.out 0).trans rfl; have hfg2_0 := blk_frozen BKg2.out 0; have hxg2_1 : w_7.cell? ⟨g2, 1, none⟩ = some (.string (⟨#[]⟩ : ByteArray)) := (blk_cell BKg2.out 1).trans rfl; have hfg2_1 := blk_frozen BKg2.out 1; have hxg2_2 : w_7.cell? ⟨g2, 2, none⟩ = some (.string (⟨#[]⟩ : ByteArray)) := (blk_cell BKg2.out 2).trans rfl; have hfg2_2 := blk_frozen BKg2.out 2; have hxg2_3 : w_7.cell? ⟨g2, 3, none⟩ = some (.slice none 0 0) := (blk_cell BKg2.out 3).trans rfl; have hfg2_3 := blk_frozen BKg2.out 3; have hxg3_0 : w_7.cell? ⟨g3, 0, none⟩ = some (.string (⟨#[68, 65, 86, 58]⟩ : ByteArray)) := (blk_cell BKg3.out 0).trans rfl; have hfg3_0 := blk_frozen BKg3.out 0; have hxg3_1 : w_7.cell? ⟨g3, 1, none⟩ = some (.string (⟨#[112, 114, 111, 112, 101, 114, 116, 121, 117, 112, 100, 97, 116, 101]⟩ : ByteArray)) := (blk_cell BKg3.out 1).trans rfl; have hfg3_1 := blk_frozen BKg3.out 1; have hxg3_2 : w_7.cell? ⟨g3, 2, none⟩ = some (.string (⟨#[]⟩ : ByteArray)) := (blk_cell BKg3.out 2).trans rfl; have hfg3_2 := blk_frozen BKg3.out 2; have hxg3_3 : w_7.cell? ⟨g3, 3, none⟩ = some (.slice Au acc.length cu) := (blk_cell BKg3.out 3).trans rfl; have hfg3_3 := blk_frozen BKg3.out 3; have hxg7_0 : w_7.cell? ⟨g7, 0, none⟩ = some (.string (rd_T42 l0 x).f1.f0) := (blk_cell BKg7.out 0).trans rfl; have hfg7_0 := blk_frozen BKg7.out 0; have hxg7_1 : w_7.cell? ⟨g7, 1, none⟩ = some (.string (rd_T42 l0 x).f1.f1) := (blk_cell BKg7.out 1).trans rfl; have hfg7_1 := blk_frozen BKg7.out 1; have hxg7_2 : w_7.cell? ⟨g7, 2, none⟩ = some (.string (rd_T42 l0 x).f1.f2) := (blk_cell BKg7.out 2).trans rfl; have hfg7_2 := blk_frozen BKg7.out 2; have hxg7_3 : w_7.cell? ⟨g7, 3, none⟩ = some (.slice none 0 0) := (blk_cell BKg7.out 3).trans rfl; have hfg7_3 := blk_frozen BKg7.out 3; have hxg8_0 : w_7.cell? ⟨g8, 0, none⟩ = some (.string (⟨#[68, 65, 86, 58]⟩ : ByteArray)) := (blk_cell BKg8.out 0).trans rfl; have hfg8_0 := blk_frozen BKg8.out 0; have hxg8_1 : w_7.cell? ⟨g8, 1, none⟩ = some (.string (⟨#[112, 114, 111, 112]⟩ : ByteArray)) := (blk_cell BKg8.out 1).trans rfl; have hfg8_1 := blk_frozen BKg8.out 1; have hxg8_2 : w_7.cell? ⟨g8, 2, none⟩ = some (.string (⟨#[]⟩ : ByteArray)) := (blk_cell BKg8.out 2).trans rfl; have hfg8_2 := blk_frozen BKg8.out 2; have hxg8_3 : w_7.cell? ⟨g8, 3, none⟩ = some (.slice (some ⟨b1, 0, none⟩) 1 1) := (blk_cell BKg8.out 3).trans rfl; have hfg8_3 := blk_frozen BKg8.out 3) | ((with_reducible refine gate_builtin (b := .append) (xs := #[.tmp 45, .tmp 50]) rfl ?_); at_builtin; refine Kd.S_append kA (w0 := w) w.heap.size rfl (.tmp 45) (.tmp 50) 24 26 (.agg #[(.string ⟨#[]⟩), (.string ⟨#[]⟩), (.string ⟨#[]⟩), (.slice none 0 0)]) 72 rfl Try.underlying24 info26 rfl (by decide) (by omega) (.slice Au acc.length cu) acc (⟨(⟨#[68, 65, 86, 58]⟩ : ByteArray), (⟨#[115, 101, 116]⟩ : ByteArray), (⟨#[]⟩ : ByteArray), [(⟨(⟨#[68, 65, 86, 58]⟩ : ByteArray), (⟨#[112, 114, 111, 112]⟩ : ByteArray), (⟨#[]⟩ : ByteArray), [(⟨(rd_T42 l0 x).f1.f0, (rd_T42 l0 x).f1.f1, (rd_T42 l0 x).f1.f2, []⟩ : S26)]⟩ : S26)]⟩ : S26) [.string (⟨#[68, 65, 86, 58]⟩ : ByteArray), .string (⟨#[115, 101, 116]⟩ : ByteArray), .string (⟨#[]⟩ : ByteArray), .slice (some ⟨b2, 0, none⟩) 1 1] (fun k_ => (((k_ ≠ g2 /\ k_ ≠ g3) /\ k_ ≠ g7) /\ k_ ≠ g8)) (fun k_ => nb <= k_ /\ k_ ≠ g8) rfl rfl ?aP ?aK ?aF ?aO ?aB ?aS ?aL ?_; (case aP => exact kA_mkM _ _ _ (⟨(⟨#[68, 65, 86, 58]⟩ : ByteArray), (⟨#[115, 101, 116]⟩ : ByteArray), (⟨#[]⟩ : ByteArray), [(⟨(⟨#[68, 65, 86, 58]⟩ : ByteArray), (⟨#[112, 114, 111, 112]⟩ : ByteArray), (⟨#[]⟩ : ByteArray), [(⟨(rd_T42 l0 x).f1.f0, (rd_T42 l0 x).f1.f1, (rd_T42 l0 x).f1.f2, []⟩ : S26)]⟩ : S26)]⟩ : S26) HV1.out); (case aK => exact fun k_ h_ => ⟨⟨⟨⟨(by have := HLg2.out; have : nb <= k_ := h_.1; omega), (by have := HLg3.out; have : nb <= k_ := h_.1; omega)⟩, (by have := HLg7.out; have : nb <= k_ := h_.1; omega)⟩, h_.2⟩, HU.out k_ h_.1⟩); (case aF => exact fun k_ h_ => ⟨⟨⟨(by have := blk_lt BKg2.out; have := h_; omega), (by have := blk_lt BKg3.out; have := h_; omega)⟩, (by have := blk_lt BKg7.out; have := h_; omega)⟩, (by have := blk_lt BKg8.out; have := h_; omega)⟩); (case aO => exact Kd.S_mono (Kd.S_bound HOn.out) (fun k_ h_ => ⟨⟨h_.1.1, (by have := HG8.out; have : k_ < nb := h_.1.2; omega)⟩, fun h2_ => absurd h_.1.2 (Nat.not_lt.2 h2_.1)⟩)); (case aB => exact HB.out); (case aS => exact below_size HB.out); (case aL => have := LM.out; omega); intro v1 w_8 ho_ hbb_ hg_ hat_; rw [← Ny.out] at ho_; obtain ⟨A1_, c1_, rfl⟩ := Kd.S_slice ho_; have m0_ : Aside0 (w_8.heap[g2]? = some (.cells #[.string (⟨#[]⟩ : ByteArray), .string (⟨#[]⟩ : ByteArray), .string (⟨#[]⟩ : ByteArray), .slice none 0 0] 26 (0, 0))) := ⟨blk_grown BKg2.out hg_ (Kd.S_away HO.out (fun _ hk => hk.1.1.1))⟩; have m1_ : Aside0 (w_8.heap[g3]? = some (.cells #[.string (⟨#[68, 65, 86, 58]⟩ : ByteArray), .string (⟨#[112, 114, 111, 112, 101, 114, 116, 121, 117, 112, 100, 97, 116, 101]⟩ : ByteArray), .string (⟨#[]⟩ : ByteArray), .slice Au acc.length cu] 26 (0, 0))) := ⟨blk_grown BKg3.out hg_ (Kd.S_away HO.out (fun _ hk => hk.1.1.2))⟩; have m2_ : Aside0 (w_8.heap[g7]? = some (.cells #[.string (rd_T42 l0 x).f1.f0, .string (rd_T42 l0 x).f1.f1, .string (rd_T42 l0 x).f1.f2, .slice none 0 0] 26 (0, 0))) := ⟨blk_grown BKg7.out hg_ (Kd.S_away HO.out (fun _ hk => hk.1.2))⟩; have m3_ : Aside0 (w_8.heap[g8]? = some (.cells #[.string (⟨#[68, 65, 86, 58]⟩ : ByteArray), .string (⟨#[112, 114, 111, 112]⟩ : ByteArray), .string (⟨#[]⟩ : ByteArray), .slice (some ⟨b1, 0, none⟩) 1 1] 26 (0, 0))) := ⟨blk_grown BKg8.out hg_ (Kd.S_away HO.out (fun _ hk => hk.2))⟩; have m4_ : Aside0 (Kd.S kA 26 w_8 w.heap.size (fun k_ => (((k_ ≠ g2 /\ k_ ≠ g3) /\ k_ ≠ g7) /\ k_ ≠ g8)) (.slice A1_ y.length c1_) y) := ⟨ho_⟩; have m5_ : Aside0 (Below w.heap.size w w_8) := ⟨hbb_⟩; (try clear hxg2_0 hfg2_0 hxg2_1 hfg2_1 hxg2_2 hfg2_2 hxg2_3 hfg2_3 hxg3_0 hfg3_0 hxg3_1 hfg3_1 hxg3_2 hfg3_2 hxg3_3 hfg3_3 hxg7_0 hfg7_0 hxg7_1 hfg7_1 hxg7_2 hfg7_2 hxg7_3 hfg7_3 hxg8_0 hfg8_0 hxg8_1 hfg8_1 hxg8_2 hfg8_2 hxg8_3 hfg8_3); (try clear BKg2); (try clear BKg3); (try clear BKg7); (try clear BKg8); (try clear HO); (try clear HB); have BKg2 := m0_; have BKg3 := m1_; have BKg7 := m2_; have BKg8 := m3_; have HO := m4_; have HB := m5_; clear m0_ m1_ m2_ m3_ m4_ m5_; clear ho_ hbb_ hg_ hat_; have hxg2_0 : w_8.cell? ⟨g2, 0, none⟩ = some (.string (⟨#[]⟩ : ByteArray)) := (blk_cell BKg2.out 0).trans rfl; have hfg2_0 := blk_frozen BKg2.out 0; have hxg2_1 : w_8.cell? ⟨g2, 1, none⟩ = some (.string (⟨#[]⟩ : ByteArray)) := (blk_cell BKg2.out 1).trans rfl; have hfg2_1 := blk_frozen BKg2.out 1; have hxg2_2 : w_8.cell? ⟨g2, 2, none⟩ = some (.string (⟨#[]⟩ : ByteArray)) := (blk_cell BKg2.out 2).trans rfl; have hfg2_2 := blk_frozen BKg2.out 2; have hxg2_3 : w_8.cell? ⟨g2, 3, none⟩ = some (.slice none 0 0) := (blk_cell BKg2.out 3).trans rfl; have hfg2_3 := blk_frozen BKg2.out 3; have hxg3_0 : w_8.cell? ⟨g3, 0, none⟩ = some (.string (⟨#[68, 65, 86, 58]⟩ : ByteArray)) := (blk_cell BKg3.out 0).trans rfl; have hfg3_0 := blk_frozen BKg3.out 0; have hxg3_1 : w_8.cell? ⟨g3, 1, none⟩ = some (.string (⟨#[112, 114, 111, 112, 101, 114, 116, 121, 117, 112, 100, 97, 116, 101]⟩ : ByteArray)) := (blk_cell BKg3.out 1).trans rfl; have hfg3_1 := blk_frozen BKg3.out 1; have hxg3_2 : w_8.cell? ⟨g3, 2, none⟩ = some (.string (⟨#[]⟩ : ByteArray)) := (blk_cell BKg3.out 2).trans rfl; have hfg3_2 := blk_frozen BKg3.out 2; have hxg3_3 : w_8.cell? ⟨g3, 3, none⟩ = some (.slice Au acc.length cu) := (blk_cell BKg3.out 3).trans rfl; have hfg3_3 := blk_frozen BKg3.out 3; have hxg7_0 : w_8.cell? ⟨g7, 0, none⟩ = some (.string (rd_T42 l0 x).f1.f0) := (blk_cell BKg7.out 0).trans rfl; have hfg7_0 := blk_frozen BKg7.out 0; have hxg7_1 : w_8.cell? ⟨g7, 1, none⟩ = some (.string (rd_T42 l0 x).f1.f1) := (blk_cell BKg7.out 1).trans rfl; have hfg7_1 := blk_frozen BKg7.out 1; have hxg7_2 : w_8.cell? ⟨g7, 2, none⟩ = some (.string (rd_T42 l0 x).f1.f2) := (blk_cell BKg7.out 2).trans rfl; have hfg7_2 := blk_frozen BKg7.out 2; have hxg7_3 : w_8.cell? ⟨g7, 3, none⟩ = some (.slice none 0 0) := (blk_cell BKg7.out 3).trans rfl; have hfg7_3 := blk_frozen BKg7.out 3; have hxg8_0 : w_8.cell? ⟨g8, 0, none⟩ = some (.string (⟨#[68, 65, 86, 58]⟩ : ByteArray)) := (blk_cell BKg8.out 0).trans rfl; have hfg8_0 := blk_frozen BKg8.out 0; have hxg8_1 : w_8.cell? ⟨g8, 1, none⟩ = some (.string (⟨#[112, 114, 111, 112]⟩ : ByteArray)) := (blk_cell BKg8.out 1).trans rfl; have hfg8_1 := blk_frozen BKg8.out 1; have hxg8_2 : w_8.cell? ⟨g8, 2, none⟩ = some (.string (⟨#[]⟩ : ByteArray)) := (blk_cell BKg8.out 2).trans rfl; have hfg8_2 := blk_frozen BKg8.out 2; have hxg8_3 : w_8.cell? ⟨g8, 3, none⟩ = some (.slice (some ⟨b1, 0, none⟩) 1 1) := (blk_cell BKg8.out 3).trans rfl; have hfg8_3 := blk_frozen BKg8.out 3))
     try go_wp2
     go_roundg k1
     case measure => have := HK1.out; omega
     case rel => exact ⟨wrap64 (x + 1), y, (.slice A1_ y.length c1_), rfl, H', ⟨by have := HK1.out; omega⟩, ⟨Kd.S_far (p := ⟨g3, 3, none⟩) (Kd.S_mono HO.out (fun _ hk => ⟨hk.1.1.1, hk.1.1.2⟩)) (fun _ hk => hk.2) _⟩, ⟨blk_far BKg2.out hn_g2_g3 _⟩, ⟨blk_put (cs := #[.string (⟨#[68, 65, 86, 58]⟩ : ByteArray), .string (⟨#[112, 114, 111, 112, 101, 114, 116, 121, 117, 112, 100, 97, 116, 101]⟩ : ByteArray), .string (⟨#[]⟩ : ByteArray), .slice Au acc.length cu]) BKg3.out 3 _ rfl⟩, ⟨below_set HB.out GEg3.out⟩⟩
   . have hEl_ : setNode_ (rd_T42 l0 x) = (⟨(⟨#[68, 65, 86, 58]⟩ : ByteArray), (⟨#[114, 101, 109, 111, 118, 101]⟩ : ByteArray), (⟨#[]⟩ : ByteArray), [(⟨(⟨#[68, 65, 86, 58]⟩ : ByteArray), (⟨#[112, 114, 111, 112]⟩ : ByteArray), (⟨#[]⟩ : ByteArray), [(⟨(rd_T42 l0 x).f1.f0, (rd_T42 l0 x).f1.f1, (⟨#[]⟩ : ByteArray), []⟩ : S26)]⟩ : S26)]⟩ : S26) := by unfold setNode_; rw [hd]; rfl
     rw [hEl_] at H
     clear hEl_
     obtain ⟨y, hy_⟩ : ∃ y_ : List (S26), y_ = acc ++ [(⟨(⟨#[68, 65, 86, 58]⟩ : ByteArray), (⟨#[114, 101, 109, 111, 118, 101]⟩ : ByteArray), (⟨#[]⟩ : ByteArray), [(⟨(⟨#[68, 65, 86, 58]⟩ : ByteArray), (⟨#[112, 114, 111, 112]⟩ : ByteArray), (⟨#[]⟩ : ByteArray), [(⟨(rd_T42 l0 x).f1.f0, (rd_T42 l0 x).f1.f1, (⟨#[]⟩ : ByteArray), []⟩ : S26)]⟩ : S26)]⟩ : S26)] := ⟨_, rfl⟩
     rw [← hy_] at H
     have Ny := A_ hy_
     clear hy_
     have H' := A_ H
     clear H
     try go_wp2
     refine start_ (n := 16) (S := fun w' => w'.cell? ⟨(ade.add ((x).toNat * 4)).block, (ade.add ((x).toNat * 4)).off + 1, none⟩ = some (.string (rd_T42 l0 x).f1.f0) /\ w'.cell? ⟨(ade.add ((x).toNat * 4)).block, (ade.add ((x).toNat * 4)).off + 2, none⟩ = some (.string (rd_T42 l0 x).f1.f1)) (ds := [15]) #[false, false, false, false, false, false, false, false, false, false, false, false, false, false, false, false] (by kernel_rfl) rfl rfl ⟨he1, he2⟩ (fun hHeld => ?_); refine with_tabW spec_SetsNode.tab10 spec_SetsNode.bits10 (fun HT_ HW_ => ?_)
     generalize hWd_ : wr.drew = w_1 at hHeld ⊢
     have hb_ : Below wr.heap.size wr w_1 := (by rw [← hWd_]; exact below_drew (Below.refl _ _))
     clear hWd_
     have m0_ : Aside0 (w_1.heap[g2]? = some (.cells #[.string (⟨#[]⟩ : ByteArray), .string (⟨#[]⟩ : ByteArray), .string (⟨#[]⟩ : ByteArray), .slice none 0 0] 26 (0, 0))) := ⟨blk_below BKg2.out hb_⟩
     have m1_ : Aside0 (w_1.heap[g3]? = some (.cells #[.string (⟨#[68, 65, 86, 58]⟩ : ByteArray), .string (⟨#[112, 114, 111, 112, 101, 114, 116, 121, 117, 112, 100, 97, 116, 101]⟩ : ByteArray), .string (⟨#[]⟩ : ByteArray), .slice Au acc.length cu] 26 (0, 0))) := ⟨blk_below BKg3.out hb_⟩
     have m2_ : Aside0 (Kd.S kA 26 w_1 w.heap.size (fun k_ => (k_ ≠ g2 /\ k_ ≠ g3)) (.slice Au acc.length cu) acc) := ⟨Kd.S_below HO.out hb_⟩
     have m3_ : Aside0 (Below w.heap.size w w_1) := ⟨below_step HB.out hb_⟩
     (try clear hxg2_0 hfg2_0 hxg2_1 hfg2_1 hxg2_2 hfg2_2 hxg2_3 hfg2_3 hxg3_0 hfg3_0 hxg3_1 hfg3_1 hxg3_2 hfg3_2 hxg3_3 hfg3_3)
     (try clear BKg2)
     (try clear BKg3)
     (try clear HO)
     (try clear HB)
     have BKg2 := m0_
     have BKg3 := m1_
     have HO := m2_
     have HB := m3_
     clear m0_ m1_ m2_ m3_
     clear hb_
     have hxg2_0 : w_1.cell? ⟨g2, 0, none⟩ = some (.string (⟨#[]⟩ : ByteArray)) := (blk_cell BKg2.out 0).trans rfl
     have hfg2_0 := blk_frozen BKg2.out 0
     have hxg2_1 : w_1.cell? ⟨g2, 1, none⟩ = some (.string (⟨#[]⟩ : ByteArray)) := (blk_cell BKg2.out 1).trans rfl
     have hfg2_1 := blk_frozen BKg2.out 1
     have hxg2_2 : w_1.cell? ⟨g2, 2, none⟩ = some (.string (⟨#[]⟩ : ByteArray)) := (blk_cell BKg2.out 2).trans rfl
     have hfg2_2 := blk_frozen BKg2.out 2
     have hxg2_3 : w_1.cell? ⟨g2, 3, none⟩ = some (.slice none 0 0) := (blk_cell BKg2.out 3).trans rfl
     have hfg2_3 := blk_frozen BKg2.out 3
     have hxg3_0 : w_1.cell? ⟨g3, 0, none⟩ = some (.string (⟨#[68, 65, 86, 58]⟩ : ByteArray)) := (blk_cell BKg3.out 0).trans rfl
     have hfg3_0 := blk_frozen BKg3.out 0
     have hxg3_1 : w_1.cell? ⟨g3, 1, none⟩ = some (.string (⟨#[112, 114, 111, 112, 101, 114, 116, 121, 117, 112, 100, 97, 116, 101]⟩ : ByteArray)) := (blk_cell BKg3.out 1).trans rfl
     have hfg3_1 := blk_frozen BKg3.out 1
     have hxg3_2 : w_1.cell? ⟨g3, 2, none⟩ = some (.string (⟨#[]⟩ : ByteArray)) := (blk_cell BKg3.out 2).trans rfl
     have hfg3_2 := blk_frozen BKg3.out 2
     have hxg3_3 : w_1.cell? ⟨g3, 3, none⟩ = some (.slice Au acc.length cu) := (blk_cell BKg3.out 3).trans rfl
     have hfg3_3 := blk_frozen BKg3.out 3
     refine pu_ (i := 0) (N := some 27) ?_
     refine pu_ (i := 1) (N := some 28) ?_
     refine pu_ (i := 2) (N := some 29) ?_
     refine pu_ (i := 3) (N := some 30) ?_
     refine pu_ (i := 4) (N := some 31) ?_
     refine pu_ (i := 6) (N := some 33) ?_
     refine pu_ (i := 7) (N := some 34) ?_
     refine pu_ (i := 8) (N := some 35) ?_
     refine pu_ (i := 9) (N := some 36) ?_
     refine pu_ (i := 10) (N := some 37) ?_
     refine pu_ (i := 12) (N := some 39) ?_
     refine tk_ (i := 5) (N := some 32) hHeld ?_
     refine tk_ (i := 11) (N := some 38) hHeld ?_
     refine pu_ (i := 13) (N := some 40) ?_
     refine on_ (i := 14) (N := some 7) (fun K hK => ?_)
     refine box_step ?hg (N := 7) ?hd (cs := #[.string (⟨#[]⟩ : ByteArray), .string (⟨#[]⟩ : ByteArray), .string (⟨#[]⟩ : ByteArray), .slice none 0 0]) (t := 26) ?hr ?_
     (case hd => rfl)
     (case hg => rfl)
     (case hr => first | (go_simp; done) | (go_simp; rfl))
     intro g7 hg_ w_2 hbox_ hb_
     have hS0_ := pw_cell_below hb_ hHeld.1
     have hS1_ := pw_cell_below hb_ hHeld.2
     have hn_g2_g7 : g2 ≠ g7 := (by have := blk_lt BKg2.out; rw [hg_]; omega)
     have hn_g7_g2 : g7 ≠ g2 := (by have := blk_lt BKg2.out; rw [hg_]; omega)
     have hn_g3_g7 : g3 ≠ g7 := (by have := blk_lt BKg3.out; rw [hg_]; omega)
     have hn_g7_g3 : g7 ≠ g3 := (by have := blk_lt BKg3.out; rw [hg_]; omega)
     have GEg7 : Aside0 (w.heap.size <= g7) := ⟨by rw [hg_]; exact below_size HB.out⟩
     have m0_ : Aside0 (w_2.heap[g2]? = some (.cells #[.string (⟨#[]⟩ : ByteArray), .string (⟨#[]⟩ : ByteArray), .string (⟨#[]⟩ : ByteArray), .slice none 0 0] 26 (0, 0))) := ⟨blk_below BKg2.out hb_⟩
     have m1_ : Aside0 (w_2.heap[g3]? = some (.cells #[.string (⟨#[68, 65, 86, 58]⟩ : ByteArray), .string (⟨#[112, 114, 111, 112, 101, 114, 116, 121, 117, 112, 100, 97, 116, 101]⟩ : ByteArray), .string (⟨#[]⟩ : ByteArray), .slice Au acc.length cu] 26 (0, 0))) := ⟨blk_below BKg3.out hb_⟩
     have m2_ : Aside0 (Kd.S kA 26 w_2 w.heap.size (fun k_ => ((k_ ≠ g2 /\ k_ ≠ g3) /\ k_ ≠ g7)) (.slice Au acc.length cu) acc) := ⟨Kd.S_below (Kd.S_elderB HO.out g7 (Nat.le_of_eq hg_.symm)) hb_⟩
     have m3_ : Aside0 (Below w.heap.size w w_2) := ⟨below_step HB.out hb_⟩
     have m4_ : Aside0 (w_2.heap[g7]? = some (.cells #[.string (⟨#[]⟩ : ByteArray), .string (⟨#[]⟩ : ByteArray), .string (⟨#[]⟩ : ByteArray), .slice none 0 0] 26 (0, 0))) := ⟨hbox_⟩
     (try clear hxg2_0 hfg2_0 hxg2_1 hfg2_1 hxg2_2 hfg2_2 hxg2_3 hfg2_3 hxg3_0 hfg3_0 hxg3_1 hfg3_1 hxg3_2 hfg3_2 hxg3_3 hfg3_3)
     (try clear BKg2)
     (try clear BKg3)
     (try clear HO)
     (try clear HB)
     (try clear BKg7)
     have BKg2 := m0_
     have BKg3 := m1_
     have HO := m2_
     have HB := m3_
     have BKg7 := m4_
     clear m0_ m1_ m2_ m3_ m4_
     clear hb_ hbox_ hg_
     have hxg2_0 : w_2.cell? ⟨g2, 0, none⟩ = some (.string (⟨#[]⟩ : ByteArray)) := (blk_cell BKg2.out 0).trans rfl
     have hfg2_0 := blk_frozen BKg2.out 0
     have hxg2_1 : w_2.cell? ⟨g2, 1, none⟩ = some (.string (⟨#[]⟩ : ByteArray)) := (blk_cell BKg2.out 1).trans rfl
     have hfg2_1 := blk_frozen BKg2.out 1
     have hxg2_2 : w_2.cell? ⟨g2, 2, none⟩ = some (.string (⟨#[]⟩ : ByteArray)) := (blk_cell BKg2.out 2).trans rfl
     have hfg2_2 := blk_frozen BKg2.out 2
     have hxg2_3 : w_2.cell? ⟨g2, 3, none⟩ = some (.slice none 0 0) := (blk_cell BKg2.out 3).trans rfl
     have hfg2_3 := blk_frozen BKg2.out 3
     have hxg3_0 : w_2.cell? ⟨g3, 0, none⟩ = some (.string (⟨#[68, 65, 86, 58]⟩ : ByteArray)) := (blk_cell BKg3.out 0).trans rfl
     have hfg3_0 := blk_frozen BKg3.out 0
     have hxg3_1 : w_2.cell? ⟨g3, 1, none⟩ = some (.string (⟨#[112, 114, 111, 112, 101, 114, 116, 121, 117, 112, 100, 97, 116, 101]⟩ : ByteArray)) := (blk_cell BKg3.out 1).trans rfl
     have hfg3_1 := blk_frozen BKg3.out 1
     have hxg3_2 : w_2.cell? ⟨g3, 2, none⟩ = some (.string (⟨#[]⟩ : ByteArray)) := (blk_cell BKg3.out 2).trans rfl
     have hfg3_2 := blk_frozen BKg3.out 2
     have hxg3_3 : w_2.cell? ⟨g3, 3, none⟩ = some (.slice Au acc.length cu) := (blk_cell BKg3.out 3).trans rfl
     have hfg3_3 := blk_frozen BKg3.out 3
     have hxg7_0 : w_2.cell? ⟨g7, 0, none⟩ = some (.string (⟨#[]⟩ : ByteArray)) := (blk_cell BKg7.out 0).trans rfl
     have hfg7_0 := blk_frozen BKg7.out 0
     have hxg7_1 : w_2.cell? ⟨g7, 1, none⟩ = some (.string (⟨#[]⟩ : ByteArray)) := (blk_cell BKg7.out 1).trans rfl
     have hfg7_1 := blk_frozen BKg7.out 1
     have hxg7_2 : w_2.cell? ⟨g7, 2, none⟩ = some (.string (⟨#[]⟩ : ByteArray)) := (blk_cell BKg7.out 2).trans rfl
     have hfg7_2 := blk_frozen BKg7.out 2
     have hxg7_3 : w_2.cell? ⟨g7, 3, none⟩ = some (.slice none 0 0) := (blk_cell BKg7.out 3).trans rfl
     have hfg7_3 := blk_frozen BKg7.out 3
     refine hK.out _ _ ⟨hS0_, hS1_⟩ (fun hHeld => ?_)
     clear hK K
     refine no_ (some 7) ?_
     refine last_ (i := 15) (N := none) #[true, true, true, true, true, true, true, true, true, true, true, true, true, true, true, true] rfl rfl (one_of HT_.out (by kernel_rfl)) (by decide) (fun K hK => ?_)
     refine skip_ (w1 := ?_) (by rfl) rfl ?_ ?_
     rotate_left
     . go_simp
       rfl
     refine hK.out _ _ ?_
     clear hK K
     refine done_ (done_of HT_.out (by kernel_rfl)) ?_
     (try clear hHeld hS0_ hS1_)
     (try clear he0 he1 he2 he3)
     generalize hWs_ : ((((w_2.setCell ⟨g7, 0, none⟩ (.string (rd_T42 l0 x).f1.f0)).setCell ⟨g7, 1, none⟩ (.string (rd_T42 l0 x).f1.f1)).setCell ⟨g7, 2, none⟩ (.string (⟨#[]⟩ : ByteArray))).setCell ⟨g7, 3, none⟩ (.slice none 0 0)) = w_3
     have hw' : Sto g7 w_2 w_3 := (by rw [← hWs_]; exact Sto.step (Sto.step (Sto.step (Sto.step (Sto.refl _ _) _ _) _ _) _ _) _ _)
     have bk_ : w_3.heap[g7]? = some (.cells #[.string (rd_T42 l0 x).f1.f0, .string (rd_T42 l0 x).f1.f1, .string (⟨#[]⟩ : ByteArray), .slice none 0 0] 26 (0, 0)) := (by rw [← hWs_]; exact (IsBlk.set (IsBlk.set (IsBlk.set (IsBlk.set (IsBlk.of BKg7.out) 0 _) 1 _) 2 _) 3 _ : IsBlk _ _ _ _))
     clear hWs_
     have m0_ : Aside0 (w_3.heap[g2]? = some (.cells #[.string (⟨#[]⟩ : ByteArray), .string (⟨#[]⟩ : ByteArray), .string (⟨#[]⟩ : ByteArray), .slice none 0 0] 26 (0, 0))) := ⟨stored_blk hw' BKg2.out hn_g2_g7⟩
     have m1_ : Aside0 (w_3.heap[g3]? = some (.cells #[.string (⟨#[68, 65, 86, 58]⟩ : ByteArray), .string (⟨#[112, 114, 111, 112, 101, 114, 116, 121, 117, 112, 100, 97, 116, 101]⟩ : ByteArray), .string (⟨#[]⟩ : ByteArray), .slice Au acc.length cu] 26 (0, 0))) := ⟨stored_blk hw' BKg3.out hn_g3_g7⟩
     have m2_ : Aside0 (Kd.S kA 26 w_3 w.heap.size (fun k_ => ((k_ ≠ g2 /\ k_ ≠ g3) /\ k_ ≠ g7)) (.slice Au acc.length cu) acc) := ⟨stored_S hw' HO.out (fun _ hk => hk.2)⟩
     have m3_ : Aside0 (Below w.heap.size w w_3) := ⟨stored_below hw' HB.out GEg7.out⟩
     have m4_ : Aside0 (w_3.heap[g7]? = some (.cells #[.string (rd_T42 l0 x).f1.f0, .string (rd_T42 l0 x).f1.f1, .string (⟨#[]⟩ : ByteArray), .slice none 0 0] 26 (0, 0))) := ⟨bk_⟩
     (try clear hxg2_0 hfg2_0 hxg2_1 hfg2_1 hxg2_2 hfg2_2 hxg2_3 hfg2_3 hxg3_0 hfg3_0 hxg3_1 hfg3_1 hxg3_2 hfg3_2 hxg3_3 hfg3_3 hxg7_0 hfg7_0 hxg7_1 hfg7_1 hxg7_2 hfg7_2 hxg7_3 hfg7_3)
     (try clear BKg2)
     (try clear BKg3)
     (try clear HO)
     (try clear HB)
     (try clear BKg7)
     have BKg2 := m0_
     have BKg3 := m1_
     have HO := m2_
     have HB := m3_
     have BKg7 := m4_
     clear m0_ m1_ m2_ m3_ m4_
     clear hw' bk_
     have hxg2_0 : w_3.cell? ⟨g2, 0, none⟩ = some (.string (⟨#[]⟩ : ByteArray)) := (blk_cell BKg2.out 0).trans rfl
     have hfg2_0 := blk_frozen BKg2.out 0
     have hxg2_1 : w_3.cell? ⟨g2, 1, none⟩ = some (.string (⟨#[]⟩ : ByteArray)) := (blk_cell BKg2.out 1).trans rfl
     have hfg2_1 := blk_frozen BKg2.out 1
     have hxg2_2 : w_3.cell? ⟨g2, 2, none⟩ = some (.string (⟨#[]⟩ : ByteArray)) := (blk_cell BKg2.out 2).trans rfl
     have hfg2_2 := blk_frozen BKg2.out 2
     have hxg2_3 : w_3.cell? ⟨g2, 3, none⟩ = some (.slice none 0 0) := (blk_cell BKg2.out 3).trans rfl
     have hfg2_3 := blk_frozen BKg2.out 3
     have hxg3_0 : w_3.cell? ⟨g3, 0, none⟩ = some (.string (⟨#[68, 65, 86, 58]⟩ : ByteArray)) := (blk_cell BKg3.out 0).trans rfl
     have hfg3_0 := blk_frozen BKg3.out 0
     have hxg3_1 : w_3.cell? ⟨g3, 1, none⟩ = some (.string (⟨#[112, 114, 111, 112, 101, 114, 116, 121, 117, 112, 100, 97, 116, 101]⟩ : ByteArray)) := (blk_cell BKg3.out 1).trans rfl
     have hfg3_1 := blk_frozen BKg3.out 1
     have hxg3_2 : w_3.cell? ⟨g3, 2, none⟩ = some (.string (⟨#[]⟩ : ByteArray)) := (blk_cell BKg3.out 2).trans rfl
     have hfg3_2 := blk_frozen BKg3.out 2
     have hxg3_3 : w_3.cell? ⟨g3, 3, none⟩ = some (.slice Au acc.length cu) := (blk_cell BKg3.out 3).trans rfl
     have hfg3_3 := blk_frozen BKg3.out 3
     have hxg7_0 : w_3.cell? ⟨g7, 0, none⟩ = some (.string (rd_T42 l0 x).f1.f0) := (blk_cell BKg7.out 0).trans rfl
     have hfg7_0 := blk_frozen BKg7.out 0
     have hxg7_1 : w_3.cell? ⟨g7, 1, none⟩ = some (.string (rd_T42 l0 x).f1.f1) := (blk_cell BKg7.out 1).trans rfl
     have hfg7_1 := blk_frozen BKg7.out 1
     have hxg7_2 : w_3.cell? ⟨g7, 2, none⟩ = some (.string (⟨#[]⟩ : ByteArray)) := (blk_cell BKg7.out 2).trans rfl
     have hfg7_2 := blk_frozen BKg7.out 2
     have hxg7_3 : w_3.cell? ⟨g7, 3, none⟩ = some (.slice none 0 0) := (blk_cell BKg7.out 3).trans rfl
     have hfg7_3 := blk_frozen BKg7.out 3
     obtain ⟨nb, hnb_⟩ : ∃ n_, n_ = w_3.heap.size := ⟨_, rfl⟩
     have HNB : Aside0 (nb <= w_3.heap.size) := ⟨Nat.le_of_eq hnb_⟩
     have HU : Aside0 (∀ k_, nb <= k_ -> some k_ ≠ ((.slice Au acc.length cu) : Value).ownBlock) := ⟨fun k_ h_ e_ => by have := Kd.S_lt HO.out k_ e_.symm; omega⟩
     have HLg2 : Aside0 (g2 < nb) := ⟨by have := blk_lt BKg2.out; omega⟩
     have HLg3 : Aside0 (g3 < nb) := ⟨by have := blk_lt BKg3.out; omega⟩
     have HLg7 : Aside0 (g7 < nb) := ⟨by have := blk_lt BKg7.out; omega⟩
     have HOn : Aside0 (Kd.S kA 26 w_3 w.heap.size (fun k_ => (((k_ ≠ g2 /\ k_ ≠ g3) /\ k_ ≠ g7)) /\ k_ < nb) (.slice Au acc.length cu) acc) := ⟨Kd.S_mono (Kd.S_bound HO.out) (fun k_ h_ => ⟨h_.1, by have := h_.2.2.1; omega⟩)⟩
     clear hnb_
     go_wp2_with (first | ((with_reducible refine gd_ (N := 42) rfl ?_); refine lit1 kA w.heap.size 26 rfl (N := 42) rfl (p := (⟨(rd_T42 l0 x).f1.f0, (rd_T42 l0 x).f1.f1, (⟨#[]⟩ : ByteArray), []⟩ : S26)) (cs := [.string (rd_T42 l0 x).f1.f0, .string (rd_T42 l0 x).f1.f1, .string (⟨#[]⟩ : ByteArray), .slice none 0 0]) (ok := fun k_ => nb <= k_) (okp := fun k_ => nb <= k_) ?hr ?hp (fun _ h_ => h_) ?hf ?hs ?_; (case hr => first | (go_simp; done) | (go_simp; rfl)); (case hp => exact kA_mkM _ _ _ (⟨(rd_T42 l0 x).f1.f0, (rd_T42 l0 x).f1.f1, (⟨#[]⟩ : ByteArray), []⟩ : S26) (Kd.S_nil _ _ _ _ _)); (case hf => exact HNB.out); (case hs => exact below_size HB.out); intro b1 w_4 hg_ hv_ hb_; have m0_ : Aside0 (w_4.heap[g2]? = some (.cells #[.string (⟨#[]⟩ : ByteArray), .string (⟨#[]⟩ : ByteArray), .string (⟨#[]⟩ : ByteArray), .slice none 0 0] 26 (0, 0))) := ⟨blk_below BKg2.out hb_⟩; have m1_ : Aside0 (w_4.heap[g3]? = some (.cells #[.string (⟨#[68, 65, 86, 58]⟩ : ByteArray), .string (⟨#[112, 114, 111, 112, 101, 114, 116, 121, 117, 112, 100, 97, 116, 101]⟩ : ByteArray), .string (⟨#[]⟩ : ByteArray), .slice Au acc.length cu] 26 (0, 0))) := ⟨blk_below BKg3.out hb_⟩; have m2_ : Aside0 (w_4.heap[g7]? = some (.cells #[.string (rd_T42 l0 x).f1.f0, .string (rd_T42 l0 x).f1.f1, .string (⟨#[]⟩ : ByteArray), .slice none 0 0] 26 (0, 0))) := ⟨blk_below BKg7.out hb_⟩; have m3_ : Aside0 (Kd.S kA 26 w_4 w.heap.size (fun k_ => ((k_ ≠ g2 /\ k_ ≠ g3) /\ k_ ≠ g7)) (.slice Au acc.length cu) acc) := ⟨Kd.S_below HO.out hb_⟩; have m4_ : Aside0 (nb <= w_4.heap.size) := ⟨Nat.le_trans HNB.out (below_size hb_)⟩; have m5_ : Aside0 (Below w.heap.size w w_4) := ⟨below_step HB.out hb_⟩; have m6_ : Aside0 (Kd.S kA 26 w_4 w.heap.size (fun k_ => (((k_ ≠ g2 /\ k_ ≠ g3) /\ k_ ≠ g7)) /\ k_ < nb) (.slice Au acc.length cu) acc) := ⟨Kd.S_below HOn.out hb_⟩; have m7_ : Aside0 (Kd.S kA 26 w_4 w.heap.size (fun k_ => nb <= k_) (.slice (some ⟨b1, 0, none⟩) 1 1) [(⟨(rd_T42 l0 x).f1.f0, (rd_T42 l0 x).f1.f1, (⟨#[]⟩ : ByteArray), []⟩ : S26)]) := ⟨hv_⟩; (try clear hxg2_0 hfg2_0 hxg2_1 hfg2_1 hxg2_2 hfg2_2 hxg2_3 hfg2_3 hxg3_0 hfg3_0 hxg3_1 hfg3_1 hxg3_2 hfg3_2 hxg3_3 hfg3_3 hxg7_0 hfg7_0 hxg7_1 hfg7_1 hxg7_2 hfg7_2 hxg7_3 hfg7_3); (try clear BKg2); (try clear BKg3); (try clear BKg7); (try clear HO); (try clear HNB); (try clear HB); (try clear HOn); (try clear HV0); have BKg2 := m0_; have BKg3 := m1_; have BKg7 := m2_; have HO := m3_; have HNB := m4_; have HB := m5_; have HOn := m6_; have HV0 := m7_; clear m0_ m1_ m2_ m3_ m4_ m5_ m6_ m7_; clear hb_ hv_ hg_; have hxg2_0 : w_4.cell? ⟨g2, 0, none⟩ = some (.string (⟨#[]⟩ : ByteArray)) := (blk_cell BKg2.out 0).trans rfl; have hfg2_0 := blk_frozen BKg2.out 0; have hxg2_1 : w_4.cell? ⟨g2, 1, none⟩ = some (.string (⟨#[]⟩ : ByteArray)) := (blk_cell BKg2.out 1).trans rfl; have hfg2_1 := blk_frozen BKg2.out 1; have hxg2_2 : w_4.cell? ⟨g2, 2, none⟩ = some (.string (⟨#[]⟩ : ByteArray)) := (blk_cell BKg2.out 2).trans rfl; have hfg2_2 := blk_frozen BKg2.out 2; have hxg2_3 : w_4.cell? ⟨g2, 3, none⟩ = some (.slice none 0 0) := (blk_cell BKg2.out 3).trans rfl; have hfg2_3 := blk_frozen BKg2.out 3; have hxg3_0 : w_4.cell? ⟨g3, 0, none⟩ = some (.string (⟨#[68, 65, 86, 58]⟩ : ByteArray)) := (blk_cell BKg3.out 0).trans rfl; have hfg3_0 := blk_frozen BKg3.out 0; have hxg3_1 : w_4.cell? ⟨g3, 1, none⟩ = some (.string (⟨#[112, 114, 111, 112, 101, 114, 116, 121, 117, 112, 100, 97, 116, 101]⟩ : ByteArray)) := (blk_cell BKg3.out 1).trans rfl; have hfg3_1 := blk_frozen BKg3.out 1; have hxg3_2 : w_4.cell? ⟨g3, 2, none⟩ = some (.string (⟨#[]⟩ : ByteArray)) := (blk_cell BKg3.out 2).trans rfl; have hfg3_2 := blk_frozen BKg3.out 2; have hxg3_3 : w_4.cell? ⟨g3, 3, none⟩ = some (.slice Au acc.length cu) := (blk_cell BKg3.out 3).trans rfl; have hfg3_3 := blk_frozen BKg3.out 3; have hxg7_0 : w_4.cell? ⟨g7, 0, none⟩ = some (.string (rd_T42 l0 x).f1.f0) := (blk_cell BKg7.out 0).trans rfl; have hfg7_0 := blk_frozen BKg7.out 0; have hxg7_1 : w_4.cell? ⟨g7, 1, none⟩ = some (.string (rd_T42 l0 x).f1.f1) := (blk_cell BKg7.out 1).trans rfl; have hfg7_1 := blk_frozen BKg7.out 1; have hxg7_2 : w_4.cell? ⟨g7, 2, none⟩ = some (.string (⟨#[]⟩ : ByteArray)) := (blk_cell BKg7.out 2).trans rfl; have hfg7_2 := blk_frozen BKg7.out 2; have hxg7_3 : w_4.cell? ⟨g7, 3, none⟩ = some (.slice none 0 0) := (blk_cell BKg7.out 3).trans rfl; have hfg7_3 := blk_frozen BKg7.out 3) | ((with_reducible refine gd_ (N := 8) rfl ?_); refine bx_ (N := 8) (cs := #[.string (⟨#[]⟩ : ByteArray), .string (⟨#[]⟩ : ByteArray), .string (⟨#[]⟩ : ByteArray), .slice none 0 0]) (t := 26) ?_; intro g8 hg_ w_5 hbox_ hb_; have HG8 : Aside0 (nb <= g8) := ⟨by rw [hg_]; exact HNB.out⟩; have hv8_ := Kd.S_below (Kd.S_elderB HV0.out g8 (Nat.le_of_eq hg_.symm)) hb_; have hn_g2_g8 : g2 ≠ g8 := (by have := blk_lt BKg2.out; rw [hg_]; omega); have hn_g8_g2 : g8 ≠ g2 := (by have := blk_lt BKg2.out; rw [hg_]; omega); have hn_g3_g8 : g3 ≠ g8 := (by have := blk_lt BKg3.out; rw [hg_]; omega); have hn_g8_g3 : g8 ≠ g3 := (by have := blk_lt BKg3.out; rw [hg_]; omega); have hn_g7_g8 : g7 ≠ g8 := (by have := blk_lt BKg7.out; rw [hg_]; omega); have hn_g8_g7 : g8 ≠ g7 := (by have := blk_lt BKg7.out; rw [hg_]; omega); have GEg8 : Aside0 (w.heap.size <= g8) := ⟨by rw [hg_]; exact below_size HB.out⟩; have m0_ : Aside0 (w_5.heap[g2]? = some (.cells #[.string (⟨#[]⟩ : ByteArray), .string (⟨#[]⟩ : ByteArray), .string (⟨#[]⟩ : ByteArray), .slice none 0 0] 26 (0, 0))) := ⟨blk_below BKg2.out hb_⟩; have m1_ : Aside0 (w_5.heap[g3]? = some (.cells #[.string (⟨#[68, 65, 86, 58]⟩ : ByteArray), .string (⟨#[112, 114, 111, 112, 101, 114, 116, 121, 117, 112, 100, 97, 116, 101]⟩ : ByteArray), .string (⟨#[]⟩ : ByteArray), .slice Au acc.length cu] 26 (0, 0))) := ⟨blk_below BKg3.out hb_⟩; have m2_ : Aside0 (w_5.heap[g7]? = some (.cells #[.string (rd_T42 l0 x).f1.f0, .string (rd_T42 l0 x).f1.f1, .string (⟨#[]⟩ : ByteArray), .slice none 0 0] 26 (0, 0))) := ⟨blk_below BKg7.out hb_⟩; have m3_ : Aside0 (Kd.S kA 26 w_5 w.heap.size (fun k_ => (((k_ ≠ g2 /\ k_ ≠ g3) /\ k_ ≠ g7) /\ k_ ≠ g8)) (.slice Au acc.length cu) acc) := ⟨Kd.S_below (Kd.S_elderB HO.out g8 (Nat.le_of_eq hg_.symm)) hb_⟩; have m4_ : Aside0 (Kd.S kA 26 w_5 w.heap.size (fun k_ => nb <= k_) (.slice (some ⟨b1, 0, none⟩) 1 1) [(⟨(rd_T42 l0 x).f1.f0, (rd_T42 l0 x).f1.f1, (⟨#[]⟩ : ByteArray), []⟩ : S26)]) := ⟨Kd.S_below HV0.out hb_⟩; have m5_ : Aside0 (nb <= w_5.heap.size) := ⟨Nat.le_trans HNB.out (below_size hb_)⟩; have m6_ : Aside0 (Below w.heap.size w w_5) := ⟨below_step HB.out hb_⟩; have m7_ : Aside0 (Kd.S kA 26 w_5 w.heap.size (fun k_ => (((k_ ≠ g2 /\ k_ ≠ g3) /\ k_ ≠ g7)) /\ k_ < nb) (.slice Au acc.length cu) acc) := ⟨Kd.S_below HOn.out hb_⟩; have m8_ : Aside0 (w_5.heap[g8]? = some (.cells #[.string (⟨#[]⟩ : ByteArray), .string (⟨#[]⟩ : ByteArray), .string (⟨#[]⟩ : ByteArray), .slice none 0 0] 26 (0, 0))) := ⟨hbox_⟩; (try clear hxg2_0 hfg2_0 hxg2_1 hfg2_1 hxg2_2 hfg2_2 hxg2_3 hfg2_3 hxg3_0 hfg3_0 hxg3_1 hfg3_1 hxg3_2 hfg3_2 hxg3_3 hfg3_3 hxg7_0 hfg7_0 hxg7_1 hfg7_1 hxg7_2 hfg7_2 hxg7_3 hfg7_3); (try clear BKg2); (try clear BKg3); (try clear BKg7); (try clear HO); (try clear HV0); (try clear HNB); (try clear HB); (try clear HOn); (try clear BKg8); have BKg2 := m0_; have BKg3 := m1_; have BKg7 := m2_; have HO := m3_; have HV0 := m4_; have HNB := m5_; have HB := m6_; have HOn := m7_; have BKg8 := m8_; clear m0_ m1_ m2_ m3_ m4_ m5_ m6_ m7_ m8_; clear hb_ hbox_ hg_; have hxg2_0 : w_5.cell? ⟨g2, 0, none⟩ = some (.string (⟨#[]⟩ : ByteArray)) := (blk_cell BKg2.out 0).trans rfl; have hfg2_0 := blk_frozen BKg2.out 0; have hxg2_1 : w_5.cell? ⟨g2, 1, none⟩ = some (.string (⟨#[]⟩ : ByteArray)) := (blk_cell BKg2.out 1).trans rfl; have hfg2_1 := blk_frozen BKg2.out 1; have hxg2_2 : w_5.cell? ⟨g2, 2, none⟩ = some (.string (⟨#[]⟩ : ByteArray)) := (blk_cell BKg2.out 2).trans rfl; have hfg2_2 := blk_frozen BKg2.out 2; have hxg2_3 : w_5.cell? ⟨g2, 3, none⟩ = some (.slice none 0 0) := (blk_cell BKg2.out 3).trans rfl; have hfg2_3 := blk_frozen BKg2.out 3; have hxg3_0 : w_5.cell? ⟨g3, 0, none⟩ = some (.string (⟨#[68, 65, 86, 58]⟩ : ByteArray)) := (blk_cell BKg3.out 0).trans rfl; have hfg3_0 := blk_frozen BKg3.out 0; have hxg3_1 : w_5.cell? ⟨g3, 1, none⟩ = some (.string (⟨#[112, 114, 111, 112, 101, 114, 116, 121, 117, 112, 100, 97, 116, 101]⟩ : ByteArray)) := (blk_cell BKg3.out 1).trans rfl; have hfg3_1 := blk_frozen BKg3.out 1; have hxg3_2 : w_5.cell? ⟨g3, 2, none⟩ = some (.string (⟨#[]⟩ : ByteArray)) := (blk_cell BKg3.out 2).trans rfl; have hfg3_2 := blk_frozen BKg3.out 2; have hxg3_3 : w_5.cell? ⟨g3, 3, none⟩ = some (.slice Au acc.length cu) := (blk_cell BKg3.out 3).trans rfl; have hfg3_3 := blk_frozen BKg3.out 3; have hxg7_0 : w_5.cell? ⟨g7, 0, none⟩ = some (.string (rd_T42 l0 x).f1.f0) := (blk_cell BKg7.out 0).trans rfl; have hfg7_0 := blk_frozen BKg7.out 0; have hxg7_1 : w_5.cell? ⟨g7, 1, none⟩ = some (.string (rd_T42 l0 x).f1.f1) := (blk_cell BKg7.out 1).trans rfl; have hfg7_1 := blk_frozen BKg7.out 1; have hxg7_2 : w_5.cell? ⟨g7, 2, none⟩ = some (.string (⟨#[]⟩ : ByteArray)) := (blk_cell BKg7.out 2).trans rfl; have hfg7_2 := blk_frozen BKg7.out 2; have hxg7_3 : w_5.cell? ⟨g7, 3, none⟩ = some (.slice none 0 0) := (blk_cell BKg7.out 3).trans rfl; have hfg7_3 := blk_frozen BKg7.out 3; have hxg8_0 : w_5.cell? ⟨g8, 0, none⟩ = some (.string (⟨#[]⟩ : ByteArray)) := (blk_cell BKg8.out 0).trans rfl; have hfg8_0 := blk_frozen BKg8.out 0; have hxg8_1 : w_5.cell? ⟨g8, 1, none⟩ = some (.string (⟨#[]⟩ : ByteArray)) := (blk_cell BKg8.out 1).trans rfl; have hfg8_1 := blk_frozen BKg8.out 1; have hxg8_2 : w_5.cell? ⟨g8, 2, none⟩ = some (.string (⟨#[]⟩ : ByteArray)) := (blk_cell BKg8.out 2).trans rfl; have hfg8_2 := blk_frozen BKg8.out 2; have hxg8_3 : w_5.cell? ⟨g8, 3, none⟩ = some (.slice none 0 0) := (blk_cell BKg8.out 3).trans rfl; have hfg8_3 := blk_frozen BKg8.out 3; clear HV0; have HV0 := A_ hv8_; clear hv8_) | ((with_reducible refine gate_store (t := 26) (p := 8) rfl ?_); apply box_store (g := g8); (case hrun => first | (go_simp; done) | (go_simp; rfl)); (case _ho => rfl); (case hN => rfl); (case hgd => rfl); (case hs => repeat (first | (with_reducible exact Sto.refl _ _) | refine Sto.step ?_ _ _)); (case hb => repeat (first | (with_reducible exact IsBlk.of BKg8.out) | (with_reducible apply IsBlk.set))); intro w_6 hw' bk_; simp only [List.setIfInBounds_toArray, List.set_cons_zero, List.set_cons_succ] at bk_; have m0_ : Aside0 (w_6.heap[g2]? = some (.cells #[.string (⟨#[]⟩ : ByteArray), .string (⟨#[]⟩ : ByteArray), .string (⟨#[]⟩ : ByteArray), .slice none 0 0] 26 (0, 0))) := ⟨stored_blk hw' BKg2.out hn_g2_g8⟩; have m1_ : Aside0 (w_6.heap[g3]? = some (.cells #[.string (⟨#[68, 65, 86, 58]⟩ : ByteArray), .string (⟨#[112, 114, 111, 112, 101, 114, 116, 121, 117, 112, 100, 97, 116, 101]⟩ : ByteArray), .string (⟨#[]⟩ : ByteArray), .slice Au acc.length cu] 26 (0, 0))) := ⟨stored_blk hw' BKg3.out hn_g3_g8⟩; have m2_ : Aside0 (w_6.heap[g7]? = some (.cells #[.string (rd_T42 l0 x).f1.f0, .string (rd_T42 l0 x).f1.f1, .string (⟨#[]⟩ : ByteArray), .slice none 0 0] 26 (0, 0))) := ⟨stored_blk hw' BKg7.out hn_g7_g8⟩; have m3_ : Aside0 (Kd.S kA 26 w_6 w.heap.size (fun k_ => (((k_ ≠ g2 /\ k_ ≠ g3) /\ k_ ≠ g7) /\ k_ ≠ g8)) (.slice Au acc.length cu) acc) := ⟨stored_S hw' HO.out (fun _ hk => hk.2)⟩; have m4_ : Aside0 (Below w.heap.size w w_6) := ⟨stored_below hw' HB.out GEg8.out⟩; have m5_ : Aside0 (w_6.heap[g8]? = some (.cells #[.string (⟨#[68, 65, 86, 58]⟩ : ByteArray), .string (⟨#[112, 114, 111, 112]⟩ : ByteArray), .string (⟨#[]⟩ : ByteArray), .slice (some ⟨b1, 0, none⟩) 1 1] 26 (0, 0))) := ⟨bk_⟩; (try clear hxg2_0 hfg2_0 hxg2_1 hfg2_1 hxg2_2 hfg2_2 hxg2_3 hfg2_3 hxg3_0 hfg3_0 hxg3_1 hfg3_1 hxg3_2 hfg3_2 hxg3_3 hfg3_3 hxg7_0 hfg7_0 hxg7_1 hfg7_1 hxg7_2 hfg7_2 hxg7_3 hfg7_3 hxg8_0 hfg8_0 hxg8_1 hfg8_1 hxg8_2 hfg8_2 hxg8_3 hfg8_3); (try clear BKg2); (try clear BKg3); (try clear BKg7); (try clear HO); (try clear HB); (try clear BKg8); have BKg2 := m0_; have BKg3 := m1_; have BKg7 := m2_; have HO := m3_; have HB := m4_; have BKg8 := m5_; clear m0_ m1_ m2_ m3_ m4_ m5_; have e0_ : Aside0 (Kd.S kA 26 w_6 w.heap.size (fun k_ => (((k_ ≠ g2 /\ k_ ≠ g3) /\ k_ ≠ g7)) /\ k_ < nb) (.slice Au acc.length cu) acc) := ⟨stored_S hw' HOn.out (fun k_ hk => fun e_ => absurd hk.2 (by rw [e_]; exact Nat.not_lt.2 HG8.out))⟩; have e1_ : Aside0 (Kd.S kA 26 w_6 w.heap.size (fun k_ => nb <= k_ /\ k_ ≠ g8) (.slice (some ⟨b1, 0, none⟩) 1 1) [(⟨(rd_T42 l0 x).f1.f0, (rd_T42 l0 x).f1.f1, (⟨#[]⟩ : ByteArray), []⟩ : S26)]) := ⟨stored_S hw' HV0.out (fun _ hk => hk.2)⟩; have e2_ : Aside0 (nb <= w_6.heap.size) := ⟨Nat.le_trans HNB.out (Nat.le_of_eq (stored_size hw'))⟩; clear HOn; clear HV0; clear HNB; have HOn := e0_; have HV0 := e1_; have HNB := e2_; clear e0_ e1_ e2_; clear hw' bk_; have hxg2_0 : w_6.cell? ⟨g2, 0, none⟩ = some (.string (⟨#[]⟩ : ByteArray)) := (blk_cell BKg2.out 0).trans rfl; have hfg2_0 := blk_frozen BKg2.out 0; have hxg2_1 : w_6.cell? ⟨g2, 1, none⟩ = some (.string (⟨#[]⟩ : ByteArray)) := (blk_cell BKg2.out 1).trans rfl; have hfg2_1 := blk_frozen BKg2.out 1; have hxg2_2 : w_6.cell? ⟨g2, 2, none⟩ = some (.string (⟨#[]⟩ : ByteArray)) := (blk_cell BKg2.out 2).trans rfl; have hfg2_2 := blk_frozen BKg2.out 2; have hxg2_3 : w_6.cell? ⟨g2, 3, none⟩ = some (.slice none 0 0) := (blk_cell BKg2.out 3).trans rfl; have hfg2_3 := blk_frozen BKg2.out 3; have hxg3_0 : w_6.cell? ⟨g3, 0, none⟩ = some (.string (⟨#[68, 65, 86, 58]⟩ : ByteArray)) := (blk_cell BKg3.out 0).trans rfl; have hfg3_0 := blk_frozen BKg3.out 0; have hxg3_1 : w_6.cell? ⟨g3, 1, none⟩ = some (.string (⟨#[112, 114, 111, 112, 101, 114, 116, 121, 117, 112, 100, 97, 116, 101]⟩ : ByteArray)) := (blk_cell BKg3.out 1).trans rfl; have hfg3_1 := blk_frozen BKg3.out 1; have hxg3_2 : w_6.cell? ⟨g3, 2, none⟩ = some (.string (⟨#[]⟩ : ByteArray)) := (blk_cell BKg3.out 2).trans rfl; have hfg3_2 := blk_frozen BKg3.out 2; have hxg3_3 : w_6.cell? ⟨g3, 3, none⟩ = some (.slice Au acc.length cu) := (blk_cell BKg3.out 3).trans rfl; have hfg3_3 := blk_frozen BKg3.out 3; have hxg7_0 : w_6.cell? ⟨g7, 0, none⟩ = some (.string (rd_T42 l0 x).f1.f0) := (blk_cell BKg7.out 0).trans rfl; have hfg7_0 := blk_frozen BKg7.out 0; have hxg7_1 : w_6.cell? ⟨g7, 1, none⟩ = some (.string (rd_T42 l0 x).f1.f1) := (blk_cell BKg7.out 1).trans rfl; have hfg7_1 := blk_frozen BKg7.out 1; have hxg7_2 : w_6.cell? ⟨g7, 2, none⟩ = some (.string (⟨#[]⟩ : ByteArray)) := (blk_cell BKg7.out 2).trans rfl; have hfg7_2 := blk_frozen BKg7.out 2; have hxg7_3 : w_6.cell? ⟨g7, 3, none⟩ = some (.slice none 0 0) := (blk_cell BKg7.out 3).trans rfl; have hfg7_3 := blk_frozen BKg7.out 3; have hxg8_0 : w_6.cell? ⟨g8, 0, none⟩ = some (.string (⟨#[68, 65, 86, 58]⟩ : ByteArray)) := (blk_cell BKg8.out 0).trans rfl; have hfg8_0 := blk_frozen BKg8.out 0; have hxg8_1 : w_6.cell? ⟨g8, 1, none⟩ = some (.string (⟨#[112, 114, 111, 112]⟩ : ByteArray)) := (blk_cell BKg8.out 1).trans rfl; have hfg8_1 := blk_frozen BKg8.out 1; have hxg8_2 : w_6.cell? ⟨g8, 2, none⟩ = some (.string (⟨#[]⟩ : ByteArray)) := (blk_cell BKg8.out 2).trans rfl; have hfg8_2 := blk_frozen BKg8.out 2; have hxg8_3 : w_6.cell? ⟨g8, 3, none⟩ = some (.slice (some ⟨b1, 0, none⟩) 1 1) := (blk_cell BKg8.out 3).trans rfl; have hfg8_3 := blk_frozen BKg8.out 3) | ((with_reducible refine gd_ (N := 48) rfl ?_); refine lit1 kA w.heap.size 26 rfl (N := 48) rfl (p := (⟨(⟨#[68, 65, 86, 58]⟩ : ByteArray), (⟨#[112, 114, 111, 112]⟩ : ByteArray), (⟨#[]⟩ : ByteArray), [(⟨(rd_T42 l0 x).f1.f0, (rd_T42 l0 x).f1.f1, (⟨#[]⟩ : ByteArray), []⟩ : S26)]⟩ : S26)) (cs := [.string (⟨#[68, 65, 86, 58]⟩ : ByteArray), .string (⟨#[112, 114, 111, 112]⟩ : ByteArray), .string (⟨#[]⟩ : ByteArray), .slice (some ⟨b1, 0, none⟩) 1 1]) (ok := fun k_ => nb <= k_ /\ k_ ≠ g8) (okp := fun k_ => nb <= k_ /\ k_ ≠ g8) ?hr ?hp (fun _ h_ => h_) ?hf ?hs ?_; (case hr => first | (go_simp; done) | (go_simp; rfl)); (case hp => exact kA_mkM _ _ _ (⟨(⟨#[68, 65, 86, 58]⟩ : ByteArray), (⟨#[112, 114, 111, 112]⟩ : ByteArray), (⟨#[]⟩ : ByteArray), [(⟨(rd_T42 l0 x).f1.f0, (rd_T42 l0 x).f1.f1, (⟨#[]⟩ : ByteArray), []⟩ : S26)]⟩ : S26) HV0.out); (case hf => exact ⟨HNB.out, Nat.ne_of_gt (blk_lt BKg8.out)⟩); (case hs => exact below_size HB.out); intro b2 w_7 hg_ hv_ hb_; have m0_ : Aside0 (w_7.heap[g2]? = some (.cells #[.string (⟨#[]⟩ : ByteArray), .string (⟨#[]⟩ : ByteArray), .string (⟨#[]⟩ : ByteArray), .slice none 0 0] 26 (0, 0))) := ⟨blk_below BKg2.out hb_⟩; have m1_ : Aside0 (w_7.heap[g3]? = some (.cells #[.string (⟨#[68, 65, 86, 58]⟩ : ByteArray), .string (⟨#[112, 114, 111, 112, 101, 114, 116, 121, 117, 112, 100, 97, 116, 101]⟩ : ByteArray), .string (⟨#[]⟩ : ByteArray), .slice Au acc.length cu] 26 (0, 0))) := ⟨blk_below BKg3.out hb_⟩; have m2_ : Aside0 (w_7.heap[g7]? = some (.cells #[.string (rd_T42 l0 x).f1.f0, .string (rd_T42 l0 x).f1.f1, .string (⟨#[]⟩ : ByteArray), .slice none 0 0] 26 (0, 0))) := ⟨blk_below BKg7.out hb_⟩; have m3_ : Aside0 (w_7.heap[g8]? = some (.cells #[.string (⟨#[68, 65, 86, 58]⟩ : ByteArray), .string (⟨#[112, 114, 111, 112]⟩ : ByteArray), .string (⟨#[]⟩ : ByteArray), .slice (some ⟨b1, 0, none⟩) 1 1] 26 (0, 0))) := ⟨blk_below BKg8.out hb_⟩; have m4_ : Aside0 (Kd.S kA 26 w_7 w.heap.size (fun k_ => (((k_ ≠ g2 /\ k_ ≠ g3) /\ k_ ≠ g7) /\ k_ ≠ g8)) (.slice Au acc.length cu) acc) := ⟨Kd.S_below HO.out hb_⟩; have m5_ : Aside0 (Kd.S kA 26 w_7 w.heap.size (fun k_ => nb <= k_ /\ k_ ≠ g8) (.slice (some ⟨b1, 0, none⟩) 1 1) [(⟨(rd_T42 l0 x).f1.f0, (rd_T42 l0 x).f1.f1, (⟨#[]⟩ : ByteArray), []⟩ : S26)]) := ⟨Kd.S_below HV0.out hb_⟩; have m6_ : Aside0 (nb <= w_7.heap.size) := ⟨Nat.le_trans HNB.out (below_size hb_)⟩; have m7_ : Aside0 (Below w.heap.size w w_7) := ⟨below_step HB.out hb_⟩; have m8_ : Aside0 (Kd.S kA 26 w_7 w.heap.size (fun k_ => (((k_ ≠ g2 /\ k_ ≠ g3) /\ k_ ≠ g7)) /\ k_ < nb) (.slice Au acc.length cu) acc) := ⟨Kd.S_below HOn.out hb_⟩; have m9_ : Aside0 (Kd.S kA 26 w_7 w.heap.size (fun k_ => nb <= k_ /\ k_ ≠ g8) (.slice (some ⟨b2, 0, none⟩) 1 1) [(⟨(⟨#[68, 65, 86, 58]⟩ : ByteArray), (⟨#[112, 114, 111, 112]⟩ : ByteArray), (⟨#[]⟩ : ByteArray), [(⟨(rd_T42 l0 x).f1.f0, (rd_T42 l0 x).f1.f1, (⟨#[]⟩ : ByteArray), []⟩ : S26)]⟩ : S26)]) := ⟨hv_⟩; (try clear hxg2_0 hfg2_0 hxg2_1 hfg2_1 hxg2_2 hfg2_2 hxg2_3 hfg2_3 hxg3_0 hfg3_0 hxg3_1 hfg3_1 hxg3_2 hfg3_2 hxg3_3 hfg3_3 hxg7_0 hfg7_0 hxg7_1 hfg7_1 hxg7_2 hfg7_2 hxg7_3 hfg7_3 hxg8_0 hfg8_0 hxg8_1 hfg8_1 hxg8_2 hfg8_2 hxg8_3 hfg8_3); (try clear BKg2); (try clear BKg3); (try clear BKg7); (try clear BKg8); (try clear HO); (try clear HV0); (try clear HNB); (try clear HB); (try clear HOn); (try clear HV1); have BKg2 := m0_; have BKg3 := m1_; have BKg7 := m2_; have BKg8 := m3_; have HO := m4_; have HV0 := m5_; have HNB := m6_; have HB := m7_; have HOn := m8_; have HV1 := m9_; clear m0_ m1_ m2_ m3_ m4_ m5_ m6_ m7_ m8_ m9_; clear hb_ hv_ hg_; have hxg2_0 : w_7.cell? ⟨g2, 0, none⟩ = some (.string (⟨#[]⟩ : ByteArray)) := (blk_cell BKg2.out 0).trans rfl; have hfg2_0 := blk_frozen BKg2.out 0; have hxg2_1 : w_7.cell? ⟨g2, 1, none⟩ = some (.string (⟨#[]⟩ : ByteArray)) := (blk_cell BKg2.out 1).trans rfl; have hfg2_1 := blk_frozen BKg2.out 1; have hxg2_2 : w_7.cell? ⟨g2, 2, none⟩ = some (.string (⟨#[]⟩ : ByteArray)) := (blk_cell BKg2.out 2).trans rfl; have hfg2_2 := blk_frozen BKg2.out 2; have hxg2_3 : w_7.cell? ⟨g2, 3, none⟩ = some (.slice none 0 0) := (blk_cell BKg2.out 3).trans rfl; have hfg2_3 := blk_frozen BKg2.out 3; have hxg3_0 : w_7.cell? ⟨g3, 0, none⟩ = some (.string (⟨#[68, 65, 86, 58]⟩ : ByteArray)) := (blk_cell BKg3.out 0).trans rfl; have hfg3_0 := blk_frozen BKg3.out 0; have hxg3_1 : w_7.cell? ⟨g3, 1, none⟩ = some (.string (⟨#[112, 114, 111, 112, 101, 114, 116, 121, 117, 112, 100, 97, 116, 101]⟩ : ByteArray)) := (blk_cell BKg3.out 1).trans rfl; have hfg3_1 := blk_frozen BKg3.out 1; have hxg3_2 : w_7.cell? ⟨g3, 2, none⟩ = some (.string (⟨#[]⟩ : ByteArray)) := (blk_cell BKg3.out 2).trans rfl; have hfg3_2 := blk_frozen BKg3.out 2; have hxg3_3 : w_7.cell? ⟨g3, 3, none⟩ = some (.slice Au acc.length cu) := (blk_cell BKg3.out 3).trans rfl; have hfg3_3 := blk_frozen BKg3.out 3; have hxg7_0 : w_7.cell? ⟨g7, 0, none⟩ = some (.string (rd_T42 l0 x).f1.f0) := (blk_cell BKg7.out 0).trans rfl; have hfg7_0 := blk_frozen BKg7.out 0; have hxg7_1 : w_7.cell? ⟨g7, 1, none⟩ = some (.string (rd_T42 l0 x).f1.f1) := (blk_cell BKg7.out 1).trans rfl; have hfg7_1 := blk_frozen BKg7.out 1; have hxg7_2 : w_7.cell? ⟨g7, 2, none⟩ = some (.string (⟨#[]⟩ : ByteArray)) := (blk_cell BKg7.out 2).trans rfl; have hfg7_2 := blk_frozen BKg7.out 2; have hxg7_3 : w_7.cell? ⟨g7, 3, none⟩ = some (.slice none 0 0) := (blk_cell BKg7.out 3).trans rfl; have hfg7_3 := blk_frozen BKg7.out 3; have hxg8_0 : w_7.cell? ⟨g8, 0, none⟩ = some (.string (⟨#[68, 65, 86, 58]⟩ : ByteArray)) := (blk_cell BKg8.out 0).trans rfl; have hfg8_0 := blk_frozen BKg8.out 0; have hxg8_1 : w_7.cell? ⟨g8, 1, none⟩ = some (.string (⟨#[112, 114, 111, 112]⟩ : ByteArray)) := (blk_cell BKg8.out 1).trans rfl; have hfg8_1 := blk_frozen BKg8.out 1; have hxg8_2 : w_7.cell? ⟨g8, 2, none⟩ = some (.string (⟨#[]⟩ : ByteArray)) := (blk_cell BKg8.out 2).trans rfl; have hfg8_2 := blk_frozen BKg8.out 2; have hxg8_3 : w_7.cell? ⟨g8, 3, none⟩ = some (.slice (some ⟨b1, 0, none⟩) 1 1) := (blk_cell BKg8.out 3).trans rfl; have hfg8_3 := blk_frozen BKg8.out 3) | ((with_reducible refine gate_builtin (b := .append) (xs := #[.tmp 45, .tmp 50]) rfl ?_); at_builtin; refine Kd.S_append kA (w0 := w) w.heap.size rfl (.tmp 45) (.tmp 50) 24 26 (.agg #[(.string ⟨#[]⟩), (.string ⟨#[]⟩), (.string ⟨#[]⟩), (.slice none 0 0)]) 72 rfl Try.underlying24 info26 rfl (by decide) (by omega) (.slice Au acc.length cu) acc (⟨(⟨#[68, 65, 86, 58]⟩ : ByteArray), (⟨#[114, 101, 109, 111, 118, 101]⟩ : ByteArray), (⟨#[]⟩ : ByteArray), [(⟨(⟨#[68, 65, 86, 58]⟩ : ByteArray), (⟨#[112, 114, 111, 112]⟩ : ByteArray), (⟨#[]⟩ : ByteArray), [(⟨(rd_T42 l0 x).f1.f0, (rd_T42 l0 x).f1.f1, (⟨#[]⟩ : ByteArray), []⟩ : S26)]⟩ : S26)]⟩ : S26) [.string (⟨#[68, 65, 86, 58]⟩ : ByteArray), .string (⟨#[114, 101, 109, 111, 118, 101]⟩ : ByteArray), .string (⟨#[]⟩ : ByteArray), .slice (some ⟨b2, 0, none⟩) 1 1] (fun k_ => (((k_ ≠ g2 /\ k_ ≠ g3) /\ k_ ≠ g7) /\ k_ ≠ g8)) (fun k_ => nb <= k_ /\ k_ ≠ g8) rfl rfl ?aP ?aK ?aF ?aO ?aB ?aS ?aL ?_; (case aP => exact kA_mkM _ _ _ (⟨(⟨#[68, 65, 86, 58]⟩ : ByteArray), (⟨#[114, 101, 109, 111, 118, 101]⟩ : ByteArray), (⟨#[]⟩ : ByteArray), [(⟨(⟨#[68, 65, 86, 58]⟩ : ByteArray), (⟨#[112, 114, 111, 112]⟩ : ByteArray), (⟨#[]⟩ : ByteArray), [(⟨(rd_T42 l0 x).f1.f0, (rd_T42 l0 x).f1.f1, (⟨#[]⟩ : ByteArray), []⟩ : S26)]⟩ : S26)]⟩ : S26) HV1.out); (case aK => exact fun k_ h_ => ⟨⟨⟨⟨(by have := HLg2.out; have : nb <= k_ := h_.1; omega), (by have := HLg3.out; have : nb <= k_ := h_.1; omega)⟩, (by have := HLg7.out; have : nb <= k_ := h_.1; omega)⟩, h_.2⟩, HU.out k_ h_.1⟩); (case aF => exact fun k_ h_ => ⟨⟨⟨(by have := blk_lt BKg2.out; have := h_; omega), (by have := blk_lt BKg3.out; have := h_; omega)⟩, (by have := blk_lt BKg7.out; have := h_; omega)⟩, (by have := blk_lt BKg8.out; have := h_; omega)⟩); (case aO => exact Kd.S_mono (Kd.S_bound HOn.out) (fun k_ h_ => ⟨⟨h_.1.1, (by have := HG8.out; have : k_ < nb := h_.1.2; omega)⟩, fun h2_ => absurd h_.1.2 (Nat.not_lt.2 h2_.1)⟩)); (case aB => exact HB.out); (case aS => exact below_size HB.out); (case aL => have := LM.out; omega); intro v1 w_8 ho_ hbb_ hg_ hat_; rw [← Ny.out] at ho_; obtain ⟨A1_, c1_, rfl⟩ := Kd.S_slice ho_; have m0_ : Aside0 (w_8.heap[g2]? = some (.cells #[.string (⟨#[]⟩ : ByteArray), .string (⟨#[]⟩ : ByteArray), .string (⟨#[]⟩ : ByteArray), .slice none 0 0] 26 (0, 0))) := ⟨blk_grown BKg2.out hg_ (Kd.S_away HO.out (fun _ hk => hk.1.1.1))⟩; have m1_ : Aside0 (w_8.heap[g3]? = some (.cells #[.string (⟨#[68, 65, 86, 58]⟩ : ByteArray), .string (⟨#[112, 114, 111, 112, 101, 114, 116, 121, 117, 112, 100, 97, 116, 101]⟩ : ByteArray), .string (⟨#[]⟩ : ByteArray), .slice Au acc.length cu] 26 (0, 0))) := ⟨blk_grown BKg3.out hg_ (Kd.S_away HO.out (fun _ hk => hk.1.1.2))⟩; have m2_ : Aside0 (w_8.heap[g7]? = some (.cells #[.string (rd_T42 l0 x).f1.f0, .string (rd_T42 l0 x).f1.f1, .string (⟨#[]⟩ : ByteArray), .slice none 0 0] 26 (0, 0))) := ⟨blk_grown BKg7.out hg_ (Kd.S_away HO.out (fun _ hk => hk.1.2))⟩; have m3_ : Aside0 (w_8.heap[g8]? = some (.cells #[.string (⟨#[68, 65, 86, 58]⟩ : ByteArray), .string (⟨#[112, 114, 111, 112]⟩ : ByteArray), .string (⟨#[]⟩ : ByteArray), .slice (some ⟨b1, 0, none⟩) 1 1] 26 (0, 0))) := ⟨blk_grown BKg8.out hg_ (Kd.S_away HO.out (fun _ hk => hk.2))⟩; have m4_ : Aside0 (Kd.S kA 26 w_8 w.heap.size (fun k_ => (((k_ ≠ g2 /\ k_ ≠ g3) /\ k_ ≠ g7) /\ k_ ≠ g8)) (.slice A1_ y.length c1_) y) := ⟨ho_⟩; have m5_ : Aside0 (Below w.heap.size w w_8) := ⟨hbb_⟩; (try clear hxg2_0 hfg2_0 hxg2_1 hfg2_1 hxg2_2 hfg2_2 hxg2_3 hfg2_3 hxg3_0 hfg3_0 hxg3_1 hfg3_1 hxg3_2 hfg3_2 hxg3_3 hfg3_3 hxg7_0 hfg7_0 hxg7_1 hfg7_1 hxg7_2 hfg7_2 hxg7_3 hfg7_3 hxg8_0 hfg8_0 hxg8_1 hfg8_1 hxg8_2 hfg8_2 hxg8_3 hfg8_3); (try clear BKg2); (try clear BKg3); (try clear BKg7); (try clear BKg8); (try clear HO); (try clear HB); have BKg2 := m0_; have BKg3 := m1_; have BKg7 := m2_; have BKg8 := m3_; have HO := m4_; have HB := m5_; clear m0_ m1_ m2_ m3_ m4_ m5_; clear ho_ hbb_ hg_ hat_; have hxg2_0 : w_8.cell? ⟨g2, 0, none⟩ = some (.string (⟨#[]⟩ : ByteArray)) := (blk_cell BKg2.out 0).trans rfl; have hfg2_0 := blk_frozen BKg2.out 0; have hxg2_1 : w_8.cell? ⟨g2, 1, none⟩ = some (.string (⟨#[]⟩ : ByteArray)) := (blk_cell BKg2.out 1).trans rfl; have hfg2_1 := blk_frozen BKg2.out 1; have hxg2_2 : w_8.cell? ⟨g2, 2, none⟩ = some (.string (⟨#[]⟩ : ByteArray)) := (blk_cell BKg2.out 2).trans rfl; have hfg2_2 := blk_frozen BKg2.out 2; have hxg2_3 : w_8.cell? ⟨g2, 3, none⟩ = some (.slice none 0 0) := (blk_cell BKg2.out 3).trans rfl; have hfg2_3 := blk_frozen BKg2.out 3; have hxg3_0 : w_8.cell? ⟨g3, 0, none⟩ = some (.string (⟨#[68, 65, 86, 58]⟩ : ByteArray)) := (blk_cell BKg3.out 0).trans rfl; have hfg3_0 := blk_frozen BKg3.out 0; have hxg3_1 : w_8.cell? ⟨g3, 1, none⟩ = some (.string (⟨#[112, 114, 111, 112, 101, 114, 116, 121, 117, 112, 100, 97, 116, 101]⟩ : ByteArray)) := (blk_cell BKg3.out 1).trans rfl; have hfg3_1 := blk_frozen BKg3.out 1; have hxg3_2 : w_8.cell? ⟨g3, 2, none⟩ = some (.string (⟨#[]⟩ : ByteArray)) := (blk_cell BKg3.out 2).trans rfl; have hfg3_2 := blk_frozen BKg3.out 2; have hxg3_3 : w_8.cell? ⟨g3, 3, none⟩ = some (.slice Au acc.length cu) := (blk_cell BKg3.out 3).trans rfl; have hfg3_3 := blk_frozen BKg3.out 3; have hxg7_0 : w_8.cell? ⟨g7, 0, none⟩ = some (.string (rd_T42 l0 x).f1.f0) := (blk_cell BKg7.out 0).trans rfl; have hfg7_0 := blk_frozen BKg7.out 0; have hxg7_1 : w_8.cell? ⟨g7, 1, none⟩ = some (.string (rd_T42 l0 x).f1.f1) := (blk_cell BKg7.out 1).trans rfl; have hfg7_1 := blk_frozen BKg7.out 1; have hxg7_2 : w_8.cell? ⟨g7, 2, none⟩ = some (.string (⟨#[]⟩ : ByteArray)) := (blk_cell BKg7.out 2).trans rfl; have hfg7_2 := blk_frozen BKg7.out 2; have hxg7_3 : w_8.cell? ⟨g7, 3, none⟩ = some (.slice none 0 0) := (blk_cell BKg7.out 3).trans rfl; have hfg7_3 := blk_frozen BKg7.out 3; have hxg8_0 : w_8.cell? ⟨g8, 0, none⟩ = some (.string (⟨#[68, 65, 86, 58]⟩ : ByteArray)) := (blk_cell BKg8.out 0).trans rfl; have hfg8_0 := blk_frozen BKg8.out 0; have hxg8_1 : w_8.cell? ⟨g8, 1, none⟩ = some (.string (⟨#[112, 114, 111, 112]⟩ : ByteArray)) := (blk_cell BKg8.out 1).trans rfl; have hfg8_1 := blk_frozen BKg8.out 1; have hxg8_2 : w_8.cell? ⟨g8, 2, none⟩ = some (.string (⟨#[]⟩ : ByteArray)) := (blk_cell BKg8.out 2).trans rfl; have hfg8_2 := blk_frozen BKg8.out 2; have hxg8_3 : w_8.cell? ⟨g8, 3, none⟩ = some (.slice (some ⟨b1, 0, none⟩) 1 1) := (blk_cell BKg8.out 3).trans rfl; have hfg8_3 := blk_frozen BKg8.out 3))
     try go_wp2
     go_roundg k1
     case measure => have := HK1.out; omega
     case rel => exact ⟨wrap64 (x + 1), y, (.slice A1_ y.length c1_), rfl, H', ⟨by have := HK1.out; omega⟩, ⟨Kd.S_far (p := ⟨g3, 3, none⟩) (Kd.S_mono HO.out (fun _ hk => ⟨hk.1.1.1, hk.1.1.2⟩)) (fun _ hk => hk.2) _⟩, ⟨blk_far BKg2.out hn_g2_g3 _⟩, ⟨blk_put (cs := #[.string (⟨#[68, 65, 86, 58]⟩ : ByteArray), .string (⟨#[112, 114, 111, 112, 101, 114, 116, 121, 117, 112, 100, 97, 116, 101]⟩ : ByteArray), .string (⟨#[]⟩ : ByteArray), .slice Au acc.length cu]) BKg3.out 3 _ rfl⟩, ⟨below_set HB.out GEg3.out⟩⟩
end Go.Proofs.Ytegkokdncakadaa.Q
