/- A node read of pieces, whose rows lie apart. No condition. -/
import Derived.Test.YtegkokdncakadaaGreatDoorProg
import Derived.Below
import Derived.Deep.Draws
import Derived.Deep.AppendLies
import Derived.Maps.AppendAt
import Derived.OwnWalk
import Derived.Laws.BytesArg
import Derived.Laws.MakeOwn
import Derived.Laws.OwnMore
import Derived.Deep.OwnRows
import Derived.Tactics
import Derived.Lib.ConvBytes
import Derived.Laws.Slices
import Derived.WalkKit
import Derived.KernelRfl
import Derived.RowKit3
import Derived.Deep.LoopGhost
import Derived.Deep.QuietTactic
import Derived.BigQuiet
import Derived.WideLaws
import Derived.Deep.DeepCutAuto
import Derived.Deep.CutBlock
import Derived.Deep.RegionHeld3
import Derived.Laws.Rows
import Derived.Lib.AppendStr
import Derived.ArgAppend
import Derived.Laws.IdiomCopy
import Derived.OrdersHeld
import Derived.Laws.BitsLemmas
import Derived.RowKit
import Derived.Test.YtegkokdncakadaaGreatDoorVParseNodeG26
namespace Go.Proofs.YtegkokdncakadaaGreatDoor.Q
open Go.RowKit Go.Proofs.YtegkokdncakadaaGreatDoorW.PrintWords Go.Proofs.YtegkokdncakadaaGreatDoorW.PrintLast Go.Proofs.YtegkokdncakadaaGreatDoorW.PrintMore
attribute [local go_sem] max2_int min2_int max_two min_two max_three min_three max_four min_four
set_option linter.unusedVariables false
set_option linter.unusedSimpArgs false
def spec_l8Skip.l0 : Nat → List (S82) → Int → Option Int
 | 0, _, _ => none
 | k + 1, l, at_ => if at_ < (l.length : Int) then (if 0 ≤ at_ then (if ((rd_T82 l at_).f0) = 4 then (spec_l8Blank.f k ((rd_T82 l at_).f4)).bind fun t => (if t = true then spec_l8Skip.l0 k l (wrap64 (at_ + 1)) else some at_) else some at_) else none) else some at_
def spec_l8Skip.T0 : Bool × List (List Nat × List Nat) := (true, [([], []), ([0], [0]), ([1], [1]), ([2], [2]), ([], []), ([4], [4]), ([5], [5]), ([6], [6]), ([7], [7]), ([3, 8], [3, 8]), ([9], [9]), ([10], [10]), ([11, 10], [10, 11]), ([12, 10], [10, 12]), ([13, 10], [10, 13]), ([10], [10]), ([15, 10], [10, 15]), ([16, 10], [10, 16]), ([17, 10], [10, 17]), ([14, 18, 10], [10, 14, 18]), ([19, 10], [10, 19]), ([20, 10], [10, 20]), ([21, 10], [10, 21]), ([10, 22], [10, 22]), ([23, 10], [23]), ([24], [24]), ([25, 24], [24, 25]), ([26, 24], [24, 26]), ([27, 24], [24, 27]), ([24], [24]), ([29, 24], [24, 29]), ([30, 24], [24, 30]), ([31, 24], [24, 31]), ([28, 32, 24], [24, 28, 32]), ([33, 24], [24, 33]), ([34, 24], [24, 34]), ([35, 24, 24], [24, 35]), ([24, 36], [24, 36])])
def spec_l8Skip.B0 : List Nat := [0, 1, 3, 7, 0, 16, 48, 112, 240, 511, 1023, 2047, 4095, 8191, 16383, 2047, 34815, 100351, 231423, 524287, 1048575, 2097151, 4194303, 8388607, 16777215, 33554431, 67108863, 134217727, 268435455, 33554431, 570425343, 1644167167, 3791650815, 8589934591, 17179869183, 34359738367, 68719476735, 137438953471]
theorem spec_l8Skip.tab0 : rtab .any (opsOf Tryz.f32 0) = spec_l8Skip.T0 := by kernel_rfl
theorem spec_l8Skip.bits0 : waitsOk spec_l8Skip.T0.2 spec_l8Skip.B0 = true := by kernel_rfl
set_option maxHeartbeats 64000000 in
set_option maxRecDepth 100000 in
theorem spec_l8Skip.calls (k : Nat) (g : Nat) (AL : Option Addr) (cL : Nat) (l : List (S82)) (at_ : Int) (bad : Bool) (r1 : Int) (w0 w : World) (hL : Kd.C k82 w0 AL l.length l) (hg0 : w0.heap.size ≤ g) (hbg : w.heap[g]? = some (.cells #[.slice AL l.length cL, .int .i64 at_, .bool bad] 56 (0, 0))) (hB : Below w0.heap.size w0 w) (h : spec_l8Skip.l0 k l at_ = some r1) :
 Calls Tryz.prog 32 #[.pointer (some ⟨g, 0, none⟩)] w fun e w' => e = .returned (.tuple #[]) ∧ w'.heap[g]? = some (.cells #[.slice AL l.length cL, .int .i64 r1, .bool bad] 56 (0, 0)) ∧ Below w0.heap.size w0 w' ∧ Kept w w' (fun k_ => k_ = g) := by
 have hu1_ := Tryz.underlying24
 have hu2_ := Tryz.underlying82
 have hu3_ := Tryz.underlying56
 have HLC := A_ hL
 have GEg := A_ hg0
 have BKg := A_ hbg
 have H00 := A_ (below_size hB)
 have HB := A_ hB
 have HK := A_ (Kept.refl w (fun k_ => k_ = g))
 have HA := A_ h
 clear hL hg0 hbg hB h
 go_enter Tryz.func32, Tryz.ntmps32
 go_wp2
 go_loopg [] k (fun kq w' => ∃ (at1 : Int), Aside0 (spec_l8Skip.l0 kq l at1 = some r1) ∧ Aside0 (kq ≤ k) ∧ Aside0 (w'.heap[g]? = some (.cells #[.slice AL l.length cL, .int .i64 at1, .bool bad] 56 (0, 0))) ∧ Aside0 (Below w0.heap.size w0 w') ∧ Aside0 (Kept w w' (fun k_ => k_ = g)))
 case atStart => exact ⟨at_, HA, ⟨Nat.le_refl _⟩, BKg, HB, HK⟩
 case round =>
  clear HA BKg HB HK
  obtain ⟨at1, HA, HK1, BKg, HB, HK⟩ := hrel
  cases gk with
  | zero => exact absurd HA.out (by simp [spec_l8Skip.l0])
  | succ k1 =>
   have H := HA.out
   clear HA
   simp only [spec_l8Skip.l0] at H
   have hxg := cells3 BKg.out
   go_upto_region 0 with (fail)
   (try simp only [Act.put, List.setIfInBounds_toArray, List.set_cons_zero, List.set_cons_succ])
   go_cut [39] (fun v39 wc => ∃ (b_ : Bool), v39 = .bool b_ ∧ Aside0 ((b_ = true → spec_l8Skip.l0 k1 l (wrap64 (at1 + 1)) = some r1) ∧ (b_ = false → some at1 = some r1)) ∧ Aside0 (wc.heap[g]? = some (.cells #[.slice AL l.length cL, .int .i64 at1, .bool bad] 56 (0, 0))) ∧ Aside0 (Below w0.heap.size w0 wc) ∧ Aside0 (Kept w wc (fun k_ => k_ = g)))
   case first => as_aux_lemma =>
    by_cases c1 : at1 < (l.length : Int)
    rotate_left
    · rw [if_neg c1] at H
      have c1b0 := decide_eq_false c1
      clear c1
      go_wp2
      repeat (go_quiet (fail); try go_wp2)
      go_meet
      case rel => exact ⟨false, rs_, ⟨⟨fun h_ => (by cases h_), fun _ => H⟩⟩, ⟨vb_ BKg.out⟩, ⟨bB_⟩, ⟨by repeat (first | (with_reducible first | exact HK.out | apply Kept.drewN | apply Kept.drew | apply Kept.alloc) | exact HK.out)⟩⟩
    rw [if_pos c1] at H
    have c1b0 := decide_eq_true c1
    by_cases c2 : 0 ≤ at1
    rotate_left
    · rw [if_neg c2] at H
      exact absurd H (by simp)
    rw [if_pos c2] at H
    have c2b0 := decide_eq_true c2
    obtain ⟨add, eed, hyd0, hyd1, hyd2, hyd3, hyd4⟩ := at_T82 HLC.out at1 c2 c1
    replace hyd0 := pw_cell_below HB.out hyd0
    replace hyd1 := pw_cell_below HB.out hyd1
    replace hyd2 := pw_cell_below HB.out hyd2
    replace hyd3 := pw_cell_below HB.out hyd3
    replace hyd4 := pw_cell_below HB.out hyd4
    replace c1 := eq_true c1
    replace c2 := eq_true c2
    rw [eed] at hxg
    by_cases c4 : (rd_T82 l at1).f0 = 4
    rotate_left
    · rw [if_neg c4] at H
      have c4b0 : ((rd_T82 l at1).f0 == 4) = false := beq_eq_false_iff_ne.mpr c4
      clear c4
      go_wp2
      repeat (go_quiet (fail); try go_wp2)
      go_meet
      case rel => exact ⟨false, rs_, ⟨⟨fun h_ => (by cases h_), fun _ => H⟩⟩, ⟨vb_ BKg.out⟩, ⟨bB_⟩, ⟨by repeat (first | (with_reducible first | exact HK.out | apply Kept.drewN | apply Kept.drew | apply Kept.alloc) | exact HK.out)⟩⟩
    rw [if_pos c4] at H
    have c4b0 : ((rd_T82 l at1).f0 == 4) = true := beq_iff_eq.mpr c4
    clear c4
    replace H := Option.bind_eq_some_iff.mp H
    obtain ⟨t_, A0_, H⟩ := H
    have At_ := A_ A0_
    clear A0_
    try go_wp2
    refine start_ (n := 38) (S := fun w' => w'.cell? ⟨g, 0, none⟩ = some (.slice (some add) l.length cL) ∧ w'.cell? ⟨g, 1, none⟩ = some (.int .i64 at1) ∧ w'.cell? (add.add ((at1).toNat * 5)) = some (.int .i64 (rd_T82 l at1).f0) ∧ w'.cell? ⟨(add.add ((at1).toNat * 5)).block, (add.add ((at1).toNat * 5)).off + 4, none⟩ = some (.string (rd_T82 l at1).f4)) (ds := [36]) #[false, false, false, false, false, false, false, false, false, false, false, false, false, false, false, false, false, false, false, false, false, false, false, false, false, false, false, false, false, false, false, false, false, false, false, false, false, false] (by kernel_rfl) rfl rfl ⟨hxg.1, hxg.2.1, hyd0, hyd4⟩ (fun hHeld => ?_); refine with_tabW spec_l8Skip.tab0 spec_l8Skip.bits0 (fun HT_ HW_ => ?_)
    generalize hWd_ : wr.drew = q_1 at hHeld ⊢
    have hb_ : Below wr.heap.size wr q_1 := (by rw [← hWd_]; exact below_drew (Below.refl _ _))
    clear hWd_
    replace BKg := A_ (blk_below BKg.out hb_)
    replace HK := A_ (Kept.below HK.out hb_)
    replace HB := A_ (below_step HB.out hb_)
    clear hb_
    replace hxg := cells3 BKg.out
    refine pu_ (i := 0) (N := some 2) ?_
    refine pu_ (i := 1) (N := some 3) ?_
    refine pu_ (i := 2) (N := some 4) ?_
    refine pu_ (i := 4) (N := some 6) ?_
    refine pu_ (i := 5) (N := some 7) ?_
    refine pu_ (i := 6) (N := some 8) ?_
    refine tk_ (i := 3) (N := some 5) hHeld ?_
    refine tk_ (i := 7) (N := some 9) hHeld ?_
    refine pu_ (i := 8) (N := some 10) ?_
    refine pu_ (i := 9) (N := some 11) ?_
    refine pu_ (i := 10) (N := some 12) ?_
    refine pu_ (i := 11) (N := some 13) ?_
    refine pu_ (i := 12) (N := some 14) ?_
    refine pu_ (i := 13) (N := some 15) ?_
    refine pu_ (i := 15) (N := some 17) ?_
    refine pu_ (i := 16) (N := some 18) ?_
    refine pu_ (i := 17) (N := some 19) ?_
    refine tk_ (i := 14) (N := some 16) hHeld ?_
    refine tk_ (i := 18) (N := some 20) hHeld ?_
    refine pu_ (i := 19) (N := some 21) ?_
    refine pu_ (i := 20) (N := some 22) ?_
    refine tk_ (i := 21) (N := some 23) hHeld ?_
    refine pu_ (i := 22) (N := some 24) ?_
    refine pu_ (i := 23) (N := some 25) ?_
    refine pu_ (i := 24) (N := some 26) ?_
    refine pu_ (i := 25) (N := some 27) ?_
    refine pu_ (i := 26) (N := some 28) ?_
    refine pu_ (i := 27) (N := some 29) ?_
    refine pu_ (i := 29) (N := some 31) ?_
    refine pu_ (i := 30) (N := some 32) ?_
    refine pu_ (i := 31) (N := some 33) ?_
    refine tk_ (i := 28) (N := some 30) hHeld ?_
    refine tk_ (i := 32) (N := some 34) hHeld ?_
    refine pu_ (i := 33) (N := some 35) ?_
    refine pu_ (i := 34) (N := some 36) ?_
    refine tk_ (i := 35) (N := some 37) hHeld ?_
    refine last_ (i := 36) (N := some 38) #[true, true, true, true, true, true, true, true, true, true, true, true, true, true, true, true, true, true, true, true, true, true, true, true, true, true, true, true, true, true, true, true, true, true, true, true, true, false] rfl rfl (one_of HT_.out (by kernel_rfl)) (by decide) (fun K hK => ?_)
    refine goes_ Tryz.func59 (by kernel_rfl) rfl #[.string (rd_T82 l at1).f4] (by rfl) rfl rfl (by simp only [List.map_toArray, List.map_cons, List.map_nil]; rfl) ?_
    with_reducible refine (spec_l8Blank.calls k1 ((rd_T82 l at1).f4) t_ _ At_.out).mono ?_
    rintro e q_2 ⟨rfl, ⟨nd_, hnd_⟩⟩
    refine ⟨_, rfl, ?_⟩
    have hb_ : Below q_1.heap.size q_1 q_2 := (by rw [hnd_]; exact pw_below_drewN (Below.refl _ _) _)
    clear hnd_
    replace BKg := A_ (blk_below BKg.out hb_)
    replace HK := A_ (Kept.below HK.out hb_)
    replace HB := A_ (below_step HB.out hb_)
    clear hb_
    replace hxg := cells3 BKg.out
    refine hK.out _ _ ?_
    clear hK K
    refine no_ (some 38) ?_
    refine pu_ (i := 37) (N := some 39) ?_
    refine done_ (done_of HT_.out (by kernel_rfl)) ?_
    (try clear hHeld)
    go_wp2
    go_meet
    case rel => exact ⟨t_, rs_, ⟨⟨fun h_ => by rw [if_pos h_] at H; exact H, fun h_ => by rw [if_neg (by rw [h_]; decide)] at H; exact H⟩⟩, ⟨vb_ BKg.out⟩, ⟨bB_⟩, ⟨by repeat (first | (with_reducible first | exact HK.out | apply Kept.drewN | apply Kept.drew | apply Kept.alloc) | exact HK.out)⟩⟩
   case rest =>
    clear BKg hxg HB HK H
    obtain ⟨b_, rfl, HA, BKg, HB, HK⟩ := hcut
    have hxg := cells3 BKg.out
    cases b_
    · obtain rfl := Option.some.inj (HA.out.2 rfl)
      go_wp2
      (first | go_end0 | ((try simp only [Exit.inBlock, Exit.then]); refine bodyPost_ret (results_none rfl _ _ _) rfl ?_))
      exact ⟨rfl, BKg.out, HB.out, HK.out⟩
    · have H' := A_ (HA.out.1 rfl)
      clear HA
      go_wp2_with (first | ((with_reducible refine gate_store (t := 3) (p := 46) rfl ?_); apply box_store (g := g); (case hrun => first | (go_simp; done) | (go_simp; rfl)); (case _ho => rfl); (case hN => rfl); (case hgd => rfl); (case hs => repeat (first | (with_reducible exact Sto.refl _ _) | refine Sto.step ?_ _ _)); (case hb => repeat (first | (with_reducible exact IsBlk.of BKg.out) | (with_reducible apply IsBlk.set))); intro v_1 hw' bk_; simp only [List.setIfInBounds_toArray, List.set_cons_zero, List.set_cons_succ] at bk_; replace HK := A_ (hw'.keeps (I := fun w_ => Kept w w_ (fun k_ => k_ = g)) HK.out (fun _ _ u_ h_ => Kept.setCell h_ (.inl rfl) u_)); replace HB := A_ (stored_below hw' HB.out GEg.out); replace BKg := Aside0.mk bk_; clear hw' bk_; replace hxg := cells3 BKg.out))
      go_roundg k1
      case measure => have := HK1.out; omega
      case rel => exact ⟨wrap64 (at1 + 1), H', ⟨by have := HK1.out; omega⟩, BKg, HB, HK⟩
end Go.Proofs.YtegkokdncakadaaGreatDoor.Q

/- A node read of pieces, whose rows lie apart. No condition. -/
namespace Go.Proofs.YtegkokdncakadaaGreatDoor.Q
open Go.RowKit Go.Proofs.YtegkokdncakadaaGreatDoorW.PrintWords Go.Proofs.YtegkokdncakadaaGreatDoorW.PrintLast Go.Proofs.YtegkokdncakadaaGreatDoorW.PrintMore
attribute [local go_sem] max2_int min2_int max_two min_two max_three min_three max_four min_four
set_option linter.unusedVariables false
set_option linter.unusedSimpArgs false
mutual
def spec_l8Read.f : Nat → List (S82) → Int → Bool → ByteArray → Int → Option (ByteArray × ByteArray × ByteArray × List (S24) × Int × Bool)
 | 0, _, _, _, _, _ => none
 | k + 1, l, at_, bad, ns, deep => if deep > 5 then some ((⟨#[]⟩ : ByteArray), (⟨#[]⟩ : ByteArray), (⟨#[]⟩ : ByteArray), [], at_, true) else if at_ < (l.length : Int) then (if 0 ≤ at_ then (if ((rd_T82 l at_).f0) = 1 then (spec_l8Kids.l0 k l deep (wrap64 (at_ + 1)) bad (⟨#[]⟩ : ByteArray) (if (rd_T82 l at_).f3 = true then (rd_T82 l at_).f2 else ns) ((rd_T82 l at_).f1) []).bind fun r => some ((if (rd_T82 l at_).f3 = true then (rd_T82 l at_).f2 else ns), (rd_T82 l at_).f1, r.1, r.2.1, r.2.2.1, r.2.2.2) else if ((rd_T82 l at_).f0) = 3 then some ((if (rd_T82 l at_).f3 = true then (rd_T82 l at_).f2 else ns), (rd_T82 l at_).f1, (⟨#[]⟩ : ByteArray), [], wrap64 (at_ + 1), bad) else some ((⟨#[]⟩ : ByteArray), (⟨#[]⟩ : ByteArray), (⟨#[]⟩ : ByteArray), [], at_, true)) else none) else some ((⟨#[]⟩ : ByteArray), (⟨#[]⟩ : ByteArray), (⟨#[]⟩ : ByteArray), [], at_, true)
def spec_l8Kids.l0 : Nat → List (S82) → Int → Int → Bool → ByteArray → ByteArray → ByteArray → List (S24) → Option (ByteArray × List (S24) × Int × Bool)
 | 0, _, _, _, _, _, _, _, _ => none
 | k + 1, l, deep, at_, bad, text, ns, nm, kids => if bad = true then some ((⟨#[]⟩ : ByteArray), kids, at_, bad) else if at_ < (l.length : Int) then (if 0 ≤ at_ then (if ((rd_T82 l at_).f0) = 2 then (if (kids.length : Int) = 0 then some (text, kids, wrap64 (at_ + 1), !(((rd_T82 l at_).f1).toList == nm.toList)) else (spec_l8Blank.f k text).bind fun b => some ((⟨#[]⟩ : ByteArray), kids, wrap64 (at_ + 1), (if b = true then !(((rd_T82 l at_).f1).toList == nm.toList) else true))) else if ((rd_T82 l at_).f0) = 4 then (if text.size + ((rd_T82 l at_).f4).size ≤ 9223372036854775807 then spec_l8Kids.l0 k l deep (wrap64 (at_ + 1)) bad (text ++ (rd_T82 l at_).f4) ns nm kids else none) else (spec_l8Read.f k l at_ bad ns (wrap64 (deep + 1))).bind fun r => (if kids.length < 1954687338268 then spec_l8Kids.l0 k l deep r.2.2.2.2.1 r.2.2.2.2.2 text ns nm (kids ++ [(⟨r.1, r.2.1, r.2.2.1, r.2.2.2.1⟩ : S24)]) else none)) else none) else some ((⟨#[]⟩ : ByteArray), kids, at_, true)
end
def spec_l8Kids.T4 : Bool × List (List Nat × List Nat) := (true, [([], []), ([0], [0]), ([1], [1]), ([2], [2]), ([], []), ([4], [4]), ([5], [5]), ([6], [6]), ([3, 7], [3, 7]), ([8], [8]), ([], []), ([10, 9, 0, 1, 2, 3, 4, 5, 6, 7, 8, 9, 10], [9, 10])])
def spec_l8Kids.B4 : List Nat := [0, 1, 3, 7, 0, 16, 48, 112, 255, 511, 0, 2047]
theorem spec_l8Kids.tab4 : rtab .any (opsOf Tryz.f60 4) = spec_l8Kids.T4 := by kernel_rfl
theorem spec_l8Kids.bits4 : waitsOk spec_l8Kids.T4.2 spec_l8Kids.B4 = true := by kernel_rfl
def spec_l8Kids.T10 : Bool × List (List Nat × List Nat) := (true, [([], []), ([], []), ([1], [1]), ([], []), ([3], [3]), ([4], [4]), ([5], [5]), ([2, 6], [2, 6]), ([0, 0, 1, 2, 3, 4, 5, 6, 7], [0]), ([8, 0, 1, 2, 3, 4, 5, 6, 7], [8]), ([9, 7, 0, 1, 2, 3, 4, 5, 6, 7], [7, 9])])
def spec_l8Kids.B10 : List Nat := [0, 0, 2, 0, 8, 24, 56, 126, 255, 511, 1023]
theorem spec_l8Kids.tab10 : rtab .any (opsOf Tryz.f60 10) = spec_l8Kids.T10 := by kernel_rfl
theorem spec_l8Kids.bits10 : waitsOk spec_l8Kids.T10.2 spec_l8Kids.B10 = true := by kernel_rfl
def spec_l8Kids.T7 : Bool × List (List Nat × List Nat) := (true, [([], []), ([0], [0]), ([1], [1]), ([2], [2]), ([], []), ([3], [3]), ([], []), ([3, 6, 0, 1, 2, 3, 4, 5, 6], [3, 6]), ([7, 5, 0, 1, 2, 3, 4, 5, 6, 7], [5, 7]), ([8, 4, 7, 0, 1, 2, 3, 4, 5, 6, 7], [4, 8]), ([0, 0, 1, 2, 3, 4, 5, 6, 7], [0]), ([10, 0, 1, 2, 3, 4, 5, 6, 7], [10]), ([11, 7, 7, 0, 1, 2, 3, 4, 5, 6, 7], [7, 11])])
def spec_l8Kids.B7 : List Nat := [0, 1, 3, 7, 0, 15, 0, 127, 255, 511, 255, 1279, 3327]
theorem spec_l8Kids.tab7 : rtab .any (opsOf Tryz.f60 7) = spec_l8Kids.T7 := by kernel_rfl
theorem spec_l8Kids.bits7 : waitsOk spec_l8Kids.T7.2 spec_l8Kids.B7 = true := by kernel_rfl
def spec_l8Read.C (k : Nat) : Prop := ∀ (g : Nat) (AL : Option Addr) (cL : Nat) (l : List (S82)) (at_ : Int) (bad : Bool) (ns : ByteArray) (deep : Int) (r1 r2 r3 : ByteArray) (r4 : List (S24)) (r5 : Int) (r6 : Bool) (w0 w : World), Kd.C k82 w0 AL l.length l → w0.heap.size ≤ g → w.heap[g]? = some (.cells #[.slice AL l.length cL, .int .i64 at_, .bool bad] 56 (0, 0)) → Below w0.heap.size w0 w → spec_l8Read.f k l at_ bad ns deep = some (r1, r2, r3, r4, r5, r6) →
 Calls Tryz.prog 33 #[.pointer (some ⟨g, 0, none⟩), .string ns, .int .i64 deep] w fun e w' => ∃ v3_ : Value, e = .returned (.agg #[.string r1, .string r2, .string r3, v3_]) ∧ Kd.S kA 24 w' w.heap.size (fun _ => True) v3_ r4 ∧ w'.heap[g]? = some (.cells #[.slice AL l.length cL, .int .i64 r5, .bool r6] 56 (0, 0)) ∧ Below w0.heap.size w0 w' ∧ Kept w w' (fun k_ => k_ = g)
set_option maxHeartbeats 64000000 in
set_option maxRecDepth 100000 in
theorem spec_l8Kids.calls (k : Nat) (ihR : ∀ j, j < k → spec_l8Read.C j) (g gn : Nat) (AL : Option Addr) (cL : Nat) (l : List (S82)) (at_ : Int) (bad : Bool) (deep : Int) (ns nm r3 : ByteArray) (r4 : List (S24)) (r5 : Int) (r6 : Bool) (w0 w : World) (hL : Kd.C k82 w0 AL l.length l) (hg0 : w0.heap.size ≤ g) (hgn0 : w0.heap.size ≤ gn) (hne : g ≠ gn) (hbg : w.heap[g]? = some (.cells #[.slice AL l.length cL, .int .i64 at_, .bool bad] 56 (0, 0))) (hbn : w.heap[gn]? = some (.cells #[.string ns, .string nm, .string (⟨#[]⟩ : ByteArray), .slice none 0 0] 24 (0, 0))) (hB : Below w0.heap.size w0 w) (h : spec_l8Kids.l0 k l deep at_ bad (⟨#[]⟩ : ByteArray) ns nm [] = some (r3, r4, r5, r6)) :
 Calls Tryz.prog 60 #[.pointer (some ⟨g, 0, none⟩), .pointer (some ⟨gn, 0, none⟩), .int .i64 deep] w fun e w' => e = .returned (.tuple #[]) ∧ ∃ v3_ : Value, Kd.S kA 24 w' w.heap.size (fun _ => True) v3_ r4 ∧ w'.heap[g]? = some (.cells #[.slice AL l.length cL, .int .i64 r5, .bool r6] 56 (0, 0)) ∧ w'.heap[gn]? = some (.cells #[.string ns, .string nm, .string r3, v3_] 24 (0, 0)) ∧ Below w0.heap.size w0 w' ∧ Kept w w' (fun k_ => k_ = g ∨ k_ = gn) := by
 have hu1_ := Tryz.underlying24
 have hu2_ := Tryz.underlying82
 have hu3_ := Tryz.underlying56
 have HLC := A_ hL
 have GEg := A_ hg0
 have BKg := A_ hbg
 have H00 := A_ (below_size hB)
 have HB := A_ hB
 have HK := A_ (Kept.refl w (fun k_ => k_ = g ∨ k_ = gn))
 have HA := A_ h
 clear hL hg0 hbg hB h
 have GEgn := A_ hgn0
 have BKgn := A_ hbn
 have hn_g_gn := hne
 have hn_gn_g := hne.symm
 have HR := A_ ihR
 clear hgn0 hbn hne ihR
 go_enter Tryz.func60, Tryz.ntmps60
 go_wp2
 go_loopg [6] k (fun kq v6 w' => ∃ (at1 : Int) (bad1 : Bool) (tx1 : ByteArray) (ks1 : List (S24)) (u1 : Value), v6 = .string tx1 ∧ Aside0 (spec_l8Kids.l0 kq l deep at1 bad1 tx1 ns nm ks1 = some (r3, r4, r5, r6)) ∧ Aside0 (kq ≤ k) ∧ Aside0 (Kd.S kA 24 w' w.heap.size (fun k_ => k_ ≠ g ∧ k_ ≠ gn) (u1) ks1) ∧ Aside0 (w'.heap[g]? = some (.cells #[.slice AL l.length cL, .int .i64 at1, .bool bad1] 56 (0, 0))) ∧ Aside0 (w'.heap[gn]? = some (.cells #[.string ns, .string nm, .string (⟨#[]⟩ : ByteArray), u1] 24 (0, 0))) ∧ Aside0 (Below w0.heap.size w0 w') ∧ Aside0 (Kept w w' (fun k_ => k_ = g ∨ k_ = gn)))
 case atStart => exact ⟨at_, bad, (⟨#[]⟩ : ByteArray), [], .slice none 0 0, rs_, HA, ⟨Nat.le_refl _⟩, ⟨Kd.S_nil _ _ _ _ _⟩, BKg, BKgn, HB, HK⟩
 case round =>
  clear HA BKg BKgn HB HK
  obtain ⟨at1, bad1, tx1, ks1, u1, rfl, HA, HK1, HO, BKg, BKgn, HB, HK⟩ := hrel
  cases gk with
  | zero => exact absurd HA.out (by simp [spec_l8Kids.l0])
  | succ k1 =>
   have H := HA.out
   clear HA
   simp only [spec_l8Kids.l0] at H
   obtain ⟨Au, cu, rfl⟩ := Kd.S_slice HO.out
   have hxg := cells3 BKg.out
   have hxgn := cells4 BKgn.out
   cases bad1
   rotate_left
   · skip
     as_aux_lemma =>
      rw [if_pos rfl] at H
      obtain ⟨rfl, rfl, rfl, rfl⟩ : _ ∧ _ ∧ _ ∧ _ := by simpa only [Option.some.injEq, Prod.mk.injEq] using H
      clear H
      go_wp2
      (first | go_end0 | ((try simp only [Exit.inBlock, Exit.then]); refine bodyPost_ret (results_none rfl _ _ _) rfl ?_))
      exact ⟨rfl, _, Kd.S_mono HO.out (fun _ _ => trivial), BKg.out, BKgn.out, HB.out, HK.out⟩
   rw [if_neg nf_] at H
   go_upto_region 2 with (fail)
   (try simp only [Act.put, List.setIfInBounds_toArray, List.set_cons_zero, List.set_cons_succ])
   go_cut [23] (fun v23 wc => ∃ (b_ : Bool), v23 = .bool b_ ∧ Aside0 ((b_ = true → (some ((⟨#[]⟩ : ByteArray), ks1, at1, true) : Option (ByteArray × List (S24) × Int × Bool)) = some (r3, r4, r5, r6)) ∧ (b_ = false → at1 < (l.length : Int) ∧ 0 ≤ at1 ∧ ((if (rd_T82 l at1).f0 = 2 then (if (ks1.length : Int) = 0 then some (tx1, ks1, wrap64 (at1 + 1), !(((rd_T82 l at1).f1).toList == nm.toList)) else (spec_l8Blank.f k1 tx1).bind fun b => some ((⟨#[]⟩ : ByteArray), ks1, wrap64 (at1 + 1), (if b = true then !(((rd_T82 l at1).f1).toList == nm.toList) else true))) else if (rd_T82 l at1).f0 = 4 then (if tx1.size + ((rd_T82 l at1).f4).size ≤ 9223372036854775807 then spec_l8Kids.l0 k1 l deep (wrap64 (at1 + 1)) false (tx1 ++ (rd_T82 l at1).f4) ns nm ks1 else none) else (spec_l8Read.f k1 l at1 false ns (wrap64 (deep + 1))).bind fun r => (if ks1.length < 1954687338268 then spec_l8Kids.l0 k1 l deep r.2.2.2.2.1 r.2.2.2.2.2 tx1 ns nm (ks1 ++ [(⟨r.1, r.2.1, r.2.2.1, r.2.2.2.1⟩ : S24)]) else none)) : Option (ByteArray × List (S24) × Int × Bool)) = some (r3, r4, r5, r6))) ∧ Aside0 (Kd.S kA 24 wc w.heap.size (fun k_ => k_ ≠ g ∧ k_ ≠ gn) (.slice Au ks1.length cu) ks1) ∧ Aside0 (wc.heap[g]? = some (.cells #[.slice AL l.length cL, .int .i64 at1, .bool false] 56 (0, 0))) ∧ Aside0 (wc.heap[gn]? = some (.cells #[.string ns, .string nm, .string (⟨#[]⟩ : ByteArray), .slice Au ks1.length cu] 24 (0, 0))) ∧ Aside0 (Below w0.heap.size w0 wc) ∧ Aside0 (Kept w wc (fun k_ => k_ = g ∨ k_ = gn)))
   case first => as_aux_lemma =>
    by_cases c1 : at1 < (l.length : Int)
    rotate_left
    · rw [if_neg c1] at H
      have c1b1 : decide ((l.length : Int) ≤ at1) = true := decide_eq_true (by omega)
      clear c1
      go_wp2
      repeat (go_quiet (fail); try go_wp2)
      go_meet
      case rel => exact ⟨true, rs_, ⟨⟨fun _ => H, fun h_ => (by cases h_)⟩⟩, ⟨vS_ HO.out⟩, ⟨vb_ BKg.out⟩, ⟨vb_ BKgn.out⟩, ⟨bB_⟩, ⟨by repeat (first | (with_reducible first | exact HK.out | apply Kept.drewN | apply Kept.drew | apply Kept.alloc) | exact HK.out)⟩⟩
    rw [if_pos c1] at H
    have c1b1 : decide ((l.length : Int) ≤ at1) = false := decide_eq_false (by omega)
    have HC1 := A_ c1
    by_cases c2 : 0 ≤ at1
    rotate_left
    · rw [if_neg c2] at H
      exact absurd H (by simp)
    rw [if_pos c2] at H
    have HC2 := A_ c2
    clear c1 c2
    go_wp2
    repeat (go_quiet (fail); try go_wp2)
    go_meet
    case rel => exact ⟨false, rs_, ⟨⟨fun h_ => (by cases h_), fun _ => ⟨HC1.out, HC2.out, H⟩⟩⟩, ⟨vS_ HO.out⟩, ⟨vb_ BKg.out⟩, ⟨vb_ BKgn.out⟩, ⟨bB_⟩, ⟨by repeat (first | (with_reducible first | exact HK.out | apply Kept.drewN | apply Kept.drew | apply Kept.alloc) | exact HK.out)⟩⟩
   case rest =>
    clear HO BKg BKgn hxg hxgn HB HK H
    obtain ⟨b_, rfl, HA, HO, BKg, BKgn, HB, HK⟩ := hcut
    have hxg := cells3 BKg.out
    have hxgn := cells4 BKgn.out
    cases b_
    rotate_left
    · skip
      as_aux_lemma =>
       have H := HA.out.1 rfl
       clear HA
       obtain ⟨rfl, rfl, rfl, rfl⟩ : _ ∧ _ ∧ _ ∧ _ := by simpa only [Option.some.injEq, Prod.mk.injEq] using H
       clear H
       go_wp2_with (first | ((with_reducible refine gate_store (t := 4) (p := 26) rfl ?_); apply box_store (g := g); (case hrun => first | (go_simp; done) | (go_simp; rfl)); (case _ho => rfl); (case hN => rfl); (case hgd => rfl); (case hs => repeat (first | (with_reducible exact Sto.refl _ _) | refine Sto.step ?_ _ _)); (case hb => repeat (first | (with_reducible exact IsBlk.of BKg.out) | (with_reducible apply IsBlk.set))); intro v_1 hw' bk_; simp only [List.setIfInBounds_toArray, List.set_cons_zero, List.set_cons_succ] at bk_; replace BKgn := A_ (stored_blk hw' BKgn.out hn_gn_g); replace HO := A_ (stored_S hw' HO.out (fun k_ hk => hk.1)); replace HK := A_ (hw'.keeps (I := fun w_ => Kept w w_ (fun k_ => k_ = g ∨ k_ = gn)) HK.out (fun _ _ u_ h_ => Kept.setCell h_ (.inl (.inl rfl)) u_)); replace HB := A_ (stored_below hw' HB.out GEg.out); replace BKg := Aside0.mk bk_; clear hw' bk_; replace hxg := cells3 BKg.out; replace hxgn := cells4 BKgn.out))
       (first | go_end0 | ((try simp only [Exit.inBlock, Exit.then]); refine bodyPost_ret (results_none rfl _ _ _) rfl ?_))
       exact ⟨rfl, _, Kd.S_mono HO.out (fun _ _ => trivial), BKg.out, BKgn.out, HB.out, HK.out⟩
    obtain ⟨c1, c2, H⟩ := HA.out.2 rfl
    clear HA
    have c1b0 := decide_eq_true c1
    have c2b0 := decide_eq_true c2
    obtain ⟨ade, eee, hye0, hye1, hye2, hye3, hye4⟩ := at_T82 HLC.out at1 c2 c1
    replace hye0 := pw_cell_below HB.out hye0
    replace hye1 := pw_cell_below HB.out hye1
    replace hye2 := pw_cell_below HB.out hye2
    replace hye3 := pw_cell_below HB.out hye3
    replace hye4 := pw_cell_below HB.out hye4
    replace c1 := eq_true c1
    replace c2 := eq_true c2
    rw [eee] at hxg
    try go_wp2
    refine start_ (n := 12) (S := fun w' => w'.cell? ⟨g, 0, none⟩ = some (.slice (some ade) l.length cL) ∧ w'.cell? ⟨g, 1, none⟩ = some (.int .i64 at1) ∧ w'.cell? (ade.add ((at1).toNat * 5)) = some (.int .i64 (rd_T82 l at1).f0) ∧ w'.cell? ⟨(ade.add ((at1).toNat * 5)).block, (ade.add ((at1).toNat * 5)).off + 1, none⟩ = some (.string (rd_T82 l at1).f1) ∧ w'.cell? ⟨(ade.add ((at1).toNat * 5)).block, (ade.add ((at1).toNat * 5)).off + 2, none⟩ = some (.string (rd_T82 l at1).f2) ∧ w'.cell? ⟨(ade.add ((at1).toNat * 5)).block, (ade.add ((at1).toNat * 5)).off + 3, none⟩ = some (.bool (rd_T82 l at1).f3) ∧ w'.cell? ⟨(ade.add ((at1).toNat * 5)).block, (ade.add ((at1).toNat * 5)).off + 4, none⟩ = some (.string (rd_T82 l at1).f4)) (ds := [11]) #[false, false, false, false, false, false, false, false, false, false, false, false] (by kernel_rfl) rfl rfl ⟨hxg.1, hxg.2.1, hye0, hye1, hye2, hye3, hye4⟩ (fun hHeld => ?_); refine with_tabW spec_l8Kids.tab4 spec_l8Kids.bits4 (fun HT_ HW_ => ?_)
    generalize hWd_ : wc.drew = u_1 at hHeld ⊢
    have hb_ : Below wc.heap.size wc u_1 := (by rw [← hWd_]; exact below_drew (Below.refl _ _))
    clear hWd_
    replace BKg := A_ (blk_below BKg.out hb_)
    replace BKgn := A_ (blk_below BKgn.out hb_)
    replace HO := A_ (Kd.S_below HO.out hb_)
    replace HK := A_ (Kept.below HK.out hb_)
    replace HB := A_ (below_step HB.out hb_)
    clear hb_
    replace hxg := cells3 BKg.out
    replace hxgn := cells4 BKgn.out
    refine pu_ (i := 0) (N := some 27) ?_
    refine pu_ (i := 1) (N := some 28) ?_
    refine pu_ (i := 2) (N := some 29) ?_
    refine pu_ (i := 4) (N := some 31) ?_
    refine pu_ (i := 5) (N := some 32) ?_
    refine pu_ (i := 6) (N := some 33) ?_
    refine tk_ (i := 3) (N := some 30) hHeld ?_
    refine tk_ (i := 7) (N := some 34) hHeld ?_
    refine pu_ (i := 8) (N := some 35) ?_
    refine tk_ (i := 9) (N := some 36) hHeld ?_
    refine on_ (i := 10) (N := some 7) (fun K hK => ?_)
    refine box_step ?hg (N := 7) ?hd (cs := #[.int .i64 0, .string (⟨#[]⟩ : ByteArray), .string (⟨#[]⟩ : ByteArray), .bool false, .string (⟨#[]⟩ : ByteArray)]) (t := 82) ?hr ?_
    (case hd => rfl)
    (case hg => rfl)
    (case hr => first | (go_simp; done) | (go_simp; rfl))
    intro gp hg_ u_2 hbox_ hb_
    have hS0_ := pw_cell_below hb_ hHeld.1
    have hS1_ := pw_cell_below hb_ hHeld.2.1
    have hS2_ := pw_cell_below hb_ hHeld.2.2.1
    have hS3_ := pw_cell_below hb_ hHeld.2.2.2.1
    have hS4_ := pw_cell_below hb_ hHeld.2.2.2.2.1
    have hS5_ := pw_cell_below hb_ hHeld.2.2.2.2.2.1
    have hS6_ := pw_cell_below hb_ hHeld.2.2.2.2.2.2
    have GWgp : Aside0 (w.heap.size ≤ gp) := ⟨by rw [hg_]; exact HK.out.1⟩
    have GEgp : Aside0 (w0.heap.size ≤ gp) := ⟨by rw [hg_]; exact below_size HB.out⟩
    have hn_g_gp : g ≠ gp := (by have := blk_lt BKg.out; rw [hg_]; omega)
    have hn_gp_g : gp ≠ g := hn_g_gp.symm
    have hn_gn_gp : gn ≠ gp := (by have := blk_lt BKgn.out; rw [hg_]; omega)
    have hn_gp_gn : gp ≠ gn := hn_gn_gp.symm
    replace HO := A_ (Kd.S_elderB HO.out gp (Nat.le_of_eq hg_.symm))
    replace BKg := A_ (blk_below BKg.out hb_)
    replace BKgn := A_ (blk_below BKgn.out hb_)
    replace HO := A_ (Kd.S_below HO.out hb_)
    replace HK := A_ (Kept.below HK.out hb_)
    replace HB := A_ (below_step HB.out hb_)
    have BKgp := A_ hbox_
    clear hb_ hbox_ hg_
    replace hxg := cells3 BKg.out
    replace hxgn := cells4 BKgn.out
    have hxgp := cells5 BKgp.out
    refine hK.out _ _ ⟨hS0_, hS1_, hS2_, hS3_, hS4_, hS5_, hS6_⟩ (fun hHeld => ?_)
    clear hK K
    refine no_ (some 7) ?_
    refine last_ (i := 11) (N := none) #[true, true, true, true, true, true, true, true, true, true, true, true] rfl rfl (one_of HT_.out (by kernel_rfl)) (by decide) (fun K hK => ?_)
    refine skip_ (w1 := ?_) (by rfl) rfl ?_ ?_
    rotate_left
    · go_simp
      rfl
    refine hK.out _ _ ?_
    clear hK K
    refine done_ (done_of HT_.out (by kernel_rfl)) ?_
    (try clear hHeld hS0_ hS1_ hS2_ hS3_ hS4_ hS5_ hS6_)
    (try clear hye0 hye1 hye2 hye3 hye4)
    generalize hWs_ : (((((u_2.setCell ⟨gp, 0, none⟩ (.int .i64 (rd_T82 l at1).f0)).setCell ⟨gp, 1, none⟩ (.string (rd_T82 l at1).f1)).setCell ⟨gp, 2, none⟩ (.string (rd_T82 l at1).f2)).setCell ⟨gp, 3, none⟩ (.bool (rd_T82 l at1).f3)).setCell ⟨gp, 4, none⟩ (.string (rd_T82 l at1).f4)) = u_3
    have hw' : Sto gp u_2 u_3 := (by rw [← hWs_]; exact Sto.step (Sto.step (Sto.step (Sto.step (Sto.step (Sto.refl _ _) _ _) _ _) _ _) _ _) _ _)
    have bk_ : u_3.heap[gp]? = some (.cells #[.int .i64 (rd_T82 l at1).f0, .string (rd_T82 l at1).f1, .string (rd_T82 l at1).f2, .bool (rd_T82 l at1).f3, .string (rd_T82 l at1).f4] 82 (0, 0)) := (by rw [← hWs_]; exact (IsBlk.set (IsBlk.set (IsBlk.set (IsBlk.set (IsBlk.set (IsBlk.of BKgp.out) 0 _) 1 _) 2 _) 3 _) 4 _ : IsBlk _ _ _ _))
    clear hWs_
    replace BKg := A_ (stored_blk hw' BKg.out hn_g_gp)
    replace BKgn := A_ (stored_blk hw' BKgn.out hn_gn_gp)
    replace HO := A_ (stored_S hw' HO.out (fun k_ hk => hk.2))
    replace HK := A_ (hw'.keeps (I := fun w_ => Kept w w_ (fun k_ => k_ = g ∨ k_ = gn)) HK.out (fun _ _ u_ h_ => Kept.setCell h_ (.inr GWgp.out) u_))
    replace HB := A_ (stored_below hw' HB.out GEgp.out)
    replace BKgp := Aside0.mk bk_
    clear hw' bk_
    replace hxg := cells3 BKg.out
    replace hxgn := cells4 BKgn.out
    replace hxgp := cells5 BKgp.out
    clear eee
    by_cases c4 : (rd_T82 l at1).f0 = 2
    · rw [if_pos c4] at H
      as_aux_lemma =>
       have e2b : ((rd_T82 l at1).f0 == 2) = true := beq_iff_eq.mpr c4
       clear c4
       go_upto_region 10 with (first | ((with_reducible refine gate_store (t := 3) (p := 66) rfl ?_); apply box_store (g := g); (case hrun => first | (go_simp; done) | (go_simp; rfl)); (case _ho => rfl); (case hN => rfl); (case hgd => rfl); (case hs => repeat (first | (with_reducible exact Sto.refl _ _) | refine Sto.step ?_ _ _)); (case hb => repeat (first | (with_reducible exact IsBlk.of BKg.out) | (with_reducible apply IsBlk.set))); intro c_4 hw' bk_; simp only [List.setIfInBounds_toArray, List.set_cons_zero, List.set_cons_succ] at bk_; replace BKgn := A_ (stored_blk hw' BKgn.out hn_gn_g); replace BKgp := A_ (stored_blk hw' BKgp.out hn_gp_g); replace HO := A_ (stored_S hw' HO.out (fun k_ hk => hk.1.1)); replace HK := A_ (hw'.keeps (I := fun w_ => Kept w w_ (fun k_ => k_ = g ∨ k_ = gn)) HK.out (fun _ _ u_ h_ => Kept.setCell h_ (.inl (.inl rfl)) u_)); replace HB := A_ (stored_below hw' HB.out GEg.out); replace BKg := Aside0.mk bk_; clear hw' bk_; replace hxg := cells3 BKg.out; replace hxgn := cells4 BKgn.out; replace hxgp := cells5 BKgp.out))
       (try simp only [Act.put, List.setIfInBounds_toArray, List.set_cons_zero, List.set_cons_succ])
       obtain ⟨q_, hq_⟩ : ∃ q_ : Bool, (((rd_T82 l at1).f1).toList == nm.toList) = q_ := ⟨_, rfl⟩
       rw [hq_] at H
       have hq2_ : (((rd_T82 l at1).f1).toList != nm.toList) = !q_ := by rw [← hq_]; rfl
       refine start_ (n := 11) (S := fun w' => w'.cell? ⟨gp, 1, none⟩ = some (.string (rd_T82 l at1).f1) ∧ w'.cell? ⟨gn, 1, none⟩ = some (.string nm)) (ds := [10]) #[false, false, false, false, false, false, false, false, false, false, false] (by kernel_rfl) rfl rfl ⟨hxgp.2.1, hxgn.2.1⟩ (fun hHeld => ?_); refine with_tabW spec_l8Kids.tab10 spec_l8Kids.bits10 (fun HT_ HW_ => ?_)
       generalize hWd_ : c_4.drew = c_5 at hHeld ⊢
       have hb_ : Below c_4.heap.size c_4 c_5 := (by rw [← hWd_]; exact below_drew (Below.refl _ _))
       clear hWd_
       replace BKg := A_ (blk_below BKg.out hb_)
       replace BKgn := A_ (blk_below BKgn.out hb_)
       replace BKgp := A_ (blk_below BKgp.out hb_)
       replace HO := A_ (Kd.S_below HO.out hb_)
       replace HK := A_ (Kept.below HK.out hb_)
       replace HB := A_ (below_step HB.out hb_)
       clear hb_
       replace hxg := cells3 BKg.out
       replace hxgn := cells4 BKgn.out
       replace hxgp := cells5 BKgp.out
       refine pu_ (i := 0) (N := some 67) ?_
       refine pu_ (i := 1) (N := some 68) ?_
       refine pu_ (i := 3) (N := some 70) ?_
       refine pu_ (i := 4) (N := some 71) ?_
       refine pu_ (i := 5) (N := some 72) ?_
       refine tk_ (i := 2) (N := some 69) hHeld ?_
       refine tk_ (i := 6) (N := some 73) hHeld ?_
       refine pu_ (i := 7) (N := some 74) ?_
       refine pu_ (i := 8) (N := some 75) ?_
       refine pu_ (i := 9) (N := some 76) ?_
       refine last_ (i := 10) (N := none) #[true, true, true, true, true, true, true, true, true, true, true] rfl rfl (one_of HT_.out (by kernel_rfl)) (by decide) (fun K hK => ?_)
       refine skip_ (w1 := ?_) (by rfl) rfl ?_ ?_
       rotate_left
       · go_simp
         rfl
       refine hK.out _ _ ?_
       clear hK K
       refine done_ (done_of HT_.out (by kernel_rfl)) ?_
       (try clear hHeld)
       generalize hWs_ : (c_5.setCell ⟨g, 2, none⟩ (.bool (!q_))) = c_6
       have hw' : Sto g c_5 c_6 := (by rw [← hWs_]; exact Sto.step (Sto.refl _ _) _ _)
       have bk_ : c_6.heap[g]? = some (.cells #[.slice AL l.length cL, .int .i64 (wrap64 (at1 + 1)), .bool (!q_)] 56 (0, 0)) := (by rw [← hWs_]; exact (IsBlk.set (IsBlk.of BKg.out) 2 _ : IsBlk _ _ _ _))
       clear hWs_
       replace BKgn := A_ (stored_blk hw' BKgn.out hn_gn_g)
       replace BKgp := A_ (stored_blk hw' BKgp.out hn_gp_g)
       replace HO := A_ (stored_S hw' HO.out (fun k_ hk => hk.1.1))
       replace HK := A_ (hw'.keeps (I := fun w_ => Kept w w_ (fun k_ => k_ = g ∨ k_ = gn)) HK.out (fun _ _ u_ h_ => Kept.setCell h_ (.inl (.inl rfl)) u_))
       replace HB := A_ (stored_below hw' HB.out GEg.out)
       replace BKg := Aside0.mk bk_
       clear hw' bk_
       replace hxg := cells3 BKg.out
       replace hxgn := cells4 BKgn.out
       replace hxgp := cells5 BKgp.out
       clear hq_ hq2_
       by_cases c6 : (ks1.length : Int) = 0
       · rw [if_pos c6] at H
         have c6b0 : ((ks1.length : Int) == 0) = true := beq_iff_eq.mpr c6
         obtain ⟨rfl, rfl, rfl, rfl⟩ : _ ∧ _ ∧ _ ∧ _ := by simpa only [Option.some.injEq, Prod.mk.injEq] using H
         clear H
         go_wp2_with (first | ((with_reducible refine gate_store (t := 9) (p := 86) rfl ?_); apply box_store (g := gn); (case hrun => first | (go_simp; done) | (go_simp; rfl)); (case _ho => rfl); (case hN => rfl); (case hgd => rfl); (case hs => repeat (first | (with_reducible exact Sto.refl _ _) | refine Sto.step ?_ _ _)); (case hb => repeat (first | (with_reducible exact IsBlk.of BKgn.out) | (with_reducible apply IsBlk.set))); intro d_7 hw' bk_; simp only [List.setIfInBounds_toArray, List.set_cons_zero, List.set_cons_succ] at bk_; replace BKg := A_ (stored_blk hw' BKg.out hn_g_gn); replace BKgp := A_ (stored_blk hw' BKgp.out hn_gp_gn); replace HO := A_ (stored_S hw' HO.out (fun k_ hk => hk.1.2)); replace HK := A_ (hw'.keeps (I := fun w_ => Kept w w_ (fun k_ => k_ = g ∨ k_ = gn)) HK.out (fun _ _ u_ h_ => Kept.setCell h_ (.inl (.inr rfl)) u_)); replace HB := A_ (stored_below hw' HB.out GEgn.out); replace BKgn := Aside0.mk bk_; clear hw' bk_; replace hxg := cells3 BKg.out; replace hxgn := cells4 BKgn.out; replace hxgp := cells5 BKgp.out))
         (first | go_end0 | ((try simp only [Exit.inBlock, Exit.then]); refine bodyPost_ret (results_none rfl _ _ _) rfl ?_))
         exact ⟨rfl, _, Kd.S_mono HO.out (fun _ _ => trivial), BKg.out, BKgn.out, HB.out, HK.out⟩
       rw [if_neg c6] at H
       have c6b0 : ((ks1.length : Int) == 0) = false := beq_eq_false_iff_ne.mpr c6
       replace H := Option.bind_eq_some_iff.mp H
       obtain ⟨t_, A0_, H⟩ := H
       have At_ := A_ A0_
       clear A0_
       cases t_
       · rw [if_neg nf_] at H
         obtain ⟨rfl, rfl, rfl, rfl⟩ : _ ∧ _ ∧ _ ∧ _ := by simpa only [Option.some.injEq, Prod.mk.injEq] using H
         clear H
         go_wp2_with (first | ((with_reducible refine gc_ (f := 59) rfl ?_); refine gL_ (some 88) Tryz.func59 #[.string tx1] ?_; (with_reducible refine (spec_l8Blank.calls k1 tx1 _ _ At_.out).mono ?_); rintro e d_7 ⟨rfl, ⟨nd_, hnd_⟩⟩; refine ⟨_, rfl, ?_⟩; have hb_ : Below c_6.heap.size c_6 d_7 := (by rw [hnd_]; exact pw_below_drewN (Below.refl _ _) _); clear hnd_; replace BKg := A_ (blk_below BKg.out hb_); replace BKgn := A_ (blk_below BKgn.out hb_); replace BKgp := A_ (blk_below BKgp.out hb_); replace HO := A_ (Kd.S_below HO.out hb_); replace HK := A_ (Kept.below HK.out hb_); replace HB := A_ (below_step HB.out hb_); clear hb_; replace hxg := cells3 BKg.out; replace hxgn := cells4 BKgn.out; replace hxgp := cells5 BKgp.out) | ((with_reducible refine gate_store (t := 4) (p := 92) rfl ?_); apply box_store (g := g); (case hrun => first | (go_simp; done) | (go_simp; rfl)); (case _ho => rfl); (case hN => rfl); (case hgd => rfl); (case hs => repeat (first | (with_reducible exact Sto.refl _ _) | refine Sto.step ?_ _ _)); (case hb => repeat (first | (with_reducible exact IsBlk.of BKg.out) | (with_reducible apply IsBlk.set))); intro d_8 hw' bk_; simp only [List.setIfInBounds_toArray, List.set_cons_zero, List.set_cons_succ] at bk_; replace BKgn := A_ (stored_blk hw' BKgn.out hn_gn_g); replace BKgp := A_ (stored_blk hw' BKgp.out hn_gp_g); replace HO := A_ (stored_S hw' HO.out (fun k_ hk => hk.1.1)); replace HK := A_ (hw'.keeps (I := fun w_ => Kept w w_ (fun k_ => k_ = g ∨ k_ = gn)) HK.out (fun _ _ u_ h_ => Kept.setCell h_ (.inl (.inl rfl)) u_)); replace HB := A_ (stored_below hw' HB.out GEg.out); replace BKg := Aside0.mk bk_; clear hw' bk_; replace hxg := cells3 BKg.out; replace hxgn := cells4 BKgn.out; replace hxgp := cells5 BKgp.out))
         (first | go_end0 | ((try simp only [Exit.inBlock, Exit.then]); refine bodyPost_ret (results_none rfl _ _ _) rfl ?_))
         exact ⟨rfl, _, Kd.S_mono HO.out (fun _ _ => trivial), BKg.out, BKgn.out, HB.out, HK.out⟩
       · rw [if_pos rfl] at H
         obtain ⟨rfl, rfl, rfl, rfl⟩ : _ ∧ _ ∧ _ ∧ _ := by simpa only [Option.some.injEq, Prod.mk.injEq] using H
         clear H
         go_wp2_with (first | ((with_reducible refine gc_ (f := 59) rfl ?_); refine gL_ (some 88) Tryz.func59 #[.string tx1] ?_; (with_reducible refine (spec_l8Blank.calls k1 tx1 _ _ At_.out).mono ?_); rintro e d_7 ⟨rfl, ⟨nd_, hnd_⟩⟩; refine ⟨_, rfl, ?_⟩; have hb_ : Below c_6.heap.size c_6 d_7 := (by rw [hnd_]; exact pw_below_drewN (Below.refl _ _) _); clear hnd_; replace BKg := A_ (blk_below BKg.out hb_); replace BKgn := A_ (blk_below BKgn.out hb_); replace BKgp := A_ (blk_below BKgp.out hb_); replace HO := A_ (Kd.S_below HO.out hb_); replace HK := A_ (Kept.below HK.out hb_); replace HB := A_ (below_step HB.out hb_); clear hb_; replace hxg := cells3 BKg.out; replace hxgn := cells4 BKgn.out; replace hxgp := cells5 BKgp.out))
         (first | go_end0 | ((try simp only [Exit.inBlock, Exit.then]); refine bodyPost_ret (results_none rfl _ _ _) rfl ?_))
         exact ⟨rfl, _, Kd.S_mono HO.out (fun _ _ => trivial), BKg.out, BKgn.out, HB.out, HK.out⟩
    rw [if_neg c4] at H
    by_cases c5 : (rd_T82 l at1).f0 = 4
    · rw [if_pos c5] at H
      as_aux_lemma =>
       have e2b : ((rd_T82 l at1).f0 == 2) = false := beq_eq_false_iff_ne.mpr c4
       have e4b : ((rd_T82 l at1).f0 == 4) = true := beq_iff_eq.mpr c5
       clear c4 c5
       by_cases c8 : tx1.size + ((rd_T82 l at1).f4).size ≤ 9223372036854775807
       rotate_left
       · rw [if_neg c8] at H
         exact absurd H (by simp)
       rw [if_pos c8] at H
       have c8b0 := eq_true c8
       have c8b1 := decide_eq_true c8
       have c8b2 : (9223372036854775807 < tx1.size + ((rd_T82 l at1).f4).size) = False := eq_false (Nat.not_lt.2 c8)
       clear c8
       have H' := A_ H
       clear H
       go_wp2_with (first | ((with_reducible refine gate_store (t := 3) (p := 105) rfl ?_); apply box_store (g := g); (case hrun => first | (go_simp; done) | (go_simp; rfl)); (case _ho => rfl); (case hN => rfl); (case hgd => rfl); (case hs => repeat (first | (with_reducible exact Sto.refl _ _) | refine Sto.step ?_ _ _)); (case hb => repeat (first | (with_reducible exact IsBlk.of BKg.out) | (with_reducible apply IsBlk.set))); intro c_4 hw' bk_; simp only [List.setIfInBounds_toArray, List.set_cons_zero, List.set_cons_succ] at bk_; replace BKgn := A_ (stored_blk hw' BKgn.out hn_gn_g); replace BKgp := A_ (stored_blk hw' BKgp.out hn_gp_g); replace HO := A_ (stored_S hw' HO.out (fun k_ hk => hk.1.1)); replace HK := A_ (hw'.keeps (I := fun w_ => Kept w w_ (fun k_ => k_ = g ∨ k_ = gn)) HK.out (fun _ _ u_ h_ => Kept.setCell h_ (.inl (.inl rfl)) u_)); replace HB := A_ (stored_below hw' HB.out GEg.out); replace BKg := Aside0.mk bk_; clear hw' bk_; replace hxg := cells3 BKg.out; replace hxgn := cells4 BKgn.out; replace hxgp := cells5 BKgp.out))
       go_roundg k1
       case measure => have := HK1.out; omega
       case rel => exact ⟨wrap64 (at1 + 1), false, (tx1 ++ (rd_T82 l at1).f4), ks1, (.slice Au ks1.length cu), rs_, H', ⟨by have := HK1.out; omega⟩, ⟨Kd.S_mono HO.out (fun k_ hk => ⟨hk.1.1, hk.1.2⟩)⟩, BKg, BKgn, HB, HK⟩
    rw [if_neg c5] at H
    as_aux_lemma =>
     have e2b : ((rd_T82 l at1).f0 == 2) = false := beq_eq_false_iff_ne.mpr c4
     have e4b : ((rd_T82 l at1).f0 == 4) = false := beq_eq_false_iff_ne.mpr c5
     clear c4 c5
     replace H := Option.bind_eq_some_iff.mp H
     obtain ⟨⟨s1, s2, s3, s4, s5, s6⟩, A0_, H⟩ := H
     have At_ := A_ A0_
     clear A0_
     dsimp only at H
     by_cases c7 : ks1.length < 1954687338268
     rotate_left
     · rw [if_neg c7] at H
       exact absurd H (by simp)
     rw [if_pos c7] at H
     have LM := A_ c7
     clear c7
     have H' := A_ H
     clear H
     have ihk := HR.out k1 (by have := HK1.out; omega)
     unfold spec_l8Read.C at ihk
     obtain ⟨nb, hnb_⟩ : ∃ n_, n_ = u_3.heap.size := ⟨_, rfl⟩
     have HNB : Aside0 (nb ≤ u_3.heap.size) := ⟨Nat.le_of_eq hnb_⟩
     have HU : Aside0 (∀ k_, nb ≤ k_ → some k_ ≠ (.slice Au ks1.length cu : Value).ownBlock) := ⟨fun k_ h_ e_ => by have := Kd.S_lt HO.out k_ e_.symm; omega⟩
     have HLg : Aside0 (g < nb) := ⟨by have := blk_lt BKg.out; omega⟩
     have HLgn : Aside0 (gn < nb) := ⟨by have := blk_lt BKgn.out; omega⟩
     have HLgp : Aside0 (gp < nb) := ⟨by have := blk_lt BKgp.out; omega⟩
     replace HO := A_ (Kd.S_mono (ok' := fun k_ => ((k_ ≠ g ∧ k_ ≠ gn) ∧ k_ ≠ gp) ∧ k_ < nb) (Kd.S_bound HO.out) (fun k_ h_ => ⟨h_.1, by have := h_.2.2.1; omega⟩))
     go_upto_region 7 with (first | ((with_reducible refine gc_ (f := 33) rfl ?_); refine gL_ (some 46) Tryz.func33 #[.pointer (some ⟨g, 0, none⟩), .string ns, .int .i64 (wrap64 (deep + 1))] ?_; (with_reducible refine (ihk g AL cL l at1 false ns (wrap64 (deep + 1)) s1 s2 s3 s4 s5 s6 w0 _ HLC.out GEg.out BKg.out HB.out At_.out).mono ?_); rintro e k_w4 ⟨v3_, rfl, hs_, hb1_, hb2_, hk_⟩; refine ⟨_, rfl, ?_⟩; obtain ⟨A3_, c3_, rfl⟩ := Kd.S_slice hs_; replace BKgn := A_ (blk_kept BKgn.out hk_ hn_gn_g); replace BKgp := A_ (blk_kept BKgp.out hk_ hn_gp_g); replace HO := A_ (Kd.S_kept HO.out hk_ (fun k_ hk => hk.1.1.1)); have HV := A_ (Kd.S_mono (ok' := fun k_ => nb ≤ k_) (Kd.S_lower (base' := w.heap.size) (Kd.S_bound hs_) HK.out.1) (fun k_ h_ => by have := h_.2.1; omega)); replace HK := A_ (Kept.then_ HK.out hk_ (fun k_ h_ => .inl (.inl h_))); replace HB := Aside0.mk hb2_; replace BKg := Aside0.mk hb1_; replace HNB := A_ (Nat.le_trans HNB.out hk_.1); clear hs_ hb1_ hb2_ hk_ hnb_; replace hxg := cells3 BKg.out; replace hxgn := cells4 BKgn.out; replace hxgp := cells5 BKgp.out) | ((with_reducible refine gd_ (N := 8) rfl ?_); refine bx_ (N := 8) (cs := #[.string (⟨#[]⟩ : ByteArray), .string (⟨#[]⟩ : ByteArray), .string (⟨#[]⟩ : ByteArray), .slice none 0 0]) (t := 24) ?_; intro gk hg_ k_w5 hbox_ hb_; have GWgk : Aside0 (w.heap.size ≤ gk) := ⟨by rw [hg_]; exact HK.out.1⟩; have GEgk : Aside0 (w0.heap.size ≤ gk) := ⟨by rw [hg_]; exact below_size HB.out⟩; have hn_g_gk : g ≠ gk := (by have := blk_lt BKg.out; rw [hg_]; omega); have hn_gk_g : gk ≠ g := hn_g_gk.symm; have hn_gn_gk : gn ≠ gk := (by have := blk_lt BKgn.out; rw [hg_]; omega); have hn_gk_gn : gk ≠ gn := hn_gn_gk.symm; have hn_gp_gk : gp ≠ gk := (by have := blk_lt BKgp.out; rw [hg_]; omega); have hn_gk_gp : gk ≠ gp := hn_gp_gk.symm; have HGgk : Aside0 (nb ≤ gk) := ⟨by rw [hg_]; exact HNB.out⟩; replace HV := A_ (Kd.S_elderB HV.out gk (Nat.le_of_eq hg_.symm)); replace BKg := A_ (blk_below BKg.out hb_); replace BKgn := A_ (blk_below BKgn.out hb_); replace BKgp := A_ (blk_below BKgp.out hb_); replace HO := A_ (Kd.S_below HO.out hb_); replace HV := A_ (Kd.S_below HV.out hb_); replace HK := A_ (Kept.below HK.out hb_); replace HB := A_ (below_step HB.out hb_); replace HNB := A_ (Nat.le_trans HNB.out (below_size hb_)); have BKgk := A_ hbox_; clear hb_ hbox_ hg_; replace hxg := cells3 BKg.out; replace hxgn := cells4 BKgn.out; replace hxgp := cells5 BKgp.out; have hxgk := cells4 BKgk.out) | ((with_reducible refine gate_store (t := 24) (p := 8) rfl ?_); apply box_store (g := gk); (case hrun => first | (go_simp; done) | (go_simp; rfl)); (case _ho => rfl); (case hN => rfl); (case hgd => rfl); (case hs => repeat (first | (with_reducible exact Sto.refl _ _) | refine Sto.step ?_ _ _)); (case hb => repeat (first | (with_reducible exact IsBlk.of BKgk.out) | (with_reducible apply IsBlk.set))); intro k_w6 hw' bk_; simp only [List.setIfInBounds_toArray, List.set_cons_zero, List.set_cons_succ] at bk_; replace BKg := A_ (stored_blk hw' BKg.out hn_g_gk); replace BKgn := A_ (stored_blk hw' BKgn.out hn_gn_gk); replace BKgp := A_ (stored_blk hw' BKgp.out hn_gp_gk); replace HO := A_ (stored_S hw' HO.out (fun k_ hk => (by have := HGgk.out; have := hk.2; omega))); replace HV := A_ (stored_S hw' HV.out (fun k_ hk => hk.2)); replace HK := A_ (hw'.keeps (I := fun w_ => Kept w w_ (fun k_ => k_ = g ∨ k_ = gn)) HK.out (fun _ _ u_ h_ => Kept.setCell h_ (.inr GWgk.out) u_)); replace HB := A_ (stored_below hw' HB.out GEgk.out); replace HNB := A_ (Nat.le_trans HNB.out (Nat.le_of_eq (stored_size hw'))); replace BKgk := Aside0.mk bk_; clear hw' bk_; replace hxg := cells3 BKg.out; replace hxgn := cells4 BKgn.out; replace hxgp := cells5 BKgp.out; replace hxgk := cells4 BKgk.out))
     (try simp only [Act.put, List.setIfInBounds_toArray, List.set_cons_zero, List.set_cons_succ])
     refine start_ (n := 13) (S := fun w' => w'.cell? ⟨gn, 3, none⟩ = some (.slice Au ks1.length cu) ∧ w'.cell? ⟨gk, 0, none⟩ = some (.string s1) ∧ w'.cell? ⟨gk, 1, none⟩ = some (.string s2) ∧ w'.cell? ⟨gk, 2, none⟩ = some (.string s3) ∧ w'.cell? ⟨gk, 3, none⟩ = some (.slice A3_ s4.length c3_)) (ds := [7, 9, 12]) #[false, false, false, false, false, false, false, false, false, false, false, false, false] (by kernel_rfl) rfl rfl ⟨hxgn.2.2.2.1, hxgk.1, hxgk.2.1, hxgk.2.2.1, hxgk.2.2.2.1⟩ (fun hHeld => ?_); refine with_tabW spec_l8Kids.tab7 spec_l8Kids.bits7 (fun HT_ HW_ => ?_)
     generalize hWd_ : k_w6.drew = k_w7 at hHeld ⊢
     have hb_ : Below k_w6.heap.size k_w6 k_w7 := (by rw [← hWd_]; exact below_drew (Below.refl _ _))
     clear hWd_
     replace BKg := A_ (blk_below BKg.out hb_)
     replace BKgn := A_ (blk_below BKgn.out hb_)
     replace BKgp := A_ (blk_below BKgp.out hb_)
     replace BKgk := A_ (blk_below BKgk.out hb_)
     replace HO := A_ (Kd.S_below HO.out hb_)
     replace HV := A_ (Kd.S_below HV.out hb_)
     replace HK := A_ (Kept.below HK.out hb_)
     replace HB := A_ (below_step HB.out hb_)
     replace HNB := A_ (Nat.le_trans HNB.out (below_size hb_))
     clear hb_
     replace hxg := cells3 BKg.out
     replace hxgn := cells4 BKgn.out
     replace hxgp := cells5 BKgp.out
     replace hxgk := cells4 BKgk.out
     obtain ⟨m7, hm7_⟩ : ∃ n_, n_ = k_w7.heap.size := ⟨_, rfl⟩
     replace HV := A_ (Kd.S_mono (ok' := fun k_ => ((nb ≤ k_) ∧ k_ ≠ gk) ∧ k_ < m7) (Kd.S_bound HV.out) (fun k_ h_ => ⟨h_.1, by have := h_.2.2.1; omega⟩))
     refine pu_ (i := 0) (N := some 47) ?_
     refine pu_ (i := 1) (N := some 48) ?_
     refine pu_ (i := 2) (N := some 49) ?_
     refine tk_ (i := 3) (N := some 50) hHeld ?_
     refine pu_ (i := 5) (N := some 52) ?_
     refine tk_ (i := 4) (N := some 51) hHeld ?_
     refine on_ (i := 6) (N := some 53) (fun K hK => ?_)
     refine value_ (w1 := ?_) (v := ?_) (by rfl) rfl ?_ ?_
     rotate_left 2
     · go_simp
       constructor
       · rfl
       · rfl
     refine hK.out _ _ ⟨(World.cell?_alloc_lt _ _ _ (World.block_lt_of_cell? _ _ (hHeld.1))).trans (hHeld.1), (World.cell?_alloc_lt _ _ _ (World.block_lt_of_cell? _ _ (hHeld.2.1))).trans (hHeld.2.1), (World.cell?_alloc_lt _ _ _ (World.block_lt_of_cell? _ _ (hHeld.2.2.1))).trans (hHeld.2.2.1), (World.cell?_alloc_lt _ _ _ (World.block_lt_of_cell? _ _ (hHeld.2.2.2.1))).trans (hHeld.2.2.2.1), (World.cell?_alloc_lt _ _ _ (World.block_lt_of_cell? _ _ (hHeld.2.2.2.2))).trans (hHeld.2.2.2.2)⟩ (fun hHeld => ?_)
     clear hK K
     refine no_ (some 53) ?_
     refine last_ (i := 7) (N := some 54) #[true, true, true, true, true, true, true, true, false, false, false, false, false] rfl rfl (one_of HT_.out (by kernel_rfl)) (by decide) (fun K hK => ?_)
     refine Kd.S_append_step kA (w0 := k_w7) w.heap.size (by rfl) (.tmp 50) (.tmp 53) 22 24 (.agg #[(.string ⟨#[]⟩), (.string ⟨#[]⟩), (.string ⟨#[]⟩), (.slice none 0 0)]) 72 rfl Tryz.underlying22 info24 rfl (by decide) (by omega) (.slice Au ks1.length cu) ks1 (⟨(⟨#[]⟩ : ByteArray), (⟨#[]⟩ : ByteArray), (⟨#[]⟩ : ByteArray), []⟩ : S24) [.string (⟨#[]⟩ : ByteArray), .string (⟨#[]⟩ : ByteArray), .string (⟨#[]⟩ : ByteArray), .slice none 0 0] (fun k_ => (k_ ≠ g ∧ k_ ≠ gn) ∧ ¬ (((nb ≤ k_) ∧ k_ ≠ gk) ∧ k_ < m7)) (fun _ => False) rfl rfl ?aP ?aK ?aF ?aO ?aB ?aS ?aL ?_
     (case aP => exact kA_mkM _ _ _ (⟨(⟨#[]⟩ : ByteArray), (⟨#[]⟩ : ByteArray), (⟨#[]⟩ : ByteArray), []⟩ : S24) (Kd.S_nil _ _ _ _ _))
     (case aK => exact fun _ h_ => h_.elim)
     (case aF => exact fun k_ h_ => ⟨⟨(by have := blk_lt BKg.out; have := h_; omega), (by have := blk_lt BKgn.out; have := h_; omega)⟩, fun h2_ => by have := h2_.2; have := h_; omega⟩)
     (case aO => exact Kd.S_mono HO.out (fun k_ h_ => ⟨⟨⟨h_.1.1.1, h_.1.1.2⟩, fun h2_ => absurd h_.2 (Nat.not_lt.2 h2_.1.1)⟩, fun f_ => f_⟩))
     (case aB => exact Below.refl _ _)
     (case aS => exact HK.out.1)
     (case aL => have := LM.out; omega)
     intro v1_ k_wz ho_ hbb_ hg_ hat_
     obtain ⟨b7, c7, rfl, hb7_, _⟩ := Kd.S_form ho_ (by simp)
     have HG7 := A_ hb7_
     have HN7 := A_ ((Kd.S_R ho_).1 b7 rfl)
     rw [show (ks1 ++ [(⟨(⟨#[]⟩ : ByteArray), (⟨#[]⟩ : ByteArray), (⟨#[]⟩ : ByteArray), []⟩ : S24)]).length = ks1.length + 1 by simp] at ho_ ⊢
     replace BKg := A_ (blk_grown BKg.out hg_ (Kd.S_away HO.out (fun k_ hk => hk.1.1.1)))
     replace BKgn := A_ (blk_grown BKgn.out hg_ (Kd.S_away HO.out (fun k_ hk => hk.1.1.2)))
     replace HV := A_ (Kd.S_grown HV.out hg_ (fun k_ h_ => HU.out k_ h_.1.1))
     replace HK := A_ (Kept.of_grown hg_ HK.out (fun k_ e_ => .inr (Kd.S_base HO.out k_ e_)))
     replace HB := A_ (Below.grown HB.out hg_ (below_size HB.out) (fun k_ e_ => Nat.le_trans H00.out (Kd.S_base HO.out k_ e_)))
     replace HO := Aside0.mk ho_
     clear ho_ hbb_ hg_ hat_ hb7_ HNB BKgk BKgp hxgk hxgp hxg
     replace hxgn := cells4 BKgn.out
     have hn7a := HN7.out.1.2
     have hn7b := hn7a.symm
     have hlt_ : (ks1.length : Int) < (ks1.length : Int) + 1 := by omega
     have HE_ : KidMid w0 w k_wz g gn b7 c7 #[.slice AL l.length cL, .int .i64 s5, .bool s6] 56 (.string ns) (.string nm) (.string (⟨#[]⟩ : ByteArray)) (.slice Au ks1.length cu) ks1 s1 s2 s3 s4 A3_ c3_ (fun k_ => ((nb ≤ k_) ∧ k_ ≠ gk) ∧ k_ < m7) := ⟨HO.out, HV.out, BKg.out, BKgn.out, HB.out, HK.out, HG7.out, H00.out, HN7.out, fun k_ h_ => ⟨⟨by have := HLg.out; have := h_.1.1; omega, by have := HLgn.out; have := h_.1.1; omega⟩, fun e_ => HN7.out.2 (e_ ▸ h_)⟩, hn_g_gn, GEgn.out⟩
     obtain ⟨z0_, z1_, z2_, z3_, hz_⟩ := HE_.cells
     refine hK.out _ _ ?_
     clear hK K
     refine no_ (some 54) ?_
     refine pu_ (i := 8) (N := some 55) ?_
     refine pu_ (i := 10) (N := some 56) ?_
     refine pu_ (i := 11) (N := some 57) ?_
     refine join_ (σ := Unit) 0 #[true, true, true, true, true, true, true, true, true, true, true, true, true] (fun _ => []) (fun _ w' => KidEnd w0 w w' g gn b7 c7 #[.slice AL l.length cL, .int .i64 s5, .bool s6] 56 (.string ns) (.string nm) (.string (⟨#[]⟩ : ByteArray)) (ks1.length + 1) (ks1 ++ [(⟨s1, s2, s3, s4⟩ : S24)])) ?_ ?_
     rotate_left
     · intro hCont
       refine twoL_ (i := 9) (j := 12) (Ni := none) (Nj := none) #[true, true, true, true, true, true, true, true, true, true, true, true, false] #[true, true, true, true, true, true, true, true, true, false, true, true, true] rfl rfl rfl rfl (by kernel_rfl) (by decide) (by decide) (fun K hK => ?_) (fun K hK => ?_)
       · refine skip_ (w1 := ?_) (by rfl) rfl ?_ ?_
         rotate_left
         · go_simp
           rfl
         refine hK.out _ _ ?_
         clear hK K
         refine last_ (i := 12) (N := none) #[true, true, true, true, true, true, true, true, true, true, true, true, true] rfl rfl (by kernel_rfl) (by decide) (fun K hK => ?_)
         refine skip_ (w1 := ?_) (by rfl) rfl ?_ ?_
         rotate_left
         · go_simp
           rfl
         refine hK.out _ _ ?_
         exact hCont () _ (HE_.end1)
       · refine skip_ (w1 := ?_) (by rfl) rfl ?_ ?_
         rotate_left
         · go_simp
           rfl
         refine hK.out _ _ ?_
         clear hK K
         refine last_ (i := 9) (N := none) #[true, true, true, true, true, true, true, true, true, true, true, true, true] rfl rfl (by kernel_rfl) (by decide) (fun K hK => ?_)
         refine skip_ (w1 := ?_) (by rfl) rfl ?_ ?_
         rotate_left
         · go_simp
           rfl
         refine hK.out _ _ ?_
         exact hCont () _ (HE_.end2)
     intro s_ k_we hF_
     clear HO HV BKg BKgn HB HK HE_
     obtain ⟨HO_, BKg_, BKgn_, HB_, HK_⟩ := hF_
     have HO := A_ HO_
     have BKg := A_ BKg_
     have BKgn := A_ BKgn_
     have HB := A_ HB_
     have HK := A_ HK_
     clear HO_ BKg_ BKgn_ HB_ HK_
     refine norm_ (a' := ?_) ?_ ?_
     rotate_left
     · simp only [putAll]
       rfl
     refine done_ (by kernel_rfl) ?_
     try go_wp2
     go_roundg k1
     case measure => have := HK1.out; omega
     case rel => exact ⟨s5, s6, tx1, (ks1 ++ [(⟨s1, s2, s3, s4⟩ : S24)]), (.slice (some ⟨b7, 0, none⟩) (ks1.length + 1) c7), rs_, H', ⟨by have := HK1.out; omega⟩, ⟨Kd.S_mono HO.out (fun k_ hk => ⟨hk.1, hk.2⟩)⟩, BKg, BKgn, HB, HK⟩
end Go.Proofs.YtegkokdncakadaaGreatDoor.Q

/- A node read of pieces, whose rows lie apart. No condition. -/
namespace Go.Proofs.YtegkokdncakadaaGreatDoor.Q
open Go.RowKit Go.Proofs.YtegkokdncakadaaGreatDoorW.PrintWords Go.Proofs.YtegkokdncakadaaGreatDoorW.PrintLast Go.Proofs.YtegkokdncakadaaGreatDoorW.PrintMore
attribute [local go_sem] max2_int min2_int max_two min_two max_three min_three max_four min_four
set_option linter.unusedVariables false
set_option linter.unusedSimpArgs false
def spec_l8Read.T4 : Bool × List (List Nat × List Nat) := (true, [([], []), ([0], [0]), ([1], [1]), ([2], [2]), ([], []), ([4], [4]), ([5], [5]), ([6], [6]), ([3, 7], [3, 7]), ([8], [8]), ([], []), ([10, 9, 0, 1, 2, 3, 4, 5, 6, 7, 8, 9, 10], [9, 10])])
def spec_l8Read.B4 : List Nat := [0, 1, 3, 7, 0, 16, 48, 112, 255, 511, 0, 2047]
theorem spec_l8Read.tab4 : rtab .any (opsOf Tryz.f33 4) = spec_l8Read.T4 := by kernel_rfl
theorem spec_l8Read.bits4 : waitsOk spec_l8Read.T4.2 spec_l8Read.B4 = true := by kernel_rfl
set_option maxHeartbeats 64000000 in
set_option maxRecDepth 100000 in
theorem spec_l8Read.calls (k : Nat) : spec_l8Read.C k := by
 induction k using Nat.strongRecOn with
 | _ k ih =>
 unfold spec_l8Read.C
 intro g AL cL l at_ bad ns deep r1 r2 r3 r4 r5 r6 w0 w hL hg0 hbg hB h
 cases k with
 | zero => exact absurd h (by simp [spec_l8Read.f])
 | succ k =>
 simp only [spec_l8Read.f] at h
 have hu1_ := Tryz.underlying24
 have hu2_ := Tryz.underlying82
 have hu3_ := Tryz.underlying56
 have HLC := A_ hL
 have GEg := A_ hg0
 have BKg := A_ hbg
 have H00 := A_ (below_size hB)
 have HB := A_ hB
 have HK := A_ (Kept.refl w (fun k_ => k_ = g))
 have HA := A_ h
 clear hL hg0 hbg hB h
 have hxg := cells3 BKg.out
 go_enter Tryz.func33, Tryz.ntmps33
 go_upto_region 1 with (first | ((with_reducible refine gd_ (N := 6) rfl ?_); refine bx_ (N := 6) (cs := #[.string (⟨#[]⟩ : ByteArray), .string (⟨#[]⟩ : ByteArray), .string (⟨#[]⟩ : ByteArray), .slice none 0 0]) (t := 24) ?_; intro gr hg_ x_1 hbox_ hb_; have GWgr : Aside0 (w.heap.size ≤ gr) := ⟨by rw [hg_]; exact HK.out.1⟩; have GEgr : Aside0 (w0.heap.size ≤ gr) := ⟨by rw [hg_]; exact below_size HB.out⟩; have hn_g_gr : g ≠ gr := (by have := blk_lt BKg.out; rw [hg_]; omega); have hn_gr_g : gr ≠ g := hn_g_gr.symm; replace BKg := A_ (blk_below BKg.out hb_); replace HK := A_ (Kept.below HK.out hb_); replace HB := A_ (below_step HB.out hb_); have BKgr := A_ hbox_; clear hb_ hbox_ hg_; replace hxg := cells3 BKg.out; have hxgr := cells4 BKgr.out))
 have H := HA.out
 clear HA
 (try simp only [Act.put, List.setIfInBounds_toArray, List.set_cons_zero, List.set_cons_succ])
 go_cut [50] (fun v50 wc => ∃ (b_ : Bool), v50 = .bool b_ ∧ Aside0 ((b_ = true → (some ((⟨#[]⟩ : ByteArray), (⟨#[]⟩ : ByteArray), (⟨#[]⟩ : ByteArray), [], at_, true) : Option (ByteArray × ByteArray × ByteArray × List (S24) × Int × Bool)) = some (r1, r2, r3, r4, r5, r6)) ∧ (b_ = false → at_ < (l.length : Int) ∧ 0 ≤ at_ ∧ (((rd_T82 l at_).f0 = 1 ∧ ((spec_l8Kids.l0 k l deep (wrap64 (at_ + 1)) bad (⟨#[]⟩ : ByteArray) (if (rd_T82 l at_).f3 = true then (rd_T82 l at_).f2 else ns) ((rd_T82 l at_).f1) []).bind fun r => some ((if (rd_T82 l at_).f3 = true then (rd_T82 l at_).f2 else ns), (rd_T82 l at_).f1, r.1, r.2.1, r.2.2.1, r.2.2.2)) = some (r1, r2, r3, r4, r5, r6)) ∨ ((rd_T82 l at_).f0 ≠ 1 ∧ (rd_T82 l at_).f0 = 3 ∧ some ((if (rd_T82 l at_).f3 = true then (rd_T82 l at_).f2 else ns), (rd_T82 l at_).f1, (⟨#[]⟩ : ByteArray), [], wrap64 (at_ + 1), bad) = some (r1, r2, r3, r4, r5, r6))))) ∧ Aside0 (wc.heap[g]? = some (.cells #[.slice AL l.length cL, .int .i64 at_, .bool bad] 56 (0, 0))) ∧ Aside0 (wc.heap[gr]? = some (.cells #[.string (⟨#[]⟩ : ByteArray), .string (⟨#[]⟩ : ByteArray), .string (⟨#[]⟩ : ByteArray), .slice none 0 0] 24 (0, 0))) ∧ Aside0 (Below w0.heap.size w0 wc) ∧ Aside0 (Kept w wc (fun k_ => k_ = g)))
 case first => as_aux_lemma =>
  by_cases c3 : deep > 5
  · rw [if_pos c3] at H
    have c3b0 : decide (5 < deep) = true := decide_eq_true c3
    clear c3
    go_wp2
    repeat (go_quiet (fail); try go_wp2)
    go_meet
    case rel => exact ⟨true, rs_, ⟨⟨fun _ => H, fun h_ => (by cases h_)⟩⟩, ⟨vb_ BKg.out⟩, ⟨vb_ BKgr.out⟩, ⟨bB_⟩, ⟨by repeat (first | (with_reducible first | exact HK.out | apply Kept.drewN | apply Kept.drew | apply Kept.alloc) | exact HK.out)⟩⟩
  rw [if_neg c3] at H
  have c3b0 : decide (5 < deep) = false := decide_eq_false c3
  clear c3
  by_cases c1 : at_ < (l.length : Int)
  rotate_left
  · rw [if_neg c1] at H
    have c1b1 : decide ((l.length : Int) ≤ at_) = true := decide_eq_true (by omega)
    clear c1
    go_wp2
    repeat (go_quiet (fail); try go_wp2)
    go_meet
    case rel => exact ⟨true, rs_, ⟨⟨fun _ => H, fun h_ => (by cases h_)⟩⟩, ⟨vb_ BKg.out⟩, ⟨vb_ BKgr.out⟩, ⟨bB_⟩, ⟨by repeat (first | (with_reducible first | exact HK.out | apply Kept.drewN | apply Kept.drew | apply Kept.alloc) | exact HK.out)⟩⟩
  rw [if_pos c1] at H
  have c1b1 : decide ((l.length : Int) ≤ at_) = false := decide_eq_false (by omega)
  have HC1 := A_ c1
  by_cases c2 : 0 ≤ at_
  rotate_left
  · rw [if_neg c2] at H
    exact absurd H (by simp)
  rw [if_pos c2] at H
  have c2b0 := decide_eq_true c2
  have HC2 := A_ c2
  obtain ⟨ada, eea, hya0, hya1, hya2, hya3, hya4⟩ := at_T82 HLC.out at_ c2 c1
  replace hya0 := pw_cell_below HB.out hya0
  replace hya1 := pw_cell_below HB.out hya1
  replace hya2 := pw_cell_below HB.out hya2
  replace hya3 := pw_cell_below HB.out hya3
  replace hya4 := pw_cell_below HB.out hya4
  replace c1 := eq_true c1
  replace c2 := eq_true c2
  rw [eea] at hxg
  by_cases c4 : (rd_T82 l at_).f0 = 1
  · have c4b0 : ((rd_T82 l at_).f0 == 1) = true := beq_iff_eq.mpr c4
    have c4b1 : ((rd_T82 l at_).f0 != 1) = false := bne_eq_false_iff_eq.mpr c4
    have Hc4 := A_ c4
    clear c4
    rw [if_pos Hc4.out] at H
    go_wp2
    repeat (go_quiet (fail); try go_wp2)
    go_meet
    case rel => exact ⟨false, rs_, ⟨⟨fun h_ => (by cases h_), fun _ => ⟨HC1.out, HC2.out, .inl ⟨Hc4.out, H⟩⟩⟩⟩, ⟨vb_ BKg.out⟩, ⟨vb_ BKgr.out⟩, ⟨bB_⟩, ⟨by repeat (first | (with_reducible first | exact HK.out | apply Kept.drewN | apply Kept.drew | apply Kept.alloc) | exact HK.out)⟩⟩
  obtain ⟨c4b0, c4b1⟩ := eF_ c4
  have Hc4 := A_ c4
  clear c4
  rw [if_neg Hc4.out] at H
  by_cases c5 : (rd_T82 l at_).f0 = 3
  · have c5b0 : ((rd_T82 l at_).f0 == 3) = true := beq_iff_eq.mpr c5
    have c5b1 : ((rd_T82 l at_).f0 != 3) = false := bne_eq_false_iff_eq.mpr c5
    have Hc5 := A_ c5
    clear c5
    rw [if_pos Hc5.out] at H
    go_wp2
    repeat (go_quiet (fail); try go_wp2)
    go_meet
    case rel => exact ⟨false, rs_, ⟨⟨fun h_ => (by cases h_), fun _ => ⟨HC1.out, HC2.out, .inr ⟨Hc4.out, Hc5.out, H⟩⟩⟩⟩, ⟨vb_ BKg.out⟩, ⟨vb_ BKgr.out⟩, ⟨bB_⟩, ⟨by repeat (first | (with_reducible first | exact HK.out | apply Kept.drewN | apply Kept.drew | apply Kept.alloc) | exact HK.out)⟩⟩
  · have c5b0 : ((rd_T82 l at_).f0 == 3) = false := beq_eq_false_iff_ne.mpr c5
    have c5b1 : ((rd_T82 l at_).f0 != 3) = true := bne_iff_ne.mpr c5
    have Hc5 := A_ c5
    clear c5
    rw [if_neg Hc5.out] at H
    go_wp2
    repeat (go_quiet (fail); try go_wp2)
    go_meet
    case rel => exact ⟨true, rs_, ⟨⟨fun _ => H, fun h_ => (by cases h_)⟩⟩, ⟨vb_ BKg.out⟩, ⟨vb_ BKgr.out⟩, ⟨bB_⟩, ⟨by repeat (first | (with_reducible first | exact HK.out | apply Kept.drewN | apply Kept.drew | apply Kept.alloc) | exact HK.out)⟩⟩
 case rest =>
  clear BKg BKgr hxg hxgr HB HK H
  obtain ⟨b_, rfl, HA, BKg, BKgr, HB, HK⟩ := hcut
  have hxg := cells3 BKg.out
  have hxgr := cells4 BKgr.out
  cases b_
  rotate_left
  · skip
    as_aux_lemma =>
     have H := HA.out.1 rfl
     clear HA
     obtain ⟨rfl, rfl, rfl, rfl, rfl, rfl⟩ : _ ∧ _ ∧ _ ∧ _ ∧ _ ∧ _ := by simpa only [Option.some.injEq, Prod.mk.injEq] using H
     clear H
     go_wp2_with (first | ((with_reducible refine gate_store (t := 4) (p := 53) rfl ?_); apply box_store (g := g); (case hrun => first | (go_simp; done) | (go_simp; rfl)); (case _ho => rfl); (case hN => rfl); (case hgd => rfl); (case hs => repeat (first | (with_reducible exact Sto.refl _ _) | refine Sto.step ?_ _ _)); (case hb => repeat (first | (with_reducible exact IsBlk.of BKg.out) | (with_reducible apply IsBlk.set))); intro b_2 hw' bk_; simp only [List.setIfInBounds_toArray, List.set_cons_zero, List.set_cons_succ] at bk_; replace BKgr := A_ (stored_blk hw' BKgr.out hn_gr_g); replace HK := A_ (hw'.keeps (I := fun w_ => Kept w w_ (fun k_ => k_ = g)) HK.out (fun _ _ u_ h_ => Kept.setCell h_ (.inl rfl) u_)); replace HB := A_ (stored_below hw' HB.out GEg.out); replace BKg := Aside0.mk bk_; clear hw' bk_; replace hxg := cells3 BKg.out; replace hxgr := cells4 BKgr.out) | ((with_reducible refine gate_store (t := 24) (p := 6) rfl ?_); apply box_store (g := gr); (case hrun => first | (go_simp; done) | (go_simp; rfl)); (case _ho => rfl); (case hN => rfl); (case hgd => rfl); (case hs => repeat (first | (with_reducible exact Sto.refl _ _) | refine Sto.step ?_ _ _)); (case hb => repeat (first | (with_reducible exact IsBlk.of BKgr.out) | (with_reducible apply IsBlk.set))); intro b_3 hw' bk_; simp only [List.setIfInBounds_toArray, List.set_cons_zero, List.set_cons_succ] at bk_; replace BKg := A_ (stored_blk hw' BKg.out hn_g_gr); replace HK := A_ (hw'.keeps (I := fun w_ => Kept w w_ (fun k_ => k_ = g)) HK.out (fun _ _ u_ h_ => Kept.setCell h_ (.inr GWgr.out) u_)); replace HB := A_ (stored_below hw' HB.out GEgr.out); replace BKgr := Aside0.mk bk_; clear hw' bk_; replace hxg := cells3 BKg.out; replace hxgr := cells4 BKgr.out))
     refine bodyPost_ret (results_cell_row rfl _ _ gr 24 #[.string (⟨#[]⟩ : ByteArray), .string (⟨#[]⟩ : ByteArray), .string (⟨#[]⟩ : ByteArray), .slice none 0 0] (0, 0) _ rfl (by first | exact BKgr.out | exact blk_drew BKgr.out) Tryz.underlying24 rfl (by kernel_rfl)) rfl ?_
     exact ⟨_, by first | rfl | (simp; done), Kd.S_nil _ _ _ _ _, BKg.out, HB.out, HK.out⟩
  obtain ⟨c1, c2, HA2_⟩ := HA.out.2 rfl
  clear HA
  have HA := A_ HA2_
  clear HA2_
  have c1b0 := decide_eq_true c1
  have c2b0 := decide_eq_true c2
  obtain ⟨adb, eeb, hyb0, hyb1, hyb2, hyb3, hyb4⟩ := at_T82 HLC.out at_ c2 c1
  replace hyb0 := pw_cell_below HB.out hyb0
  replace hyb1 := pw_cell_below HB.out hyb1
  replace hyb2 := pw_cell_below HB.out hyb2
  replace hyb3 := pw_cell_below HB.out hyb3
  replace hyb4 := pw_cell_below HB.out hyb4
  replace c1 := eq_true c1
  replace c2 := eq_true c2
  rw [eeb] at hxg
  try go_wp2
  refine start_ (n := 12) (S := fun w' => w'.cell? ⟨g, 0, none⟩ = some (.slice (some adb) l.length cL) ∧ w'.cell? ⟨g, 1, none⟩ = some (.int .i64 at_) ∧ w'.cell? (adb.add ((at_).toNat * 5)) = some (.int .i64 (rd_T82 l at_).f0) ∧ w'.cell? ⟨(adb.add ((at_).toNat * 5)).block, (adb.add ((at_).toNat * 5)).off + 1, none⟩ = some (.string (rd_T82 l at_).f1) ∧ w'.cell? ⟨(adb.add ((at_).toNat * 5)).block, (adb.add ((at_).toNat * 5)).off + 2, none⟩ = some (.string (rd_T82 l at_).f2) ∧ w'.cell? ⟨(adb.add ((at_).toNat * 5)).block, (adb.add ((at_).toNat * 5)).off + 3, none⟩ = some (.bool (rd_T82 l at_).f3) ∧ w'.cell? ⟨(adb.add ((at_).toNat * 5)).block, (adb.add ((at_).toNat * 5)).off + 4, none⟩ = some (.string (rd_T82 l at_).f4)) (ds := [11]) #[false, false, false, false, false, false, false, false, false, false, false, false] (by kernel_rfl) rfl rfl ⟨hxg.1, hxg.2.1, hyb0, hyb1, hyb2, hyb3, hyb4⟩ (fun hHeld => ?_); refine with_tabW spec_l8Read.tab4 spec_l8Read.bits4 (fun HT_ HW_ => ?_)
  generalize hWd_ : wc.drew = y_2 at hHeld ⊢
  have hb_ : Below wc.heap.size wc y_2 := (by rw [← hWd_]; exact below_drew (Below.refl _ _))
  clear hWd_
  replace BKg := A_ (blk_below BKg.out hb_)
  replace BKgr := A_ (blk_below BKgr.out hb_)
  replace HK := A_ (Kept.below HK.out hb_)
  replace HB := A_ (below_step HB.out hb_)
  clear hb_
  replace hxg := cells3 BKg.out
  replace hxgr := cells4 BKgr.out
  refine pu_ (i := 0) (N := some 55) ?_
  refine pu_ (i := 1) (N := some 56) ?_
  refine pu_ (i := 2) (N := some 57) ?_
  refine pu_ (i := 4) (N := some 59) ?_
  refine pu_ (i := 5) (N := some 60) ?_
  refine pu_ (i := 6) (N := some 61) ?_
  refine tk_ (i := 3) (N := some 58) hHeld ?_
  refine tk_ (i := 7) (N := some 62) hHeld ?_
  refine pu_ (i := 8) (N := some 63) ?_
  refine tk_ (i := 9) (N := some 64) hHeld ?_
  refine on_ (i := 10) (N := some 7) (fun K hK => ?_)
  refine box_step ?hg (N := 7) ?hd (cs := #[.int .i64 0, .string (⟨#[]⟩ : ByteArray), .string (⟨#[]⟩ : ByteArray), .bool false, .string (⟨#[]⟩ : ByteArray)]) (t := 82) ?hr ?_
  (case hd => rfl)
  (case hg => rfl)
  (case hr => first | (go_simp; done) | (go_simp; rfl))
  intro gp hg_ y_3 hbox_ hb_
  have hS0_ := pw_cell_below hb_ hHeld.1
  have hS1_ := pw_cell_below hb_ hHeld.2.1
  have hS2_ := pw_cell_below hb_ hHeld.2.2.1
  have hS3_ := pw_cell_below hb_ hHeld.2.2.2.1
  have hS4_ := pw_cell_below hb_ hHeld.2.2.2.2.1
  have hS5_ := pw_cell_below hb_ hHeld.2.2.2.2.2.1
  have hS6_ := pw_cell_below hb_ hHeld.2.2.2.2.2.2
  have GWgp : Aside0 (w.heap.size ≤ gp) := ⟨by rw [hg_]; exact HK.out.1⟩
  have GEgp : Aside0 (w0.heap.size ≤ gp) := ⟨by rw [hg_]; exact below_size HB.out⟩
  have hn_g_gp : g ≠ gp := (by have := blk_lt BKg.out; rw [hg_]; omega)
  have hn_gp_g : gp ≠ g := hn_g_gp.symm
  have hn_gr_gp : gr ≠ gp := (by have := blk_lt BKgr.out; rw [hg_]; omega)
  have hn_gp_gr : gp ≠ gr := hn_gr_gp.symm
  replace BKg := A_ (blk_below BKg.out hb_)
  replace BKgr := A_ (blk_below BKgr.out hb_)
  replace HK := A_ (Kept.below HK.out hb_)
  replace HB := A_ (below_step HB.out hb_)
  have BKgp := A_ hbox_
  clear hb_ hbox_ hg_
  replace hxg := cells3 BKg.out
  replace hxgr := cells4 BKgr.out
  have hxgp := cells5 BKgp.out
  refine hK.out _ _ ⟨hS0_, hS1_, hS2_, hS3_, hS4_, hS5_, hS6_⟩ (fun hHeld => ?_)
  clear hK K
  refine no_ (some 7) ?_
  refine last_ (i := 11) (N := none) #[true, true, true, true, true, true, true, true, true, true, true, true] rfl rfl (one_of HT_.out (by kernel_rfl)) (by decide) (fun K hK => ?_)
  refine skip_ (w1 := ?_) (by rfl) rfl ?_ ?_
  rotate_left
  · go_simp
    rfl
  refine hK.out _ _ ?_
  clear hK K
  refine done_ (done_of HT_.out (by kernel_rfl)) ?_
  (try clear hHeld hS0_ hS1_ hS2_ hS3_ hS4_ hS5_ hS6_)
  (try clear hyb0 hyb1 hyb2 hyb3 hyb4)
  generalize hWs_ : (((((y_3.setCell ⟨gp, 0, none⟩ (.int .i64 (rd_T82 l at_).f0)).setCell ⟨gp, 1, none⟩ (.string (rd_T82 l at_).f1)).setCell ⟨gp, 2, none⟩ (.string (rd_T82 l at_).f2)).setCell ⟨gp, 3, none⟩ (.bool (rd_T82 l at_).f3)).setCell ⟨gp, 4, none⟩ (.string (rd_T82 l at_).f4)) = y_4
  have hw' : Sto gp y_3 y_4 := (by rw [← hWs_]; exact Sto.step (Sto.step (Sto.step (Sto.step (Sto.step (Sto.refl _ _) _ _) _ _) _ _) _ _) _ _)
  have bk_ : y_4.heap[gp]? = some (.cells #[.int .i64 (rd_T82 l at_).f0, .string (rd_T82 l at_).f1, .string (rd_T82 l at_).f2, .bool (rd_T82 l at_).f3, .string (rd_T82 l at_).f4] 82 (0, 0)) := (by rw [← hWs_]; exact (IsBlk.set (IsBlk.set (IsBlk.set (IsBlk.set (IsBlk.set (IsBlk.of BKgp.out) 0 _) 1 _) 2 _) 3 _) 4 _ : IsBlk _ _ _ _))
  clear hWs_
  replace BKg := A_ (stored_blk hw' BKg.out hn_g_gp)
  replace BKgr := A_ (stored_blk hw' BKgr.out hn_gr_gp)
  replace HK := A_ (hw'.keeps (I := fun w_ => Kept w w_ (fun k_ => k_ = g)) HK.out (fun _ _ u_ h_ => Kept.setCell h_ (.inr GWgp.out) u_))
  replace HB := A_ (stored_below hw' HB.out GEgp.out)
  replace BKgp := Aside0.mk bk_
  clear hw' bk_
  replace hxg := cells3 BKg.out
  replace hxgr := cells4 BKgr.out
  replace hxgp := cells5 BKgp.out
  clear eeb
  go_upto_if 77 with (first | ((with_reducible refine gate_store (t := 3) (p := 71) rfl ?_); apply box_store (g := g); (case hrun => first | (go_simp; done) | (go_simp; rfl)); (case _ho => rfl); (case hN => rfl); (case hgd => rfl); (case hs => repeat (first | (with_reducible exact Sto.refl _ _) | refine Sto.step ?_ _ _)); (case hb => repeat (first | (with_reducible exact IsBlk.of BKg.out) | (with_reducible apply IsBlk.set))); intro y_5 hw' bk_; simp only [List.setIfInBounds_toArray, List.set_cons_zero, List.set_cons_succ] at bk_; replace BKgr := A_ (stored_blk hw' BKgr.out hn_gr_g); replace BKgp := A_ (stored_blk hw' BKgp.out hn_gp_g); replace HK := A_ (hw'.keeps (I := fun w_ => Kept w w_ (fun k_ => k_ = g)) HK.out (fun _ _ u_ h_ => Kept.setCell h_ (.inl rfl) u_)); replace HB := A_ (stored_below hw' HB.out GEg.out); replace BKg := Aside0.mk bk_; clear hw' bk_; replace hxg := cells3 BKg.out; replace hxgr := cells4 BKgr.out; replace hxgp := cells5 BKgp.out) | ((with_reducible refine gd_ (N := 8) rfl ?_); refine bx_ (N := 8) (cs := #[.string (⟨#[]⟩ : ByteArray), .string (⟨#[]⟩ : ByteArray), .string (⟨#[]⟩ : ByteArray), .slice none 0 0]) (t := 24) ?_; intro gn hg_ y_6 hbox_ hb_; have GWgn : Aside0 (w.heap.size ≤ gn) := ⟨by rw [hg_]; exact HK.out.1⟩; have GEgn : Aside0 (w0.heap.size ≤ gn) := ⟨by rw [hg_]; exact below_size HB.out⟩; have hn_g_gn : g ≠ gn := (by have := blk_lt BKg.out; rw [hg_]; omega); have hn_gn_g : gn ≠ g := hn_g_gn.symm; have hn_gr_gn : gr ≠ gn := (by have := blk_lt BKgr.out; rw [hg_]; omega); have hn_gn_gr : gn ≠ gr := hn_gr_gn.symm; have hn_gp_gn : gp ≠ gn := (by have := blk_lt BKgp.out; rw [hg_]; omega); have hn_gn_gp : gn ≠ gp := hn_gp_gn.symm; replace BKg := A_ (blk_below BKg.out hb_); replace BKgr := A_ (blk_below BKgr.out hb_); replace BKgp := A_ (blk_below BKgp.out hb_); replace HK := A_ (Kept.below HK.out hb_); replace HB := A_ (below_step HB.out hb_); have BKgn := A_ hbox_; clear hb_ hbox_ hg_; replace hxg := cells3 BKg.out; replace hxgr := cells4 BKgr.out; replace hxgp := cells5 BKgp.out; have hxgn := cells4 BKgn.out) | ((with_reducible refine gate_store (t := 24) (p := 8) rfl ?_); apply box_store (g := gn); (case hrun => first | (go_simp; done) | (go_simp; rfl)); (case _ho => rfl); (case hN => rfl); (case hgd => rfl); (case hs => repeat (first | (with_reducible exact Sto.refl _ _) | refine Sto.step ?_ _ _)); (case hb => repeat (first | (with_reducible exact IsBlk.of BKgn.out) | (with_reducible apply IsBlk.set))); intro y_7 hw' bk_; simp only [List.setIfInBounds_toArray, List.set_cons_zero, List.set_cons_succ] at bk_; replace BKg := A_ (stored_blk hw' BKg.out hn_g_gn); replace BKgr := A_ (stored_blk hw' BKgr.out hn_gr_gn); replace BKgp := A_ (stored_blk hw' BKgp.out hn_gp_gn); replace HK := A_ (hw'.keeps (I := fun w_ => Kept w w_ (fun k_ => k_ = g)) HK.out (fun _ _ u_ h_ => Kept.setCell h_ (.inr GWgn.out) u_)); replace HB := A_ (stored_below hw' HB.out GEgn.out); replace BKgn := Aside0.mk bk_; clear hw' bk_; replace hxg := cells3 BKg.out; replace hxgr := cells4 BKgr.out; replace hxgp := cells5 BKgp.out; replace hxgn := cells4 BKgn.out))
  (try simp only [Act.put, List.setIfInBounds_toArray, List.set_cons_zero, List.set_cons_succ])
  go_cut [] (fun wc => ∃ (ns_ : ByteArray), Aside0 ((if (rd_T82 l at_).f3 = true then (rd_T82 l at_).f2 else ns) = ns_) ∧ Aside0 (wc.heap[g]? = some (.cells #[.slice AL l.length cL, .int .i64 (wrap64 (at_ + 1)), .bool bad] 56 (0, 0))) ∧ Aside0 (wc.heap[gr]? = some (.cells #[.string (⟨#[]⟩ : ByteArray), .string (⟨#[]⟩ : ByteArray), .string (⟨#[]⟩ : ByteArray), .slice none 0 0] 24 (0, 0))) ∧ Aside0 (wc.heap[gp]? = some (.cells #[.int .i64 (rd_T82 l at_).f0, .string (rd_T82 l at_).f1, .string (rd_T82 l at_).f2, .bool (rd_T82 l at_).f3, .string (rd_T82 l at_).f4] 82 (0, 0))) ∧ Aside0 (wc.heap[gn]? = some (.cells #[.string ns_, .string (rd_T82 l at_).f1, .string (⟨#[]⟩ : ByteArray), .slice none 0 0] 24 (0, 0))) ∧ Aside0 (Below w0.heap.size w0 wc) ∧ Aside0 (Kept w wc (fun k_ => k_ = g)))
  case first =>
   as_aux_lemma =>
    obtain ⟨hd_, hhd_⟩ : ∃ d_ : Bool, (rd_T82 l at_).f3 = d_ := ⟨_, rfl⟩
    rw [hhd_] at hxgp ⊢
    cases hd_
    · go_wp2
      go_meet
      case rel => exact ⟨ns, ⟨by rw [hhd_]; rfl⟩, ⟨vb_ BKg.out⟩, ⟨vb_ BKgr.out⟩, ⟨vb_ BKgp.out⟩, ⟨vb_ BKgn.out⟩, ⟨bB_⟩, ⟨by repeat (first | (with_reducible first | exact HK.out | apply Kept.drewN | apply Kept.drew | apply Kept.alloc) | exact HK.out)⟩⟩
    · go_wp2_with (first | ((with_reducible refine gate_store (t := 9) (p := 80) rfl ?_); apply box_store (g := gn); (case hrun => first | (go_simp; done) | (go_simp; rfl)); (case _ho => rfl); (case hN => rfl); (case hgd => rfl); (case hs => repeat (first | (with_reducible exact Sto.refl _ _) | refine Sto.step ?_ _ _)); (case hb => repeat (first | (with_reducible exact IsBlk.of BKgn.out) | (with_reducible apply IsBlk.set))); intro y_8 hw' bk_; simp only [List.setIfInBounds_toArray, List.set_cons_zero, List.set_cons_succ] at bk_; replace BKg := A_ (stored_blk hw' BKg.out hn_g_gn); replace BKgr := A_ (stored_blk hw' BKgr.out hn_gr_gn); replace BKgp := A_ (stored_blk hw' BKgp.out hn_gp_gn); replace HK := A_ (hw'.keeps (I := fun w_ => Kept w w_ (fun k_ => k_ = g)) HK.out (fun _ _ u_ h_ => Kept.setCell h_ (.inr GWgn.out) u_)); replace HB := A_ (stored_below hw' HB.out GEgn.out); replace BKgn := Aside0.mk bk_; clear hw' bk_; replace hxg := cells3 BKg.out; replace hxgr := cells4 BKgr.out; replace hxgp := cells5 BKgp.out; replace hxgn := cells4 BKgn.out))
      go_meet
      case rel => exact ⟨((rd_T82 l at_).f2), ⟨by rw [hhd_]; rfl⟩, ⟨vb_ BKg.out⟩, ⟨vb_ BKgr.out⟩, ⟨vb_ BKgp.out⟩, ⟨vb_ BKgn.out⟩, ⟨bB_⟩, ⟨by repeat (first | (with_reducible first | exact HK.out | apply Kept.drewN | apply Kept.drew | apply Kept.alloc) | exact HK.out)⟩⟩
  case rest =>
   clear BKg BKgr BKgp BKgn hxg hxgr hxgp hxgn HB HK
   obtain ⟨ns_, HN, BKg, BKgr, BKgp, BKgn, HB, HK⟩ := hcut
   have hxg := cells3 BKg.out
   have hxgr := cells4 BKgr.out
   have hxgp := cells5 BKgp.out
   have hxgn := cells4 BKgn.out
   rcases HA.out with ⟨e1_, H⟩ | ⟨e1_, e3_, H⟩
   rotate_left
   · clear HA
     as_aux_lemma =>
      have e3b : ((rd_T82 l at_).f0 == 1) = false := beq_eq_false_iff_ne.mpr e1_
      rw [HN.out] at H
      obtain ⟨rfl, rfl, rfl, rfl, rfl, rfl⟩ : _ ∧ _ ∧ _ ∧ _ ∧ _ ∧ _ := by simpa only [Option.some.injEq, Prod.mk.injEq] using H
      clear H
      go_wp2_with (first | ((with_reducible refine gate_store (t := 24) (p := 6) rfl ?_); apply box_store (g := gr); (case hrun => first | (go_simp; done) | (go_simp; rfl)); (case _ho => rfl); (case hN => rfl); (case hgd => rfl); (case hs => repeat (first | (with_reducible exact Sto.refl _ _) | refine Sto.step ?_ _ _)); (case hb => repeat (first | (with_reducible exact IsBlk.of BKgr.out) | (with_reducible apply IsBlk.set))); intro z_1 hw' bk_; simp only [List.setIfInBounds_toArray, List.set_cons_zero, List.set_cons_succ] at bk_; replace BKg := A_ (stored_blk hw' BKg.out hn_g_gr); replace BKgp := A_ (stored_blk hw' BKgp.out hn_gp_gr); replace BKgn := A_ (stored_blk hw' BKgn.out hn_gn_gr); replace HK := A_ (hw'.keeps (I := fun w_ => Kept w w_ (fun k_ => k_ = g)) HK.out (fun _ _ u_ h_ => Kept.setCell h_ (.inr GWgr.out) u_)); replace HB := A_ (stored_below hw' HB.out GEgr.out); replace BKgr := Aside0.mk bk_; clear hw' bk_; replace hxg := cells3 BKg.out; replace hxgr := cells4 BKgr.out; replace hxgp := cells5 BKgp.out; replace hxgn := cells4 BKgn.out))
      refine bodyPost_ret (results_cell_row rfl _ _ gr 24 #[.string ns_, .string (rd_T82 l at_).f1, .string (⟨#[]⟩ : ByteArray), .slice none 0 0] (0, 0) _ rfl (by first | exact BKgr.out | exact blk_drew BKgr.out) Tryz.underlying24 rfl (by kernel_rfl)) rfl ?_
      exact ⟨_, by first | rfl | (simp; done), Kd.S_nil _ _ _ _ _, BKg.out, HB.out, HK.out⟩
   as_aux_lemma =>
    clear HA
    have e1b : ((rd_T82 l at_).f0 == 1) = true := beq_iff_eq.mpr e1_
    rw [HN.out] at H
    replace H := Option.bind_eq_some_iff.mp H
    obtain ⟨⟨q1, q2, q3, q4⟩, A0_, H⟩ := H
    have At_ := A_ A0_
    clear A0_
    dsimp only at H
    obtain ⟨rfl, rfl, rfl, rfl, rfl, rfl⟩ : _ ∧ _ ∧ _ ∧ _ ∧ _ ∧ _ := by simpa only [Option.some.injEq, Prod.mk.injEq] using H
    clear H
    go_wp2_with (first | ((with_reducible refine gc_ (f := 60) rfl ?_); refine gL_ (some 86) Tryz.func60 #[.pointer (some ⟨g, 0, none⟩), .pointer (some ⟨gn, 0, none⟩), .int .i64 deep] ?_; (with_reducible refine (spec_l8Kids.calls k (fun j hj => ih j (by omega)) g gn AL cL l (wrap64 (at_ + 1)) bad deep ns_ ((rd_T82 l at_).f1) q1 q2 q3 q4 w0 _ HLC.out GEg.out GEgn.out hn_g_gn BKg.out BKgn.out HB.out At_.out).mono ?_); rintro e z_1 ⟨rfl, v3_, hs_, hb1_, hb3_, hb2_, hk_⟩; refine ⟨_, rfl, ?_⟩; obtain ⟨A3_, c3_, rfl⟩ := Kd.S_slice hs_; have HO := A_ (Kd.S_mono (ok' := fun k_ => k_ ≠ gr) (Kd.S_lower (base' := w.heap.size) (Kd.S_bound hs_) HK.out.1) (fun k_ h_ => by have := h_.2.1; have := blk_lt BKgr.out; omega)); replace BKgr := A_ (blk_kept BKgr.out hk_ (fun e_ => e_.elim hn_gr_g hn_gr_gn)); replace BKgp := A_ (blk_kept BKgp.out hk_ (fun e_ => e_.elim hn_gp_g hn_gp_gn)); replace HK := A_ (Kept.then_ HK.out hk_ (fun k_ h_ => h_.elim .inl (fun e_ => .inr (by rw [e_]; exact GWgn.out)))); replace HB := Aside0.mk hb2_; replace BKg := Aside0.mk hb1_; replace BKgn := Aside0.mk hb3_; clear hs_ hb1_ hb2_ hb3_ hk_; replace hxg := cells3 BKg.out; replace hxgr := cells4 BKgr.out; replace hxgp := cells5 BKgp.out; replace hxgn := cells4 BKgn.out) | ((with_reducible refine gate_store (t := 24) (p := 6) rfl ?_); apply box_store (g := gr); (case hrun => first | (go_simp; done) | (go_simp; rfl)); (case _ho => rfl); (case hN => rfl); (case hgd => rfl); (case hs => repeat (first | (with_reducible exact Sto.refl _ _) | refine Sto.step ?_ _ _)); (case hb => repeat (first | (with_reducible exact IsBlk.of BKgr.out) | (with_reducible apply IsBlk.set))); intro z_2 hw' bk_; simp only [List.setIfInBounds_toArray, List.set_cons_zero, List.set_cons_succ] at bk_; replace BKg := A_ (stored_blk hw' BKg.out hn_g_gr); replace BKgp := A_ (stored_blk hw' BKgp.out hn_gp_gr); replace BKgn := A_ (stored_blk hw' BKgn.out hn_gn_gr); replace HO := A_ (stored_S hw' HO.out (fun k_ hk => hk)); replace HK := A_ (hw'.keeps (I := fun w_ => Kept w w_ (fun k_ => k_ = g)) HK.out (fun _ _ u_ h_ => Kept.setCell h_ (.inr GWgr.out) u_)); replace HB := A_ (stored_below hw' HB.out GEgr.out); replace BKgr := Aside0.mk bk_; clear hw' bk_; replace hxg := cells3 BKg.out; replace hxgr := cells4 BKgr.out; replace hxgp := cells5 BKgp.out; replace hxgn := cells4 BKgn.out))
    refine bodyPost_ret (results_cell_row rfl _ _ gr 24 #[.string ns_, .string (rd_T82 l at_).f1, .string q1, .slice A3_ q2.length c3_] (0, 0) _ rfl (by first | exact BKgr.out | exact blk_drew BKgr.out) Tryz.underlying24 rfl (by kernel_rfl)) rfl ?_
    exact ⟨_, by first | rfl | (simp; done), Kd.S_mono HO.out (fun _ _ => trivial), BKg.out, HB.out, HK.out⟩
end Go.Proofs.YtegkokdncakadaaGreatDoor.Q

/- A node read of pieces, whose rows lie apart. No condition. -/
namespace Go.Proofs.YtegkokdncakadaaGreatDoor.Q
open Go.RowKit Go.Proofs.YtegkokdncakadaaGreatDoorW.PrintWords Go.Proofs.YtegkokdncakadaaGreatDoorW.PrintLast Go.Proofs.YtegkokdncakadaaGreatDoorW.PrintMore
attribute [local go_sem] max2_int min2_int max_two min_two max_three min_three max_four min_four
set_option linter.unusedVariables false
set_option linter.unusedSimpArgs false
def spec_ParseNode.f (k : Nat) (a0 : ByteArray) : Option (ByteArray × ByteArray × ByteArray × List (S24) × Bool) := (spec_Pieces.f k a0).bind fun p => (spec_l8Skip.l0 k p.1 0).bind fun b0 => (spec_l8Read.f k p.1 b0 (!p.2) (⟨#[]⟩ : ByteArray) 1).bind fun n => (spec_l8Skip.l0 k p.1 n.2.2.2.2.1).bind fun a1 =>
 if n.2.2.2.2.2 = true then some ((⟨#[]⟩ : ByteArray), (⟨#[]⟩ : ByteArray), (⟨#[]⟩ : ByteArray), [], false) else if a1 = (p.1.length : Int) then (spec_NodeOk.f k n.1 n.2.1 n.2.2.1 n.2.2.2.1).bind fun t => (if t = true then some (n.1, n.2.1, n.2.2.1, n.2.2.2.1, true) else some ((⟨#[]⟩ : ByteArray), (⟨#[]⟩ : ByteArray), (⟨#[]⟩ : ByteArray), [], false)) else some ((⟨#[]⟩ : ByteArray), (⟨#[]⟩ : ByteArray), (⟨#[]⟩ : ByteArray), [], false)
set_option maxHeartbeats 64000000 in
set_option maxRecDepth 100000 in
theorem spec_ParseNode.calls (k : Nat) (a0 : ByteArray) (r1 : ByteArray) (r2 : ByteArray) (r3 : ByteArray) (r4 : List (S24)) (r5 : Bool) (w : World) (h : spec_ParseNode.f k a0 = some (r1, r2, r3, r4, r5)) :
 Calls Tryz.prog 6 #[.string a0] w fun e w' => ∃ v3_ : Value, e = .returned (.tuple #[.agg #[.string r1, .string r2, .string r3, v3_], .bool r5]) ∧ Kd.S kA 24 w' w.heap.size (fun _ => True) v3_ r4 ∧ Below w.heap.size w w' := by
 replace h := Option.bind_eq_some_iff.mp h
 obtain ⟨⟨l, ok⟩, A0_, h⟩ := h
 have HP := A_ A0_
 clear A0_
 replace h := Option.bind_eq_some_iff.mp h
 obtain ⟨b0, A0_, h⟩ := h
 have HB1 := A_ A0_
 clear A0_
 replace h := Option.bind_eq_some_iff.mp h
 obtain ⟨⟨n1, n2, n3, n4, a1, bad1⟩, A0_, h⟩ := h
 have HN1 := A_ A0_
 clear A0_
 replace h := Option.bind_eq_some_iff.mp h
 obtain ⟨a2, A0_, h⟩ := h
 have HB2 := A_ A0_
 clear A0_
 dsimp only at h HB1 HN1 HB2
 have HA := A_ h
 clear h
 have hu1_ := Tryz.underlying24
 have hu3_ := Tryz.underlying56
 have HW := A_ (Below.refl w.heap.size w)
 go_enter Tryz.func6, Tryz.ntmps6
 have hrd_ := spec_l8Read.calls k
 unfold spec_l8Read.C at hrd_
 go_upto_region 6 with (first | ((with_reducible refine gd_ (N := 2) rfl ?_); refine bx_ (N := 2) (cs := #[.string (⟨#[]⟩ : ByteArray), .string (⟨#[]⟩ : ByteArray), .string (⟨#[]⟩ : ByteArray), .slice none 0 0]) (t := 24) ?_; intro gr hg_ p_1 hbox_ hb_; have GWgr : Aside0 (w.heap.size ≤ gr) := ⟨by rw [hg_]; exact below_size HW.out⟩; replace HW := A_ (below_step HW.out hb_); have BKgr := A_ hbox_; clear hb_ hbox_ hg_) | ((with_reducible refine gc_ (f := 31) rfl ?_); refine gL_ (some 10) Tryz.func31 #[.string a0] ?_; (with_reducible refine (spec_Pieces.calls k a0 l ok _ HP.out).mono ?_); rintro e w0 ⟨v0_, rfl, ho_, hb_⟩; refine ⟨_, rfl, ?_⟩; obtain ⟨AL, cL, rfl, hcl_, hL_⟩ := Kd.R_reads ho_; have HLC := A_ hL_; have HCL := A_ hcl_; replace BKgr := A_ (blk_below BKgr.out hb_); replace HW := A_ (below_step HW.out hb_); have HB := A_ (Below.refl w0.heap.size w0); clear ho_ hb_ hcl_ hL_) | ((with_reducible refine gd_ (N := 17) rfl ?_); refine bx_ (N := 17) (cs := #[.slice AL l.length cL, .int .i64 0, .bool (!ok)]) (t := 56) ?_; intro g hg_ p_3 hbox_ hb_; have GEg : Aside0 (w0.heap.size ≤ g) := ⟨Nat.le_of_eq hg_.symm⟩; have HR : Aside0 (gr < w0.heap.size) := ⟨blk_lt BKgr.out⟩; have hn_g_gr : g ≠ gr := (by have := HR.out; rw [hg_]; omega); have hn_gr_g := hn_g_gr.symm; replace HB := A_ (below_step HB.out hb_); replace BKgr := A_ (blk_below BKgr.out hb_); have BKg := A_ hbox_; clear hb_ hbox_ hg_) | ((with_reducible refine gc_ (f := 32) rfl ?_); refine gL_ (some 19) Tryz.func32 #[.pointer (some ⟨g, 0, none⟩)] ?_; (with_reducible refine (spec_l8Skip.calls k g AL cL l 0 (!ok) b0 w0 _ HLC.out GEg.out BKg.out HB.out HB1.out).mono ?_); rintro e p_4 ⟨rfl, hb1_, hb2_, hk_⟩; refine ⟨_, rfl, ?_⟩; replace BKgr := A_ (blk_kept BKgr.out hk_ hn_gr_g); replace BKg := Aside0.mk hb1_; replace HB := Aside0.mk hb2_; clear hb1_ hb2_ hk_) | ((with_reducible refine gc_ (f := 33) rfl ?_); refine gL_ (some 21) Tryz.func33 #[.pointer (some ⟨g, 0, none⟩), .string (⟨#[]⟩ : ByteArray), .int .i64 1] ?_; (with_reducible refine (hrd_ g AL cL l b0 (!ok) (⟨#[]⟩ : ByteArray) 1 n1 n2 n3 n4 a1 bad1 w0 _ HLC.out GEg.out BKg.out HB.out HN1.out).mono ?_); rintro e p_5 ⟨v3_, rfl, hs_, hb1_, hb2_, hk_⟩; refine ⟨_, rfl, ?_⟩; obtain ⟨A3_, c3_, rfl⟩ := Kd.S_slice hs_; have HV := A_ (Kd.S_mono (ok' := fun k_ => k_ ≠ g ∧ k_ ≠ gr) (Kd.S_bound hs_) (fun k_ h_ => ⟨by have := h_.2.1; have := blk_lt BKg.out; omega, by have := h_.2.1; have := blk_lt BKgr.out; omega⟩)); have HVB : Aside0 (w.heap.size ≤ p_4.heap.size) := ⟨Nat.le_trans (below_size HW.out) (below_size HB.out)⟩; replace HV := A_ (Kd.S_lower (base' := w.heap.size) HV.out HVB.out); replace BKgr := A_ (blk_kept BKgr.out hk_ hn_gr_g); replace BKg := Aside0.mk hb1_; replace HB := Aside0.mk hb2_; clear hs_ hb1_ hb2_ hk_) | ((with_reducible refine gd_ (N := 7) rfl ?_); refine bx_ (N := 7) (cs := #[.string (⟨#[]⟩ : ByteArray), .string (⟨#[]⟩ : ByteArray), .string (⟨#[]⟩ : ByteArray), .slice none 0 0]) (t := 24) ?_; intro gn hg_ p_6 hbox_ hb_; have GEgn : Aside0 (w0.heap.size ≤ gn) := ⟨by rw [hg_]; exact below_size HB.out⟩; have hn_gn_g : gn ≠ g := (by have := blk_lt BKg.out; rw [hg_]; omega); have hn_gn_gr : gn ≠ gr := (by have := blk_lt BKgr.out; rw [hg_]; omega); have hn_g_gn := hn_gn_g.symm; have hn_gr_gn := hn_gn_gr.symm; replace HV := A_ (Kd.S_below (Kd.S_elderB HV.out gn (Nat.le_of_eq hg_.symm)) hb_); replace HB := A_ (below_step HB.out hb_); replace BKgr := A_ (blk_below BKgr.out hb_); replace BKg := A_ (blk_below BKg.out hb_); have BKgn := A_ hbox_; clear hb_ hbox_ hg_; have hxgn := cells4 BKgn.out) | ((with_reducible refine gate_store (t := 24) (p := 7) rfl ?_); apply box_store (g := gn); (case hrun => first | (go_simp; done) | (go_simp; rfl)); (case _ho => rfl); (case hN => rfl); (case hgd => rfl); (case hs => repeat (first | (with_reducible exact Sto.refl _ _) | refine Sto.step ?_ _ _)); (case hb => repeat (first | (with_reducible exact IsBlk.of BKgn.out) | (with_reducible apply IsBlk.set))); intro p_7 hw' bk_; simp only [List.setIfInBounds_toArray, List.set_cons_zero, List.set_cons_succ] at bk_; replace HV := A_ (stored_S hw' HV.out (fun _ hk => hk.2)); replace BKgr := A_ (stored_blk hw' BKgr.out hn_gr_gn); replace BKg := A_ (stored_blk hw' BKg.out hn_g_gn); replace HB := A_ (stored_below hw' HB.out GEgn.out); replace BKgn := Aside0.mk bk_; clear hw' bk_; replace hxgn := cells4 BKgn.out) | ((with_reducible refine gc_ (f := 32) rfl ?_); refine gL_ (some 23) Tryz.func32 #[.pointer (some ⟨g, 0, none⟩)] ?_; (with_reducible refine (spec_l8Skip.calls k g AL cL l a1 bad1 a2 w0 _ HLC.out GEg.out BKg.out HB.out HB2.out).mono ?_); rintro e p_8 ⟨rfl, hb1_, hb2_, hk_⟩; refine ⟨_, rfl, ?_⟩; replace HV := A_ (Kd.S_kept HV.out hk_ (fun _ hk => hk.1.1)); replace BKgr := A_ (blk_kept BKgr.out hk_ hn_gr_g); replace BKgn := A_ (blk_kept BKgn.out hk_ hn_gn_g); replace BKg := Aside0.mk hb1_; replace HB := Aside0.mk hb2_; clear hb1_ hb2_ hk_; replace hxgn := cells4 BKgn.out; have hxg := cells3 BKg.out; have hxgr := cells4 BKgr.out))
 (try simp only [Act.put, List.setIfInBounds_toArray, List.set_cons_zero, List.set_cons_succ])
 have H := HA.out
 clear HA
 go_cut [41] (fun v41 wc => ∃ (b_ : Bool), v41 = .bool b_ ∧ Aside0 ((if b_ = true then some ((⟨#[]⟩ : ByteArray), (⟨#[]⟩ : ByteArray), (⟨#[]⟩ : ByteArray), [], false) else some (n1, n2, n3, n4, true)) = some (r1, r2, r3, r4, r5)) ∧ Aside0 (Kd.S kA 24 wc w.heap.size (fun k_ => (k_ ≠ g ∧ k_ ≠ gr) ∧ k_ ≠ gn) (.slice A3_ n4.length c3_) n4) ∧ Aside0 (wc.heap[gr]? = some (.cells #[.string (⟨#[]⟩ : ByteArray), .string (⟨#[]⟩ : ByteArray), .string (⟨#[]⟩ : ByteArray), .slice none 0 0] 24 (0, 0))) ∧ Aside0 (wc.heap[gn]? = some (.cells #[.string n1, .string n2, .string n3, .slice A3_ n4.length c3_] 24 (0, 0))) ∧ Aside0 (Below w0.heap.size w0 wc))
 case first =>
  as_aux_lemma =>
   cases bad1
   rotate_left
   · rw [if_pos rfl] at H
     go_wp2
     go_meet
     case rel => exact ⟨true, rs_, ⟨H⟩, ⟨vS_ HV.out⟩, ⟨vb_ BKgr.out⟩, ⟨vb_ BKgn.out⟩, ⟨bB_⟩⟩
   rw [if_neg (by simp)] at H
   by_cases c1 : a2 = (l.length : Int)
   rotate_left
   · rw [if_neg c1] at H
     have c1b0 : (a2 != (l.length : Int)) = true := bne_iff_ne.mpr c1
     go_wp2
     go_meet
     case rel => exact ⟨true, rs_, ⟨H⟩, ⟨vS_ HV.out⟩, ⟨vb_ BKgr.out⟩, ⟨vb_ BKgn.out⟩, ⟨bB_⟩⟩
   rw [if_pos c1] at H
   have c1b0 : (a2 != (l.length : Int)) = false := bne_eq_false_iff_eq.mpr c1
   replace H := Option.bind_eq_some_iff.mp H
   obtain ⟨t_, A0_, H⟩ := H
   have At_ := A_ A0_
   clear A0_
   have hrr_ := Kd.S_reads' HV.out
   have HCC : Aside0 (Kd.C k24 p_8 A3_ n4.length n4) := ⟨hrr_.2.2⟩
   have HCN := A_ hrr_.2.1
   clear hrr_
   go_wp2_with (first | (go_at_call 20; (with_reducible refine (spec_NodeOk.calls k n1 n2 n3 A3_ c3_ n4 t_ _ HCC.out HCN.out At_.out).mono ?_); rintro e p_9 ⟨rfl, hb_⟩; replace HV := A_ (Kd.S_below HV.out hb_); replace BKgr := A_ (blk_below BKgr.out hb_); replace BKgn := A_ (blk_below BKgn.out hb_); replace HB := A_ (below_step HB.out hb_); clear hb_ hxg hxgn hxgr))
   cases t_
   · rw [if_neg (by simp)] at H
     go_meet
     case rel => exact ⟨true, rs_, ⟨H⟩, ⟨vS_ HV.out⟩, ⟨vb_ BKgr.out⟩, ⟨vb_ BKgn.out⟩, ⟨bB_⟩⟩
   · rw [if_pos rfl] at H
     go_meet
     case rel => exact ⟨false, rs_, ⟨H⟩, ⟨vS_ HV.out⟩, ⟨vb_ BKgr.out⟩, ⟨vb_ BKgn.out⟩, ⟨bB_⟩⟩
 case rest =>
  clear HV BKgr BKgn HB hxg hxgn hxgr H BKg
  obtain ⟨b_, rfl, HA, HV, BKgr, BKgn, HB⟩ := hcut
  have hxgr := cells4 BKgr.out
  have hxgn := cells4 BKgn.out
  have H := HA.out
  clear HA
  cases b_
  · skip
    as_aux_lemma =>
     rw [if_neg (by simp)] at H
     obtain ⟨rfl, rfl, rfl, rfl, rfl⟩ : _ ∧ _ ∧ _ ∧ _ ∧ _ := by simpa only [Option.some.injEq, Prod.mk.injEq] using H
     clear H
     replace HW := A_ (Below.trans HW.out (Below.mono HB.out (below_size HW.out)))
     clear HB
     go_wp2_with (first | ((with_reducible refine gate_store (t := 24) (p := 2) rfl ?_); apply box_store (g := gr); (case hrun => first | (go_simp; done) | (go_simp; rfl)); (case _ho => rfl); (case hN => rfl); (case hgd => rfl); (case hs => repeat (first | (with_reducible exact Sto.refl _ _) | refine Sto.step ?_ _ _)); (case hb => repeat (first | (with_reducible exact IsBlk.of BKgr.out) | (with_reducible apply IsBlk.set))); intro p_e hw' bk_; simp only [List.setIfInBounds_toArray, List.set_cons_zero, List.set_cons_succ] at bk_; replace HV := A_ (stored_S hw' HV.out (fun _ hk => hk.1.2)); replace HW := A_ (stored_below hw' HW.out GWgr.out); replace BKgr := Aside0.mk bk_; clear hw' bk_))
     refine bodyPost_ret (results_ct rfl _ _ gr 24 #[.string n1, .string n2, .string n3, .slice A3_ n4.length c3_] (0, 0) _ rfl (by first | exact BKgr.out | exact blk_drew BKgr.out) Tryz.underlying24 rfl (by kernel_rfl)) rfl ?_
     exact ⟨_, by first | rfl | (simp; done), Kd.S_mono HV.out (fun _ _ => trivial), HW.out⟩
  · skip
    as_aux_lemma =>
     rw [if_pos rfl] at H
     obtain ⟨rfl, rfl, rfl, rfl, rfl⟩ : _ ∧ _ ∧ _ ∧ _ ∧ _ := by simpa only [Option.some.injEq, Prod.mk.injEq] using H
     clear H
     replace HW := A_ (Below.trans HW.out (Below.mono HB.out (below_size HW.out)))
     clear HB
     go_wp2_with (first | ((with_reducible refine gate_store (t := 24) (p := 2) rfl ?_); apply box_store (g := gr); (case hrun => first | (go_simp; done) | (go_simp; rfl)); (case _ho => rfl); (case hN => rfl); (case hgd => rfl); (case hs => repeat (first | (with_reducible exact Sto.refl _ _) | refine Sto.step ?_ _ _)); (case hb => repeat (first | (with_reducible exact IsBlk.of BKgr.out) | (with_reducible apply IsBlk.set))); intro p_e hw' bk_; simp only [List.setIfInBounds_toArray, List.set_cons_zero, List.set_cons_succ] at bk_; replace HV := A_ (stored_S hw' HV.out (fun _ hk => hk.1.2)); replace HW := A_ (stored_below hw' HW.out GWgr.out); replace BKgr := Aside0.mk bk_; clear hw' bk_))
     refine bodyPost_ret (results_ct rfl _ _ gr 24 #[.string (⟨#[]⟩ : ByteArray), .string (⟨#[]⟩ : ByteArray), .string (⟨#[]⟩ : ByteArray), .slice none 0 0] (0, 0) _ rfl (by first | exact BKgr.out | exact blk_drew BKgr.out) Tryz.underlying24 rfl (by kernel_rfl)) rfl ?_
     exact ⟨_, by first | rfl | (simp; done), Kd.S_nil _ _ _ _ _, HW.out⟩
end Go.Proofs.YtegkokdncakadaaGreatDoor.Q
