/- A node read of pieces, whose rows lie apart. No condition. -/
import Derived.Test.YtegkokdncakadaaGreatDoorProg
import Derived.Below
import Derived.Deep.Draws
import Derived.Deep.AppendLies
import Derived.Maps.AppendAt
import Derived.OwnWalk
import Derived.Laws.BytesArg
import Derived.Laws.MakeOwn
import Derived.Laws.OwnMore
import Derived.Deep.OwnRows
import Derived.Tactics
import Derived.Lib.ConvBytes
import Derived.Laws.Slices
import Derived.WalkKit
import Derived.KernelRfl
import Derived.RowKit3
import Derived.Deep.LoopGhost
import Derived.Deep.QuietTactic
import Derived.BigQuiet
import Derived.WideLaws
import Derived.Deep.DeepCutAuto
import Derived.Deep.CutBlock
import Derived.Deep.RegionHeld3
import Derived.Laws.Rows
import Derived.Lib.AppendStr
import Derived.ArgAppend
import Derived.Laws.IdiomCopy
import Derived.OrdersHeld
import Derived.Laws.BitsLemmas
import Derived.RowKit
import Derived.Test.YtegkokdncakadaaGreatDoorVParseNodeG26
namespace Go.Proofs.YtegkokdncakadaaGreatDoor.Q
open Go.RowKit Go.Proofs.YtegkokdncakadaaGreatDoorW.PrintWords Go.Proofs.YtegkokdncakadaaGreatDoorW.PrintLast Go.Proofs.YtegkokdncakadaaGreatDoorW.PrintMore
attribute [local go_sem] max2_int min2_int max_two min_two max_three min_three max_four min_four
set_option linter.unusedVariables false
set_option linter.unusedSimpArgs false
def inodeEnd (l : List (S82)) (at_ : Int) (bad : Bool) (ns nm tx : ByteArray) (kids : List (S24)) : Option (ByteArray × ByteArray × ByteArray × List (S24) × Int × Bool) :=
 if at_ < (l.length : Int) then (if 0 ≤ at_ then some (ns, nm, tx, kids, wrap64 (at_ + 1), (if ((rd_T82 l at_).f1).toList = nm.toList then bad else true)) else none)
 else some (ns, nm, tx, kids, wrap64 (at_ + 1), true)
mutual
def impl_nodes_node.f : Nat → List (S82) → Int → Bool → ByteArray → Int → Option (ByteArray × ByteArray × ByteArray × List (S24) × Int × Bool)
 | 0, _, _, _, _, _ => none
 | k + 1, l, at_, bad, ns, deep => if at_ < (l.length : Int) then (if 0 ≤ at_ then (if deep > 5 then some ((⟨#[]⟩ : ByteArray), (⟨#[]⟩ : ByteArray), (⟨#[]⟩ : ByteArray), [], at_, true) else if ((rd_T82 l at_).f0) = 1 then impl_nodes_node.l0 k l deep (wrap64 (at_ + 1)) bad false (if (rd_T82 l at_).f3 = true then (rd_T82 l at_).f2 else ns) ((rd_T82 l at_).f1) (⟨#[]⟩ : ByteArray) [] else if ((rd_T82 l at_).f0) = 3 then some ((if (rd_T82 l at_).f3 = true then (rd_T82 l at_).f2 else ns), (rd_T82 l at_).f1, (⟨#[]⟩ : ByteArray), [], wrap64 (at_ + 1), bad) else some ((⟨#[]⟩ : ByteArray), (⟨#[]⟩ : ByteArray), (⟨#[]⟩ : ByteArray), [], at_, true)) else none) else some ((⟨#[]⟩ : ByteArray), (⟨#[]⟩ : ByteArray), (⟨#[]⟩ : ByteArray), [], at_, true)
def impl_nodes_node.l0 : Nat → List (S82) → Int → Int → Bool → Bool → ByteArray → ByteArray → ByteArray → List (S24) → Option (ByteArray × ByteArray × ByteArray × List (S24) × Int × Bool)
 | 0, _, _, _, _, _, _, _, _, _ => none
 | k + 1, l, deep, at_, bad, full, ns, nm, tx, kids => if bad = false ∧ at_ < (l.length : Int) then (if 0 ≤ at_ then (if ((rd_T82 l at_).f0) = 2 then inodeEnd l at_ (if (kids.length : Int) > 0 then (bad || full) else bad) ns nm (if (kids.length : Int) > 0 then (⟨#[]⟩ : ByteArray) else tx) kids else if ((rd_T82 l at_).f0) = 4 then (if tx.size + ((rd_T82 l at_).f4).size ≤ 9223372036854775807 then (if full = true then impl_nodes_node.l0 k l deep (wrap64 (at_ + 1)) bad true ns nm (tx ++ (rd_T82 l at_).f4) kids else (impl_isBlank.f ((rd_T82 l at_).f4)).bind fun t => impl_nodes_node.l0 k l deep (wrap64 (at_ + 1)) bad (!t) ns nm (tx ++ (rd_T82 l at_).f4) kids) else none) else (impl_nodes_node.f k l at_ bad ns (wrap64 (deep + 1))).bind fun r => (if kids.length < 1954687338268 then impl_nodes_node.l0 k l deep r.2.2.2.2.1 r.2.2.2.2.2 full ns nm tx (kids ++ [(⟨r.1, r.2.1, r.2.2.1, r.2.2.2.1⟩ : S24)]) else none)) else none) else inodeEnd l at_ (if (kids.length : Int) > 0 then (bad || full) else bad) ns nm (if (kids.length : Int) > 0 then (⟨#[]⟩ : ByteArray) else tx) kids
end
def impl_nodes_node.T4 : Bool × List (List Nat × List Nat) := (true, [([], []), ([0], [0]), ([1], [1]), ([2], [2]), ([], []), ([4], [4]), ([5], [5]), ([6], [6]), ([3, 7], [3, 7]), ([8], [8]), ([], []), ([10, 9, 0, 1, 2, 3, 4, 5, 6, 7, 8, 9, 10], [9, 10])])
def impl_nodes_node.B4 : List Nat := [0, 1, 3, 7, 0, 16, 48, 112, 255, 511, 0, 2047]
theorem impl_nodes_node.tab4 : rtab .any (opsOf Tryz.f36 4) = impl_nodes_node.T4 := by kernel_rfl
theorem impl_nodes_node.bits4 : waitsOk impl_nodes_node.T4.2 impl_nodes_node.B4 = true := by kernel_rfl
def impl_nodes_node.T13 : Bool × List (List Nat × List Nat) := (true, [([], []), ([0], [0]), ([1], [1]), ([2], [2]), ([], []), ([4], [4]), ([5], [5]), ([6], [6]), ([3, 7], [3, 7]), ([8], [8]), ([], []), ([10, 9, 0, 1, 2, 3, 4, 5, 6, 7, 8, 9, 10], [9, 10])])
def impl_nodes_node.B13 : List Nat := [0, 1, 3, 7, 0, 16, 48, 112, 255, 511, 0, 2047]
theorem impl_nodes_node.tab13 : rtab .any (opsOf Tryz.f36 13) = impl_nodes_node.T13 := by kernel_rfl
theorem impl_nodes_node.bits13 : waitsOk impl_nodes_node.T13.2 impl_nodes_node.B13 = true := by kernel_rfl
def impl_nodes_node.C (k : Nat) : Prop := ∀ (g : Nat) (AL : Option Addr) (cL : Nat) (l : List (S82)) (at_ : Int) (bad : Bool) (ns : ByteArray) (deep : Int) (r1 r2 r3 : ByteArray) (r4 : List (S24)) (r5 : Int) (r6 : Bool) (w0 w : World), Kd.C k82 w0 AL l.length l → w0.heap.size ≤ g → w.heap[g]? = some (.cells #[.slice AL l.length cL, .int .i64 at_, .bool bad] 61 (0, 0)) → Below w0.heap.size w0 w → impl_nodes_node.f k l at_ bad ns deep = some (r1, r2, r3, r4, r5, r6) →
 Calls Tryz.prog 36 #[.pointer (some ⟨g, 0, none⟩), .string ns, .int .i64 deep] w fun e w' => ∃ v3_ : Value, e = .returned (.agg #[.string r1, .string r2, .string r3, v3_]) ∧ Kd.S kA 24 w' w.heap.size (fun _ => True) v3_ r4 ∧ w'.heap[g]? = some (.cells #[.slice AL l.length cL, .int .i64 r5, .bool r6] 61 (0, 0)) ∧ Below w0.heap.size w0 w' ∧ Kept w w' (fun k_ => k_ = g)
set_option maxHeartbeats 64000000 in
set_option maxRecDepth 100000 in
theorem impl_nodes_node.calls (k : Nat) : impl_nodes_node.C k := by
 induction k using Nat.strongRecOn with
 | _ k ih =>
 unfold impl_nodes_node.C
 intro g AL cL l at_ bad ns deep r1 r2 r3 r4 r5 r6 w0 w hL hg0 hbg hB h
 cases k with
 | zero => exact absurd h (by simp [impl_nodes_node.f])
 | succ k =>
 simp only [impl_nodes_node.f] at h
 have hu1_ := Tryz.underlying24
 have hu2_ := Tryz.underlying82
 have hu3_ := Tryz.underlying61
 have HLC := A_ hL
 have GEg := A_ hg0
 have BKg := A_ hbg
 have H00 := A_ (below_size hB)
 have HB := A_ hB
 have HK := A_ (Kept.refl w (fun k_ => k_ = g))
 have HA := A_ h
 clear hL hg0 hbg hB h
 have hxg := cells3 BKg.out
 go_enter Tryz.func36, Tryz.ntmps36
 go_upto_region 1 with (first | ((with_reducible refine gd_ (N := 6) rfl ?_); refine bx_ (N := 6) (cs := #[.string (⟨#[]⟩ : ByteArray), .string (⟨#[]⟩ : ByteArray), .string (⟨#[]⟩ : ByteArray), .slice none 0 0]) (t := 24) ?_; intro gr hg_ x_1 hbox_ hb_; have GWgr : Aside0 (w.heap.size ≤ gr) := ⟨by rw [hg_]; exact HK.out.1⟩; have GEgr : Aside0 (w0.heap.size ≤ gr) := ⟨by rw [hg_]; exact below_size HB.out⟩; have hn_g_gr : g ≠ gr := (by have := blk_lt BKg.out; rw [hg_]; omega); have hn_gr_g : gr ≠ g := hn_g_gr.symm; replace BKg := A_ (blk_below BKg.out hb_); replace HK := A_ (Kept.below HK.out hb_); replace HB := A_ (below_step HB.out hb_); have BKgr := A_ hbox_; clear hb_ hbox_ hg_; replace hxg := cells3 BKg.out; have hxgr := cells4 BKgr.out))
 have H := HA.out
 clear HA
 (try simp only [Act.put, List.setIfInBounds_toArray, List.set_cons_zero, List.set_cons_succ])
 go_cut [53] (fun v53 wc => ∃ (b_ : Bool), v53 = .bool b_ ∧ Aside0 ((b_ = true → (some ((⟨#[]⟩ : ByteArray), (⟨#[]⟩ : ByteArray), (⟨#[]⟩ : ByteArray), [], at_, true) : Option (ByteArray × ByteArray × ByteArray × List (S24) × Int × Bool)) = some (r1, r2, r3, r4, r5, r6)) ∧ (b_ = false → at_ < (l.length : Int) ∧ 0 ≤ at_ ∧ (((rd_T82 l at_).f0 = 1 ∧ impl_nodes_node.l0 k l deep (wrap64 (at_ + 1)) bad false (if (rd_T82 l at_).f3 = true then (rd_T82 l at_).f2 else ns) ((rd_T82 l at_).f1) (⟨#[]⟩ : ByteArray) [] = some (r1, r2, r3, r4, r5, r6)) ∨ ((rd_T82 l at_).f0 ≠ 1 ∧ (rd_T82 l at_).f0 = 3 ∧ some ((if (rd_T82 l at_).f3 = true then (rd_T82 l at_).f2 else ns), (rd_T82 l at_).f1, (⟨#[]⟩ : ByteArray), [], wrap64 (at_ + 1), bad) = some (r1, r2, r3, r4, r5, r6))))) ∧ Aside0 (wc.heap[g]? = some (.cells #[.slice AL l.length cL, .int .i64 at_, .bool bad] 61 (0, 0))) ∧ Aside0 (wc.heap[gr]? = some (.cells #[.string (⟨#[]⟩ : ByteArray), .string (⟨#[]⟩ : ByteArray), .string (⟨#[]⟩ : ByteArray), .slice none 0 0] 24 (0, 0))) ∧ Aside0 (Below w0.heap.size w0 wc) ∧ Aside0 (Kept w wc (fun k_ => k_ = g)))
 case first => as_aux_lemma =>
  by_cases c1 : at_ < (l.length : Int)
  rotate_left
  · rw [if_neg c1] at H
    have c1b1 : decide ((l.length : Int) ≤ at_) = true := decide_eq_true (by omega)
    clear c1
    go_wp2
    repeat (go_quiet (fail); try go_wp2)
    go_meet
    case rel => exact ⟨true, rs_, ⟨⟨fun _ => H, fun h_ => (by cases h_)⟩⟩, ⟨vb_ BKg.out⟩, ⟨vb_ BKgr.out⟩, ⟨bB_⟩, ⟨by repeat (first | (with_reducible first | exact HK.out | apply Kept.drewN | apply Kept.drew | apply Kept.alloc) | exact HK.out)⟩⟩
  rw [if_pos c1] at H
  have c1b1 : decide ((l.length : Int) ≤ at_) = false := decide_eq_false (by omega)
  have HC1 := A_ c1
  by_cases c2 : 0 ≤ at_
  rotate_left
  · rw [if_neg c2] at H
    exact absurd H (by simp)
  rw [if_pos c2] at H
  have c2b0 : decide (0 ≤ at_) = true := decide_eq_true c2
  have HC2 := A_ c2
  obtain ⟨ada, eea, hya0, hya1, hya2, hya3, hya4⟩ := at_T82 HLC.out at_ c2 c1
  replace hya0 := pw_cell_below HB.out hya0
  replace hya1 := pw_cell_below HB.out hya1
  replace hya2 := pw_cell_below HB.out hya2
  replace hya3 := pw_cell_below HB.out hya3
  replace hya4 := pw_cell_below HB.out hya4
  replace c1 := eq_true c1
  replace c2 := eq_true c2
  rw [eea] at hxg
  by_cases c4 : (rd_T82 l at_).f0 = 1
  · have c4b0 : ((rd_T82 l at_).f0 == 1) = true := beq_iff_eq.mpr c4
    have c4b1 : ((rd_T82 l at_).f0 != 1) = false := bne_eq_false_iff_eq.mpr c4
    have Hc4 := A_ c4
    clear c4
    by_cases c3 : deep > 5
    · rw [if_pos c3] at H
      have c3b0 : decide (5 < deep) = true := decide_eq_true c3
      clear c3
      go_wp2
      repeat (go_quiet (fail); try go_wp2)
      go_meet
      case rel => exact ⟨true, rs_, ⟨⟨fun _ => H, fun h_ => (by cases h_)⟩⟩, ⟨vb_ BKg.out⟩, ⟨vb_ BKgr.out⟩, ⟨bB_⟩, ⟨by repeat (first | (with_reducible first | exact HK.out | apply Kept.drewN | apply Kept.drew | apply Kept.alloc) | exact HK.out)⟩⟩
    rw [if_neg c3] at H
    have c3b0 : decide (5 < deep) = false := decide_eq_false c3
    clear c3
    rw [if_pos Hc4.out] at H
    go_wp2
    repeat (go_quiet (fail); try go_wp2)
    go_meet
    case rel => exact ⟨false, rs_, ⟨⟨fun h_ => (by cases h_), fun _ => ⟨HC1.out, HC2.out, .inl ⟨Hc4.out, H⟩⟩⟩⟩, ⟨vb_ BKg.out⟩, ⟨vb_ BKgr.out⟩, ⟨bB_⟩, ⟨by repeat (first | (with_reducible first | exact HK.out | apply Kept.drewN | apply Kept.drew | apply Kept.alloc) | exact HK.out)⟩⟩
  · have c4b0 : ((rd_T82 l at_).f0 == 1) = false := beq_eq_false_iff_ne.mpr c4
    have c4b1 : ((rd_T82 l at_).f0 != 1) = true := bne_iff_ne.mpr c4
    have Hc4 := A_ c4
    clear c4
    by_cases c5 : (rd_T82 l at_).f0 = 3
    · have c5b0 : ((rd_T82 l at_).f0 == 3) = true := beq_iff_eq.mpr c5
      have c5b1 : ((rd_T82 l at_).f0 != 3) = false := bne_eq_false_iff_eq.mpr c5
      have Hc5 := A_ c5
      clear c5
      by_cases c3 : deep > 5
      · rw [if_pos c3] at H
        have c3b0 : decide (5 < deep) = true := decide_eq_true c3
        clear c3
        go_wp2
        repeat (go_quiet (fail); try go_wp2)
        go_meet
        case rel => exact ⟨true, rs_, ⟨⟨fun _ => H, fun h_ => (by cases h_)⟩⟩, ⟨vb_ BKg.out⟩, ⟨vb_ BKgr.out⟩, ⟨bB_⟩, ⟨by repeat (first | (with_reducible first | exact HK.out | apply Kept.drewN | apply Kept.drew | apply Kept.alloc) | exact HK.out)⟩⟩
      rw [if_neg c3] at H
      have c3b0 : decide (5 < deep) = false := decide_eq_false c3
      clear c3
      rw [if_neg Hc4.out, if_pos Hc5.out] at H
      go_wp2
      repeat (go_quiet (fail); try go_wp2)
      go_meet
      case rel => exact ⟨false, rs_, ⟨⟨fun h_ => (by cases h_), fun _ => ⟨HC1.out, HC2.out, .inr ⟨Hc4.out, Hc5.out, H⟩⟩⟩⟩, ⟨vb_ BKg.out⟩, ⟨vb_ BKgr.out⟩, ⟨bB_⟩, ⟨by repeat (first | (with_reducible first | exact HK.out | apply Kept.drewN | apply Kept.drew | apply Kept.alloc) | exact HK.out)⟩⟩
    · have c5b0 : ((rd_T82 l at_).f0 == 3) = false := beq_eq_false_iff_ne.mpr c5
      have c5b1 : ((rd_T82 l at_).f0 != 3) = true := bne_iff_ne.mpr c5
      have Hc5 := A_ c5
      clear c5
      by_cases c3 : deep > 5
      · rw [if_pos c3] at H
        have c3b0 : decide (5 < deep) = true := decide_eq_true c3
        clear c3
        go_wp2
        repeat (go_quiet (fail); try go_wp2)
        go_meet
        case rel => exact ⟨true, rs_, ⟨⟨fun _ => H, fun h_ => (by cases h_)⟩⟩, ⟨vb_ BKg.out⟩, ⟨vb_ BKgr.out⟩, ⟨bB_⟩, ⟨by repeat (first | (with_reducible first | exact HK.out | apply Kept.drewN | apply Kept.drew | apply Kept.alloc) | exact HK.out)⟩⟩
      rw [if_neg c3] at H
      have c3b0 : decide (5 < deep) = false := decide_eq_false c3
      clear c3
      rw [if_neg Hc4.out, if_neg Hc5.out] at H
      go_wp2
      repeat (go_quiet (fail); try go_wp2)
      go_meet
      case rel => exact ⟨true, rs_, ⟨⟨fun _ => H, fun h_ => (by cases h_)⟩⟩, ⟨vb_ BKg.out⟩, ⟨vb_ BKgr.out⟩, ⟨bB_⟩, ⟨by repeat (first | (with_reducible first | exact HK.out | apply Kept.drewN | apply Kept.drew | apply Kept.alloc) | exact HK.out)⟩⟩
 case rest =>
  clear BKg BKgr hxg hxgr HB HK H
  obtain ⟨b_, rfl, HA, BKg, BKgr, HB, HK⟩ := hcut
  have hxg := cells3 BKg.out
  have hxgr := cells4 BKgr.out
  cases b_
  rotate_left
  · skip
    as_aux_lemma =>
     have H := HA.out.1 rfl
     clear HA
     obtain ⟨rfl, rfl, rfl, rfl, rfl, rfl⟩ : _ ∧ _ ∧ _ ∧ _ ∧ _ ∧ _ := by simpa only [Option.some.injEq, Prod.mk.injEq] using H
     clear H
     go_wp2_with (first | ((with_reducible refine gate_store (t := 4) (p := 56) rfl ?_); apply box_store (g := g); (case hrun => first | (go_simp; done) | (go_simp; rfl)); (case _ho => rfl); (case hN => rfl); (case hgd => rfl); (case hs => repeat (first | (with_reducible exact Sto.refl _ _) | refine Sto.step ?_ _ _)); (case hb => repeat (first | (with_reducible exact IsBlk.of BKg.out) | (with_reducible apply IsBlk.set))); intro b_2 hw' bk_; simp only [List.setIfInBounds_toArray, List.set_cons_zero, List.set_cons_succ] at bk_; replace BKgr := A_ (stored_blk hw' BKgr.out hn_gr_g); replace HK := A_ (hw'.keeps (I := fun w_ => Kept w w_ (fun k_ => k_ = g)) HK.out (fun _ _ u_ h_ => Kept.setCell h_ (.inl rfl) u_)); replace HB := A_ (stored_below hw' HB.out GEg.out); replace BKg := Aside0.mk bk_; clear hw' bk_; replace hxg := cells3 BKg.out; replace hxgr := cells4 BKgr.out) | ((with_reducible refine gate_store (t := 24) (p := 6) rfl ?_); apply box_store (g := gr); (case hrun => first | (go_simp; done) | (go_simp; rfl)); (case _ho => rfl); (case hN => rfl); (case hgd => rfl); (case hs => repeat (first | (with_reducible exact Sto.refl _ _) | refine Sto.step ?_ _ _)); (case hb => repeat (first | (with_reducible exact IsBlk.of BKgr.out) | (with_reducible apply IsBlk.set))); intro b_3 hw' bk_; simp only [List.setIfInBounds_toArray, List.set_cons_zero, List.set_cons_succ] at bk_; replace BKg := A_ (stored_blk hw' BKg.out hn_g_gr); replace HK := A_ (hw'.keeps (I := fun w_ => Kept w w_ (fun k_ => k_ = g)) HK.out (fun _ _ u_ h_ => Kept.setCell h_ (.inr GWgr.out) u_)); replace HB := A_ (stored_below hw' HB.out GEgr.out); replace BKgr := Aside0.mk bk_; clear hw' bk_; replace hxg := cells3 BKg.out; replace hxgr := cells4 BKgr.out))
     refine bodyPost_ret (results_cell_row rfl _ _ gr 24 #[.string (⟨#[]⟩ : ByteArray), .string (⟨#[]⟩ : ByteArray), .string (⟨#[]⟩ : ByteArray), .slice none 0 0] (0, 0) _ rfl (by first | exact BKgr.out | exact blk_drew BKgr.out) Tryz.underlying24 rfl (by kernel_rfl)) rfl ?_
     exact ⟨_, by first | rfl | (simp; done), Kd.S_nil _ _ _ _ _, BKg.out, HB.out, HK.out⟩
  obtain ⟨c1, c2, HA2_⟩ := HA.out.2 rfl
  clear HA
  have HA := A_ HA2_
  clear HA2_
  have c1b0 : decide (at_ < (l.length : Int)) = true := decide_eq_true c1
  have c2b0 : decide (0 ≤ at_) = true := decide_eq_true c2
  obtain ⟨adb, eeb, hyb0, hyb1, hyb2, hyb3, hyb4⟩ := at_T82 HLC.out at_ c2 c1
  replace hyb0 := pw_cell_below HB.out hyb0
  replace hyb1 := pw_cell_below HB.out hyb1
  replace hyb2 := pw_cell_below HB.out hyb2
  replace hyb3 := pw_cell_below HB.out hyb3
  replace hyb4 := pw_cell_below HB.out hyb4
  replace c1 := eq_true c1
  replace c2 := eq_true c2
  rw [eeb] at hxg
  try go_wp2
  refine start_ (n := 12) (S := fun w' => w'.cell? ⟨g, 0, none⟩ = some (.slice (some adb) l.length cL) ∧ w'.cell? ⟨g, 1, none⟩ = some (.int .i64 at_) ∧ w'.cell? (adb.add ((at_).toNat * 5)) = some (.int .i64 (rd_T82 l at_).f0) ∧ w'.cell? ⟨(adb.add ((at_).toNat * 5)).block, (adb.add ((at_).toNat * 5)).off + 1, none⟩ = some (.string (rd_T82 l at_).f1) ∧ w'.cell? ⟨(adb.add ((at_).toNat * 5)).block, (adb.add ((at_).toNat * 5)).off + 2, none⟩ = some (.string (rd_T82 l at_).f2) ∧ w'.cell? ⟨(adb.add ((at_).toNat * 5)).block, (adb.add ((at_).toNat * 5)).off + 3, none⟩ = some (.bool (rd_T82 l at_).f3) ∧ w'.cell? ⟨(adb.add ((at_).toNat * 5)).block, (adb.add ((at_).toNat * 5)).off + 4, none⟩ = some (.string (rd_T82 l at_).f4)) (ds := [11]) #[false, false, false, false, false, false, false, false, false, false, false, false] (by kernel_rfl) rfl rfl ⟨hxg.1, hxg.2.1, hyb0, hyb1, hyb2, hyb3, hyb4⟩ (fun hHeld => ?_); refine with_tabW impl_nodes_node.tab4 impl_nodes_node.bits4 (fun HT_ HW_ => ?_)
  generalize hWd_ : wc.drew = y_2 at hHeld ⊢
  have hb_ : Below wc.heap.size wc y_2 := (by rw [← hWd_]; exact below_drew (Below.refl _ _))
  clear hWd_
  replace BKg := A_ (blk_below BKg.out hb_)
  replace BKgr := A_ (blk_below BKgr.out hb_)
  replace HK := A_ (Kept.below HK.out hb_)
  replace HB := A_ (below_step HB.out hb_)
  clear hb_
  replace hxg := cells3 BKg.out
  replace hxgr := cells4 BKgr.out
  refine pu_ (i := 0) (N := some 58) ?_
  refine pu_ (i := 1) (N := some 59) ?_
  refine pu_ (i := 2) (N := some 60) ?_
  refine pu_ (i := 4) (N := some 62) ?_
  refine pu_ (i := 5) (N := some 63) ?_
  refine pu_ (i := 6) (N := some 64) ?_
  refine tk_ (i := 3) (N := some 61) hHeld ?_
  refine tk_ (i := 7) (N := some 65) hHeld ?_
  refine pu_ (i := 8) (N := some 66) ?_
  refine tk_ (i := 9) (N := some 67) hHeld ?_
  refine on_ (i := 10) (N := some 7) (fun K hK => ?_)
  refine box_step ?hg (N := 7) ?hd (cs := #[.int .i64 0, .string (⟨#[]⟩ : ByteArray), .string (⟨#[]⟩ : ByteArray), .bool false, .string (⟨#[]⟩ : ByteArray)]) (t := 82) ?hr ?_
  (case hd => rfl)
  (case hg => rfl)
  (case hr => first | (go_simp; done) | (go_simp; rfl))
  intro gp hg_ y_3 hbox_ hb_
  have hS0_ := pw_cell_below hb_ hHeld.1
  have hS1_ := pw_cell_below hb_ hHeld.2.1
  have hS2_ := pw_cell_below hb_ hHeld.2.2.1
  have hS3_ := pw_cell_below hb_ hHeld.2.2.2.1
  have hS4_ := pw_cell_below hb_ hHeld.2.2.2.2.1
  have hS5_ := pw_cell_below hb_ hHeld.2.2.2.2.2.1
  have hS6_ := pw_cell_below hb_ hHeld.2.2.2.2.2.2
  have GWgp : Aside0 (w.heap.size ≤ gp) := ⟨by rw [hg_]; exact HK.out.1⟩
  have GEgp : Aside0 (w0.heap.size ≤ gp) := ⟨by rw [hg_]; exact below_size HB.out⟩
  have hn_g_gp : g ≠ gp := (by have := blk_lt BKg.out; rw [hg_]; omega)
  have hn_gp_g : gp ≠ g := hn_g_gp.symm
  have hn_gr_gp : gr ≠ gp := (by have := blk_lt BKgr.out; rw [hg_]; omega)
  have hn_gp_gr : gp ≠ gr := hn_gr_gp.symm
  replace BKg := A_ (blk_below BKg.out hb_)
  replace BKgr := A_ (blk_below BKgr.out hb_)
  replace HK := A_ (Kept.below HK.out hb_)
  replace HB := A_ (below_step HB.out hb_)
  have BKgp := A_ hbox_
  clear hb_ hbox_ hg_
  replace hxg := cells3 BKg.out
  replace hxgr := cells4 BKgr.out
  have hxgp := cells5 BKgp.out
  refine hK.out _ _ ⟨hS0_, hS1_, hS2_, hS3_, hS4_, hS5_, hS6_⟩ (fun hHeld => ?_)
  clear hK K
  refine no_ (some 7) ?_
  refine last_ (i := 11) (N := none) #[true, true, true, true, true, true, true, true, true, true, true, true] rfl rfl (one_of HT_.out (by kernel_rfl)) (by decide) (fun K hK => ?_)
  refine skip_ (w1 := ?_) (by rfl) rfl ?_ ?_
  rotate_left
  · go_simp
    rfl
  refine hK.out _ _ ?_
  clear hK K
  refine done_ (done_of HT_.out (by kernel_rfl)) ?_
  (try clear hHeld hS0_ hS1_ hS2_ hS3_ hS4_ hS5_ hS6_)
  (try clear hyb0 hyb1 hyb2 hyb3 hyb4)
  generalize hWs_ : (((((y_3.setCell ⟨gp, 0, none⟩ (.int .i64 (rd_T82 l at_).f0)).setCell ⟨gp, 1, none⟩ (.string (rd_T82 l at_).f1)).setCell ⟨gp, 2, none⟩ (.string (rd_T82 l at_).f2)).setCell ⟨gp, 3, none⟩ (.bool (rd_T82 l at_).f3)).setCell ⟨gp, 4, none⟩ (.string (rd_T82 l at_).f4)) = y_4
  have hw' : Sto gp y_3 y_4 := (by rw [← hWs_]; exact Sto.step (Sto.step (Sto.step (Sto.step (Sto.step (Sto.refl _ _) _ _) _ _) _ _) _ _) _ _)
  have bk_ : y_4.heap[gp]? = some (.cells #[.int .i64 (rd_T82 l at_).f0, .string (rd_T82 l at_).f1, .string (rd_T82 l at_).f2, .bool (rd_T82 l at_).f3, .string (rd_T82 l at_).f4] 82 (0, 0)) := (by rw [← hWs_]; exact (IsBlk.set (IsBlk.set (IsBlk.set (IsBlk.set (IsBlk.set (IsBlk.of BKgp.out) 0 _) 1 _) 2 _) 3 _) 4 _ : IsBlk _ _ _ _))
  clear hWs_
  replace BKg := A_ (stored_blk hw' BKg.out hn_g_gp)
  replace BKgr := A_ (stored_blk hw' BKgr.out hn_gr_gp)
  replace HK := A_ (hw'.keeps (I := fun w_ => Kept w w_ (fun k_ => k_ = g)) HK.out (fun _ _ u_ h_ => Kept.setCell h_ (.inr GWgp.out) u_))
  replace HB := A_ (stored_below hw' HB.out GEgp.out)
  replace BKgp := Aside0.mk bk_
  clear hw' bk_
  replace hxg := cells3 BKg.out
  replace hxgr := cells4 BKgr.out
  replace hxgp := cells5 BKgp.out
  clear eeb
  go_upto_if 80 with (first | ((with_reducible refine gate_store (t := 3) (p := 74) rfl ?_); apply box_store (g := g); (case hrun => first | (go_simp; done) | (go_simp; rfl)); (case _ho => rfl); (case hN => rfl); (case hgd => rfl); (case hs => repeat (first | (with_reducible exact Sto.refl _ _) | refine Sto.step ?_ _ _)); (case hb => repeat (first | (with_reducible exact IsBlk.of BKg.out) | (with_reducible apply IsBlk.set))); intro y_5 hw' bk_; simp only [List.setIfInBounds_toArray, List.set_cons_zero, List.set_cons_succ] at bk_; replace BKgr := A_ (stored_blk hw' BKgr.out hn_gr_g); replace BKgp := A_ (stored_blk hw' BKgp.out hn_gp_g); replace HK := A_ (hw'.keeps (I := fun w_ => Kept w w_ (fun k_ => k_ = g)) HK.out (fun _ _ u_ h_ => Kept.setCell h_ (.inl rfl) u_)); replace HB := A_ (stored_below hw' HB.out GEg.out); replace BKg := Aside0.mk bk_; clear hw' bk_; replace hxg := cells3 BKg.out; replace hxgr := cells4 BKgr.out; replace hxgp := cells5 BKgp.out) | ((with_reducible refine gd_ (N := 8) rfl ?_); refine bx_ (N := 8) (cs := #[.string (⟨#[]⟩ : ByteArray), .string (⟨#[]⟩ : ByteArray), .string (⟨#[]⟩ : ByteArray), .slice none 0 0]) (t := 24) ?_; intro gn hg_ y_6 hbox_ hb_; have GWgn : Aside0 (w.heap.size ≤ gn) := ⟨by rw [hg_]; exact HK.out.1⟩; have GEgn : Aside0 (w0.heap.size ≤ gn) := ⟨by rw [hg_]; exact below_size HB.out⟩; have hn_g_gn : g ≠ gn := (by have := blk_lt BKg.out; rw [hg_]; omega); have hn_gn_g : gn ≠ g := hn_g_gn.symm; have hn_gr_gn : gr ≠ gn := (by have := blk_lt BKgr.out; rw [hg_]; omega); have hn_gn_gr : gn ≠ gr := hn_gr_gn.symm; have hn_gp_gn : gp ≠ gn := (by have := blk_lt BKgp.out; rw [hg_]; omega); have hn_gn_gp : gn ≠ gp := hn_gp_gn.symm; replace BKg := A_ (blk_below BKg.out hb_); replace BKgr := A_ (blk_below BKgr.out hb_); replace BKgp := A_ (blk_below BKgp.out hb_); replace HK := A_ (Kept.below HK.out hb_); replace HB := A_ (below_step HB.out hb_); have BKgn := A_ hbox_; clear hb_ hbox_ hg_; replace hxg := cells3 BKg.out; replace hxgr := cells4 BKgr.out; replace hxgp := cells5 BKgp.out; have hxgn := cells4 BKgn.out) | ((with_reducible refine gate_store (t := 24) (p := 8) rfl ?_); apply box_store (g := gn); (case hrun => first | (go_simp; done) | (go_simp; rfl)); (case _ho => rfl); (case hN => rfl); (case hgd => rfl); (case hs => repeat (first | (with_reducible exact Sto.refl _ _) | refine Sto.step ?_ _ _)); (case hb => repeat (first | (with_reducible exact IsBlk.of BKgn.out) | (with_reducible apply IsBlk.set))); intro y_7 hw' bk_; simp only [List.setIfInBounds_toArray, List.set_cons_zero, List.set_cons_succ] at bk_; replace BKg := A_ (stored_blk hw' BKg.out hn_g_gn); replace BKgr := A_ (stored_blk hw' BKgr.out hn_gr_gn); replace BKgp := A_ (stored_blk hw' BKgp.out hn_gp_gn); replace HK := A_ (hw'.keeps (I := fun w_ => Kept w w_ (fun k_ => k_ = g)) HK.out (fun _ _ u_ h_ => Kept.setCell h_ (.inr GWgn.out) u_)); replace HB := A_ (stored_below hw' HB.out GEgn.out); replace BKgn := Aside0.mk bk_; clear hw' bk_; replace hxg := cells3 BKg.out; replace hxgr := cells4 BKgr.out; replace hxgp := cells5 BKgp.out; replace hxgn := cells4 BKgn.out))
  (try simp only [Act.put, List.setIfInBounds_toArray, List.set_cons_zero, List.set_cons_succ])
  go_cut [] (fun wc => ∃ (ns_ : ByteArray), Aside0 ((if (rd_T82 l at_).f3 = true then (rd_T82 l at_).f2 else ns) = ns_) ∧ Aside0 (wc.heap[g]? = some (.cells #[.slice AL l.length cL, .int .i64 (wrap64 (at_ + 1)), .bool bad] 61 (0, 0))) ∧ Aside0 (wc.heap[gr]? = some (.cells #[.string (⟨#[]⟩ : ByteArray), .string (⟨#[]⟩ : ByteArray), .string (⟨#[]⟩ : ByteArray), .slice none 0 0] 24 (0, 0))) ∧ Aside0 (wc.heap[gp]? = some (.cells #[.int .i64 (rd_T82 l at_).f0, .string (rd_T82 l at_).f1, .string (rd_T82 l at_).f2, .bool (rd_T82 l at_).f3, .string (rd_T82 l at_).f4] 82 (0, 0))) ∧ Aside0 (wc.heap[gn]? = some (.cells #[.string ns_, .string (rd_T82 l at_).f1, .string (⟨#[]⟩ : ByteArray), .slice none 0 0] 24 (0, 0))) ∧ Aside0 (Below w0.heap.size w0 wc) ∧ Aside0 (Kept w wc (fun k_ => k_ = g)))
  case first =>
   as_aux_lemma =>
    obtain ⟨hd_, hhd_⟩ : ∃ d_ : Bool, (rd_T82 l at_).f3 = d_ := ⟨_, rfl⟩
    rw [hhd_] at hxgp ⊢
    cases hd_
    · go_wp2
      go_meet
      case rel => exact ⟨ns, ⟨by rw [hhd_]; rfl⟩, ⟨vb_ BKg.out⟩, ⟨vb_ BKgr.out⟩, ⟨vb_ BKgp.out⟩, ⟨vb_ BKgn.out⟩, ⟨bB_⟩, ⟨by repeat (first | (with_reducible first | exact HK.out | apply Kept.drewN | apply Kept.drew | apply Kept.alloc) | exact HK.out)⟩⟩
    · go_wp2_with (first | ((with_reducible refine gate_store (t := 9) (p := 83) rfl ?_); apply box_store (g := gn); (case hrun => first | (go_simp; done) | (go_simp; rfl)); (case _ho => rfl); (case hN => rfl); (case hgd => rfl); (case hs => repeat (first | (with_reducible exact Sto.refl _ _) | refine Sto.step ?_ _ _)); (case hb => repeat (first | (with_reducible exact IsBlk.of BKgn.out) | (with_reducible apply IsBlk.set))); intro y_8 hw' bk_; simp only [List.setIfInBounds_toArray, List.set_cons_zero, List.set_cons_succ] at bk_; replace BKg := A_ (stored_blk hw' BKg.out hn_g_gn); replace BKgr := A_ (stored_blk hw' BKgr.out hn_gr_gn); replace BKgp := A_ (stored_blk hw' BKgp.out hn_gp_gn); replace HK := A_ (hw'.keeps (I := fun w_ => Kept w w_ (fun k_ => k_ = g)) HK.out (fun _ _ u_ h_ => Kept.setCell h_ (.inr GWgn.out) u_)); replace HB := A_ (stored_below hw' HB.out GEgn.out); replace BKgn := Aside0.mk bk_; clear hw' bk_; replace hxg := cells3 BKg.out; replace hxgr := cells4 BKgr.out; replace hxgp := cells5 BKgp.out; replace hxgn := cells4 BKgn.out))
      go_meet
      case rel => exact ⟨((rd_T82 l at_).f2), ⟨by rw [hhd_]; rfl⟩, ⟨vb_ BKg.out⟩, ⟨vb_ BKgr.out⟩, ⟨vb_ BKgp.out⟩, ⟨vb_ BKgn.out⟩, ⟨bB_⟩, ⟨by repeat (first | (with_reducible first | exact HK.out | apply Kept.drewN | apply Kept.drew | apply Kept.alloc) | exact HK.out)⟩⟩
  case rest =>
   clear BKg BKgr BKgp BKgn hxg hxgr hxgp hxgn HB HK
   obtain ⟨ns_, HN, BKg, BKgr, BKgp, BKgn, HB, HK⟩ := hcut
   have hxg := cells3 BKg.out
   have hxgr := cells4 BKgr.out
   have hxgp := cells5 BKgp.out
   have hxgn := cells4 BKgn.out
   rcases HA.out with ⟨e1_, H⟩ | ⟨e1_, e3_, H⟩
   rotate_left
   · clear HA
     as_aux_lemma =>
      have e3b : ((rd_T82 l at_).f0 == 3) = true := beq_iff_eq.mpr e3_
      rw [HN.out] at H
      obtain ⟨rfl, rfl, rfl, rfl, rfl, rfl⟩ : _ ∧ _ ∧ _ ∧ _ ∧ _ ∧ _ := by simpa only [Option.some.injEq, Prod.mk.injEq] using H
      clear H
      go_wp2_with (first | ((with_reducible refine gate_store (t := 24) (p := 6) rfl ?_); apply box_store (g := gr); (case hrun => first | (go_simp; done) | (go_simp; rfl)); (case _ho => rfl); (case hN => rfl); (case hgd => rfl); (case hs => repeat (first | (with_reducible exact Sto.refl _ _) | refine Sto.step ?_ _ _)); (case hb => repeat (first | (with_reducible exact IsBlk.of BKgr.out) | (with_reducible apply IsBlk.set))); intro z_1 hw' bk_; simp only [List.setIfInBounds_toArray, List.set_cons_zero, List.set_cons_succ] at bk_; replace BKg := A_ (stored_blk hw' BKg.out hn_g_gr); replace BKgp := A_ (stored_blk hw' BKgp.out hn_gp_gr); replace BKgn := A_ (stored_blk hw' BKgn.out hn_gn_gr); replace HK := A_ (hw'.keeps (I := fun w_ => Kept w w_ (fun k_ => k_ = g)) HK.out (fun _ _ u_ h_ => Kept.setCell h_ (.inr GWgr.out) u_)); replace HB := A_ (stored_below hw' HB.out GEgr.out); replace BKgr := Aside0.mk bk_; clear hw' bk_; replace hxg := cells3 BKg.out; replace hxgr := cells4 BKgr.out; replace hxgp := cells5 BKgp.out; replace hxgn := cells4 BKgn.out))
      refine bodyPost_ret (results_cell_row rfl _ _ gr 24 #[.string ns_, .string (rd_T82 l at_).f1, .string (⟨#[]⟩ : ByteArray), .slice none 0 0] (0, 0) _ rfl (by first | exact BKgr.out | exact blk_drew BKgr.out) Tryz.underlying24 rfl (by kernel_rfl)) rfl ?_
      exact ⟨_, by first | rfl | (simp; done), Kd.S_nil _ _ _ _ _, BKg.out, HB.out, HK.out⟩
   clear HA
   have e1b : ((rd_T82 l at_).f0 == 3) = false := by rw [e1_]; rfl
   rw [HN.out] at H
   have H' := A_ H
   clear H
   go_wp2
   go_loopg [9] k (fun kq v9 w' => ∃ (at1 : Int) (bad1 : Bool) (full1 : Bool) (tx1 : ByteArray) (ks1 : List (S24)) (u1 : Value), v9 = .bool full1 ∧ Aside0 (impl_nodes_node.l0 kq l deep at1 bad1 full1 ns_ ((rd_T82 l at_).f1) tx1 ks1 = some (r1, r2, r3, r4, r5, r6)) ∧ Aside0 (kq ≤ k) ∧ Aside0 (Kd.S kA 24 w' w.heap.size (fun k_ => k_ ≠ g ∧ k_ ≠ gr ∧ k_ ≠ gp ∧ k_ ≠ gn) (u1) ks1) ∧ Aside0 (w'.heap[g]? = some (.cells #[.slice AL l.length cL, .int .i64 at1, .bool bad1] 61 (0, 0))) ∧ Aside0 (w'.heap[gr]? = some (.cells #[.string (⟨#[]⟩ : ByteArray), .string (⟨#[]⟩ : ByteArray), .string (⟨#[]⟩ : ByteArray), .slice none 0 0] 24 (0, 0))) ∧ Aside0 (w'.heap[gp]? = some (.cells #[.int .i64 (rd_T82 l at_).f0, .string (rd_T82 l at_).f1, .string (rd_T82 l at_).f2, .bool (rd_T82 l at_).f3, .string (rd_T82 l at_).f4] 82 (0, 0))) ∧ Aside0 (w'.heap[gn]? = some (.cells #[.string ns_, .string (rd_T82 l at_).f1, .string tx1, u1] 24 (0, 0))) ∧ Aside0 (Below w0.heap.size w0 w') ∧ Aside0 (Kept w w' (fun k_ => k_ = g)))
   case atStart => exact ⟨wrap64 (at_ + 1), bad, false, (⟨#[]⟩ : ByteArray), [], .slice none 0 0, rs_, H', ⟨Nat.le_refl _⟩, ⟨Kd.S_nil _ _ _ _ _⟩, BKg, BKgr, BKgp, BKgn, HB, HK⟩
   case round =>
    clear H' BKg BKgr BKgp BKgn hxg hxgr hxgp hxgn HB HK
    obtain ⟨at1, bad1, full1, tx1, ks1, u1, rfl, HA, HK1, HO, BKg, BKgr, BKgp, BKgn, HB, HK⟩ := hrel
    cases gk with
    | zero => exact absurd HA.out (by simp [impl_nodes_node.l0])
    | succ k1 =>
     have H := HA.out
     clear HA c1 c2 c1b0 c2b0
     simp only [impl_nodes_node.l0] at H
     obtain ⟨Au, cu, rfl⟩ := Kd.S_slice HO.out
     have hxg := cells3 BKg.out
     have hxgr := cells4 BKgr.out
     have hxgp := cells5 BKgp.out
     have hxgn := cells4 BKgn.out
     go_upto_region 12 with (fail)
     (try simp only [Act.put, List.setIfInBounds_toArray, List.set_cons_zero, List.set_cons_succ])
     go_cut [118] (fun v10 wc => ∃ (b_ : Bool), v10 = .bool b_ ∧ Aside0 ((b_ = true → bad1 = false ∧ at1 < (l.length : Int) ∧ 0 ≤ at1 ∧ ((if (rd_T82 l at1).f0 = 4 then (if tx1.size + ((rd_T82 l at1).f4).size ≤ 9223372036854775807 then (if full1 = true then impl_nodes_node.l0 k1 l deep (wrap64 (at1 + 1)) bad1 true ns_ ((rd_T82 l at_).f1) (tx1 ++ (rd_T82 l at1).f4) ks1 else (impl_isBlank.f ((rd_T82 l at1).f4)).bind fun t => impl_nodes_node.l0 k1 l deep (wrap64 (at1 + 1)) bad1 (!t) ns_ ((rd_T82 l at_).f1) (tx1 ++ (rd_T82 l at1).f4) ks1) else none) else (impl_nodes_node.f k1 l at1 bad1 ns_ (wrap64 (deep + 1))).bind fun r => (if ks1.length < 1954687338268 then impl_nodes_node.l0 k1 l deep r.2.2.2.2.1 r.2.2.2.2.2 full1 ns_ ((rd_T82 l at_).f1) tx1 (ks1 ++ [(⟨r.1, r.2.1, r.2.2.1, r.2.2.2.1⟩ : S24)]) else none)) : Option (ByteArray × ByteArray × ByteArray × List (S24) × Int × Bool)) = some (r1, r2, r3, r4, r5, r6)) ∧ (b_ = false → inodeEnd l at1 (if (ks1.length : Int) > 0 then (bad1 || full1) else bad1) ns_ ((rd_T82 l at_).f1) (if (ks1.length : Int) > 0 then (⟨#[]⟩ : ByteArray) else tx1) ks1 = some (r1, r2, r3, r4, r5, r6))) ∧ Aside0 (Kd.S kA 24 wc w.heap.size (fun k_ => k_ ≠ g ∧ k_ ≠ gr ∧ k_ ≠ gp ∧ k_ ≠ gn) (.slice Au ks1.length cu) ks1) ∧ Aside0 (wc.heap[g]? = some (.cells #[.slice AL l.length cL, .int .i64 at1, .bool bad1] 61 (0, 0))) ∧ Aside0 (wc.heap[gr]? = some (.cells #[.string (⟨#[]⟩ : ByteArray), .string (⟨#[]⟩ : ByteArray), .string (⟨#[]⟩ : ByteArray), .slice none 0 0] 24 (0, 0))) ∧ Aside0 (wc.heap[gp]? = some (.cells #[.int .i64 (rd_T82 l at_).f0, .string (rd_T82 l at_).f1, .string (rd_T82 l at_).f2, .bool (rd_T82 l at_).f3, .string (rd_T82 l at_).f4] 82 (0, 0))) ∧ Aside0 (wc.heap[gn]? = some (.cells #[.string ns_, .string (rd_T82 l at_).f1, .string tx1, .slice Au ks1.length cu] 24 (0, 0))) ∧ Aside0 (Below w0.heap.size w0 wc) ∧ Aside0 (Kept w wc (fun k_ => k_ = g)))
     case first => as_aux_lemma =>
      cases bad1
      rotate_left
      · rw [if_neg (fun h_ => by cases h_.1)] at H
        go_wp2
        repeat (go_quiet (fail); try go_wp2)
        go_meet
        case rel => exact ⟨false, rs_, ⟨⟨fun h_ => (by cases h_), fun _ => H⟩⟩, ⟨vS_ HO.out⟩, ⟨vb_ BKg.out⟩, ⟨vb_ BKgr.out⟩, ⟨vb_ BKgp.out⟩, ⟨vb_ BKgn.out⟩, ⟨bB_⟩, ⟨by repeat (first | (with_reducible first | exact HK.out | apply Kept.drewN | apply Kept.drew | apply Kept.alloc) | exact HK.out)⟩⟩
      by_cases c1 : at1 < (l.length : Int)
      rotate_left
      · rw [if_neg (fun h_ => c1 h_.2)] at H
        have c1b0 : decide (at1 < (l.length : Int)) = false := decide_eq_false c1
        clear c1
        go_wp2
        repeat (go_quiet (fail); try go_wp2)
        go_meet
        case rel => exact ⟨false, rs_, ⟨⟨fun h_ => (by cases h_), fun _ => H⟩⟩, ⟨vS_ HO.out⟩, ⟨vb_ BKg.out⟩, ⟨vb_ BKgr.out⟩, ⟨vb_ BKgp.out⟩, ⟨vb_ BKgn.out⟩, ⟨bB_⟩, ⟨by repeat (first | (with_reducible first | exact HK.out | apply Kept.drewN | apply Kept.drew | apply Kept.alloc) | exact HK.out)⟩⟩
      rw [if_pos ⟨rfl, c1⟩] at H
      have c1b0 : decide (at1 < (l.length : Int)) = true := decide_eq_true c1
      have HC1 := A_ c1
      by_cases c2 : 0 ≤ at1
      rotate_left
      · rw [if_neg c2] at H
        exact absurd H (by simp)
      rw [if_pos c2] at H
      have c2b0 : decide (0 ≤ at1) = true := decide_eq_true c2
      have HC2 := A_ c2
      obtain ⟨add, eed, hyd0, hyd1, hyd2, hyd3, hyd4⟩ := at_T82 HLC.out at1 c2 c1
      replace hyd0 := pw_cell_below HB.out hyd0
      replace hyd1 := pw_cell_below HB.out hyd1
      replace hyd2 := pw_cell_below HB.out hyd2
      replace hyd3 := pw_cell_below HB.out hyd3
      replace hyd4 := pw_cell_below HB.out hyd4
      replace c1 := eq_true c1
      replace c2 := eq_true c2
      rw [eed] at hxg
      by_cases c4 : (rd_T82 l at1).f0 = 2
      · rw [if_pos c4] at H
        have c4b1 : ((rd_T82 l at1).f0 != 2) = false := bne_eq_false_iff_eq.mpr c4
        clear c4
        go_wp2
        repeat (go_quiet (fail); try go_wp2)
        go_meet
        case rel => exact ⟨false, rs_, ⟨⟨fun h_ => (by cases h_), fun _ => H⟩⟩, ⟨vS_ HO.out⟩, ⟨vb_ BKg.out⟩, ⟨vb_ BKgr.out⟩, ⟨vb_ BKgp.out⟩, ⟨vb_ BKgn.out⟩, ⟨bB_⟩, ⟨by repeat (first | (with_reducible first | exact HK.out | apply Kept.drewN | apply Kept.drew | apply Kept.alloc) | exact HK.out)⟩⟩
      rw [if_neg c4] at H
      have c4b1 : ((rd_T82 l at1).f0 != 2) = true := bne_iff_ne.mpr c4
      clear c4
      go_wp2
      repeat (go_quiet (fail); try go_wp2)
      go_meet
      case rel => exact ⟨true, rs_, ⟨⟨fun _ => ⟨(by first | rfl | trivial), HC1.out, HC2.out, H⟩, fun h_ => (by cases h_)⟩⟩, ⟨vS_ HO.out⟩, ⟨vb_ BKg.out⟩, ⟨vb_ BKgr.out⟩, ⟨vb_ BKgp.out⟩, ⟨vb_ BKgn.out⟩, ⟨bB_⟩, ⟨by repeat (first | (with_reducible first | exact HK.out | apply Kept.drewN | apply Kept.drew | apply Kept.alloc) | exact HK.out)⟩⟩
     case rest =>
      clear HO BKg BKgr BKgp BKgn hxg hxgr hxgp hxgn HB HK H
      obtain ⟨b_, rfl, HA, HO, BKg, BKgr, BKgp, BKgn, HB, HK⟩ := hcut
      have hxg := cells3 BKg.out
      have hxgr := cells4 BKgr.out
      have hxgp := cells5 BKgp.out
      have hxgn := cells4 BKgn.out
      cases b_
      · skip
        have H := HA.out.2 rfl
        clear HA
        go_upto_if 167 with (fail)
        (try simp only [Act.put, List.setIfInBounds_toArray, List.set_cons_zero, List.set_cons_succ])
        go_cut [] (fun wc => ∃ (bad2 : Bool) (tx2 : ByteArray), Aside0 (inodeEnd l at1 bad2 ns_ ((rd_T82 l at_).f1) tx2 ks1 = some (r1, r2, r3, r4, r5, r6)) ∧ Aside0 (Kd.S kA 24 wc w.heap.size (fun k_ => k_ ≠ g ∧ k_ ≠ gr ∧ k_ ≠ gp ∧ k_ ≠ gn) (.slice Au ks1.length cu) ks1) ∧ Aside0 (wc.heap[g]? = some (.cells #[.slice AL l.length cL, .int .i64 at1, .bool bad2] 61 (0, 0))) ∧ Aside0 (wc.heap[gr]? = some (.cells #[.string (⟨#[]⟩ : ByteArray), .string (⟨#[]⟩ : ByteArray), .string (⟨#[]⟩ : ByteArray), .slice none 0 0] 24 (0, 0))) ∧ Aside0 (wc.heap[gp]? = some (.cells #[.int .i64 (rd_T82 l at_).f0, .string (rd_T82 l at_).f1, .string (rd_T82 l at_).f2, .bool (rd_T82 l at_).f3, .string (rd_T82 l at_).f4] 82 (0, 0))) ∧ Aside0 (wc.heap[gn]? = some (.cells #[.string ns_, .string (rd_T82 l at_).f1, .string tx2, .slice Au ks1.length cu] 24 (0, 0))) ∧ Aside0 (Below w0.heap.size w0 wc) ∧ Aside0 (Kept w wc (fun k_ => k_ = g)))
        case first =>
         as_aux_lemma =>
          by_cases c6 : (ks1.length : Int) > 0
          rotate_left
          · rw [if_neg c6, if_neg c6] at H
            have c6b0 : decide (0 < (ks1.length : Int)) = false := decide_eq_false c6
            go_wp2
            go_meet
            case rel => exact ⟨bad1, tx1, ⟨H⟩, ⟨vS_ HO.out⟩, ⟨vb_ BKg.out⟩, ⟨vb_ BKgr.out⟩, ⟨vb_ BKgp.out⟩, ⟨vb_ BKgn.out⟩, ⟨bB_⟩, ⟨by repeat (first | (with_reducible first | exact HK.out | apply Kept.drewN | apply Kept.drew | apply Kept.alloc) | exact HK.out)⟩⟩
          rw [if_pos c6, if_pos c6] at H
          have c6b0 : decide (0 < (ks1.length : Int)) = true := decide_eq_true c6
          cases bad1
          · go_wp2_with (first | ((with_reducible refine gate_store (t := 4) (p := 177) rfl ?_); apply box_store (g := g); (case hrun => first | (go_simp; done) | (go_simp; rfl)); (case _ho => rfl); (case hN => rfl); (case hgd => rfl); (case hs => repeat (first | (with_reducible exact Sto.refl _ _) | refine Sto.step ?_ _ _)); (case hb => repeat (first | (with_reducible exact IsBlk.of BKg.out) | (with_reducible apply IsBlk.set))); intro v_1 hw' bk_; simp only [List.setIfInBounds_toArray, List.set_cons_zero, List.set_cons_succ] at bk_; replace BKgr := A_ (stored_blk hw' BKgr.out hn_gr_g); replace BKgp := A_ (stored_blk hw' BKgp.out hn_gp_g); replace BKgn := A_ (stored_blk hw' BKgn.out hn_gn_g); replace HO := A_ (stored_S hw' HO.out (fun k_ hk => hk.1)); replace HK := A_ (hw'.keeps (I := fun w_ => Kept w w_ (fun k_ => k_ = g)) HK.out (fun _ _ u_ h_ => Kept.setCell h_ (.inl rfl) u_)); replace HB := A_ (stored_below hw' HB.out GEg.out); replace BKg := Aside0.mk bk_; clear hw' bk_; replace hxg := cells3 BKg.out; replace hxgr := cells4 BKgr.out; replace hxgp := cells5 BKgp.out; replace hxgn := cells4 BKgn.out) | ((with_reducible refine gate_store (t := 9) (p := 178) rfl ?_); apply box_store (g := gn); (case hrun => first | (go_simp; done) | (go_simp; rfl)); (case _ho => rfl); (case hN => rfl); (case hgd => rfl); (case hs => repeat (first | (with_reducible exact Sto.refl _ _) | refine Sto.step ?_ _ _)); (case hb => repeat (first | (with_reducible exact IsBlk.of BKgn.out) | (with_reducible apply IsBlk.set))); intro v_2 hw' bk_; simp only [List.setIfInBounds_toArray, List.set_cons_zero, List.set_cons_succ] at bk_; replace BKg := A_ (stored_blk hw' BKg.out hn_g_gn); replace BKgr := A_ (stored_blk hw' BKgr.out hn_gr_gn); replace BKgp := A_ (stored_blk hw' BKgp.out hn_gp_gn); replace HO := A_ (stored_S hw' HO.out (fun k_ hk => hk.2.2.2)); replace HK := A_ (hw'.keeps (I := fun w_ => Kept w w_ (fun k_ => k_ = g)) HK.out (fun _ _ u_ h_ => Kept.setCell h_ (.inr GWgn.out) u_)); replace HB := A_ (stored_below hw' HB.out GEgn.out); replace BKgn := Aside0.mk bk_; clear hw' bk_; replace hxg := cells3 BKg.out; replace hxgr := cells4 BKgr.out; replace hxgp := cells5 BKgp.out; replace hxgn := cells4 BKgn.out))
            go_meet
            case rel => exact ⟨full1, (⟨#[]⟩ : ByteArray), ⟨by simpa only [Bool.false_or] using H⟩, ⟨vS_ HO.out⟩, ⟨vb_ BKg.out⟩, ⟨vb_ BKgr.out⟩, ⟨vb_ BKgp.out⟩, ⟨vb_ BKgn.out⟩, ⟨bB_⟩, ⟨by repeat (first | (with_reducible first | exact HK.out | apply Kept.drewN | apply Kept.drew | apply Kept.alloc) | exact HK.out)⟩⟩
          · go_wp2_with (first | ((with_reducible refine gate_store (t := 4) (p := 177) rfl ?_); apply box_store (g := g); (case hrun => first | (go_simp; done) | (go_simp; rfl)); (case _ho => rfl); (case hN => rfl); (case hgd => rfl); (case hs => repeat (first | (with_reducible exact Sto.refl _ _) | refine Sto.step ?_ _ _)); (case hb => repeat (first | (with_reducible exact IsBlk.of BKg.out) | (with_reducible apply IsBlk.set))); intro v_1 hw' bk_; simp only [List.setIfInBounds_toArray, List.set_cons_zero, List.set_cons_succ] at bk_; replace BKgr := A_ (stored_blk hw' BKgr.out hn_gr_g); replace BKgp := A_ (stored_blk hw' BKgp.out hn_gp_g); replace BKgn := A_ (stored_blk hw' BKgn.out hn_gn_g); replace HO := A_ (stored_S hw' HO.out (fun k_ hk => hk.1)); replace HK := A_ (hw'.keeps (I := fun w_ => Kept w w_ (fun k_ => k_ = g)) HK.out (fun _ _ u_ h_ => Kept.setCell h_ (.inl rfl) u_)); replace HB := A_ (stored_below hw' HB.out GEg.out); replace BKg := Aside0.mk bk_; clear hw' bk_; replace hxg := cells3 BKg.out; replace hxgr := cells4 BKgr.out; replace hxgp := cells5 BKgp.out; replace hxgn := cells4 BKgn.out) | ((with_reducible refine gate_store (t := 9) (p := 178) rfl ?_); apply box_store (g := gn); (case hrun => first | (go_simp; done) | (go_simp; rfl)); (case _ho => rfl); (case hN => rfl); (case hgd => rfl); (case hs => repeat (first | (with_reducible exact Sto.refl _ _) | refine Sto.step ?_ _ _)); (case hb => repeat (first | (with_reducible exact IsBlk.of BKgn.out) | (with_reducible apply IsBlk.set))); intro v_2 hw' bk_; simp only [List.setIfInBounds_toArray, List.set_cons_zero, List.set_cons_succ] at bk_; replace BKg := A_ (stored_blk hw' BKg.out hn_g_gn); replace BKgr := A_ (stored_blk hw' BKgr.out hn_gr_gn); replace BKgp := A_ (stored_blk hw' BKgp.out hn_gp_gn); replace HO := A_ (stored_S hw' HO.out (fun k_ hk => hk.2.2.2)); replace HK := A_ (hw'.keeps (I := fun w_ => Kept w w_ (fun k_ => k_ = g)) HK.out (fun _ _ u_ h_ => Kept.setCell h_ (.inr GWgn.out) u_)); replace HB := A_ (stored_below hw' HB.out GEgn.out); replace BKgn := Aside0.mk bk_; clear hw' bk_; replace hxg := cells3 BKg.out; replace hxgr := cells4 BKgr.out; replace hxgp := cells5 BKgp.out; replace hxgn := cells4 BKgn.out))
            go_meet
            case rel => exact ⟨true, (⟨#[]⟩ : ByteArray), ⟨by simpa only [Bool.true_or] using H⟩, ⟨vS_ HO.out⟩, ⟨vb_ BKg.out⟩, ⟨vb_ BKgr.out⟩, ⟨vb_ BKgp.out⟩, ⟨vb_ BKgn.out⟩, ⟨bB_⟩, ⟨by repeat (first | (with_reducible first | exact HK.out | apply Kept.drewN | apply Kept.drew | apply Kept.alloc) | exact HK.out)⟩⟩
        case rest =>
         clear HO BKg BKgr BKgp BKgn hxg hxgr hxgp hxgn HB HK H
         obtain ⟨bad2, tx2, HA, HO, BKg, BKgr, BKgp, BKgn, HB, HK⟩ := hcut
         have hxg := cells3 BKg.out
         have hxgr := cells4 BKgr.out
         have hxgp := cells5 BKgp.out
         have hxgn := cells4 BKgn.out
         have H := HA.out
         clear HA
         unfold inodeEnd at H
         go_upto_region 23 with (fail)
         (try simp only [Act.put, List.setIfInBounds_toArray, List.set_cons_zero, List.set_cons_succ])
         go_cut [204] (fun v11 wc => ∃ (b_ : Bool), v11 = .bool b_ ∧ Aside0 ((some (ns_, (rd_T82 l at_).f1, tx2, ks1, wrap64 (at1 + 1), (if b_ = true then true else bad2)) : Option (ByteArray × ByteArray × ByteArray × List (S24) × Int × Bool)) = some (r1, r2, r3, r4, r5, r6)) ∧ Aside0 (Kd.S kA 24 wc w.heap.size (fun k_ => k_ ≠ g ∧ k_ ≠ gr ∧ k_ ≠ gp ∧ k_ ≠ gn) (.slice Au ks1.length cu) ks1) ∧ Aside0 (wc.heap[g]? = some (.cells #[.slice AL l.length cL, .int .i64 at1, .bool bad2] 61 (0, 0))) ∧ Aside0 (wc.heap[gr]? = some (.cells #[.string (⟨#[]⟩ : ByteArray), .string (⟨#[]⟩ : ByteArray), .string (⟨#[]⟩ : ByteArray), .slice none 0 0] 24 (0, 0))) ∧ Aside0 (wc.heap[gp]? = some (.cells #[.int .i64 (rd_T82 l at_).f0, .string (rd_T82 l at_).f1, .string (rd_T82 l at_).f2, .bool (rd_T82 l at_).f3, .string (rd_T82 l at_).f4] 82 (0, 0))) ∧ Aside0 (wc.heap[gn]? = some (.cells #[.string ns_, .string (rd_T82 l at_).f1, .string tx2, .slice Au ks1.length cu] 24 (0, 0))) ∧ Aside0 (Below w0.heap.size w0 wc) ∧ Aside0 (Kept w wc (fun k_ => k_ = g)))
         case first => as_aux_lemma =>
          by_cases c1 : at1 < (l.length : Int)
          rotate_left
          · rw [if_neg c1] at H
            have c1b1 : decide ((l.length : Int) ≤ at1) = true := decide_eq_true (by omega)
            clear c1
            go_wp2
            repeat (go_quiet (fail); try go_wp2)
            go_meet
            case rel => exact ⟨true, rs_, ⟨H⟩, ⟨vS_ HO.out⟩, ⟨vb_ BKg.out⟩, ⟨vb_ BKgr.out⟩, ⟨vb_ BKgp.out⟩, ⟨vb_ BKgn.out⟩, ⟨bB_⟩, ⟨by repeat (first | (with_reducible first | exact HK.out | apply Kept.drewN | apply Kept.drew | apply Kept.alloc) | exact HK.out)⟩⟩
          rw [if_pos c1] at H
          have c1b1 : decide ((l.length : Int) ≤ at1) = false := decide_eq_false (by omega)
          by_cases c2 : 0 ≤ at1
          rotate_left
          · rw [if_neg c2] at H
            exact absurd H (by simp)
          rw [if_pos c2] at H
          have c2b0 : decide (0 ≤ at1) = true := decide_eq_true c2
          obtain ⟨adf, eef, hyf0, hyf1, hyf2, hyf3, hyf4⟩ := at_T82 HLC.out at1 c2 c1
          replace hyf0 := pw_cell_below HB.out hyf0
          replace hyf1 := pw_cell_below HB.out hyf1
          replace hyf2 := pw_cell_below HB.out hyf2
          replace hyf3 := pw_cell_below HB.out hyf3
          replace hyf4 := pw_cell_below HB.out hyf4
          replace c1 := eq_true c1
          replace c2 := eq_true c2
          rw [eef] at hxg
          by_cases c7 : ((rd_T82 l at1).f1).toList = ((rd_T82 l at_).f1).toList
          rotate_left
          · rw [if_neg c7] at H
            have c7b1 : (((rd_T82 l at1).f1).toList != ((rd_T82 l at_).f1).toList) = true := bne_iff_ne.mpr c7
            have c7b0 : (((rd_T82 l at1).f1).toList == ((rd_T82 l at_).f1).toList) = false := beq_eq_false_iff_ne.mpr c7
            go_wp2
            repeat (go_quiet (fail); try go_wp2)
            go_meet
            case rel => exact ⟨true, rs_, ⟨H⟩, ⟨vS_ HO.out⟩, ⟨vb_ BKg.out⟩, ⟨vb_ BKgr.out⟩, ⟨vb_ BKgp.out⟩, ⟨vb_ BKgn.out⟩, ⟨bB_⟩, ⟨by repeat (first | (with_reducible first | exact HK.out | apply Kept.drewN | apply Kept.drew | apply Kept.alloc) | exact HK.out)⟩⟩
          rw [if_pos c7] at H
          have c7b1 : (((rd_T82 l at1).f1).toList != ((rd_T82 l at_).f1).toList) = false := bne_eq_false_iff_eq.mpr c7
          have c7b0 : (((rd_T82 l at1).f1).toList == ((rd_T82 l at_).f1).toList) = true := beq_iff_eq.mpr c7
          go_wp2
          repeat (go_quiet (fail); try go_wp2)
          go_meet
          case rel => exact ⟨false, rs_, ⟨H⟩, ⟨vS_ HO.out⟩, ⟨vb_ BKg.out⟩, ⟨vb_ BKgr.out⟩, ⟨vb_ BKgp.out⟩, ⟨vb_ BKgn.out⟩, ⟨bB_⟩, ⟨by repeat (first | (with_reducible first | exact HK.out | apply Kept.drewN | apply Kept.drew | apply Kept.alloc) | exact HK.out)⟩⟩
         case rest =>
          clear HO BKg BKgr BKgp BKgn hxg hxgr hxgp hxgn HB HK H
          obtain ⟨b_, rfl, HA, HO, BKg, BKgr, BKgp, BKgn, HB, HK⟩ := hcut
          have hxg := cells3 BKg.out
          have hxgr := cells4 BKgr.out
          have hxgp := cells5 BKgp.out
          have hxgn := cells4 BKgn.out
          have H := HA.out
          clear HA
          cases b_
          · skip
            as_aux_lemma =>
             simp only [Bool.false_eq_true, if_false] at H
             obtain ⟨rfl, rfl, rfl, rfl, rfl, rfl⟩ : _ ∧ _ ∧ _ ∧ _ ∧ _ ∧ _ := by simpa only [Option.some.injEq, Prod.mk.injEq] using H
             clear H
             go_wp2_with (first | ((with_reducible refine gate_store (t := 3) (p := 214) rfl ?_); apply box_store (g := g); (case hrun => first | (go_simp; done) | (go_simp; rfl)); (case _ho => rfl); (case hN => rfl); (case hgd => rfl); (case hs => repeat (first | (with_reducible exact Sto.refl _ _) | refine Sto.step ?_ _ _)); (case hb => repeat (first | (with_reducible exact IsBlk.of BKg.out) | (with_reducible apply IsBlk.set))); intro v_1 hw' bk_; simp only [List.setIfInBounds_toArray, List.set_cons_zero, List.set_cons_succ] at bk_; replace BKgr := A_ (stored_blk hw' BKgr.out hn_gr_g); replace BKgp := A_ (stored_blk hw' BKgp.out hn_gp_g); replace BKgn := A_ (stored_blk hw' BKgn.out hn_gn_g); replace HO := A_ (stored_S hw' HO.out (fun k_ hk => hk.1)); replace HK := A_ (hw'.keeps (I := fun w_ => Kept w w_ (fun k_ => k_ = g)) HK.out (fun _ _ u_ h_ => Kept.setCell h_ (.inl rfl) u_)); replace HB := A_ (stored_below hw' HB.out GEg.out); replace BKg := Aside0.mk bk_; clear hw' bk_; replace hxg := cells3 BKg.out; replace hxgr := cells4 BKgr.out; replace hxgp := cells5 BKgp.out; replace hxgn := cells4 BKgn.out) | ((with_reducible refine gate_store (t := 24) (p := 6) rfl ?_); apply box_store (g := gr); (case hrun => first | (go_simp; done) | (go_simp; rfl)); (case _ho => rfl); (case hN => rfl); (case hgd => rfl); (case hs => repeat (first | (with_reducible exact Sto.refl _ _) | refine Sto.step ?_ _ _)); (case hb => repeat (first | (with_reducible exact IsBlk.of BKgr.out) | (with_reducible apply IsBlk.set))); intro v_2 hw' bk_; simp only [List.setIfInBounds_toArray, List.set_cons_zero, List.set_cons_succ] at bk_; replace BKg := A_ (stored_blk hw' BKg.out hn_g_gr); replace BKgp := A_ (stored_blk hw' BKgp.out hn_gp_gr); replace BKgn := A_ (stored_blk hw' BKgn.out hn_gn_gr); replace HO := A_ (stored_S hw' HO.out (fun k_ hk => hk.2.1)); replace HK := A_ (hw'.keeps (I := fun w_ => Kept w w_ (fun k_ => k_ = g)) HK.out (fun _ _ u_ h_ => Kept.setCell h_ (.inr GWgr.out) u_)); replace HB := A_ (stored_below hw' HB.out GEgr.out); replace BKgr := Aside0.mk bk_; clear hw' bk_; replace hxg := cells3 BKg.out; replace hxgr := cells4 BKgr.out; replace hxgp := cells5 BKgp.out; replace hxgn := cells4 BKgn.out))
             refine bodyPost_ret (results_cell_row rfl _ _ gr 24 #[.string ns_, .string (rd_T82 l at_).f1, .string tx2, .slice Au ks1.length cu] (0, 0) _ rfl (by first | exact BKgr.out | exact blk_drew BKgr.out) Tryz.underlying24 rfl (by kernel_rfl)) rfl ?_
             exact ⟨_, by first | rfl | (simp; done), Kd.S_mono HO.out (fun _ _ => trivial), BKg.out, HB.out, HK.out⟩
          · skip
            as_aux_lemma =>
             rw [if_pos rfl] at H
             obtain ⟨rfl, rfl, rfl, rfl, rfl, rfl⟩ : _ ∧ _ ∧ _ ∧ _ ∧ _ ∧ _ := by simpa only [Option.some.injEq, Prod.mk.injEq] using H
             clear H
             go_wp2_with (first | ((with_reducible refine gate_store (t := 4) (p := 207) rfl ?_); apply box_store (g := g); (case hrun => first | (go_simp; done) | (go_simp; rfl)); (case _ho => rfl); (case hN => rfl); (case hgd => rfl); (case hs => repeat (first | (with_reducible exact Sto.refl _ _) | refine Sto.step ?_ _ _)); (case hb => repeat (first | (with_reducible exact IsBlk.of BKg.out) | (with_reducible apply IsBlk.set))); intro v_1 hw' bk_; simp only [List.setIfInBounds_toArray, List.set_cons_zero, List.set_cons_succ] at bk_; replace BKgr := A_ (stored_blk hw' BKgr.out hn_gr_g); replace BKgp := A_ (stored_blk hw' BKgp.out hn_gp_g); replace BKgn := A_ (stored_blk hw' BKgn.out hn_gn_g); replace HO := A_ (stored_S hw' HO.out (fun k_ hk => hk.1)); replace HK := A_ (hw'.keeps (I := fun w_ => Kept w w_ (fun k_ => k_ = g)) HK.out (fun _ _ u_ h_ => Kept.setCell h_ (.inl rfl) u_)); replace HB := A_ (stored_below hw' HB.out GEg.out); replace BKg := Aside0.mk bk_; clear hw' bk_; replace hxg := cells3 BKg.out; replace hxgr := cells4 BKgr.out; replace hxgp := cells5 BKgp.out; replace hxgn := cells4 BKgn.out) | ((with_reducible refine gate_store (t := 3) (p := 214) rfl ?_); apply box_store (g := g); (case hrun => first | (go_simp; done) | (go_simp; rfl)); (case _ho => rfl); (case hN => rfl); (case hgd => rfl); (case hs => repeat (first | (with_reducible exact Sto.refl _ _) | refine Sto.step ?_ _ _)); (case hb => repeat (first | (with_reducible exact IsBlk.of BKg.out) | (with_reducible apply IsBlk.set))); intro v_2 hw' bk_; simp only [List.setIfInBounds_toArray, List.set_cons_zero, List.set_cons_succ] at bk_; replace BKgr := A_ (stored_blk hw' BKgr.out hn_gr_g); replace BKgp := A_ (stored_blk hw' BKgp.out hn_gp_g); replace BKgn := A_ (stored_blk hw' BKgn.out hn_gn_g); replace HO := A_ (stored_S hw' HO.out (fun k_ hk => hk.1)); replace HK := A_ (hw'.keeps (I := fun w_ => Kept w w_ (fun k_ => k_ = g)) HK.out (fun _ _ u_ h_ => Kept.setCell h_ (.inl rfl) u_)); replace HB := A_ (stored_below hw' HB.out GEg.out); replace BKg := Aside0.mk bk_; clear hw' bk_; replace hxg := cells3 BKg.out; replace hxgr := cells4 BKgr.out; replace hxgp := cells5 BKgp.out; replace hxgn := cells4 BKgn.out) | ((with_reducible refine gate_store (t := 24) (p := 6) rfl ?_); apply box_store (g := gr); (case hrun => first | (go_simp; done) | (go_simp; rfl)); (case _ho => rfl); (case hN => rfl); (case hgd => rfl); (case hs => repeat (first | (with_reducible exact Sto.refl _ _) | refine Sto.step ?_ _ _)); (case hb => repeat (first | (with_reducible exact IsBlk.of BKgr.out) | (with_reducible apply IsBlk.set))); intro v_3 hw' bk_; simp only [List.setIfInBounds_toArray, List.set_cons_zero, List.set_cons_succ] at bk_; replace BKg := A_ (stored_blk hw' BKg.out hn_g_gr); replace BKgp := A_ (stored_blk hw' BKgp.out hn_gp_gr); replace BKgn := A_ (stored_blk hw' BKgn.out hn_gn_gr); replace HO := A_ (stored_S hw' HO.out (fun k_ hk => hk.2.1)); replace HK := A_ (hw'.keeps (I := fun w_ => Kept w w_ (fun k_ => k_ = g)) HK.out (fun _ _ u_ h_ => Kept.setCell h_ (.inr GWgr.out) u_)); replace HB := A_ (stored_below hw' HB.out GEgr.out); replace BKgr := Aside0.mk bk_; clear hw' bk_; replace hxg := cells3 BKg.out; replace hxgr := cells4 BKgr.out; replace hxgp := cells5 BKgp.out; replace hxgn := cells4 BKgn.out))
             refine bodyPost_ret (results_cell_row rfl _ _ gr 24 #[.string ns_, .string (rd_T82 l at_).f1, .string tx2, .slice Au ks1.length cu] (0, 0) _ rfl (by first | exact BKgr.out | exact blk_drew BKgr.out) Tryz.underlying24 rfl (by kernel_rfl)) rfl ?_
             exact ⟨_, by first | rfl | (simp; done), Kd.S_mono HO.out (fun _ _ => trivial), BKg.out, HB.out, HK.out⟩
      · obtain ⟨hbad_, c1, c2, H⟩ := HA.out.1 rfl
        clear HA
        subst hbad_
        have c1b0 : decide (at1 < (l.length : Int)) = true := decide_eq_true c1
        have c2b0 : decide (0 ≤ at1) = true := decide_eq_true c2
        obtain ⟨ade, eee, hye0, hye1, hye2, hye3, hye4⟩ := at_T82 HLC.out at1 c2 c1
        replace hye0 := pw_cell_below HB.out hye0
        replace hye1 := pw_cell_below HB.out hye1
        replace hye2 := pw_cell_below HB.out hye2
        replace hye3 := pw_cell_below HB.out hye3
        replace hye4 := pw_cell_below HB.out hye4
        replace c1 := eq_true c1
        replace c2 := eq_true c2
        rw [eee] at hxg
        try go_wp2
        refine start_ (n := 12) (S := fun w' => w'.cell? ⟨g, 0, none⟩ = some (.slice (some ade) l.length cL) ∧ w'.cell? ⟨g, 1, none⟩ = some (.int .i64 at1) ∧ w'.cell? (ade.add ((at1).toNat * 5)) = some (.int .i64 (rd_T82 l at1).f0) ∧ w'.cell? ⟨(ade.add ((at1).toNat * 5)).block, (ade.add ((at1).toNat * 5)).off + 1, none⟩ = some (.string (rd_T82 l at1).f1) ∧ w'.cell? ⟨(ade.add ((at1).toNat * 5)).block, (ade.add ((at1).toNat * 5)).off + 2, none⟩ = some (.string (rd_T82 l at1).f2) ∧ w'.cell? ⟨(ade.add ((at1).toNat * 5)).block, (ade.add ((at1).toNat * 5)).off + 3, none⟩ = some (.bool (rd_T82 l at1).f3) ∧ w'.cell? ⟨(ade.add ((at1).toNat * 5)).block, (ade.add ((at1).toNat * 5)).off + 4, none⟩ = some (.string (rd_T82 l at1).f4)) (ds := [11]) #[false, false, false, false, false, false, false, false, false, false, false, false] (by kernel_rfl) rfl rfl ⟨hxg.1, hxg.2.1, hye0, hye1, hye2, hye3, hye4⟩ (fun hHeld => ?_); refine with_tabW impl_nodes_node.tab13 impl_nodes_node.bits13 (fun HT_ HW_ => ?_)
        generalize hWd_ : wc.drew = u_1 at hHeld ⊢
        have hb_ : Below wc.heap.size wc u_1 := (by rw [← hWd_]; exact below_drew (Below.refl _ _))
        clear hWd_
        replace BKg := A_ (blk_below BKg.out hb_)
        replace BKgr := A_ (blk_below BKgr.out hb_)
        replace BKgp := A_ (blk_below BKgp.out hb_)
        replace BKgn := A_ (blk_below BKgn.out hb_)
        replace HO := A_ (Kd.S_below HO.out hb_)
        replace HK := A_ (Kept.below HK.out hb_)
        replace HB := A_ (below_step HB.out hb_)
        clear hb_
        replace hxg := cells3 BKg.out
        replace hxgr := cells4 BKgr.out
        replace hxgp := cells5 BKgp.out
        replace hxgn := cells4 BKgn.out
        refine pu_ (i := 0) (N := some 119) ?_
        refine pu_ (i := 1) (N := some 120) ?_
        refine pu_ (i := 2) (N := some 121) ?_
        refine pu_ (i := 4) (N := some 123) ?_
        refine pu_ (i := 5) (N := some 124) ?_
        refine pu_ (i := 6) (N := some 125) ?_
        refine tk_ (i := 3) (N := some 122) hHeld ?_
        refine tk_ (i := 7) (N := some 126) hHeld ?_
        refine pu_ (i := 8) (N := some 127) ?_
        refine tk_ (i := 9) (N := some 128) hHeld ?_
        refine on_ (i := 10) (N := some 10) (fun K hK => ?_)
        refine box_step ?hg (N := 10) ?hd (cs := #[.int .i64 0, .string (⟨#[]⟩ : ByteArray), .string (⟨#[]⟩ : ByteArray), .bool false, .string (⟨#[]⟩ : ByteArray)]) (t := 82) ?hr ?_
        (case hd => rfl)
        (case hg => rfl)
        (case hr => first | (go_simp; done) | (go_simp; rfl))
        intro gx hg_ u_2 hbox_ hb_
        have hS0_ := pw_cell_below hb_ hHeld.1
        have hS1_ := pw_cell_below hb_ hHeld.2.1
        have hS2_ := pw_cell_below hb_ hHeld.2.2.1
        have hS3_ := pw_cell_below hb_ hHeld.2.2.2.1
        have hS4_ := pw_cell_below hb_ hHeld.2.2.2.2.1
        have hS5_ := pw_cell_below hb_ hHeld.2.2.2.2.2.1
        have hS6_ := pw_cell_below hb_ hHeld.2.2.2.2.2.2
        have GWgx : Aside0 (w.heap.size ≤ gx) := ⟨by rw [hg_]; exact HK.out.1⟩
        have GEgx : Aside0 (w0.heap.size ≤ gx) := ⟨by rw [hg_]; exact below_size HB.out⟩
        have hn_g_gx : g ≠ gx := (by have := blk_lt BKg.out; rw [hg_]; omega)
        have hn_gx_g : gx ≠ g := hn_g_gx.symm
        have hn_gr_gx : gr ≠ gx := (by have := blk_lt BKgr.out; rw [hg_]; omega)
        have hn_gx_gr : gx ≠ gr := hn_gr_gx.symm
        have hn_gp_gx : gp ≠ gx := (by have := blk_lt BKgp.out; rw [hg_]; omega)
        have hn_gx_gp : gx ≠ gp := hn_gp_gx.symm
        have hn_gn_gx : gn ≠ gx := (by have := blk_lt BKgn.out; rw [hg_]; omega)
        have hn_gx_gn : gx ≠ gn := hn_gn_gx.symm
        replace HO := A_ (Kd.S_elderB HO.out gx (Nat.le_of_eq hg_.symm))
        replace BKg := A_ (blk_below BKg.out hb_)
        replace BKgr := A_ (blk_below BKgr.out hb_)
        replace BKgp := A_ (blk_below BKgp.out hb_)
        replace BKgn := A_ (blk_below BKgn.out hb_)
        replace HO := A_ (Kd.S_below HO.out hb_)
        replace HK := A_ (Kept.below HK.out hb_)
        replace HB := A_ (below_step HB.out hb_)
        have BKgx := A_ hbox_
        clear hb_ hbox_ hg_
        replace hxg := cells3 BKg.out
        replace hxgr := cells4 BKgr.out
        replace hxgp := cells5 BKgp.out
        replace hxgn := cells4 BKgn.out
        have hxgx := cells5 BKgx.out
        refine hK.out _ _ ⟨hS0_, hS1_, hS2_, hS3_, hS4_, hS5_, hS6_⟩ (fun hHeld => ?_)
        clear hK K
        refine no_ (some 10) ?_
        refine last_ (i := 11) (N := none) #[true, true, true, true, true, true, true, true, true, true, true, true] rfl rfl (one_of HT_.out (by kernel_rfl)) (by decide) (fun K hK => ?_)
        refine skip_ (w1 := ?_) (by rfl) rfl ?_ ?_
        rotate_left
        · go_simp
          rfl
        refine hK.out _ _ ?_
        clear hK K
        refine done_ (done_of HT_.out (by kernel_rfl)) ?_
        (try clear hHeld hS0_ hS1_ hS2_ hS3_ hS4_ hS5_ hS6_)
        (try clear hye0 hye1 hye2 hye3 hye4)
        generalize hWs_ : (((((u_2.setCell ⟨gx, 0, none⟩ (.int .i64 (rd_T82 l at1).f0)).setCell ⟨gx, 1, none⟩ (.string (rd_T82 l at1).f1)).setCell ⟨gx, 2, none⟩ (.string (rd_T82 l at1).f2)).setCell ⟨gx, 3, none⟩ (.bool (rd_T82 l at1).f3)).setCell ⟨gx, 4, none⟩ (.string (rd_T82 l at1).f4)) = u_3
        have hw' : Sto gx u_2 u_3 := (by rw [← hWs_]; exact Sto.step (Sto.step (Sto.step (Sto.step (Sto.step (Sto.refl _ _) _ _) _ _) _ _) _ _) _ _)
        have bk_ : u_3.heap[gx]? = some (.cells #[.int .i64 (rd_T82 l at1).f0, .string (rd_T82 l at1).f1, .string (rd_T82 l at1).f2, .bool (rd_T82 l at1).f3, .string (rd_T82 l at1).f4] 82 (0, 0)) := (by rw [← hWs_]; exact (IsBlk.set (IsBlk.set (IsBlk.set (IsBlk.set (IsBlk.set (IsBlk.of BKgx.out) 0 _) 1 _) 2 _) 3 _) 4 _ : IsBlk _ _ _ _))
        clear hWs_
        replace BKg := A_ (stored_blk hw' BKg.out hn_g_gx)
        replace BKgr := A_ (stored_blk hw' BKgr.out hn_gr_gx)
        replace BKgp := A_ (stored_blk hw' BKgp.out hn_gp_gx)
        replace BKgn := A_ (stored_blk hw' BKgn.out hn_gn_gx)
        replace HO := A_ (stored_S hw' HO.out (fun k_ hk => hk.2))
        replace HK := A_ (hw'.keeps (I := fun w_ => Kept w w_ (fun k_ => k_ = g)) HK.out (fun _ _ u_ h_ => Kept.setCell h_ (.inr GWgx.out) u_))
        replace HB := A_ (stored_below hw' HB.out GEgx.out)
        replace BKgx := Aside0.mk bk_
        clear hw' bk_
        replace hxg := cells3 BKg.out
        replace hxgr := cells4 BKgr.out
        replace hxgp := cells5 BKgp.out
        replace hxgn := cells4 BKgn.out
        replace hxgx := cells5 BKgx.out
        clear eee
        by_cases c4 : (rd_T82 l at1).f0 = 4
        · rw [if_pos c4] at H
          have e4b : ((rd_T82 l at1).f0 == 4) = true := beq_iff_eq.mpr c4
          clear c4
          by_cases c8 : tx1.size + ((rd_T82 l at1).f4).size ≤ 9223372036854775807
          rotate_left
          · rw [if_neg c8] at H
            exact absurd H (by simp)
          rw [if_pos c8] at H
          have c8b0 := eq_true c8
          have c8b1 := decide_eq_true c8
          have c8b2 : (9223372036854775807 < tx1.size + ((rd_T82 l at1).f4).size) = False := eq_false (Nat.not_lt.2 c8)
          clear c8
          cases full1
          rotate_left
          · skip
            as_aux_lemma =>
             rw [if_pos rfl] at H
             have H' := A_ H
             clear H
             go_wp2_with (first | ((with_reducible refine gate_store (t := 9) (p := 137) rfl ?_); apply box_store (g := gn); (case hrun => first | (go_simp; done) | (go_simp; rfl)); (case _ho => rfl); (case hN => rfl); (case hgd => rfl); (case hs => repeat (first | (with_reducible exact Sto.refl _ _) | refine Sto.step ?_ _ _)); (case hb => repeat (first | (with_reducible exact IsBlk.of BKgn.out) | (with_reducible apply IsBlk.set))); intro u_4 hw' bk_; simp only [List.setIfInBounds_toArray, List.set_cons_zero, List.set_cons_succ] at bk_; replace BKg := A_ (stored_blk hw' BKg.out hn_g_gn); replace BKgr := A_ (stored_blk hw' BKgr.out hn_gr_gn); replace BKgp := A_ (stored_blk hw' BKgp.out hn_gp_gn); replace BKgx := A_ (stored_blk hw' BKgx.out hn_gx_gn); replace HO := A_ (stored_S hw' HO.out (fun k_ hk => hk.1.2.2.2)); replace HK := A_ (hw'.keeps (I := fun w_ => Kept w w_ (fun k_ => k_ = g)) HK.out (fun _ _ u_ h_ => Kept.setCell h_ (.inr GWgn.out) u_)); replace HB := A_ (stored_below hw' HB.out GEgn.out); replace BKgn := Aside0.mk bk_; clear hw' bk_; replace hxg := cells3 BKg.out; replace hxgr := cells4 BKgr.out; replace hxgp := cells5 BKgp.out; replace hxgn := cells4 BKgn.out; replace hxgx := cells5 BKgx.out) | ((with_reducible refine gate_store (t := 3) (p := 151) rfl ?_); apply box_store (g := g); (case hrun => first | (go_simp; done) | (go_simp; rfl)); (case _ho => rfl); (case hN => rfl); (case hgd => rfl); (case hs => repeat (first | (with_reducible exact Sto.refl _ _) | refine Sto.step ?_ _ _)); (case hb => repeat (first | (with_reducible exact IsBlk.of BKg.out) | (with_reducible apply IsBlk.set))); intro u_5 hw' bk_; simp only [List.setIfInBounds_toArray, List.set_cons_zero, List.set_cons_succ] at bk_; replace BKgr := A_ (stored_blk hw' BKgr.out hn_gr_g); replace BKgp := A_ (stored_blk hw' BKgp.out hn_gp_g); replace BKgn := A_ (stored_blk hw' BKgn.out hn_gn_g); replace BKgx := A_ (stored_blk hw' BKgx.out hn_gx_g); replace HO := A_ (stored_S hw' HO.out (fun k_ hk => hk.1.1)); replace HK := A_ (hw'.keeps (I := fun w_ => Kept w w_ (fun k_ => k_ = g)) HK.out (fun _ _ u_ h_ => Kept.setCell h_ (.inl rfl) u_)); replace HB := A_ (stored_below hw' HB.out GEg.out); replace BKg := Aside0.mk bk_; clear hw' bk_; replace hxg := cells3 BKg.out; replace hxgr := cells4 BKgr.out; replace hxgp := cells5 BKgp.out; replace hxgn := cells4 BKgn.out; replace hxgx := cells5 BKgx.out))
             go_roundg k1
             case measure => have := HK1.out; omega
             case rel => exact ⟨wrap64 (at1 + 1), false, true, (tx1 ++ (rd_T82 l at1).f4), ks1, (.slice Au ks1.length cu), rs_, H', ⟨by have := HK1.out; omega⟩, ⟨Kd.S_mono HO.out (fun k_ hk => ⟨hk.1.1, hk.1.2.1, hk.1.2.2.1, hk.1.2.2.2⟩)⟩, BKg, BKgr, BKgp, BKgn, HB, HK⟩
          · skip
            as_aux_lemma =>
             rw [if_neg nf_] at H
             replace H := Option.bind_eq_some_iff.mp H
             obtain ⟨t_, A0_, H⟩ := H
             have At_ := A_ A0_
             clear A0_
             have H' := A_ H
             clear H
             go_wp2_with (first | ((with_reducible refine gate_store (t := 9) (p := 137) rfl ?_); apply box_store (g := gn); (case hrun => first | (go_simp; done) | (go_simp; rfl)); (case _ho => rfl); (case hN => rfl); (case hgd => rfl); (case hs => repeat (first | (with_reducible exact Sto.refl _ _) | refine Sto.step ?_ _ _)); (case hb => repeat (first | (with_reducible exact IsBlk.of BKgn.out) | (with_reducible apply IsBlk.set))); intro u_4 hw' bk_; simp only [List.setIfInBounds_toArray, List.set_cons_zero, List.set_cons_succ] at bk_; replace BKg := A_ (stored_blk hw' BKg.out hn_g_gn); replace BKgr := A_ (stored_blk hw' BKgr.out hn_gr_gn); replace BKgp := A_ (stored_blk hw' BKgp.out hn_gp_gn); replace BKgx := A_ (stored_blk hw' BKgx.out hn_gx_gn); replace HO := A_ (stored_S hw' HO.out (fun k_ hk => hk.1.2.2.2)); replace HK := A_ (hw'.keeps (I := fun w_ => Kept w w_ (fun k_ => k_ = g)) HK.out (fun _ _ u_ h_ => Kept.setCell h_ (.inr GWgn.out) u_)); replace HB := A_ (stored_below hw' HB.out GEgn.out); replace BKgn := Aside0.mk bk_; clear hw' bk_; replace hxg := cells3 BKg.out; replace hxgr := cells4 BKgr.out; replace hxgp := cells5 BKgp.out; replace hxgn := cells4 BKgn.out; replace hxgx := cells5 BKgx.out) | (go_at_call 65; (with_reducible refine (impl_isBlank.calls ((rd_T82 l at1).f4) t_ _ At_.out).mono ?_); rintro e u_5 ⟨rfl, hb_⟩; replace BKg := A_ (blk_below BKg.out hb_); replace BKgr := A_ (blk_below BKgr.out hb_); replace BKgp := A_ (blk_below BKgp.out hb_); replace BKgn := A_ (blk_below BKgn.out hb_); replace BKgx := A_ (blk_below BKgx.out hb_); replace HO := A_ (Kd.S_below HO.out hb_); replace HK := A_ (Kept.below HK.out hb_); replace HB := A_ (below_step HB.out hb_); clear hb_; replace hxg := cells3 BKg.out; replace hxgr := cells4 BKgr.out; replace hxgp := cells5 BKgp.out; replace hxgn := cells4 BKgn.out; replace hxgx := cells5 BKgx.out) | ((with_reducible refine gate_store (t := 3) (p := 151) rfl ?_); apply box_store (g := g); (case hrun => first | (go_simp; done) | (go_simp; rfl)); (case _ho => rfl); (case hN => rfl); (case hgd => rfl); (case hs => repeat (first | (with_reducible exact Sto.refl _ _) | refine Sto.step ?_ _ _)); (case hb => repeat (first | (with_reducible exact IsBlk.of BKg.out) | (with_reducible apply IsBlk.set))); intro u_6 hw' bk_; simp only [List.setIfInBounds_toArray, List.set_cons_zero, List.set_cons_succ] at bk_; replace BKgr := A_ (stored_blk hw' BKgr.out hn_gr_g); replace BKgp := A_ (stored_blk hw' BKgp.out hn_gp_g); replace BKgn := A_ (stored_blk hw' BKgn.out hn_gn_g); replace BKgx := A_ (stored_blk hw' BKgx.out hn_gx_g); replace HO := A_ (stored_S hw' HO.out (fun k_ hk => hk.1.1)); replace HK := A_ (hw'.keeps (I := fun w_ => Kept w w_ (fun k_ => k_ = g)) HK.out (fun _ _ u_ h_ => Kept.setCell h_ (.inl rfl) u_)); replace HB := A_ (stored_below hw' HB.out GEg.out); replace BKg := Aside0.mk bk_; clear hw' bk_; replace hxg := cells3 BKg.out; replace hxgr := cells4 BKgr.out; replace hxgp := cells5 BKgp.out; replace hxgn := cells4 BKgn.out; replace hxgx := cells5 BKgx.out))
             go_roundg k1
             case measure => have := HK1.out; omega
             case rel => exact ⟨wrap64 (at1 + 1), false, (!t_), (tx1 ++ (rd_T82 l at1).f4), ks1, (.slice Au ks1.length cu), rs_, H', ⟨by have := HK1.out; omega⟩, ⟨Kd.S_mono HO.out (fun k_ hk => ⟨hk.1.1, hk.1.2.1, hk.1.2.2.1, hk.1.2.2.2⟩)⟩, BKg, BKgr, BKgp, BKgn, HB, HK⟩
        rw [if_neg c4] at H
        as_aux_lemma =>
         have e4b : ((rd_T82 l at1).f0 == 4) = false := beq_eq_false_iff_ne.mpr c4
         clear c4
         replace H := Option.bind_eq_some_iff.mp H
         obtain ⟨⟨s1, s2, s3, s4, s5, s6⟩, A0_, H⟩ := H
         have At_ := A_ A0_
         clear A0_
         dsimp only at H
         by_cases c5 : ks1.length < 1954687338268
         rotate_left
         · rw [if_neg c5] at H
           exact absurd H (by simp)
         rw [if_pos c5] at H
         have LM := A_ c5
         clear c5
         obtain ⟨y, hy_⟩ : ∃ y_ : List (S24), y_ = ks1 ++ [(⟨s1, s2, s3, s4⟩ : S24)] := ⟨_, rfl⟩
         rw [← hy_] at H
         have Ny := A_ hy_
         clear hy_
         have H' := A_ H
         clear H
         have ihk := ih k1 (by have := HK1.out; omega)
         unfold impl_nodes_node.C at ihk
         obtain ⟨nb, hnb_⟩ : ∃ n_, n_ = u_3.heap.size := ⟨_, rfl⟩
         have HNB : Aside0 (nb ≤ u_3.heap.size) := ⟨Nat.le_of_eq hnb_⟩
         have HU : Aside0 (∀ k_, nb ≤ k_ → some k_ ≠ (.slice Au ks1.length cu : Value).ownBlock) := ⟨fun k_ h_ e_ => by have := Kd.S_lt HO.out k_ e_.symm; omega⟩
         have HLg : Aside0 (g < nb) := ⟨by have := blk_lt BKg.out; omega⟩
         have HLgr : Aside0 (gr < nb) := ⟨by have := blk_lt BKgr.out; omega⟩
         have HLgp : Aside0 (gp < nb) := ⟨by have := blk_lt BKgp.out; omega⟩
         have HLgn : Aside0 (gn < nb) := ⟨by have := blk_lt BKgn.out; omega⟩
         have HLgx : Aside0 (gx < nb) := ⟨by have := blk_lt BKgx.out; omega⟩
         replace HO := A_ (Kd.S_mono (ok' := fun k_ => ((k_ ≠ g ∧ k_ ≠ gr ∧ k_ ≠ gp ∧ k_ ≠ gn) ∧ k_ ≠ gx) ∧ k_ < nb) (Kd.S_bound HO.out) (fun k_ h_ => ⟨h_.1, by have := h_.2.2.1; omega⟩))
         go_wp2_with (first | ((with_reducible refine gc_ (f := 36) rfl ?_); refine gL_ (some 157) Tryz.func36 #[.pointer (some ⟨g, 0, none⟩), .string ns_, .int .i64 (wrap64 (deep + 1))] ?_; (with_reducible refine (ihk g AL cL l at1 false ns_ (wrap64 (deep + 1)) s1 s2 s3 s4 s5 s6 w0 _ HLC.out GEg.out BKg.out HB.out At_.out).mono ?_); rintro e u_4 ⟨v3_, rfl, hs_, hb1_, hb2_, hk_⟩; refine ⟨_, rfl, ?_⟩; obtain ⟨A3_, c3_, rfl⟩ := Kd.S_slice hs_; replace BKgr := A_ (blk_kept BKgr.out hk_ hn_gr_g); replace BKgp := A_ (blk_kept BKgp.out hk_ hn_gp_g); replace BKgn := A_ (blk_kept BKgn.out hk_ hn_gn_g); replace BKgx := A_ (blk_kept BKgx.out hk_ hn_gx_g); replace HO := A_ (Kd.S_kept HO.out hk_ (fun k_ hk => hk.1.1.1)); have HV := A_ (Kd.S_mono (ok' := fun k_ => nb ≤ k_) (Kd.S_lower (base' := w.heap.size) (Kd.S_bound hs_) HK.out.1) (fun k_ h_ => by have := h_.2.1; omega)); replace HK := A_ (Kept.then_ HK.out hk_ (fun k_ h_ => .inl (h_))); replace HB := Aside0.mk hb2_; replace BKg := Aside0.mk hb1_; replace HNB := A_ (Nat.le_trans HNB.out hk_.1); clear hs_ hb1_ hb2_ hk_ hnb_; replace hxg := cells3 BKg.out; replace hxgr := cells4 BKgr.out; replace hxgp := cells5 BKgp.out; replace hxgn := cells4 BKgn.out; replace hxgx := cells5 BKgx.out) | ((with_reducible refine gd_ (N := 11) rfl ?_); refine bx_ (N := 11) (cs := #[.string (⟨#[]⟩ : ByteArray), .string (⟨#[]⟩ : ByteArray), .string (⟨#[]⟩ : ByteArray), .slice none 0 0]) (t := 24) ?_; intro gk hg_ u_5 hbox_ hb_; have GWgk : Aside0 (w.heap.size ≤ gk) := ⟨by rw [hg_]; exact HK.out.1⟩; have GEgk : Aside0 (w0.heap.size ≤ gk) := ⟨by rw [hg_]; exact below_size HB.out⟩; have hn_g_gk : g ≠ gk := (by have := blk_lt BKg.out; rw [hg_]; omega); have hn_gk_g : gk ≠ g := hn_g_gk.symm; have hn_gr_gk : gr ≠ gk := (by have := blk_lt BKgr.out; rw [hg_]; omega); have hn_gk_gr : gk ≠ gr := hn_gr_gk.symm; have hn_gp_gk : gp ≠ gk := (by have := blk_lt BKgp.out; rw [hg_]; omega); have hn_gk_gp : gk ≠ gp := hn_gp_gk.symm; have hn_gn_gk : gn ≠ gk := (by have := blk_lt BKgn.out; rw [hg_]; omega); have hn_gk_gn : gk ≠ gn := hn_gn_gk.symm; have hn_gx_gk : gx ≠ gk := (by have := blk_lt BKgx.out; rw [hg_]; omega); have hn_gk_gx : gk ≠ gx := hn_gx_gk.symm; have HGgk : Aside0 (nb ≤ gk) := ⟨by rw [hg_]; exact HNB.out⟩; replace HV := A_ (Kd.S_elderB HV.out gk (Nat.le_of_eq hg_.symm)); replace BKg := A_ (blk_below BKg.out hb_); replace BKgr := A_ (blk_below BKgr.out hb_); replace BKgp := A_ (blk_below BKgp.out hb_); replace BKgn := A_ (blk_below BKgn.out hb_); replace BKgx := A_ (blk_below BKgx.out hb_); replace HO := A_ (Kd.S_below HO.out hb_); replace HV := A_ (Kd.S_below HV.out hb_); replace HK := A_ (Kept.below HK.out hb_); replace HB := A_ (below_step HB.out hb_); replace HNB := A_ (Nat.le_trans HNB.out (below_size hb_)); have BKgk := A_ hbox_; clear hb_ hbox_ hg_; replace hxg := cells3 BKg.out; replace hxgr := cells4 BKgr.out; replace hxgp := cells5 BKgp.out; replace hxgn := cells4 BKgn.out; replace hxgx := cells5 BKgx.out; have hxgk := cells4 BKgk.out) | ((with_reducible refine gate_store (t := 24) (p := 11) rfl ?_); apply box_store (g := gk); (case hrun => first | (go_simp; done) | (go_simp; rfl)); (case _ho => rfl); (case hN => rfl); (case hgd => rfl); (case hs => repeat (first | (with_reducible exact Sto.refl _ _) | refine Sto.step ?_ _ _)); (case hb => repeat (first | (with_reducible exact IsBlk.of BKgk.out) | (with_reducible apply IsBlk.set))); intro u_6 hw' bk_; simp only [List.setIfInBounds_toArray, List.set_cons_zero, List.set_cons_succ] at bk_; replace BKg := A_ (stored_blk hw' BKg.out hn_g_gk); replace BKgr := A_ (stored_blk hw' BKgr.out hn_gr_gk); replace BKgp := A_ (stored_blk hw' BKgp.out hn_gp_gk); replace BKgn := A_ (stored_blk hw' BKgn.out hn_gn_gk); replace BKgx := A_ (stored_blk hw' BKgx.out hn_gx_gk); replace HO := A_ (stored_S hw' HO.out (fun k_ hk => (by have := HGgk.out; have := hk.2; omega))); replace HV := A_ (stored_S hw' HV.out (fun k_ hk => hk.2)); replace HK := A_ (hw'.keeps (I := fun w_ => Kept w w_ (fun k_ => k_ = g)) HK.out (fun _ _ u_ h_ => Kept.setCell h_ (.inr GWgk.out) u_)); replace HB := A_ (stored_below hw' HB.out GEgk.out); replace HNB := A_ (Nat.le_trans HNB.out (Nat.le_of_eq (stored_size hw'))); replace BKgk := Aside0.mk bk_; clear hw' bk_; replace hxg := cells3 BKg.out; replace hxgr := cells4 BKgr.out; replace hxgp := cells5 BKgp.out; replace hxgn := cells4 BKgn.out; replace hxgx := cells5 BKgx.out; replace hxgk := cells4 BKgk.out) | ((with_reducible refine gate_builtin (b := .append) (xs := #[.tmp 159, .tmp 161]) rfl ?_); at_builtin; refine Kd.S_append kA (w0 := u_6) w.heap.size rfl (.tmp 159) (.tmp 161) 22 24 (.agg #[(.string ⟨#[]⟩), (.string ⟨#[]⟩), (.string ⟨#[]⟩), (.slice none 0 0)]) 72 rfl Tryz.underlying22 info24 rfl (by decide) (by omega) (.slice Au ks1.length cu) ks1 (⟨s1, s2, s3, s4⟩ : S24) [.string s1, .string s2, .string s3, .slice A3_ s4.length c3_] (fun k_ => k_ ≠ g ∧ k_ ≠ gr ∧ k_ ≠ gp ∧ k_ ≠ gn) (fun k_ => (nb ≤ k_) ∧ k_ ≠ gk) rfl rfl ?aP ?aK ?aF ?aO ?aB ?aS ?aL ?_; (case aP => exact kA_mkM _ _ _ (⟨s1, s2, s3, s4⟩ : S24) HV.out); (case aK => exact fun k_ h_ => ⟨⟨(by have := HLg.out; have := h_.1; omega), (by have := HLgr.out; have := h_.1; omega), (by have := HLgp.out; have := h_.1; omega), (by have := HLgn.out; have := h_.1; omega)⟩, HU.out k_ h_.1⟩); (case aF => exact fun k_ h_ => ⟨(by have := blk_lt BKg.out; have := h_; omega), (by have := blk_lt BKgr.out; have := h_; omega), (by have := blk_lt BKgp.out; have := h_; omega), (by have := blk_lt BKgn.out; have := h_; omega)⟩); (case aO => exact Kd.S_mono HO.out (fun k_ h_ => ⟨⟨h_.1.1.1, h_.1.1.2.1, h_.1.1.2.2.1, h_.1.1.2.2.2⟩, fun h2_ => absurd h_.2 (Nat.not_lt.2 h2_.1)⟩)); (case aB => exact Below.refl _ _); (case aS => exact HK.out.1); (case aL => have := LM.out; omega); intro v1_ u_7 ho_ hbb_ hg_ hat_; rw [← Ny.out] at ho_; obtain ⟨A1_, c1_, rfl⟩ := Kd.S_slice ho_; replace BKg := A_ (blk_grown BKg.out hg_ (Kd.S_away HO.out (fun k_ hk => hk.1.1.1))); replace BKgr := A_ (blk_grown BKgr.out hg_ (Kd.S_away HO.out (fun k_ hk => hk.1.1.2.1))); replace BKgp := A_ (blk_grown BKgp.out hg_ (Kd.S_away HO.out (fun k_ hk => hk.1.1.2.2.1))); replace BKgn := A_ (blk_grown BKgn.out hg_ (Kd.S_away HO.out (fun k_ hk => hk.1.1.2.2.2))); replace HK := A_ (Kept.of_grown hg_ HK.out (fun k_ e_ => .inr (Kd.S_base HO.out k_ e_))); replace HB := A_ (Below.grown HB.out hg_ (below_size HB.out) (fun k_ e_ => Nat.le_trans H00.out (Kd.S_base HO.out k_ e_))); replace HO := Aside0.mk ho_; clear ho_ hbb_ hg_ hat_ HV HNB BKgx BKgk hxgx hxgk; replace hxg := cells3 BKg.out; replace hxgr := cells4 BKgr.out; replace hxgp := cells5 BKgp.out; replace hxgn := cells4 BKgn.out) | ((with_reducible refine gate_store (t := 22) (p := 163) rfl ?_); apply box_store (g := gn); (case hrun => first | (go_simp; done) | (go_simp; rfl)); (case _ho => rfl); (case hN => rfl); (case hgd => rfl); (case hs => repeat (first | (with_reducible exact Sto.refl _ _) | refine Sto.step ?_ _ _)); (case hb => repeat (first | (with_reducible exact IsBlk.of BKgn.out) | (with_reducible apply IsBlk.set))); intro u_8 hw' bk_; simp only [List.setIfInBounds_toArray, List.set_cons_zero, List.set_cons_succ] at bk_; replace BKg := A_ (stored_blk hw' BKg.out hn_g_gn); replace BKgr := A_ (stored_blk hw' BKgr.out hn_gr_gn); replace BKgp := A_ (stored_blk hw' BKgp.out hn_gp_gn); replace HO := A_ (stored_S hw' HO.out (fun k_ hk => hk.2.2.2)); replace HK := A_ (hw'.keeps (I := fun w_ => Kept w w_ (fun k_ => k_ = g)) HK.out (fun _ _ u_ h_ => Kept.setCell h_ (.inr GWgn.out) u_)); replace HB := A_ (stored_below hw' HB.out GEgn.out); replace BKgn := Aside0.mk bk_; clear hw' bk_; replace hxg := cells3 BKg.out; replace hxgr := cells4 BKgr.out; replace hxgp := cells5 BKgp.out; replace hxgn := cells4 BKgn.out))
         go_roundg k1
         case measure => have := HK1.out; omega
         case rel => exact ⟨s5, s6, full1, tx1, y, (.slice A1_ y.length c1_), rs_, H', ⟨by have := HK1.out; omega⟩, ⟨Kd.S_mono HO.out (fun k_ hk => ⟨hk.1, hk.2.1, hk.2.2.1, hk.2.2.2⟩)⟩, BKg, BKgr, BKgp, BKgn, HB, HK⟩
end Go.Proofs.YtegkokdncakadaaGreatDoor.Q

/- A node read of pieces, whose rows lie apart. No condition. -/
namespace Go.Proofs.YtegkokdncakadaaGreatDoor.Q
open Go.RowKit Go.Proofs.YtegkokdncakadaaGreatDoorW.PrintWords Go.Proofs.YtegkokdncakadaaGreatDoorW.PrintLast Go.Proofs.YtegkokdncakadaaGreatDoorW.PrintMore
attribute [local go_sem] max2_int min2_int max_two min_two max_three min_three max_four min_four
set_option linter.unusedVariables false
set_option linter.unusedSimpArgs false
def impl_ParseNode.f (k : Nat) (a0 : ByteArray) : Option (ByteArray × ByteArray × ByteArray × List (S24) × Bool) := (impl_Pieces.f k a0).bind fun p => (impl_nodes_blanks.l0 k p.1 0).bind fun b0 => (impl_nodes_node.f k p.1 b0 false (⟨#[]⟩ : ByteArray) 1).bind fun n => (impl_nodes_blanks.l0 k p.1 n.2.2.2.2.1).bind fun a1 =>
 if p.2 = false ∨ n.2.2.2.2.2 = true then some ((⟨#[]⟩ : ByteArray), (⟨#[]⟩ : ByteArray), (⟨#[]⟩ : ByteArray), [], false) else if a1 = (p.1.length : Int) then (impl_NodeOk.f k n.1 n.2.1 n.2.2.1 n.2.2.2.1).bind fun t => (if t = true then some (n.1, n.2.1, n.2.2.1, n.2.2.2.1, true) else some ((⟨#[]⟩ : ByteArray), (⟨#[]⟩ : ByteArray), (⟨#[]⟩ : ByteArray), [], false)) else some ((⟨#[]⟩ : ByteArray), (⟨#[]⟩ : ByteArray), (⟨#[]⟩ : ByteArray), [], false)
set_option maxHeartbeats 64000000 in
set_option maxRecDepth 100000 in
theorem impl_ParseNode.calls (k : Nat) (a0 : ByteArray) (r1 : ByteArray) (r2 : ByteArray) (r3 : ByteArray) (r4 : List (S24)) (r5 : Bool) (w : World) (hGT : GT w) (hGM : GM w) (hGE : GE w) (h : impl_ParseNode.f k a0 = some (r1, r2, r3, r4, r5)) :
 Calls Tryz.prog 7 #[.string a0] w fun e w' => ∃ v3_ : Value, e = .returned (.tuple #[.agg #[.string r1, .string r2, .string r3, v3_], .bool r5]) ∧ Kd.S kA 24 w' w.heap.size (fun _ => True) v3_ r4 ∧ Below w.heap.size w w' := by
 replace h := Option.bind_eq_some_iff.mp h
 obtain ⟨⟨l, ok⟩, A0_, h⟩ := h
 have HP := A_ A0_
 clear A0_
 replace h := Option.bind_eq_some_iff.mp h
 obtain ⟨b0, A0_, h⟩ := h
 have HB1 := A_ A0_
 clear A0_
 replace h := Option.bind_eq_some_iff.mp h
 obtain ⟨⟨n1, n2, n3, n4, a1, bad1⟩, A0_, h⟩ := h
 have HN1 := A_ A0_
 clear A0_
 replace h := Option.bind_eq_some_iff.mp h
 obtain ⟨a2, A0_, h⟩ := h
 have HB2 := A_ A0_
 clear A0_
 dsimp only at h HB1 HN1 HB2
 have HA := A_ h
 clear h
 have hu1_ := Tryz.underlying24
 have hu3_ := Tryz.underlying61
 have HW := A_ (Below.refl w.heap.size w)
 have HGT := A_ hGT
 have HGM := A_ hGM
 have HGE := A_ hGE
 clear hGT hGM hGE
 go_enter Tryz.func7, Tryz.ntmps7
 have hrd_ := impl_nodes_node.calls k
 unfold impl_nodes_node.C at hrd_
 go_upto_region 6 with (first | ((with_reducible refine gd_ (N := 2) rfl ?_); refine bx_ (N := 2) (cs := #[.string (⟨#[]⟩ : ByteArray), .string (⟨#[]⟩ : ByteArray), .string (⟨#[]⟩ : ByteArray), .slice none 0 0]) (t := 24) ?_; intro gr hg_ p_1 hbox_ hb_; have GWgr : Aside0 (w.heap.size ≤ gr) := ⟨by rw [hg_]; exact below_size HW.out⟩; replace HW := A_ (below_step HW.out hb_); have BKgr := A_ hbox_; clear hb_ hbox_ hg_) | ((with_reducible refine gc_ (f := 34) rfl ?_); refine gL_ (some 10) Tryz.func34 #[.string a0] ?_; (with_reducible refine (impl_Pieces.calls k a0 l ok _ (gT_ HGT.out HW.out) (gM_ HGM.out HW.out) (gE_ HGE.out HW.out) HP.out).mono ?_); rintro e w0 ⟨v0_, rfl, ho_, hb_⟩; refine ⟨_, rfl, ?_⟩; obtain ⟨AL, cL, rfl, hcl_, hL_⟩ := Kd.R_reads ho_; have HLC := A_ hL_; have HCL := A_ hcl_; replace BKgr := A_ (blk_below BKgr.out hb_); replace HW := A_ (below_step HW.out hb_); have HB := A_ (Below.refl w0.heap.size w0); clear ho_ hb_ hcl_ hL_) | ((with_reducible refine gd_ (N := 15) rfl ?_); refine bx_ (N := 15) (cs := #[.slice AL l.length cL, .int .i64 0, .bool false]) (t := 61) ?_; intro g hg_ p_3 hbox_ hb_; have GEg : Aside0 (w0.heap.size ≤ g) := ⟨Nat.le_of_eq hg_.symm⟩; have HR : Aside0 (gr < w0.heap.size) := ⟨blk_lt BKgr.out⟩; have hn_g_gr : g ≠ gr := (by have := HR.out; rw [hg_]; omega); have hn_gr_g := hn_g_gr.symm; replace HB := A_ (below_step HB.out hb_); replace BKgr := A_ (blk_below BKgr.out hb_); have BKg := A_ hbox_; clear hb_ hbox_ hg_) | ((with_reducible refine gc_ (f := 35) rfl ?_); refine gL_ (some 17) Tryz.func35 #[.pointer (some ⟨g, 0, none⟩)] ?_; (with_reducible refine (impl_nodes_blanks.calls k g AL cL l 0 false b0 w0 _ HLC.out GEg.out BKg.out HB.out HB1.out).mono ?_); rintro e p_4 ⟨rfl, hb1_, hb2_, hk_⟩; refine ⟨_, rfl, ?_⟩; replace BKgr := A_ (blk_kept BKgr.out hk_ hn_gr_g); replace BKg := Aside0.mk hb1_; replace HB := Aside0.mk hb2_; clear hb1_ hb2_ hk_) | ((with_reducible refine gc_ (f := 36) rfl ?_); refine gL_ (some 19) Tryz.func36 #[.pointer (some ⟨g, 0, none⟩), .string (⟨#[]⟩ : ByteArray), .int .i64 1] ?_; (with_reducible refine (hrd_ g AL cL l b0 false (⟨#[]⟩ : ByteArray) 1 n1 n2 n3 n4 a1 bad1 w0 _ HLC.out GEg.out BKg.out HB.out HN1.out).mono ?_); rintro e p_5 ⟨v3_, rfl, hs_, hb1_, hb2_, hk_⟩; refine ⟨_, rfl, ?_⟩; obtain ⟨A3_, c3_, rfl⟩ := Kd.S_slice hs_; have HV := A_ (Kd.S_mono (ok' := fun k_ => k_ ≠ g ∧ k_ ≠ gr) (Kd.S_bound hs_) (fun k_ h_ => ⟨by have := h_.2.1; have := blk_lt BKg.out; omega, by have := h_.2.1; have := blk_lt BKgr.out; omega⟩)); have HVB : Aside0 (w.heap.size ≤ p_4.heap.size) := ⟨Nat.le_trans (below_size HW.out) (below_size HB.out)⟩; replace HV := A_ (Kd.S_lower (base' := w.heap.size) HV.out HVB.out); replace BKgr := A_ (blk_kept BKgr.out hk_ hn_gr_g); replace BKg := Aside0.mk hb1_; replace HB := Aside0.mk hb2_; clear hs_ hb1_ hb2_ hk_) | ((with_reducible refine gd_ (N := 7) rfl ?_); refine bx_ (N := 7) (cs := #[.string (⟨#[]⟩ : ByteArray), .string (⟨#[]⟩ : ByteArray), .string (⟨#[]⟩ : ByteArray), .slice none 0 0]) (t := 24) ?_; intro gn hg_ p_6 hbox_ hb_; have GEgn : Aside0 (w0.heap.size ≤ gn) := ⟨by rw [hg_]; exact below_size HB.out⟩; have hn_gn_g : gn ≠ g := (by have := blk_lt BKg.out; rw [hg_]; omega); have hn_gn_gr : gn ≠ gr := (by have := blk_lt BKgr.out; rw [hg_]; omega); have hn_g_gn := hn_gn_g.symm; have hn_gr_gn := hn_gn_gr.symm; replace HV := A_ (Kd.S_below (Kd.S_elderB HV.out gn (Nat.le_of_eq hg_.symm)) hb_); replace HB := A_ (below_step HB.out hb_); replace BKgr := A_ (blk_below BKgr.out hb_); replace BKg := A_ (blk_below BKg.out hb_); have BKgn := A_ hbox_; clear hb_ hbox_ hg_; have hxgn := cells4 BKgn.out) | ((with_reducible refine gate_store (t := 24) (p := 7) rfl ?_); apply box_store (g := gn); (case hrun => first | (go_simp; done) | (go_simp; rfl)); (case _ho => rfl); (case hN => rfl); (case hgd => rfl); (case hs => repeat (first | (with_reducible exact Sto.refl _ _) | refine Sto.step ?_ _ _)); (case hb => repeat (first | (with_reducible exact IsBlk.of BKgn.out) | (with_reducible apply IsBlk.set))); intro p_7 hw' bk_; simp only [List.setIfInBounds_toArray, List.set_cons_zero, List.set_cons_succ] at bk_; replace HV := A_ (stored_S hw' HV.out (fun _ hk => hk.2)); replace BKgr := A_ (stored_blk hw' BKgr.out hn_gr_gn); replace BKg := A_ (stored_blk hw' BKg.out hn_g_gn); replace HB := A_ (stored_below hw' HB.out GEgn.out); replace BKgn := Aside0.mk bk_; clear hw' bk_; replace hxgn := cells4 BKgn.out) | ((with_reducible refine gc_ (f := 35) rfl ?_); refine gL_ (some 21) Tryz.func35 #[.pointer (some ⟨g, 0, none⟩)] ?_; (with_reducible refine (impl_nodes_blanks.calls k g AL cL l a1 bad1 a2 w0 _ HLC.out GEg.out BKg.out HB.out HB2.out).mono ?_); rintro e p_8 ⟨rfl, hb1_, hb2_, hk_⟩; refine ⟨_, rfl, ?_⟩; replace HV := A_ (Kd.S_kept HV.out hk_ (fun _ hk => hk.1.1)); replace BKgr := A_ (blk_kept BKgr.out hk_ hn_gr_g); replace BKgn := A_ (blk_kept BKgn.out hk_ hn_gn_g); replace BKg := Aside0.mk hb1_; replace HB := Aside0.mk hb2_; clear hb1_ hb2_ hk_; replace hxgn := cells4 BKgn.out; have hxg := cells3 BKg.out; have hxgr := cells4 BKgr.out))
 (try simp only [Act.put, List.setIfInBounds_toArray, List.set_cons_zero, List.set_cons_succ])
 have H := HA.out
 clear HA
 go_cut [43] (fun v43 wc => ∃ (b_ : Bool), v43 = .bool b_ ∧ Aside0 ((if b_ = true then some ((⟨#[]⟩ : ByteArray), (⟨#[]⟩ : ByteArray), (⟨#[]⟩ : ByteArray), [], false) else some (n1, n2, n3, n4, true)) = some (r1, r2, r3, r4, r5)) ∧ Aside0 (Kd.S kA 24 wc w.heap.size (fun k_ => (k_ ≠ g ∧ k_ ≠ gr) ∧ k_ ≠ gn) (.slice A3_ n4.length c3_) n4) ∧ Aside0 (wc.heap[gr]? = some (.cells #[.string (⟨#[]⟩ : ByteArray), .string (⟨#[]⟩ : ByteArray), .string (⟨#[]⟩ : ByteArray), .slice none 0 0] 24 (0, 0))) ∧ Aside0 (wc.heap[gn]? = some (.cells #[.string n1, .string n2, .string n3, .slice A3_ n4.length c3_] 24 (0, 0))) ∧ Aside0 (Below w0.heap.size w0 wc))
 case first =>
  as_aux_lemma =>
   cases ok
   · rw [if_pos (.inl rfl)] at H
     go_wp2
     go_meet
     case rel => exact ⟨true, rs_, ⟨H⟩, ⟨vS_ HV.out⟩, ⟨vb_ BKgr.out⟩, ⟨vb_ BKgn.out⟩, ⟨bB_⟩⟩
   cases bad1
   rotate_left
   · rw [if_pos (.inr rfl)] at H
     go_wp2
     go_meet
     case rel => exact ⟨true, rs_, ⟨H⟩, ⟨vS_ HV.out⟩, ⟨vb_ BKgr.out⟩, ⟨vb_ BKgn.out⟩, ⟨bB_⟩⟩
   rw [if_neg (by simp)] at H
   by_cases c1 : a2 = (l.length : Int)
   rotate_left
   · rw [if_neg c1] at H
     have c1b0 : (a2 != (l.length : Int)) = true := bne_iff_ne.mpr c1
     go_wp2
     go_meet
     case rel => exact ⟨true, rs_, ⟨H⟩, ⟨vS_ HV.out⟩, ⟨vb_ BKgr.out⟩, ⟨vb_ BKgn.out⟩, ⟨bB_⟩⟩
   rw [if_pos c1] at H
   have c1b0 : (a2 != (l.length : Int)) = false := bne_eq_false_iff_eq.mpr c1
   replace H := Option.bind_eq_some_iff.mp H
   obtain ⟨t_, A0_, H⟩ := H
   have At_ := A_ A0_
   clear A0_
   have hrr_ := Kd.S_reads' HV.out
   have HCC : Aside0 (Kd.C k24 p_8 A3_ n4.length n4) := ⟨hrr_.2.2⟩
   have HCN := A_ hrr_.2.1
   clear hrr_
   go_wp2_with (first | (go_at_call 19; (with_reducible refine (impl_NodeOk.calls k n1 n2 n3 A3_ c3_ n4 t_ _ HCC.out HCN.out At_.out).mono ?_); rintro e p_9 ⟨rfl, hb_⟩; replace HV := A_ (Kd.S_below HV.out hb_); replace BKgr := A_ (blk_below BKgr.out hb_); replace BKgn := A_ (blk_below BKgn.out hb_); replace HB := A_ (below_step HB.out hb_); clear hb_ hxg hxgn hxgr))
   cases t_
   · rw [if_neg (by simp)] at H
     go_meet
     case rel => exact ⟨true, rs_, ⟨H⟩, ⟨vS_ HV.out⟩, ⟨vb_ BKgr.out⟩, ⟨vb_ BKgn.out⟩, ⟨bB_⟩⟩
   · rw [if_pos rfl] at H
     go_meet
     case rel => exact ⟨false, rs_, ⟨H⟩, ⟨vS_ HV.out⟩, ⟨vb_ BKgr.out⟩, ⟨vb_ BKgn.out⟩, ⟨bB_⟩⟩
 case rest =>
  clear HV BKgr BKgn HB hxg hxgn hxgr H BKg
  obtain ⟨b_, rfl, HA, HV, BKgr, BKgn, HB⟩ := hcut
  have hxgr := cells4 BKgr.out
  have hxgn := cells4 BKgn.out
  have H := HA.out
  clear HA
  cases b_
  · skip
    as_aux_lemma =>
     rw [if_neg (by simp)] at H
     obtain ⟨rfl, rfl, rfl, rfl, rfl⟩ : _ ∧ _ ∧ _ ∧ _ ∧ _ := by simpa only [Option.some.injEq, Prod.mk.injEq] using H
     clear H
     replace HW := A_ (Below.trans HW.out (Below.mono HB.out (below_size HW.out)))
     clear HB
     go_wp2_with (first | ((with_reducible refine gate_store (t := 24) (p := 2) rfl ?_); apply box_store (g := gr); (case hrun => first | (go_simp; done) | (go_simp; rfl)); (case _ho => rfl); (case hN => rfl); (case hgd => rfl); (case hs => repeat (first | (with_reducible exact Sto.refl _ _) | refine Sto.step ?_ _ _)); (case hb => repeat (first | (with_reducible exact IsBlk.of BKgr.out) | (with_reducible apply IsBlk.set))); intro p_e hw' bk_; simp only [List.setIfInBounds_toArray, List.set_cons_zero, List.set_cons_succ] at bk_; replace HV := A_ (stored_S hw' HV.out (fun _ hk => hk.1.2)); replace HW := A_ (stored_below hw' HW.out GWgr.out); replace BKgr := Aside0.mk bk_; clear hw' bk_))
     refine bodyPost_ret (results_ct rfl _ _ gr 24 #[.string n1, .string n2, .string n3, .slice A3_ n4.length c3_] (0, 0) _ rfl (by first | exact BKgr.out | exact blk_drew BKgr.out) Tryz.underlying24 rfl (by kernel_rfl)) rfl ?_
     exact ⟨_, by first | rfl | (simp; done), Kd.S_mono HV.out (fun _ _ => trivial), HW.out⟩
  · skip
    as_aux_lemma =>
     rw [if_pos rfl] at H
     obtain ⟨rfl, rfl, rfl, rfl, rfl⟩ : _ ∧ _ ∧ _ ∧ _ ∧ _ := by simpa only [Option.some.injEq, Prod.mk.injEq] using H
     clear H
     replace HW := A_ (Below.trans HW.out (Below.mono HB.out (below_size HW.out)))
     clear HB
     go_wp2_with (first | ((with_reducible refine gate_store (t := 24) (p := 2) rfl ?_); apply box_store (g := gr); (case hrun => first | (go_simp; done) | (go_simp; rfl)); (case _ho => rfl); (case hN => rfl); (case hgd => rfl); (case hs => repeat (first | (with_reducible exact Sto.refl _ _) | refine Sto.step ?_ _ _)); (case hb => repeat (first | (with_reducible exact IsBlk.of BKgr.out) | (with_reducible apply IsBlk.set))); intro p_e hw' bk_; simp only [List.setIfInBounds_toArray, List.set_cons_zero, List.set_cons_succ] at bk_; replace HV := A_ (stored_S hw' HV.out (fun _ hk => hk.1.2)); replace HW := A_ (stored_below hw' HW.out GWgr.out); replace BKgr := Aside0.mk bk_; clear hw' bk_))
     refine bodyPost_ret (results_ct rfl _ _ gr 24 #[.string (⟨#[]⟩ : ByteArray), .string (⟨#[]⟩ : ByteArray), .string (⟨#[]⟩ : ByteArray), .slice none 0 0] (0, 0) _ rfl (by first | exact BKgr.out | exact blk_drew BKgr.out) Tryz.underlying24 rfl (by kernel_rfl)) rfl ?_
     exact ⟨_, by first | rfl | (simp; done), Kd.S_nil _ _ _ _ _, HW.out⟩
end Go.Proofs.YtegkokdncakadaaGreatDoor.Q
