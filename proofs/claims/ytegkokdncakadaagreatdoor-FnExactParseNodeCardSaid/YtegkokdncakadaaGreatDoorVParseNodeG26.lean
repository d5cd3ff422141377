-- PRINTED by print.py (a twelfth state) out of the translation. Not trusted: Lean checks it.
import Derived.Test.YtegkokdncakadaaGreatDoorVParseNodeG25
import Derived.Test.YtegkokdncakadaaGreatDoorProg
import Derived.Below
import Derived.Deep.Draws
import Derived.Deep.AppendLies
import Derived.Maps.AppendAt
import Derived.OwnWalk
import Derived.Laws.BytesArg
import Derived.Laws.MakeOwn
import Derived.Laws.OwnMore
import Derived.Deep.OwnRows
import Derived.Tactics
import Derived.Lib.ConvBytes
import Derived.Laws.Slices
import Derived.WalkKit
import Derived.KernelRfl
import Derived.RowKit3
import Derived.Deep.LoopGhost
import Derived.Deep.QuietTactic
import Derived.BigQuiet
import Derived.WideLaws
import Derived.Deep.DeepCutAuto
import Derived.Deep.CutBlock
import Derived.Deep.RegionHeld3
import Derived.Laws.Rows
import Derived.Lib.AppendStr
import Derived.ArgAppend
import Derived.Laws.IdiomCopy
import Derived.OrdersHeld
import Derived.Laws.BitsLemmas
import Derived.RowKit
set_option maxHeartbeats 8000000
set_option maxRecDepth 100000
namespace Go.Proofs.YtegkokdncakadaaGreatDoor.Q
open Go.RowKit Go.Proofs.YtegkokdncakadaaGreatDoorW.PrintWords Go.Proofs.YtegkokdncakadaaGreatDoorW.PrintLast Go.Proofs.YtegkokdncakadaaGreatDoorW.PrintMore
attribute [local go_sem] max2_int min2_int max_two min_two max_three min_three max_four min_four   -- for this text's walks alone
set_option linter.unusedVariables false
set_option linter.unusedSimpArgs false
def impl_Pieces.l0 : Nat → ByteArray → List (S82) → Option ((List (S82)) × Bool)
 | 0, _, _ => none
 | k + 1, x0, x4 => if x0.toList = ([] : List UInt8) then (some (x4, true)) else (if 0 < (x0.size : Int) then (if (bt x0 0) = 60 then ((impl_markAt.f k x0).bind fun bt261 => (if bt261.2.2.2.2.2.2 = true then (if (x4.length : Int) ≥ 60 then (some (([] : List (S82)), false)) else (if x4.length < 2199023255552 then (impl_Pieces.l0 k bt261.2.2.2.2.2.1 (x4 ++ [(⟨bt261.1, bt261.2.1, bt261.2.2.1, bt261.2.2.2.1, bt261.2.2.2.2.1⟩ : S82)])) else (none))) else (some (([] : List (S82)), false)))) else ((strings_IndexByte.f x0 60).bind fun t271 => (if t271 < 0 then (if 0 ≤ (x0.size : Int) then (if (x0.size : Int) ≤ (x0.size : Int) then ((impl_Unescape.f k (x0.extract 0 ((x0.size : Int) : Int).toNat)).bind fun bt272 => (if bt272.2 = true then (if (x4.length : Int) ≥ 60 then (some (([] : List (S82)), false)) else (if x4.length < 2199023255552 then (impl_Pieces.l0 k (x0.extract ((x0.size : Int) : Int).toNat x0.size) (x4 ++ [(⟨4, (⟨#[]⟩ : ByteArray), (⟨#[]⟩ : ByteArray), false, bt272.1⟩ : S82)])) else (none))) else (some (([] : List (S82)), false)))) else (none)) else (none)) else (if 0 ≤ t271 then (if t271 ≤ (x0.size : Int) then ((impl_Unescape.f k (x0.extract 0 (t271 : Int).toNat)).bind fun bt277 => (if bt277.2 = true then (if (x4.length : Int) ≥ 60 then (some (([] : List (S82)), false)) else (if x4.length < 2199023255552 then (impl_Pieces.l0 k (x0.extract (t271 : Int).toNat x0.size) (x4 ++ [(⟨4, (⟨#[]⟩ : ByteArray), (⟨#[]⟩ : ByteArray), false, bt277.1⟩ : S82)])) else (none))) else (some (([] : List (S82)), false)))) else (none)) else (none))))) else (none))
def impl_Pieces.f (k : Nat) (a0 : ByteArray) : Option ((List (S82)) × Bool) := (impl_Plain.f k a0).bind fun t259 => (if t259 = true then (impl_Pieces.l0 k a0 ([] : List (S82))) else (some (([] : List (S82)), false)))
theorem impl_Pieces.calls (k : Nat) (a0 : ByteArray) (r1 : List (S82)) (r2 : Bool) (w : World) (hGT : GT w) (hGM : GM w) (hGE : GE w) (h : impl_Pieces.f k a0 = some (r1, r2)) :
 Calls Tryz.prog 34 #[.string a0] w fun e w' => ∃ v0_ : Value, e = .returned (.tuple #[v0_, .bool r2]) ∧ Kd.R k82 82 w' w.heap.size (fun _ => True) v0_ r1 ∧ Below w.heap.size w w' := by
 have HGT := A_ hGT
 have HGM := A_ hGM
 have HGE := A_ hGE
 clear hGT hGM hGE
 have hu82 := Tryz.underlying82
 have HB := A_ (Below.refl w.heap.size w)
 have H : ((impl_Plain.f k a0).bind fun t92 => (if t92 = true then (impl_Pieces.l0 k a0 ([] : List (S82))) else (some (([] : List (S82)), false)))) = some (r1, r2) := h
 clear h
 obtain ⟨t92, A2, H⟩ := bo_ H
 (try dsimp only at H)
 by_cases c3 : t92 = true
 · subst c3
   rw [if_pos rfl] at H
   have H' := A_ H
   clear H
   go_enter Tryz.func34, Tryz.ntmps34
   go_wp2_with (first | ((with_reducible refine gc_ (f := 61) rfl ?_); refine gL_ (some 9) Tryz.func61 #[.string a0] ?_; (with_reducible refine (impl_Plain.calls k a0 true _ A2.out).mono ?_); rintro e w' ⟨rfl, ⟨nd, rfl⟩⟩; refine ⟨_, rfl, ?_⟩))
   go_loopg [0, 4] k (fun kq v0 v4 w' => ∃ (x0_1 : ByteArray) (x4_1 : List (S82)), v0 = .string x0_1 ∧ Aside0 (impl_Pieces.l0 kq x0_1 x4_1 = some (r1, r2)) ∧ Aside0 (kq ≤ k) ∧ Aside0 (Kd.R k82 82 w' w.heap.size (fun _ => True) v4 x4_1) ∧ Aside0 (Below w.heap.size w w'))
   case atStart => exact ⟨(a0), (([] : List (S82))), rs_, H', ⟨Nat.le_refl _⟩, ⟨by first | exact Kd.R_nil _ _ _ _ _ | exact Kd.N_nil _ _ _ _ _ | exact Kd.V_nil _ _ _ _ _ | exact Kd.Q_nil _ _ _ _ _ | exact Kd.S_nil _ _ _ _ _⟩, ⟨bB_⟩⟩
   case round =>
    clear H'
    try clear c3
    obtain ⟨x0_1, x4_1, rfl, HA, HK1, HO_4, HB⟩ := hrel
    cases gk with
    | zero => exact absurd HA.out (by simp [impl_Pieces.l0])
    | succ k1 =>
     have H := HA.out
     clear HA
     simp only [impl_Pieces.l0] at H
     by_cases c4 : x0_1.toList = ([] : List UInt8)
     · rw [if_pos c4] at H
       obtain ⟨c4b0, c4b1⟩ := eT_ c4
       clear c4
       simp only [Option.some.injEq, Prod.mk.injEq] at H
       obtain ⟨rfl, rfl⟩ := H
       go_wp2
       go_ret2
       exact ⟨_, rr_, vR_ HO_4.out, bB_⟩
     rw [if_neg c4] at H
     obtain ⟨c4b0, c4b1⟩ := eF_ c4
     by_cases c5 : 0 < (x0_1.size : Int)
     rotate_left
     · exact absurd H (by rw [if_neg c5]; simp)
     rw [if_pos c5] at H
     have c5b0 := decide_eq_true c5
     have c5b1 : decide (0 < x0_1.size) = true := decide_eq_true (by omega)
     clear c5
     by_cases c7 : (bt x0_1 0) = 60
     · rw [if_pos c7] at H
       obtain ⟨c7b0, c7b1⟩ := eT_ c7
       clear c7
       obtain ⟨⟨t80, t81, t83, t84, t85, t91, t93⟩, A8, H⟩ := bo_ H
       (try dsimp only at H)
       by_cases c9 : t93 = true
       · subst c9
         rw [if_pos rfl] at H
         by_cases c10 : (x4_1.length : Int) ≥ 60
         · rw [if_pos c10] at H
           have c10b0 : decide (60 ≤ (x4_1.length : Int)) = true := decide_eq_true c10
           have c10b1 : decide (60 ≤ x4_1.length) = true := decide_eq_true (by omega)
           clear c10
           simp only [Option.some.injEq, Prod.mk.injEq] at H
           obtain ⟨rfl, rfl⟩ := H
           go_wp2_with (first | ((with_reducible refine gd_ (N := 5) rfl ?_); (try (refine gate_guard (by rfl) ?_; dsimp only)); refine bx_ (N := 5) (cs := #[.int .i64 0, .string (⟨#[]⟩ : ByteArray), .string (⟨#[]⟩ : ByteArray), .bool false, .string (⟨#[]⟩ : ByteArray)]) (t := 82) ?_; intro gb78 hg w11 hbox hb; replace HO_4 := A_ (Kd.R_below (Kd.R_elderB (vR_ HO_4.out) gb78 (Nat.le_of_eq hg.symm)) hb); have BK78 := A_ (hbox); have GW78 := A_ (ge_ hg bB_ : w.heap.size ≤ gb78); have GE78 := A_ (ge_ hg bB_ : w.heap.size ≤ gb78); replace HB := A_ (below_step bB_ hb); clear hb hbox hg; have p6 : 0 ≤ (0 : Int) := (by omega); have q6 : 0 < x0_1.size := (by have : (0 : Int) < (x0_1.size : Int) := od_; omega); have hx6 : ∀ h : 0 < x0_1.size, ((x0_1[0]'h).toNat : Int) = bt x0_1 0 := bt_at x0_1 0; clear p6; have qi6 : (0 < (x0_1.size : Int)) = True := eq_true od_; replace q6 := eq_true q6) | ((with_reducible refine gc_ (f := 62) rfl ?_); refine gL_ (some 18) Tryz.func62 #[.string x0_1] ?_; (with_reducible refine (impl_markAt.calls k1 x0_1 t80 t81 t83 t84 t85 t91 true _ ?gT9 ?gM9 ?gE9 A8.out).mono ?_); (case gT9 => first | exact gT_ HGT.out (bG_ GE78.out) | exact gT_ HGT.out bB_); (case gM9 => first | exact gM_ HGM.out (bG_ GE78.out) | exact gM_ HGM.out bB_); (case gE9 => first | exact gE_ HGE.out (bG_ GE78.out) | exact gE_ HGE.out bB_); rintro e w12 ⟨rfl, hb⟩; refine ⟨_, rfl, ?_⟩; replace HO_4 := A_ (Kd.R_below (vR_ HO_4.out) hb); replace BK78 := A_ (bw_ BK78.out hb); replace HB := A_ (below_step (bG_ GE78.out) hb); clear hb; obtain ⟨hcz13_0, hcz13_1, hcz13_2, hcz13_3, hcz13_4, hfz13_0, hfz13_1, hfz13_2, hfz13_3, hfz13_4⟩ := cz5_ BK78.out; obtain ⟨Ao14, co14, eo14⟩ := Kd.R_slice HO_4.out; subst eo14))
           go_ret2
           exact ⟨_, rr_, by first | exact Kd.R_nil _ _ _ _ _ | exact Kd.N_nil _ _ _ _ _ | exact Kd.V_nil _ _ _ _ _ | exact Kd.Q_nil _ _ _ _ _ | exact Kd.S_nil _ _ _ _ _, bG_ GE78.out⟩
         rw [if_neg c10] at H
         have c10b0 : decide (60 ≤ (x4_1.length : Int)) = false := decide_eq_false c10
         have c10b1 : decide (60 ≤ x4_1.length) = false := decide_eq_false (by omega)
         clear c10
         by_cases c15 : x4_1.length < 2199023255552
         rotate_left
         · exact absurd H (by rw [if_neg c15]; simp)
         rw [if_pos c15] at H
         have LMc15 := A_ c15
         clear c15
         obtain ⟨y88, hy88⟩ : ∃ y_ : List (S82), y_ = (x4_1 ++ [(⟨t80, t81, t83, t84, t85⟩ : S82)]) := ⟨_, rfl⟩
         replace H : (impl_Pieces.l0 k1 t91 y88) = some (r1, r2) := hy_ hy88 H
         have Ny88 := A_ hy88
         clear hy88
         have H' := A_ H
         clear H
         go_wp2_with (first | ((with_reducible refine gd_ (N := 5) rfl ?_); (try (refine gate_guard (by rfl) ?_; dsimp only)); refine bx_ (N := 5) (cs := #[.int .i64 0, .string (⟨#[]⟩ : ByteArray), .string (⟨#[]⟩ : ByteArray), .bool false, .string (⟨#[]⟩ : ByteArray)]) (t := 82) ?_; intro gb78 hg w16 hbox hb; replace HO_4 := A_ (Kd.R_below (Kd.R_elderB (vR_ HO_4.out) gb78 (Nat.le_of_eq hg.symm)) hb); have BK78 := A_ (hbox); have GW78 := A_ (ge_ hg bB_ : w.heap.size ≤ gb78); have GE78 := A_ (ge_ hg bB_ : w.heap.size ≤ gb78); replace HB := A_ (below_step bB_ hb); clear hb hbox hg; have p6 : 0 ≤ (0 : Int) := (by omega); have q6 : 0 < x0_1.size := (by have : (0 : Int) < (x0_1.size : Int) := od_; omega); have hx6 : ∀ h : 0 < x0_1.size, ((x0_1[0]'h).toNat : Int) = bt x0_1 0 := bt_at x0_1 0; clear p6; have qi6 : (0 < (x0_1.size : Int)) = True := eq_true od_; replace q6 := eq_true q6) | ((with_reducible refine gc_ (f := 62) rfl ?_); refine gL_ (some 18) Tryz.func62 #[.string x0_1] ?_; (with_reducible refine (impl_markAt.calls k1 x0_1 t80 t81 t83 t84 t85 t91 true _ ?gT10 ?gM10 ?gE10 A8.out).mono ?_); (case gT10 => first | exact gT_ HGT.out (bG_ GE78.out) | exact gT_ HGT.out bB_); (case gM10 => first | exact gM_ HGM.out (bG_ GE78.out) | exact gM_ HGM.out bB_); (case gE10 => first | exact gE_ HGE.out (bG_ GE78.out) | exact gE_ HGE.out bB_); rintro e w17 ⟨rfl, hb⟩; refine ⟨_, rfl, ?_⟩; replace HO_4 := A_ (Kd.R_below (vR_ HO_4.out) hb); replace BK78 := A_ (bw_ BK78.out hb); replace HB := A_ (below_step (bG_ GE78.out) hb); (try clear hb); (try clear hk); obtain ⟨hcz18_0, hcz18_1, hcz18_2, hcz18_3, hcz18_4, hfz18_0, hfz18_1, hfz18_2, hfz18_3, hfz18_4⟩ := cz5_ BK78.out; obtain ⟨Ao19, co19, eo19⟩ := Kd.R_slice HO_4.out; subst eo19) | ((with_reducible refine gate_builtin (b := .append) (xs := #[.tmp 47, .tmp 49]) rfl ?_); (try (refine gate_guard (by rfl) ?_; dsimp only)); at_builtin; refine Kd.R_append k82 (w0 := w) w.heap.size rfl (.tmp 47) (.tmp 49) 51 82 (.agg #[(.int .i64 0), (.string ⟨#[]⟩), (.string ⟨#[]⟩), (.bool false), (.string ⟨#[]⟩)]) 64 rfl Tryz.underlying51 info82 rfl (by decide) (by omega) (.slice Ao19 x4_1.length co19) x4_1 (⟨t80, t81, t83, t84, t85⟩ : S82) [.int .i64 t80, .string t81, .string t83, .bool t84, .string t85] (fun k_ => k_ ≠ gb78) (fun _ => False) rfl (by first | (go_simp; done) | (go_simp; rfl)) ?aP (fun _ hk => hk.elim) ?aF ?aO ?aB ?aS ?aL ?_; (case aP => exact k82_mkM _ _ _ (⟨t80, t81, t83, t84, t85⟩ : S82)); (case aB => exact (bG_ GE78.out)); (case aF => exact (fun k_ hk => Kd.freshB (g := gb78) (o := .cells #[.int .i64 t80, .string t81, .string t83, .bool t84, .string t85] 82 (0, 0)) (by (with_reducible repeat (first | refine blk_drewN ?_ _ | refine blk_drew ?_ | refine blk_alloc ?_ _)); with_reducible exact p5_01234_ (vb_ BK78.out)) k_ hk)); (case aO => exact (by (with_reducible repeat (first | apply Kd.R_alloc | apply Kd.R_drewN | apply Kd.R_drew)); exact Kd.R_mono (Kd.R_far (p := ⟨gb78, 4, none⟩) (Kd.R_far (p := ⟨gb78, 3, none⟩) (Kd.R_far (p := ⟨gb78, 2, none⟩) (Kd.R_far (p := ⟨gb78, 1, none⟩) (Kd.R_far (p := ⟨gb78, 0, none⟩) (Kd.R_mono HO_4.out (fun k_ hk => (⟨hk, hk.2⟩ : _ ∧ k_ ≠ gb78))) (fun _ hk => hk.2) (.int .i64 t80)) (fun _ hk => hk.2) (.string t81)) (fun _ hk => hk.2) (.string t83)) (fun _ hk => hk.2) (.bool t84)) (fun _ hk => hk.2) (.string t85)) (fun _ hk => hk.1.2))); (case aS => exact (below_size (bG_ GE78.out))); (case aL => have := LMc15.out; omega); intro v99 w20 ho hb hg hat; rw [← Ny88.out] at ho; replace HB := A_ (hb); have HO94 := A_ (ho); clear HO_4; clear ho hb hg hat))
         go_roundg k1
         case measure => have := HK1.out; omega
         case rel => exact ⟨(t91), (y88), rs_, H', ⟨by have := HK1.out; omega⟩, ⟨by (with_reducible repeat (first | apply Kd.R_alloc | apply Kd.R_drewN | apply Kd.R_drew)); exact Kd.R_mono HO94.out (fun _ hk => trivial)⟩, ⟨bG_ GE78.out⟩⟩
       · replace c9 := Bool.eq_false_iff.mpr c9
         subst c9
         rw [if_neg nf_] at H
         simp only [Option.some.injEq, Prod.mk.injEq] at H
         obtain ⟨rfl, rfl⟩ := H
         go_wp2_with (first | ((with_reducible refine gd_ (N := 5) rfl ?_); (try (refine gate_guard (by rfl) ?_; dsimp only)); refine bx_ (N := 5) (cs := #[.int .i64 0, .string (⟨#[]⟩ : ByteArray), .string (⟨#[]⟩ : ByteArray), .bool false, .string (⟨#[]⟩ : ByteArray)]) (t := 82) ?_; intro gb78 hg w21 hbox hb; have BK78 := A_ (hbox); have GW78 := A_ (ge_ hg bB_ : w.heap.size ≤ gb78); have GE78 := A_ (ge_ hg bB_ : w.heap.size ≤ gb78); replace HB := A_ (below_step bB_ hb); clear hb hbox hg; have p6 : 0 ≤ (0 : Int) := (by omega); have q6 : 0 < x0_1.size := (by have : (0 : Int) < (x0_1.size : Int) := od_; omega); have hx6 : ∀ h : 0 < x0_1.size, ((x0_1[0]'h).toNat : Int) = bt x0_1 0 := bt_at x0_1 0; clear p6; have qi6 : (0 < (x0_1.size : Int)) = True := eq_true od_; replace q6 := eq_true q6) | ((with_reducible refine gc_ (f := 62) rfl ?_); refine gL_ (some 18) Tryz.func62 #[.string x0_1] ?_; (with_reducible refine (impl_markAt.calls k1 x0_1 t80 t81 t83 t84 t85 t91 false _ ?gT11 ?gM11 ?gE11 A8.out).mono ?_); (case gT11 => first | exact gT_ HGT.out (bG_ GE78.out) | exact gT_ HGT.out bB_); (case gM11 => first | exact gM_ HGM.out (bG_ GE78.out) | exact gM_ HGM.out bB_); (case gE11 => first | exact gE_ HGE.out (bG_ GE78.out) | exact gE_ HGE.out bB_); rintro e w22 ⟨rfl, hb⟩; refine ⟨_, rfl, ?_⟩; replace BK78 := A_ (bw_ BK78.out hb); replace HB := A_ (below_step (bG_ GE78.out) hb); clear hb; obtain ⟨hcz23_0, hcz23_1, hcz23_2, hcz23_3, hcz23_4, hfz23_0, hfz23_1, hfz23_2, hfz23_3, hfz23_4⟩ := cz5_ BK78.out))
         go_ret2
         exact ⟨_, rr_, by first | exact Kd.R_nil _ _ _ _ _ | exact Kd.N_nil _ _ _ _ _ | exact Kd.V_nil _ _ _ _ _ | exact Kd.Q_nil _ _ _ _ _ | exact Kd.S_nil _ _ _ _ _, bG_ GE78.out⟩
     rw [if_neg c7] at H
     obtain ⟨c7b0, c7b1⟩ := eF_ c7
     obtain ⟨t79, A24, H⟩ := bo_ H
     (try dsimp only at H)
     by_cases c25 : t79 < 0
     rotate_left
     · rw [if_neg c25] at H
       have c25b0 := decide_eq_false c25
       clear c25
       by_cases c52 : 0 ≤ t79
       rotate_left
       · exact absurd H (by rw [if_neg c52]; simp)
       rw [if_pos c52] at H
       have c52b0 := eq_true c52
       have c52b1 := decide_eq_true c52
       clear c52
       by_cases c53 : t79 ≤ (x0_1.size : Int)
       rotate_left
       · exact absurd H (by rw [if_neg c53]; simp)
       rw [if_pos c53] at H
       have c53b0 := eq_true c53
       have c53b1 := decide_eq_true c53
       clear c53
       obtain ⟨⟨t86, t95⟩, A54, H⟩ := bo_ H
       (try dsimp only at H)
       have c55b0 := eq_true (od_ : 0 ≤ t79)
       have c56b0 := eq_true (od_ : t79 ≤ (x0_1.size : Int))
       by_cases c57 : t95 = true
       · subst c57
         rw [if_pos rfl] at H
         by_cases c58 : (x4_1.length : Int) ≥ 60
         · rw [if_pos c58] at H
           have c58b0 : decide (60 ≤ (x4_1.length : Int)) = true := decide_eq_true c58
           have c58b1 : decide (60 ≤ x4_1.length) = true := decide_eq_true (by omega)
           clear c58
           simp only [Option.some.injEq, Prod.mk.injEq] at H
           obtain ⟨rfl, rfl⟩ := H
           go_wp2_with (first | ((with_reducible refine gd_ (N := 5) rfl ?_); (try (refine gate_guard (by rfl) ?_; dsimp only)); refine bx_ (N := 5) (cs := #[.int .i64 0, .string (⟨#[]⟩ : ByteArray), .string (⟨#[]⟩ : ByteArray), .bool false, .string (⟨#[]⟩ : ByteArray)]) (t := 82) ?_; intro gb78 hg w59 hbox hb; replace HO_4 := A_ (Kd.R_below (Kd.R_elderB (vR_ HO_4.out) gb78 (Nat.le_of_eq hg.symm)) hb); have BK78 := A_ (hbox); have GW78 := A_ (ge_ hg bB_ : w.heap.size ≤ gb78); have GE78 := A_ (ge_ hg bB_ : w.heap.size ≤ gb78); replace HB := A_ (below_step bB_ hb); clear hb hbox hg; have p6 : 0 ≤ (0 : Int) := (by omega); have q6 : 0 < x0_1.size := (by have : (0 : Int) < (x0_1.size : Int) := od_; omega); have hx6 : ∀ h : 0 < x0_1.size, ((x0_1[0]'h).toNat : Int) = bt x0_1 0 := bt_at x0_1 0; clear p6; have qi6 : (0 < (x0_1.size : Int)) = True := eq_true od_; replace q6 := eq_true q6) | ((with_reducible refine gc_ (f := 63) rfl ?_); refine gL_ (some 23) Tryz.func63 #[.string x0_1, .int .u8 60] ?_; (with_reducible refine (strings_IndexByte.calls x0_1 60 t79 _ A24.out).mono ?_); rintro e w60 ⟨rfl, hb⟩; refine ⟨_, rfl, ?_⟩; replace HO_4 := A_ (Kd.R_below (vR_ HO_4.out) hb); replace BK78 := A_ (bw_ BK78.out hb); replace HB := A_ (below_step (bG_ GE78.out) hb); (try clear hb); (try clear hk); obtain ⟨hcz61_0, hcz61_1, hcz61_2, hcz61_3, hcz61_4, hfz61_0, hfz61_1, hfz61_2, hfz61_3, hfz61_4⟩ := cz5_ BK78.out) | ((with_reducible refine gc_ (f := 64) rfl ?_); refine gL_ (some 33) Tryz.func64 #[.string (x0_1.extract 0 (t79 : Int).toNat)] ?_; (with_reducible refine (impl_Unescape.calls k1 (x0_1.extract 0 (t79 : Int).toNat) t86 true _ ?gT15 ?gM15 ?gE15 A54.out).mono ?_); (case gT15 => first | exact gT_ HGT.out (bG_ GE78.out) | exact gT_ HGT.out bB_); (case gM15 => first | exact gM_ HGM.out (bG_ GE78.out) | exact gM_ HGM.out bB_); (case gE15 => first | exact gE_ HGE.out (bG_ GE78.out) | exact gE_ HGE.out bB_); rintro e w62 ⟨rfl, hb⟩; refine ⟨_, rfl, ?_⟩; replace HO_4 := A_ (Kd.R_below (by (with_reducible repeat (first | apply Kd.R_alloc | apply Kd.R_drewN | apply Kd.R_drew)); exact (Kd.R_mono (Kd.R_far (p := ⟨gb78, 0, none⟩) (Kd.R_mono HO_4.out (fun k_ hk => (⟨hk, hk.2⟩ : _ ∧ k_ ≠ gb78))) (fun _ hk => hk.2) (.int .i64 4)) (fun _ h_ => h_.1))) hb); replace BK78 := A_ (blk_below (g := gb78) (o := .cells #[.int .i64 4, .string (⟨#[]⟩ : ByteArray), .string (⟨#[]⟩ : ByteArray), .bool false, .string (⟨#[]⟩ : ByteArray)] 82 (0, 0)) (by (with_reducible repeat (first | refine blk_drewN ?_ _ | refine blk_drew ?_ | refine blk_alloc ?_ _)); with_reducible exact p5_0_ (vb_ BK78.out)) hb); replace HB := A_ (below_step (bG_ GE78.out) hb); (try clear hb); (try clear hk); obtain ⟨hcz63_0, hcz63_1, hcz63_2, hcz63_3, hcz63_4, hfz63_0, hfz63_1, hfz63_2, hfz63_3, hfz63_4⟩ := cz5_ BK78.out; obtain ⟨Ao64, co64, eo64⟩ := Kd.R_slice HO_4.out; subst eo64))
           go_ret2
           exact ⟨_, rr_, by first | exact Kd.R_nil _ _ _ _ _ | exact Kd.N_nil _ _ _ _ _ | exact Kd.V_nil _ _ _ _ _ | exact Kd.Q_nil _ _ _ _ _ | exact Kd.S_nil _ _ _ _ _, bG_ GE78.out⟩
         rw [if_neg c58] at H
         have c58b0 : decide (60 ≤ (x4_1.length : Int)) = false := decide_eq_false c58
         have c58b1 : decide (60 ≤ x4_1.length) = false := decide_eq_false (by omega)
         clear c58
         by_cases c65 : x4_1.length < 2199023255552
         rotate_left
         · exact absurd H (by rw [if_neg c65]; simp)
         rw [if_pos c65] at H
         have LMc65 := A_ c65
         clear c65
         obtain ⟨y89, hy89⟩ : ∃ y_ : List (S82), y_ = (x4_1 ++ [(⟨4, (⟨#[]⟩ : ByteArray), (⟨#[]⟩ : ByteArray), false, t86⟩ : S82)]) := ⟨_, rfl⟩
         replace H : (impl_Pieces.l0 k1 (x0_1.extract (t79 : Int).toNat x0_1.size) y89) = some (r1, r2) := hy_ hy89 H
         have Ny89 := A_ hy89
         clear hy89
         have H' := A_ H
         clear H
         go_wp2_with (first | ((with_reducible refine gd_ (N := 5) rfl ?_); (try (refine gate_guard (by rfl) ?_; dsimp only)); refine bx_ (N := 5) (cs := #[.int .i64 0, .string (⟨#[]⟩ : ByteArray), .string (⟨#[]⟩ : ByteArray), .bool false, .string (⟨#[]⟩ : ByteArray)]) (t := 82) ?_; intro gb78 hg w66 hbox hb; replace HO_4 := A_ (Kd.R_below (Kd.R_elderB (vR_ HO_4.out) gb78 (Nat.le_of_eq hg.symm)) hb); have BK78 := A_ (hbox); have GW78 := A_ (ge_ hg bB_ : w.heap.size ≤ gb78); have GE78 := A_ (ge_ hg bB_ : w.heap.size ≤ gb78); replace HB := A_ (below_step bB_ hb); clear hb hbox hg; have p6 : 0 ≤ (0 : Int) := (by omega); have q6 : 0 < x0_1.size := (by have : (0 : Int) < (x0_1.size : Int) := od_; omega); have hx6 : ∀ h : 0 < x0_1.size, ((x0_1[0]'h).toNat : Int) = bt x0_1 0 := bt_at x0_1 0; clear p6; have qi6 : (0 < (x0_1.size : Int)) = True := eq_true od_; replace q6 := eq_true q6) | ((with_reducible refine gc_ (f := 63) rfl ?_); refine gL_ (some 23) Tryz.func63 #[.string x0_1, .int .u8 60] ?_; (with_reducible refine (strings_IndexByte.calls x0_1 60 t79 _ A24.out).mono ?_); rintro e w67 ⟨rfl, hb⟩; refine ⟨_, rfl, ?_⟩; replace HO_4 := A_ (Kd.R_below (vR_ HO_4.out) hb); replace BK78 := A_ (bw_ BK78.out hb); replace HB := A_ (below_step (bG_ GE78.out) hb); (try clear hb); (try clear hk); obtain ⟨hcz68_0, hcz68_1, hcz68_2, hcz68_3, hcz68_4, hfz68_0, hfz68_1, hfz68_2, hfz68_3, hfz68_4⟩ := cz5_ BK78.out) | ((with_reducible refine gc_ (f := 64) rfl ?_); refine gL_ (some 33) Tryz.func64 #[.string (x0_1.extract 0 (t79 : Int).toNat)] ?_; (with_reducible refine (impl_Unescape.calls k1 (x0_1.extract 0 (t79 : Int).toNat) t86 true _ ?gT16 ?gM16 ?gE16 A54.out).mono ?_); (case gT16 => first | exact gT_ HGT.out (bG_ GE78.out) | exact gT_ HGT.out bB_); (case gM16 => first | exact gM_ HGM.out (bG_ GE78.out) | exact gM_ HGM.out bB_); (case gE16 => first | exact gE_ HGE.out (bG_ GE78.out) | exact gE_ HGE.out bB_); rintro e w69 ⟨rfl, hb⟩; refine ⟨_, rfl, ?_⟩; replace HO_4 := A_ (Kd.R_below (by (with_reducible repeat (first | apply Kd.R_alloc | apply Kd.R_drewN | apply Kd.R_drew)); exact (Kd.R_mono (Kd.R_far (p := ⟨gb78, 0, none⟩) (Kd.R_mono HO_4.out (fun k_ hk => (⟨hk, hk.2⟩ : _ ∧ k_ ≠ gb78))) (fun _ hk => hk.2) (.int .i64 4)) (fun _ h_ => h_.1))) hb); replace BK78 := A_ (blk_below (g := gb78) (o := .cells #[.int .i64 4, .string (⟨#[]⟩ : ByteArray), .string (⟨#[]⟩ : ByteArray), .bool false, .string (⟨#[]⟩ : ByteArray)] 82 (0, 0)) (by (with_reducible repeat (first | refine blk_drewN ?_ _ | refine blk_drew ?_ | refine blk_alloc ?_ _)); with_reducible exact p5_0_ (vb_ BK78.out)) hb); replace HB := A_ (below_step (bG_ GE78.out) hb); (try clear hb); (try clear hk); obtain ⟨hcz70_0, hcz70_1, hcz70_2, hcz70_3, hcz70_4, hfz70_0, hfz70_1, hfz70_2, hfz70_3, hfz70_4⟩ := cz5_ BK78.out; obtain ⟨Ao71, co71, eo71⟩ := Kd.R_slice HO_4.out; subst eo71) | ((with_reducible refine gate_builtin (b := .append) (xs := #[.tmp 47, .tmp 49]) rfl ?_); (try (refine gate_guard (by rfl) ?_; dsimp only)); at_builtin; refine Kd.R_append k82 (w0 := w) w.heap.size rfl (.tmp 47) (.tmp 49) 51 82 (.agg #[(.int .i64 0), (.string ⟨#[]⟩), (.string ⟨#[]⟩), (.bool false), (.string ⟨#[]⟩)]) 64 rfl Tryz.underlying51 info82 rfl (by decide) (by omega) (.slice Ao71 x4_1.length co71) x4_1 (⟨4, (⟨#[]⟩ : ByteArray), (⟨#[]⟩ : ByteArray), false, t86⟩ : S82) [.int .i64 4, .string (⟨#[]⟩ : ByteArray), .string (⟨#[]⟩ : ByteArray), .bool false, .string t86] (fun k_ => k_ ≠ gb78) (fun _ => False) rfl (by first | (go_simp; done) | (go_simp; rfl)) ?aP (fun _ hk => hk.elim) ?aF ?aO ?aB ?aS ?aL ?_; (case aP => exact k82_mkM _ _ _ (⟨4, (⟨#[]⟩ : ByteArray), (⟨#[]⟩ : ByteArray), false, t86⟩ : S82)); (case aB => exact (bG_ GE78.out)); (case aF => exact (fun k_ hk => Kd.freshB (g := gb78) (o := .cells #[.int .i64 4, .string (⟨#[]⟩ : ByteArray), .string (⟨#[]⟩ : ByteArray), .bool false, .string t86] 82 (0, 0)) (by (with_reducible repeat (first | refine blk_drewN ?_ _ | refine blk_drew ?_ | refine blk_alloc ?_ _)); with_reducible exact p5_4_ (vb_ BK78.out)) k_ hk)); (case aO => exact (by (with_reducible repeat (first | apply Kd.R_alloc | apply Kd.R_drewN | apply Kd.R_drew)); exact Kd.R_mono (Kd.R_far (p := ⟨gb78, 4, none⟩) (Kd.R_mono HO_4.out (fun k_ hk => (⟨hk, hk.2⟩ : _ ∧ k_ ≠ gb78))) (fun _ hk => hk.2) (.string t86)) (fun _ hk => hk.1.2))); (case aS => exact (below_size (bG_ GE78.out))); (case aL => have := LMc65.out; omega); intro v1d w72 ho hb hg hat; rw [← Ny89.out] at ho; replace HB := A_ (hb); have HO96 := A_ (ho); clear HO_4; clear ho hb hg hat))
         go_roundg k1
         case measure => have := HK1.out; omega
         case rel => exact ⟨(x0_1.extract (t79 : Int).toNat x0_1.size), (y89), rs_, H', ⟨by have := HK1.out; omega⟩, ⟨by (with_reducible repeat (first | apply Kd.R_alloc | apply Kd.R_drewN | apply Kd.R_drew)); exact Kd.R_mono HO96.out (fun _ hk => trivial)⟩, ⟨bG_ GE78.out⟩⟩
       · replace c57 := Bool.eq_false_iff.mpr c57
         subst c57
         rw [if_neg nf_] at H
         simp only [Option.some.injEq, Prod.mk.injEq] at H
         obtain ⟨rfl, rfl⟩ := H
         go_wp2_with (first | ((with_reducible refine gd_ (N := 5) rfl ?_); (try (refine gate_guard (by rfl) ?_; dsimp only)); refine bx_ (N := 5) (cs := #[.int .i64 0, .string (⟨#[]⟩ : ByteArray), .string (⟨#[]⟩ : ByteArray), .bool false, .string (⟨#[]⟩ : ByteArray)]) (t := 82) ?_; intro gb78 hg w73 hbox hb; have BK78 := A_ (hbox); have GW78 := A_ (ge_ hg bB_ : w.heap.size ≤ gb78); have GE78 := A_ (ge_ hg bB_ : w.heap.size ≤ gb78); replace HB := A_ (below_step bB_ hb); clear hb hbox hg; have p6 : 0 ≤ (0 : Int) := (by omega); have q6 : 0 < x0_1.size := (by have : (0 : Int) < (x0_1.size : Int) := od_; omega); have hx6 : ∀ h : 0 < x0_1.size, ((x0_1[0]'h).toNat : Int) = bt x0_1 0 := bt_at x0_1 0; clear p6; have qi6 : (0 < (x0_1.size : Int)) = True := eq_true od_; replace q6 := eq_true q6) | ((with_reducible refine gc_ (f := 63) rfl ?_); refine gL_ (some 23) Tryz.func63 #[.string x0_1, .int .u8 60] ?_; (with_reducible refine (strings_IndexByte.calls x0_1 60 t79 _ A24.out).mono ?_); rintro e w74 ⟨rfl, hb⟩; refine ⟨_, rfl, ?_⟩; replace BK78 := A_ (bw_ BK78.out hb); replace HB := A_ (below_step (bG_ GE78.out) hb); (try clear hb); (try clear hk); obtain ⟨hcz75_0, hcz75_1, hcz75_2, hcz75_3, hcz75_4, hfz75_0, hfz75_1, hfz75_2, hfz75_3, hfz75_4⟩ := cz5_ BK78.out) | ((with_reducible refine gc_ (f := 64) rfl ?_); refine gL_ (some 33) Tryz.func64 #[.string (x0_1.extract 0 (t79 : Int).toNat)] ?_; (with_reducible refine (impl_Unescape.calls k1 (x0_1.extract 0 (t79 : Int).toNat) t86 false _ ?gT17 ?gM17 ?gE17 A54.out).mono ?_); (case gT17 => first | exact gT_ HGT.out (bG_ GE78.out) | exact gT_ HGT.out bB_); (case gM17 => first | exact gM_ HGM.out (bG_ GE78.out) | exact gM_ HGM.out bB_); (case gE17 => first | exact gE_ HGE.out (bG_ GE78.out) | exact gE_ HGE.out bB_); rintro e w76 ⟨rfl, hb⟩; refine ⟨_, rfl, ?_⟩; replace BK78 := A_ (blk_below (g := gb78) (o := .cells #[.int .i64 4, .string (⟨#[]⟩ : ByteArray), .string (⟨#[]⟩ : ByteArray), .bool false, .string (⟨#[]⟩ : ByteArray)] 82 (0, 0)) (by (with_reducible repeat (first | refine blk_drewN ?_ _ | refine blk_drew ?_ | refine blk_alloc ?_ _)); with_reducible exact p5_0_ (vb_ BK78.out)) hb); replace HB := A_ (below_step (bG_ GE78.out) hb); (try clear hb); (try clear hk); obtain ⟨hcz77_0, hcz77_1, hcz77_2, hcz77_3, hcz77_4, hfz77_0, hfz77_1, hfz77_2, hfz77_3, hfz77_4⟩ := cz5_ BK78.out))
         go_ret2
         exact ⟨_, rr_, by first | exact Kd.R_nil _ _ _ _ _ | exact Kd.N_nil _ _ _ _ _ | exact Kd.V_nil _ _ _ _ _ | exact Kd.Q_nil _ _ _ _ _ | exact Kd.S_nil _ _ _ _ _, bG_ GE78.out⟩
     rw [if_pos c25] at H
     have c25b0 := decide_eq_true c25
     clear c25
     by_cases c26 : 0 ≤ (x0_1.size : Int)
     rotate_left
     · exact absurd H (by rw [if_neg c26]; simp)
     rw [if_pos c26] at H
     have c26b0 := eq_true c26
     have c26b1 := decide_eq_true c26
     clear c26
     by_cases c27 : (x0_1.size : Int) ≤ (x0_1.size : Int)
     rotate_left
     · exact absurd H (by rw [if_neg c27]; simp)
     rw [if_pos c27] at H
     have c27b0 := eq_true c27
     have c27b1 := decide_eq_true c27
     clear c27
     obtain ⟨⟨t87, t97⟩, A28, H⟩ := bo_ H
     (try dsimp only at H)
     have c29b0 := eq_true (od_ : 0 ≤ (x0_1.size : Int))
     have c30b0 := eq_true (od_ : (x0_1.size : Int) ≤ (x0_1.size : Int))
     by_cases c31 : t97 = true
     · subst c31
       rw [if_pos rfl] at H
       by_cases c32 : (x4_1.length : Int) ≥ 60
       · rw [if_pos c32] at H
         have c32b0 : decide (60 ≤ (x4_1.length : Int)) = true := decide_eq_true c32
         have c32b1 : decide (60 ≤ x4_1.length) = true := decide_eq_true (by omega)
         clear c32
         simp only [Option.some.injEq, Prod.mk.injEq] at H
         obtain ⟨rfl, rfl⟩ := H
         have hxx_ : x0_1.extract 0 ((x0_1.size : Int) : Int).toNat = x0_1 := by
          rw [Int.toNat_natCast]; exact ByteArray.extract_zero_size
         rw [hxx_] at A28
         clear hxx_
         go_wp2_with (first | ((with_reducible refine gd_ (N := 5) rfl ?_); (try (refine gate_guard (by rfl) ?_; dsimp only)); refine bx_ (N := 5) (cs := #[.int .i64 0, .string (⟨#[]⟩ : ByteArray), .string (⟨#[]⟩ : ByteArray), .bool false, .string (⟨#[]⟩ : ByteArray)]) (t := 82) ?_; intro gb78 hg w33 hbox hb; replace HO_4 := A_ (Kd.R_below (Kd.R_elderB (vR_ HO_4.out) gb78 (Nat.le_of_eq hg.symm)) hb); have BK78 := A_ (hbox); have GW78 := A_ (ge_ hg bB_ : w.heap.size ≤ gb78); have GE78 := A_ (ge_ hg bB_ : w.heap.size ≤ gb78); replace HB := A_ (below_step bB_ hb); clear hb hbox hg; have p6 : 0 ≤ (0 : Int) := (by omega); have q6 : 0 < x0_1.size := (by have : (0 : Int) < (x0_1.size : Int) := od_; omega); have hx6 : ∀ h : 0 < x0_1.size, ((x0_1[0]'h).toNat : Int) = bt x0_1 0 := bt_at x0_1 0; clear p6; have qi6 : (0 < (x0_1.size : Int)) = True := eq_true od_; replace q6 := eq_true q6) | ((with_reducible refine gc_ (f := 63) rfl ?_); refine gL_ (some 23) Tryz.func63 #[.string x0_1, .int .u8 60] ?_; (with_reducible refine (strings_IndexByte.calls x0_1 60 t79 _ A24.out).mono ?_); rintro e w34 ⟨rfl, hb⟩; refine ⟨_, rfl, ?_⟩; replace HO_4 := A_ (Kd.R_below (vR_ HO_4.out) hb); replace BK78 := A_ (bw_ BK78.out hb); replace HB := A_ (below_step (bG_ GE78.out) hb); (try clear hb); (try clear hk); obtain ⟨hcz35_0, hcz35_1, hcz35_2, hcz35_3, hcz35_4, hfz35_0, hfz35_1, hfz35_2, hfz35_3, hfz35_4⟩ := cz5_ BK78.out) | ((with_reducible refine gc_ (f := 64) rfl ?_); refine gL_ (some 33) Tryz.func64 #[.string x0_1] ?_; (with_reducible refine (impl_Unescape.calls k1 x0_1 t87 true _ ?gT12 ?gM12 ?gE12 A28.out).mono ?_); (case gT12 => first | exact gT_ HGT.out (bG_ GE78.out) | exact gT_ HGT.out bB_); (case gM12 => first | exact gM_ HGM.out (bG_ GE78.out) | exact gM_ HGM.out bB_); (case gE12 => first | exact gE_ HGE.out (bG_ GE78.out) | exact gE_ HGE.out bB_); rintro e w36 ⟨rfl, hb⟩; refine ⟨_, rfl, ?_⟩; replace HO_4 := A_ (Kd.R_below (by (with_reducible repeat (first | apply Kd.R_alloc | apply Kd.R_drewN | apply Kd.R_drew)); exact (Kd.R_mono (Kd.R_far (p := ⟨gb78, 0, none⟩) (Kd.R_mono HO_4.out (fun k_ hk => (⟨hk, hk.2⟩ : _ ∧ k_ ≠ gb78))) (fun _ hk => hk.2) (.int .i64 4)) (fun _ h_ => h_.1))) hb); replace BK78 := A_ (blk_below (g := gb78) (o := .cells #[.int .i64 4, .string (⟨#[]⟩ : ByteArray), .string (⟨#[]⟩ : ByteArray), .bool false, .string (⟨#[]⟩ : ByteArray)] 82 (0, 0)) (by (with_reducible repeat (first | refine blk_drewN ?_ _ | refine blk_drew ?_ | refine blk_alloc ?_ _)); with_reducible exact p5_0_ (vb_ BK78.out)) hb); replace HB := A_ (below_step (bG_ GE78.out) hb); (try clear hb); (try clear hk); obtain ⟨hcz37_0, hcz37_1, hcz37_2, hcz37_3, hcz37_4, hfz37_0, hfz37_1, hfz37_2, hfz37_3, hfz37_4⟩ := cz5_ BK78.out; obtain ⟨Ao38, co38, eo38⟩ := Kd.R_slice HO_4.out; subst eo38))
         go_ret2
         exact ⟨_, rr_, by first | exact Kd.R_nil _ _ _ _ _ | exact Kd.N_nil _ _ _ _ _ | exact Kd.V_nil _ _ _ _ _ | exact Kd.Q_nil _ _ _ _ _ | exact Kd.S_nil _ _ _ _ _, bG_ GE78.out⟩
       rw [if_neg c32] at H
       have c32b0 : decide (60 ≤ (x4_1.length : Int)) = false := decide_eq_false c32
       have c32b1 : decide (60 ≤ x4_1.length) = false := decide_eq_false (by omega)
       clear c32
       by_cases c39 : x4_1.length < 2199023255552
       rotate_left
       · exact absurd H (by rw [if_neg c39]; simp)
       rw [if_pos c39] at H
       have LMc39 := A_ c39
       clear c39
       obtain ⟨y90, hy90⟩ : ∃ y_ : List (S82), y_ = (x4_1 ++ [(⟨4, (⟨#[]⟩ : ByteArray), (⟨#[]⟩ : ByteArray), false, t87⟩ : S82)]) := ⟨_, rfl⟩
       replace H : (impl_Pieces.l0 k1 (x0_1.extract ((x0_1.size : Int) : Int).toNat x0_1.size) y90) = some (r1, r2) := hy_ hy90 H
       have Ny90 := A_ hy90
       clear hy90
       have H' := A_ H
       clear H
       have hxx_ : x0_1.extract 0 ((x0_1.size : Int) : Int).toNat = x0_1 := by
        rw [Int.toNat_natCast]; exact ByteArray.extract_zero_size
       rw [hxx_] at A28
       clear hxx_
       go_wp2_with (first | ((with_reducible refine gd_ (N := 5) rfl ?_); (try (refine gate_guard (by rfl) ?_; dsimp only)); refine bx_ (N := 5) (cs := #[.int .i64 0, .string (⟨#[]⟩ : ByteArray), .string (⟨#[]⟩ : ByteArray), .bool false, .string (⟨#[]⟩ : ByteArray)]) (t := 82) ?_; intro gb78 hg w40 hbox hb; replace HO_4 := A_ (Kd.R_below (Kd.R_elderB (vR_ HO_4.out) gb78 (Nat.le_of_eq hg.symm)) hb); have BK78 := A_ (hbox); have GW78 := A_ (ge_ hg bB_ : w.heap.size ≤ gb78); have GE78 := A_ (ge_ hg bB_ : w.heap.size ≤ gb78); replace HB := A_ (below_step bB_ hb); clear hb hbox hg; have p6 : 0 ≤ (0 : Int) := (by omega); have q6 : 0 < x0_1.size := (by have : (0 : Int) < (x0_1.size : Int) := od_; omega); have hx6 : ∀ h : 0 < x0_1.size, ((x0_1[0]'h).toNat : Int) = bt x0_1 0 := bt_at x0_1 0; clear p6; have qi6 : (0 < (x0_1.size : Int)) = True := eq_true od_; replace q6 := eq_true q6) | ((with_reducible refine gc_ (f := 63) rfl ?_); refine gL_ (some 23) Tryz.func63 #[.string x0_1, .int .u8 60] ?_; (with_reducible refine (strings_IndexByte.calls x0_1 60 t79 _ A24.out).mono ?_); rintro e w41 ⟨rfl, hb⟩; refine ⟨_, rfl, ?_⟩; replace HO_4 := A_ (Kd.R_below (vR_ HO_4.out) hb); replace BK78 := A_ (bw_ BK78.out hb); replace HB := A_ (below_step (bG_ GE78.out) hb); (try clear hb); (try clear hk); obtain ⟨hcz42_0, hcz42_1, hcz42_2, hcz42_3, hcz42_4, hfz42_0, hfz42_1, hfz42_2, hfz42_3, hfz42_4⟩ := cz5_ BK78.out) | ((with_reducible refine gc_ (f := 64) rfl ?_); refine gL_ (some 33) Tryz.func64 #[.string x0_1] ?_; (with_reducible refine (impl_Unescape.calls k1 x0_1 t87 true _ ?gT13 ?gM13 ?gE13 A28.out).mono ?_); (case gT13 => first | exact gT_ HGT.out (bG_ GE78.out) | exact gT_ HGT.out bB_); (case gM13 => first | exact gM_ HGM.out (bG_ GE78.out) | exact gM_ HGM.out bB_); (case gE13 => first | exact gE_ HGE.out (bG_ GE78.out) | exact gE_ HGE.out bB_); rintro e w43 ⟨rfl, hb⟩; refine ⟨_, rfl, ?_⟩; replace HO_4 := A_ (Kd.R_below (by (with_reducible repeat (first | apply Kd.R_alloc | apply Kd.R_drewN | apply Kd.R_drew)); exact (Kd.R_mono (Kd.R_far (p := ⟨gb78, 0, none⟩) (Kd.R_mono HO_4.out (fun k_ hk => (⟨hk, hk.2⟩ : _ ∧ k_ ≠ gb78))) (fun _ hk => hk.2) (.int .i64 4)) (fun _ h_ => h_.1))) hb); replace BK78 := A_ (blk_below (g := gb78) (o := .cells #[.int .i64 4, .string (⟨#[]⟩ : ByteArray), .string (⟨#[]⟩ : ByteArray), .bool false, .string (⟨#[]⟩ : ByteArray)] 82 (0, 0)) (by (with_reducible repeat (first | refine blk_drewN ?_ _ | refine blk_drew ?_ | refine blk_alloc ?_ _)); with_reducible exact p5_0_ (vb_ BK78.out)) hb); replace HB := A_ (below_step (bG_ GE78.out) hb); (try clear hb); (try clear hk); obtain ⟨hcz44_0, hcz44_1, hcz44_2, hcz44_3, hcz44_4, hfz44_0, hfz44_1, hfz44_2, hfz44_3, hfz44_4⟩ := cz5_ BK78.out; obtain ⟨Ao45, co45, eo45⟩ := Kd.R_slice HO_4.out; subst eo45) | ((with_reducible refine gate_builtin (b := .append) (xs := #[.tmp 47, .tmp 49]) rfl ?_); (try (refine gate_guard (by rfl) ?_; dsimp only)); at_builtin; refine Kd.R_append k82 (w0 := w) w.heap.size rfl (.tmp 47) (.tmp 49) 51 82 (.agg #[(.int .i64 0), (.string ⟨#[]⟩), (.string ⟨#[]⟩), (.bool false), (.string ⟨#[]⟩)]) 64 rfl Tryz.underlying51 info82 rfl (by decide) (by omega) (.slice Ao45 x4_1.length co45) x4_1 (⟨4, (⟨#[]⟩ : ByteArray), (⟨#[]⟩ : ByteArray), false, t87⟩ : S82) [.int .i64 4, .string (⟨#[]⟩ : ByteArray), .string (⟨#[]⟩ : ByteArray), .bool false, .string t87] (fun k_ => k_ ≠ gb78) (fun _ => False) rfl (by first | (go_simp; done) | (go_simp; rfl)) ?aP (fun _ hk => hk.elim) ?aF ?aO ?aB ?aS ?aL ?_; (case aP => exact k82_mkM _ _ _ (⟨4, (⟨#[]⟩ : ByteArray), (⟨#[]⟩ : ByteArray), false, t87⟩ : S82)); (case aB => exact (bG_ GE78.out)); (case aF => exact (fun k_ hk => Kd.freshB (g := gb78) (o := .cells #[.int .i64 4, .string (⟨#[]⟩ : ByteArray), .string (⟨#[]⟩ : ByteArray), .bool false, .string t87] 82 (0, 0)) (by (with_reducible repeat (first | refine blk_drewN ?_ _ | refine blk_drew ?_ | refine blk_alloc ?_ _)); with_reducible exact p5_4_ (vb_ BK78.out)) k_ hk)); (case aO => exact (by (with_reducible repeat (first | apply Kd.R_alloc | apply Kd.R_drewN | apply Kd.R_drew)); exact Kd.R_mono (Kd.R_far (p := ⟨gb78, 4, none⟩) (Kd.R_mono HO_4.out (fun k_ hk => (⟨hk, hk.2⟩ : _ ∧ k_ ≠ gb78))) (fun _ hk => hk.2) (.string t87)) (fun _ hk => hk.1.2))); (case aS => exact (below_size (bG_ GE78.out))); (case aL => have := LMc39.out; omega); intro v2d w46 ho hb hg hat; rw [← Ny90.out] at ho; replace HB := A_ (hb); have HO98 := A_ (ho); clear HO_4; clear ho hb hg hat))
       go_roundg k1
       case measure => have := HK1.out; omega
       case rel => exact ⟨(x0_1.extract ((x0_1.size : Int) : Int).toNat x0_1.size), (y90), rs_, H', ⟨by have := HK1.out; omega⟩, ⟨by (with_reducible repeat (first | apply Kd.R_alloc | apply Kd.R_drewN | apply Kd.R_drew)); exact Kd.R_mono HO98.out (fun _ hk => trivial)⟩, ⟨bG_ GE78.out⟩⟩
     · replace c31 := Bool.eq_false_iff.mpr c31
       subst c31
       rw [if_neg nf_] at H
       simp only [Option.some.injEq, Prod.mk.injEq] at H
       obtain ⟨rfl, rfl⟩ := H
       have hxx_ : x0_1.extract 0 ((x0_1.size : Int) : Int).toNat = x0_1 := by
        rw [Int.toNat_natCast]; exact ByteArray.extract_zero_size
       rw [hxx_] at A28
       clear hxx_
       go_wp2_with (first | ((with_reducible refine gd_ (N := 5) rfl ?_); (try (refine gate_guard (by rfl) ?_; dsimp only)); refine bx_ (N := 5) (cs := #[.int .i64 0, .string (⟨#[]⟩ : ByteArray), .string (⟨#[]⟩ : ByteArray), .bool false, .string (⟨#[]⟩ : ByteArray)]) (t := 82) ?_; intro gb78 hg w47 hbox hb; have BK78 := A_ (hbox); have GW78 := A_ (ge_ hg bB_ : w.heap.size ≤ gb78); have GE78 := A_ (ge_ hg bB_ : w.heap.size ≤ gb78); replace HB := A_ (below_step bB_ hb); clear hb hbox hg; have p6 : 0 ≤ (0 : Int) := (by omega); have q6 : 0 < x0_1.size := (by have : (0 : Int) < (x0_1.size : Int) := od_; omega); have hx6 : ∀ h : 0 < x0_1.size, ((x0_1[0]'h).toNat : Int) = bt x0_1 0 := bt_at x0_1 0; clear p6; have qi6 : (0 < (x0_1.size : Int)) = True := eq_true od_; replace q6 := eq_true q6) | ((with_reducible refine gc_ (f := 63) rfl ?_); refine gL_ (some 23) Tryz.func63 #[.string x0_1, .int .u8 60] ?_; (with_reducible refine (strings_IndexByte.calls x0_1 60 t79 _ A24.out).mono ?_); rintro e w48 ⟨rfl, hb⟩; refine ⟨_, rfl, ?_⟩; replace BK78 := A_ (bw_ BK78.out hb); replace HB := A_ (below_step (bG_ GE78.out) hb); (try clear hb); (try clear hk); obtain ⟨hcz49_0, hcz49_1, hcz49_2, hcz49_3, hcz49_4, hfz49_0, hfz49_1, hfz49_2, hfz49_3, hfz49_4⟩ := cz5_ BK78.out) | ((with_reducible refine gc_ (f := 64) rfl ?_); refine gL_ (some 33) Tryz.func64 #[.string x0_1] ?_; (with_reducible refine (impl_Unescape.calls k1 x0_1 t87 false _ ?gT14 ?gM14 ?gE14 A28.out).mono ?_); (case gT14 => first | exact gT_ HGT.out (bG_ GE78.out) | exact gT_ HGT.out bB_); (case gM14 => first | exact gM_ HGM.out (bG_ GE78.out) | exact gM_ HGM.out bB_); (case gE14 => first | exact gE_ HGE.out (bG_ GE78.out) | exact gE_ HGE.out bB_); rintro e w50 ⟨rfl, hb⟩; refine ⟨_, rfl, ?_⟩; replace BK78 := A_ (blk_below (g := gb78) (o := .cells #[.int .i64 4, .string (⟨#[]⟩ : ByteArray), .string (⟨#[]⟩ : ByteArray), .bool false, .string (⟨#[]⟩ : ByteArray)] 82 (0, 0)) (by (with_reducible repeat (first | refine blk_drewN ?_ _ | refine blk_drew ?_ | refine blk_alloc ?_ _)); with_reducible exact p5_0_ (vb_ BK78.out)) hb); replace HB := A_ (below_step (bG_ GE78.out) hb); (try clear hb); (try clear hk); obtain ⟨hcz51_0, hcz51_1, hcz51_2, hcz51_3, hcz51_4, hfz51_0, hfz51_1, hfz51_2, hfz51_3, hfz51_4⟩ := cz5_ BK78.out))
       go_ret2
       exact ⟨_, rr_, by first | exact Kd.R_nil _ _ _ _ _ | exact Kd.N_nil _ _ _ _ _ | exact Kd.V_nil _ _ _ _ _ | exact Kd.Q_nil _ _ _ _ _ | exact Kd.S_nil _ _ _ _ _, bG_ GE78.out⟩
 · replace c3 := Bool.eq_false_iff.mpr c3
   subst c3
   rw [if_neg nf_] at H
   simp only [Option.some.injEq, Prod.mk.injEq] at H
   obtain ⟨rfl, rfl⟩ := H
   go_enter Tryz.func34, Tryz.ntmps34
   go_wp2_with (first | ((with_reducible refine gc_ (f := 61) rfl ?_); refine gL_ (some 9) Tryz.func61 #[.string a0] ?_; (with_reducible refine (impl_Plain.calls k a0 false _ A2.out).mono ?_); rintro e w' ⟨rfl, ⟨nd, rfl⟩⟩; refine ⟨_, rfl, ?_⟩))
   go_ret2
   exact ⟨_, rr_, by first | exact Kd.R_nil _ _ _ _ _ | exact Kd.N_nil _ _ _ _ _ | exact Kd.V_nil _ _ _ _ _ | exact Kd.Q_nil _ _ _ _ _ | exact Kd.S_nil _ _ _ _ _, bB_⟩
def impl_isBlank.f (a0 : ByteArray) : Option (Bool) := (strings_Trim.f a0 (⟨#[32]⟩ : ByteArray)).bind fun t282 => (some (t282.toList == ([] : List UInt8)))
theorem impl_isBlank.calls (a0 : ByteArray) (r : Bool) (w : World) (h : impl_isBlank.f a0 = some r) :
 Calls Tryz.prog 65 #[.string a0] w fun e w' => e = .returned (.bool r) ∧ Below w.heap.size w w' := by
 have HB := A_ (Below.refl w.heap.size w)
 have H : ((strings_Trim.f a0 (⟨#[32]⟩ : ByteArray)).bind fun t1 => (some (t1.toList == ([] : List UInt8)))) = some r := h
 clear h
 obtain ⟨t1, A2, H⟩ := bo_ H
 (try dsimp only at H)
 obtain rfl := si_ H
 go_enter Tryz.func65, Tryz.ntmps65
 go_wp2_with (first | ((with_reducible refine gc_ (f := 88) rfl ?_); refine gL_ (some 4) Tryz.func88 #[.string a0, .string (⟨#[32]⟩ : ByteArray)] ?_; (with_reducible refine (strings_Trim.calls a0 (⟨#[32]⟩ : ByteArray) t1 _ A2.out).mono ?_); rintro e w3 ⟨rfl, hb⟩; refine ⟨_, rfl, ?_⟩; replace HB := A_ (below_step bB_ hb); clear hb))
 go_ret
 (try rw [show (t1.toList == ([] : List UInt8)) = t1.toList.isEmpty from by cases t1.toList <;> rfl])   -- as the walk has it
 exact ⟨rr_, bB_⟩
def laws_markText.l0 : Nat → Int → ByteArray → Option (ByteArray)
 | 0, _, _ => none
 | k + 1, x0, x3 => if x0 > 0 then ((some (([(wrap64 (48 + (Int.tmod x0 10))) % 256] : List Int) : List Int)).bind fun y321 => (if (strOfNums y321).size + x3.size ≤ 9223372036854775807 then (laws_markText.l0 k (wrap64 (Int.tdiv x0 10)) ((strOfNums y321) ++ x3)) else (none))) else (if 1 + x3.size ≤ 9223372036854775807 then (some ((⟨#[109]⟩ : ByteArray) ++ x3)) else (none))
def laws_markText.f (k : Nat) (a0 : Int) : Option (ByteArray) := if a0 ≤ 0 then (some (⟨#[109, 48]⟩ : ByteArray)) else (laws_markText.l0 k a0 (⟨#[]⟩ : ByteArray))
theorem laws_markText.mono_l : ∀ k, (∀ y0 y1, LeO (laws_markText.l0 k y0 y1) (laws_markText.l0 (k + 1) y0 y1))
 | 0 => fun _ _ r h => by simp [laws_markText.l0] at h
 | k + 1 => by
  have ih0 := laws_markText.mono_l k
  · intro y0 y1
    unfold laws_markText.l0
    repeat' first
    | (with_reducible exact ih0 _ _)
    | (with_reducible exact LeO.refl _)
    | (with_reducible exact LeO.none _)
    | (with_reducible refine LeO.ite ?_ ?_)
    | (with_reducible refine LeO.bind ?_ (fun _ => ?_))
    | exact ih0 _ _
    | exact LeO.none _
    | refine LeO.ite ?_ ?_
    | refine LeO.bind ?_ (fun _ => ?_)
theorem laws_markText.mono : ∀ a0 k, LeO (laws_markText.f k a0) (laws_markText.f (k + 1) a0) := by
 intro a0 k
 have ih0 := laws_markText.mono_l k
 unfold laws_markText.f
 repeat' first
  | (with_reducible exact ih0 _ _)
  | (with_reducible exact LeO.refl _)
  | (with_reducible exact LeO.none _)
  | (with_reducible refine LeO.ite ?_ ?_)
  | (with_reducible refine LeO.bind ?_ (fun _ => ?_))
  | exact ih0 _ _
  | exact LeO.none _
  | refine LeO.ite ?_ ?_
  | refine LeO.bind ?_ (fun _ => ?_)
theorem laws_markText.calls (k : Nat) (a0 : Int) (r : ByteArray) (w : World) (h : laws_markText.f k a0 = some r) :
 Calls Tryz.prog 66 #[.int .i64 a0] w fun e w' => e = .returned (.string r) ∧ Below w.heap.size w w' := by
 have HB := A_ (Below.refl w.heap.size w)
 have H : (if a0 ≤ 0 then (some (⟨#[109, 48]⟩ : ByteArray)) else (laws_markText.l0 k a0 (⟨#[]⟩ : ByteArray))) = some r := h
 clear h
 by_cases c2 : a0 ≤ 0
 · rw [if_pos c2] at H
   have c2b0 := decide_eq_true c2
   clear c2
   obtain rfl := si_ H
   go_enter Tryz.func66, Tryz.ntmps66
   go_wp2
   go_ret
   exact ⟨rr_, bB_⟩
 rw [if_neg c2] at H
 have c2b0 := decide_eq_false c2
 clear c2
 have H' := A_ H
 clear H
 go_enter Tryz.func66, Tryz.ntmps66
 go_wp2
 go_loopg [0, 3] k (fun kq v0 v3 w' => ∃ (x0_1 : Int) (x3_1 : ByteArray), v0 = .int .i64 x0_1 ∧ v3 = .string x3_1 ∧ Aside0 (laws_markText.l0 kq x0_1 x3_1 = some r) ∧ Aside0 (kq ≤ k) ∧ Aside0 (Below w.heap.size w w'))
 case atStart => exact ⟨(a0), ((⟨#[]⟩ : ByteArray)), rs_, rs_, H', ⟨Nat.le_refl _⟩, ⟨bB_⟩⟩
 case round =>
  clear H'
  try clear c2
  try clear c2b0
  obtain ⟨x0_1, x3_1, rfl, rfl, HA, HK1, HB⟩ := hrel
  cases gk with
  | zero => exact absurd HA.out (by simp [laws_markText.l0])
  | succ k1 =>
   have H := HA.out
   clear HA
   simp only [laws_markText.l0] at H
   by_cases c3 : x0_1 > 0
   rotate_left
   · rw [if_neg c3] at H
     have c3b0 : decide (0 < x0_1) = false := decide_eq_false c3
     clear c3
     by_cases c8 : 1 + x3_1.size ≤ 9223372036854775807
     rotate_left
     · exact absurd H (by rw [if_neg c8]; simp)
     rw [if_pos c8] at H
     have c8b0 := eq_true c8
     have c8b1 := decide_eq_true c8
     try have c8b2 : (9223372036854775807 < 1 + x3_1.size) = False := eq_false (Nat.not_lt.2 c8)
     obtain rfl := si_ H
     go_wp2
     go_ret
     exact ⟨rr_, bB_⟩
   rw [if_pos c3] at H
   have c3b0 : decide (0 < x0_1) = true := decide_eq_true c3
   clear c3
   obtain ⟨y9, hy9⟩ : ∃ y_ : List Int, y_ = (([(wrap64 (48 + (Int.tmod x0_1 10))) % 256] : List Int)) := ⟨_, rfl⟩
   replace H : (if (strOfNums y9).size + x3_1.size ≤ 9223372036854775807 then (laws_markText.l0 k1 (wrap64 (Int.tdiv x0_1 10)) ((strOfNums y9) ++ x3_1)) else (none)) = some r := hy_ hy9 H
   have Ny9 := A_ hy9
   clear hy9
   by_cases c4 : (strOfNums y9).size + x3_1.size ≤ 9223372036854775807
   rotate_left
   · exact absurd H (by rw [if_neg c4]; simp)
   rw [if_pos c4] at H
   have c4b0 := eq_true c4
   have c4b1 := decide_eq_true c4
   try have c4b2 : (9223372036854775807 < (strOfNums y9).size + x3_1.size) = False := eq_false (Nat.not_lt.2 c4)
   have H' := A_ H
   clear H
   go_wp2_with (first | ((with_reducible refine gd_ (N := 12) rfl ?_); refine Kd.R_lit (Kd.int .u8) _ 5 ?hg (N := 12) ?hd (xs := ([(wrap64 (48 + (Int.tmod x0_1 10))) % 256] : List Int)) (inner := [.int .u8 ((wrap64 (48 + (Int.tmod x0_1 10))) % 256)]) (ok := fun _ => True) (okp := fun _ => True) ?hr ?hp (fun _ hk => hk) trivial (Below.refl _ _) (Nat.le_refl _) (by simp) ?_; (case hd => rfl); (case hg => rfl); (case hr => first | (go_simp; done) | (go_simp; rfl)); (case hp => exact (Reps.one (show Kd.M (Kd.int .u8) _ _ _ ((wrap64 (48 + (Int.tmod x0_1 10))) % 256) [.int .u8 ((wrap64 (48 + (Int.tmod x0_1 10))) % 256)] from rfl) (Reps.none _ _))); intro v11 w5 ho6 hb hg_ hnew_; clear hg_ hnew_; (first | rw [← Ny9.out] at ho6 | (simp only [Int.reduceToNat] at ho6; rw [← Ny9.out] at ho6)); have HO10 := A_ (Kd.R_lower ho6 (below_size bB_)); replace HB := A_ (below_step bB_ hb); clear hb ho6; have hcv7 := own_string (P := Tryz.prog) Tryz.underlying30 Tryz.underlying5 Tryz.underlying9 (Kd.own_of_R HO10.out)))
   go_roundg k1
   case measure => have := HK1.out; omega
   case rel => exact ⟨(wrap64 (Int.tdiv x0_1 10)), ((strOfNums y9) ++ x3_1), rs_, rs_, H', ⟨by have := HK1.out; omega⟩, ⟨bB_⟩⟩
end Go.Proofs.YtegkokdncakadaaGreatDoor.Q

/- Nodes whose kids' rows lie apart at every depth: a kind of its own. No condition. -/
set_option linter.unusedSimpArgs false
set_option linter.unusedVariables false
namespace Go.Proofs.YtegkokdncakadaaGreatDoor.Q
open Go.RowKit Go.Proofs.YtegkokdncakadaaGreatDoorW.PrintWords Go.Proofs.YtegkokdncakadaaGreatDoorW.PrintLast
section
variable {α : Type} {d d' : Kd α} {e : Nat} {w : World} {base : Nat} {ok : Nat → Prop} {v : Value} {xs : List α}
def sliceA (e : Nat) (d : Kd α) : Kd (List α) where
  sz := 1
  E := e :: d.E
  K := (Kd.slice e d).K
  M := fun w base ok xs cs => ∃ v, cs = [v] ∧ Kd.S d e w base ok v xs
  K_len := (Kd.slice e d).K_len
  K_one := (Kd.slice e d).K_one
  K_below := (Kd.slice e d).K_below
  K_of_M := by
    rintro w base ok x cs ⟨v, rfl, h⟩
    exact (Kd.slice e d).K_of_M ⟨v, rfl, Kd.S_R h⟩
  M_mono := by
    rintro w base ok ok' x cs hok ⟨v, rfl, h⟩
    exact ⟨v, rfl, Kd.S_mono h hok⟩
  M_bound := by
    rintro w base ok x cs ⟨v, rfl, h⟩
    exact ⟨v, rfl, Kd.S_bound h⟩
  M_move := by
    rintro w w1 base ok x cs hm ⟨v, rfl, h⟩
    exact ⟨v, rfl, Kd.S_move h hm⟩
  M_lower := by
    rintro w base base' ok x cs hb ⟨v, rfl, h⟩
    exact ⟨v, rfl, Kd.S_lower h hb⟩
theorem S_imp (hs : d.sz = d'.sz) (h : ∀ w base ok x cs, d.M w base ok x cs → d'.M w base ok x cs) (hr : Kd.S d e w base ok v xs) : Kd.S d' e w base ok v xs := by
  obtain ⟨f, hr⟩ := hr
  exact ⟨f, Kd.R_imp (d := Kd.tag f d) (d' := Kd.tag f d') hs (fun w base ok x cs hp => h _ _ _ _ _ hp) hr⟩
theorem mono_sliceA (e : Nat) : Kd.Mono (fun d : Kd α => sliceA e d) := by
  refine ⟨fun _ _ _ => rfl, fun d d' hs h w x cs hk => (Kd.mono_slice e Kd.mono_id).K d d' hs h w x cs hk, ?_⟩
  rintro d d' hs h w base ok x cs ⟨v, rfl, hr⟩
  exact ⟨v, rfl, S_imp hs h hr⟩
theorem sub_sliceA {E : List Nat} (e : Nat) (he : e ∈ E) : Kd.Sub (fun d : Kd α => sliceA e d) E := fun d h q hq => by
  rcases List.mem_cons.1 hq with rfl | hq
  · exact he
  · exact h q hq
end
def FA (d : Kd S24) : Kd S24 := Kd.iso (Kd.pair Kd.string (Kd.pair Kd.string (Kd.pair Kd.string (sliceA 24 d)))) (fun x : S24 => (x.f0, x.f1, x.f2, x.f3))
theorem monoA : Kd.Mono FA := Kd.mono_iso _ (Kd.mono_pair (Kd.mono_const _) (Kd.mono_pair (Kd.mono_const _) (Kd.mono_pair (Kd.mono_const _) (mono_sliceA 24))))
theorem subA : Kd.Sub FA [24] := Kd.sub_iso _ (Kd.sub_pair (Kd.sub_const _ (by decide)) (Kd.sub_pair (Kd.sub_const _ (by decide)) (Kd.sub_pair (Kd.sub_const _ (by decide)) (sub_sliceA 24 (by decide)))))
theorem szA : ∀ n, (Kd.upto FA 4 [24] n).sz = 4 := Kd.upto_sz (fun _ => rfl)
def kB : Kd S24 := Kd.fix FA 4 [24] szA (Kd.upto_E subA)
theorem upto_KA : ∀ n {w x cs}, (Kd.upto FA 4 [24] n).K w x cs → (Kd.upto F24 4 [24] n).K w x cs
  | 0, _, _, _, h => h.elim
  | n + 1, _, _, _, h => mono24.K (Kd.upto FA 4 [24] n) (Kd.upto F24 4 [24] n) (by rw [szA n, sz24 n]) (fun _ _ _ hp => upto_KA n hp) _ _ _ h
def kA : Kd S24 where
  sz := k24.sz
  E := k24.E
  K := k24.K
  M := kB.M
  K_len := k24.K_len
  K_one := k24.K_one
  K_below := k24.K_below
  K_of_M := by
    rintro w base ok x cs ⟨n, h⟩
    exact ⟨n, upto_KA n ((Kd.upto FA 4 [24] n).K_of_M h)⟩
  M_mono := kB.M_mono
  M_bound := kB.M_bound
  M_move := kB.M_move
  M_lower := kB.M_lower
theorem kA_openM {w : World} {base : Nat} {ok : Nat → Prop} {x : S24} {cs : List Value} (h : kA.M w base ok x cs) : ∃ v3, cs = [.string x.f0, .string x.f1, .string x.f2, v3] ∧ Kd.S kA 24 w base ok v3 x.f3 := by
  obtain ⟨n, h⟩ := h
  cases n with
  | zero => exact h.elim
  | succ n =>
    obtain ⟨_, _, rfl, rfl, _, _, rfl, rfl, _, _, rfl, rfl, v3, rfl, g⟩ := h
    exact ⟨v3, rfl, S_imp (d' := kA) (szA n) (fun _ _ _ _ _ hp => ⟨n, hp⟩) g⟩
theorem SA_back {w : World} {base : Nat} {ok : Nat → Prop} {v : Value} {xs : List S24} (h : Kd.S kA 24 w base ok v xs) : ∃ n, Kd.S (Kd.upto FA 4 [24] n) 24 w base ok v xs := by
  obtain ⟨f, h0, inner, ho, hr⟩ := h
  obtain ⟨N, hN⟩ := Kd.reps_bounded (R := fun n p c => (Kd.tag f (Kd.upto FA 4 [24] n)).M w base (fun k => ok k ∧ some k ≠ v.ownBlock) p c) (fun n m p c hnm hp => Kd.upto_M_le monoA szA hnm hp) hr
  refine ⟨N, f, h0, inner, ?_, ?_⟩
  · show w.ownsRow base 24 (Kd.upto FA 4 [24] N).sz v xs.zipIdx.length inner
    rw [szA N]; exact ho
  · show Reps _ (Kd.upto FA 4 [24] N).sz xs.zipIdx inner
    rw [szA N]; exact hN
theorem kA_mkM (w : World) (base : Nat) (ok : Nat → Prop) (x : S24) {v3 : Value} (g : Kd.S kA 24 w base ok v3 x.f3) : kA.M w base ok x [.string x.f0, .string x.f1, .string x.f2, v3] := by
  obtain ⟨n, q⟩ := SA_back g
  exact ⟨n + 1, [.string x.f0], [.string x.f1, .string x.f2, v3], rfl, rfl, [.string x.f1], [.string x.f2, v3], rfl, rfl, [.string x.f2], [v3], rfl, rfl, v3, rfl, q⟩
end Go.Proofs.YtegkokdncakadaaGreatDoor.Q

/- The contracts of laws.markNodeS and laws.markNode: what they write of nodes whose rows lie apart at every depth. No condition. -/
set_option linter.unusedVariables false
set_option linter.unusedSimpArgs false
namespace Go.Proofs.YtegkokdncakadaaGreatDoor.Q
open Go.RowKit Go.Proofs.YtegkokdncakadaaGreatDoorW.PrintWords Go.Proofs.YtegkokdncakadaaGreatDoorW.PrintLast
def laws_markNodeS.l0 : Nat → List (S24) → Int → Int → Option (Int × List (S24))
 | 0, _, _, _ => none
 | k + 1, x0, x1, x5 => if x5 < (x0.length : Int) then (if 0 ≤ x5 then ((laws_markText.f k x1).bind fun t1 => ((laws_markText.f k (wrap64 (x1 + 1))).bind fun t2 => ((laws_markText.f k (wrap64 ((wrap64 (x1 + 1)) + 1))).bind fun t3 => ((laws_markNodeS.l0 k ((rd_T24 x0 x5).f3) (wrap64 ((wrap64 ((wrap64 (x1 + 1)) + 1)) + 1)) 0).bind fun b4 => (laws_markNodeS.l0 k (x0.set (x5 : Int).toNat (⟨t1, t2, t3, b4.2⟩ : S24)) b4.1 (wrap64 (x5 + 1))))))) else none) else (some (x1, x0))
def laws_markNodeS.f (k : Nat) (l0 : List (S24)) (a1 : Int) : Option (Int × List (S24)) := laws_markNodeS.l0 k l0 a1 0
theorem markNodeS_cells {α : Type} {d : Kd α} {e g n cap : Nat} {w : World} {base : Nat} {ok oki : Nat → Prop} {xs : List α} {i : Int} {c : List Value} (h : Kd.H d e w base ok (.slice (some ⟨g, 0, none⟩) n cap) xs i oki c) (h0 : 0 ≤ i) (h1 : i < n) : (∀ j u, c[j]? = some u → w.cell? ⟨g, i.toNat * d.sz + j, none⟩ = some u) ∧ (∀ j, w.frozen? ⟨g, i.toNat * d.sz + j, none⟩ = false) := by
 obtain ⟨rows, _, hraw, _, _, hcc, _⟩ := Kd.H_raw h h0 h1
 obtain ⟨_, _, _, _, hfr⟩ := Kd.R_elem hraw [] i h0 h1
 exact ⟨hcc, hfr⟩
set_option maxHeartbeats 16000000 in
set_option maxRecDepth 100000 in
theorem laws_markNodeS.calls (k : Nat) : ∀ (P0_ : Nat → Prop) (u9000_ : Value) (l0 : List (S24)) (a1 : Int) (r1 : Int) (r2 : List (S24)) (w0 w : World) (hB : Below w0.heap.size w0 w) (ho0 : Kd.S kA 24 w w0.heap.size P0_ u9000_ l0) (h : laws_markNodeS.f k l0 a1 = some (r1, r2)),
 Calls Tryz.prog 38 #[u9000_, .int .i64 a1] w fun e w' => e = .returned (.int .i64 r1) ∧ Kd.S kA 24 w' w0.heap.size P0_ u9000_ r2 ∧ Below w0.heap.size w0 w' ∧ Kept w w' P0_ := by
 induction k using Nat.strongRecOn with
 | _ k ih =>
 intro P0_ u9000_ l0 a1 r1 r2 w0 w hB ho0 h
 obtain ⟨A0, c0, rfl⟩ := Kd.S_slice ho0
 have HO := A_ ho0
 have HB := A_ hB
 have HK := A_ (Kept.refl w P0_)
 clear hB ho0
 have H' : Aside0 (laws_markNodeS.l0 k l0 a1 0 = some (r1, r2)) := ⟨h⟩
 clear h
 go_enter Tryz.func38, Tryz.ntmps38
 go_wp2
 go_loopg [1, 5] k (fun kq v1 v5 w' => ∃ (x0_1 : List (S24)) (x1_1 : Int) (x5_1 : Int), v1 = .int .i64 x1_1 ∧ v5 = .int .i64 x5_1 ∧ Aside0 (laws_markNodeS.l0 kq x0_1 x1_1 x5_1 = some (r1, r2)) ∧ Aside0 (kq ≤ k) ∧ Aside0 (Kd.S kA 24 w' w0.heap.size P0_ (.slice A0 l0.length c0) x0_1) ∧ Aside0 (x0_1.length = l0.length) ∧ Aside0 (Below w0.heap.size w0 w') ∧ Aside0 (Kept w w' P0_))
 case atStart => exact ⟨l0, a1, 0, rfl, rfl, H', ⟨Nat.le_refl _⟩, HO, ⟨rfl⟩, HB, HK⟩
 case round =>
  clear H' HO HB HK
  obtain ⟨x0, x1, x5, rfl, rfl, HA, HK1, HO, HL, HB, HK⟩ := hrel
  cases gk with
  | zero => exact absurd HA.out (by simp [laws_markNodeS.l0])
  | succ k1 =>
   have H := HA.out
   clear HA
   simp only [laws_markNodeS.l0] at H
   by_cases c3 : x5 < (x0.length : Int)
   rotate_left
   · rw [if_neg c3] at H
     have c3b0 : decide (x5 < (l0.length : Int)) = false := decide_eq_false (by rw [← HL.out]; exact c3)
     obtain ⟨rfl, rfl⟩ := Prod.mk.inj (Option.some.inj H)
     go_wp2
     go_ret
     exact ⟨rfl, HO.out, HB.out, HK.out⟩
   rw [if_pos c3] at H
   have c3' : x5 < (l0.length : Int) := by rw [← HL.out]; exact c3
   have c3b0 : decide (x5 < (l0.length : Int)) = true := decide_eq_true c3'
   by_cases c4 : 0 ≤ x5
   rotate_left
   · rw [if_neg c4] at H
     exact absurd H (by simp)
   rw [if_pos c4] at H
   have c4b0 := decide_eq_true c4
   replace H := Option.bind_eq_some_iff.mp H
   obtain ⟨t1, A0_, H⟩ := H
   have At1 := A_ A0_
   clear A0_
   replace H := Option.bind_eq_some_iff.mp H
   obtain ⟨t2, A0_, H⟩ := H
   have At2 := A_ A0_
   clear A0_
   replace H := Option.bind_eq_some_iff.mp H
   obtain ⟨t3, A0_, H⟩ := H
   have At3 := A_ A0_
   clear A0_
   replace H := Option.bind_eq_some_iff.mp H
   obtain ⟨⟨t4a, t4b⟩, A0_, H⟩ := H
   dsimp only at H
   have At4a : Aside0 (laws_markNodeS.f k1 ((rd_T24 x0 x5).f3) (wrap64 ((wrap64 ((wrap64 (x1 + 1)) + 1)) + 1)) = some (t4a, t4b)) := ⟨A0_⟩
   clear A0_
   have H' : Aside0 ((laws_markNodeS.l0 k1 (x0.set (x5 : Int).toNat (⟨t1, t2, t3, t4b⟩ : S24)) t4a (wrap64 (x5 + 1))) = some (r1, r2)) := ⟨H⟩
   clear H
   obtain ⟨g, cap, ev, hgb, hgl, _⟩ := Kd.S_form HO.out (by omega)
   injection ev with eA en ec
   subst eA
   subst ec
   clear en
   obtain ⟨oki, c, hcl, hM, hcc, hfr, hoki, hH⟩ := Kd.S_elem HO.out z24 x5 c4 c3'
   obtain ⟨v3, rfl, g3⟩ := kA_openM hM
   obtain ⟨Av3, cv3, rfl⟩ := Kd.S_slice g3
   have HP3 : Aside0 (Kd.S kA 24 wr w0.heap.size oki (.slice Av3 (rd_T24 x0 x5).f3.length cv3 : Value) ((rd_T24 x0 x5).f3)) := ⟨g3⟩
   have HH : Aside0 (Kd.H kA 24 wr w0.heap.size P0_ (.slice (some ⟨g, 0, none⟩) l0.length c0) x0 x5 oki [.string (rd_T24 x0 x5).f0, .string (rd_T24 x0 x5).f1, .string (rd_T24 x0 x5).f2, (.slice Av3 (rd_T24 x0 x5).f3.length cv3 : Value)]) := ⟨hH⟩
   have HN := A_ (fun k_ (h_ : oki k_) => (hoki k_ h_).2)
   have HQ := A_ (fun k_ (h_ : oki k_) => (hoki k_ h_).1)
   have HG : Aside0 (P0_ g) := ⟨(Kd.S_R HO.out).1 g rfl⟩
   have GB := A_ hgb
   clear hcl hM hcc hfr hoki hH hgb hgl HO g3
   have hc_ := markNodeS_cells HH.out c4 c3'
   have hx0 : wr.cell? ⟨g, (x5 : Int).toNat * 4, none⟩ = some (.string (rd_T24 x0 x5).f0) := hc_.1 0 _ rfl
   have hx1 : wr.cell? ⟨g, (x5 : Int).toNat * 4 + 1, none⟩ = some (.string (rd_T24 x0 x5).f1) := hc_.1 1 _ rfl
   have hx2 : wr.cell? ⟨g, (x5 : Int).toNat * 4 + 2, none⟩ = some (.string (rd_T24 x0 x5).f2) := hc_.1 2 _ rfl
   have hx3 : wr.cell? ⟨g, (x5 : Int).toNat * 4 + 3, none⟩ = some ((.slice Av3 (rd_T24 x0 x5).f3.length cv3 : Value)) := hc_.1 3 _ rfl
   have hf0 : wr.frozen? ⟨g, (x5 : Int).toNat * 4, none⟩ = false := hc_.2 0
   have hf1 : wr.frozen? ⟨g, (x5 : Int).toNat * 4 + 1, none⟩ = false := hc_.2 1
   have hf2 : wr.frozen? ⟨g, (x5 : Int).toNat * 4 + 2, none⟩ = false := hc_.2 2
   have hf3 : wr.frozen? ⟨g, (x5 : Int).toNat * 4 + 3, none⟩ = false := hc_.2 3
   clear hc_
   have c3k := A_ c3'
   have c4k := A_ c4
   replace c3 := eq_true c3'
   replace c4 := eq_true c4
   clear c3'
   go_wp2_with (first | ((with_reducible refine gc_ (f := 66) rfl ?_); refine gL_ (some 15) Tryz.func66 #[.int .i64 x1] ?_; (with_reducible refine (laws_markText.calls k1 x1 t1 _ At1.out).mono ?_); rintro e w_1 ⟨rfl, hb_⟩; refine ⟨_, rfl, ?_⟩; have m0_ : Aside0 (Kd.H kA 24 w_1 w0.heap.size P0_ (.slice (some ⟨g, 0, none⟩) l0.length c0) x0 x5 oki [.string (rd_T24 x0 x5).f0, .string (rd_T24 x0 x5).f1, .string (rd_T24 x0 x5).f2, (.slice Av3 (rd_T24 x0 x5).f3.length cv3 : Value)]) := ⟨Kd.H_below HH.out hb_⟩; have m1_ : Aside0 (Kd.S kA 24 w_1 w0.heap.size oki (.slice Av3 (rd_T24 x0 x5).f3.length cv3 : Value) ((rd_T24 x0 x5).f3)) := ⟨Kd.S_below HP3.out hb_⟩; have m2_ : Aside0 (Below w0.heap.size w0 w_1) := ⟨below_step HB.out hb_⟩; have m3_ : Aside0 (Kept w w_1 P0_) := ⟨Kept.below HK.out hb_⟩; clear HH HP3 HB HK; clear hx0 hf0 hx1 hf1 hx2 hf2 hx3 hf3; have HH := m0_; have HP3 := m1_; have HB := m2_; have HK := m3_; clear m0_ m1_ m2_ m3_; have hc_ := markNodeS_cells HH.out c4k.out c3k.out; have hx0 : w_1.cell? ⟨g, (x5 : Int).toNat * 4, none⟩ = some (.string (rd_T24 x0 x5).f0) := hc_.1 0 _ rfl; have hx1 : w_1.cell? ⟨g, (x5 : Int).toNat * 4 + 1, none⟩ = some (.string (rd_T24 x0 x5).f1) := hc_.1 1 _ rfl; have hx2 : w_1.cell? ⟨g, (x5 : Int).toNat * 4 + 2, none⟩ = some (.string (rd_T24 x0 x5).f2) := hc_.1 2 _ rfl; have hx3 : w_1.cell? ⟨g, (x5 : Int).toNat * 4 + 3, none⟩ = some ((.slice Av3 (rd_T24 x0 x5).f3.length cv3 : Value)) := hc_.1 3 _ rfl; have hf0 : w_1.frozen? ⟨g, (x5 : Int).toNat * 4, none⟩ = false := hc_.2 0; have hf1 : w_1.frozen? ⟨g, (x5 : Int).toNat * 4 + 1, none⟩ = false := hc_.2 1; have hf2 : w_1.frozen? ⟨g, (x5 : Int).toNat * 4 + 2, none⟩ = false := hc_.2 2; have hf3 : w_1.frozen? ⟨g, (x5 : Int).toNat * 4 + 3, none⟩ = false := hc_.2 3; clear hc_; clear hb_) | ((with_reducible refine gate_store (t := 9) (p := 17) rfl ?_); refine store_event (t := 9) (p := 17) (v := ?vo_1) (w1 := (w_1.setCell ⟨g, (x5 : Int).toNat * 4, none⟩ (.string t1))) ?hg ?ho ?hn ?hr ?_; (case ho => rfl); (case hg => rfl); (case hn => rfl); (case hr => first | (go_simp; done) | (go_simp; rfl)); intro w_2 hw_; have hs_ := Kd.H_seg HH.out c4k.out c3k.out (seg := [.string t1]) (j := 0) (show 1 ≤ 4 by decide) (by intro q_ hq_; rcases List.mem_singleton.1 hq_ with rfl; rfl); have hg_ : w_1.grownBy w_2 (some g) := (by rw [hw_]; exact hs_.2); have m0_ : Aside0 (Kd.H kA 24 w_2 w0.heap.size P0_ (.slice (some ⟨g, 0, none⟩) l0.length c0) x0 x5 oki [.string t1, .string (rd_T24 x0 x5).f1, .string (rd_T24 x0 x5).f2, (.slice Av3 (rd_T24 x0 x5).f3.length cv3 : Value)]) := ⟨(by rw [hw_]; exact hs_.1)⟩; have m1_ : Aside0 (Kd.S kA 24 w_2 w0.heap.size oki (.slice Av3 (rd_T24 x0 x5).f3.length cv3 : Value) ((rd_T24 x0 x5).f3)) := ⟨Kd.S_grown HP3.out hg_ (fun k_ h_ e_ => HN.out k_ h_ (by injection e_))⟩; have m2_ : Aside0 (Below w0.heap.size w0 w_2) := ⟨(by rw [hw_]; exact below_set HB.out GB.out)⟩; have m3_ : Aside0 (Kept w w_2 P0_) := ⟨Kept.of_grown hg_ HK.out (fun k_ e_ => .inl (by injection e_ with e_; rw [← e_]; exact HG.out))⟩; clear HH HP3 HB HK; clear hx0 hf0 hx1 hf1 hx2 hf2 hx3 hf3; have HH := m0_; have HP3 := m1_; have HB := m2_; have HK := m3_; clear m0_ m1_ m2_ m3_; have hc_ := markNodeS_cells HH.out c4k.out c3k.out; have hx0 : w_2.cell? ⟨g, (x5 : Int).toNat * 4, none⟩ = some (.string t1) := hc_.1 0 _ rfl; have hx1 : w_2.cell? ⟨g, (x5 : Int).toNat * 4 + 1, none⟩ = some (.string (rd_T24 x0 x5).f1) := hc_.1 1 _ rfl; have hx2 : w_2.cell? ⟨g, (x5 : Int).toNat * 4 + 2, none⟩ = some (.string (rd_T24 x0 x5).f2) := hc_.1 2 _ rfl; have hx3 : w_2.cell? ⟨g, (x5 : Int).toNat * 4 + 3, none⟩ = some ((.slice Av3 (rd_T24 x0 x5).f3.length cv3 : Value)) := hc_.1 3 _ rfl; have hf0 : w_2.frozen? ⟨g, (x5 : Int).toNat * 4, none⟩ = false := hc_.2 0; have hf1 : w_2.frozen? ⟨g, (x5 : Int).toNat * 4 + 1, none⟩ = false := hc_.2 1; have hf2 : w_2.frozen? ⟨g, (x5 : Int).toNat * 4 + 2, none⟩ = false := hc_.2 2; have hf3 : w_2.frozen? ⟨g, (x5 : Int).toNat * 4 + 3, none⟩ = false := hc_.2 3; clear hc_; clear hw_ hs_ hg_) | ((with_reducible refine gc_ (f := 66) rfl ?_); refine gL_ (some 23) Tryz.func66 #[.int .i64 (wrap64 (x1 + 1))] ?_; (with_reducible refine (laws_markText.calls k1 (wrap64 (x1 + 1)) t2 _ At2.out).mono ?_); rintro e w_3 ⟨rfl, hb_⟩; refine ⟨_, rfl, ?_⟩; have m0_ : Aside0 (Kd.H kA 24 w_3 w0.heap.size P0_ (.slice (some ⟨g, 0, none⟩) l0.length c0) x0 x5 oki [.string t1, .string (rd_T24 x0 x5).f1, .string (rd_T24 x0 x5).f2, (.slice Av3 (rd_T24 x0 x5).f3.length cv3 : Value)]) := ⟨Kd.H_below HH.out hb_⟩; have m1_ : Aside0 (Kd.S kA 24 w_3 w0.heap.size oki (.slice Av3 (rd_T24 x0 x5).f3.length cv3 : Value) ((rd_T24 x0 x5).f3)) := ⟨Kd.S_below HP3.out hb_⟩; have m2_ : Aside0 (Below w0.heap.size w0 w_3) := ⟨below_step HB.out hb_⟩; have m3_ : Aside0 (Kept w w_3 P0_) := ⟨Kept.below HK.out hb_⟩; clear HH HP3 HB HK; clear hx0 hf0 hx1 hf1 hx2 hf2 hx3 hf3; have HH := m0_; have HP3 := m1_; have HB := m2_; have HK := m3_; clear m0_ m1_ m2_ m3_; have hc_ := markNodeS_cells HH.out c4k.out c3k.out; have hx0 : w_3.cell? ⟨g, (x5 : Int).toNat * 4, none⟩ = some (.string t1) := hc_.1 0 _ rfl; have hx1 : w_3.cell? ⟨g, (x5 : Int).toNat * 4 + 1, none⟩ = some (.string (rd_T24 x0 x5).f1) := hc_.1 1 _ rfl; have hx2 : w_3.cell? ⟨g, (x5 : Int).toNat * 4 + 2, none⟩ = some (.string (rd_T24 x0 x5).f2) := hc_.1 2 _ rfl; have hx3 : w_3.cell? ⟨g, (x5 : Int).toNat * 4 + 3, none⟩ = some ((.slice Av3 (rd_T24 x0 x5).f3.length cv3 : Value)) := hc_.1 3 _ rfl; have hf0 : w_3.frozen? ⟨g, (x5 : Int).toNat * 4, none⟩ = false := hc_.2 0; have hf1 : w_3.frozen? ⟨g, (x5 : Int).toNat * 4 + 1, none⟩ = false := hc_.2 1; have hf2 : w_3.frozen? ⟨g, (x5 : Int).toNat * 4 + 2, none⟩ = false := hc_.2 2; have hf3 : w_3.frozen? ⟨g, (x5 : Int).toNat * 4 + 3, none⟩ = false := hc_.2 3; clear hc_; clear hb_) | ((with_reducible refine gate_store (t := 9) (p := 25) rfl ?_); refine store_event (t := 9) (p := 25) (v := ?vo_3) (w1 := (w_3.setCell ⟨g, (x5 : Int).toNat * 4 + 1, none⟩ (.string t2))) ?hg ?ho ?hn ?hr ?_; (case ho => rfl); (case hg => rfl); (case hn => rfl); (case hr => first | (go_simp; done) | (go_simp; rfl)); intro w_4 hw_; have hs_ := Kd.H_seg HH.out c4k.out c3k.out (seg := [.string t2]) (j := 1) (show 2 ≤ 4 by decide) (by intro q_ hq_; rcases List.mem_singleton.1 hq_ with rfl; rfl); have hg_ : w_3.grownBy w_4 (some g) := (by rw [hw_]; exact hs_.2); have m0_ : Aside0 (Kd.H kA 24 w_4 w0.heap.size P0_ (.slice (some ⟨g, 0, none⟩) l0.length c0) x0 x5 oki [.string t1, .string t2, .string (rd_T24 x0 x5).f2, (.slice Av3 (rd_T24 x0 x5).f3.length cv3 : Value)]) := ⟨(by rw [hw_]; exact hs_.1)⟩; have m1_ : Aside0 (Kd.S kA 24 w_4 w0.heap.size oki (.slice Av3 (rd_T24 x0 x5).f3.length cv3 : Value) ((rd_T24 x0 x5).f3)) := ⟨Kd.S_grown HP3.out hg_ (fun k_ h_ e_ => HN.out k_ h_ (by injection e_))⟩; have m2_ : Aside0 (Below w0.heap.size w0 w_4) := ⟨(by rw [hw_]; exact below_set HB.out GB.out)⟩; have m3_ : Aside0 (Kept w w_4 P0_) := ⟨Kept.of_grown hg_ HK.out (fun k_ e_ => .inl (by injection e_ with e_; rw [← e_]; exact HG.out))⟩; clear HH HP3 HB HK; clear hx0 hf0 hx1 hf1 hx2 hf2 hx3 hf3; have HH := m0_; have HP3 := m1_; have HB := m2_; have HK := m3_; clear m0_ m1_ m2_ m3_; have hc_ := markNodeS_cells HH.out c4k.out c3k.out; have hx0 : w_4.cell? ⟨g, (x5 : Int).toNat * 4, none⟩ = some (.string t1) := hc_.1 0 _ rfl; have hx1 : w_4.cell? ⟨g, (x5 : Int).toNat * 4 + 1, none⟩ = some (.string t2) := hc_.1 1 _ rfl; have hx2 : w_4.cell? ⟨g, (x5 : Int).toNat * 4 + 2, none⟩ = some (.string (rd_T24 x0 x5).f2) := hc_.1 2 _ rfl; have hx3 : w_4.cell? ⟨g, (x5 : Int).toNat * 4 + 3, none⟩ = some ((.slice Av3 (rd_T24 x0 x5).f3.length cv3 : Value)) := hc_.1 3 _ rfl; have hf0 : w_4.frozen? ⟨g, (x5 : Int).toNat * 4, none⟩ = false := hc_.2 0; have hf1 : w_4.frozen? ⟨g, (x5 : Int).toNat * 4 + 1, none⟩ = false := hc_.2 1; have hf2 : w_4.frozen? ⟨g, (x5 : Int).toNat * 4 + 2, none⟩ = false := hc_.2 2; have hf3 : w_4.frozen? ⟨g, (x5 : Int).toNat * 4 + 3, none⟩ = false := hc_.2 3; clear hc_; clear hw_ hs_ hg_) | ((with_reducible refine gc_ (f := 66) rfl ?_); refine gL_ (some 31) Tryz.func66 #[.int .i64 (wrap64 ((wrap64 (x1 + 1)) + 1))] ?_; (with_reducible refine (laws_markText.calls k1 (wrap64 ((wrap64 (x1 + 1)) + 1)) t3 _ At3.out).mono ?_); rintro e w_5 ⟨rfl, hb_⟩; refine ⟨_, rfl, ?_⟩; have m0_ : Aside0 (Kd.H kA 24 w_5 w0.heap.size P0_ (.slice (some ⟨g, 0, none⟩) l0.length c0) x0 x5 oki [.string t1, .string t2, .string (rd_T24 x0 x5).f2, (.slice Av3 (rd_T24 x0 x5).f3.length cv3 : Value)]) := ⟨Kd.H_below HH.out hb_⟩; have m1_ : Aside0 (Kd.S kA 24 w_5 w0.heap.size oki (.slice Av3 (rd_T24 x0 x5).f3.length cv3 : Value) ((rd_T24 x0 x5).f3)) := ⟨Kd.S_below HP3.out hb_⟩; have m2_ : Aside0 (Below w0.heap.size w0 w_5) := ⟨below_step HB.out hb_⟩; have m3_ : Aside0 (Kept w w_5 P0_) := ⟨Kept.below HK.out hb_⟩; clear HH HP3 HB HK; clear hx0 hf0 hx1 hf1 hx2 hf2 hx3 hf3; have HH := m0_; have HP3 := m1_; have HB := m2_; have HK := m3_; clear m0_ m1_ m2_ m3_; have hc_ := markNodeS_cells HH.out c4k.out c3k.out; have hx0 : w_5.cell? ⟨g, (x5 : Int).toNat * 4, none⟩ = some (.string t1) := hc_.1 0 _ rfl; have hx1 : w_5.cell? ⟨g, (x5 : Int).toNat * 4 + 1, none⟩ = some (.string t2) := hc_.1 1 _ rfl; have hx2 : w_5.cell? ⟨g, (x5 : Int).toNat * 4 + 2, none⟩ = some (.string (rd_T24 x0 x5).f2) := hc_.1 2 _ rfl; have hx3 : w_5.cell? ⟨g, (x5 : Int).toNat * 4 + 3, none⟩ = some ((.slice Av3 (rd_T24 x0 x5).f3.length cv3 : Value)) := hc_.1 3 _ rfl; have hf0 : w_5.frozen? ⟨g, (x5 : Int).toNat * 4, none⟩ = false := hc_.2 0; have hf1 : w_5.frozen? ⟨g, (x5 : Int).toNat * 4 + 1, none⟩ = false := hc_.2 1; have hf2 : w_5.frozen? ⟨g, (x5 : Int).toNat * 4 + 2, none⟩ = false := hc_.2 2; have hf3 : w_5.frozen? ⟨g, (x5 : Int).toNat * 4 + 3, none⟩ = false := hc_.2 3; clear hc_; clear hb_) | ((with_reducible refine gate_store (t := 9) (p := 33) rfl ?_); refine store_event (t := 9) (p := 33) (v := ?vo_5) (w1 := (w_5.setCell ⟨g, (x5 : Int).toNat * 4 + 2, none⟩ (.string t3))) ?hg ?ho ?hn ?hr ?_; (case ho => rfl); (case hg => rfl); (case hn => rfl); (case hr => first | (go_simp; done) | (go_simp; rfl)); intro w_6 hw_; have hs_ := Kd.H_seg HH.out c4k.out c3k.out (seg := [.string t3]) (j := 2) (show 3 ≤ 4 by decide) (by intro q_ hq_; rcases List.mem_singleton.1 hq_ with rfl; rfl); have hg_ : w_5.grownBy w_6 (some g) := (by rw [hw_]; exact hs_.2); have m0_ : Aside0 (Kd.H kA 24 w_6 w0.heap.size P0_ (.slice (some ⟨g, 0, none⟩) l0.length c0) x0 x5 oki [.string t1, .string t2, .string t3, (.slice Av3 (rd_T24 x0 x5).f3.length cv3 : Value)]) := ⟨(by rw [hw_]; exact hs_.1)⟩; have m1_ : Aside0 (Kd.S kA 24 w_6 w0.heap.size oki (.slice Av3 (rd_T24 x0 x5).f3.length cv3 : Value) ((rd_T24 x0 x5).f3)) := ⟨Kd.S_grown HP3.out hg_ (fun k_ h_ e_ => HN.out k_ h_ (by injection e_))⟩; have m2_ : Aside0 (Below w0.heap.size w0 w_6) := ⟨(by rw [hw_]; exact below_set HB.out GB.out)⟩; have m3_ : Aside0 (Kept w w_6 P0_) := ⟨Kept.of_grown hg_ HK.out (fun k_ e_ => .inl (by injection e_ with e_; rw [← e_]; exact HG.out))⟩; clear HH HP3 HB HK; clear hx0 hf0 hx1 hf1 hx2 hf2 hx3 hf3; have HH := m0_; have HP3 := m1_; have HB := m2_; have HK := m3_; clear m0_ m1_ m2_ m3_; have hc_ := markNodeS_cells HH.out c4k.out c3k.out; have hx0 : w_6.cell? ⟨g, (x5 : Int).toNat * 4, none⟩ = some (.string t1) := hc_.1 0 _ rfl; have hx1 : w_6.cell? ⟨g, (x5 : Int).toNat * 4 + 1, none⟩ = some (.string t2) := hc_.1 1 _ rfl; have hx2 : w_6.cell? ⟨g, (x5 : Int).toNat * 4 + 2, none⟩ = some (.string t3) := hc_.1 2 _ rfl; have hx3 : w_6.cell? ⟨g, (x5 : Int).toNat * 4 + 3, none⟩ = some ((.slice Av3 (rd_T24 x0 x5).f3.length cv3 : Value)) := hc_.1 3 _ rfl; have hf0 : w_6.frozen? ⟨g, (x5 : Int).toNat * 4, none⟩ = false := hc_.2 0; have hf1 : w_6.frozen? ⟨g, (x5 : Int).toNat * 4 + 1, none⟩ = false := hc_.2 1; have hf2 : w_6.frozen? ⟨g, (x5 : Int).toNat * 4 + 2, none⟩ = false := hc_.2 2; have hf3 : w_6.frozen? ⟨g, (x5 : Int).toNat * 4 + 3, none⟩ = false := hc_.2 3; clear hc_; clear hw_ hs_ hg_) | ((with_reducible refine gc_ (f := 38) rfl ?_); refine gL_ (some 42) Tryz.func38 #[(.slice Av3 (rd_T24 x0 x5).f3.length cv3 : Value), .int .i64 (wrap64 ((wrap64 ((wrap64 (x1 + 1)) + 1)) + 1))] ?_; (with_reducible refine (ih k1 (by have := HK1.out; omega) oki (.slice Av3 (rd_T24 x0 x5).f3.length cv3 : Value) ((rd_T24 x0 x5).f3) (wrap64 ((wrap64 ((wrap64 (x1 + 1)) + 1)) + 1)) t4a t4b w0 _ HB.out HP3.out At4a.out).mono ?_); rintro e w_7 ⟨rfl, hr_, hb_, hk_⟩; refine ⟨_, rfl, ?_⟩; have m0_ : Aside0 (Kd.H kA 24 w_7 w0.heap.size P0_ (.slice (some ⟨g, 0, none⟩) l0.length c0) x0 x5 oki [.string t1, .string t2, .string t3, (.slice Av3 (rd_T24 x0 x5).f3.length cv3 : Value)]) := ⟨Kd.H_step HH.out (fun k_ _ hn_ hl_ => hk_.2 k_ hl_ (fun h3_ => hn_ h3_))⟩; have m1_ : Aside0 (Kd.S kA 24 w_7 w0.heap.size oki (.slice Av3 (rd_T24 x0 x5).f3.length cv3 : Value) t4b) := ⟨hr_⟩; have m2_ : Aside0 (Below w0.heap.size w0 w_7) := ⟨hb_⟩; have m3_ : Aside0 (Kept w w_7 P0_) := ⟨Kept.then_ HK.out hk_ (fun k_ h_ => .inl (HQ.out k_ h_))⟩; clear HH HP3 HB HK; clear hx0 hf0 hx1 hf1 hx2 hf2 hx3 hf3; have HH := m0_; have HP3 := m1_; have HB := m2_; have HK := m3_; clear m0_ m1_ m2_ m3_; have hc_ := markNodeS_cells HH.out c4k.out c3k.out; have hx0 : w_7.cell? ⟨g, (x5 : Int).toNat * 4, none⟩ = some (.string t1) := hc_.1 0 _ rfl; have hx1 : w_7.cell? ⟨g, (x5 : Int).toNat * 4 + 1, none⟩ = some (.string t2) := hc_.1 1 _ rfl; have hx2 : w_7.cell? ⟨g, (x5 : Int).toNat * 4 + 2, none⟩ = some (.string t3) := hc_.1 2 _ rfl; have hx3 : w_7.cell? ⟨g, (x5 : Int).toNat * 4 + 3, none⟩ = some ((.slice Av3 (rd_T24 x0 x5).f3.length cv3 : Value)) := hc_.1 3 _ rfl; have hf0 : w_7.frozen? ⟨g, (x5 : Int).toNat * 4, none⟩ = false := hc_.2 0; have hf1 : w_7.frozen? ⟨g, (x5 : Int).toNat * 4 + 1, none⟩ = false := hc_.2 1; have hf2 : w_7.frozen? ⟨g, (x5 : Int).toNat * 4 + 2, none⟩ = false := hc_.2 2; have hf3 : w_7.frozen? ⟨g, (x5 : Int).toNat * 4 + 3, none⟩ = false := hc_.2 3; clear hc_; clear hr_ hb_ hk_))
   go_roundg k1
   case measure => have := HK1.out; omega
   case rel => exact ⟨_, t4a, wrap64 (x5 + 1), rfl, rfl, H', ⟨by have := HK1.out; omega⟩, ⟨Kd.H_back HH.out (kA_mkM _ _ _ (⟨t1, t2, t3, t4b⟩ : S24) HP3.out) (fun _ h_ => h_)⟩, ⟨by rw [List.length_set]; exact HL.out⟩, HB, HK⟩
def laws_markNode.f (k : Nat) (a0_0 a0_1 a0_2 : ByteArray) (l0 : List (S24)) (a1 : Int) : Option (Int × List (S24)) := laws_markNodeS.f k l0 a1
set_option maxHeartbeats 8000000 in
theorem laws_markNode.calls (k : Nat) (a0_0 : ByteArray) (a0_1 : ByteArray) (a0_2 : ByteArray) (P0_ : Nat → Prop) (u9000_ : Value) (l0 : List (S24)) (a1 : Int) (r1 : Int) (r2 : List (S24)) (w0 w : World) (hB : Below w0.heap.size w0 w) (ho0 : Kd.S kA 24 w w0.heap.size P0_ u9000_ l0) (h : laws_markNode.f k a0_0 a0_1 a0_2 l0 a1 = some (r1, r2)) :
 Calls Tryz.prog 9 #[.agg #[.string a0_0, .string a0_1, .string a0_2, u9000_], .int .i64 a1] w fun e w' => e = .returned (.int .i64 r1) ∧ Kd.S kA 24 w' w0.heap.size P0_ u9000_ r2 ∧ Below w0.heap.size w0 w' ∧ Kept w w' P0_ := by
 obtain ⟨A0, c0, rfl⟩ := Kd.S_slice ho0
 have hu_ := Tryz.underlying24
 have HO := A_ ho0
 have HB := A_ hB
 have HK := A_ (Kept.refl w P0_)
 have HA : Aside0 (laws_markNodeS.f k l0 a1 = some (r1, r2)) := ⟨h⟩
 clear hB ho0 h
 go_enter Tryz.func9, Tryz.ntmps9
 go_wp2_with (first | ((with_reducible refine gd_ (N := 2) rfl ?_); refine bx_ (N := 2) (cs := #[.string a0_0, .string a0_1, .string a0_2, .slice A0 l0.length c0]) (t := 24) ?_; intro gb_ hg_ w_1 hbox_ hb_; have n0_ := A_ (Kd.S_below HO.out hb_); have n1_ := A_ (below_step HB.out hb_); have n2_ := A_ (Kept.below HK.out hb_); clear HO HB HK; have HO := n0_; have HB := n1_; have HK := n2_; clear n0_ n1_ n2_ hb_ hg_; have hx3 : w_1.cell? ⟨gb_, 3, none⟩ = some (.slice A0 l0.length c0) := (blk_cell hbox_ 3).trans rfl; clear hbox_) | ((with_reducible refine gc_ (f := 38) rfl ?_); refine gL_ (some 8) Tryz.func38 #[.slice A0 l0.length c0, .int .i64 a1] ?_; (with_reducible refine (laws_markNodeS.calls k P0_ _ l0 a1 r1 r2 w0 _ HB.out HO.out HA.out).mono ?_); rintro e w_2 ⟨rfl, hr_, hb_, hk_⟩; refine ⟨_, rfl, ?_⟩; have n0_ := A_ hr_; have n1_ := A_ hb_; have n2_ := A_ (Kept.then_ HK.out hk_ (fun k_ h_ => .inl h_)); clear HO HB HK hr_ hb_ hk_; have HO := n0_; have HB := n1_; have HK := n2_; clear n0_ n1_ n2_))
 go_ret
 exact ⟨rfl, HO.out, HB.out, HK.out⟩
end Go.Proofs.YtegkokdncakadaaGreatDoor.Q

/- Words for what makes nodes: a literal of one element, impl.davNode. No condition. -/
set_option linter.unusedSimpArgs false
set_option linter.unusedVariables false
namespace Go.Proofs.YtegkokdncakadaaGreatDoor.Q
open Go.RowKit Go.Proofs.YtegkokdncakadaaGreatDoorW.PrintWords Go.Proofs.YtegkokdncakadaaGreatDoorW.PrintLast Go.Proofs.YtegkokdncakadaaGreatDoorW.PrintMore
def Sto (g : Nat) (W w' : World) : Prop := ∃ l : List (Nat × Value), w' = l.foldl (fun w p => w.setCell ⟨g, p.1, none⟩ p.2) W
theorem Sto.refl (g : Nat) (W : World) : Sto g W W := ⟨[], rfl⟩
theorem Sto.step {g : Nat} {W w1 : World} (h : Sto g W w1) (i : Nat) (u : Value) : Sto g W (w1.setCell ⟨g, i, none⟩ u) := by
 obtain ⟨l, rfl⟩ := h
 exact ⟨l ++ [(i, u)], by simp⟩
theorem Sto.keeps {g : Nat} {W w' : World} (h : Sto g W w') {I : World → Prop} (h0 : I W) (hs : ∀ w i u, I w → I (w.setCell ⟨g, i, none⟩ u)) : I w' := by
 obtain ⟨l, rfl⟩ := h
 induction l generalizing W with
 | nil => exact h0
 | cons p l ih => exact ih (hs _ _ _ h0)
def IsBlk (g : Nat) (t : TypeId) (w : World) (cs : Array Value) : Prop := w.heap[g]? = some (.cells cs t (0, 0))
theorem IsBlk.set {g : Nat} {t : TypeId} {w : World} {cs : Array Value} (h : IsBlk g t w cs) (i : Nat) (u : Value) : IsBlk g t (w.setCell ⟨g, i, none⟩ u) (cs.setIfInBounds i u) := blk_set h i u
theorem IsBlk.of {g : Nat} {t : TypeId} {w : World} {cs : Array Value} (h : w.heap[g]? = some (.cells cs t (0, 0))) : IsBlk g t w cs := h
theorem box_store {P : Program} {ops : Array Oper} {rest : List Oper} {o : Oper} {a : Act} {Q : Exit → Act → World → Prop} {W w1 : World} {g : Nat} {t0 t : TypeId} {p : Tmp} {v : Operand} {cs : Array Value} (hgd : o.guard = none) (_ho : o.op = .store t (.tmp p) v) (hN : o.dst = none)
 (hrun : (execOp a.eval o).run P W = .ok .skip w1) (hs : Sto g W w1) (hb : IsBlk g t0 w1 cs)
 (h : ∀ w', Sto g W w' → w'.heap[g]? = some (.cells cs t0 (0, 0)) → wpList P ops Q rest a w') : wpList P ops Q (o :: rest) a W :=
 store_event hgd _ho hN hrun (fun w' e => h w' (e ▸ hs) (e ▸ (show w1.heap[g]? = some (.cells cs t0 (0, 0)) from hb)))
section
variable {w0 W w' : World} {g : Nat} (hw : Sto g W w')
include hw
theorem stored_below (h : Below w0.heap.size w0 W) (hg : w0.heap.size ≤ g) : Below w0.heap.size w0 w' := hw.keeps (I := fun w => Below w0.heap.size w0 w) h (fun _ _ _ h => below_set h hg)
end
section
variable {P : Program} {ops : Array Oper} {rest : List Oper} {o : Oper} {a : Act} {Q : Exit → Act → World → Prop} {Kc : Act → World → Prop} {α : Type}
end
theorem stored_S {α : Type} {d : Kd α} {e base : Nat} {ok : Nat → Prop} {v : Value} {xs : List α} {W w' : World} {g : Nat} (hw : Sto g W w') (h : Kd.S d e W base ok v xs) (hne : ∀ k, ok k → k ≠ g) : Kd.S d e w' base ok v xs := hw.keeps (I := fun w => Kd.S d e w base ok v xs) h (fun _ _ u h => Kd.S_far h hne u)
theorem stored_blk {W w' : World} {g b : Nat} {t : TypeId} {cs : Array Value} (hw : Sto g W w') (h : W.heap[b]? = some (.cells cs t (0, 0))) (hne : b ≠ g) : w'.heap[b]? = some (.cells cs t (0, 0)) := hw.keeps (I := fun w => w.heap[b]? = some (.cells cs t (0, 0))) h (fun _ _ u h => blk_far h hne u)
theorem stored_size {W w' : World} {g : Nat} (hw : Sto g W w') : W.heap.size = w'.heap.size := hw.keeps (I := fun w => W.heap.size = w.heap.size) rfl (fun w _ _ h => by rw [h]; simp [World.setCell])
end Go.Proofs.YtegkokdncakadaaGreatDoor.Q

/- Words for the walks of readers of nodes: a box's cells at once. No condition. -/
set_option linter.unusedSimpArgs false
set_option linter.unusedVariables false
namespace Go.Proofs.YtegkokdncakadaaGreatDoor.Q
open Go.RowKit Go.Proofs.YtegkokdncakadaaGreatDoorW.PrintWords Go.Proofs.YtegkokdncakadaaGreatDoorW.PrintLast Go.Proofs.YtegkokdncakadaaGreatDoorW.PrintMore
section
variable {w : World} {g t : Nat} {a b c d e : Value}
theorem cells3 (h : w.heap[g]? = some (.cells #[a, b, c] t (0, 0))) : w.cell? ⟨g, 0, none⟩ = some a ∧ w.cell? ⟨g, 1, none⟩ = some b ∧ w.cell? ⟨g, 2, none⟩ = some c ∧ w.frozen? ⟨g, 0, none⟩ = false ∧ w.frozen? ⟨g, 1, none⟩ = false ∧ w.frozen? ⟨g, 2, none⟩ = false :=
  ⟨(blk_cell h 0).trans rfl, (blk_cell h 1).trans rfl, (blk_cell h 2).trans rfl, blk_frozen h 0, blk_frozen h 1, blk_frozen h 2⟩
theorem cells4 (h : w.heap[g]? = some (.cells #[a, b, c, d] t (0, 0))) : w.cell? ⟨g, 0, none⟩ = some a ∧ w.cell? ⟨g, 1, none⟩ = some b ∧ w.cell? ⟨g, 2, none⟩ = some c ∧ w.cell? ⟨g, 3, none⟩ = some d ∧ w.frozen? ⟨g, 0, none⟩ = false ∧ w.frozen? ⟨g, 1, none⟩ = false ∧ w.frozen? ⟨g, 2, none⟩ = false ∧ w.frozen? ⟨g, 3, none⟩ = false :=
  ⟨(blk_cell h 0).trans rfl, (blk_cell h 1).trans rfl, (blk_cell h 2).trans rfl, (blk_cell h 3).trans rfl, blk_frozen h 0, blk_frozen h 1, blk_frozen h 2, blk_frozen h 3⟩
theorem cells5 (h : w.heap[g]? = some (.cells #[a, b, c, d, e] t (0, 0))) : w.cell? ⟨g, 0, none⟩ = some a ∧ w.cell? ⟨g, 1, none⟩ = some b ∧ w.cell? ⟨g, 2, none⟩ = some c ∧ w.cell? ⟨g, 3, none⟩ = some d ∧ w.cell? ⟨g, 4, none⟩ = some e ∧
    w.frozen? ⟨g, 0, none⟩ = false ∧ w.frozen? ⟨g, 1, none⟩ = false ∧ w.frozen? ⟨g, 2, none⟩ = false ∧ w.frozen? ⟨g, 3, none⟩ = false ∧ w.frozen? ⟨g, 4, none⟩ = false :=
  ⟨(blk_cell h 0).trans rfl, (blk_cell h 1).trans rfl, (blk_cell h 2).trans rfl, (blk_cell h 3).trans rfl, (blk_cell h 4).trans rfl, blk_frozen h 0, blk_frozen h 1, blk_frozen h 2, blk_frozen h 3, blk_frozen h 4⟩
end
section
variable {P : Program} {md : Region.Mode} {ops : Array Oper} {Q : Exit → Act → World → Prop} {S : World → Prop} {ds : List Nat}
theorem twoL_ {i j : Nat} {Ni Nj : Option Tmp} {oi oj : Oper} {fuel : Nat} {l : Array Bool} {a : Act} {w : World} (li lj : Array Bool) (hi : ops[i]? = some oi) (hj : ops[j]? = some oj) (hNi : oi.dst = Ni) (hNj : oj.dst = Nj)
    (hc : (Region.ready md ops l == [i, j] && l.setIfInBounds i true == li && l.setIfInBounds j true == lj) = true) (hdi : i ∈ ds) (hdj : j ∈ ds)
    (h1 : ∀ K : Act → World → Prop, Shut (∀ a' w', wpAnyLast P md ops Q S ds fuel li a' w' → K a' w') → if Region.wanted oi (yielded ops a.tmps) = true then Oper.wp P oi a w K Q else K (a.put Ni undef) w)
    (h2 : ∀ K : Act → World → Prop, Shut (∀ a' w', wpAnyLast P md ops Q S ds fuel lj a' w' → K a' w') → if Region.wanted oj (yielded ops a.tmps) = true then Oper.wp P oj a w K Q else K (a.put Nj undef) w) :
    wpAnyLast P md ops Q S ds (fuel + 1) l a w := by
  subst hNi
  subst hNj
  simp only [Bool.and_eq_true, beq_iff_eq] at hc
  obtain ⟨⟨h3, h4⟩, h5⟩ := hc
  subst h4
  subst h5
  exact wpAnyLast_ready h3 (by simp) (AllReadyL.cons_last hi hdi (fun K hK => h1 K hK) (AllReadyL.cons_last hj hdj (fun K hK => h2 K hK) AllReadyL.nil))
end
section
variable {w0 w W w' : World} {g gn b c t : Nat} {G : Array Value} {x0 x1 x2 u : Value} {ks : List S24} {s1 s2 s3 : ByteArray} {s4 : List S24} {A3 : Option Addr} {c3 : Nat} {okV : Nat → Prop}
def KidEnd (w0 w w' : World) (g gn b c : Nat) (G : Array Value) (t : Nat) (x0 x1 x2 : Value) (n : Nat) (ks : List S24) : Prop :=
  Kd.S kA 24 w' w.heap.size (fun k_ => k_ ≠ g ∧ k_ ≠ gn) (.slice (some ⟨b, 0, none⟩) n c) ks ∧ w'.heap[g]? = some (.cells G t (0, 0)) ∧ w'.heap[gn]? = some (.cells #[x0, x1, x2, .slice (some ⟨b, 0, none⟩) n c] 24 (0, 0)) ∧ Below w0.heap.size w0 w' ∧ Kept w w' (fun k_ => k_ = g ∨ k_ = gn)
structure KidMid (w0 w W : World) (g gn b c : Nat) (G : Array Value) (t : Nat) (x0 x1 x2 u : Value) (ks : List S24) (s1 s2 s3 : ByteArray) (s4 : List S24) (A3 : Option Addr) (c3 : Nat) (okV : Nat → Prop) : Prop where
  ho : Kd.S kA 24 W w.heap.size (fun k_ => (k_ ≠ g ∧ k_ ≠ gn) ∧ ¬ okV k_) (.slice (some ⟨b, 0, none⟩) (ks.length + 1) c) (ks ++ [(⟨(⟨#[]⟩ : ByteArray), (⟨#[]⟩ : ByteArray), (⟨#[]⟩ : ByteArray), []⟩ : S24)])
  hv : Kd.S kA 24 W w.heap.size okV (.slice A3 s4.length c3) s4
  hg : W.heap[g]? = some (.cells G t (0, 0))
  hn : W.heap[gn]? = some (.cells #[x0, x1, x2, u] 24 (0, 0))
  hb : Below w0.heap.size w0 W
  hk : Kept w W (fun k_ => k_ = g ∨ k_ = gn)
  hb7 : w.heap.size ≤ b
  h00 : w0.heap.size ≤ w.heap.size
  hn7 : (b ≠ g ∧ b ≠ gn) ∧ ¬ okV b
  hV : ∀ k_, okV k_ → (k_ ≠ g ∧ k_ ≠ gn) ∧ k_ ≠ b
  hne : g ≠ gn
  hgn0 : w0.heap.size ≤ gn
theorem KidMid.elem (h : KidMid w0 w W g gn b c G t x0 x1 x2 u ks s1 s2 s3 s4 A3 c3 okV) :
    Kd.S kA 24 (W.setCells b (ks.length * 4) [.string s1, .string s2, .string s3, .slice A3 s4.length c3]) w.heap.size (fun k_ => k_ ≠ g ∧ k_ ≠ gn) (.slice (some ⟨b, 0, none⟩) (ks.length + 1) c) (ks ++ [(⟨s1, s2, s3, s4⟩ : S24)]) ∧ W.grownBy (W.setCells b (ks.length * 4) [.string s1, .string s2, .string s3, .slice A3 s4.length c3]) (some b) := by
  obtain ⟨oki, cs, hcl, hM, hcc, _, hoki, hH⟩ := Kd.S_elem h.ho (⟨(⟨#[]⟩ : ByteArray), (⟨#[]⟩ : ByteArray), (⟨#[]⟩ : ByteArray), []⟩ : S24) (ks.length : Int) (by omega) (by omega)
  have h4 : cs.length = 4 := hcl
  have hs := Kd.S_seg (okg := okV) (seg := [.string s1, .string s2, .string s3, .slice A3 s4.length c3]) (j := 0) (x' := (⟨s1, s2, s3, s4⟩ : S24)) (okp := okV) hH (by omega) (by omega) (show 0 + 4 ≤ 4 by decide)
    (by rw [show cs.take 0 ++ [Value.string s1, .string s2, .string s3, .slice A3 s4.length c3] ++ cs.drop (0 + [Value.string s1, .string s2, .string s3, .slice A3 s4.length c3].length) = [Value.string s1, .string s2, .string s3, .slice A3 s4.length c3] by
          rw [List.take_zero, List.nil_append, List.drop_of_length_le (by simp [h4]), List.append_nil]]
        exact kA_mkM _ _ _ (⟨s1, s2, s3, s4⟩ : S24) h.hv) (fun _ hk => .inr hk) h.hV
  have e1 : ((ks.length : Int)).toNat * kA.sz + 0 = ks.length * 4 := by rw [Int.toNat_natCast]; rfl
  have e2 : (ks ++ [(⟨(⟨#[]⟩ : ByteArray), (⟨#[]⟩ : ByteArray), (⟨#[]⟩ : ByteArray), []⟩ : S24)]).set ((ks.length : Int)).toNat (⟨s1, s2, s3, s4⟩ : S24) = ks ++ [(⟨s1, s2, s3, s4⟩ : S24)] := by rw [Int.toNat_natCast]; simp
  rw [e1, e2] at hs
  exact hs
theorem KidMid.end1 (h : KidMid w0 w W g gn b c G t x0 x1 x2 u ks s1 s2 s3 s4 A3 c3 okV) :
    KidEnd w0 w ((W.setCells b (ks.length * 4) [.string s1, .string s2, .string s3, .slice A3 s4.length c3]).setCell ⟨gn, 3, none⟩ (.slice (some ⟨b, 0, none⟩) (ks.length + 1) c)) g gn b c G t x0 x1 x2 (ks.length + 1) (ks ++ [(⟨s1, s2, s3, s4⟩ : S24)]) := by
  obtain ⟨hs, hgr⟩ := h.elem
  have hgb : some g ≠ some b := fun e => h.hn7.1.1 (by injection e with e; exact e.symm)
  have hnb : some gn ≠ some b := fun e => h.hn7.1.2 (by injection e with e; exact e.symm)
  refine ⟨Kd.S_far (p := ⟨gn, 3, none⟩) hs (fun k hk => hk.2) _, blk_far (blk_grown h.hg hgr hgb) h.hne _, blk_put (cs := #[x0, x1, x2, u]) (blk_grown h.hn hgr hnb) 3 _ rfl, ?_, ?_⟩
  · exact below_set (Below.grown h.hb hgr (below_size h.hb) (fun k e => by injection e with e; have := h.hb7; have := h.h00; omega)) h.hgn0
  · exact Kept.setCell (Kept.of_grown hgr h.hk (fun k e => .inr (by injection e with e; have := h.hb7; omega))) (.inl (.inr rfl)) _
theorem KidMid.end2 (h : KidMid w0 w W g gn b c G t x0 x1 x2 u ks s1 s2 s3 s4 A3 c3 okV) :
    KidEnd w0 w ((W.setCell ⟨gn, 3, none⟩ (.slice (some ⟨b, 0, none⟩) (ks.length + 1) c)).setCells b (ks.length * 4) [.string s1, .string s2, .string s3, .slice A3 s4.length c3]) g gn b c G t x0 x1 x2 (ks.length + 1) (ks ++ [(⟨s1, s2, s3, s4⟩ : S24)]) := by
  have h' : KidMid w0 w (W.setCell ⟨gn, 3, none⟩ (.slice (some ⟨b, 0, none⟩) (ks.length + 1) c)) g gn b c G t x0 x1 x2 (.slice (some ⟨b, 0, none⟩) (ks.length + 1) c) ks s1 s2 s3 s4 A3 c3 okV :=
    ⟨Kd.S_far (p := ⟨gn, 3, none⟩) h.ho (fun k hk => hk.1.2) _, Kd.S_far (p := ⟨gn, 3, none⟩) h.hv (fun k hk => (h.hV k hk).1.2) _, blk_far h.hg h.hne _, blk_put (cs := #[x0, x1, x2, u]) h.hn 3 _ rfl, below_set h.hb h.hgn0, Kept.setCell h.hk (.inl (.inr rfl)) _, h.hb7, h.h00, h.hn7, h.hV, h.hne, h.hgn0⟩
  obtain ⟨hs, hgr⟩ := h'.elem
  have hgb : some g ≠ some b := fun e => h.hn7.1.1 (by injection e with e; exact e.symm)
  have hnb : some gn ≠ some b := fun e => h.hn7.1.2 (by injection e with e; exact e.symm)
  exact ⟨hs, blk_grown h'.hg hgr hgb, blk_grown h'.hn hgr hnb, Below.grown h'.hb hgr (below_size h'.hb) (fun k e => by injection e with e; have := h.hb7; have := h.h00; omega), Kept.of_grown hgr h'.hk (fun k e => .inr (by injection e with e; have := h.hb7; omega))⟩
theorem KidMid.cells (h : KidMid w0 w W g gn b c G t x0 x1 x2 u ks s1 s2 s3 s4 A3 c3 okV) :
    ∃ u0 u1 u2 u3, W.cell? ⟨b, ks.length * 4, none⟩ = some u0 ∧ W.cell? ⟨b, ks.length * 4 + 1, none⟩ = some u1 ∧ W.cell? ⟨b, ks.length * 4 + 2, none⟩ = some u2 ∧ W.cell? ⟨b, ks.length * 4 + 3, none⟩ = some u3 ∧
      W.frozen? ⟨b, ks.length * 4, none⟩ = false ∧ W.frozen? ⟨b, ks.length * 4 + 1, none⟩ = false ∧ W.frozen? ⟨b, ks.length * 4 + 2, none⟩ = false ∧ W.frozen? ⟨b, ks.length * 4 + 3, none⟩ = false := by
  obtain ⟨oki, cs, hcl, hM, hcc, hfr, hoki, hH⟩ := Kd.S_elem h.ho (⟨(⟨#[]⟩ : ByteArray), (⟨#[]⟩ : ByteArray), (⟨#[]⟩ : ByteArray), []⟩ : S24) (ks.length : Int) (by omega) (by omega)
  obtain ⟨v3, rfl, _⟩ := kA_openM hM
  rw [show ((ks.length : Int)).toNat * kA.sz = ks.length * 4 by rw [Int.toNat_natCast]; rfl] at hcc hfr
  exact ⟨_, _, _, _, hcc 0 _ rfl, hcc 1 _ rfl, hcc 2 _ rfl, hcc 3 _ rfl, hfr 0, hfr 1, hfr 2, hfr 3⟩
end
end Go.Proofs.YtegkokdncakadaaGreatDoor.Q

/- A node read of pieces, whose rows lie apart. No condition. -/
namespace Go.Proofs.YtegkokdncakadaaGreatDoor.Q
open Go.RowKit Go.Proofs.YtegkokdncakadaaGreatDoorW.PrintWords Go.Proofs.YtegkokdncakadaaGreatDoorW.PrintLast Go.Proofs.YtegkokdncakadaaGreatDoorW.PrintMore
attribute [local go_sem] max2_int min2_int max_two min_two max_three min_three max_four min_four
set_option linter.unusedVariables false
set_option linter.unusedSimpArgs false
def impl_nodes_blanks.l0 : Nat → List (S82) → Int → Option Int
 | 0, _, _ => none
 | k + 1, l, at_ => if at_ < (l.length : Int) then (if 0 ≤ at_ then (if ((rd_T82 l at_).f0) = 4 then (impl_isBlank.f ((rd_T82 l at_).f4)).bind fun t => (if t = true then impl_nodes_blanks.l0 k l (wrap64 (at_ + 1)) else some at_) else some at_) else none) else some at_
def impl_nodes_blanks.T0 : Bool × List (List Nat × List Nat) := (true, [([], []), ([0], [0]), ([1], [1]), ([2], [2]), ([], []), ([4], [4]), ([5], [5]), ([6], [6]), ([7], [7]), ([3, 8], [3, 8]), ([9], [9]), ([10], [10]), ([11, 10], [10, 11]), ([12, 10], [10, 12]), ([13, 10], [10, 13]), ([10], [10]), ([15, 10], [10, 15]), ([16, 10], [10, 16]), ([17, 10], [10, 17]), ([14, 18, 10], [10, 14, 18]), ([19, 10], [10, 19]), ([20, 10], [10, 20]), ([21, 10], [10, 21]), ([10, 22], [10, 22]), ([23, 10], [23]), ([24], [24]), ([25, 24], [24, 25]), ([26, 24], [24, 26]), ([27, 24], [24, 27]), ([24], [24]), ([29, 24], [24, 29]), ([30, 24], [24, 30]), ([31, 24], [24, 31]), ([28, 32, 24], [24, 28, 32]), ([33, 24], [24, 33]), ([34, 24], [24, 34]), ([35, 24, 24], [24, 35]), ([24, 36], [24, 36])])
def impl_nodes_blanks.B0 : List Nat := [0, 1, 3, 7, 0, 16, 48, 112, 240, 511, 1023, 2047, 4095, 8191, 16383, 2047, 34815, 100351, 231423, 524287, 1048575, 2097151, 4194303, 8388607, 16777215, 33554431, 67108863, 134217727, 268435455, 33554431, 570425343, 1644167167, 3791650815, 8589934591, 17179869183, 34359738367, 68719476735, 137438953471]
theorem impl_nodes_blanks.tab0 : rtab .any (opsOf Tryz.f35 0) = impl_nodes_blanks.T0 := by kernel_rfl
theorem impl_nodes_blanks.bits0 : waitsOk impl_nodes_blanks.T0.2 impl_nodes_blanks.B0 = true := by kernel_rfl
set_option maxHeartbeats 64000000 in
set_option maxRecDepth 100000 in
theorem impl_nodes_blanks.calls (k : Nat) (g : Nat) (AL : Option Addr) (cL : Nat) (l : List (S82)) (at_ : Int) (bad : Bool) (r1 : Int) (w0 w : World) (hL : Kd.C k82 w0 AL l.length l) (hg0 : w0.heap.size ≤ g) (hbg : w.heap[g]? = some (.cells #[.slice AL l.length cL, .int .i64 at_, .bool bad] 61 (0, 0))) (hB : Below w0.heap.size w0 w) (h : impl_nodes_blanks.l0 k l at_ = some r1) :
 Calls Tryz.prog 35 #[.pointer (some ⟨g, 0, none⟩)] w fun e w' => e = .returned (.tuple #[]) ∧ w'.heap[g]? = some (.cells #[.slice AL l.length cL, .int .i64 r1, .bool bad] 61 (0, 0)) ∧ Below w0.heap.size w0 w' ∧ Kept w w' (fun k_ => k_ = g) := by
 have hu1_ := Tryz.underlying24
 have hu2_ := Tryz.underlying82
 have hu3_ := Tryz.underlying61
 have HLC := A_ hL
 have GEg := A_ hg0
 have BKg := A_ hbg
 have H00 := A_ (below_size hB)
 have HB := A_ hB
 have HK := A_ (Kept.refl w (fun k_ => k_ = g))
 have HA := A_ h
 clear hL hg0 hbg hB h
 go_enter Tryz.func35, Tryz.ntmps35
 go_wp2
 go_loopg [] k (fun kq w' => ∃ (at1 : Int), Aside0 (impl_nodes_blanks.l0 kq l at1 = some r1) ∧ Aside0 (kq ≤ k) ∧ Aside0 (w'.heap[g]? = some (.cells #[.slice AL l.length cL, .int .i64 at1, .bool bad] 61 (0, 0))) ∧ Aside0 (Below w0.heap.size w0 w') ∧ Aside0 (Kept w w' (fun k_ => k_ = g)))
 case atStart => exact ⟨at_, HA, ⟨Nat.le_refl _⟩, BKg, HB, HK⟩
 case round =>
  clear HA BKg HB HK
  obtain ⟨at1, HA, HK1, BKg, HB, HK⟩ := hrel
  cases gk with
  | zero => exact absurd HA.out (by simp [impl_nodes_blanks.l0])
  | succ k1 =>
   have H := HA.out
   clear HA
   simp only [impl_nodes_blanks.l0] at H
   have hxg := cells3 BKg.out
   go_upto_region 0 with (fail)
   (try simp only [Act.put, List.setIfInBounds_toArray, List.set_cons_zero, List.set_cons_succ])
   go_cut [39] (fun v39 wc => ∃ (b_ : Bool), v39 = .bool b_ ∧ Aside0 ((b_ = true → impl_nodes_blanks.l0 k1 l (wrap64 (at1 + 1)) = some r1) ∧ (b_ = false → some at1 = some r1)) ∧ Aside0 (wc.heap[g]? = some (.cells #[.slice AL l.length cL, .int .i64 at1, .bool bad] 61 (0, 0))) ∧ Aside0 (Below w0.heap.size w0 wc) ∧ Aside0 (Kept w wc (fun k_ => k_ = g)))
   case first => as_aux_lemma =>
    by_cases c1 : at1 < (l.length : Int)
    rotate_left
    · rw [if_neg c1] at H
      have c1b0 := decide_eq_false c1
      clear c1
      go_wp2
      repeat (go_quiet (fail); try go_wp2)
      go_meet
      case rel => exact ⟨false, rs_, ⟨⟨fun h_ => (by cases h_), fun _ => H⟩⟩, ⟨vb_ BKg.out⟩, ⟨bB_⟩, ⟨by repeat (first | (with_reducible first | exact HK.out | apply Kept.drewN | apply Kept.drew | apply Kept.alloc) | exact HK.out)⟩⟩
    rw [if_pos c1] at H
    have c1b0 := decide_eq_true c1
    by_cases c2 : 0 ≤ at1
    rotate_left
    · rw [if_neg c2] at H
      exact absurd H (by simp)
    rw [if_pos c2] at H
    have c2b0 := decide_eq_true c2
    obtain ⟨add, eed, hyd0, hyd1, hyd2, hyd3, hyd4⟩ := at_T82 HLC.out at1 c2 c1
    replace hyd0 := pw_cell_below HB.out hyd0
    replace hyd1 := pw_cell_below HB.out hyd1
    replace hyd2 := pw_cell_below HB.out hyd2
    replace hyd3 := pw_cell_below HB.out hyd3
    replace hyd4 := pw_cell_below HB.out hyd4
    replace c1 := eq_true c1
    replace c2 := eq_true c2
    rw [eed] at hxg
    by_cases c4 : (rd_T82 l at1).f0 = 4
    rotate_left
    · rw [if_neg c4] at H
      have c4b0 : ((rd_T82 l at1).f0 == 4) = false := beq_eq_false_iff_ne.mpr c4
      clear c4
      go_wp2
      repeat (go_quiet (fail); try go_wp2)
      go_meet
      case rel => exact ⟨false, rs_, ⟨⟨fun h_ => (by cases h_), fun _ => H⟩⟩, ⟨vb_ BKg.out⟩, ⟨bB_⟩, ⟨by repeat (first | (with_reducible first | exact HK.out | apply Kept.drewN | apply Kept.drew | apply Kept.alloc) | exact HK.out)⟩⟩
    rw [if_pos c4] at H
    have c4b0 : ((rd_T82 l at1).f0 == 4) = true := beq_iff_eq.mpr c4
    clear c4
    replace H := Option.bind_eq_some_iff.mp H
    obtain ⟨t_, A0_, H⟩ := H
    have At_ := A_ A0_
    clear A0_
    try go_wp2
    refine start_ (n := 38) (S := fun w' => w'.cell? ⟨g, 0, none⟩ = some (.slice (some add) l.length cL) ∧ w'.cell? ⟨g, 1, none⟩ = some (.int .i64 at1) ∧ w'.cell? (add.add ((at1).toNat * 5)) = some (.int .i64 (rd_T82 l at1).f0) ∧ w'.cell? ⟨(add.add ((at1).toNat * 5)).block, (add.add ((at1).toNat * 5)).off + 4, none⟩ = some (.string (rd_T82 l at1).f4)) (ds := [36]) #[false, false, false, false, false, false, false, false, false, false, false, false, false, false, false, false, false, false, false, false, false, false, false, false, false, false, false, false, false, false, false, false, false, false, false, false, false, false] (by kernel_rfl) rfl rfl ⟨hxg.1, hxg.2.1, hyd0, hyd4⟩ (fun hHeld => ?_); refine with_tabW impl_nodes_blanks.tab0 impl_nodes_blanks.bits0 (fun HT_ HW_ => ?_)
    generalize hWd_ : wr.drew = q_1 at hHeld ⊢
    have hb_ : Below wr.heap.size wr q_1 := (by rw [← hWd_]; exact below_drew (Below.refl _ _))
    clear hWd_
    replace BKg := A_ (blk_below BKg.out hb_)
    replace HK := A_ (Kept.below HK.out hb_)
    replace HB := A_ (below_step HB.out hb_)
    clear hb_
    replace hxg := cells3 BKg.out
    refine pu_ (i := 0) (N := some 2) ?_
    refine pu_ (i := 1) (N := some 3) ?_
    refine pu_ (i := 2) (N := some 4) ?_
    refine pu_ (i := 4) (N := some 6) ?_
    refine pu_ (i := 5) (N := some 7) ?_
    refine pu_ (i := 6) (N := some 8) ?_
    refine tk_ (i := 3) (N := some 5) hHeld ?_
    refine tk_ (i := 7) (N := some 9) hHeld ?_
    refine pu_ (i := 8) (N := some 10) ?_
    refine pu_ (i := 9) (N := some 11) ?_
    refine pu_ (i := 10) (N := some 12) ?_
    refine pu_ (i := 11) (N := some 13) ?_
    refine pu_ (i := 12) (N := some 14) ?_
    refine pu_ (i := 13) (N := some 15) ?_
    refine pu_ (i := 15) (N := some 17) ?_
    refine pu_ (i := 16) (N := some 18) ?_
    refine pu_ (i := 17) (N := some 19) ?_
    refine tk_ (i := 14) (N := some 16) hHeld ?_
    refine tk_ (i := 18) (N := some 20) hHeld ?_
    refine pu_ (i := 19) (N := some 21) ?_
    refine pu_ (i := 20) (N := some 22) ?_
    refine tk_ (i := 21) (N := some 23) hHeld ?_
    refine pu_ (i := 22) (N := some 24) ?_
    refine pu_ (i := 23) (N := some 25) ?_
    refine pu_ (i := 24) (N := some 26) ?_
    refine pu_ (i := 25) (N := some 27) ?_
    refine pu_ (i := 26) (N := some 28) ?_
    refine pu_ (i := 27) (N := some 29) ?_
    refine pu_ (i := 29) (N := some 31) ?_
    refine pu_ (i := 30) (N := some 32) ?_
    refine pu_ (i := 31) (N := some 33) ?_
    refine tk_ (i := 28) (N := some 30) hHeld ?_
    refine tk_ (i := 32) (N := some 34) hHeld ?_
    refine pu_ (i := 33) (N := some 35) ?_
    refine pu_ (i := 34) (N := some 36) ?_
    refine tk_ (i := 35) (N := some 37) hHeld ?_
    refine last_ (i := 36) (N := some 38) #[true, true, true, true, true, true, true, true, true, true, true, true, true, true, true, true, true, true, true, true, true, true, true, true, true, true, true, true, true, true, true, true, true, true, true, true, true, false] rfl rfl (one_of HT_.out (by kernel_rfl)) (by decide) (fun K hK => ?_)
    refine goes_ Tryz.func65 (by kernel_rfl) rfl #[.string (rd_T82 l at1).f4] (by rfl) rfl rfl (by simp only [List.map_toArray, List.map_cons, List.map_nil]; rfl) ?_
    with_reducible refine (impl_isBlank.calls ((rd_T82 l at1).f4) t_ _ At_.out).mono ?_
    rintro e q_2 ⟨rfl, hb_⟩
    refine ⟨_, rfl, ?_⟩
    replace BKg := A_ (blk_below BKg.out hb_)
    replace HK := A_ (Kept.below HK.out hb_)
    replace HB := A_ (below_step HB.out hb_)
    clear hb_
    replace hxg := cells3 BKg.out
    refine hK.out _ _ ?_
    clear hK K
    refine no_ (some 38) ?_
    refine pu_ (i := 37) (N := some 39) ?_
    refine done_ (done_of HT_.out (by kernel_rfl)) ?_
    (try clear hHeld)
    go_wp2
    go_meet
    case rel => exact ⟨t_, rs_, ⟨⟨fun h_ => by rw [if_pos h_] at H; exact H, fun h_ => by rw [if_neg (by rw [h_]; decide)] at H; exact H⟩⟩, ⟨vb_ BKg.out⟩, ⟨bB_⟩, ⟨by repeat (first | (with_reducible first | exact HK.out | apply Kept.drewN | apply Kept.drew | apply Kept.alloc) | exact HK.out)⟩⟩
   case rest =>
    clear BKg hxg HB HK H
    obtain ⟨b_, rfl, HA, BKg, HB, HK⟩ := hcut
    have hxg := cells3 BKg.out
    cases b_
    · obtain rfl := Option.some.inj (HA.out.2 rfl)
      go_wp2
      (first | go_end0 | ((try simp only [Exit.inBlock, Exit.then]); refine bodyPost_ret (results_none rfl _ _ _) rfl ?_))
      exact ⟨rfl, BKg.out, HB.out, HK.out⟩
    · have H' := A_ (HA.out.1 rfl)
      clear HA
      go_wp2_with (first | ((with_reducible refine gate_store (t := 3) (p := 46) rfl ?_); apply box_store (g := g); (case hrun => first | (go_simp; done) | (go_simp; rfl)); (case _ho => rfl); (case hN => rfl); (case hgd => rfl); (case hs => repeat (first | (with_reducible exact Sto.refl _ _) | refine Sto.step ?_ _ _)); (case hb => repeat (first | (with_reducible exact IsBlk.of BKg.out) | (with_reducible apply IsBlk.set))); intro v_1 hw' bk_; simp only [List.setIfInBounds_toArray, List.set_cons_zero, List.set_cons_succ] at bk_; replace HK := A_ (hw'.keeps (I := fun w_ => Kept w w_ (fun k_ => k_ = g)) HK.out (fun _ _ u_ h_ => Kept.setCell h_ (.inl rfl) u_)); replace HB := A_ (stored_below hw' HB.out GEg.out); replace BKg := Aside0.mk bk_; clear hw' bk_; replace hxg := cells3 BKg.out))
      go_roundg k1
      case measure => have := HK1.out; omega
      case rel => exact ⟨wrap64 (at1 + 1), H', ⟨by have := HK1.out; omega⟩, BKg, HB, HK⟩
end Go.Proofs.YtegkokdncakadaaGreatDoor.Q
