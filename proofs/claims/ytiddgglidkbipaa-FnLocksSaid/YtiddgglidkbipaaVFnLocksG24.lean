-- PRINTED by print.py (a twelfth state) out of the translation. Not trusted: Lean checks it.
import Derived.Test.YtiddgglidkbipaaVFnLocksG12
import Derived.Test.YtiddgglidkbipaaVFnLocksG22
namespace Go.Proofs.Ytiddgglidkbipaa.Q
open Go.RowKit Go.Proofs.YtiddgglidkbipaaW.PrintWords Go.Proofs.YtiddgglidkbipaaW.PrintLast Go.Proofs.YtiddgglidkbipaaW.PrintMore
attribute [local go_sem] max2_int min2_int max_two min_two max_three min_three max_four min_four   -- for this text's walks alone
set_option linter.unusedVariables false
set_option linter.unusedSimpArgs false
def impl_TokensAt.l0 : Nat → List ByteArray → List Int → List (S28) → Int → Int → Option (List Int)
 | 0, _, _, _, _, _ => none
 | k + 1, x1, x5, x8, x9, x10 => if x10 < x9 then (if 0 ≤ x10 then (if x10 < (x8.length : Int) then ((impl_Covers.f k ((rd_T28 x8 x10).f0) ((rd_T28 x8 x10).f1) ((rd_T28 x8 x10).f2) ((rd_T28 x8 x10).f3) ((rd_T28 x8 x10).f4) x1).bind fun t442 => (if t442 = true then (if x5.length < 17592186044416 then (impl_TokensAt.l0 k x1 (x5 ++ [(rd_T28 x8 x10).f0]) x8 x9 (wrap64 (x10 + 1))) else (none)) else (impl_TokensAt.l0 k x1 x5 x8 x9 (wrap64 (x10 + 1))))) else (none)) else (none)) else (some x5)
def impl_TokensAt.f (k : Nat) (l0 : List (S28)) (l1 : List ByteArray) : Option (List Int) := impl_TokensAt.l0 k l1 ([] : List Int) l0 (l0.length : Int) 0
set_option maxHeartbeats 8000000 in
set_option maxRecDepth 100000 in
theorem impl_TokensAt.calls (k : Nat) (A0 : Option Addr) (c0 : Nat) (l0 : List (S28)) (A1 : Option Addr) (c1 : Nat) (l1 : List ByteArray) (r : List Int) (w : World) (hr0 : Kd.C k28 w A0 l0.length l0) (hc0 : l0.length ≤ c0) (hr1 : Kd.C Kd.string w A1 l1.length l1) (hc1 : l1.length ≤ c1) (h : impl_TokensAt.f k l0 l1 = some r) :
 Calls Try.prog 39 #[.slice A0 l0.length c0, .slice A1 l1.length c1] w fun e w' => ∃ v0_ : Value, e = .returned (v0_) ∧ Kd.R (Kd.int .i64) 3 w' w.heap.size (fun _ => True) v0_ r ∧ Below w.heap.size w w' := by
 have hu28 := Try.underlying28
 have HR0 := Aside0.mk hr0
 have HC0 := Aside0.mk hc0
 clear hr0 hc0
 have HR1 := Aside0.mk hr1
 have HC1 := Aside0.mk hc1
 clear hr1 hc1
 have HB := A_ (Below.refl w.heap.size w)
 have H : (impl_TokensAt.l0 k l1 ([] : List Int) l0 (l0.length : Int) 0) = some r := h
 clear h
 have H' := Aside0.mk H
 clear H
 go_enter Try.func39, Try.ntmps39
 go_wp2
 go_loopg [5, 10] k (fun kq v5 v10 w' => ∃ (x5_1 : List Int) (x10_1 : Int), v10 = .int .i64 x10_1 ∧ Aside0 (impl_TokensAt.l0 kq l1 x5_1 l0 (l0.length : Int) x10_1 = some r) ∧ Aside0 (kq ≤ k) ∧ Aside0 (Kd.R (Kd.int .i64) 3 w' w.heap.size (fun _ => True) v5 x5_1) ∧ Aside0 (Below w.heap.size w w'))
 case atStart => exact ⟨(([] : List Int)), (0), rs_, H', ⟨Nat.le_refl _⟩, ⟨by first | exact Kd.R_nil _ _ _ _ _ | exact Kd.N_nil _ _ _ _ _ | exact Kd.V_nil _ _ _ _ _ | exact Kd.Q_nil _ _ _ _ _ | exact Kd.S_nil _ _ _ _ _⟩, ⟨bB_⟩⟩
 case round =>
  clear H'
  try clear c1
  try clear p2
  obtain ⟨x5_1, x10_1, rfl, HA, HK1, HO_5, HB⟩ := hrel
  cases gk with
  | zero => exact absurd HA.out (by simp [impl_TokensAt.l0])
  | succ k1 =>
   have H := HA.out
   clear HA
   simp only [impl_TokensAt.l0] at H
   by_cases c3 : x10_1 < (l0.length : Int)
   rotate_left
   · rw [if_neg c3] at H
     have c3b0 : decide (x10_1 < (l0.length : Int)) = false := decide_eq_false c3
     clear c3
     obtain rfl := Option.some.inj H
     go_wp2
     go_ret
     exact ⟨_, rr_, by (with_reducible repeat (first | apply Kd.R_alloc | apply Kd.R_drewN | apply Kd.R_drew)); exact HO_5.out, bB_⟩
   rw [if_pos c3] at H
   have c3b0 : decide (x10_1 < (l0.length : Int)) = true := decide_eq_true c3
   clear c3
   by_cases c4 : 0 ≤ x10_1
   rotate_left
   · exact absurd H (by rw [if_neg c4]; simp)
   rw [if_pos c4] at H
   have c4b0 : decide (0 ≤ x10_1) = true := decide_eq_true c4
   clear c4
   by_cases c5 : x10_1 < (l0.length : Int)
   rotate_left
   · exact absurd H (by rw [if_neg c5]; simp)
   rw [if_pos c5] at H
   have c5b0 : decide (x10_1 < (l0.length : Int)) = true := decide_eq_true c5
   clear c5
   obtain ⟨t442, A6, H⟩ := bo_ H
   (try dsimp only at H)
   by_cases c7 : t442 = true
   · subst c7
     rw [if_pos rfl] at H
     by_cases c8 : x5_1.length < 17592186044416
     rotate_left
     · exact absurd H (by rw [if_neg c8]; simp)
     rw [if_pos c8] at H
     have LMc8 := Aside0.mk c8
     clear c8
     obtain ⟨y443, hy443⟩ : ∃ y_ : List Int, y_ = (x5_1 ++ [(rd_T28 l0 x10_1).f0]) := ⟨_, rfl⟩
     replace H : (impl_TokensAt.l0 k1 l1 y443 l0 (l0.length : Int) (wrap64 (x10_1 + 1))) = some r := hy_ hy443 H
     have Ny443 := Aside0.mk hy443
     clear hy443
     have H' := Aside0.mk H
     clear H
     have p440 : 0 ≤ (x10_1 : Int) := of_decide_eq_true as_
     have q440 : x10_1 < (l0.length : Int) := of_decide_eq_true as_
     obtain ⟨ad440, A440_1, c440_1, e440, hx440_0, hx440_1, hx440_2, hx440_3, hx440_4, hl440_1, hi440_1⟩ := at_T28 HR0.out x10_1 p440 q440
     cases e440
     replace hx440_0 := bc_ HB.out hx440_0
     replace hx440_1 := bc_ HB.out hx440_1
     replace hx440_2 := bc_ HB.out hx440_2
     replace hx440_3 := bc_ HB.out hx440_3
     replace hx440_4 := bc_ HB.out hx440_4
     have HR440_1 := Aside0.mk hi440_1
     have HC440_1 := Aside0.mk hl440_1
     clear hi440_1 hl440_1
     replace p440 := eq_true p440
     replace q440 := eq_true q440
     go_wp2_with (first | ((with_reducible refine gate_dst (N := 7) rfl ?_); refine bx_ (N := 7) (cs := #[.int .i64 0, .slice none 0 0, .bool false, .bool false, .int .i64 0]) (t := 28) ?_; intro gb441 hg w9 hbox hb; replace HO_5 := A_ (Kd.R_below (vR_ HO_5.out) hb); have BK441 := A_ (hbox); have GW441 := A_ (ge_ hg bB_ : w.heap.size ≤ gb441); have GE441 := A_ (ge_ hg bB_ : w.heap.size ≤ gb441); replace HB := A_ (below_step bB_ hb); clear hb hbox hg; obtain ⟨hcz10_0, hcz10_1, hcz10_2, hcz10_3, hcz10_4, hfz10_0, hfz10_1, hfz10_2, hfz10_3, hfz10_4⟩ := cz5_ BK441.out) | ((with_reducible refine gate_callee (f := 20) rfl ?_); refine gL_ (some 16) Try.func20 #[.agg #[.int .i64 ((rd_T28 l0 x10_1).f0), .slice A440_1 ((rd_T28 l0 x10_1).f1).length c440_1, .bool ((rd_T28 l0 x10_1).f2), .bool ((rd_T28 l0 x10_1).f3), .int .i64 ((rd_T28 l0 x10_1).f4)], .slice A1 l1.length c1] ?_; (with_reducible refine (impl_Covers.calls k1 ((rd_T28 l0 x10_1).f0) _ _ ((rd_T28 l0 x10_1).f1) ((rd_T28 l0 x10_1).f2) ((rd_T28 l0 x10_1).f3) ((rd_T28 l0 x10_1).f4) _ _ l1 true _ ?s1 ?s2 ?s3 ?s4 A6.out).mono ?_); (case s1 => exact Kd.C_below HR440_1.out (bG_ GE441.out)); (case s2 => exact HC440_1.out); (case s3 => exact Kd.C_below HR1.out (bG_ GE441.out)); (case s4 => exact HC1.out); rintro e w11 ⟨rfl, hb⟩; refine ⟨_, rfl, ?_⟩; replace HO_5 := A_ (Kd.R_below (by (with_reducible repeat (first | apply Kd.R_alloc | apply Kd.R_drewN | apply Kd.R_drew)); exact (Kd.R_mono (Kd.R_far (p := ⟨gb441, 4, none⟩) (Kd.R_far (p := ⟨gb441, 3, none⟩) (Kd.R_far (p := ⟨gb441, 2, none⟩) (Kd.R_far (p := ⟨gb441, 1, none⟩) (Kd.R_far (p := ⟨gb441, 0, none⟩) (Kd.R_types HO_5.out BK441.out (by decide)) (fun _ hk => hk.2) (.int .i64 ((rd_T28 l0 x10_1).f0))) (fun _ hk => hk.2) (.slice A440_1 ((rd_T28 l0 x10_1).f1).length c440_1)) (fun _ hk => hk.2) (.bool ((rd_T28 l0 x10_1).f2))) (fun _ hk => hk.2) (.bool ((rd_T28 l0 x10_1).f3))) (fun _ hk => hk.2) (.int .i64 ((rd_T28 l0 x10_1).f4))) (fun _ h_ => h_.1))) hb); replace BK441 := A_ (blk_below (g := gb441) (o := .cells #[.int .i64 ((rd_T28 l0 x10_1).f0), .slice A440_1 ((rd_T28 l0 x10_1).f1).length c440_1, .bool ((rd_T28 l0 x10_1).f2), .bool ((rd_T28 l0 x10_1).f3), .int .i64 ((rd_T28 l0 x10_1).f4)] 28 (0, 0)) (by (with_reducible repeat (first | refine blk_drewN ?_ _ | refine blk_drew ?_ | refine blk_alloc ?_ _)); refine blk_put (cs := #[.int .i64 ((rd_T28 l0 x10_1).f0), .slice A440_1 ((rd_T28 l0 x10_1).f1).length c440_1, .bool ((rd_T28 l0 x10_1).f2), .bool ((rd_T28 l0 x10_1).f3), .int .i64 0]) ?_ 4 _ rfl; (with_reducible repeat (first | refine blk_drewN ?_ _ | refine blk_drew ?_ | refine blk_alloc ?_ _)); refine blk_put (cs := #[.int .i64 ((rd_T28 l0 x10_1).f0), .slice A440_1 ((rd_T28 l0 x10_1).f1).length c440_1, .bool ((rd_T28 l0 x10_1).f2), .bool false, .int .i64 0]) ?_ 3 _ rfl; (with_reducible repeat (first | refine blk_drewN ?_ _ | refine blk_drew ?_ | refine blk_alloc ?_ _)); refine blk_put (cs := #[.int .i64 ((rd_T28 l0 x10_1).f0), .slice A440_1 ((rd_T28 l0 x10_1).f1).length c440_1, .bool false, .bool false, .int .i64 0]) ?_ 2 _ rfl; (with_reducible repeat (first | refine blk_drewN ?_ _ | refine blk_drew ?_ | refine blk_alloc ?_ _)); refine blk_put (cs := #[.int .i64 ((rd_T28 l0 x10_1).f0), .slice none 0 0, .bool false, .bool false, .int .i64 0]) ?_ 1 _ rfl; (with_reducible repeat (first | refine blk_drewN ?_ _ | refine blk_drew ?_ | refine blk_alloc ?_ _)); refine blk_put (cs := #[.int .i64 0, .slice none 0 0, .bool false, .bool false, .int .i64 0]) ?_ 0 _ rfl; (with_reducible repeat (first | refine blk_drewN ?_ _ | refine blk_drew ?_ | refine blk_alloc ?_ _)); exact BK441.out) hb); replace HB := A_ (below_step (bG_ GE441.out) hb); (try clear hb); obtain ⟨hcz12_0, hcz12_1, hcz12_2, hcz12_3, hcz12_4, hfz12_0, hfz12_1, hfz12_2, hfz12_3, hfz12_4⟩ := cz5_ BK441.out) | ((with_reducible refine gate_builtin (b := .append) (xs := #[.tmp 17, .tmp 20]) rfl ?_); at_builtin; refine Kd.R_append (Kd.int .i64) (w0 := w) w.heap.size rfl (.tmp 17) (.tmp 20) 36 3 (.int .i64 0) 8 rfl Try.underlying36 info3 rfl (by decide) (by omega) u5 x5_1 ((rd_T28 l0 x10_1).f0) [.int .i64 ((rd_T28 l0 x10_1).f0)] (fun _ => True) (fun _ => False) rfl rfl ?aP (fun _ hk => hk.elim) ?aF ?aO ?aB ?aS ?aL ?_; (case aP => exact rfl); (case aB => exact (bG_ GE441.out)); (case aF => exact (fun _ _ => trivial)); (case aO => exact (vR_ HO_5.out)); (case aS => exact (below_size (bG_ GE441.out))); (case aL => have := LMc8.out; omega); intro v444 w13 ho hb hg hat; rw [← Ny443.out] at ho; replace BK441 := A_ (blk_grown (g := gb441) (o := .cells #[.int .i64 ((rd_T28 l0 x10_1).f0), .slice A440_1 ((rd_T28 l0 x10_1).f1).length c440_1, .bool ((rd_T28 l0 x10_1).f2), .bool ((rd_T28 l0 x10_1).f3), .int .i64 ((rd_T28 l0 x10_1).f4)] 28 (0, 0)) (vb_ BK441.out) hg (Kd.R_ne HO_5.out BK441.out (by decide))); replace HB := A_ (hb); have HO445 := A_ (ho); clear HO_5; clear ho hb hg hat))
     go_roundg k1
     case measure => have := HK1.out; omega
     case rel => exact ⟨(y443), (wrap64 (x10_1 + 1)), rs_, H', ⟨by have := HK1.out; omega⟩, ⟨vR_ HO445.out⟩, ⟨bG_ GE441.out⟩⟩
   · replace c7 := Bool.eq_false_iff.mpr c7
     subst c7
     rw [if_neg nf_] at H
     have H' := Aside0.mk H
     clear H
     have p440 : 0 ≤ (x10_1 : Int) := of_decide_eq_true as_
     have q440 : x10_1 < (l0.length : Int) := of_decide_eq_true as_
     obtain ⟨ad440, A440_1, c440_1, e440, hx440_0, hx440_1, hx440_2, hx440_3, hx440_4, hl440_1, hi440_1⟩ := at_T28 HR0.out x10_1 p440 q440
     cases e440
     replace hx440_0 := bc_ HB.out hx440_0
     replace hx440_1 := bc_ HB.out hx440_1
     replace hx440_2 := bc_ HB.out hx440_2
     replace hx440_3 := bc_ HB.out hx440_3
     replace hx440_4 := bc_ HB.out hx440_4
     have HR440_1 := Aside0.mk hi440_1
     have HC440_1 := Aside0.mk hl440_1
     clear hi440_1 hl440_1
     replace p440 := eq_true p440
     replace q440 := eq_true q440
     go_wp2_with (first | ((with_reducible refine gate_dst (N := 7) rfl ?_); refine bx_ (N := 7) (cs := #[.int .i64 0, .slice none 0 0, .bool false, .bool false, .int .i64 0]) (t := 28) ?_; intro gb441 hg w14 hbox hb; replace HO_5 := A_ (Kd.R_below (vR_ HO_5.out) hb); have BK441 := A_ (hbox); have GW441 := A_ (ge_ hg bB_ : w.heap.size ≤ gb441); have GE441 := A_ (ge_ hg bB_ : w.heap.size ≤ gb441); replace HB := A_ (below_step bB_ hb); clear hb hbox hg; obtain ⟨hcz15_0, hcz15_1, hcz15_2, hcz15_3, hcz15_4, hfz15_0, hfz15_1, hfz15_2, hfz15_3, hfz15_4⟩ := cz5_ BK441.out) | ((with_reducible refine gate_callee (f := 20) rfl ?_); refine gL_ (some 16) Try.func20 #[.agg #[.int .i64 ((rd_T28 l0 x10_1).f0), .slice A440_1 ((rd_T28 l0 x10_1).f1).length c440_1, .bool ((rd_T28 l0 x10_1).f2), .bool ((rd_T28 l0 x10_1).f3), .int .i64 ((rd_T28 l0 x10_1).f4)], .slice A1 l1.length c1] ?_; (with_reducible refine (impl_Covers.calls k1 ((rd_T28 l0 x10_1).f0) _ _ ((rd_T28 l0 x10_1).f1) ((rd_T28 l0 x10_1).f2) ((rd_T28 l0 x10_1).f3) ((rd_T28 l0 x10_1).f4) _ _ l1 false _ ?s1 ?s2 ?s3 ?s4 A6.out).mono ?_); (case s1 => exact Kd.C_below HR440_1.out (bG_ GE441.out)); (case s2 => exact HC440_1.out); (case s3 => exact Kd.C_below HR1.out (bG_ GE441.out)); (case s4 => exact HC1.out); rintro e w16 ⟨rfl, hb⟩; refine ⟨_, rfl, ?_⟩; replace HO_5 := A_ (Kd.R_below (by (with_reducible repeat (first | apply Kd.R_alloc | apply Kd.R_drewN | apply Kd.R_drew)); exact (Kd.R_mono (Kd.R_far (p := ⟨gb441, 4, none⟩) (Kd.R_far (p := ⟨gb441, 3, none⟩) (Kd.R_far (p := ⟨gb441, 2, none⟩) (Kd.R_far (p := ⟨gb441, 1, none⟩) (Kd.R_far (p := ⟨gb441, 0, none⟩) (Kd.R_types HO_5.out BK441.out (by decide)) (fun _ hk => hk.2) (.int .i64 ((rd_T28 l0 x10_1).f0))) (fun _ hk => hk.2) (.slice A440_1 ((rd_T28 l0 x10_1).f1).length c440_1)) (fun _ hk => hk.2) (.bool ((rd_T28 l0 x10_1).f2))) (fun _ hk => hk.2) (.bool ((rd_T28 l0 x10_1).f3))) (fun _ hk => hk.2) (.int .i64 ((rd_T28 l0 x10_1).f4))) (fun _ h_ => h_.1))) hb); replace BK441 := A_ (blk_below (g := gb441) (o := .cells #[.int .i64 ((rd_T28 l0 x10_1).f0), .slice A440_1 ((rd_T28 l0 x10_1).f1).length c440_1, .bool ((rd_T28 l0 x10_1).f2), .bool ((rd_T28 l0 x10_1).f3), .int .i64 ((rd_T28 l0 x10_1).f4)] 28 (0, 0)) (by (with_reducible repeat (first | refine blk_drewN ?_ _ | refine blk_drew ?_ | refine blk_alloc ?_ _)); refine blk_put (cs := #[.int .i64 ((rd_T28 l0 x10_1).f0), .slice A440_1 ((rd_T28 l0 x10_1).f1).length c440_1, .bool ((rd_T28 l0 x10_1).f2), .bool ((rd_T28 l0 x10_1).f3), .int .i64 0]) ?_ 4 _ rfl; (with_reducible repeat (first | refine blk_drewN ?_ _ | refine blk_drew ?_ | refine blk_alloc ?_ _)); refine blk_put (cs := #[.int .i64 ((rd_T28 l0 x10_1).f0), .slice A440_1 ((rd_T28 l0 x10_1).f1).length c440_1, .bool ((rd_T28 l0 x10_1).f2), .bool false, .int .i64 0]) ?_ 3 _ rfl; (with_reducible repeat (first | refine blk_drewN ?_ _ | refine blk_drew ?_ | refine blk_alloc ?_ _)); refine blk_put (cs := #[.int .i64 ((rd_T28 l0 x10_1).f0), .slice A440_1 ((rd_T28 l0 x10_1).f1).length c440_1, .bool false, .bool false, .int .i64 0]) ?_ 2 _ rfl; (with_reducible repeat (first | refine blk_drewN ?_ _ | refine blk_drew ?_ | refine blk_alloc ?_ _)); refine blk_put (cs := #[.int .i64 ((rd_T28 l0 x10_1).f0), .slice none 0 0, .bool false, .bool false, .int .i64 0]) ?_ 1 _ rfl; (with_reducible repeat (first | refine blk_drewN ?_ _ | refine blk_drew ?_ | refine blk_alloc ?_ _)); refine blk_put (cs := #[.int .i64 0, .slice none 0 0, .bool false, .bool false, .int .i64 0]) ?_ 0 _ rfl; (with_reducible repeat (first | refine blk_drewN ?_ _ | refine blk_drew ?_ | refine blk_alloc ?_ _)); exact BK441.out) hb); replace HB := A_ (below_step (bG_ GE441.out) hb); (try clear hb)))
     go_roundg k1
     case measure => have := HK1.out; omega
     case rel => exact ⟨(x5_1), (wrap64 (x10_1 + 1)), rs_, H', ⟨by have := HK1.out; omega⟩, ⟨vR_ HO_5.out⟩, ⟨bG_ GE441.out⟩⟩
def spec_l1In.f (a0 : Int) (a1 : Int) (a2 : Int) : Option (Bool) := if a0 ≥ a1 then (some (decide (a0 ≤ a2))) else (some false)
set_option maxHeartbeats 8000000 in
set_option maxRecDepth 100000 in
theorem spec_l1In.calls (a0 : Int) (a1 : Int) (a2 : Int) (r : Bool) (w : World) (h : spec_l1In.f a0 a1 a2 = some r) :
 Calls Try.prog 74 #[.int .i64 a0, .int .i64 a1, .int .i64 a2] w fun e w' => e = .returned (.bool r) ∧ Drawn0 w w' := by
 have H : (if a0 ≥ a1 then (some (decide (a0 ≤ a2))) else (some false)) = some r := h
 clear h
 by_cases c4 : a0 ≥ a1
 · rw [if_pos c4] at H
   have c4b0 : decide (a1 ≤ a0) = true := decide_eq_true c4
   clear c4
   obtain rfl := Option.some.inj H
   go_enter Try.func74, Try.ntmps74
   go_wp2
   go_ret
   exact ⟨rs_, dr_⟩
 rw [if_neg c4] at H
 have c4b0 : decide (a1 ≤ a0) = false := decide_eq_false c4
 clear c4
 obtain rfl := Option.some.inj H
 go_enter Try.func74, Try.ntmps74
 go_wp2
 go_ret
 exact ⟨rs_, dr_⟩
def spec_Plain.l0 : Nat → ByteArray → Int → Option (Bool)
 | 0, _, _ => none
 | k + 1, x0, x3 => if x3 < (x0.size : Int) then (if 0 ≤ x3 then ((spec_l1In.f (wrap64 (bt x0 x3)) 32 126).bind fun t477 => (if t477 = true then (spec_Plain.l0 k x0 (wrap64 (x3 + 1))) else (some false))) else (none)) else (some true)
def spec_Plain.f (k : Nat) (a0 : ByteArray) : Option (Bool) := spec_Plain.l0 k a0 0
set_option maxHeartbeats 8000000 in
set_option maxRecDepth 100000 in
theorem spec_Plain.calls (k : Nat) (a0 : ByteArray) (r : Bool) (w : World) (h : spec_Plain.f k a0 = some r) :
 Calls Try.prog 96 #[.string a0] w fun e w' => e = .returned (.bool r) ∧ Drawn0 w w' := by
 have H : (spec_Plain.l0 k a0 0) = some r := h
 clear h
 have H' := Aside0.mk H
 clear H
 go_enter Try.func96, Try.ntmps96
 go_wp2
 go_loopg [3] k (fun kq v3 w' => ∃ (x3_1 : Int), v3 = .int .i64 x3_1 ∧ Aside0 (spec_Plain.l0 kq a0 x3_1 = some r) ∧ Aside0 (kq ≤ k) ∧ Drawn0 w w')
 case atStart => exact ⟨(0), rs_, H', ⟨Nat.le_refl _⟩, dr_⟩
 case round =>
  clear H'
  obtain ⟨x3_1, rfl, HA, HK1, ⟨m1, rfl⟩⟩ := hrel
  cases gk with
  | zero => exact absurd HA.out (by simp [spec_Plain.l0])
  | succ k1 =>
   have H := HA.out
   clear HA
   simp only [spec_Plain.l0] at H
   by_cases c2 : x3_1 < (a0.size : Int)
   rotate_left
   · rw [if_neg c2] at H
     have c2b0 : decide (x3_1 < (a0.size : Int)) = false := decide_eq_false c2
     clear c2
     obtain rfl := Option.some.inj H
     go_wp2
     go_ret
     exact ⟨rs_, dr_⟩
   rw [if_pos c2] at H
   have c2b0 : decide (x3_1 < (a0.size : Int)) = true := decide_eq_true c2
   clear c2
   by_cases c3 : 0 ≤ x3_1
   rotate_left
   · exact absurd H (by rw [if_neg c3]; simp)
   rw [if_pos c3] at H
   have c3b0 : decide (0 ≤ x3_1) = true := decide_eq_true c3
   clear c3
   obtain ⟨t477, A5, H⟩ := bo_ H
   (try dsimp only at H)
   by_cases c6 : t477 = true
   · subst c6
     rw [if_pos rfl] at H
     have H' := Aside0.mk H
     clear H
     have p4 : 0 ≤ (x3_1 : Int) := of_decide_eq_true as_
     have q4 : x3_1 < (a0.size : Int) := of_decide_eq_true as_
     have hx4 := bt_at a0 x3_1
     replace p4 := eq_true p4
     replace q4 := eq_true q4
     go_wp2_with (first | ((with_reducible refine gate_callee (f := 74) rfl ?_); refine gL_ (some 14) Try.func74 #[.int .i64 (wrap64 (bt a0 x3_1)), .int .i64 32, .int .i64 126] ?_; (with_reducible refine (spec_l1In.calls (wrap64 (bt a0 x3_1)) 32 126 true _ A5.out).mono ?_); rintro e w' ⟨rfl, ⟨nd, rfl⟩⟩; refine ⟨_, rfl, ?_⟩))
     go_roundg k1
     case measure => have := HK1.out; omega
     case rel => exact ⟨(wrap64 (x3_1 + 1)), rs_, H', ⟨by have := HK1.out; omega⟩, dr_⟩
   · replace c6 := Bool.eq_false_iff.mpr c6
     subst c6
     rw [if_neg nf_] at H
     obtain rfl := Option.some.inj H
     have p4 : 0 ≤ (x3_1 : Int) := of_decide_eq_true as_
     have q4 : x3_1 < (a0.size : Int) := of_decide_eq_true as_
     have hx4 := bt_at a0 x3_1
     replace p4 := eq_true p4
     replace q4 := eq_true q4
     go_wp2_with (first | ((with_reducible refine gate_callee (f := 74) rfl ?_); refine gL_ (some 14) Try.func74 #[.int .i64 (wrap64 (bt a0 x3_1)), .int .i64 32, .int .i64 126] ?_; (with_reducible refine (spec_l1In.calls (wrap64 (bt a0 x3_1)) 32 126 false _ A5.out).mono ?_); rintro e w' ⟨rfl, ⟨nd, rfl⟩⟩; refine ⟨_, rfl, ?_⟩))
     go_ret
     exact ⟨rs_, dr_⟩
def spec_NameOk.l0 : Nat → ByteArray → Int → Option (Bool)
 | 0, _, _ => none
 | k + 1, x0, x3 => if x3 < (x0.size : Int) then (if 0 ≤ x3 then (if (bt x0 x3) = 47 then (some false) else (spec_NameOk.l0 k x0 (wrap64 (x3 + 1)))) else (none)) else ((spec_l1In.f (x0.size : Int) 1 8).bind fun t478 => (if t478 = true then ((spec_Plain.f k x0).bind fun t479 => (if t479 = true then (if x0.toList = ([46] : List UInt8) then (some false) else (some (x0.toList != ([46, 46] : List UInt8)))) else (some false))) else (some false)))
def spec_NameOk.f (k : Nat) (a0 : ByteArray) : Option (Bool) := spec_NameOk.l0 k a0 0
set_option maxHeartbeats 8000000 in
set_option maxRecDepth 100000 in
theorem spec_NameOk.calls (k : Nat) (a0 : ByteArray) (r : Bool) (w : World) (h : spec_NameOk.f k a0 = some r) :
 Calls Try.prog 89 #[.string a0] w fun e w' => e = .returned (.bool r) ∧ Drawn0 w w' := by
 have H : (spec_NameOk.l0 k a0 0) = some r := h
 clear h
 have H' := Aside0.mk H
 clear H
 go_enter Try.func89, Try.ntmps89
 go_wp2
 go_loopg [3] k (fun kq v3 w' => ∃ (x3_1 : Int), v3 = .int .i64 x3_1 ∧ Aside0 (spec_NameOk.l0 kq a0 x3_1 = some r) ∧ Aside0 (kq ≤ k) ∧ Drawn0 w w')
 case atStart => exact ⟨(0), rs_, H', ⟨Nat.le_refl _⟩, dr_⟩
 case round =>
  clear H'
  obtain ⟨x3_1, rfl, HA, HK1, ⟨m1, rfl⟩⟩ := hrel
  cases gk with
  | zero => exact absurd HA.out (by simp [spec_NameOk.l0])
  | succ k1 =>
   have H := HA.out
   clear HA
   simp only [spec_NameOk.l0] at H
   by_cases c2 : x3_1 < (a0.size : Int)
   · rw [if_pos c2] at H
     have c2b0 : decide (x3_1 < (a0.size : Int)) = true := decide_eq_true c2
     clear c2
     by_cases c3 : 0 ≤ x3_1
     rotate_left
     · exact absurd H (by rw [if_neg c3]; simp)
     rw [if_pos c3] at H
     have c3b0 : decide (0 ≤ x3_1) = true := decide_eq_true c3
     clear c3
     by_cases c5 : (bt a0 x3_1) = 47
     · rw [if_pos c5] at H
       have c5b0 : ((bt a0 x3_1) == 47) = true := beq_iff_eq.mpr c5
       have c5b1 : ((bt a0 x3_1) != 47) = false := bne_eq_false_iff_eq.mpr c5
       clear c5
       obtain rfl := Option.some.inj H
       have p4 : 0 ≤ (x3_1 : Int) := of_decide_eq_true as_
       have q4 : x3_1 < (a0.size : Int) := of_decide_eq_true as_
       have hx4 := bt_at a0 x3_1
       replace p4 := eq_true p4
       replace q4 := eq_true q4
       go_wp2
       go_ret
       exact ⟨rs_, dr_⟩
     rw [if_neg c5] at H
     have c5b0 : ((bt a0 x3_1) == 47) = false := beq_eq_false_iff_ne.mpr c5
     have c5b1 : ((bt a0 x3_1) != 47) = true := bne_iff_ne.mpr c5
     have H' := Aside0.mk H
     clear H
     have p4 : 0 ≤ (x3_1 : Int) := of_decide_eq_true as_
     have q4 : x3_1 < (a0.size : Int) := of_decide_eq_true as_
     have hx4 := bt_at a0 x3_1
     replace p4 := eq_true p4
     replace q4 := eq_true q4
     go_wp2
     go_roundg k1
     case measure => have := HK1.out; omega
     case rel => exact ⟨(wrap64 (x3_1 + 1)), rs_, H', ⟨by have := HK1.out; omega⟩, dr_⟩
   rw [if_neg c2] at H
   have c2b0 : decide (x3_1 < (a0.size : Int)) = false := decide_eq_false c2
   clear c2
   obtain ⟨t478, A6, H⟩ := bo_ H
   (try dsimp only at H)
   by_cases c7 : t478 = true
   · subst c7
     rw [if_pos rfl] at H
     obtain ⟨t479, A8, H⟩ := bo_ H
     (try dsimp only at H)
     by_cases c9 : t479 = true
     · subst c9
       rw [if_pos rfl] at H
       by_cases c10 : a0.toList = ([46] : List UInt8)
       rotate_left
       · rw [if_neg c10] at H
         have c10b0 : (a0.toList == ([46] : List UInt8)) = false := beq_eq_false_iff_ne.mpr c10
         have c10b1 : (a0.toList != ([46] : List UInt8)) = true := bne_iff_ne.mpr c10
         obtain rfl := Option.some.inj H
         go_wp2_with (first | ((with_reducible refine gate_callee (f := 74) rfl ?_); refine gL_ (some 16) Try.func74 #[.int .i64 (a0.size : Int), .int .i64 1, .int .i64 8] ?_; (with_reducible refine (spec_l1In.calls (a0.size : Int) 1 8 true _ A6.out).mono ?_); rintro e w' ⟨rfl, ⟨nd, rfl⟩⟩; refine ⟨_, rfl, ?_⟩) | (go_at_call 96; (with_reducible refine (spec_Plain.calls k1 a0 true _ A8.out).mono ?_); rintro e w' ⟨rfl, ⟨nd, rfl⟩⟩))
         go_ret
         exact ⟨rs_, dr_⟩
       rw [if_pos c10] at H
       have c10b0 : (a0.toList == ([46] : List UInt8)) = true := beq_iff_eq.mpr c10
       have c10b1 : (a0.toList != ([46] : List UInt8)) = false := bne_eq_false_iff_eq.mpr c10
       clear c10
       obtain rfl := Option.some.inj H
       go_wp2_with (first | ((with_reducible refine gate_callee (f := 74) rfl ?_); refine gL_ (some 16) Try.func74 #[.int .i64 (a0.size : Int), .int .i64 1, .int .i64 8] ?_; (with_reducible refine (spec_l1In.calls (a0.size : Int) 1 8 true _ A6.out).mono ?_); rintro e w' ⟨rfl, ⟨nd, rfl⟩⟩; refine ⟨_, rfl, ?_⟩) | (go_at_call 96; (with_reducible refine (spec_Plain.calls k1 a0 true _ A8.out).mono ?_); rintro e w' ⟨rfl, ⟨nd, rfl⟩⟩))
       go_ret
       exact ⟨rs_, dr_⟩
     · replace c9 := Bool.eq_false_iff.mpr c9
       subst c9
       rw [if_neg nf_] at H
       obtain rfl := Option.some.inj H
       go_wp2_with (first | ((with_reducible refine gate_callee (f := 74) rfl ?_); refine gL_ (some 16) Try.func74 #[.int .i64 (a0.size : Int), .int .i64 1, .int .i64 8] ?_; (with_reducible refine (spec_l1In.calls (a0.size : Int) 1 8 true _ A6.out).mono ?_); rintro e w' ⟨rfl, ⟨nd, rfl⟩⟩; refine ⟨_, rfl, ?_⟩) | (go_at_call 96; (with_reducible refine (spec_Plain.calls k1 a0 false _ A8.out).mono ?_); rintro e w' ⟨rfl, ⟨nd, rfl⟩⟩))
       go_ret
       exact ⟨rs_, dr_⟩
   · replace c7 := Bool.eq_false_iff.mpr c7
     subst c7
     rw [if_neg nf_] at H
     obtain rfl := Option.some.inj H
     go_wp2_with (first | ((with_reducible refine gate_callee (f := 74) rfl ?_); refine gL_ (some 16) Try.func74 #[.int .i64 (a0.size : Int), .int .i64 1, .int .i64 8] ?_; (with_reducible refine (spec_l1In.calls (a0.size : Int) 1 8 false _ A6.out).mono ?_); rintro e w' ⟨rfl, ⟨nd, rfl⟩⟩; refine ⟨_, rfl, ?_⟩))
     go_ret
     exact ⟨rs_, dr_⟩
def spec_PathOk.l0 : Nat → List ByteArray → Int → Option (Bool)
 | 0, _, _ => none
 | k + 1, x0, x3 => if x3 < (x0.length : Int) then (if 0 ≤ x3 then ((spec_NameOk.f k (rdOf ByteArray.empty x0 x3)).bind fun t481 => (if t481 = true then (spec_PathOk.l0 k x0 (wrap64 (x3 + 1))) else (some false))) else (none)) else (some (decide ((x0.length : Int) ≤ 4)))
def spec_PathOk.f (k : Nat) (l0 : List ByteArray) : Option (Bool) := spec_PathOk.l0 k l0 0
set_option maxHeartbeats 8000000 in
set_option maxRecDepth 100000 in
theorem spec_PathOk.calls (k : Nat) (A0 : Option Addr) (c0 : Nat) (l0 : List ByteArray) (r : Bool) (w : World) (hr0 : Kd.C Kd.string w A0 l0.length l0) (hc0 : l0.length ≤ c0) (h : spec_PathOk.f k l0 = some r) :
 Calls Try.prog 75 #[.slice A0 l0.length c0] w fun e w' => e = .returned (.bool r) ∧ Drawn0 w w' := by
 have HR0 := Aside0.mk hr0
 have HC0 := Aside0.mk hc0
 clear hr0 hc0
 have H : (spec_PathOk.l0 k l0 0) = some r := h
 clear h
 have H' := Aside0.mk H
 clear H
 go_enter Try.func75, Try.ntmps75
 go_wp2
 go_loopg [3] k (fun kq v3 w' => ∃ (x3_1 : Int), v3 = .int .i64 x3_1 ∧ Aside0 (spec_PathOk.l0 kq l0 x3_1 = some r) ∧ Aside0 (kq ≤ k) ∧ Drawn0 w w')
 case atStart => exact ⟨(0), rs_, H', ⟨Nat.le_refl _⟩, dr_⟩
 case round =>
  clear H'
  obtain ⟨x3_1, rfl, HA, HK1, ⟨m1, rfl⟩⟩ := hrel
  cases gk with
  | zero => exact absurd HA.out (by simp [spec_PathOk.l0])
  | succ k1 =>
   have H := HA.out
   clear HA
   simp only [spec_PathOk.l0] at H
   by_cases c2 : x3_1 < (l0.length : Int)
   rotate_left
   · rw [if_neg c2] at H
     have c2b0 : decide (x3_1 < (l0.length : Int)) = false := decide_eq_false c2
     clear c2
     obtain rfl := Option.some.inj H
     go_wp2
     go_ret
     exact ⟨rs_, dr_⟩
   rw [if_pos c2] at H
   have c2b0 : decide (x3_1 < (l0.length : Int)) = true := decide_eq_true c2
   clear c2
   by_cases c3 : 0 ≤ x3_1
   rotate_left
   · exact absurd H (by rw [if_neg c3]; simp)
   rw [if_pos c3] at H
   have c3b0 : decide (0 ≤ x3_1) = true := decide_eq_true c3
   clear c3
   obtain ⟨t481, A4, H⟩ := bo_ H
   (try dsimp only at H)
   by_cases c5 : t481 = true
   · subst c5
     rw [if_pos rfl] at H
     have H' := Aside0.mk H
     clear H
     have p480 : 0 ≤ (x3_1 : Int) := of_decide_eq_true as_
     have q480 : x3_1 < (l0.length : Int) := of_decide_eq_true as_
     obtain ⟨ad480, e480, hx480_0⟩ := Kd.at_string HR0.out x3_1 p480 q480
     cases e480
     replace p480 := eq_true p480
     replace q480 := eq_true q480
     go_wp2_with (first | ((with_reducible refine gate_callee (f := 89) rfl ?_); refine gL_ (some 14) Try.func89 #[.string (rdOf ByteArray.empty l0 x3_1)] ?_; (with_reducible refine (spec_NameOk.calls k1 (rdOf ByteArray.empty l0 x3_1) true _ A4.out).mono ?_); rintro e w' ⟨rfl, ⟨nd, rfl⟩⟩; refine ⟨_, rfl, ?_⟩))
     go_roundg k1
     case measure => have := HK1.out; omega
     case rel => exact ⟨(wrap64 (x3_1 + 1)), rs_, H', ⟨by have := HK1.out; omega⟩, dr_⟩
   · replace c5 := Bool.eq_false_iff.mpr c5
     subst c5
     rw [if_neg nf_] at H
     obtain rfl := Option.some.inj H
     have p480 : 0 ≤ (x3_1 : Int) := of_decide_eq_true as_
     have q480 : x3_1 < (l0.length : Int) := of_decide_eq_true as_
     obtain ⟨ad480, e480, hx480_0⟩ := Kd.at_string HR0.out x3_1 p480 q480
     cases e480
     replace p480 := eq_true p480
     replace q480 := eq_true q480
     go_wp2_with (first | ((with_reducible refine gate_callee (f := 89) rfl ?_); refine gL_ (some 14) Try.func89 #[.string (rdOf ByteArray.empty l0 x3_1)] ?_; (with_reducible refine (spec_NameOk.calls k1 (rdOf ByteArray.empty l0 x3_1) false _ A4.out).mono ?_); rintro e w' ⟨rfl, ⟨nd, rfl⟩⟩; refine ⟨_, rfl, ?_⟩))
     go_ret
     exact ⟨rs_, dr_⟩
def spec_LockOk.f (k : Nat) (a0_0 : Int) (l0_1 : List ByteArray) (a0_2 : Bool) (a0_3 : Bool) (a0_4 : Int) : Option (Bool) := (spec_l1In.f a0_0 1 9999).bind fun t483 => (if t483 = true then ((spec_PathOk.f k l0_1).bind fun t484 => (if t484 = true then ((spec_l1In.f a0_4 0 9999999).bind fun t485 => (some t485)) else (some false))) else (some false))
set_option maxHeartbeats 8000000 in
set_option maxRecDepth 100000 in
theorem spec_LockOk.calls (k : Nat) (a0_0 : Int) (A0_1 : Option Addr) (c0_1 : Nat) (l0_1 : List ByteArray) (a0_2 : Bool) (a0_3 : Bool) (a0_4 : Int) (r : Bool) (w : World) (hr0_1 : Kd.C Kd.string w A0_1 l0_1.length l0_1) (hc0_1 : l0_1.length ≤ c0_1) (h : spec_LockOk.f k a0_0 l0_1 a0_2 a0_3 a0_4 = some r) :
 Calls Try.prog 43 #[.agg #[.int .i64 a0_0, .slice A0_1 l0_1.length c0_1, .bool a0_2, .bool a0_3, .int .i64 a0_4]] w fun e w' => e = .returned (.bool r) ∧ Below w.heap.size w w' := by
 have hu28 := Try.underlying28
 have HR0_1 := Aside0.mk hr0_1
 have HC0_1 := Aside0.mk hc0_1
 clear hr0_1 hc0_1
 have HB := A_ (Below.refl w.heap.size w)
 have H : ((spec_l1In.f a0_0 1 9999).bind fun t483 => (if t483 = true then ((spec_PathOk.f k l0_1).bind fun t484 => (if t484 = true then ((spec_l1In.f a0_4 0 9999999).bind fun t485 => (some t485)) else (some false))) else (some false))) = some r := h
 clear h
 obtain ⟨t483, A2, H⟩ := bo_ H
 (try dsimp only at H)
 by_cases c3 : t483 = true
 · subst c3
   rw [if_pos rfl] at H
   obtain ⟨t484, A4, H⟩ := bo_ H
   (try dsimp only at H)
   by_cases c5 : t484 = true
   · subst c5
     rw [if_pos rfl] at H
     obtain ⟨t485, A6, H⟩ := bo_ H
     (try dsimp only at H)
     obtain rfl := Option.some.inj H
     go_enter Try.func43, Try.ntmps43
     go_wp2_with (first | ((with_reducible refine gate_dst (N := 1) rfl ?_); refine bx_ (N := 1) (cs := #[.int .i64 a0_0, .slice A0_1 l0_1.length c0_1, .bool a0_2, .bool a0_3, .int .i64 a0_4]) (t := 28) ?_; intro gb482 hg w7 hbox hb; have BK482 := A_ (hbox); have GW482 := A_ (ge_ hg bB_ : w.heap.size ≤ gb482); have GE482 := A_ (ge_ hg bB_ : w.heap.size ≤ gb482); replace HB := A_ (below_step bB_ hb); clear hb hbox hg; obtain ⟨hcz8_0, hcz8_1, hcz8_2, hcz8_3, hcz8_4, hfz8_0, hfz8_1, hfz8_2, hfz8_3, hfz8_4⟩ := cz5_ BK482.out) | ((with_reducible refine gate_callee (f := 74) rfl ?_); refine gL_ (some 5) Try.func74 #[.int .i64 a0_0, .int .i64 1, .int .i64 9999] ?_; (with_reducible refine (spec_l1In.calls a0_0 1 9999 true _ A2.out).mono ?_); rintro e w' ⟨rfl, ⟨nd, rfl⟩⟩; refine ⟨_, rfl, ?_⟩) | (go_at_call 75; (with_reducible refine (spec_PathOk.calls k _ _ l0_1 true _ ?s1 ?s2 A4.out).mono ?_); (case s1 => exact cC_ (Kd.C_below HR0_1.out (bG_ GE482.out))); (case s2 => exact HC0_1.out); rintro e w' ⟨rfl, ⟨nd, rfl⟩⟩) | (go_at_call 74; (with_reducible refine (spec_l1In.calls a0_4 0 9999999 t485 _ A6.out).mono ?_); rintro e w' ⟨rfl, ⟨nd, rfl⟩⟩))
     go_ret
     exact ⟨rr_, bG_ GE482.out⟩
   · replace c5 := Bool.eq_false_iff.mpr c5
     subst c5
     rw [if_neg nf_] at H
     obtain rfl := Option.some.inj H
     go_enter Try.func43, Try.ntmps43
     go_wp2_with (first | ((with_reducible refine gate_dst (N := 1) rfl ?_); refine bx_ (N := 1) (cs := #[.int .i64 a0_0, .slice A0_1 l0_1.length c0_1, .bool a0_2, .bool a0_3, .int .i64 a0_4]) (t := 28) ?_; intro gb482 hg w9 hbox hb; have BK482 := A_ (hbox); have GW482 := A_ (ge_ hg bB_ : w.heap.size ≤ gb482); have GE482 := A_ (ge_ hg bB_ : w.heap.size ≤ gb482); replace HB := A_ (below_step bB_ hb); clear hb hbox hg; obtain ⟨hcz10_0, hcz10_1, hcz10_2, hcz10_3, hcz10_4, hfz10_0, hfz10_1, hfz10_2, hfz10_3, hfz10_4⟩ := cz5_ BK482.out) | ((with_reducible refine gate_callee (f := 74) rfl ?_); refine gL_ (some 5) Try.func74 #[.int .i64 a0_0, .int .i64 1, .int .i64 9999] ?_; (with_reducible refine (spec_l1In.calls a0_0 1 9999 true _ A2.out).mono ?_); rintro e w' ⟨rfl, ⟨nd, rfl⟩⟩; refine ⟨_, rfl, ?_⟩) | (go_at_call 75; (with_reducible refine (spec_PathOk.calls k _ _ l0_1 false _ ?s1 ?s2 A4.out).mono ?_); (case s1 => exact cC_ (Kd.C_below HR0_1.out (bG_ GE482.out))); (case s2 => exact HC0_1.out); rintro e w' ⟨rfl, ⟨nd, rfl⟩⟩))
     go_ret
     exact ⟨rr_, bG_ GE482.out⟩
 · replace c3 := Bool.eq_false_iff.mpr c3
   subst c3
   rw [if_neg nf_] at H
   obtain rfl := Option.some.inj H
   go_enter Try.func43, Try.ntmps43
   go_wp2_with (first | ((with_reducible refine gate_dst (N := 1) rfl ?_); refine bx_ (N := 1) (cs := #[.int .i64 a0_0, .slice A0_1 l0_1.length c0_1, .bool a0_2, .bool a0_3, .int .i64 a0_4]) (t := 28) ?_; intro gb482 hg w11 hbox hb; have BK482 := A_ (hbox); have GW482 := A_ (ge_ hg bB_ : w.heap.size ≤ gb482); have GE482 := A_ (ge_ hg bB_ : w.heap.size ≤ gb482); replace HB := A_ (below_step bB_ hb); clear hb hbox hg; obtain ⟨hcz12_0, hcz12_1, hcz12_2, hcz12_3, hcz12_4, hfz12_0, hfz12_1, hfz12_2, hfz12_3, hfz12_4⟩ := cz5_ BK482.out) | ((with_reducible refine gate_callee (f := 74) rfl ?_); refine gL_ (some 5) Try.func74 #[.int .i64 a0_0, .int .i64 1, .int .i64 9999] ?_; (with_reducible refine (spec_l1In.calls a0_0 1 9999 false _ A2.out).mono ?_); rintro e w' ⟨rfl, ⟨nd, rfl⟩⟩; refine ⟨_, rfl, ?_⟩))
   go_ret
   exact ⟨rr_, bG_ GE482.out⟩
def impl_in.f (a0 : Int) (a1 : Int) (a2 : Int) : Option (Bool) := if a0 ≥ a1 then (some (decide (a0 ≤ a2))) else (some false)
set_option maxHeartbeats 8000000 in
set_option maxRecDepth 100000 in
theorem impl_in.calls (a0 : Int) (a1 : Int) (a2 : Int) (r : Bool) (w : World) (h : impl_in.f a0 a1 a2 = some r) :
 Calls Try.prog 76 #[.int .i64 a0, .int .i64 a1, .int .i64 a2] w fun e w' => e = .returned (.bool r) ∧ Drawn0 w w' := by
 have H : (if a0 ≥ a1 then (some (decide (a0 ≤ a2))) else (some false)) = some r := h
 clear h
 by_cases c4 : a0 ≥ a1
 · rw [if_pos c4] at H
   have c4b0 : decide (a1 ≤ a0) = true := decide_eq_true c4
   clear c4
   obtain rfl := Option.some.inj H
   go_enter Try.func76, Try.ntmps76
   go_wp2
   go_ret
   exact ⟨rs_, dr_⟩
 rw [if_neg c4] at H
 have c4b0 : decide (a1 ≤ a0) = false := decide_eq_false c4
 clear c4
 obtain rfl := Option.some.inj H
 go_enter Try.func76, Try.ntmps76
 go_wp2
 go_ret
 exact ⟨rs_, dr_⟩
def impl_isPlain.f (a0 : Int) : Option (Bool) := if a0 ≥ 32 then (some (decide (a0 ≤ 126))) else (some false)
set_option maxHeartbeats 8000000 in
set_option maxRecDepth 100000 in
theorem impl_isPlain.calls (a0 : Int) (r : Bool) (w : World) (h : impl_isPlain.f a0 = some r) :
 Calls Try.prog 99 #[.int .u8 a0] w fun e w' => e = .returned (.bool r) ∧ Drawn0 w w' := by
 have H : (if a0 ≥ 32 then (some (decide (a0 ≤ 126))) else (some false)) = some r := h
 clear h
 by_cases c2 : a0 ≥ 32
 · rw [if_pos c2] at H
   have c2b0 : decide (32 ≤ a0) = true := decide_eq_true c2
   clear c2
   obtain rfl := Option.some.inj H
   go_enter Try.func99, Try.ntmps99
   go_wp2
   go_ret
   exact ⟨rs_, dr_⟩
 rw [if_neg c2] at H
 have c2b0 : decide (32 ≤ a0) = false := decide_eq_false c2
 clear c2
 obtain rfl := Option.some.inj H
 go_enter Try.func99, Try.ntmps99
 go_wp2
 go_ret
 exact ⟨rs_, dr_⟩
def impl_Plain.l0 : Nat → ByteArray → Int → Option (Bool)
 | 0, _, _ => none
 | k + 1, x0, x3 => if x3 < (x0.size : Int) then (if 0 ≤ x3 then ((impl_isPlain.f (bt x0 x3)).bind fun t486 => (if t486 = true then (impl_Plain.l0 k x0 (wrap64 (x3 + 1))) else (some false))) else (none)) else (some true)
def impl_Plain.f (k : Nat) (a0 : ByteArray) : Option (Bool) := impl_Plain.l0 k a0 0
set_option maxHeartbeats 8000000 in
set_option maxRecDepth 100000 in
theorem impl_Plain.calls (k : Nat) (a0 : ByteArray) (r : Bool) (w : World) (h : impl_Plain.f k a0 = some r) :
 Calls Try.prog 97 #[.string a0] w fun e w' => e = .returned (.bool r) ∧ Drawn0 w w' := by
 have H : (impl_Plain.l0 k a0 0) = some r := h
 clear h
 have H' := Aside0.mk H
 clear H
 go_enter Try.func97, Try.ntmps97
 go_wp2
 go_loopg [3] k (fun kq v3 w' => ∃ (x3_1 : Int), v3 = .int .i64 x3_1 ∧ Aside0 (impl_Plain.l0 kq a0 x3_1 = some r) ∧ Aside0 (kq ≤ k) ∧ Drawn0 w w')
 case atStart => exact ⟨(0), rs_, H', ⟨Nat.le_refl _⟩, dr_⟩
 case round =>
  clear H'
  obtain ⟨x3_1, rfl, HA, HK1, ⟨m1, rfl⟩⟩ := hrel
  cases gk with
  | zero => exact absurd HA.out (by simp [impl_Plain.l0])
  | succ k1 =>
   have H := HA.out
   clear HA
   simp only [impl_Plain.l0] at H
   by_cases c2 : x3_1 < (a0.size : Int)
   rotate_left
   · rw [if_neg c2] at H
     have c2b0 : decide (x3_1 < (a0.size : Int)) = false := decide_eq_false c2
     clear c2
     obtain rfl := Option.some.inj H
     go_wp2
     go_ret
     exact ⟨rs_, dr_⟩
   rw [if_pos c2] at H
   have c2b0 : decide (x3_1 < (a0.size : Int)) = true := decide_eq_true c2
   clear c2
   by_cases c3 : 0 ≤ x3_1
   rotate_left
   · exact absurd H (by rw [if_neg c3]; simp)
   rw [if_pos c3] at H
   have c3b0 : decide (0 ≤ x3_1) = true := decide_eq_true c3
   clear c3
   obtain ⟨t486, A5, H⟩ := bo_ H
   (try dsimp only at H)
   by_cases c6 : t486 = true
   · subst c6
     rw [if_pos rfl] at H
     have H' := Aside0.mk H
     clear H
     have p4 : 0 ≤ (x3_1 : Int) := of_decide_eq_true as_
     have q4 : x3_1 < (a0.size : Int) := of_decide_eq_true as_
     have hx4 := bt_at a0 x3_1
     replace p4 := eq_true p4
     replace q4 := eq_true q4
     go_wp2_with (first | ((with_reducible refine gate_callee (f := 99) rfl ?_); refine gL_ (some 13) Try.func99 #[.int .u8 (bt a0 x3_1)] ?_; (with_reducible refine (impl_isPlain.calls (bt a0 x3_1) true _ A5.out).mono ?_); rintro e w' ⟨rfl, ⟨nd, rfl⟩⟩; refine ⟨_, rfl, ?_⟩))
     go_roundg k1
     case measure => have := HK1.out; omega
     case rel => exact ⟨(wrap64 (x3_1 + 1)), rs_, H', ⟨by have := HK1.out; omega⟩, dr_⟩
   · replace c6 := Bool.eq_false_iff.mpr c6
     subst c6
     rw [if_neg nf_] at H
     obtain rfl := Option.some.inj H
     have p4 : 0 ≤ (x3_1 : Int) := of_decide_eq_true as_
     have q4 : x3_1 < (a0.size : Int) := of_decide_eq_true as_
     have hx4 := bt_at a0 x3_1
     replace p4 := eq_true p4
     replace q4 := eq_true q4
     go_wp2_with (first | ((with_reducible refine gate_callee (f := 99) rfl ?_); refine gL_ (some 13) Try.func99 #[.int .u8 (bt a0 x3_1)] ?_; (with_reducible refine (impl_isPlain.calls (bt a0 x3_1) false _ A5.out).mono ?_); rintro e w' ⟨rfl, ⟨nd, rfl⟩⟩; refine ⟨_, rfl, ?_⟩))
     go_ret
     exact ⟨rs_, dr_⟩
def impl_NameOk.f (k : Nat) (a0 : ByteArray) : Option (Bool) := (impl_in.f (a0.size : Int) 1 8).bind fun t487 => (if t487 = true then ((impl_Plain.f k a0).bind fun t488 => (if t488 = true then ((strings_Contains.f a0 (⟨#[47]⟩ : ByteArray)).bind fun t489 => (if t489 = true then (some false) else (if a0.toList = ([46] : List UInt8) then (some false) else (some (a0.toList != ([46, 46] : List UInt8)))))) else (some false))) else (some false))
set_option maxHeartbeats 8000000 in
set_option maxRecDepth 100000 in
theorem impl_NameOk.calls (k : Nat) (a0 : ByteArray) (r : Bool) (w : World) (h : impl_NameOk.f k a0 = some r) :
 Calls Try.prog 90 #[.string a0] w fun e w' => e = .returned (.bool r) ∧ Drawn0 w w' := by
 have H : ((impl_in.f (a0.size : Int) 1 8).bind fun t487 => (if t487 = true then ((impl_Plain.f k a0).bind fun t488 => (if t488 = true then ((strings_Contains.f a0 (⟨#[47]⟩ : ByteArray)).bind fun t489 => (if t489 = true then (some false) else (if a0.toList = ([46] : List UInt8) then (some false) else (some (a0.toList != ([46, 46] : List UInt8)))))) else (some false))) else (some false))) = some r := h
 clear h
 obtain ⟨t487, A2, H⟩ := bo_ H
 (try dsimp only at H)
 by_cases c3 : t487 = true
 · subst c3
   rw [if_pos rfl] at H
   obtain ⟨t488, A4, H⟩ := bo_ H
   (try dsimp only at H)
   by_cases c5 : t488 = true
   · subst c5
     rw [if_pos rfl] at H
     obtain ⟨t489, A6, H⟩ := bo_ H
     (try dsimp only at H)
     by_cases c7 : t489 = true
     · subst c7
       rw [if_pos rfl] at H
       obtain rfl := Option.some.inj H
       go_enter Try.func90, Try.ntmps90
       go_wp2_with (first | ((with_reducible refine gate_callee (f := 76) rfl ?_); refine gL_ (some 5) Try.func76 #[.int .i64 (a0.size : Int), .int .i64 1, .int .i64 8] ?_; (with_reducible refine (impl_in.calls (a0.size : Int) 1 8 true _ A2.out).mono ?_); rintro e w' ⟨rfl, ⟨nd, rfl⟩⟩; refine ⟨_, rfl, ?_⟩) | (go_at_call 97; (with_reducible refine (impl_Plain.calls k a0 true _ A4.out).mono ?_); rintro e w' ⟨rfl, ⟨nd, rfl⟩⟩) | (go_at_call 98; (with_reducible refine (strings_Contains.calls a0 (⟨#[47]⟩ : ByteArray) true _ A6.out).mono ?_); rintro e w' ⟨rfl, ⟨nd, rfl⟩⟩))
       go_ret
       exact ⟨rs_, dr_⟩
     · replace c7 := Bool.eq_false_iff.mpr c7
       subst c7
       rw [if_neg nf_] at H
       by_cases c8 : a0.toList = ([46] : List UInt8)
       rotate_left
       · rw [if_neg c8] at H
         have c8b0 : (a0.toList == ([46] : List UInt8)) = false := beq_eq_false_iff_ne.mpr c8
         have c8b1 : (a0.toList != ([46] : List UInt8)) = true := bne_iff_ne.mpr c8
         obtain rfl := Option.some.inj H
         go_enter Try.func90, Try.ntmps90
         go_wp2_with (first | ((with_reducible refine gate_callee (f := 76) rfl ?_); refine gL_ (some 5) Try.func76 #[.int .i64 (a0.size : Int), .int .i64 1, .int .i64 8] ?_; (with_reducible refine (impl_in.calls (a0.size : Int) 1 8 true _ A2.out).mono ?_); rintro e w' ⟨rfl, ⟨nd, rfl⟩⟩; refine ⟨_, rfl, ?_⟩) | (go_at_call 97; (with_reducible refine (impl_Plain.calls k a0 true _ A4.out).mono ?_); rintro e w' ⟨rfl, ⟨nd, rfl⟩⟩) | (go_at_call 98; (with_reducible refine (strings_Contains.calls a0 (⟨#[47]⟩ : ByteArray) false _ A6.out).mono ?_); rintro e w' ⟨rfl, ⟨nd, rfl⟩⟩))
         go_ret
         exact ⟨rs_, dr_⟩
       rw [if_pos c8] at H
       have c8b0 : (a0.toList == ([46] : List UInt8)) = true := beq_iff_eq.mpr c8
       have c8b1 : (a0.toList != ([46] : List UInt8)) = false := bne_eq_false_iff_eq.mpr c8
       clear c8
       obtain rfl := Option.some.inj H
       go_enter Try.func90, Try.ntmps90
       go_wp2_with (first | ((with_reducible refine gate_callee (f := 76) rfl ?_); refine gL_ (some 5) Try.func76 #[.int .i64 (a0.size : Int), .int .i64 1, .int .i64 8] ?_; (with_reducible refine (impl_in.calls (a0.size : Int) 1 8 true _ A2.out).mono ?_); rintro e w' ⟨rfl, ⟨nd, rfl⟩⟩; refine ⟨_, rfl, ?_⟩) | (go_at_call 97; (with_reducible refine (impl_Plain.calls k a0 true _ A4.out).mono ?_); rintro e w' ⟨rfl, ⟨nd, rfl⟩⟩) | (go_at_call 98; (with_reducible refine (strings_Contains.calls a0 (⟨#[47]⟩ : ByteArray) false _ A6.out).mono ?_); rintro e w' ⟨rfl, ⟨nd, rfl⟩⟩))
       go_ret
       exact ⟨rs_, dr_⟩
   · replace c5 := Bool.eq_false_iff.mpr c5
     subst c5
     rw [if_neg nf_] at H
     obtain rfl := Option.some.inj H
     go_enter Try.func90, Try.ntmps90
     go_wp2_with (first | ((with_reducible refine gate_callee (f := 76) rfl ?_); refine gL_ (some 5) Try.func76 #[.int .i64 (a0.size : Int), .int .i64 1, .int .i64 8] ?_; (with_reducible refine (impl_in.calls (a0.size : Int) 1 8 true _ A2.out).mono ?_); rintro e w' ⟨rfl, ⟨nd, rfl⟩⟩; refine ⟨_, rfl, ?_⟩) | (go_at_call 97; (with_reducible refine (impl_Plain.calls k a0 false _ A4.out).mono ?_); rintro e w' ⟨rfl, ⟨nd, rfl⟩⟩))
     go_ret
     exact ⟨rs_, dr_⟩
 · replace c3 := Bool.eq_false_iff.mpr c3
   subst c3
   rw [if_neg nf_] at H
   obtain rfl := Option.some.inj H
   go_enter Try.func90, Try.ntmps90
   go_wp2_with (first | ((with_reducible refine gate_callee (f := 76) rfl ?_); refine gL_ (some 5) Try.func76 #[.int .i64 (a0.size : Int), .int .i64 1, .int .i64 8] ?_; (with_reducible refine (impl_in.calls (a0.size : Int) 1 8 false _ A2.out).mono ?_); rintro e w' ⟨rfl, ⟨nd, rfl⟩⟩; refine ⟨_, rfl, ?_⟩))
   go_ret
   exact ⟨rs_, dr_⟩
def impl_PathOk.l0 : Nat → List ByteArray → List ByteArray → Int → Int → Option (Bool)
 | 0, _, _, _, _ => none
 | k + 1, x0, x5, x6, x7 => if x7 < x6 then (if 0 ≤ x7 then (if x7 < (x5.length : Int) then ((impl_NameOk.f k (rdOf ByteArray.empty x5 x7)).bind fun t491 => (if t491 = true then (impl_PathOk.l0 k x0 x5 x6 (wrap64 (x7 + 1))) else (some false))) else (none)) else (none)) else (some (decide ((x0.length : Int) ≤ 4)))
def impl_PathOk.f (k : Nat) (l0 : List ByteArray) : Option (Bool) := impl_PathOk.l0 k l0 l0 (l0.length : Int) 0
set_option maxHeartbeats 8000000 in
set_option maxRecDepth 100000 in
theorem impl_PathOk.calls (k : Nat) (A0 : Option Addr) (c0 : Nat) (l0 : List ByteArray) (r : Bool) (w : World) (hr0 : Kd.C Kd.string w A0 l0.length l0) (hc0 : l0.length ≤ c0) (h : impl_PathOk.f k l0 = some r) :
 Calls Try.prog 77 #[.slice A0 l0.length c0] w fun e w' => e = .returned (.bool r) ∧ Drawn0 w w' := by
 have HR0 := Aside0.mk hr0
 have HC0 := Aside0.mk hc0
 clear hr0 hc0
 have H : (impl_PathOk.l0 k l0 l0 (l0.length : Int) 0) = some r := h
 clear h
 have H' := Aside0.mk H
 clear H
 go_enter Try.func77, Try.ntmps77
 go_wp2
 go_loopg [7] k (fun kq v7 w' => ∃ (x7_1 : Int), v7 = .int .i64 x7_1 ∧ Aside0 (impl_PathOk.l0 kq l0 l0 (l0.length : Int) x7_1 = some r) ∧ Aside0 (kq ≤ k) ∧ Drawn0 w w')
 case atStart => exact ⟨(0), rs_, H', ⟨Nat.le_refl _⟩, dr_⟩
 case round =>
  clear H'
  obtain ⟨x7_1, rfl, HA, HK1, ⟨m1, rfl⟩⟩ := hrel
  cases gk with
  | zero => exact absurd HA.out (by simp [impl_PathOk.l0])
  | succ k1 =>
   have H := HA.out
   clear HA
   simp only [impl_PathOk.l0] at H
   by_cases c2 : x7_1 < (l0.length : Int)
   rotate_left
   · rw [if_neg c2] at H
     have c2b0 : decide (x7_1 < (l0.length : Int)) = false := decide_eq_false c2
     clear c2
     obtain rfl := Option.some.inj H
     go_wp2
     go_ret
     exact ⟨rs_, dr_⟩
   rw [if_pos c2] at H
   have c2b0 : decide (x7_1 < (l0.length : Int)) = true := decide_eq_true c2
   clear c2
   by_cases c3 : 0 ≤ x7_1
   rotate_left
   · exact absurd H (by rw [if_neg c3]; simp)
   rw [if_pos c3] at H
   have c3b0 : decide (0 ≤ x7_1) = true := decide_eq_true c3
   clear c3
   by_cases c4 : x7_1 < (l0.length : Int)
   rotate_left
   · exact absurd H (by rw [if_neg c4]; simp)
   rw [if_pos c4] at H
   have c4b0 : decide (x7_1 < (l0.length : Int)) = true := decide_eq_true c4
   clear c4
   obtain ⟨t491, A5, H⟩ := bo_ H
   (try dsimp only at H)
   by_cases c6 : t491 = true
   · subst c6
     rw [if_pos rfl] at H
     have H' := Aside0.mk H
     clear H
     have p490 : 0 ≤ (x7_1 : Int) := of_decide_eq_true as_
     have q490 : x7_1 < (l0.length : Int) := of_decide_eq_true as_
     obtain ⟨ad490, e490, hx490_0⟩ := Kd.at_string HR0.out x7_1 p490 q490
     cases e490
     replace p490 := eq_true p490
     replace q490 := eq_true q490
     go_wp2_with (first | ((with_reducible refine gate_callee (f := 90) rfl ?_); refine gL_ (some 12) Try.func90 #[.string (rdOf ByteArray.empty l0 x7_1)] ?_; (with_reducible refine (impl_NameOk.calls k1 (rdOf ByteArray.empty l0 x7_1) true _ A5.out).mono ?_); rintro e w' ⟨rfl, ⟨nd, rfl⟩⟩; refine ⟨_, rfl, ?_⟩))
     go_roundg k1
     case measure => have := HK1.out; omega
     case rel => exact ⟨(wrap64 (x7_1 + 1)), rs_, H', ⟨by have := HK1.out; omega⟩, dr_⟩
   · replace c6 := Bool.eq_false_iff.mpr c6
     subst c6
     rw [if_neg nf_] at H
     obtain rfl := Option.some.inj H
     have p490 : 0 ≤ (x7_1 : Int) := of_decide_eq_true as_
     have q490 : x7_1 < (l0.length : Int) := of_decide_eq_true as_
     obtain ⟨ad490, e490, hx490_0⟩ := Kd.at_string HR0.out x7_1 p490 q490
     cases e490
     replace p490 := eq_true p490
     replace q490 := eq_true q490
     go_wp2_with (first | ((with_reducible refine gate_callee (f := 90) rfl ?_); refine gL_ (some 12) Try.func90 #[.string (rdOf ByteArray.empty l0 x7_1)] ?_; (with_reducible refine (impl_NameOk.calls k1 (rdOf ByteArray.empty l0 x7_1) false _ A5.out).mono ?_); rintro e w' ⟨rfl, ⟨nd, rfl⟩⟩; refine ⟨_, rfl, ?_⟩))
     go_ret
     exact ⟨rs_, dr_⟩
def impl_LockOk.f (k : Nat) (a0_0 : Int) (l0_1 : List ByteArray) (a0_2 : Bool) (a0_3 : Bool) (a0_4 : Int) : Option (Bool) := (impl_in.f a0_0 1 9999).bind fun t493 => (if t493 = true then ((impl_PathOk.f k l0_1).bind fun t494 => (if t494 = true then ((impl_in.f a0_4 0 9999999).bind fun t495 => (some t495)) else (some false))) else (some false))
set_option maxHeartbeats 8000000 in
set_option maxRecDepth 100000 in
theorem impl_LockOk.calls (k : Nat) (a0_0 : Int) (A0_1 : Option Addr) (c0_1 : Nat) (l0_1 : List ByteArray) (a0_2 : Bool) (a0_3 : Bool) (a0_4 : Int) (r : Bool) (w : World) (hr0_1 : Kd.C Kd.string w A0_1 l0_1.length l0_1) (hc0_1 : l0_1.length ≤ c0_1) (h : impl_LockOk.f k a0_0 l0_1 a0_2 a0_3 a0_4 = some r) :
 Calls Try.prog 44 #[.agg #[.int .i64 a0_0, .slice A0_1 l0_1.length c0_1, .bool a0_2, .bool a0_3, .int .i64 a0_4]] w fun e w' => e = .returned (.bool r) ∧ Below w.heap.size w w' := by
 have hu28 := Try.underlying28
 have HR0_1 := Aside0.mk hr0_1
 have HC0_1 := Aside0.mk hc0_1
 clear hr0_1 hc0_1
 have HB := A_ (Below.refl w.heap.size w)
 have H : ((impl_in.f a0_0 1 9999).bind fun t493 => (if t493 = true then ((impl_PathOk.f k l0_1).bind fun t494 => (if t494 = true then ((impl_in.f a0_4 0 9999999).bind fun t495 => (some t495)) else (some false))) else (some false))) = some r := h
 clear h
 obtain ⟨t493, A2, H⟩ := bo_ H
 (try dsimp only at H)
 by_cases c3 : t493 = true
 · subst c3
   rw [if_pos rfl] at H
   obtain ⟨t494, A4, H⟩ := bo_ H
   (try dsimp only at H)
   by_cases c5 : t494 = true
   · subst c5
     rw [if_pos rfl] at H
     obtain ⟨t495, A6, H⟩ := bo_ H
     (try dsimp only at H)
     obtain rfl := Option.some.inj H
     go_enter Try.func44, Try.ntmps44
     go_wp2_with (first | ((with_reducible refine gate_dst (N := 1) rfl ?_); refine bx_ (N := 1) (cs := #[.int .i64 a0_0, .slice A0_1 l0_1.length c0_1, .bool a0_2, .bool a0_3, .int .i64 a0_4]) (t := 28) ?_; intro gb492 hg w7 hbox hb; have BK492 := A_ (hbox); have GW492 := A_ (ge_ hg bB_ : w.heap.size ≤ gb492); have GE492 := A_ (ge_ hg bB_ : w.heap.size ≤ gb492); replace HB := A_ (below_step bB_ hb); clear hb hbox hg; obtain ⟨hcz8_0, hcz8_1, hcz8_2, hcz8_3, hcz8_4, hfz8_0, hfz8_1, hfz8_2, hfz8_3, hfz8_4⟩ := cz5_ BK492.out) | ((with_reducible refine gate_callee (f := 76) rfl ?_); refine gL_ (some 5) Try.func76 #[.int .i64 a0_0, .int .i64 1, .int .i64 9999] ?_; (with_reducible refine (impl_in.calls a0_0 1 9999 true _ A2.out).mono ?_); rintro e w' ⟨rfl, ⟨nd, rfl⟩⟩; refine ⟨_, rfl, ?_⟩) | (go_at_call 77; (with_reducible refine (impl_PathOk.calls k _ _ l0_1 true _ ?s1 ?s2 A4.out).mono ?_); (case s1 => exact cC_ (Kd.C_below HR0_1.out (bG_ GE492.out))); (case s2 => exact HC0_1.out); rintro e w' ⟨rfl, ⟨nd, rfl⟩⟩) | (go_at_call 76; (with_reducible refine (impl_in.calls a0_4 0 9999999 t495 _ A6.out).mono ?_); rintro e w' ⟨rfl, ⟨nd, rfl⟩⟩))
     go_ret
     exact ⟨rr_, bG_ GE492.out⟩
   · replace c5 := Bool.eq_false_iff.mpr c5
     subst c5
     rw [if_neg nf_] at H
     obtain rfl := Option.some.inj H
     go_enter Try.func44, Try.ntmps44
     go_wp2_with (first | ((with_reducible refine gate_dst (N := 1) rfl ?_); refine bx_ (N := 1) (cs := #[.int .i64 a0_0, .slice A0_1 l0_1.length c0_1, .bool a0_2, .bool a0_3, .int .i64 a0_4]) (t := 28) ?_; intro gb492 hg w9 hbox hb; have BK492 := A_ (hbox); have GW492 := A_ (ge_ hg bB_ : w.heap.size ≤ gb492); have GE492 := A_ (ge_ hg bB_ : w.heap.size ≤ gb492); replace HB := A_ (below_step bB_ hb); clear hb hbox hg; obtain ⟨hcz10_0, hcz10_1, hcz10_2, hcz10_3, hcz10_4, hfz10_0, hfz10_1, hfz10_2, hfz10_3, hfz10_4⟩ := cz5_ BK492.out) | ((with_reducible refine gate_callee (f := 76) rfl ?_); refine gL_ (some 5) Try.func76 #[.int .i64 a0_0, .int .i64 1, .int .i64 9999] ?_; (with_reducible refine (impl_in.calls a0_0 1 9999 true _ A2.out).mono ?_); rintro e w' ⟨rfl, ⟨nd, rfl⟩⟩; refine ⟨_, rfl, ?_⟩) | (go_at_call 77; (with_reducible refine (impl_PathOk.calls k _ _ l0_1 false _ ?s1 ?s2 A4.out).mono ?_); (case s1 => exact cC_ (Kd.C_below HR0_1.out (bG_ GE492.out))); (case s2 => exact HC0_1.out); rintro e w' ⟨rfl, ⟨nd, rfl⟩⟩))
     go_ret
     exact ⟨rr_, bG_ GE492.out⟩
 · replace c3 := Bool.eq_false_iff.mpr c3
   subst c3
   rw [if_neg nf_] at H
   obtain rfl := Option.some.inj H
   go_enter Try.func44, Try.ntmps44
   go_wp2_with (first | ((with_reducible refine gate_dst (N := 1) rfl ?_); refine bx_ (N := 1) (cs := #[.int .i64 a0_0, .slice A0_1 l0_1.length c0_1, .bool a0_2, .bool a0_3, .int .i64 a0_4]) (t := 28) ?_; intro gb492 hg w11 hbox hb; have BK492 := A_ (hbox); have GW492 := A_ (ge_ hg bB_ : w.heap.size ≤ gb492); have GE492 := A_ (ge_ hg bB_ : w.heap.size ≤ gb492); replace HB := A_ (below_step bB_ hb); clear hb hbox hg; obtain ⟨hcz12_0, hcz12_1, hcz12_2, hcz12_3, hcz12_4, hfz12_0, hfz12_1, hfz12_2, hfz12_3, hfz12_4⟩ := cz5_ BK492.out) | ((with_reducible refine gate_callee (f := 76) rfl ?_); refine gL_ (some 5) Try.func76 #[.int .i64 a0_0, .int .i64 1, .int .i64 9999] ?_; (with_reducible refine (impl_in.calls a0_0 1 9999 false _ A2.out).mono ?_); rintro e w' ⟨rfl, ⟨nd, rfl⟩⟩; refine ⟨_, rfl, ?_⟩))
   go_ret
   exact ⟨rr_, bG_ GE492.out⟩
mutual
def spec_LocksOk.l0 : Nat → List (S28) → Int → Option (Bool)
 | 0, _, _ => none
 | k + 1, x0, x3 => if x3 < (x0.length : Int) then (if 0 ≤ x3 then ((spec_LockOk.f k ((rd_T28 x0 x3).f0) ((rd_T28 x0 x3).f1) ((rd_T28 x0 x3).f2) ((rd_T28 x0 x3).f3) ((rd_T28 x0 x3).f4)).bind fun t524 => (if t524 = true then (spec_LocksOk.l1 k x0 x3 0) else (some false))) else (none)) else (some (decide ((x0.length : Int) ≤ 6)))
def spec_LocksOk.l1 : Nat → List (S28) → Int → Int → Option (Bool)
 | 0, _, _, _ => none
 | k + 1, x0, x3, x4 => if x4 < x3 then (if 0 ≤ x4 then (if x4 < (x0.length : Int) then (if 0 ≤ x3 then (if x3 < (x0.length : Int) then (if ((rd_T28 x0 x4).f0) = ((rd_T28 x0 x3).f0) then (some false) else ((spec_LockClash.f k ((rd_T28 x0 x4).f0) ((rd_T28 x0 x4).f1) ((rd_T28 x0 x4).f2) ((rd_T28 x0 x4).f3) ((rd_T28 x0 x4).f4) ((rd_T28 x0 x3).f0) ((rd_T28 x0 x3).f1) ((rd_T28 x0 x3).f2) ((rd_T28 x0 x3).f3) ((rd_T28 x0 x3).f4)).bind fun t529 => (if t529 = true then (some false) else (spec_LocksOk.l1 k x0 x3 (wrap64 (x4 + 1)))))) else (none)) else (none)) else (none)) else (none)) else (spec_LocksOk.l0 k x0 (wrap64 (x3 + 1)))
end
def spec_LocksOk.f (k : Nat) (l0 : List (S28)) : Option (Bool) := spec_LocksOk.l0 k l0 0
def spec_LocksOk.T9 : Bool × List (List Nat × List Nat) := (true, [([], []), ([], []), ([0, 1], [0, 1]), ([2], [2]), ([3], [3]), ([], []), ([], []), ([5, 6], [5, 6]), ([7], [7]), ([8], [8]), ([4, 9], [4, 9]), ([10], [10]), ([11], [11]), ([11], [11]), ([12, 13, 11], [11, 12, 13]), ([14, 11], [11, 14]), ([11], [11]), ([11], [11]), ([16, 17, 11], [11, 16, 17]), ([18, 11], [11, 18]), ([15, 19, 11, 11], [11, 15, 19]), ([11, 20], [11, 20])])
def spec_LocksOk.B9 : List Nat := [0, 0, 3, 7, 15, 0, 0, 96, 224, 480, 1023, 2047, 4095, 4095, 16383, 32767, 4095, 4095, 200703, 462847, 1048575, 2097151]
theorem spec_LocksOk.tab9 : rtab .any (opsOf Try.f45 9) = spec_LocksOk.T9 := by kernel_rfl
theorem spec_LocksOk.bits9 : waitsOk spec_LocksOk.T9.2 spec_LocksOk.B9 = true := by kernel_rfl
set_option maxHeartbeats 8000000 in
set_option maxRecDepth 100000 in
theorem spec_LocksOk.calls (k : Nat) (A0 : Option Addr) (c0 : Nat) (l0 : List (S28)) (r : Bool) (w : World) (hr0 : Kd.C k28 w A0 l0.length l0) (hc0 : l0.length ≤ c0) (h : spec_LocksOk.f k l0 = some r) :
 Calls Try.prog 45 #[.slice A0 l0.length c0] w fun e w' => e = .returned (.bool r) ∧ Below w.heap.size w w' := by
 have hu28 := Try.underlying28
 have HR0 := Aside0.mk hr0
 have HC0 := Aside0.mk hc0
 clear hr0 hc0
 have HB := A_ (Below.refl w.heap.size w)
 have H : (spec_LocksOk.l0 k l0 0) = some r := h
 clear h
 have H' := Aside0.mk H
 clear H
 go_enter Try.func45, Try.ntmps45
 go_wp2
 go_loopg [3] k (fun kq v3 w' => ∃ (x3_1 : Int), v3 = .int .i64 x3_1 ∧ Aside0 (spec_LocksOk.l0 kq l0 x3_1 = some r) ∧ Aside0 (kq ≤ k) ∧ Aside0 (Below w.heap.size w w'))
 case atStart => exact ⟨(0), rs_, H', ⟨Nat.le_refl _⟩, ⟨bB_⟩⟩
 case round =>
  clear H'
  obtain ⟨x3_1, rfl, HA, HK1, HB⟩ := hrel
  cases gk with
  | zero => exact absurd HA.out (by simp [spec_LocksOk.l0])
  | succ k1 =>
   have H := HA.out
   clear HA
   simp only [spec_LocksOk.l0] at H
   by_cases c2 : x3_1 < (l0.length : Int)
   rotate_left
   · rw [if_neg c2] at H
     have c2b0 : decide (x3_1 < (l0.length : Int)) = false := decide_eq_false c2
     clear c2
     obtain rfl := Option.some.inj H
     go_wp2
     go_ret
     exact ⟨rr_, bB_⟩
   rw [if_pos c2] at H
   have c2b0 : decide (x3_1 < (l0.length : Int)) = true := decide_eq_true c2
   clear c2
   by_cases c3 : 0 ≤ x3_1
   rotate_left
   · exact absurd H (by rw [if_neg c3]; simp)
   rw [if_pos c3] at H
   have c3b0 : decide (0 ≤ x3_1) = true := decide_eq_true c3
   clear c3
   obtain ⟨t524, A4, H⟩ := bo_ H
   (try dsimp only at H)
   by_cases c5 : t524 = true
   · subst c5
     rw [if_pos rfl] at H
     have H' := Aside0.mk H
     clear H
     have p523 : 0 ≤ (x3_1 : Int) := of_decide_eq_true as_
     have q523 : x3_1 < (l0.length : Int) := of_decide_eq_true as_
     obtain ⟨ad523, A523_1, c523_1, e523, hx523_0, hx523_1, hx523_2, hx523_3, hx523_4, hl523_1, hi523_1⟩ := at_T28 HR0.out x3_1 p523 q523
     cases e523
     replace hx523_0 := bc_ HB.out hx523_0
     replace hx523_1 := bc_ HB.out hx523_1
     replace hx523_2 := bc_ HB.out hx523_2
     replace hx523_3 := bc_ HB.out hx523_3
     replace hx523_4 := bc_ HB.out hx523_4
     have HR523_1 := Aside0.mk hi523_1
     have HC523_1 := Aside0.mk hl523_1
     clear hi523_1 hl523_1
     replace p523 := eq_true p523
     replace q523 := eq_true q523
     go_wp2_with (first | ((with_reducible refine gate_callee (f := 43) rfl ?_); refine gL_ (some 15) Try.func43 #[.agg #[.int .i64 ((rd_T28 l0 x3_1).f0), .slice A523_1 ((rd_T28 l0 x3_1).f1).length c523_1, .bool ((rd_T28 l0 x3_1).f2), .bool ((rd_T28 l0 x3_1).f3), .int .i64 ((rd_T28 l0 x3_1).f4)]] ?_; (with_reducible refine (spec_LockOk.calls k1 ((rd_T28 l0 x3_1).f0) _ _ ((rd_T28 l0 x3_1).f1) ((rd_T28 l0 x3_1).f2) ((rd_T28 l0 x3_1).f3) ((rd_T28 l0 x3_1).f4) true _ ?s1 ?s2 A4.out).mono ?_); (case s1 => exact cC_ (Kd.C_below HR523_1.out HB.out)); (case s2 => exact HC523_1.out); rintro e w6 ⟨rfl, hb⟩; refine ⟨_, rfl, ?_⟩; replace HB := A_ (below_step bB_ hb); (try clear hb)))
     go_loopg [4] k1 (fun kq v4 w' => ∃ (x4_2 : Int), v4 = .int .i64 x4_2 ∧ Aside0 (spec_LocksOk.l1 kq l0 x3_1 x4_2 = some r) ∧ Aside0 (kq ≤ k1) ∧ Aside0 (Below w.heap.size w w'))
     case atStart => exact ⟨(0), rs_, H', ⟨Nat.le_refl _⟩, ⟨bB_⟩⟩
     case round =>
      clear H'
      try clear c2
      try clear c2b0
      try clear p2
      try clear c3
      try clear c3b0
      try clear c4
      try clear c5
      try clear p5
      try clear q5
      try clear hx5
      try clear hx523_0
      try clear hx523_1
      try clear hx523_2
      try clear hx523_3
      try clear hx523_4
      try clear p523
      try clear q523
      obtain ⟨x4_2, rfl, HA, HK2, HB⟩ := hrel
      cases gk with
      | zero => exact absurd HA.out (by simp [spec_LocksOk.l1])
      | succ k2 =>
       have H := HA.out
       clear HA
       simp only [spec_LocksOk.l1] at H
       by_cases c7 : x4_2 < x3_1
       rotate_left
       · rw [if_neg c7] at H
         have c7b0 : decide (x4_2 < x3_1) = false := decide_eq_false c7
         clear c7
         have H' := Aside0.mk H
         clear H
         go_wp2
         go_roundg k2
         case measure => have := HK1.out; have := HK2.out; omega
         case rel => exact ⟨(wrap64 (x3_1 + 1)), rs_, H', ⟨by have := HK1.out; have := HK2.out; omega⟩, ⟨bB_⟩⟩
       rw [if_pos c7] at H
       have c7b0 : decide (x4_2 < x3_1) = true := decide_eq_true c7
       clear c7
       by_cases c8 : 0 ≤ x4_2
       rotate_left
       · exact absurd H (by rw [if_neg c8]; simp)
       rw [if_pos c8] at H
       have c8b0 : decide (0 ≤ x4_2) = true := decide_eq_true c8
       clear c8
       by_cases c9 : x4_2 < (l0.length : Int)
       rotate_left
       · exact absurd H (by rw [if_neg c9]; simp)
       rw [if_pos c9] at H
       have c9b0 : decide (x4_2 < (l0.length : Int)) = true := decide_eq_true c9
       clear c9
       by_cases c10 : 0 ≤ x3_1
       rotate_left
       · exact absurd H (by rw [if_neg c10]; simp)
       rw [if_pos c10] at H
       have c10b0 : decide (0 ≤ x3_1) = true := decide_eq_true c10
       clear c10
       by_cases c11 : x3_1 < (l0.length : Int)
       rotate_left
       · exact absurd H (by rw [if_neg c11]; simp)
       rw [if_pos c11] at H
       have c11b0 : decide (x3_1 < (l0.length : Int)) = true := decide_eq_true c11
       clear c11
       by_cases c12 : ((rd_T28 l0 x4_2).f0) = ((rd_T28 l0 x3_1).f0)
       · rw [if_pos c12] at H
         have c12b0 : (((rd_T28 l0 x4_2).f0) == ((rd_T28 l0 x3_1).f0)) = true := beq_iff_eq.mpr c12
         have c12b1 : (((rd_T28 l0 x4_2).f0) != ((rd_T28 l0 x3_1).f0)) = false := bne_eq_false_iff_eq.mpr c12
         clear c12
         obtain rfl := Option.some.inj H
         try go_wp2
         replace HB := A_ (below_drew1 HB.out)
         have p525 : 0 ≤ (x4_2 : Int) := of_decide_eq_true as_
         have q525 : x4_2 < (l0.length : Int) := of_decide_eq_true as_
         obtain ⟨ad525, A525_1, c525_1, e525, hx525_0, hx525_1, hx525_2, hx525_3, hx525_4, hl525_1, hi525_1⟩ := at_T28 HR0.out x4_2 p525 q525
         have hw525_4 := hx525_4
         have hw525_3 := hx525_3
         have hw525_2 := hx525_2
         have hw525_1 := hx525_1
         have hw525_0 := hx525_0
         obtain rfl : ad523 = ad525 := (by injection e525)
         replace hx525_0 := bc_ HB.out hx525_0
         replace hx525_1 := bc_ HB.out hx525_1
         replace hx525_2 := bc_ HB.out hx525_2
         replace hx525_3 := bc_ HB.out hx525_3
         replace hx525_4 := bc_ HB.out hx525_4
         have HR525_1 := Aside0.mk hi525_1
         have HC525_1 := Aside0.mk hl525_1
         clear hi525_1 hl525_1
         replace p525 := eq_true p525
         replace q525 := eq_true q525
         have p526 : 0 ≤ (x3_1 : Int) := of_decide_eq_true as_
         have q526 : x3_1 < (l0.length : Int) := of_decide_eq_true as_
         obtain ⟨ad526, A526_1, c526_1, e526, hx526_0, hx526_1, hx526_2, hx526_3, hx526_4, hl526_1, hi526_1⟩ := at_T28 HR0.out x3_1 p526 q526
         have hw526_4 := hx526_4
         have hw526_3 := hx526_3
         have hw526_2 := hx526_2
         have hw526_1 := hx526_1
         have hw526_0 := hx526_0
         obtain rfl : ad523 = ad526 := (by injection e526)
         replace hx526_0 := bc_ HB.out hx526_0
         replace hx526_1 := bc_ HB.out hx526_1
         replace hx526_2 := bc_ HB.out hx526_2
         replace hx526_3 := bc_ HB.out hx526_3
         replace hx526_4 := bc_ HB.out hx526_4
         have HR526_1 := Aside0.mk hi526_1
         have HC526_1 := Aside0.mk hl526_1
         clear hi526_1 hl526_1
         replace p526 := eq_true p526
         replace q526 := eq_true q526
         refine start_ (n := 22) (S := fun w' => w'.cell? (ad523.add ((x4_2).toNat * 5)) = some (.int .i64 ((rd_T28 l0 x4_2).f0)) ∧ w'.cell? ⟨(ad523.add ((x4_2).toNat * 5)).block, (ad523.add ((x4_2).toNat * 5)).off + 1, none⟩ = some (.slice A525_1 ((rd_T28 l0 x4_2).f1).length c525_1) ∧ w'.cell? ⟨(ad523.add ((x4_2).toNat * 5)).block, (ad523.add ((x4_2).toNat * 5)).off + 2, none⟩ = some (.bool ((rd_T28 l0 x4_2).f2)) ∧ w'.cell? ⟨(ad523.add ((x4_2).toNat * 5)).block, (ad523.add ((x4_2).toNat * 5)).off + 3, none⟩ = some (.bool ((rd_T28 l0 x4_2).f3)) ∧ w'.cell? ⟨(ad523.add ((x4_2).toNat * 5)).block, (ad523.add ((x4_2).toNat * 5)).off + 4, none⟩ = some (.int .i64 ((rd_T28 l0 x4_2).f4)) ∧ w'.cell? (ad523.add ((x3_1).toNat * 5)) = some (.int .i64 ((rd_T28 l0 x3_1).f0)) ∧ w'.cell? ⟨(ad523.add ((x3_1).toNat * 5)).block, (ad523.add ((x3_1).toNat * 5)).off + 1, none⟩ = some (.slice A526_1 ((rd_T28 l0 x3_1).f1).length c526_1) ∧ w'.cell? ⟨(ad523.add ((x3_1).toNat * 5)).block, (ad523.add ((x3_1).toNat * 5)).off + 2, none⟩ = some (.bool ((rd_T28 l0 x3_1).f2)) ∧ w'.cell? ⟨(ad523.add ((x3_1).toNat * 5)).block, (ad523.add ((x3_1).toNat * 5)).off + 3, none⟩ = some (.bool ((rd_T28 l0 x3_1).f3)) ∧ w'.cell? ⟨(ad523.add ((x3_1).toNat * 5)).block, (ad523.add ((x3_1).toNat * 5)).off + 4, none⟩ = some (.int .i64 ((rd_T28 l0 x3_1).f4))) (ds := []) #[false, false, false, false, false, false, false, false, false, false, false, false, false, false, false, false, false, false, false, false, false, false] (by kernel_rfl) rfl rfl ⟨((HB.out.cell (World.block_lt_of_cell? w _ hw525_0)).trans hw525_0), ((HB.out.cell (World.block_lt_of_cell? w _ hw525_1)).trans hw525_1), ((HB.out.cell (World.block_lt_of_cell? w _ hw525_2)).trans hw525_2), ((HB.out.cell (World.block_lt_of_cell? w _ hw525_3)).trans hw525_3), ((HB.out.cell (World.block_lt_of_cell? w _ hw525_4)).trans hw525_4), ((HB.out.cell (World.block_lt_of_cell? w _ hw526_0)).trans hw526_0), ((HB.out.cell (World.block_lt_of_cell? w _ hw526_1)).trans hw526_1), ((HB.out.cell (World.block_lt_of_cell? w _ hw526_2)).trans hw526_2), ((HB.out.cell (World.block_lt_of_cell? w _ hw526_3)).trans hw526_3), ((HB.out.cell (World.block_lt_of_cell? w _ hw526_4)).trans hw526_4)⟩ (fun hHeld => ?_); refine with_tabW spec_LocksOk.tab9 spec_LocksOk.bits9 (fun HT_ HW_ => ?_)
         generalize wr.drew = w13 at HB HR525_1 HR526_1 hx525_0 hx525_1 hx525_2 hx525_3 hx525_4 hx526_0 hx526_1 hx526_2 hx526_3 hx526_4 hHeld ⊢
         refine pu_ (i := 0) (N := some 22) ?_
         refine pu_ (i := 1) (N := some 23) ?_
         refine pu_ (i := 2) (N := some 24) ?_
         refine pu_ (i := 3) (N := some 25) ?_
         refine pu_ (i := 5) (N := some 27) ?_
         refine pu_ (i := 6) (N := some 28) ?_
         refine pu_ (i := 7) (N := some 29) ?_
         refine pu_ (i := 8) (N := some 30) ?_
         refine tk_ (i := 4) (N := some 26) hHeld ?_
         refine tk_ (i := 9) (N := some 31) hHeld ?_
         refine pu_ (i := 10) (N := some 32) ?_
         refine pu_ (i := 11) (N := some 33) ?_
         refine pn_ (i := 12) (N := some 34) ?_
         refine pn_ (i := 13) (N := some 35) ?_
         refine pn_ (i := 14) (N := some 36) ?_
         refine pn_ (i := 15) (N := some 37) ?_
         refine pn_ (i := 16) (N := some 38) ?_
         refine pn_ (i := 17) (N := some 39) ?_
         refine pn_ (i := 18) (N := some 40) ?_
         refine pn_ (i := 19) (N := some 41) ?_
         refine pn_ (i := 20) (N := some 42) ?_
         refine pu_ (i := 21) (N := some 43) ?_
         refine done_ (done_of HT_.out (by kernel_rfl)) ?_
         (try clear hHeld)
         try go_wp2
         go_ret
         exact ⟨rr_, bB_⟩
       rw [if_neg c12] at H
       have c12b0 : (((rd_T28 l0 x4_2).f0) == ((rd_T28 l0 x3_1).f0)) = false := beq_eq_false_iff_ne.mpr c12
       have c12b1 : (((rd_T28 l0 x4_2).f0) != ((rd_T28 l0 x3_1).f0)) = true := bne_iff_ne.mpr c12
       obtain ⟨t529, A14, H⟩ := bo_ H
       (try dsimp only at H)
       by_cases c15 : t529 = true
       · subst c15
         rw [if_pos rfl] at H
         obtain rfl := Option.some.inj H
         try go_wp2
         replace HB := A_ (below_drew1 HB.out)
         have p525 : 0 ≤ (x4_2 : Int) := of_decide_eq_true as_
         have q525 : x4_2 < (l0.length : Int) := of_decide_eq_true as_
         obtain ⟨ad525, A525_1, c525_1, e525, hx525_0, hx525_1, hx525_2, hx525_3, hx525_4, hl525_1, hi525_1⟩ := at_T28 HR0.out x4_2 p525 q525
         have hw525_4 := hx525_4
         have hw525_3 := hx525_3
         have hw525_2 := hx525_2
         have hw525_1 := hx525_1
         have hw525_0 := hx525_0
         obtain rfl : ad523 = ad525 := (by injection e525)
         replace hx525_0 := bc_ HB.out hx525_0
         replace hx525_1 := bc_ HB.out hx525_1
         replace hx525_2 := bc_ HB.out hx525_2
         replace hx525_3 := bc_ HB.out hx525_3
         replace hx525_4 := bc_ HB.out hx525_4
         have HR525_1 := Aside0.mk hi525_1
         have HC525_1 := Aside0.mk hl525_1
         clear hi525_1 hl525_1
         replace p525 := eq_true p525
         replace q525 := eq_true q525
         have p526 : 0 ≤ (x3_1 : Int) := of_decide_eq_true as_
         have q526 : x3_1 < (l0.length : Int) := of_decide_eq_true as_
         obtain ⟨ad526, A526_1, c526_1, e526, hx526_0, hx526_1, hx526_2, hx526_3, hx526_4, hl526_1, hi526_1⟩ := at_T28 HR0.out x3_1 p526 q526
         have hw526_4 := hx526_4
         have hw526_3 := hx526_3
         have hw526_2 := hx526_2
         have hw526_1 := hx526_1
         have hw526_0 := hx526_0
         obtain rfl : ad523 = ad526 := (by injection e526)
         replace hx526_0 := bc_ HB.out hx526_0
         replace hx526_1 := bc_ HB.out hx526_1
         replace hx526_2 := bc_ HB.out hx526_2
         replace hx526_3 := bc_ HB.out hx526_3
         replace hx526_4 := bc_ HB.out hx526_4
         have HR526_1 := Aside0.mk hi526_1
         have HC526_1 := Aside0.mk hl526_1
         clear hi526_1 hl526_1
         replace p526 := eq_true p526
         replace q526 := eq_true q526
         have p527 : 0 ≤ (x4_2 : Int) := of_decide_eq_true as_
         have q527 : x4_2 < (l0.length : Int) := of_decide_eq_true as_
         obtain ⟨ad527, A527_1, c527_1, e527, hx527_0, hx527_1, hx527_2, hx527_3, hx527_4, hl527_1, hi527_1⟩ := at_T28 HR0.out x4_2 p527 q527
         have hw527_4 := hx527_4
         have hw527_3 := hx527_3
         have hw527_2 := hx527_2
         have hw527_1 := hx527_1
         have hw527_0 := hx527_0
         obtain rfl : ad523 = ad527 := (by injection e527)
         replace hx527_0 := bc_ HB.out hx527_0
         replace hx527_1 := bc_ HB.out hx527_1
         replace hx527_2 := bc_ HB.out hx527_2
         replace hx527_3 := bc_ HB.out hx527_3
         replace hx527_4 := bc_ HB.out hx527_4
         have HR527_1 := Aside0.mk hi527_1
         have HC527_1 := Aside0.mk hl527_1
         clear hi527_1 hl527_1
         replace p527 := eq_true p527
         replace q527 := eq_true q527
         have ea_ := Option.some.inj (hx525_1.symm.trans hx527_1)
         injection ea_ with ea_ en_ ec_
         subst ea_
         subst ec_
         clear en_
         have p528 : 0 ≤ (x3_1 : Int) := of_decide_eq_true as_
         have q528 : x3_1 < (l0.length : Int) := of_decide_eq_true as_
         obtain ⟨ad528, A528_1, c528_1, e528, hx528_0, hx528_1, hx528_2, hx528_3, hx528_4, hl528_1, hi528_1⟩ := at_T28 HR0.out x3_1 p528 q528
         have hw528_4 := hx528_4
         have hw528_3 := hx528_3
         have hw528_2 := hx528_2
         have hw528_1 := hx528_1
         have hw528_0 := hx528_0
         obtain rfl : ad523 = ad528 := (by injection e528)
         replace hx528_0 := bc_ HB.out hx528_0
         replace hx528_1 := bc_ HB.out hx528_1
         replace hx528_2 := bc_ HB.out hx528_2
         replace hx528_3 := bc_ HB.out hx528_3
         replace hx528_4 := bc_ HB.out hx528_4
         have HR528_1 := Aside0.mk hi528_1
         have HC528_1 := Aside0.mk hl528_1
         clear hi528_1 hl528_1
         replace p528 := eq_true p528
         replace q528 := eq_true q528
         have ea_ := Option.some.inj (hx526_1.symm.trans hx528_1)
         injection ea_ with ea_ en_ ec_
         subst ea_
         subst ec_
         clear en_
         refine start_ (n := 22) (S := fun w' => w'.cell? (ad523.add ((x4_2).toNat * 5)) = some (.int .i64 ((rd_T28 l0 x4_2).f0)) ∧ w'.cell? ⟨(ad523.add ((x4_2).toNat * 5)).block, (ad523.add ((x4_2).toNat * 5)).off + 1, none⟩ = some (.slice A525_1 ((rd_T28 l0 x4_2).f1).length c525_1) ∧ w'.cell? ⟨(ad523.add ((x4_2).toNat * 5)).block, (ad523.add ((x4_2).toNat * 5)).off + 2, none⟩ = some (.bool ((rd_T28 l0 x4_2).f2)) ∧ w'.cell? ⟨(ad523.add ((x4_2).toNat * 5)).block, (ad523.add ((x4_2).toNat * 5)).off + 3, none⟩ = some (.bool ((rd_T28 l0 x4_2).f3)) ∧ w'.cell? ⟨(ad523.add ((x4_2).toNat * 5)).block, (ad523.add ((x4_2).toNat * 5)).off + 4, none⟩ = some (.int .i64 ((rd_T28 l0 x4_2).f4)) ∧ w'.cell? (ad523.add ((x3_1).toNat * 5)) = some (.int .i64 ((rd_T28 l0 x3_1).f0)) ∧ w'.cell? ⟨(ad523.add ((x3_1).toNat * 5)).block, (ad523.add ((x3_1).toNat * 5)).off + 1, none⟩ = some (.slice A526_1 ((rd_T28 l0 x3_1).f1).length c526_1) ∧ w'.cell? ⟨(ad523.add ((x3_1).toNat * 5)).block, (ad523.add ((x3_1).toNat * 5)).off + 2, none⟩ = some (.bool ((rd_T28 l0 x3_1).f2)) ∧ w'.cell? ⟨(ad523.add ((x3_1).toNat * 5)).block, (ad523.add ((x3_1).toNat * 5)).off + 3, none⟩ = some (.bool ((rd_T28 l0 x3_1).f3)) ∧ w'.cell? ⟨(ad523.add ((x3_1).toNat * 5)).block, (ad523.add ((x3_1).toNat * 5)).off + 4, none⟩ = some (.int .i64 ((rd_T28 l0 x3_1).f4)) ∧ w'.cell? (ad523.add ((x4_2).toNat * 5)) = some (.int .i64 ((rd_T28 l0 x4_2).f0)) ∧ w'.cell? ⟨(ad523.add ((x4_2).toNat * 5)).block, (ad523.add ((x4_2).toNat * 5)).off + 1, none⟩ = some (.slice A525_1 ((rd_T28 l0 x4_2).f1).length c525_1) ∧ w'.cell? ⟨(ad523.add ((x4_2).toNat * 5)).block, (ad523.add ((x4_2).toNat * 5)).off + 2, none⟩ = some (.bool ((rd_T28 l0 x4_2).f2)) ∧ w'.cell? ⟨(ad523.add ((x4_2).toNat * 5)).block, (ad523.add ((x4_2).toNat * 5)).off + 3, none⟩ = some (.bool ((rd_T28 l0 x4_2).f3)) ∧ w'.cell? ⟨(ad523.add ((x4_2).toNat * 5)).block, (ad523.add ((x4_2).toNat * 5)).off + 4, none⟩ = some (.int .i64 ((rd_T28 l0 x4_2).f4)) ∧ w'.cell? (ad523.add ((x3_1).toNat * 5)) = some (.int .i64 ((rd_T28 l0 x3_1).f0)) ∧ w'.cell? ⟨(ad523.add ((x3_1).toNat * 5)).block, (ad523.add ((x3_1).toNat * 5)).off + 1, none⟩ = some (.slice A526_1 ((rd_T28 l0 x3_1).f1).length c526_1) ∧ w'.cell? ⟨(ad523.add ((x3_1).toNat * 5)).block, (ad523.add ((x3_1).toNat * 5)).off + 2, none⟩ = some (.bool ((rd_T28 l0 x3_1).f2)) ∧ w'.cell? ⟨(ad523.add ((x3_1).toNat * 5)).block, (ad523.add ((x3_1).toNat * 5)).off + 3, none⟩ = some (.bool ((rd_T28 l0 x3_1).f3)) ∧ w'.cell? ⟨(ad523.add ((x3_1).toNat * 5)).block, (ad523.add ((x3_1).toNat * 5)).off + 4, none⟩ = some (.int .i64 ((rd_T28 l0 x3_1).f4))) (ds := []) #[false, false, false, false, false, false, false, false, false, false, false, false, false, false, false, false, false, false, false, false, false, false] (by kernel_rfl) rfl rfl ⟨((HB.out.cell (World.block_lt_of_cell? w _ hw525_0)).trans hw525_0), ((HB.out.cell (World.block_lt_of_cell? w _ hw525_1)).trans hw525_1), ((HB.out.cell (World.block_lt_of_cell? w _ hw525_2)).trans hw525_2), ((HB.out.cell (World.block_lt_of_cell? w _ hw525_3)).trans hw525_3), ((HB.out.cell (World.block_lt_of_cell? w _ hw525_4)).trans hw525_4), ((HB.out.cell (World.block_lt_of_cell? w _ hw526_0)).trans hw526_0), ((HB.out.cell (World.block_lt_of_cell? w _ hw526_1)).trans hw526_1), ((HB.out.cell (World.block_lt_of_cell? w _ hw526_2)).trans hw526_2), ((HB.out.cell (World.block_lt_of_cell? w _ hw526_3)).trans hw526_3), ((HB.out.cell (World.block_lt_of_cell? w _ hw526_4)).trans hw526_4), ((HB.out.cell (World.block_lt_of_cell? w _ hw527_0)).trans hw527_0), ((HB.out.cell (World.block_lt_of_cell? w _ hw527_1)).trans hw527_1), ((HB.out.cell (World.block_lt_of_cell? w _ hw527_2)).trans hw527_2), ((HB.out.cell (World.block_lt_of_cell? w _ hw527_3)).trans hw527_3), ((HB.out.cell (World.block_lt_of_cell? w _ hw527_4)).trans hw527_4), ((HB.out.cell (World.block_lt_of_cell? w _ hw528_0)).trans hw528_0), ((HB.out.cell (World.block_lt_of_cell? w _ hw528_1)).trans hw528_1), ((HB.out.cell (World.block_lt_of_cell? w _ hw528_2)).trans hw528_2), ((HB.out.cell (World.block_lt_of_cell? w _ hw528_3)).trans hw528_3), ((HB.out.cell (World.block_lt_of_cell? w _ hw528_4)).trans hw528_4)⟩ (fun hHeld => ?_); refine with_tabW spec_LocksOk.tab9 spec_LocksOk.bits9 (fun HT_ HW_ => ?_)
         generalize wr.drew = w16 at HB HR525_1 HR526_1 HR527_1 HR528_1 hx525_0 hx525_1 hx525_2 hx525_3 hx525_4 hx526_0 hx526_1 hx526_2 hx526_3 hx526_4 hx527_0 hx527_1 hx527_2 hx527_3 hx527_4 hx528_0 hx528_1 hx528_2 hx528_3 hx528_4 hHeld ⊢
         refine pu_ (i := 0) (N := some 22) ?_
         refine pu_ (i := 1) (N := some 23) ?_
         refine pu_ (i := 2) (N := some 24) ?_
         refine pu_ (i := 3) (N := some 25) ?_
         refine pu_ (i := 5) (N := some 27) ?_
         refine pu_ (i := 6) (N := some 28) ?_
         refine pu_ (i := 7) (N := some 29) ?_
         refine pu_ (i := 8) (N := some 30) ?_
         refine tk_ (i := 4) (N := some 26) hHeld ?_
         refine tk_ (i := 9) (N := some 31) hHeld ?_
         refine pu_ (i := 10) (N := some 32) ?_
         refine pu_ (i := 11) (N := some 33) ?_
         refine pu_ (i := 12) (N := some 34) ?_
         refine pu_ (i := 13) (N := some 35) ?_
         refine pu_ (i := 14) (N := some 36) ?_
         refine pu_ (i := 16) (N := some 38) ?_
         refine pu_ (i := 17) (N := some 39) ?_
         refine pu_ (i := 18) (N := some 40) ?_
         refine tk_ (i := 15) (N := some 37) hHeld ?_
         refine tk_ (i := 19) (N := some 41) hHeld ?_
         refine on_ (i := 20) (N := some 42) (fun K hK => ?_)
         refine goes_ Try.func23 (by kernel_rfl) rfl #[.agg #[.int .i64 ((rd_T28 l0 x4_2).f0), .slice A525_1 ((rd_T28 l0 x4_2).f1).length c525_1, .bool ((rd_T28 l0 x4_2).f2), .bool ((rd_T28 l0 x4_2).f3), .int .i64 ((rd_T28 l0 x4_2).f4)], .agg #[.int .i64 ((rd_T28 l0 x3_1).f0), .slice A526_1 ((rd_T28 l0 x3_1).f1).length c526_1, .bool ((rd_T28 l0 x3_1).f2), .bool ((rd_T28 l0 x3_1).f3), .int .i64 ((rd_T28 l0 x3_1).f4)]] (by rfl) rfl rfl ml_ ?_
         with_reducible refine (spec_LockClash.calls k2 ((rd_T28 l0 x4_2).f0) _ _ ((rd_T28 l0 x4_2).f1) ((rd_T28 l0 x4_2).f2) ((rd_T28 l0 x4_2).f3) ((rd_T28 l0 x4_2).f4) ((rd_T28 l0 x3_1).f0) _ _ ((rd_T28 l0 x3_1).f1) ((rd_T28 l0 x3_1).f2) ((rd_T28 l0 x3_1).f3) ((rd_T28 l0 x3_1).f4) true _ ?s1 ?s2 ?s3 ?s4 A14.out).mono ?_
         (case s1 => exact cC_ (Kd.C_below HR527_1.out HB.out))
         (case s2 => exact HC527_1.out)
         (case s3 => exact cC_ (Kd.C_below HR528_1.out HB.out))
         (case s4 => exact HC528_1.out)
         rintro e w17 ⟨rfl, hb⟩
         refine ⟨_, rfl, ?_⟩
         replace HB := A_ (below_step bB_ hb)
         (try clear hb)
         (try clear hb2)
         (try clear hk)
         (try clear hi)
         refine hK.out _ _ ⟨((HB.out.cell (World.block_lt_of_cell? w _ hw525_0)).trans hw525_0), ((HB.out.cell (World.block_lt_of_cell? w _ hw525_1)).trans hw525_1), ((HB.out.cell (World.block_lt_of_cell? w _ hw525_2)).trans hw525_2), ((HB.out.cell (World.block_lt_of_cell? w _ hw525_3)).trans hw525_3), ((HB.out.cell (World.block_lt_of_cell? w _ hw525_4)).trans hw525_4), ((HB.out.cell (World.block_lt_of_cell? w _ hw526_0)).trans hw526_0), ((HB.out.cell (World.block_lt_of_cell? w _ hw526_1)).trans hw526_1), ((HB.out.cell (World.block_lt_of_cell? w _ hw526_2)).trans hw526_2), ((HB.out.cell (World.block_lt_of_cell? w _ hw526_3)).trans hw526_3), ((HB.out.cell (World.block_lt_of_cell? w _ hw526_4)).trans hw526_4), ((HB.out.cell (World.block_lt_of_cell? w _ hw527_0)).trans hw527_0), ((HB.out.cell (World.block_lt_of_cell? w _ hw527_1)).trans hw527_1), ((HB.out.cell (World.block_lt_of_cell? w _ hw527_2)).trans hw527_2), ((HB.out.cell (World.block_lt_of_cell? w _ hw527_3)).trans hw527_3), ((HB.out.cell (World.block_lt_of_cell? w _ hw527_4)).trans hw527_4), ((HB.out.cell (World.block_lt_of_cell? w _ hw528_0)).trans hw528_0), ((HB.out.cell (World.block_lt_of_cell? w _ hw528_1)).trans hw528_1), ((HB.out.cell (World.block_lt_of_cell? w _ hw528_2)).trans hw528_2), ((HB.out.cell (World.block_lt_of_cell? w _ hw528_3)).trans hw528_3), ((HB.out.cell (World.block_lt_of_cell? w _ hw528_4)).trans hw528_4)⟩ (fun hHeld => ?_)
         clear hK K
         refine no_ (some 42) ?_
         refine pu_ (i := 21) (N := some 43) ?_
         refine done_ (done_of HT_.out (by kernel_rfl)) ?_
         (try clear hHeld)
         try go_wp2
         go_ret
         exact ⟨rr_, bB_⟩
       · replace c15 := Bool.eq_false_iff.mpr c15
         subst c15
         rw [if_neg nf_] at H
         have H' := Aside0.mk H
         clear H
         try go_wp2
         replace HB := A_ (below_drew1 HB.out)
         have p525 : 0 ≤ (x4_2 : Int) := of_decide_eq_true as_
         have q525 : x4_2 < (l0.length : Int) := of_decide_eq_true as_
         obtain ⟨ad525, A525_1, c525_1, e525, hx525_0, hx525_1, hx525_2, hx525_3, hx525_4, hl525_1, hi525_1⟩ := at_T28 HR0.out x4_2 p525 q525
         have hw525_4 := hx525_4
         have hw525_3 := hx525_3
         have hw525_2 := hx525_2
         have hw525_1 := hx525_1
         have hw525_0 := hx525_0
         obtain rfl : ad523 = ad525 := (by injection e525)
         replace hx525_0 := bc_ HB.out hx525_0
         replace hx525_1 := bc_ HB.out hx525_1
         replace hx525_2 := bc_ HB.out hx525_2
         replace hx525_3 := bc_ HB.out hx525_3
         replace hx525_4 := bc_ HB.out hx525_4
         have HR525_1 := Aside0.mk hi525_1
         have HC525_1 := Aside0.mk hl525_1
         clear hi525_1 hl525_1
         replace p525 := eq_true p525
         replace q525 := eq_true q525
         have p526 : 0 ≤ (x3_1 : Int) := of_decide_eq_true as_
         have q526 : x3_1 < (l0.length : Int) := of_decide_eq_true as_
         obtain ⟨ad526, A526_1, c526_1, e526, hx526_0, hx526_1, hx526_2, hx526_3, hx526_4, hl526_1, hi526_1⟩ := at_T28 HR0.out x3_1 p526 q526
         have hw526_4 := hx526_4
         have hw526_3 := hx526_3
         have hw526_2 := hx526_2
         have hw526_1 := hx526_1
         have hw526_0 := hx526_0
         obtain rfl : ad523 = ad526 := (by injection e526)
         replace hx526_0 := bc_ HB.out hx526_0
         replace hx526_1 := bc_ HB.out hx526_1
         replace hx526_2 := bc_ HB.out hx526_2
         replace hx526_3 := bc_ HB.out hx526_3
         replace hx526_4 := bc_ HB.out hx526_4
         have HR526_1 := Aside0.mk hi526_1
         have HC526_1 := Aside0.mk hl526_1
         clear hi526_1 hl526_1
         replace p526 := eq_true p526
         replace q526 := eq_true q526
         have p527 : 0 ≤ (x4_2 : Int) := of_decide_eq_true as_
         have q527 : x4_2 < (l0.length : Int) := of_decide_eq_true as_
         obtain ⟨ad527, A527_1, c527_1, e527, hx527_0, hx527_1, hx527_2, hx527_3, hx527_4, hl527_1, hi527_1⟩ := at_T28 HR0.out x4_2 p527 q527
         have hw527_4 := hx527_4
         have hw527_3 := hx527_3
         have hw527_2 := hx527_2
         have hw527_1 := hx527_1
         have hw527_0 := hx527_0
         obtain rfl : ad523 = ad527 := (by injection e527)
         replace hx527_0 := bc_ HB.out hx527_0
         replace hx527_1 := bc_ HB.out hx527_1
         replace hx527_2 := bc_ HB.out hx527_2
         replace hx527_3 := bc_ HB.out hx527_3
         replace hx527_4 := bc_ HB.out hx527_4
         have HR527_1 := Aside0.mk hi527_1
         have HC527_1 := Aside0.mk hl527_1
         clear hi527_1 hl527_1
         replace p527 := eq_true p527
         replace q527 := eq_true q527
         have ea_ := Option.some.inj (hx525_1.symm.trans hx527_1)
         injection ea_ with ea_ en_ ec_
         subst ea_
         subst ec_
         clear en_
         have p528 : 0 ≤ (x3_1 : Int) := of_decide_eq_true as_
         have q528 : x3_1 < (l0.length : Int) := of_decide_eq_true as_
         obtain ⟨ad528, A528_1, c528_1, e528, hx528_0, hx528_1, hx528_2, hx528_3, hx528_4, hl528_1, hi528_1⟩ := at_T28 HR0.out x3_1 p528 q528
         have hw528_4 := hx528_4
         have hw528_3 := hx528_3
         have hw528_2 := hx528_2
         have hw528_1 := hx528_1
         have hw528_0 := hx528_0
         obtain rfl : ad523 = ad528 := (by injection e528)
         replace hx528_0 := bc_ HB.out hx528_0
         replace hx528_1 := bc_ HB.out hx528_1
         replace hx528_2 := bc_ HB.out hx528_2
         replace hx528_3 := bc_ HB.out hx528_3
         replace hx528_4 := bc_ HB.out hx528_4
         have HR528_1 := Aside0.mk hi528_1
         have HC528_1 := Aside0.mk hl528_1
         clear hi528_1 hl528_1
         replace p528 := eq_true p528
         replace q528 := eq_true q528
         have ea_ := Option.some.inj (hx526_1.symm.trans hx528_1)
         injection ea_ with ea_ en_ ec_
         subst ea_
         subst ec_
         clear en_
         refine start_ (n := 22) (S := fun w' => w'.cell? (ad523.add ((x4_2).toNat * 5)) = some (.int .i64 ((rd_T28 l0 x4_2).f0)) ∧ w'.cell? ⟨(ad523.add ((x4_2).toNat * 5)).block, (ad523.add ((x4_2).toNat * 5)).off + 1, none⟩ = some (.slice A525_1 ((rd_T28 l0 x4_2).f1).length c525_1) ∧ w'.cell? ⟨(ad523.add ((x4_2).toNat * 5)).block, (ad523.add ((x4_2).toNat * 5)).off + 2, none⟩ = some (.bool ((rd_T28 l0 x4_2).f2)) ∧ w'.cell? ⟨(ad523.add ((x4_2).toNat * 5)).block, (ad523.add ((x4_2).toNat * 5)).off + 3, none⟩ = some (.bool ((rd_T28 l0 x4_2).f3)) ∧ w'.cell? ⟨(ad523.add ((x4_2).toNat * 5)).block, (ad523.add ((x4_2).toNat * 5)).off + 4, none⟩ = some (.int .i64 ((rd_T28 l0 x4_2).f4)) ∧ w'.cell? (ad523.add ((x3_1).toNat * 5)) = some (.int .i64 ((rd_T28 l0 x3_1).f0)) ∧ w'.cell? ⟨(ad523.add ((x3_1).toNat * 5)).block, (ad523.add ((x3_1).toNat * 5)).off + 1, none⟩ = some (.slice A526_1 ((rd_T28 l0 x3_1).f1).length c526_1) ∧ w'.cell? ⟨(ad523.add ((x3_1).toNat * 5)).block, (ad523.add ((x3_1).toNat * 5)).off + 2, none⟩ = some (.bool ((rd_T28 l0 x3_1).f2)) ∧ w'.cell? ⟨(ad523.add ((x3_1).toNat * 5)).block, (ad523.add ((x3_1).toNat * 5)).off + 3, none⟩ = some (.bool ((rd_T28 l0 x3_1).f3)) ∧ w'.cell? ⟨(ad523.add ((x3_1).toNat * 5)).block, (ad523.add ((x3_1).toNat * 5)).off + 4, none⟩ = some (.int .i64 ((rd_T28 l0 x3_1).f4)) ∧ w'.cell? (ad523.add ((x4_2).toNat * 5)) = some (.int .i64 ((rd_T28 l0 x4_2).f0)) ∧ w'.cell? ⟨(ad523.add ((x4_2).toNat * 5)).block, (ad523.add ((x4_2).toNat * 5)).off + 1, none⟩ = some (.slice A525_1 ((rd_T28 l0 x4_2).f1).length c525_1) ∧ w'.cell? ⟨(ad523.add ((x4_2).toNat * 5)).block, (ad523.add ((x4_2).toNat * 5)).off + 2, none⟩ = some (.bool ((rd_T28 l0 x4_2).f2)) ∧ w'.cell? ⟨(ad523.add ((x4_2).toNat * 5)).block, (ad523.add ((x4_2).toNat * 5)).off + 3, none⟩ = some (.bool ((rd_T28 l0 x4_2).f3)) ∧ w'.cell? ⟨(ad523.add ((x4_2).toNat * 5)).block, (ad523.add ((x4_2).toNat * 5)).off + 4, none⟩ = some (.int .i64 ((rd_T28 l0 x4_2).f4)) ∧ w'.cell? (ad523.add ((x3_1).toNat * 5)) = some (.int .i64 ((rd_T28 l0 x3_1).f0)) ∧ w'.cell? ⟨(ad523.add ((x3_1).toNat * 5)).block, (ad523.add ((x3_1).toNat * 5)).off + 1, none⟩ = some (.slice A526_1 ((rd_T28 l0 x3_1).f1).length c526_1) ∧ w'.cell? ⟨(ad523.add ((x3_1).toNat * 5)).block, (ad523.add ((x3_1).toNat * 5)).off + 2, none⟩ = some (.bool ((rd_T28 l0 x3_1).f2)) ∧ w'.cell? ⟨(ad523.add ((x3_1).toNat * 5)).block, (ad523.add ((x3_1).toNat * 5)).off + 3, none⟩ = some (.bool ((rd_T28 l0 x3_1).f3)) ∧ w'.cell? ⟨(ad523.add ((x3_1).toNat * 5)).block, (ad523.add ((x3_1).toNat * 5)).off + 4, none⟩ = some (.int .i64 ((rd_T28 l0 x3_1).f4))) (ds := []) #[false, false, false, false, false, false, false, false, false, false, false, false, false, false, false, false, false, false, false, false, false, false] (by kernel_rfl) rfl rfl ⟨((HB.out.cell (World.block_lt_of_cell? w _ hw525_0)).trans hw525_0), ((HB.out.cell (World.block_lt_of_cell? w _ hw525_1)).trans hw525_1), ((HB.out.cell (World.block_lt_of_cell? w _ hw525_2)).trans hw525_2), ((HB.out.cell (World.block_lt_of_cell? w _ hw525_3)).trans hw525_3), ((HB.out.cell (World.block_lt_of_cell? w _ hw525_4)).trans hw525_4), ((HB.out.cell (World.block_lt_of_cell? w _ hw526_0)).trans hw526_0), ((HB.out.cell (World.block_lt_of_cell? w _ hw526_1)).trans hw526_1), ((HB.out.cell (World.block_lt_of_cell? w _ hw526_2)).trans hw526_2), ((HB.out.cell (World.block_lt_of_cell? w _ hw526_3)).trans hw526_3), ((HB.out.cell (World.block_lt_of_cell? w _ hw526_4)).trans hw526_4), ((HB.out.cell (World.block_lt_of_cell? w _ hw527_0)).trans hw527_0), ((HB.out.cell (World.block_lt_of_cell? w _ hw527_1)).trans hw527_1), ((HB.out.cell (World.block_lt_of_cell? w _ hw527_2)).trans hw527_2), ((HB.out.cell (World.block_lt_of_cell? w _ hw527_3)).trans hw527_3), ((HB.out.cell (World.block_lt_of_cell? w _ hw527_4)).trans hw527_4), ((HB.out.cell (World.block_lt_of_cell? w _ hw528_0)).trans hw528_0), ((HB.out.cell (World.block_lt_of_cell? w _ hw528_1)).trans hw528_1), ((HB.out.cell (World.block_lt_of_cell? w _ hw528_2)).trans hw528_2), ((HB.out.cell (World.block_lt_of_cell? w _ hw528_3)).trans hw528_3), ((HB.out.cell (World.block_lt_of_cell? w _ hw528_4)).trans hw528_4)⟩ (fun hHeld => ?_); refine with_tabW spec_LocksOk.tab9 spec_LocksOk.bits9 (fun HT_ HW_ => ?_)
         generalize wr.drew = w18 at HB HR525_1 HR526_1 HR527_1 HR528_1 hx525_0 hx525_1 hx525_2 hx525_3 hx525_4 hx526_0 hx526_1 hx526_2 hx526_3 hx526_4 hx527_0 hx527_1 hx527_2 hx527_3 hx527_4 hx528_0 hx528_1 hx528_2 hx528_3 hx528_4 hHeld ⊢
         refine pu_ (i := 0) (N := some 22) ?_
         refine pu_ (i := 1) (N := some 23) ?_
         refine pu_ (i := 2) (N := some 24) ?_
         refine pu_ (i := 3) (N := some 25) ?_
         refine pu_ (i := 5) (N := some 27) ?_
         refine pu_ (i := 6) (N := some 28) ?_
         refine pu_ (i := 7) (N := some 29) ?_
         refine pu_ (i := 8) (N := some 30) ?_
         refine tk_ (i := 4) (N := some 26) hHeld ?_
         refine tk_ (i := 9) (N := some 31) hHeld ?_
         refine pu_ (i := 10) (N := some 32) ?_
         refine pu_ (i := 11) (N := some 33) ?_
         refine pu_ (i := 12) (N := some 34) ?_
         refine pu_ (i := 13) (N := some 35) ?_
         refine pu_ (i := 14) (N := some 36) ?_
         refine pu_ (i := 16) (N := some 38) ?_
         refine pu_ (i := 17) (N := some 39) ?_
         refine pu_ (i := 18) (N := some 40) ?_
         refine tk_ (i := 15) (N := some 37) hHeld ?_
         refine tk_ (i := 19) (N := some 41) hHeld ?_
         refine on_ (i := 20) (N := some 42) (fun K hK => ?_)
         refine goes_ Try.func23 (by kernel_rfl) rfl #[.agg #[.int .i64 ((rd_T28 l0 x4_2).f0), .slice A525_1 ((rd_T28 l0 x4_2).f1).length c525_1, .bool ((rd_T28 l0 x4_2).f2), .bool ((rd_T28 l0 x4_2).f3), .int .i64 ((rd_T28 l0 x4_2).f4)], .agg #[.int .i64 ((rd_T28 l0 x3_1).f0), .slice A526_1 ((rd_T28 l0 x3_1).f1).length c526_1, .bool ((rd_T28 l0 x3_1).f2), .bool ((rd_T28 l0 x3_1).f3), .int .i64 ((rd_T28 l0 x3_1).f4)]] (by rfl) rfl rfl ml_ ?_
         with_reducible refine (spec_LockClash.calls k2 ((rd_T28 l0 x4_2).f0) _ _ ((rd_T28 l0 x4_2).f1) ((rd_T28 l0 x4_2).f2) ((rd_T28 l0 x4_2).f3) ((rd_T28 l0 x4_2).f4) ((rd_T28 l0 x3_1).f0) _ _ ((rd_T28 l0 x3_1).f1) ((rd_T28 l0 x3_1).f2) ((rd_T28 l0 x3_1).f3) ((rd_T28 l0 x3_1).f4) false _ ?s1 ?s2 ?s3 ?s4 A14.out).mono ?_
         (case s1 => exact cC_ (Kd.C_below HR527_1.out HB.out))
         (case s2 => exact HC527_1.out)
         (case s3 => exact cC_ (Kd.C_below HR528_1.out HB.out))
         (case s4 => exact HC528_1.out)
         rintro e w19 ⟨rfl, hb⟩
         refine ⟨_, rfl, ?_⟩
         replace HB := A_ (below_step bB_ hb)
         (try clear hb)
         (try clear hb2)
         (try clear hk)
         (try clear hi)
         refine hK.out _ _ ⟨((HB.out.cell (World.block_lt_of_cell? w _ hw525_0)).trans hw525_0), ((HB.out.cell (World.block_lt_of_cell? w _ hw525_1)).trans hw525_1), ((HB.out.cell (World.block_lt_of_cell? w _ hw525_2)).trans hw525_2), ((HB.out.cell (World.block_lt_of_cell? w _ hw525_3)).trans hw525_3), ((HB.out.cell (World.block_lt_of_cell? w _ hw525_4)).trans hw525_4), ((HB.out.cell (World.block_lt_of_cell? w _ hw526_0)).trans hw526_0), ((HB.out.cell (World.block_lt_of_cell? w _ hw526_1)).trans hw526_1), ((HB.out.cell (World.block_lt_of_cell? w _ hw526_2)).trans hw526_2), ((HB.out.cell (World.block_lt_of_cell? w _ hw526_3)).trans hw526_3), ((HB.out.cell (World.block_lt_of_cell? w _ hw526_4)).trans hw526_4), ((HB.out.cell (World.block_lt_of_cell? w _ hw527_0)).trans hw527_0), ((HB.out.cell (World.block_lt_of_cell? w _ hw527_1)).trans hw527_1), ((HB.out.cell (World.block_lt_of_cell? w _ hw527_2)).trans hw527_2), ((HB.out.cell (World.block_lt_of_cell? w _ hw527_3)).trans hw527_3), ((HB.out.cell (World.block_lt_of_cell? w _ hw527_4)).trans hw527_4), ((HB.out.cell (World.block_lt_of_cell? w _ hw528_0)).trans hw528_0), ((HB.out.cell (World.block_lt_of_cell? w _ hw528_1)).trans hw528_1), ((HB.out.cell (World.block_lt_of_cell? w _ hw528_2)).trans hw528_2), ((HB.out.cell (World.block_lt_of_cell? w _ hw528_3)).trans hw528_3), ((HB.out.cell (World.block_lt_of_cell? w _ hw528_4)).trans hw528_4)⟩ (fun hHeld => ?_)
         clear hK K
         refine no_ (some 42) ?_
         refine pu_ (i := 21) (N := some 43) ?_
         refine done_ (done_of HT_.out (by kernel_rfl)) ?_
         (try clear hHeld)
         try go_wp2
         go_roundg k2
         case measure => have := HK1.out; have := HK2.out; omega
         case rel => exact ⟨(wrap64 (x4_2 + 1)), rs_, H', ⟨by have := HK1.out; have := HK2.out; omega⟩, ⟨bB_⟩⟩
   · replace c5 := Bool.eq_false_iff.mpr c5
     subst c5
     rw [if_neg nf_] at H
     obtain rfl := Option.some.inj H
     have p523 : 0 ≤ (x3_1 : Int) := of_decide_eq_true as_
     have q523 : x3_1 < (l0.length : Int) := of_decide_eq_true as_
     obtain ⟨ad523, A523_1, c523_1, e523, hx523_0, hx523_1, hx523_2, hx523_3, hx523_4, hl523_1, hi523_1⟩ := at_T28 HR0.out x3_1 p523 q523
     cases e523
     replace hx523_0 := bc_ HB.out hx523_0
     replace hx523_1 := bc_ HB.out hx523_1
     replace hx523_2 := bc_ HB.out hx523_2
     replace hx523_3 := bc_ HB.out hx523_3
     replace hx523_4 := bc_ HB.out hx523_4
     have HR523_1 := Aside0.mk hi523_1
     have HC523_1 := Aside0.mk hl523_1
     clear hi523_1 hl523_1
     replace p523 := eq_true p523
     replace q523 := eq_true q523
     go_wp2_with (first | ((with_reducible refine gate_callee (f := 43) rfl ?_); refine gL_ (some 15) Try.func43 #[.agg #[.int .i64 ((rd_T28 l0 x3_1).f0), .slice A523_1 ((rd_T28 l0 x3_1).f1).length c523_1, .bool ((rd_T28 l0 x3_1).f2), .bool ((rd_T28 l0 x3_1).f3), .int .i64 ((rd_T28 l0 x3_1).f4)]] ?_; (with_reducible refine (spec_LockOk.calls k1 ((rd_T28 l0 x3_1).f0) _ _ ((rd_T28 l0 x3_1).f1) ((rd_T28 l0 x3_1).f2) ((rd_T28 l0 x3_1).f3) ((rd_T28 l0 x3_1).f4) false _ ?s1 ?s2 A4.out).mono ?_); (case s1 => exact cC_ (Kd.C_below HR523_1.out HB.out)); (case s2 => exact HC523_1.out); rintro e w20 ⟨rfl, hb⟩; refine ⟨_, rfl, ?_⟩; replace HB := A_ (below_step bB_ hb); (try clear hb)))
     go_ret
     exact ⟨rr_, bB_⟩
end Go.Proofs.Ytiddgglidkbipaa.Q
