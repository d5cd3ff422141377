-- PRINTED by print.py (a twelfth state) out of the translation. Not trusted: Lean checks it.
import Derived.Test.YtiddgglidkbipaaVFnLocksG12
import Derived.Test.YtiddgglidkbipaaVFnLocksG22
namespace Go.Proofs.Ytiddgglidkbipaa.Q
open Go.RowKit Go.Proofs.YtiddgglidkbipaaW.PrintWords Go.Proofs.YtiddgglidkbipaaW.PrintLast Go.Proofs.YtiddgglidkbipaaW.PrintMore
attribute [local go_sem] max2_int min2_int max_two min_two max_three min_three max_four min_four   -- for this text's walks alone
set_option linter.unusedVariables false
set_option linter.unusedSimpArgs false
def impl_hasInt.l0 : Nat → Int → List Int → Int → Int → Option (Bool)
 | 0, _, _, _, _ => none
 | k + 1, x1, x7, x8, x9 => if x9 < x8 then (if 0 ≤ x9 then (if x9 < (x7.length : Int) then (if (rd x7 x9) = x1 then (some true) else (impl_hasInt.l0 k x1 x7 x8 (wrap64 (x9 + 1)))) else (none)) else (none)) else (some false)
def impl_hasInt.f (k : Nat) (l0 : List Int) (a1 : Int) : Option (Bool) := impl_hasInt.l0 k a1 l0 (l0.length : Int) 0
set_option maxHeartbeats 8000000 in
set_option maxRecDepth 100000 in
theorem impl_hasInt.calls (k : Nat) (A0 : Option Addr) (c0 : Nat) (l0 : List Int) (a1 : Int) (r : Bool) (w : World) (hr0 : Kd.C (Kd.int .i64) w A0 l0.length l0) (hc0 : l0.length ≤ c0) (h : impl_hasInt.f k l0 a1 = some r) :
 Calls Try.prog 67 #[.slice A0 l0.length c0, .int .i64 a1] w fun e w' => e = .returned (.bool r) ∧ Drawn0 w w' := by
 have HR0 := Aside0.mk hr0
 have HC0 := Aside0.mk hc0
 clear hr0 hc0
 have H : (impl_hasInt.l0 k a1 l0 (l0.length : Int) 0) = some r := h
 clear h
 have H' := Aside0.mk H
 clear H
 go_enter Try.func67, Try.ntmps67
 go_wp2
 go_loopg [9] k (fun kq v9 w' => ∃ (x9_1 : Int), v9 = .int .i64 x9_1 ∧ Aside0 (impl_hasInt.l0 kq a1 l0 (l0.length : Int) x9_1 = some r) ∧ Aside0 (kq ≤ k) ∧ Drawn0 w w')
 case atStart => exact ⟨(0), rs_, H', ⟨Nat.le_refl _⟩, dr_⟩
 case round =>
  clear H'
  try clear p2
  obtain ⟨x9_1, rfl, HA, HK1, ⟨m1, rfl⟩⟩ := hrel
  cases gk with
  | zero => exact absurd HA.out (by simp [impl_hasInt.l0])
  | succ k1 =>
   have H := HA.out
   clear HA
   simp only [impl_hasInt.l0] at H
   by_cases c3 : x9_1 < (l0.length : Int)
   rotate_left
   · rw [if_neg c3] at H
     have c3b0 : decide (x9_1 < (l0.length : Int)) = false := decide_eq_false c3
     clear c3
     obtain rfl := Option.some.inj H
     go_wp2
     go_ret
     exact ⟨rs_, dr_⟩
   rw [if_pos c3] at H
   have c3b0 : decide (x9_1 < (l0.length : Int)) = true := decide_eq_true c3
   clear c3
   by_cases c4 : 0 ≤ x9_1
   rotate_left
   · exact absurd H (by rw [if_neg c4]; simp)
   rw [if_pos c4] at H
   have c4b0 : decide (0 ≤ x9_1) = true := decide_eq_true c4
   clear c4
   by_cases c5 : x9_1 < (l0.length : Int)
   rotate_left
   · exact absurd H (by rw [if_neg c5]; simp)
   rw [if_pos c5] at H
   have c5b0 : decide (x9_1 < (l0.length : Int)) = true := decide_eq_true c5
   clear c5
   by_cases c6 : (rd l0 x9_1) = a1
   · rw [if_pos c6] at H
     have c6b0 : ((rd l0 x9_1) == a1) = true := beq_iff_eq.mpr c6
     have c6b1 : ((rd l0 x9_1) != a1) = false := bne_eq_false_iff_eq.mpr c6
     clear c6
     obtain rfl := Option.some.inj H
     have p269 : 0 ≤ (x9_1 : Int) := of_decide_eq_true as_
     have q269 : x9_1 < (l0.length : Int) := of_decide_eq_true as_
     obtain ⟨ad269, e269, hx269_0⟩ := Kd.at_int HR0.out x9_1 p269 q269
     cases e269
     replace p269 := eq_true p269
     replace q269 := eq_true q269
     go_wp2
     go_ret
     exact ⟨rs_, dr_⟩
   rw [if_neg c6] at H
   have c6b0 : ((rd l0 x9_1) == a1) = false := beq_eq_false_iff_ne.mpr c6
   have c6b1 : ((rd l0 x9_1) != a1) = true := bne_iff_ne.mpr c6
   have H' := Aside0.mk H
   clear H
   have p269 : 0 ≤ (x9_1 : Int) := of_decide_eq_true as_
   have q269 : x9_1 < (l0.length : Int) := of_decide_eq_true as_
   obtain ⟨ad269, e269, hx269_0⟩ := Kd.at_int HR0.out x9_1 p269 q269
   cases e269
   replace p269 := eq_true p269
   replace q269 := eq_true q269
   go_wp2
   go_roundg k1
   case measure => have := HK1.out; omega
   case rel => exact ⟨(wrap64 (x9_1 + 1)), rs_, H', ⟨by have := HK1.out; omega⟩, dr_⟩
mutual
def impl_MayTurn.l0 : Nat → List ByteArray → Bool → List Int → Bool → Bool → List (S28) → Int → Int → Option (Bool)
 | 0, _, _, _, _, _, _, _, _ => none
 | k + 1, x1, x2, x3, x9, x10, x14, x15, x16 => if x16 < x15 then (if 0 ≤ x16 then (if x16 < (x14.length : Int) then ((impl_Covers.f k ((rd_T28 x14 x16).f0) ((rd_T28 x14 x16).f1) ((rd_T28 x14 x16).f2) ((rd_T28 x14 x16).f3) ((rd_T28 x14 x16).f4) x1).bind fun t272 => (if t272 = true then (impl_MayTurn.j1 k x1 x2 x3 x9 x10 x14 x15 x16 false ((rd_T28 x14 x16).f0) ((rd_T28 x14 x16).f1) ((rd_T28 x14 x16).f2) ((rd_T28 x14 x16).f3) ((rd_T28 x14 x16).f4)) else (if x2 = true then ((impl_Under.f k ((rd_T28 x14 x16).f1) x1).bind fun t273 => (impl_MayTurn.j1 k x1 x2 x3 x9 x10 x14 x15 x16 (!t273) ((rd_T28 x14 x16).f0) ((rd_T28 x14 x16).f1) ((rd_T28 x14 x16).f2) ((rd_T28 x14 x16).f3) ((rd_T28 x14 x16).f4))) else (impl_MayTurn.j1 k x1 x2 x3 x9 x10 x14 x15 x16 (!false) ((rd_T28 x14 x16).f0) ((rd_T28 x14 x16).f1) ((rd_T28 x14 x16).f2) ((rd_T28 x14 x16).f3) ((rd_T28 x14 x16).f4))))) else (none)) else (none)) else (if x9 = true then (some x10) else (some true))
def impl_MayTurn.j1 : Nat → List ByteArray → Bool → List Int → Bool → Bool → List (S28) → Int → Int → Bool → Int → List ByteArray → Bool → Bool → Int → Option (Bool)
 | 0, _, _, _, _, _, _, _, _, _, _, _, _, _, _ => none
 | k + 1, x1, x2, x3, x9, x10, x14, x15, x16, x33, x272000, x272001, x272002, x272003, x272004 => if x33 = true then (impl_MayTurn.l0 k x1 x2 x3 x9 x10 x14 x15 (wrap64 (x16 + 1))) else ((impl_hasInt.f k x3 x272000).bind fun t274 => (if x272003 = true then (if x9 = true then (if x10 = true then (impl_MayTurn.l0 k x1 x2 x3 true true x14 x15 (wrap64 (x16 + 1))) else (impl_MayTurn.l0 k x1 x2 x3 true t274 x14 x15 (wrap64 (x16 + 1)))) else (if x10 = true then (impl_MayTurn.l0 k x1 x2 x3 x272003 true x14 x15 (wrap64 (x16 + 1))) else (impl_MayTurn.l0 k x1 x2 x3 x272003 t274 x14 x15 (wrap64 (x16 + 1))))) else (if t274 = true then (if x9 = true then (if x10 = true then (impl_MayTurn.l0 k x1 x2 x3 true true x14 x15 (wrap64 (x16 + 1))) else (impl_MayTurn.l0 k x1 x2 x3 true false x14 x15 (wrap64 (x16 + 1)))) else (if x10 = true then (impl_MayTurn.l0 k x1 x2 x3 x272003 true x14 x15 (wrap64 (x16 + 1))) else (impl_MayTurn.l0 k x1 x2 x3 x272003 false x14 x15 (wrap64 (x16 + 1))))) else (some false))))
end
def impl_MayTurn.f (k : Nat) (l0 : List (S28)) (l1 : List ByteArray) (a2 : Bool) (l3 : List Int) : Option (Bool) := impl_MayTurn.l0 k l1 a2 l3 false false l0 (l0.length : Int) 0
set_option maxHeartbeats 8000000 in
set_option maxRecDepth 100000 in
theorem impl_MayTurn.calls (k : Nat) (A0 : Option Addr) (c0 : Nat) (l0 : List (S28)) (A1 : Option Addr) (c1 : Nat) (l1 : List ByteArray) (a2 : Bool) (A3 : Option Addr) (c3 : Nat) (l3 : List Int) (r : Bool) (w : World) (hr0 : Kd.C k28 w A0 l0.length l0) (hc0 : l0.length ≤ c0) (hr1 : Kd.C Kd.string w A1 l1.length l1) (hc1 : l1.length ≤ c1) (hr3 : Kd.C (Kd.int .i64) w A3 l3.length l3) (hc3 : l3.length ≤ c3) (h : impl_MayTurn.f k l0 l1 a2 l3 = some r) :
 Calls Try.prog 29 #[.slice A0 l0.length c0, .slice A1 l1.length c1, .bool a2, .slice A3 l3.length c3] w fun e w' => e = .returned (.bool r) ∧ Below w.heap.size w w' := by
 have hu28 := Try.underlying28
 have HR0 := Aside0.mk hr0
 have HC0 := Aside0.mk hc0
 clear hr0 hc0
 have HR1 := Aside0.mk hr1
 have HC1 := Aside0.mk hc1
 clear hr1 hc1
 have HR3 := Aside0.mk hr3
 have HC3 := Aside0.mk hc3
 clear hr3 hc3
 have HB := A_ (Below.refl w.heap.size w)
 have H : (impl_MayTurn.l0 k l1 a2 l3 false false l0 (l0.length : Int) 0) = some r := h
 clear h
 have H' := Aside0.mk H
 clear H
 go_enter Try.func29, Try.ntmps29
 go_wp2
 go_loopg [9, 10, 16] k (fun kq v9 v10 v16 w' => ∃ (x9_1 : Bool) (x10_1 : Bool) (x16_1 : Int), v9 = .bool x9_1 ∧ v10 = .bool x10_1 ∧ v16 = .int .i64 x16_1 ∧ Aside0 (impl_MayTurn.l0 kq l1 a2 l3 x9_1 x10_1 l0 (l0.length : Int) x16_1 = some r) ∧ Aside0 (kq ≤ k) ∧ Aside0 (Below w.heap.size w w'))
 case atStart => exact ⟨(false), (false), (0), rs_, rs_, rs_, H', ⟨Nat.le_refl _⟩, ⟨bB_⟩⟩
 case round =>
  clear H'
  try clear c1
  try clear c2
  try clear p2
  try clear c3
  obtain ⟨x9_1, x10_1, x16_1, rfl, rfl, rfl, HA, HK1, HB⟩ := hrel
  cases gk with
  | zero => exact absurd HA.out (by simp [impl_MayTurn.l0])
  | succ k1 =>
   have H := HA.out
   clear HA
   simp only [impl_MayTurn.l0] at H
   by_cases c5 : x16_1 < (l0.length : Int)
   rotate_left
   · rw [if_neg c5] at H
     have c5b0 : decide (x16_1 < (l0.length : Int)) = false := decide_eq_false c5
     clear c5
     by_cases c41 : x9_1 = true
     · subst c41
       rw [if_pos rfl] at H
       obtain rfl := Option.some.inj H
       go_wp2
       go_ret
       exact ⟨rr_, bB_⟩
     · replace c41 := Bool.eq_false_iff.mpr c41
       subst c41
       rw [if_neg nf_] at H
       obtain rfl := Option.some.inj H
       go_wp2
       go_ret
       exact ⟨rr_, bB_⟩
   rw [if_pos c5] at H
   have c5b0 : decide (x16_1 < (l0.length : Int)) = true := decide_eq_true c5
   clear c5
   by_cases c6 : 0 ≤ x16_1
   rotate_left
   · exact absurd H (by rw [if_neg c6]; simp)
   rw [if_pos c6] at H
   have c6b0 : decide (0 ≤ x16_1) = true := decide_eq_true c6
   clear c6
   by_cases c7 : x16_1 < (l0.length : Int)
   rotate_left
   · exact absurd H (by rw [if_neg c7]; simp)
   rw [if_pos c7] at H
   have c7b0 : decide (x16_1 < (l0.length : Int)) = true := decide_eq_true c7
   clear c7
   have HC8 := Aside0.mk H
   clear H
   have p270 : 0 ≤ (x16_1 : Int) := of_decide_eq_true as_
   have q270 : x16_1 < (l0.length : Int) := of_decide_eq_true as_
   obtain ⟨ad270, A270_1, c270_1, e270, hx270_0, hx270_1, hx270_2, hx270_3, hx270_4, hl270_1, hi270_1⟩ := at_T28 HR0.out x16_1 p270 q270
   cases e270
   replace hx270_0 := bc_ HB.out hx270_0
   replace hx270_1 := bc_ HB.out hx270_1
   replace hx270_2 := bc_ HB.out hx270_2
   replace hx270_3 := bc_ HB.out hx270_3
   replace hx270_4 := bc_ HB.out hx270_4
   have HR270_1 := Aside0.mk hi270_1
   have HC270_1 := Aside0.mk hl270_1
   clear hi270_1 hl270_1
   replace p270 := eq_true p270
   replace q270 := eq_true q270
   go_upto_region 5 with (first | ((with_reducible refine gate_dst (N := 12) rfl ?_); refine bx_ (N := 12) (cs := #[.int .i64 0, .slice none 0 0, .bool false, .bool false, .int .i64 0]) (t := 28) ?_; intro gb271 hg w9 hbox hb; have BK271 := A_ (hbox); have GW271 := A_ (ge_ hg bB_ : w.heap.size ≤ gb271); have GE271 := A_ (ge_ hg bB_ : w.heap.size ≤ gb271); replace HB := A_ (below_step bB_ hb); clear hb hbox hg; obtain ⟨hcz10_0, hcz10_1, hcz10_2, hcz10_3, hcz10_4, hfz10_0, hfz10_1, hfz10_2, hfz10_3, hfz10_4⟩ := cz5_ BK271.out))
   (try simp only [Act.put, List.setIfInBounds_toArray, List.set_cons_zero, List.set_cons_succ])
   go_cut [33] (fun v33 wc => ∃ (kq : Nat) (x33_7 : Bool), v33 = .bool x33_7 ∧ Aside0 (impl_MayTurn.j1 kq l1 a2 l3 x9_1 x10_1 l0 (l0.length : Int) x16_1 x33_7 ((rd_T28 l0 x16_1).f0) ((rd_T28 l0 x16_1).f1) ((rd_T28 l0 x16_1).f2) ((rd_T28 l0 x16_1).f3) ((rd_T28 l0 x16_1).f4) = some r) ∧ Aside0 (kq ≤ k1) ∧ Aside0 (wc.heap[gb271]? = some (.cells #[.int .i64 ((rd_T28 l0 x16_1).f0), (.slice A270_1 ((rd_T28 l0 x16_1).f1).length c270_1), .bool ((rd_T28 l0 x16_1).f2), .bool ((rd_T28 l0 x16_1).f3), .int .i64 ((rd_T28 l0 x16_1).f4)] 28 (0, 0))) ∧ Aside0 (Below w.heap.size w wc))
   case first =>
    have H := HC8.out
    clear HC8
    obtain ⟨t272, A11, H⟩ := bo_ H
    (try dsimp only at H)
    by_cases c12 : t272 = true
    · subst c12
      rw [if_pos rfl] at H
      have H' := Aside0.mk H
      clear H
      obtain ⟨hcz13_0, hcz13_1, hcz13_2, hcz13_3, hcz13_4, hfz13_0, hfz13_1, hfz13_2, hfz13_3, hfz13_4⟩ := cz5_ BK271.out
      go_wp2_with (first | ((with_reducible refine gate_callee (f := 20) rfl ?_); refine gL_ (some 22) Try.func20 #[.agg #[.int .i64 ((rd_T28 l0 x16_1).f0), .slice A270_1 ((rd_T28 l0 x16_1).f1).length c270_1, .bool ((rd_T28 l0 x16_1).f2), .bool ((rd_T28 l0 x16_1).f3), .int .i64 ((rd_T28 l0 x16_1).f4)], .slice A1 l1.length c1] ?_; (with_reducible refine (impl_Covers.calls k1 ((rd_T28 l0 x16_1).f0) _ _ ((rd_T28 l0 x16_1).f1) ((rd_T28 l0 x16_1).f2) ((rd_T28 l0 x16_1).f3) ((rd_T28 l0 x16_1).f4) _ _ l1 true _ ?s1 ?s2 ?s3 ?s4 A11.out).mono ?_); (case s1 => exact Kd.C_below HR270_1.out (bG_ GE271.out)); (case s2 => exact HC270_1.out); (case s3 => exact Kd.C_below HR1.out (bG_ GE271.out)); (case s4 => exact HC1.out); rintro e w14 ⟨rfl, hb⟩; refine ⟨_, rfl, ?_⟩; replace BK271 := A_ (blk_below (g := gb271) (o := .cells #[.int .i64 ((rd_T28 l0 x16_1).f0), .slice A270_1 ((rd_T28 l0 x16_1).f1).length c270_1, .bool ((rd_T28 l0 x16_1).f2), .bool ((rd_T28 l0 x16_1).f3), .int .i64 ((rd_T28 l0 x16_1).f4)] 28 (0, 0)) (by (with_reducible repeat (first | refine blk_drewN ?_ _ | refine blk_drew ?_ | refine blk_alloc ?_ _)); refine blk_put (cs := #[.int .i64 ((rd_T28 l0 x16_1).f0), .slice A270_1 ((rd_T28 l0 x16_1).f1).length c270_1, .bool ((rd_T28 l0 x16_1).f2), .bool ((rd_T28 l0 x16_1).f3), .int .i64 0]) ?_ 4 _ rfl; (with_reducible repeat (first | refine blk_drewN ?_ _ | refine blk_drew ?_ | refine blk_alloc ?_ _)); refine blk_put (cs := #[.int .i64 ((rd_T28 l0 x16_1).f0), .slice A270_1 ((rd_T28 l0 x16_1).f1).length c270_1, .bool ((rd_T28 l0 x16_1).f2), .bool false, .int .i64 0]) ?_ 3 _ rfl; (with_reducible repeat (first | refine blk_drewN ?_ _ | refine blk_drew ?_ | refine blk_alloc ?_ _)); refine blk_put (cs := #[.int .i64 ((rd_T28 l0 x16_1).f0), .slice A270_1 ((rd_T28 l0 x16_1).f1).length c270_1, .bool false, .bool false, .int .i64 0]) ?_ 2 _ rfl; (with_reducible repeat (first | refine blk_drewN ?_ _ | refine blk_drew ?_ | refine blk_alloc ?_ _)); refine blk_put (cs := #[.int .i64 ((rd_T28 l0 x16_1).f0), .slice none 0 0, .bool false, .bool false, .int .i64 0]) ?_ 1 _ rfl; (with_reducible repeat (first | refine blk_drewN ?_ _ | refine blk_drew ?_ | refine blk_alloc ?_ _)); refine blk_put (cs := #[.int .i64 0, .slice none 0 0, .bool false, .bool false, .int .i64 0]) ?_ 0 _ rfl; (with_reducible repeat (first | refine blk_drewN ?_ _ | refine blk_drew ?_ | refine blk_alloc ?_ _)); exact BK271.out) hb); replace HB := A_ (below_step (bG_ GE271.out) hb); (try clear hb)))
      go_meet
      case rel => exact ⟨_, (false), rs_, H', ⟨by have := HK1.out; first | omega | exact Nat.le_refl _⟩, ⟨vb_ BK271.out⟩, ⟨bG_ GE271.out⟩⟩
    · replace c12 := Bool.eq_false_iff.mpr c12
      subst c12
      rw [if_neg nf_] at H
      by_cases c15 : a2 = true
      · subst c15
        rw [if_pos rfl] at H
        obtain ⟨t273, A16, H⟩ := bo_ H
        (try dsimp only at H)
        have H' := Aside0.mk H
        clear H
        obtain ⟨hcz17_0, hcz17_1, hcz17_2, hcz17_3, hcz17_4, hfz17_0, hfz17_1, hfz17_2, hfz17_3, hfz17_4⟩ := cz5_ BK271.out
        go_wp2_with (first | ((with_reducible refine gate_callee (f := 20) rfl ?_); refine gL_ (some 22) Try.func20 #[.agg #[.int .i64 ((rd_T28 l0 x16_1).f0), .slice A270_1 ((rd_T28 l0 x16_1).f1).length c270_1, .bool ((rd_T28 l0 x16_1).f2), .bool ((rd_T28 l0 x16_1).f3), .int .i64 ((rd_T28 l0 x16_1).f4)], .slice A1 l1.length c1] ?_; (with_reducible refine (impl_Covers.calls k1 ((rd_T28 l0 x16_1).f0) _ _ ((rd_T28 l0 x16_1).f1) ((rd_T28 l0 x16_1).f2) ((rd_T28 l0 x16_1).f3) ((rd_T28 l0 x16_1).f4) _ _ l1 false _ ?s1 ?s2 ?s3 ?s4 A11.out).mono ?_); (case s1 => exact Kd.C_below HR270_1.out (bG_ GE271.out)); (case s2 => exact HC270_1.out); (case s3 => exact Kd.C_below HR1.out (bG_ GE271.out)); (case s4 => exact HC1.out); rintro e w18 ⟨rfl, hb⟩; refine ⟨_, rfl, ?_⟩; replace BK271 := A_ (blk_below (g := gb271) (o := .cells #[.int .i64 ((rd_T28 l0 x16_1).f0), .slice A270_1 ((rd_T28 l0 x16_1).f1).length c270_1, .bool ((rd_T28 l0 x16_1).f2), .bool ((rd_T28 l0 x16_1).f3), .int .i64 ((rd_T28 l0 x16_1).f4)] 28 (0, 0)) (by (with_reducible repeat (first | refine blk_drewN ?_ _ | refine blk_drew ?_ | refine blk_alloc ?_ _)); refine blk_put (cs := #[.int .i64 ((rd_T28 l0 x16_1).f0), .slice A270_1 ((rd_T28 l0 x16_1).f1).length c270_1, .bool ((rd_T28 l0 x16_1).f2), .bool ((rd_T28 l0 x16_1).f3), .int .i64 0]) ?_ 4 _ rfl; (with_reducible repeat (first | refine blk_drewN ?_ _ | refine blk_drew ?_ | refine blk_alloc ?_ _)); refine blk_put (cs := #[.int .i64 ((rd_T28 l0 x16_1).f0), .slice A270_1 ((rd_T28 l0 x16_1).f1).length c270_1, .bool ((rd_T28 l0 x16_1).f2), .bool false, .int .i64 0]) ?_ 3 _ rfl; (with_reducible repeat (first | refine blk_drewN ?_ _ | refine blk_drew ?_ | refine blk_alloc ?_ _)); refine blk_put (cs := #[.int .i64 ((rd_T28 l0 x16_1).f0), .slice A270_1 ((rd_T28 l0 x16_1).f1).length c270_1, .bool false, .bool false, .int .i64 0]) ?_ 2 _ rfl; (with_reducible repeat (first | refine blk_drewN ?_ _ | refine blk_drew ?_ | refine blk_alloc ?_ _)); refine blk_put (cs := #[.int .i64 ((rd_T28 l0 x16_1).f0), .slice none 0 0, .bool false, .bool false, .int .i64 0]) ?_ 1 _ rfl; (with_reducible repeat (first | refine blk_drewN ?_ _ | refine blk_drew ?_ | refine blk_alloc ?_ _)); refine blk_put (cs := #[.int .i64 0, .slice none 0 0, .bool false, .bool false, .int .i64 0]) ?_ 0 _ rfl; (with_reducible repeat (first | refine blk_drewN ?_ _ | refine blk_drew ?_ | refine blk_alloc ?_ _)); exact BK271.out) hb); replace HB := A_ (below_step (bG_ GE271.out) hb); (try clear hb); obtain ⟨hcz19_0, hcz19_1, hcz19_2, hcz19_3, hcz19_4, hfz19_0, hfz19_1, hfz19_2, hfz19_3, hfz19_4⟩ := cz5_ BK271.out) | (go_at_call 65; (with_reducible refine (impl_Under.calls k1 _ _ ((rd_T28 l0 x16_1).f1) _ _ l1 t273 _ ?s1 ?s2 ?s3 ?s4 A16.out).mono ?_); (case s1 => exact cC_ (Kd.C_below HR270_1.out HB.out)); (case s2 => exact HC270_1.out); (case s3 => exact cC_ (Kd.C_below HR1.out HB.out)); (case s4 => exact HC1.out); rintro e w' ⟨rfl, ⟨nd, rfl⟩⟩))
        go_meet
        case rel => exact ⟨_, (!t273), rs_, H', ⟨by have := HK1.out; first | omega | exact Nat.le_refl _⟩, ⟨vb_ BK271.out⟩, ⟨bG_ GE271.out⟩⟩
      · replace c15 := Bool.eq_false_iff.mpr c15
        subst c15
        rw [if_neg nf_] at H
        have H' := Aside0.mk H
        clear H
        obtain ⟨hcz20_0, hcz20_1, hcz20_2, hcz20_3, hcz20_4, hfz20_0, hfz20_1, hfz20_2, hfz20_3, hfz20_4⟩ := cz5_ BK271.out
        go_wp2_with (first | ((with_reducible refine gate_callee (f := 20) rfl ?_); refine gL_ (some 22) Try.func20 #[.agg #[.int .i64 ((rd_T28 l0 x16_1).f0), .slice A270_1 ((rd_T28 l0 x16_1).f1).length c270_1, .bool ((rd_T28 l0 x16_1).f2), .bool ((rd_T28 l0 x16_1).f3), .int .i64 ((rd_T28 l0 x16_1).f4)], .slice A1 l1.length c1] ?_; (with_reducible refine (impl_Covers.calls k1 ((rd_T28 l0 x16_1).f0) _ _ ((rd_T28 l0 x16_1).f1) ((rd_T28 l0 x16_1).f2) ((rd_T28 l0 x16_1).f3) ((rd_T28 l0 x16_1).f4) _ _ l1 false _ ?s1 ?s2 ?s3 ?s4 A11.out).mono ?_); (case s1 => exact Kd.C_below HR270_1.out (bG_ GE271.out)); (case s2 => exact HC270_1.out); (case s3 => exact Kd.C_below HR1.out (bG_ GE271.out)); (case s4 => exact HC1.out); rintro e w21 ⟨rfl, hb⟩; refine ⟨_, rfl, ?_⟩; replace BK271 := A_ (blk_below (g := gb271) (o := .cells #[.int .i64 ((rd_T28 l0 x16_1).f0), .slice A270_1 ((rd_T28 l0 x16_1).f1).length c270_1, .bool ((rd_T28 l0 x16_1).f2), .bool ((rd_T28 l0 x16_1).f3), .int .i64 ((rd_T28 l0 x16_1).f4)] 28 (0, 0)) (by (with_reducible repeat (first | refine blk_drewN ?_ _ | refine blk_drew ?_ | refine blk_alloc ?_ _)); refine blk_put (cs := #[.int .i64 ((rd_T28 l0 x16_1).f0), .slice A270_1 ((rd_T28 l0 x16_1).f1).length c270_1, .bool ((rd_T28 l0 x16_1).f2), .bool ((rd_T28 l0 x16_1).f3), .int .i64 0]) ?_ 4 _ rfl; (with_reducible repeat (first | refine blk_drewN ?_ _ | refine blk_drew ?_ | refine blk_alloc ?_ _)); refine blk_put (cs := #[.int .i64 ((rd_T28 l0 x16_1).f0), .slice A270_1 ((rd_T28 l0 x16_1).f1).length c270_1, .bool ((rd_T28 l0 x16_1).f2), .bool false, .int .i64 0]) ?_ 3 _ rfl; (with_reducible repeat (first | refine blk_drewN ?_ _ | refine blk_drew ?_ | refine blk_alloc ?_ _)); refine blk_put (cs := #[.int .i64 ((rd_T28 l0 x16_1).f0), .slice A270_1 ((rd_T28 l0 x16_1).f1).length c270_1, .bool false, .bool false, .int .i64 0]) ?_ 2 _ rfl; (with_reducible repeat (first | refine blk_drewN ?_ _ | refine blk_drew ?_ | refine blk_alloc ?_ _)); refine blk_put (cs := #[.int .i64 ((rd_T28 l0 x16_1).f0), .slice none 0 0, .bool false, .bool false, .int .i64 0]) ?_ 1 _ rfl; (with_reducible repeat (first | refine blk_drewN ?_ _ | refine blk_drew ?_ | refine blk_alloc ?_ _)); refine blk_put (cs := #[.int .i64 0, .slice none 0 0, .bool false, .bool false, .int .i64 0]) ?_ 0 _ rfl; (with_reducible repeat (first | refine blk_drewN ?_ _ | refine blk_drew ?_ | refine blk_alloc ?_ _)); exact BK271.out) hb); replace HB := A_ (below_step (bG_ GE271.out) hb); (try clear hb)))
        go_meet
        case rel => exact ⟨_, (!false), rs_, H', ⟨by have := HK1.out; first | omega | exact Nat.le_refl _⟩, ⟨vb_ BK271.out⟩, ⟨bG_ GE271.out⟩⟩
   case rest =>
    clear HC8
    try clear c1
    try clear c2
    try clear p2
    try clear q2
    try clear hx2
    try clear c3
    try clear c5
    try clear c5b0
    try clear c6
    try clear c6b0
    try clear c7
    try clear c7b0
    try clear c12
    try clear c15
    try clear c20
    try clear hcz10_0
    try clear hcz10_1
    try clear hcz10_2
    try clear hcz10_3
    try clear hcz10_4
    try clear hcz13_0
    try clear hcz13_1
    try clear hcz13_2
    try clear hcz13_3
    try clear hcz13_4
    try clear hcz17_0
    try clear hcz17_1
    try clear hcz17_2
    try clear hcz17_3
    try clear hcz17_4
    try clear hcz19_0
    try clear hcz19_1
    try clear hcz19_2
    try clear hcz19_3
    try clear hcz19_4
    try clear hcz20_0
    try clear hcz20_1
    try clear hcz20_2
    try clear hcz20_3
    try clear hcz20_4
    try clear hfz10_0
    try clear hfz10_1
    try clear hfz10_2
    try clear hfz10_3
    try clear hfz10_4
    try clear hfz13_0
    try clear hfz13_1
    try clear hfz13_2
    try clear hfz13_3
    try clear hfz13_4
    try clear hfz17_0
    try clear hfz17_1
    try clear hfz17_2
    try clear hfz17_3
    try clear hfz17_4
    try clear hfz19_0
    try clear hfz19_1
    try clear hfz19_2
    try clear hfz19_3
    try clear hfz19_4
    try clear hfz20_0
    try clear hfz20_1
    try clear hfz20_2
    try clear hfz20_3
    try clear hfz20_4
    try clear hx270_0
    try clear hx270_1
    try clear hx270_2
    try clear hx270_3
    try clear hx270_4
    try clear p2
    try clear p270
    try clear q270
    obtain ⟨kq, x33_7, rfl, HA, HJ7, BK271, HB⟩ := hcut
    cases kq with
    | zero => exact absurd HA.out (by simp [impl_MayTurn.j1])
    | succ kj7 =>
     have H := HA.out
     clear HA
     simp only [impl_MayTurn.j1] at H
     by_cases c22 : x33_7 = true
     · subst c22
       rw [if_pos rfl] at H
       have H' := Aside0.mk H
       clear H
       go_wp2
       go_roundg kj7
       case measure => have := HK1.out; have := HJ7.out; omega
       case rel => exact ⟨(x9_1), (x10_1), (wrap64 (x16_1 + 1)), rs_, rs_, rs_, H', ⟨by have := HK1.out; have := HJ7.out; omega⟩, ⟨bG_ GE271.out⟩⟩
     · replace c22 := Bool.eq_false_iff.mpr c22
       subst c22
       rw [if_neg nf_] at H
       obtain ⟨t274, A23, H⟩ := bo_ H
       (try dsimp only at H)
       by_cases c24 : ((rd_T28 l0 x16_1).f3) = true
       · rw [if_pos c24] at H
         have c24b0 : ((rd_T28 l0 x16_1).f3) = true := c24
         clear c24
         by_cases c25 : x9_1 = true
         · subst c25
           rw [if_pos rfl] at H
           by_cases c26 : x10_1 = true
           · subst c26
             rw [if_pos rfl] at H
             have H' := Aside0.mk H
             clear H
             have hcz27_0 : wc.cell? ⟨gb271, 0, none⟩ = some (.int .i64 ((rd_T28 l0 x16_1).f0)) := (blk_cell BK271.out 0).trans rfl
             have hcz27_1 : wc.cell? ⟨gb271, 1, none⟩ = some (.slice A270_1 ((rd_T28 l0 x16_1).f1).length c270_1) := (blk_cell BK271.out 1).trans rfl
             have hcz27_2 : wc.cell? ⟨gb271, 2, none⟩ = some (.bool ((rd_T28 l0 x16_1).f2)) := (blk_cell BK271.out 2).trans rfl
             have hcz27_3 : wc.cell? ⟨gb271, 3, none⟩ = some (.bool ((rd_T28 l0 x16_1).f3)) := (blk_cell BK271.out 3).trans rfl
             have hcz27_4 : wc.cell? ⟨gb271, 4, none⟩ = some (.int .i64 ((rd_T28 l0 x16_1).f4)) := (blk_cell BK271.out 4).trans rfl
             have hfz27_0 := blk_frozen BK271.out 0
             have hfz27_1 := blk_frozen BK271.out 1
             have hfz27_2 := blk_frozen BK271.out 2
             have hfz27_3 := blk_frozen BK271.out 3
             have hfz27_4 := blk_frozen BK271.out 4
             go_wp2_with (first | ((with_reducible refine gate_callee (f := 67) rfl ?_); refine gL_ (some 37) Try.func67 #[.slice A3 l3.length c3, .int .i64 ((rd_T28 l0 x16_1).f0)] ?_; (with_reducible refine (impl_hasInt.calls kj7 _ _ l3 ((rd_T28 l0 x16_1).f0) t274 _ ?s1 ?s2 A23.out).mono ?_); (case s1 => exact cC_ (Kd.C_below HR3.out HB.out)); (case s2 => exact HC3.out); rintro e w' ⟨rfl, ⟨nd, rfl⟩⟩; refine ⟨_, rfl, ?_⟩))
             go_roundg kj7
             case measure => have := HK1.out; have := HJ7.out; omega
             case rel => exact ⟨(true), (true), (wrap64 (x16_1 + 1)), rs_, rs_, rs_, H', ⟨by have := HK1.out; have := HJ7.out; omega⟩, ⟨bG_ GE271.out⟩⟩
           · replace c26 := Bool.eq_false_iff.mpr c26
             subst c26
             rw [if_neg nf_] at H
             have H' := Aside0.mk H
             clear H
             have hcz28_0 : wc.cell? ⟨gb271, 0, none⟩ = some (.int .i64 ((rd_T28 l0 x16_1).f0)) := (blk_cell BK271.out 0).trans rfl
             have hcz28_1 : wc.cell? ⟨gb271, 1, none⟩ = some (.slice A270_1 ((rd_T28 l0 x16_1).f1).length c270_1) := (blk_cell BK271.out 1).trans rfl
             have hcz28_2 : wc.cell? ⟨gb271, 2, none⟩ = some (.bool ((rd_T28 l0 x16_1).f2)) := (blk_cell BK271.out 2).trans rfl
             have hcz28_3 : wc.cell? ⟨gb271, 3, none⟩ = some (.bool ((rd_T28 l0 x16_1).f3)) := (blk_cell BK271.out 3).trans rfl
             have hcz28_4 : wc.cell? ⟨gb271, 4, none⟩ = some (.int .i64 ((rd_T28 l0 x16_1).f4)) := (blk_cell BK271.out 4).trans rfl
             have hfz28_0 := blk_frozen BK271.out 0
             have hfz28_1 := blk_frozen BK271.out 1
             have hfz28_2 := blk_frozen BK271.out 2
             have hfz28_3 := blk_frozen BK271.out 3
             have hfz28_4 := blk_frozen BK271.out 4
             go_wp2_with (first | ((with_reducible refine gate_callee (f := 67) rfl ?_); refine gL_ (some 37) Try.func67 #[.slice A3 l3.length c3, .int .i64 ((rd_T28 l0 x16_1).f0)] ?_; (with_reducible refine (impl_hasInt.calls kj7 _ _ l3 ((rd_T28 l0 x16_1).f0) t274 _ ?s1 ?s2 A23.out).mono ?_); (case s1 => exact cC_ (Kd.C_below HR3.out HB.out)); (case s2 => exact HC3.out); rintro e w' ⟨rfl, ⟨nd, rfl⟩⟩; refine ⟨_, rfl, ?_⟩))
             go_roundg kj7
             case measure => have := HK1.out; have := HJ7.out; omega
             case rel => exact ⟨(true), (t274), (wrap64 (x16_1 + 1)), rs_, rs_, rs_, H', ⟨by have := HK1.out; have := HJ7.out; omega⟩, ⟨bG_ GE271.out⟩⟩
         · replace c25 := Bool.eq_false_iff.mpr c25
           subst c25
           rw [if_neg nf_] at H
           by_cases c29 : x10_1 = true
           · subst c29
             rw [if_pos rfl] at H
             have H' := Aside0.mk H
             clear H
             have hcz30_0 : wc.cell? ⟨gb271, 0, none⟩ = some (.int .i64 ((rd_T28 l0 x16_1).f0)) := (blk_cell BK271.out 0).trans rfl
             have hcz30_1 : wc.cell? ⟨gb271, 1, none⟩ = some (.slice A270_1 ((rd_T28 l0 x16_1).f1).length c270_1) := (blk_cell BK271.out 1).trans rfl
             have hcz30_2 : wc.cell? ⟨gb271, 2, none⟩ = some (.bool ((rd_T28 l0 x16_1).f2)) := (blk_cell BK271.out 2).trans rfl
             have hcz30_3 : wc.cell? ⟨gb271, 3, none⟩ = some (.bool ((rd_T28 l0 x16_1).f3)) := (blk_cell BK271.out 3).trans rfl
             have hcz30_4 : wc.cell? ⟨gb271, 4, none⟩ = some (.int .i64 ((rd_T28 l0 x16_1).f4)) := (blk_cell BK271.out 4).trans rfl
             have hfz30_0 := blk_frozen BK271.out 0
             have hfz30_1 := blk_frozen BK271.out 1
             have hfz30_2 := blk_frozen BK271.out 2
             have hfz30_3 := blk_frozen BK271.out 3
             have hfz30_4 := blk_frozen BK271.out 4
             go_wp2_with (first | ((with_reducible refine gate_callee (f := 67) rfl ?_); refine gL_ (some 37) Try.func67 #[.slice A3 l3.length c3, .int .i64 ((rd_T28 l0 x16_1).f0)] ?_; (with_reducible refine (impl_hasInt.calls kj7 _ _ l3 ((rd_T28 l0 x16_1).f0) t274 _ ?s1 ?s2 A23.out).mono ?_); (case s1 => exact cC_ (Kd.C_below HR3.out HB.out)); (case s2 => exact HC3.out); rintro e w' ⟨rfl, ⟨nd, rfl⟩⟩; refine ⟨_, rfl, ?_⟩))
             go_roundg kj7
             case measure => have := HK1.out; have := HJ7.out; omega
             case rel => exact ⟨(((rd_T28 l0 x16_1).f3)), (true), (wrap64 (x16_1 + 1)), rs_, rs_, rs_, H', ⟨by have := HK1.out; have := HJ7.out; omega⟩, ⟨bG_ GE271.out⟩⟩
           · replace c29 := Bool.eq_false_iff.mpr c29
             subst c29
             rw [if_neg nf_] at H
             have H' := Aside0.mk H
             clear H
             have hcz31_0 : wc.cell? ⟨gb271, 0, none⟩ = some (.int .i64 ((rd_T28 l0 x16_1).f0)) := (blk_cell BK271.out 0).trans rfl
             have hcz31_1 : wc.cell? ⟨gb271, 1, none⟩ = some (.slice A270_1 ((rd_T28 l0 x16_1).f1).length c270_1) := (blk_cell BK271.out 1).trans rfl
             have hcz31_2 : wc.cell? ⟨gb271, 2, none⟩ = some (.bool ((rd_T28 l0 x16_1).f2)) := (blk_cell BK271.out 2).trans rfl
             have hcz31_3 : wc.cell? ⟨gb271, 3, none⟩ = some (.bool ((rd_T28 l0 x16_1).f3)) := (blk_cell BK271.out 3).trans rfl
             have hcz31_4 : wc.cell? ⟨gb271, 4, none⟩ = some (.int .i64 ((rd_T28 l0 x16_1).f4)) := (blk_cell BK271.out 4).trans rfl
             have hfz31_0 := blk_frozen BK271.out 0
             have hfz31_1 := blk_frozen BK271.out 1
             have hfz31_2 := blk_frozen BK271.out 2
             have hfz31_3 := blk_frozen BK271.out 3
             have hfz31_4 := blk_frozen BK271.out 4
             go_wp2_with (first | ((with_reducible refine gate_callee (f := 67) rfl ?_); refine gL_ (some 37) Try.func67 #[.slice A3 l3.length c3, .int .i64 ((rd_T28 l0 x16_1).f0)] ?_; (with_reducible refine (impl_hasInt.calls kj7 _ _ l3 ((rd_T28 l0 x16_1).f0) t274 _ ?s1 ?s2 A23.out).mono ?_); (case s1 => exact cC_ (Kd.C_below HR3.out HB.out)); (case s2 => exact HC3.out); rintro e w' ⟨rfl, ⟨nd, rfl⟩⟩; refine ⟨_, rfl, ?_⟩))
             go_roundg kj7
             case measure => have := HK1.out; have := HJ7.out; omega
             case rel => exact ⟨(((rd_T28 l0 x16_1).f3)), (t274), (wrap64 (x16_1 + 1)), rs_, rs_, rs_, H', ⟨by have := HK1.out; have := HJ7.out; omega⟩, ⟨bG_ GE271.out⟩⟩
       rw [if_neg c24] at H
       have c24b0 : ((rd_T28 l0 x16_1).f3) = false := by simpa using c24
       clear c24
       by_cases c32 : t274 = true
       · subst c32
         rw [if_pos rfl] at H
         by_cases c33 : x9_1 = true
         · subst c33
           rw [if_pos rfl] at H
           by_cases c34 : x10_1 = true
           · subst c34
             rw [if_pos rfl] at H
             have H' := Aside0.mk H
             clear H
             have hcz35_0 : wc.cell? ⟨gb271, 0, none⟩ = some (.int .i64 ((rd_T28 l0 x16_1).f0)) := (blk_cell BK271.out 0).trans rfl
             have hcz35_1 : wc.cell? ⟨gb271, 1, none⟩ = some (.slice A270_1 ((rd_T28 l0 x16_1).f1).length c270_1) := (blk_cell BK271.out 1).trans rfl
             have hcz35_2 : wc.cell? ⟨gb271, 2, none⟩ = some (.bool ((rd_T28 l0 x16_1).f2)) := (blk_cell BK271.out 2).trans rfl
             have hcz35_3 : wc.cell? ⟨gb271, 3, none⟩ = some (.bool ((rd_T28 l0 x16_1).f3)) := (blk_cell BK271.out 3).trans rfl
             have hcz35_4 : wc.cell? ⟨gb271, 4, none⟩ = some (.int .i64 ((rd_T28 l0 x16_1).f4)) := (blk_cell BK271.out 4).trans rfl
             have hfz35_0 := blk_frozen BK271.out 0
             have hfz35_1 := blk_frozen BK271.out 1
             have hfz35_2 := blk_frozen BK271.out 2
             have hfz35_3 := blk_frozen BK271.out 3
             have hfz35_4 := blk_frozen BK271.out 4
             go_wp2_with (first | ((with_reducible refine gate_callee (f := 67) rfl ?_); refine gL_ (some 37) Try.func67 #[.slice A3 l3.length c3, .int .i64 ((rd_T28 l0 x16_1).f0)] ?_; (with_reducible refine (impl_hasInt.calls kj7 _ _ l3 ((rd_T28 l0 x16_1).f0) true _ ?s1 ?s2 A23.out).mono ?_); (case s1 => exact cC_ (Kd.C_below HR3.out HB.out)); (case s2 => exact HC3.out); rintro e w' ⟨rfl, ⟨nd, rfl⟩⟩; refine ⟨_, rfl, ?_⟩))
             go_roundg kj7
             case measure => have := HK1.out; have := HJ7.out; omega
             case rel => exact ⟨(true), (true), (wrap64 (x16_1 + 1)), rs_, rs_, rs_, H', ⟨by have := HK1.out; have := HJ7.out; omega⟩, ⟨bG_ GE271.out⟩⟩
           · replace c34 := Bool.eq_false_iff.mpr c34
             subst c34
             rw [if_neg nf_] at H
             have H' := Aside0.mk H
             clear H
             have hcz36_0 : wc.cell? ⟨gb271, 0, none⟩ = some (.int .i64 ((rd_T28 l0 x16_1).f0)) := (blk_cell BK271.out 0).trans rfl
             have hcz36_1 : wc.cell? ⟨gb271, 1, none⟩ = some (.slice A270_1 ((rd_T28 l0 x16_1).f1).length c270_1) := (blk_cell BK271.out 1).trans rfl
             have hcz36_2 : wc.cell? ⟨gb271, 2, none⟩ = some (.bool ((rd_T28 l0 x16_1).f2)) := (blk_cell BK271.out 2).trans rfl
             have hcz36_3 : wc.cell? ⟨gb271, 3, none⟩ = some (.bool ((rd_T28 l0 x16_1).f3)) := (blk_cell BK271.out 3).trans rfl
             have hcz36_4 : wc.cell? ⟨gb271, 4, none⟩ = some (.int .i64 ((rd_T28 l0 x16_1).f4)) := (blk_cell BK271.out 4).trans rfl
             have hfz36_0 := blk_frozen BK271.out 0
             have hfz36_1 := blk_frozen BK271.out 1
             have hfz36_2 := blk_frozen BK271.out 2
             have hfz36_3 := blk_frozen BK271.out 3
             have hfz36_4 := blk_frozen BK271.out 4
             go_wp2_with (first | ((with_reducible refine gate_callee (f := 67) rfl ?_); refine gL_ (some 37) Try.func67 #[.slice A3 l3.length c3, .int .i64 ((rd_T28 l0 x16_1).f0)] ?_; (with_reducible refine (impl_hasInt.calls kj7 _ _ l3 ((rd_T28 l0 x16_1).f0) true _ ?s1 ?s2 A23.out).mono ?_); (case s1 => exact cC_ (Kd.C_below HR3.out HB.out)); (case s2 => exact HC3.out); rintro e w' ⟨rfl, ⟨nd, rfl⟩⟩; refine ⟨_, rfl, ?_⟩))
             go_roundg kj7
             case measure => have := HK1.out; have := HJ7.out; omega
             case rel => exact ⟨(true), (false), (wrap64 (x16_1 + 1)), rs_, rs_, rs_, H', ⟨by have := HK1.out; have := HJ7.out; omega⟩, ⟨bG_ GE271.out⟩⟩
         · replace c33 := Bool.eq_false_iff.mpr c33
           subst c33
           rw [if_neg nf_] at H
           by_cases c37 : x10_1 = true
           · subst c37
             rw [if_pos rfl] at H
             have H' := Aside0.mk H
             clear H
             have hcz38_0 : wc.cell? ⟨gb271, 0, none⟩ = some (.int .i64 ((rd_T28 l0 x16_1).f0)) := (blk_cell BK271.out 0).trans rfl
             have hcz38_1 : wc.cell? ⟨gb271, 1, none⟩ = some (.slice A270_1 ((rd_T28 l0 x16_1).f1).length c270_1) := (blk_cell BK271.out 1).trans rfl
             have hcz38_2 : wc.cell? ⟨gb271, 2, none⟩ = some (.bool ((rd_T28 l0 x16_1).f2)) := (blk_cell BK271.out 2).trans rfl
             have hcz38_3 : wc.cell? ⟨gb271, 3, none⟩ = some (.bool ((rd_T28 l0 x16_1).f3)) := (blk_cell BK271.out 3).trans rfl
             have hcz38_4 : wc.cell? ⟨gb271, 4, none⟩ = some (.int .i64 ((rd_T28 l0 x16_1).f4)) := (blk_cell BK271.out 4).trans rfl
             have hfz38_0 := blk_frozen BK271.out 0
             have hfz38_1 := blk_frozen BK271.out 1
             have hfz38_2 := blk_frozen BK271.out 2
             have hfz38_3 := blk_frozen BK271.out 3
             have hfz38_4 := blk_frozen BK271.out 4
             go_wp2_with (first | ((with_reducible refine gate_callee (f := 67) rfl ?_); refine gL_ (some 37) Try.func67 #[.slice A3 l3.length c3, .int .i64 ((rd_T28 l0 x16_1).f0)] ?_; (with_reducible refine (impl_hasInt.calls kj7 _ _ l3 ((rd_T28 l0 x16_1).f0) true _ ?s1 ?s2 A23.out).mono ?_); (case s1 => exact cC_ (Kd.C_below HR3.out HB.out)); (case s2 => exact HC3.out); rintro e w' ⟨rfl, ⟨nd, rfl⟩⟩; refine ⟨_, rfl, ?_⟩))
             go_roundg kj7
             case measure => have := HK1.out; have := HJ7.out; omega
             case rel => exact ⟨(((rd_T28 l0 x16_1).f3)), (true), (wrap64 (x16_1 + 1)), rs_, rs_, rs_, H', ⟨by have := HK1.out; have := HJ7.out; omega⟩, ⟨bG_ GE271.out⟩⟩
           · replace c37 := Bool.eq_false_iff.mpr c37
             subst c37
             rw [if_neg nf_] at H
             have H' := Aside0.mk H
             clear H
             have hcz39_0 : wc.cell? ⟨gb271, 0, none⟩ = some (.int .i64 ((rd_T28 l0 x16_1).f0)) := (blk_cell BK271.out 0).trans rfl
             have hcz39_1 : wc.cell? ⟨gb271, 1, none⟩ = some (.slice A270_1 ((rd_T28 l0 x16_1).f1).length c270_1) := (blk_cell BK271.out 1).trans rfl
             have hcz39_2 : wc.cell? ⟨gb271, 2, none⟩ = some (.bool ((rd_T28 l0 x16_1).f2)) := (blk_cell BK271.out 2).trans rfl
             have hcz39_3 : wc.cell? ⟨gb271, 3, none⟩ = some (.bool ((rd_T28 l0 x16_1).f3)) := (blk_cell BK271.out 3).trans rfl
             have hcz39_4 : wc.cell? ⟨gb271, 4, none⟩ = some (.int .i64 ((rd_T28 l0 x16_1).f4)) := (blk_cell BK271.out 4).trans rfl
             have hfz39_0 := blk_frozen BK271.out 0
             have hfz39_1 := blk_frozen BK271.out 1
             have hfz39_2 := blk_frozen BK271.out 2
             have hfz39_3 := blk_frozen BK271.out 3
             have hfz39_4 := blk_frozen BK271.out 4
             go_wp2_with (first | ((with_reducible refine gate_callee (f := 67) rfl ?_); refine gL_ (some 37) Try.func67 #[.slice A3 l3.length c3, .int .i64 ((rd_T28 l0 x16_1).f0)] ?_; (with_reducible refine (impl_hasInt.calls kj7 _ _ l3 ((rd_T28 l0 x16_1).f0) true _ ?s1 ?s2 A23.out).mono ?_); (case s1 => exact cC_ (Kd.C_below HR3.out HB.out)); (case s2 => exact HC3.out); rintro e w' ⟨rfl, ⟨nd, rfl⟩⟩; refine ⟨_, rfl, ?_⟩))
             go_roundg kj7
             case measure => have := HK1.out; have := HJ7.out; omega
             case rel => exact ⟨(((rd_T28 l0 x16_1).f3)), (false), (wrap64 (x16_1 + 1)), rs_, rs_, rs_, H', ⟨by have := HK1.out; have := HJ7.out; omega⟩, ⟨bG_ GE271.out⟩⟩
       · replace c32 := Bool.eq_false_iff.mpr c32
         subst c32
         rw [if_neg nf_] at H
         obtain rfl := Option.some.inj H
         have hcz40_0 : wc.cell? ⟨gb271, 0, none⟩ = some (.int .i64 ((rd_T28 l0 x16_1).f0)) := (blk_cell BK271.out 0).trans rfl
         have hcz40_1 : wc.cell? ⟨gb271, 1, none⟩ = some (.slice A270_1 ((rd_T28 l0 x16_1).f1).length c270_1) := (blk_cell BK271.out 1).trans rfl
         have hcz40_2 : wc.cell? ⟨gb271, 2, none⟩ = some (.bool ((rd_T28 l0 x16_1).f2)) := (blk_cell BK271.out 2).trans rfl
         have hcz40_3 : wc.cell? ⟨gb271, 3, none⟩ = some (.bool ((rd_T28 l0 x16_1).f3)) := (blk_cell BK271.out 3).trans rfl
         have hcz40_4 : wc.cell? ⟨gb271, 4, none⟩ = some (.int .i64 ((rd_T28 l0 x16_1).f4)) := (blk_cell BK271.out 4).trans rfl
         have hfz40_0 := blk_frozen BK271.out 0
         have hfz40_1 := blk_frozen BK271.out 1
         have hfz40_2 := blk_frozen BK271.out 2
         have hfz40_3 := blk_frozen BK271.out 3
         have hfz40_4 := blk_frozen BK271.out 4
         go_wp2_with (first | ((with_reducible refine gate_callee (f := 67) rfl ?_); refine gL_ (some 37) Try.func67 #[.slice A3 l3.length c3, .int .i64 ((rd_T28 l0 x16_1).f0)] ?_; (with_reducible refine (impl_hasInt.calls kj7 _ _ l3 ((rd_T28 l0 x16_1).f0) false _ ?s1 ?s2 A23.out).mono ?_); (case s1 => exact cC_ (Kd.C_below HR3.out HB.out)); (case s2 => exact HC3.out); rintro e w' ⟨rfl, ⟨nd, rfl⟩⟩; refine ⟨_, rfl, ?_⟩))
         go_ret
         exact ⟨rr_, bG_ GE271.out⟩
def spec_l13Copy.l0 : Nat → List (S28) → List (S28) → Int → Option ((List (S28)))
 | 0, _, _, _ => none
 | k + 1, x0, x3, x4 => if x4 < (x0.length : Int) then (if 0 ≤ x4 then ((some (([] : List ByteArray) : List ByteArray)).bind fun y319 => (if y319.length + ((rd_T28 x0 x4).f1).length < 8796093022208 then (if x3.length < 2932031007402 then (spec_l13Copy.l0 k x0 (x3 ++ [(⟨(rd_T28 x0 x4).f0, (y319 ++ ((rd_T28 x0 x4).f1)), (rd_T28 x0 x4).f2, (rd_T28 x0 x4).f3, (rd_T28 x0 x4).f4⟩ : S28)]) (wrap64 (x4 + 1))) else (none)) else (none))) else (none)) else (some x3)
def spec_l13Copy.f (k : Nat) (l0 : List (S28)) : Option ((List (S28))) := spec_l13Copy.l0 k l0 (([] : List (S28))) 0
set_option maxHeartbeats 8000000 in
set_option maxRecDepth 100000 in
theorem spec_l13Copy.calls (k : Nat) (A0 : Option Addr) (c0 : Nat) (l0 : List (S28)) (r : List (S28)) (w : World) (hr0 : Kd.C k28 w A0 l0.length l0) (hc0 : l0.length ≤ c0) (h : spec_l13Copy.f k l0 = some r) :
 Calls Try.prog 68 #[.slice A0 l0.length c0] w fun e w' => ∃ v0_ : Value, e = .returned (v0_) ∧ Kd.S k28 28 w' w.heap.size (fun _ => True) v0_ r ∧ Below w.heap.size w w' := by
 have hu28 := Try.underlying28
 have HR0 := Aside0.mk hr0
 have HC0 := Aside0.mk hc0
 clear hr0 hc0
 have HB := A_ (Below.refl w.heap.size w)
 have H : (spec_l13Copy.l0 k l0 (([] : List (S28))) 0) = some r := h
 clear h
 obtain ⟨y314, hy314⟩ : ∃ y_ : List (S28), y_ = (([] : List (S28))) := ⟨_, rfl⟩
 replace H : (spec_l13Copy.l0 k l0 y314 0) = some r := hy_ hy314 H
 have Ny314 := Aside0.mk hy314
 clear hy314
 have H' := Aside0.mk H
 clear H
 go_enter Try.func68, Try.ntmps68
 go_wp2_with (first | ((with_reducible refine gate_dst (N := 6) rfl ?_); refine Kd.S_lit k28 _ 28 ?hg (N := 6) ?hd (xs := ([] : List (S28))) (inner := []) (ok := fun _ => True) (okp := fun _ => True) ?hr ?hp (fun _ hk => hk) trivial (Below.refl _ _) (Nat.le_refl _) (by simp) ?_; (case hd => rfl); (case hg => rfl); (case hr => first | (go_simp; done) | (go_simp; rfl)); (case hp => exact (Reps.none _ _)); intro v315 w2 ho3 hb hg_ hnew_; clear hg_ hnew_; (first | rw [← Ny314.out] at ho3 | (simp only [Int.reduceToNat] at ho3; rw [← Ny314.out] at ho3)); have HO316 := A_ (Kd.S_lower ho3 (below_size bB_)); replace HB := A_ (below_step bB_ hb); clear hb ho3))
 go_loopg [3, 4] k (fun kq v3 v4 w' => ∃ (x3_1 : List (S28)) (x4_1 : Int), v4 = .int .i64 x4_1 ∧ Aside0 (spec_l13Copy.l0 kq l0 x3_1 x4_1 = some r) ∧ Aside0 (kq ≤ k) ∧ Aside0 (Kd.S k28 28 w' w.heap.size (fun _ => True) v3 x3_1) ∧ Aside0 (Below w.heap.size w w'))
 case atStart => exact ⟨(y314), (0), rs_, H', ⟨Nat.le_refl _⟩, ⟨vS_ HO316.out⟩, ⟨bB_⟩⟩
 case round =>
  clear H'
  try clear p2
  obtain ⟨x3_1, x4_1, rfl, HA, HK1, HO_3, HB⟩ := hrel
  cases gk with
  | zero => exact absurd HA.out (by simp [spec_l13Copy.l0])
  | succ k1 =>
   have H := HA.out
   clear HA
   simp only [spec_l13Copy.l0] at H
   by_cases c4 : x4_1 < (l0.length : Int)
   rotate_left
   · rw [if_neg c4] at H
     have c4b0 : decide (x4_1 < (l0.length : Int)) = false := decide_eq_false c4
     clear c4
     obtain rfl := Option.some.inj H
     go_wp2
     go_ret
     exact ⟨_, rr_, by (with_reducible repeat (first | apply Kd.S_alloc | apply Kd.S_drewN | apply Kd.S_drew)); exact HO_3.out, bB_⟩
   rw [if_pos c4] at H
   have c4b0 : decide (x4_1 < (l0.length : Int)) = true := decide_eq_true c4
   clear c4
   by_cases c5 : 0 ≤ x4_1
   rotate_left
   · exact absurd H (by rw [if_neg c5]; simp)
   rw [if_pos c5] at H
   have c5b0 : decide (0 ≤ x4_1) = true := decide_eq_true c5
   clear c5
   obtain ⟨y319, hy319⟩ : ∃ y_ : List ByteArray, y_ = (([] : List ByteArray)) := ⟨_, rfl⟩
   replace H : (if y319.length + ((rd_T28 l0 x4_1).f1).length < 8796093022208 then (if x3_1.length < 2932031007402 then (spec_l13Copy.l0 k1 l0 (x3_1 ++ [(⟨(rd_T28 l0 x4_1).f0, (y319 ++ ((rd_T28 l0 x4_1).f1)), (rd_T28 l0 x4_1).f2, (rd_T28 l0 x4_1).f3, (rd_T28 l0 x4_1).f4⟩ : S28)]) (wrap64 (x4_1 + 1))) else (none)) else (none)) = some r := hy_ hy319 H
   have Ny319 := Aside0.mk hy319
   clear hy319
   by_cases c6 : y319.length + ((rd_T28 l0 x4_1).f1).length < 8796093022208
   rotate_left
   · exact absurd H (by rw [if_neg c6]; simp)
   rw [if_pos c6] at H
   have LMc6 := Aside0.mk c6
   clear c6
   obtain ⟨y323, hy323⟩ : ∃ y_ : List ByteArray, y_ = (y319 ++ ((rd_T28 l0 x4_1).f1)) := ⟨_, rfl⟩
   replace H : (if x3_1.length < 2932031007402 then (spec_l13Copy.l0 k1 l0 (x3_1 ++ [(⟨(rd_T28 l0 x4_1).f0, y323, (rd_T28 l0 x4_1).f2, (rd_T28 l0 x4_1).f3, (rd_T28 l0 x4_1).f4⟩ : S28)]) (wrap64 (x4_1 + 1))) else (none)) = some r := hy_ hy323 H
   have Ny323 := Aside0.mk hy323
   clear hy323
   by_cases c7 : x3_1.length < 2932031007402
   rotate_left
   · exact absurd H (by rw [if_neg c7]; simp)
   rw [if_pos c7] at H
   have LMc7 := Aside0.mk c7
   clear c7
   obtain ⟨y326, hy326⟩ : ∃ y_ : List (S28), y_ = (x3_1 ++ [(⟨(rd_T28 l0 x4_1).f0, y323, (rd_T28 l0 x4_1).f2, (rd_T28 l0 x4_1).f3, (rd_T28 l0 x4_1).f4⟩ : S28)]) := ⟨_, rfl⟩
   replace H : (spec_l13Copy.l0 k1 l0 y326 (wrap64 (x4_1 + 1))) = some r := hy_ hy326 H
   have Ny326 := Aside0.mk hy326
   clear hy326
   have H' := Aside0.mk H
   clear H
   have p317 : 0 ≤ (x4_1 : Int) := of_decide_eq_true as_
   have q317 : x4_1 < (l0.length : Int) := of_decide_eq_true as_
   obtain ⟨ad317, A317_1, c317_1, e317, hx317_0, hx317_1, hx317_2, hx317_3, hx317_4, hl317_1, hi317_1⟩ := at_T28 HR0.out x4_1 p317 q317
   cases e317
   replace hx317_0 := bc_ HB.out hx317_0
   replace hx317_1 := bc_ HB.out hx317_1
   replace hx317_2 := bc_ HB.out hx317_2
   replace hx317_3 := bc_ HB.out hx317_3
   replace hx317_4 := bc_ HB.out hx317_4
   have HR317_1 := Aside0.mk hi317_1
   have HC317_1 := Aside0.mk hl317_1
   clear hi317_1 hl317_1
   replace p317 := eq_true p317
   replace q317 := eq_true q317
   go_wp2_with (first | ((with_reducible refine gate_dst (N := 5) rfl ?_); refine bx_ (N := 5) (cs := #[.int .i64 0, .slice none 0 0, .bool false, .bool false, .int .i64 0]) (t := 28) ?_; intro gb318 hg w8 hbox hb; replace HO_3 := A_ (Kd.S_below (Kd.S_elderB (vS_ HO_3.out) gb318 (Nat.le_of_eq hg.symm)) hb); have BK318 := A_ (hbox); have GW318 := A_ (ge_ hg bB_ : w.heap.size ≤ gb318); have GE318 := A_ (ge_ hg bB_ : w.heap.size ≤ gb318); replace HB := A_ (below_step bB_ hb); clear hb hbox hg; obtain ⟨hcz9_0, hcz9_1, hcz9_2, hcz9_3, hcz9_4, hfz9_0, hfz9_1, hfz9_2, hfz9_3, hfz9_4⟩ := cz5_ BK318.out) | ((with_reducible refine gate_dst (N := 17) rfl ?_); refine Kd.R_lit Kd.string _ 9 ?hg (N := 17) ?hd (xs := ([] : List ByteArray)) (inner := []) (ok := fun _ => True) (okp := fun _ => True) ?hr ?hp (fun _ hk => hk) trivial (Below.refl _ _) (Nat.le_refl _) (by simp) ?_; (case hd => rfl); (case hg => rfl); (case hr => first | (go_simp; done) | (go_simp; rfl)); (case hp => exact (Reps.none _ _)); intro v320 w10 ho11 hb hg_ hnew_; clear hg_ hnew_; (first | rw [← Ny319.out] at ho11 | (simp only [Int.reduceToNat] at ho11; rw [← Ny319.out] at ho11)); replace HO_3 := A_ (Kd.S_elder' (by (with_reducible repeat (first | apply Kd.S_alloc | apply Kd.S_drewN | apply Kd.S_drew)); exact (Kd.S_mono (Kd.S_far (p := ⟨gb318, 4, none⟩) (Kd.S_far (p := ⟨gb318, 3, none⟩) (Kd.S_far (p := ⟨gb318, 2, none⟩) (Kd.S_far (p := ⟨gb318, 1, none⟩) (Kd.S_far (p := ⟨gb318, 0, none⟩) (Kd.S_mono HO_3.out (fun k_ hk => (⟨hk, hk.2⟩ : _ ∧ k_ ≠ gb318))) (fun _ hk => hk.2) (.int .i64 ((rd_T28 l0 x4_1).f0))) (fun _ hk => hk.2) (.slice A317_1 ((rd_T28 l0 x4_1).f1).length c317_1)) (fun _ hk => hk.2) (.bool ((rd_T28 l0 x4_1).f2))) (fun _ hk => hk.2) (.bool ((rd_T28 l0 x4_1).f3))) (fun _ hk => hk.2) (.int .i64 ((rd_T28 l0 x4_1).f4))) (fun _ h_ => h_.1))) (kb_ ho11) hb); have HO321 := A_ (Kd.R_lower ho11 (below_size (bG_ GE318.out))); replace BK318 := A_ (blk_below (g := gb318) (o := .cells #[.int .i64 ((rd_T28 l0 x4_1).f0), .slice A317_1 ((rd_T28 l0 x4_1).f1).length c317_1, .bool ((rd_T28 l0 x4_1).f2), .bool ((rd_T28 l0 x4_1).f3), .int .i64 ((rd_T28 l0 x4_1).f4)] 28 (0, 0)) (by (with_reducible repeat (first | refine blk_drewN ?_ _ | refine blk_drew ?_ | refine blk_alloc ?_ _)); refine blk_put (cs := #[.int .i64 ((rd_T28 l0 x4_1).f0), .slice A317_1 ((rd_T28 l0 x4_1).f1).length c317_1, .bool ((rd_T28 l0 x4_1).f2), .bool ((rd_T28 l0 x4_1).f3), .int .i64 0]) ?_ 4 _ rfl; (with_reducible repeat (first | refine blk_drewN ?_ _ | refine blk_drew ?_ | refine blk_alloc ?_ _)); refine blk_put (cs := #[.int .i64 ((rd_T28 l0 x4_1).f0), .slice A317_1 ((rd_T28 l0 x4_1).f1).length c317_1, .bool ((rd_T28 l0 x4_1).f2), .bool false, .int .i64 0]) ?_ 3 _ rfl; (with_reducible repeat (first | refine blk_drewN ?_ _ | refine blk_drew ?_ | refine blk_alloc ?_ _)); refine blk_put (cs := #[.int .i64 ((rd_T28 l0 x4_1).f0), .slice A317_1 ((rd_T28 l0 x4_1).f1).length c317_1, .bool false, .bool false, .int .i64 0]) ?_ 2 _ rfl; (with_reducible repeat (first | refine blk_drewN ?_ _ | refine blk_drew ?_ | refine blk_alloc ?_ _)); refine blk_put (cs := #[.int .i64 ((rd_T28 l0 x4_1).f0), .slice none 0 0, .bool false, .bool false, .int .i64 0]) ?_ 1 _ rfl; (with_reducible repeat (first | refine blk_drewN ?_ _ | refine blk_drew ?_ | refine blk_alloc ?_ _)); refine blk_put (cs := #[.int .i64 0, .slice none 0 0, .bool false, .bool false, .int .i64 0]) ?_ 0 _ rfl; (with_reducible repeat (first | refine blk_drewN ?_ _ | refine blk_drew ?_ | refine blk_alloc ?_ _)); exact BK318.out) hb); replace HB := A_ (below_step (bG_ GE318.out) hb); clear hb ho11; have p322 : 0 ≤ (x4_1 : Int) := of_decide_eq_true as_; have q322 : x4_1 < (l0.length : Int) := of_decide_eq_true as_; obtain ⟨ad322, A322_1, c322_1, e322, hx322_0, hx322_1, hx322_2, hx322_3, hx322_4, hl322_1, hi322_1⟩ := at_T28 HR0.out x4_1 p322 q322; obtain rfl : ad317 = ad322 := (by injection e322); replace hx322_0 := bc_ HB.out hx322_0; replace hx322_1 := bc_ HB.out hx322_1; replace hx322_2 := bc_ HB.out hx322_2; replace hx322_3 := bc_ HB.out hx322_3; replace hx322_4 := bc_ HB.out hx322_4; have HR322_1 := Aside0.mk hi322_1; have HC322_1 := Aside0.mk hl322_1; clear hi322_1 hl322_1; replace p322 := eq_true p322; replace q322 := eq_true q322) | ((with_reducible refine gate_builtin (b := .append) (xs := #[.tmp 17, .tmp 22]) rfl ?_); at_builtin; refine Kd.R_append_rows Kd.string (w0 := w) w.heap.size rfl (.tmp 17) (.tmp 22) 22 9 (.string ⟨#[]⟩) 16 rfl Try.underlying22 info9 rfl (by decide) (by omega) v320 y319 ((rd_T28 l0 x4_1).f1) _ _ _ (fun _ => True) (fun _ => False) rfl rfl ?aO ?aR (fun _ _ h => h) (fun _ h => h.elim) ?aF ?aB ?aS ?aL ?_; (case aR => exact cC_ (Kd.C_below HR322_1.out HB.out)); (case aB => exact (bG_ GE318.out)); (case aF => exact (fun _ _ => trivial)); (case aO => exact (vR_ HO321.out)); (case aS => exact (below_size (bG_ GE318.out))); (case aL => have := LMc6.out; omega); intro v324 w12 ho hb hg hat; rw [← Ny323.out] at ho; replace HO_3 := A_ (Kd.S_after (ok := (fun k_ => k_ ≠ gb318)) (by (with_reducible repeat (first | apply Kd.S_alloc | apply Kd.S_drewN | apply Kd.S_drew)); exact Kd.S_mono HO_3.out (fun _ hk => ⟨hk.1.2, hk.2⟩)) hg hat); replace BK318 := A_ (blk_grown (g := gb318) (o := .cells #[.int .i64 ((rd_T28 l0 x4_1).f0), .slice A317_1 ((rd_T28 l0 x4_1).f1).length c317_1, .bool ((rd_T28 l0 x4_1).f2), .bool ((rd_T28 l0 x4_1).f3), .int .i64 ((rd_T28 l0 x4_1).f4)] 28 (0, 0)) (vb_ BK318.out) hg (Kd.R_ne HO321.out BK318.out (by decide))); replace HB := A_ (hb); have HO325 := A_ (ho); clear HO321; clear ho hb hg hat; obtain ⟨Ao13, co13, eo13⟩ := Kd.R_slice HO325.out; subst eo13; obtain ⟨hcz14_0, hcz14_1, hcz14_2, hcz14_3, hcz14_4, hfz14_0, hfz14_1, hfz14_2, hfz14_3, hfz14_4⟩ := cz5_ BK318.out) | ((with_reducible refine gate_store (t := 22) (p := 24) rfl ?_); refine store_event (t := 22) (p := 24) (v := ?vo_w15) (w1 := (w12.setCell ⟨gb318, 1, none⟩ (.slice Ao13 y323.length co13))) ?hg ?ho ?hn ?hr ?_; (case ho => rfl); (case hg => rfl); (case hn => rfl); (case hr => first | (go_simp; done) | (go_simp; rfl)); intro w15 hw; have n0_ : Aside0 (Kd.S k28 28 w15 w.heap.size (fun k_ => some k_ ≠ (.slice Ao13 y323.length co13 : Value).ownBlock ∧ k_ ≠ gb318) u3 x3_1) := ⟨(by rw [hw]; exact (by (with_reducible repeat (first | apply Kd.S_alloc | apply Kd.S_drewN | apply Kd.S_drew)); exact Kd.S_mono (Kd.S_far (p := ⟨gb318, 1, none⟩) (Kd.S_mono HO_3.out (fun k_ hk => (⟨hk, hk.1⟩ : _ ∧ k_ ≠ gb318))) (fun _ hk => hk.2) (.slice Ao13 y323.length co13)) (fun _ hk => ⟨hk.1.2, hk.1.1⟩)))⟩; have n1_ : Aside0 (Kd.R Kd.string 9 w15 w.heap.size (fun _ => True) (.slice Ao13 y323.length co13) y323) := ⟨(by rw [hw]; exact (by (with_reducible repeat (first | apply Kd.R_alloc | apply Kd.R_drewN | apply Kd.R_drew)); exact Kd.R_mono (Kd.R_far (p := ⟨gb318, 1, none⟩) (Kd.R_types HO325.out BK318.out (by decide)) (fun _ hk => hk.2) (.slice Ao13 y323.length co13)) (fun _ hk => trivial)))⟩; have n2_ : Aside0 (w15.heap[gb318]? = some (.cells #[.int .i64 ((rd_T28 l0 x4_1).f0), .slice Ao13 y323.length co13, .bool ((rd_T28 l0 x4_1).f2), .bool ((rd_T28 l0 x4_1).f3), .int .i64 ((rd_T28 l0 x4_1).f4)] 28 (0, 0))) := ⟨(by rw [hw]; exact (by (with_reducible repeat (first | refine blk_drewN ?_ _ | refine blk_drew ?_ | refine blk_alloc ?_ _)); refine blk_put (cs := #[.int .i64 ((rd_T28 l0 x4_1).f0), .slice A317_1 ((rd_T28 l0 x4_1).f1).length c317_1, .bool ((rd_T28 l0 x4_1).f2), .bool ((rd_T28 l0 x4_1).f3), .int .i64 ((rd_T28 l0 x4_1).f4)]) ?_ 1 _ rfl; (with_reducible repeat (first | refine blk_drewN ?_ _ | refine blk_drew ?_ | refine blk_alloc ?_ _)); exact BK318.out))⟩; have n3_ : Aside0 (Below w.heap.size w w15) := ⟨(by rw [hw]; exact (bG_ GE318.out))⟩; clear hw; clear HO_3; clear HO325; clear BK318; clear HB; have HO_3 := n0_; have HO325 := n1_; have BK318 := n2_; have HB := n3_; clear n0_ n1_ n2_ n3_; obtain ⟨hcz16_0, hcz16_1, hcz16_2, hcz16_3, hcz16_4, hfz16_0, hfz16_1, hfz16_2, hfz16_3, hfz16_4⟩ := cz5_ BK318.out) | ((with_reducible refine gate_builtin (b := .append) (xs := #[.tmp 25, .tmp 27]) rfl ?_); at_builtin; refine Kd.S_append k28 (w0 := w) w.heap.size rfl (.tmp 25) (.tmp 27) 39 28 (.agg #[(.int .i64 0), (.slice none 0 0), (.bool false), (.bool false), (.int .i64 0)]) 48 rfl Try.underlying39 info28 rfl (by decide) (by omega) u3 x3_1 (⟨(rd_T28 l0 x4_1).f0, y323, (rd_T28 l0 x4_1).f2, (rd_T28 l0 x4_1).f3, (rd_T28 l0 x4_1).f4⟩ : S28) [.int .i64 ((rd_T28 l0 x4_1).f0), .slice Ao13 y323.length co13, .bool ((rd_T28 l0 x4_1).f2), .bool ((rd_T28 l0 x4_1).f3), .int .i64 ((rd_T28 l0 x4_1).f4)] (fun k_ => k_ ≠ gb318) (fun k_ => some k_ = (.slice Ao13 y323.length co13 : Value).ownBlock) rfl rfl ?aP (fun k_ hk_ => ((Kd.R_mono (ok' := fun k_ => ((fun k_ => k_ ≠ gb318)) k_ ∧ some k_ ≠ (u3 : Value).ownBlock) (Kd.R_types (Kd.R_apart' (HO325.out) (Kd.S_typed HO_3.out) (by decide)) BK318.out (by decide)) (fun k_ hk => ⟨hk.2, hk.1.2⟩))).1 k_ hk_.symm) ?aF ?aO ?aB ?aS ?aL ?_; (case aP => exact k28_mkM _ _ _ (⟨(rd_T28 l0 x4_1).f0, y323, (rd_T28 l0 x4_1).f2, (rd_T28 l0 x4_1).f3, (rd_T28 l0 x4_1).f4⟩ : S28) (Kd.R_mono (Kd.R_tight rfl (Kd.R_mono (ok' := fun k_ => ((fun k_ => k_ ≠ gb318)) k_ ∧ some k_ ≠ (u3 : Value).ownBlock) (Kd.R_types (Kd.R_apart' (HO325.out) (Kd.S_typed HO_3.out) (by decide)) BK318.out (by decide)) (fun k_ hk => ⟨hk.2, hk.1.2⟩))) (fun _ h_ => h_))); (case aB => exact (bG_ GE318.out)); (case aF => exact (fun k_ hk => Kd.freshB (g := gb318) (o := .cells #[.int .i64 ((rd_T28 l0 x4_1).f0), .slice Ao13 y323.length co13, .bool ((rd_T28 l0 x4_1).f2), .bool ((rd_T28 l0 x4_1).f3), .int .i64 ((rd_T28 l0 x4_1).f4)] 28 (0, 0)) (vb_ BK318.out) k_ hk)); (case aO => exact (by (with_reducible repeat (first | apply Kd.S_alloc | apply Kd.S_drewN | apply Kd.S_drew)); exact Kd.S_mono HO_3.out (fun k_ hk => ⟨hk.2, fun e_ => hk.1 e_⟩))); (case aS => exact (below_size (bG_ GE318.out))); (case aL => have := LMc7.out; omega); intro v327 w17 ho hb hg hat; rw [← Ny326.out] at ho; replace BK318 := A_ (blk_grown (g := gb318) (o := .cells #[.int .i64 ((rd_T28 l0 x4_1).f0), .slice Ao13 y323.length co13, .bool ((rd_T28 l0 x4_1).f2), .bool ((rd_T28 l0 x4_1).f3), .int .i64 ((rd_T28 l0 x4_1).f4)] 28 (0, 0)) (vb_ BK318.out) hg (Kd.S_away HO_3.out (fun _ hk => hk.2))); replace HB := A_ (hb); have HO328 := A_ (ho); clear HO_3 HO325; clear ho hb hg hat))
   go_roundg k1
   case measure => have := HK1.out; omega
   case rel => exact ⟨(y326), (wrap64 (x4_1 + 1)), rs_, H', ⟨by have := HK1.out; omega⟩, ⟨by (with_reducible repeat (first | apply Kd.S_alloc | apply Kd.S_drewN | apply Kd.S_drew)); exact Kd.S_mono HO328.out (fun _ hk => trivial)⟩, ⟨bG_ GE318.out⟩⟩
def impl_copyPath.f (l0 : List ByteArray) : Option (List ByteArray) := if ([] : List ByteArray).length + l0.length < 8796093022208 then (some (([] : List ByteArray) ++ l0)) else (none)
set_option maxHeartbeats 8000000 in
set_option maxRecDepth 100000 in
theorem impl_copyPath.calls (A0 : Option Addr) (c0 : Nat) (l0 : List ByteArray) (r : List ByteArray) (w : World) (hr0 : Kd.C Kd.string w A0 l0.length l0) (hc0 : l0.length ≤ c0) (h : impl_copyPath.f l0 = some r) :
 Calls Try.prog 88 #[.slice A0 l0.length c0] w fun e w' => ∃ v0_ : Value, e = .returned (v0_) ∧ Kd.R Kd.string 9 w' w.heap.size (fun _ => True) v0_ r ∧ Below w.heap.size w w' := by
 have HR0 := Aside0.mk hr0
 have HC0 := Aside0.mk hc0
 clear hr0 hc0
 have HB := A_ (Below.refl w.heap.size w)
 have H : (if ([] : List ByteArray).length + l0.length < 8796093022208 then (some (([] : List ByteArray) ++ l0)) else (none)) = some r := h
 clear h
 by_cases c2 : ([] : List ByteArray).length + l0.length < 8796093022208
 rotate_left
 · exact absurd H (by rw [if_neg c2]; simp)
 rw [if_pos c2] at H
 have LMc2 := Aside0.mk c2
 clear c2
 obtain ⟨y344, hy344⟩ : ∃ y_ : List ByteArray, y_ = (([] : List ByteArray) ++ l0) := ⟨_, rfl⟩
 replace H : (some y344) = some r := hy_ hy344 H
 have Ny344 := Aside0.mk hy344
 clear hy344
 obtain rfl := Option.some.inj H
 go_enter Try.func88, Try.ntmps88
 go_wp2_with (first | ((with_reducible refine gate_builtin (b := .append) (xs := #[.const (.slice none 0 0), .tmp 3]) rfl ?_); at_builtin; refine Kd.R_append_rows Kd.string (w0 := w) w.heap.size rfl (.const (.slice none 0 0)) (.tmp 3) 22 9 (.string ⟨#[]⟩) 16 rfl Try.underlying22 info9 rfl (by decide) (by omega) (.slice none 0 0) ([] : List ByteArray) l0 _ _ _ (fun _ => True) (fun _ => False) rfl rfl ?aO ?aR (fun _ _ h => h) (fun _ h => h.elim) ?aF ?aB ?aS ?aL ?_; (case aR => exact cC_ HR0.out); (case aB => exact bB_); (case aF => exact (fun _ _ => trivial)); (case aO => exact ((Kd.R_nil _ _ _ _ (fun _ => True)))); (case aS => exact (below_size bB_)); (case aL => have := LMc2.out; omega); intro v345 w3 ho hb hg hat; rw [← Ny344.out] at ho; replace HB := A_ (hb); have HO346 := A_ (ho); clear ho hb hg hat))
 go_ret
 exact ⟨_, rr_, by (with_reducible repeat (first | apply Kd.R_alloc | apply Kd.R_drewN | apply Kd.R_drew)); exact HO346.out, bB_⟩
def impl_copyLocks.l0 : Nat → List (S28) → List (S28) → Int → Int → Option ((List (S28)))
 | 0, _, _, _, _ => none
 | k + 1, x3, x6, x7, x8 => if x8 < x7 then (if 0 ≤ x8 then (if x8 < (x6.length : Int) then ((impl_copyPath.f ((rd_T28 x6 x8).f1)).bind fun t349 => (if x3.length < 2932031007402 then (impl_copyLocks.l0 k (x3 ++ [(⟨(rd_T28 x6 x8).f0, t349, (rd_T28 x6 x8).f2, (rd_T28 x6 x8).f3, (rd_T28 x6 x8).f4⟩ : S28)]) x6 x7 (wrap64 (x8 + 1))) else (none))) else (none)) else (none)) else (some x3)
def impl_copyLocks.f (k : Nat) (l0 : List (S28)) : Option ((List (S28))) := impl_copyLocks.l0 k ([] : List (S28)) l0 (l0.length : Int) 0
set_option maxHeartbeats 8000000 in
set_option maxRecDepth 100000 in
theorem impl_copyLocks.calls (k : Nat) (A0 : Option Addr) (c0 : Nat) (l0 : List (S28)) (r : List (S28)) (w : World) (hr0 : Kd.C k28 w A0 l0.length l0) (hc0 : l0.length ≤ c0) (h : impl_copyLocks.f k l0 = some r) :
 Calls Try.prog 69 #[.slice A0 l0.length c0] w fun e w' => ∃ v0_ : Value, e = .returned (v0_) ∧ Kd.S k28 28 w' w.heap.size (fun _ => True) v0_ r ∧ Below w.heap.size w w' := by
 have hu28 := Try.underlying28
 have HR0 := Aside0.mk hr0
 have HC0 := Aside0.mk hc0
 clear hr0 hc0
 have HB := A_ (Below.refl w.heap.size w)
 have H : (impl_copyLocks.l0 k ([] : List (S28)) l0 (l0.length : Int) 0) = some r := h
 clear h
 have H' := Aside0.mk H
 clear H
 go_enter Try.func69, Try.ntmps69
 go_wp2
 go_loopg [3, 8] k (fun kq v3 v8 w' => ∃ (x3_1 : List (S28)) (x8_1 : Int), v8 = .int .i64 x8_1 ∧ Aside0 (impl_copyLocks.l0 kq x3_1 l0 (l0.length : Int) x8_1 = some r) ∧ Aside0 (kq ≤ k) ∧ Aside0 (Kd.S k28 28 w' w.heap.size (fun _ => True) v3 x3_1) ∧ Aside0 (Below w.heap.size w w'))
 case atStart => exact ⟨(([] : List (S28))), (0), rs_, H', ⟨Nat.le_refl _⟩, ⟨by first | exact Kd.S_nil _ _ _ _ _ | exact Kd.N_nil _ _ _ _ _ | exact Kd.V_nil _ _ _ _ _ | exact Kd.Q_nil _ _ _ _ _ | exact Kd.R_nil _ _ _ _ _⟩, ⟨bB_⟩⟩
 case round =>
  clear H'
  obtain ⟨x3_1, x8_1, rfl, HA, HK1, HO_3, HB⟩ := hrel
  cases gk with
  | zero => exact absurd HA.out (by simp [impl_copyLocks.l0])
  | succ k1 =>
   have H := HA.out
   clear HA
   simp only [impl_copyLocks.l0] at H
   by_cases c2 : x8_1 < (l0.length : Int)
   rotate_left
   · rw [if_neg c2] at H
     have c2b0 : decide (x8_1 < (l0.length : Int)) = false := decide_eq_false c2
     clear c2
     obtain rfl := Option.some.inj H
     go_wp2
     go_ret
     exact ⟨_, rr_, by (with_reducible repeat (first | apply Kd.S_alloc | apply Kd.S_drewN | apply Kd.S_drew)); exact HO_3.out, bB_⟩
   rw [if_pos c2] at H
   have c2b0 : decide (x8_1 < (l0.length : Int)) = true := decide_eq_true c2
   clear c2
   by_cases c3 : 0 ≤ x8_1
   rotate_left
   · exact absurd H (by rw [if_neg c3]; simp)
   rw [if_pos c3] at H
   have c3b0 : decide (0 ≤ x8_1) = true := decide_eq_true c3
   clear c3
   by_cases c4 : x8_1 < (l0.length : Int)
   rotate_left
   · exact absurd H (by rw [if_neg c4]; simp)
   rw [if_pos c4] at H
   have c4b0 : decide (x8_1 < (l0.length : Int)) = true := decide_eq_true c4
   clear c4
   obtain ⟨t349, A5, H⟩ := bo_ H
   (try dsimp only at H)
   by_cases c6 : x3_1.length < 2932031007402
   rotate_left
   · exact absurd H (by rw [if_neg c6]; simp)
   rw [if_pos c6] at H
   have LMc6 := Aside0.mk c6
   clear c6
   obtain ⟨y352, hy352⟩ : ∃ y_ : List (S28), y_ = (x3_1 ++ [(⟨(rd_T28 l0 x8_1).f0, t349, (rd_T28 l0 x8_1).f2, (rd_T28 l0 x8_1).f3, (rd_T28 l0 x8_1).f4⟩ : S28)]) := ⟨_, rfl⟩
   replace H : (impl_copyLocks.l0 k1 y352 l0 (l0.length : Int) (wrap64 (x8_1 + 1))) = some r := hy_ hy352 H
   have Ny352 := Aside0.mk hy352
   clear hy352
   have H' := Aside0.mk H
   clear H
   have p347 : 0 ≤ (x8_1 : Int) := of_decide_eq_true as_
   have q347 : x8_1 < (l0.length : Int) := of_decide_eq_true as_
   obtain ⟨ad347, A347_1, c347_1, e347, hx347_0, hx347_1, hx347_2, hx347_3, hx347_4, hl347_1, hi347_1⟩ := at_T28 HR0.out x8_1 p347 q347
   cases e347
   replace hx347_0 := bc_ HB.out hx347_0
   replace hx347_1 := bc_ HB.out hx347_1
   replace hx347_2 := bc_ HB.out hx347_2
   replace hx347_3 := bc_ HB.out hx347_3
   replace hx347_4 := bc_ HB.out hx347_4
   have HR347_1 := Aside0.mk hi347_1
   have HC347_1 := Aside0.mk hl347_1
   clear hi347_1 hl347_1
   replace p347 := eq_true p347
   replace q347 := eq_true q347
   go_wp2_with (first | ((with_reducible refine gate_dst (N := 5) rfl ?_); refine bx_ (N := 5) (cs := #[.int .i64 0, .slice none 0 0, .bool false, .bool false, .int .i64 0]) (t := 28) ?_; intro gb348 hg w7 hbox hb; replace HO_3 := A_ (Kd.S_below (Kd.S_elderB (vS_ HO_3.out) gb348 (Nat.le_of_eq hg.symm)) hb); have BK348 := A_ (hbox); have GW348 := A_ (ge_ hg bB_ : w.heap.size ≤ gb348); have GE348 := A_ (ge_ hg bB_ : w.heap.size ≤ gb348); replace HB := A_ (below_step bB_ hb); clear hb hbox hg; obtain ⟨hcz8_0, hcz8_1, hcz8_2, hcz8_3, hcz8_4, hfz8_0, hfz8_1, hfz8_2, hfz8_3, hfz8_4⟩ := cz5_ BK348.out) | ((with_reducible refine gate_callee (f := 88) rfl ?_); refine gL_ (some 14) Try.func88 #[.slice A347_1 ((rd_T28 l0 x8_1).f1).length c347_1] ?_; (with_reducible refine (impl_copyPath.calls _ _ ((rd_T28 l0 x8_1).f1) t349 _ ?s1 ?s2 A5.out).mono ?_); (case s1 => exact Kd.C_below HR347_1.out (bG_ GE348.out)); (case s2 => exact HC347_1.out); rintro e w9 ⟨v350, rfl, ho0, hb⟩; refine ⟨_, rfl, ?_⟩; replace HO_3 := A_ (Kd.S_elder' (by (with_reducible repeat (first | apply Kd.S_alloc | apply Kd.S_drewN | apply Kd.S_drew)); exact (Kd.S_mono (Kd.S_far (p := ⟨gb348, 4, none⟩) (Kd.S_far (p := ⟨gb348, 3, none⟩) (Kd.S_far (p := ⟨gb348, 2, none⟩) (Kd.S_far (p := ⟨gb348, 1, none⟩) (Kd.S_far (p := ⟨gb348, 0, none⟩) (Kd.S_mono HO_3.out (fun k_ hk => (⟨hk, hk.2⟩ : _ ∧ k_ ≠ gb348))) (fun _ hk => hk.2) (.int .i64 ((rd_T28 l0 x8_1).f0))) (fun _ hk => hk.2) (.slice A347_1 ((rd_T28 l0 x8_1).f1).length c347_1)) (fun _ hk => hk.2) (.bool ((rd_T28 l0 x8_1).f2))) (fun _ hk => hk.2) (.bool ((rd_T28 l0 x8_1).f3))) (fun _ hk => hk.2) (.int .i64 ((rd_T28 l0 x8_1).f4))) (fun _ h_ => h_.1))) (kb_ ho0) hb); have HO351 := A_ (Kd.R_lower ho0 (below_size (bG_ GE348.out))); replace BK348 := A_ (blk_below (g := gb348) (o := .cells #[.int .i64 ((rd_T28 l0 x8_1).f0), .slice A347_1 ((rd_T28 l0 x8_1).f1).length c347_1, .bool ((rd_T28 l0 x8_1).f2), .bool ((rd_T28 l0 x8_1).f3), .int .i64 ((rd_T28 l0 x8_1).f4)] 28 (0, 0)) (by (with_reducible repeat (first | refine blk_drewN ?_ _ | refine blk_drew ?_ | refine blk_alloc ?_ _)); refine blk_put (cs := #[.int .i64 ((rd_T28 l0 x8_1).f0), .slice A347_1 ((rd_T28 l0 x8_1).f1).length c347_1, .bool ((rd_T28 l0 x8_1).f2), .bool ((rd_T28 l0 x8_1).f3), .int .i64 0]) ?_ 4 _ rfl; (with_reducible repeat (first | refine blk_drewN ?_ _ | refine blk_drew ?_ | refine blk_alloc ?_ _)); refine blk_put (cs := #[.int .i64 ((rd_T28 l0 x8_1).f0), .slice A347_1 ((rd_T28 l0 x8_1).f1).length c347_1, .bool ((rd_T28 l0 x8_1).f2), .bool false, .int .i64 0]) ?_ 3 _ rfl; (with_reducible repeat (first | refine blk_drewN ?_ _ | refine blk_drew ?_ | refine blk_alloc ?_ _)); refine blk_put (cs := #[.int .i64 ((rd_T28 l0 x8_1).f0), .slice A347_1 ((rd_T28 l0 x8_1).f1).length c347_1, .bool false, .bool false, .int .i64 0]) ?_ 2 _ rfl; (with_reducible repeat (first | refine blk_drewN ?_ _ | refine blk_drew ?_ | refine blk_alloc ?_ _)); refine blk_put (cs := #[.int .i64 ((rd_T28 l0 x8_1).f0), .slice none 0 0, .bool false, .bool false, .int .i64 0]) ?_ 1 _ rfl; (with_reducible repeat (first | refine blk_drewN ?_ _ | refine blk_drew ?_ | refine blk_alloc ?_ _)); refine blk_put (cs := #[.int .i64 0, .slice none 0 0, .bool false, .bool false, .int .i64 0]) ?_ 0 _ rfl; (with_reducible repeat (first | refine blk_drewN ?_ _ | refine blk_drew ?_ | refine blk_alloc ?_ _)); exact BK348.out) hb); replace HB := A_ (below_step (bG_ GE348.out) hb); (try clear hb); (try clear hk); (try clear ho0); obtain ⟨Ao10, co10, eo10⟩ := Kd.R_slice HO351.out; subst eo10; obtain ⟨hcz11_0, hcz11_1, hcz11_2, hcz11_3, hcz11_4, hfz11_0, hfz11_1, hfz11_2, hfz11_3, hfz11_4⟩ := cz5_ BK348.out) | ((with_reducible refine gate_store (t := 22) (p := 15) rfl ?_); refine store_event (t := 22) (p := 15) (v := ?vo_w12) (w1 := (w9.setCell ⟨gb348, 1, none⟩ (.slice Ao10 t349.length co10))) ?hg ?ho ?hn ?hr ?_; (case ho => rfl); (case hg => rfl); (case hn => rfl); (case hr => first | (go_simp; done) | (go_simp; rfl)); intro w12 hw; have n0_ : Aside0 (Kd.S k28 28 w12 w.heap.size (fun k_ => some k_ ≠ (.slice Ao10 t349.length co10 : Value).ownBlock ∧ k_ ≠ gb348) u3 x3_1) := ⟨(by rw [hw]; exact (by (with_reducible repeat (first | apply Kd.S_alloc | apply Kd.S_drewN | apply Kd.S_drew)); exact Kd.S_mono (Kd.S_far (p := ⟨gb348, 1, none⟩) (Kd.S_mono HO_3.out (fun k_ hk => (⟨hk, hk.1.2⟩ : _ ∧ k_ ≠ gb348))) (fun _ hk => hk.2) (.slice Ao10 t349.length co10)) (fun _ hk => ⟨hk.1.2, hk.1.1.2⟩)))⟩; have n1_ : Aside0 (Kd.R Kd.string 9 w12 w.heap.size (fun _ => True) (.slice Ao10 t349.length co10) t349) := ⟨(by rw [hw]; exact (by (with_reducible repeat (first | apply Kd.R_alloc | apply Kd.R_drewN | apply Kd.R_drew)); exact Kd.R_mono (Kd.R_far (p := ⟨gb348, 1, none⟩) (Kd.R_types HO351.out BK348.out (by decide)) (fun _ hk => hk.2) (.slice Ao10 t349.length co10)) (fun _ hk => trivial)))⟩; have n2_ : Aside0 (w12.heap[gb348]? = some (.cells #[.int .i64 ((rd_T28 l0 x8_1).f0), .slice Ao10 t349.length co10, .bool ((rd_T28 l0 x8_1).f2), .bool ((rd_T28 l0 x8_1).f3), .int .i64 ((rd_T28 l0 x8_1).f4)] 28 (0, 0))) := ⟨(by rw [hw]; exact (by (with_reducible repeat (first | refine blk_drewN ?_ _ | refine blk_drew ?_ | refine blk_alloc ?_ _)); refine blk_put (cs := #[.int .i64 ((rd_T28 l0 x8_1).f0), .slice A347_1 ((rd_T28 l0 x8_1).f1).length c347_1, .bool ((rd_T28 l0 x8_1).f2), .bool ((rd_T28 l0 x8_1).f3), .int .i64 ((rd_T28 l0 x8_1).f4)]) ?_ 1 _ rfl; (with_reducible repeat (first | refine blk_drewN ?_ _ | refine blk_drew ?_ | refine blk_alloc ?_ _)); exact BK348.out))⟩; have n3_ : Aside0 (Below w.heap.size w w12) := ⟨(by rw [hw]; exact (bG_ GE348.out))⟩; clear hw; clear HO_3; clear HO351; clear BK348; clear HB; have HO_3 := n0_; have HO351 := n1_; have BK348 := n2_; have HB := n3_; clear n0_ n1_ n2_ n3_; obtain ⟨hcz13_0, hcz13_1, hcz13_2, hcz13_3, hcz13_4, hfz13_0, hfz13_1, hfz13_2, hfz13_3, hfz13_4⟩ := cz5_ BK348.out) | ((with_reducible refine gate_builtin (b := .append) (xs := #[.tmp 16, .tmp 18]) rfl ?_); at_builtin; refine Kd.S_append k28 (w0 := w) w.heap.size rfl (.tmp 16) (.tmp 18) 39 28 (.agg #[(.int .i64 0), (.slice none 0 0), (.bool false), (.bool false), (.int .i64 0)]) 48 rfl Try.underlying39 info28 rfl (by decide) (by omega) u3 x3_1 (⟨(rd_T28 l0 x8_1).f0, t349, (rd_T28 l0 x8_1).f2, (rd_T28 l0 x8_1).f3, (rd_T28 l0 x8_1).f4⟩ : S28) [.int .i64 ((rd_T28 l0 x8_1).f0), .slice Ao10 t349.length co10, .bool ((rd_T28 l0 x8_1).f2), .bool ((rd_T28 l0 x8_1).f3), .int .i64 ((rd_T28 l0 x8_1).f4)] (fun k_ => k_ ≠ gb348) (fun k_ => some k_ = (.slice Ao10 t349.length co10 : Value).ownBlock) rfl rfl ?aP (fun k_ hk_ => ((Kd.R_mono (ok' := fun k_ => ((fun k_ => k_ ≠ gb348)) k_ ∧ some k_ ≠ (u3 : Value).ownBlock) (Kd.R_types (Kd.R_apart' (HO351.out) (Kd.S_typed HO_3.out) (by decide)) BK348.out (by decide)) (fun k_ hk => ⟨hk.2, hk.1.2⟩))).1 k_ hk_.symm) ?aF ?aO ?aB ?aS ?aL ?_; (case aP => exact k28_mkM _ _ _ (⟨(rd_T28 l0 x8_1).f0, t349, (rd_T28 l0 x8_1).f2, (rd_T28 l0 x8_1).f3, (rd_T28 l0 x8_1).f4⟩ : S28) (Kd.R_mono (Kd.R_tight rfl (Kd.R_mono (ok' := fun k_ => ((fun k_ => k_ ≠ gb348)) k_ ∧ some k_ ≠ (u3 : Value).ownBlock) (Kd.R_types (Kd.R_apart' (HO351.out) (Kd.S_typed HO_3.out) (by decide)) BK348.out (by decide)) (fun k_ hk => ⟨hk.2, hk.1.2⟩))) (fun _ h_ => h_))); (case aB => exact (bG_ GE348.out)); (case aF => exact (fun k_ hk => Kd.freshB (g := gb348) (o := .cells #[.int .i64 ((rd_T28 l0 x8_1).f0), .slice Ao10 t349.length co10, .bool ((rd_T28 l0 x8_1).f2), .bool ((rd_T28 l0 x8_1).f3), .int .i64 ((rd_T28 l0 x8_1).f4)] 28 (0, 0)) (vb_ BK348.out) k_ hk)); (case aO => exact (by (with_reducible repeat (first | apply Kd.S_alloc | apply Kd.S_drewN | apply Kd.S_drew)); exact Kd.S_mono HO_3.out (fun k_ hk => ⟨hk.2, fun e_ => hk.1 e_⟩))); (case aS => exact (below_size (bG_ GE348.out))); (case aL => have := LMc6.out; omega); intro v353 w14 ho hb hg hat; rw [← Ny352.out] at ho; replace BK348 := A_ (blk_grown (g := gb348) (o := .cells #[.int .i64 ((rd_T28 l0 x8_1).f0), .slice Ao10 t349.length co10, .bool ((rd_T28 l0 x8_1).f2), .bool ((rd_T28 l0 x8_1).f3), .int .i64 ((rd_T28 l0 x8_1).f4)] 28 (0, 0)) (vb_ BK348.out) hg (Kd.S_away HO_3.out (fun _ hk => hk.2))); replace HB := A_ (hb); have HO354 := A_ (ho); clear HO_3 HO351; clear ho hb hg hat))
   go_roundg k1
   case measure => have := HK1.out; omega
   case rel => exact ⟨(y352), (wrap64 (x8_1 + 1)), rs_, H', ⟨by have := HK1.out; omega⟩, ⟨by (with_reducible repeat (first | apply Kd.S_alloc | apply Kd.S_drewN | apply Kd.S_drew)); exact Kd.S_mono HO354.out (fun _ hk => trivial)⟩, ⟨bG_ GE348.out⟩⟩
def impl_DropLock.l0 : Nat → List (S28) → Int → List (S28) → Int → Int → Option ((List (S28)) × Bool)
 | 0, _, _, _, _, _ => none
 | k + 1, x0, x1, x8, x9, x10 => if x10 < x9 then (if 0 ≤ x10 then (if x10 < (x8.length : Int) then (if ((rd_T28 x8 x10).f0) = x1 then (if x10 ≤ (x0.length : Int) then ((impl_copyLocks.f k (x0.take (x10 : Int).toNat)).bind fun t364 => (if 0 ≤ (wrap64 (x10 + 1)) then (if (wrap64 (x10 + 1)) ≤ (x0.length : Int) then ((impl_copyLocks.f k (x0.drop ((wrap64 (x10 + 1)) : Int).toNat)).bind fun t371 => (if t364.length + t371.length < 2932031007402 then (some ((t364 ++ t371), true)) else (none))) else (none)) else (none))) else (none)) else (impl_DropLock.l0 k x0 x1 x8 x9 (wrap64 (x10 + 1)))) else (none)) else (none)) else ((impl_copyLocks.f k x0).bind fun t355 => (some (t355, false)))
def impl_DropLock.f (k : Nat) (l0 : List (S28)) (a1 : Int) : Option ((List (S28)) × Bool) := impl_DropLock.l0 k l0 a1 l0 (l0.length : Int) 0
def impl_DropLock.T5 : Bool × List (List Nat × List Nat) := (true, [([], []), ([], []), ([0, 1], [0, 1]), ([2], [2]), ([], []), ([], []), ([5], [5]), ([4, 6], [4, 6]), ([7, 3], [7]), ([3, 8, 8], [3, 8]), ([9, 9, 0, 1, 2, 3, 4, 5, 6, 7, 8, 9], [9]), ([10, 0, 1, 2, 3, 4, 5, 6, 7, 8, 9, 10], [])])
def impl_DropLock.B5 : List Nat := [0, 0, 3, 7, 0, 0, 32, 112, 255, 511, 1023, 2047]
theorem impl_DropLock.tab5 : rtab .any (opsOf Try.f33 5) = impl_DropLock.T5 := by kernel_rfl
theorem impl_DropLock.bits5 : waitsOk impl_DropLock.T5.2 impl_DropLock.B5 = true := by kernel_rfl
set_option maxHeartbeats 8000000 in
set_option maxRecDepth 100000 in
theorem impl_DropLock.calls (k : Nat) (A0 : Option Addr) (c0 : Nat) (l0 : List (S28)) (a1 : Int) (r1 : List (S28)) (r2 : Bool) (w : World) (hr0 : Kd.C k28 w A0 l0.length l0) (hc0 : l0.length ≤ c0) (h : impl_DropLock.f k l0 a1 = some (r1, r2)) :
 Calls Try.prog 33 #[.slice A0 l0.length c0, .int .i64 a1] w fun e w' => ∃ v0_ : Value, e = .returned (.tuple #[v0_, .bool r2]) ∧ Kd.N k28 28 w' w.heap.size (fun k_ => (w.heap.size ≤ k_)) v0_ r1 ∧ Below w.heap.size w w' := by
 have hu28 := Try.underlying28
 have HR0 := Aside0.mk hr0
 have HC0 := Aside0.mk hc0
 clear hr0 hc0
 have HB := A_ (Below.refl w.heap.size w)
 have H : (impl_DropLock.l0 k l0 a1 l0 (l0.length : Int) 0) = some (r1, r2) := h
 clear h
 have H' := Aside0.mk H
 clear H
 go_enter Try.func33, Try.ntmps33
 go_wp2
 go_loopg [10] k (fun kq v10 w' => ∃ (x10_1 : Int), v10 = .int .i64 x10_1 ∧ Aside0 (impl_DropLock.l0 kq l0 a1 l0 (l0.length : Int) x10_1 = some (r1, r2)) ∧ Aside0 (kq ≤ k) ∧ Aside0 (Below w.heap.size w w'))
 case atStart => exact ⟨(0), rs_, H', ⟨Nat.le_refl _⟩, ⟨bB_⟩⟩
 case round =>
  clear H'
  try clear p2
  obtain ⟨x10_1, rfl, HA, HK1, HB⟩ := hrel
  cases gk with
  | zero => exact absurd HA.out (by simp [impl_DropLock.l0])
  | succ k1 =>
   have H := HA.out
   clear HA
   simp only [impl_DropLock.l0] at H
   by_cases c3 : x10_1 < (l0.length : Int)
   rotate_left
   · rw [if_neg c3] at H
     have c3b0 : decide (x10_1 < (l0.length : Int)) = false := decide_eq_false c3
     clear c3
     obtain ⟨t355, A27, H⟩ := bo_ H
     (try dsimp only at H)
     simp only [Option.some.injEq, Prod.mk.injEq] at H
     obtain ⟨rfl, rfl⟩ := H
     go_wp2_with (first | ((with_reducible refine gate_callee (f := 69) rfl ?_); refine gL_ (some 31) Try.func69 #[.slice A0 l0.length c0] ?_; (with_reducible refine (impl_copyLocks.calls k1 _ _ l0 t355 _ ?s1 ?s2 A27.out).mono ?_); (case s1 => exact cC_ (Kd.C_below HR0.out HB.out)); (case s2 => exact HC0.out); rintro e w28 ⟨v356, rfl, ho0, hb⟩; refine ⟨_, rfl, ?_⟩; have HO357 := A_ (Kd.N_lower (Kd.N_mono (ok' := fun k_ => (w.heap.size ≤ k_)) (Kd.S_N (Kd.S_bound ho0)) (fun k_ hk_ => (Nat.le_trans (below_size bB_) hk_.2.1))) (below_size bB_)); replace HB := A_ (below_step bB_ hb); (try clear hb); (try clear ho0)))
     go_ret2
     exact ⟨_, rr_, by (with_reducible repeat (first | apply Kd.N_alloc | apply Kd.N_drewN | apply Kd.N_drew)); exact HO357.out, bB_⟩
   rw [if_pos c3] at H
   have c3b0 : decide (x10_1 < (l0.length : Int)) = true := decide_eq_true c3
   clear c3
   by_cases c4 : 0 ≤ x10_1
   rotate_left
   · exact absurd H (by rw [if_neg c4]; simp)
   rw [if_pos c4] at H
   have c4b0 : decide (0 ≤ x10_1) = true := decide_eq_true c4
   clear c4
   by_cases c5 : x10_1 < (l0.length : Int)
   rotate_left
   · exact absurd H (by rw [if_neg c5]; simp)
   rw [if_pos c5] at H
   have c5b0 : decide (x10_1 < (l0.length : Int)) = true := decide_eq_true c5
   clear c5
   by_cases c6 : ((rd_T28 l0 x10_1).f0) = a1
   rotate_left
   · rw [if_neg c6] at H
     have c6b0 : (((rd_T28 l0 x10_1).f0) == a1) = false := beq_eq_false_iff_ne.mpr c6
     have c6b1 : (((rd_T28 l0 x10_1).f0) != a1) = true := bne_iff_ne.mpr c6
     have H' := Aside0.mk H
     clear H
     have p358 : 0 ≤ (x10_1 : Int) := of_decide_eq_true as_
     have q358 : x10_1 < (l0.length : Int) := of_decide_eq_true as_
     obtain ⟨ad358, A358_1, c358_1, e358, hx358_0, hx358_1, hx358_2, hx358_3, hx358_4, hl358_1, hi358_1⟩ := at_T28 HR0.out x10_1 p358 q358
     cases e358
     replace hx358_0 := bc_ HB.out hx358_0
     replace hx358_1 := bc_ HB.out hx358_1
     replace hx358_2 := bc_ HB.out hx358_2
     replace hx358_3 := bc_ HB.out hx358_3
     replace hx358_4 := bc_ HB.out hx358_4
     have HR358_1 := Aside0.mk hi358_1
     have HC358_1 := Aside0.mk hl358_1
     clear hi358_1 hl358_1
     replace p358 := eq_true p358
     replace q358 := eq_true q358
     go_wp2_with (first | ((with_reducible refine gate_dst (N := 7) rfl ?_); refine bx_ (N := 7) (cs := #[.int .i64 0, .slice none 0 0, .bool false, .bool false, .int .i64 0]) (t := 28) ?_; intro gb359 hg w25 hbox hb; have BK359 := A_ (hbox); have GW359 := A_ (ge_ hg bB_ : w.heap.size ≤ gb359); have GE359 := A_ (ge_ hg bB_ : w.heap.size ≤ gb359); replace HB := A_ (below_step bB_ hb); clear hb hbox hg; obtain ⟨hcz26_0, hcz26_1, hcz26_2, hcz26_3, hcz26_4, hfz26_0, hfz26_1, hfz26_2, hfz26_3, hfz26_4⟩ := cz5_ BK359.out))
     go_roundg k1
     case measure => have := HK1.out; omega
     case rel => exact ⟨(wrap64 (x10_1 + 1)), rs_, H', ⟨by have := HK1.out; omega⟩, ⟨bG_ GE359.out⟩⟩
   rw [if_pos c6] at H
   have c6b0 : (((rd_T28 l0 x10_1).f0) == a1) = true := beq_iff_eq.mpr c6
   have c6b1 : (((rd_T28 l0 x10_1).f0) != a1) = false := bne_eq_false_iff_eq.mpr c6
   clear c6
   have c7b0 := eq_true (of_decide_eq_true as_ : 0 ≤ x10_1)
   by_cases c8 : x10_1 ≤ (l0.length : Int)
   rotate_left
   · exact absurd H (by rw [if_neg c8]; simp)
   rw [if_pos c8] at H
   have c8b0 := eq_true c8
   have c8b1 : decide (x10_1 ≤ (l0.length : Int)) = true := decide_eq_true c8
   clear c8
   obtain ⟨y360, hy360⟩ : ∃ y_ : List (S28), y_ = (l0.take (x10_1 : Int).toNat) := ⟨_, rfl⟩
   replace H : ((impl_copyLocks.f k1 y360).bind fun t364 => (if 0 ≤ (wrap64 (x10_1 + 1)) then (if (wrap64 (x10_1 + 1)) ≤ (l0.length : Int) then ((impl_copyLocks.f k1 (l0.drop ((wrap64 (x10_1 + 1)) : Int).toNat)).bind fun t371 => (if t364.length + t371.length < 2932031007402 then (some ((t364 ++ t371), true)) else (none))) else (none)) else (none))) = some (r1, r2) := hy_ hy360 H
   have Ny360 := Aside0.mk hy360
   clear hy360
   obtain ⟨t364, A9, H⟩ := bo_ H
   (try dsimp only at H)
   obtain ⟨ji10, hji10⟩ : ∃ j_ : Int, (wrap64 (x10_1 + 1)) = j_ := ⟨_, rfl⟩
   replace H : (if 0 ≤ (ji10) then (if (ji10) ≤ (l0.length : Int) then ((impl_copyLocks.f k1 (l0.drop ((ji10) : Int).toNat)).bind fun t371 => (if t364.length + t371.length < 2932031007402 then (some ((t364 ++ t371), true)) else (none))) else (none)) else (none)) = some (r1, r2) := by first | (rw [hji10] at H; exact H) | (simp only [hji10] at H ⊢; exact H)
   (try rw [hji10] at A9)
   have hji10w : (IntKind.i64.wrap (x10_1 + 1)) = ji10 := (i64_w _).trans hji10
   by_cases c11 : 0 ≤ (ji10)
   rotate_left
   · exact absurd H (by rw [if_neg c11]; simp)
   rw [if_pos c11] at H
   have c11b0 := eq_true c11
   have c11b1 : decide (0 ≤ (ji10)) = true := decide_eq_true c11
   clear c11
   by_cases c12 : (ji10) ≤ (l0.length : Int)
   rotate_left
   · exact absurd H (by rw [if_neg c12]; simp)
   rw [if_pos c12] at H
   have c12b0 := eq_true c12
   have c12b1 : decide ((ji10) ≤ (l0.length : Int)) = true := decide_eq_true c12
   clear c12
   obtain ⟨y367, hy367⟩ : ∃ y_ : List (S28), y_ = (l0.drop ((ji10) : Int).toNat) := ⟨_, rfl⟩
   replace H : ((impl_copyLocks.f k1 y367).bind fun t371 => (if t364.length + t371.length < 2932031007402 then (some ((t364 ++ t371), true)) else (none))) = some (r1, r2) := hy_ hy367 H
   have Ny367 := Aside0.mk hy367
   clear hy367
   obtain ⟨t371, A13, H⟩ := bo_ H
   (try dsimp only at H)
   by_cases c14 : t364.length + t371.length < 2932031007402
   rotate_left
   · exact absurd H (by rw [if_neg c14]; simp)
   rw [if_pos c14] at H
   have LMc14 := Aside0.mk c14
   clear c14
   obtain ⟨y374, hy374⟩ : ∃ y_ : List (S28), y_ = (t364 ++ t371) := ⟨_, rfl⟩
   replace H : (some (y374, true)) = some (r1, r2) := hy_ hy374 H
   have Ny374 := Aside0.mk hy374
   clear hy374
   simp only [Option.some.injEq, Prod.mk.injEq] at H
   obtain ⟨rfl, rfl⟩ := H
   have p358 : 0 ≤ (x10_1 : Int) := of_decide_eq_true as_
   have q358 : x10_1 < (l0.length : Int) := of_decide_eq_true as_
   obtain ⟨ad358, A358_1, c358_1, e358, hx358_0, hx358_1, hx358_2, hx358_3, hx358_4, hl358_1, hi358_1⟩ := at_T28 HR0.out x10_1 p358 q358
   cases e358
   replace hx358_0 := bc_ HB.out hx358_0
   replace hx358_1 := bc_ HB.out hx358_1
   replace hx358_2 := bc_ HB.out hx358_2
   replace hx358_3 := bc_ HB.out hx358_3
   replace hx358_4 := bc_ HB.out hx358_4
   have HR358_1 := Aside0.mk hi358_1
   have HC358_1 := Aside0.mk hl358_1
   clear hi358_1 hl358_1
   replace p358 := eq_true p358
   replace q358 := eq_true q358
   try go_wp2_with (first | ((with_reducible refine gate_dst (N := 7) rfl ?_); refine bx_ (N := 7) (cs := #[.int .i64 0, .slice none 0 0, .bool false, .bool false, .int .i64 0]) (t := 28) ?_; intro gb359 hg w15 hbox hb; have BK359 := A_ (hbox); have GW359 := A_ (ge_ hg bB_ : w.heap.size ≤ gb359); have GE359 := A_ (ge_ hg bB_ : w.heap.size ≤ gb359); replace HB := A_ (below_step bB_ hb); clear hb hbox hg; obtain ⟨hcz16_0, hcz16_1, hcz16_2, hcz16_3, hcz16_4, hfz16_0, hfz16_1, hfz16_2, hfz16_3, hfz16_4⟩ := cz5_ BK359.out))
   have n0_ : Aside0 ((((((w15.setCell ⟨gb359, 0, none⟩ (.int .i64 ((rd_T28 l0 x10_1).f0))).setCell ⟨gb359, 1, none⟩ (.slice A358_1 ((rd_T28 l0 x10_1).f1).length c358_1)).setCell ⟨gb359, 2, none⟩ (.bool ((rd_T28 l0 x10_1).f2))).setCell ⟨gb359, 3, none⟩ (.bool ((rd_T28 l0 x10_1).f3))).setCell ⟨gb359, 4, none⟩ (.int .i64 ((rd_T28 l0 x10_1).f4))).heap[gb359]? = some (.cells #[.int .i64 ((rd_T28 l0 x10_1).f0), .slice A358_1 ((rd_T28 l0 x10_1).f1).length c358_1, .bool ((rd_T28 l0 x10_1).f2), .bool ((rd_T28 l0 x10_1).f3), .int .i64 ((rd_T28 l0 x10_1).f4)] 28 (0, 0))) := ⟨by (with_reducible repeat (first | refine blk_drewN ?_ _ | refine blk_drew ?_ | refine blk_alloc ?_ _)); refine blk_put (cs := #[.int .i64 ((rd_T28 l0 x10_1).f0), .slice A358_1 ((rd_T28 l0 x10_1).f1).length c358_1, .bool ((rd_T28 l0 x10_1).f2), .bool ((rd_T28 l0 x10_1).f3), .int .i64 0]) ?_ 4 _ rfl; (with_reducible repeat (first | refine blk_drewN ?_ _ | refine blk_drew ?_ | refine blk_alloc ?_ _)); refine blk_put (cs := #[.int .i64 ((rd_T28 l0 x10_1).f0), .slice A358_1 ((rd_T28 l0 x10_1).f1).length c358_1, .bool ((rd_T28 l0 x10_1).f2), .bool false, .int .i64 0]) ?_ 3 _ rfl; (with_reducible repeat (first | refine blk_drewN ?_ _ | refine blk_drew ?_ | refine blk_alloc ?_ _)); refine blk_put (cs := #[.int .i64 ((rd_T28 l0 x10_1).f0), .slice A358_1 ((rd_T28 l0 x10_1).f1).length c358_1, .bool false, .bool false, .int .i64 0]) ?_ 2 _ rfl; (with_reducible repeat (first | refine blk_drewN ?_ _ | refine blk_drew ?_ | refine blk_alloc ?_ _)); refine blk_put (cs := #[.int .i64 ((rd_T28 l0 x10_1).f0), .slice none 0 0, .bool false, .bool false, .int .i64 0]) ?_ 1 _ rfl; (with_reducible repeat (first | refine blk_drewN ?_ _ | refine blk_drew ?_ | refine blk_alloc ?_ _)); refine blk_put (cs := #[.int .i64 0, .slice none 0 0, .bool false, .bool false, .int .i64 0]) ?_ 0 _ rfl; (with_reducible repeat (first | refine blk_drewN ?_ _ | refine blk_drew ?_ | refine blk_alloc ?_ _)); exact BK359.out⟩
   have n1_ : Aside0 (Below w.heap.size w (((((w15.setCell ⟨gb359, 0, none⟩ (.int .i64 ((rd_T28 l0 x10_1).f0))).setCell ⟨gb359, 1, none⟩ (.slice A358_1 ((rd_T28 l0 x10_1).f1).length c358_1)).setCell ⟨gb359, 2, none⟩ (.bool ((rd_T28 l0 x10_1).f2))).setCell ⟨gb359, 3, none⟩ (.bool ((rd_T28 l0 x10_1).f3))).setCell ⟨gb359, 4, none⟩ (.int .i64 ((rd_T28 l0 x10_1).f4)))) := ⟨bG_ GE359.out⟩
   (try clear BK359)
   (try clear HB)
   generalize (((((w15.setCell ⟨gb359, 0, none⟩ (.int .i64 ((rd_T28 l0 x10_1).f0))).setCell ⟨gb359, 1, none⟩ (.slice A358_1 ((rd_T28 l0 x10_1).f1).length c358_1)).setCell ⟨gb359, 2, none⟩ (.bool ((rd_T28 l0 x10_1).f2))).setCell ⟨gb359, 3, none⟩ (.bool ((rd_T28 l0 x10_1).f3))).setCell ⟨gb359, 4, none⟩ (.int .i64 ((rd_T28 l0 x10_1).f4))) = w17 at n0_ n1_ ⊢
   have BK359 := n0_
   have HB := n1_
   clear n0_ n1_
   replace BK359 := A_ (blk_drew BK359.out)
   replace HB := A_ (below_drew1 HB.out)
   have q19 : (x10_1 : Int) ≤ ((l0.length : Int) : Int) := of_decide_eq_true as_
   obtain ⟨i019, hi019, _, hsz19, _⟩ := info_parts info28
   have hroom19 : l0.length ≤ c0 := HC0.out
   have hC19 : Kd.C k28 _ (some ad358) l0.length l0 := HR0.out
   have hcut19 := cut_to (P := Try.prog) 39 28 .i64 Try.underlying39 hi019 (some ad358) l0.length c0 x10_1 (of_decide_eq_true as_) q19 hroom19
   have hr19 := Kd.C_take (m := (x10_1 : Int).toNat) hC19 (by omega)
   have hy19 : y360.length = (x10_1 : Int).toNat := (by rw [Ny360.out, List.length_take]; omega)
   rw [← Ny360.out] at hr19
   rw [← hy19] at hcut19
   have HR363 := Aside0.mk hr19
   have HC363 := A_ (show y360.length ≤ c0 from by omega)
   clear hr19 hC19 hroom19 hi019 hsz19
   have KY19 := Aside0.mk hy19
   clear hy19
   replace q19 := eq_true q19
   have q20 : ((ji10) : Int) ≤ ((l0.length : Int) : Int) := of_decide_eq_true as_
   obtain ⟨i020, hi020, _, hsz20, _⟩ := info_parts info28
   have hroom20 : l0.length ≤ c0 := HC0.out
   have hC20 : Kd.C k28 _ (some ad358) l0.length l0 := HR0.out
   have q020 : (0 : Int) ≤ ((ji10) : Int) := of_decide_eq_true as_
   have hcut20 := cut_from (P := Try.prog) 39 28 .i64 Try.underlying39 hi020 5 hsz20 (some ad358) l0.length c0 (ji10) q020 q20
   have hr20 := Kd.C_drop (m := ((ji10) : Int).toNat) (c := c0) hC20 (by omega) hroom20
   obtain ⟨A20, hA20⟩ : ∃ A1, A1 = (if c0 = ((ji10) : Int).toNat then (some ad358) else ((some ad358) : Option Addr).map (·.add (((ji10) : Int).toNat * 5))) := ⟨_, rfl⟩
   obtain ⟨c20, hc20⟩ : ∃ c1, c1 = c0 - ((ji10) : Int).toNat := ⟨_, rfl⟩
   have hy20 : y367.length = l0.length - ((ji10) : Int).toNat := (by rw [Ny367.out, List.length_drop] <;> omega)
   rw [show (l0).drop ((ji10) : Int).toNat = y367 from Ny367.out.symm] at hr20
   replace hr20 : Kd.C k28 _ A20 y367.length y367 := (by rw [hA20]; exact hr20)
   rw [← hy20, ← hA20, ← hc20] at hcut20
   have HR370 := Aside0.mk hr20
   have HC370 := A_ (show y367.length ≤ c20 from by rw [hy20, hc20]; exact Nat.sub_le_sub_right hroom20 _)
   clear hr20 hC20 hroom20 hi020 hsz20 hc20
   have KY20 := Aside0.mk hy20
   have KA20 := Aside0.mk hA20
   clear hy20 hA20
   replace q20 := eq_true q20
   refine start_ (n := 12) (S := fun w' => True) (ds := []) #[false, false, false, false, false, false, false, false, false, false, false, false] (by kernel_rfl) rfl rfl trivial (fun hHeld => ?_); refine with_tabW impl_DropLock.tab5 impl_DropLock.bits5 (fun HT_ HW_ => ?_)
   generalize w17.drew = w18 at BK359 HB HR363 HR370 hHeld ⊢
   refine pu_ (i := 0) (N := some 19) ?_
   refine pu_ (i := 1) (N := some 20) ?_
   refine pu_ (i := 2) (N := some 21) ?_
   refine pu_ (i := 4) (N := some 23) ?_
   refine pu_ (i := 5) (N := some 24) ?_
   refine pu_ (i := 6) (N := some 25) ?_
   refine pu_ (i := 7) (N := some 26) ?_
   refine on_ (i := 3) (N := some 22) (fun K hK => ?_)
   refine goes_ Try.func69 (by kernel_rfl) rfl #[.slice (some ad358) y360.length c0] (by rfl) rfl rfl ml_ ?_
   with_reducible refine (impl_copyLocks.calls k1 _ _ y360 t364 _ ?s1 ?s2 A9.out).mono ?_
   (case s1 => exact cC_ (Kd.C_below HR363.out HB.out))
   (case s2 => exact HC363.out)
   rintro e w21 ⟨v365, rfl, ho0, hb⟩
   refine ⟨_, rfl, ?_⟩
   have HO366 := A_ (Kd.N_lower (Kd.N_mono (ok' := fun k_ => (w.heap.size ≤ k_) ∧ k_ ≠ gb359) (Kd.S_N (Kd.S_bound ho0)) (fun k_ hk_ => ⟨(Nat.le_trans (below_size (bG_ GE359.out)) hk_.2.1), (Kd.freshB (g := gb359) (o := .cells #[.int .i64 ((rd_T28 l0 x10_1).f0), .slice A358_1 ((rd_T28 l0 x10_1).f1).length c358_1, .bool ((rd_T28 l0 x10_1).f2), .bool ((rd_T28 l0 x10_1).f3), .int .i64 ((rd_T28 l0 x10_1).f4)] 28 (0, 0)) (vb_ BK359.out) k_ hk_.2.1)⟩)) (below_size (bG_ GE359.out)))
   replace BK359 := A_ (bw_ BK359.out hb)
   replace HB := A_ (below_step (bG_ GE359.out) hb)
   (try clear hb)
   (try clear hb2)
   (try clear hk)
   (try clear hi)
   (try clear ho0)
   refine hK.out _ _ trivial (fun hHeld => ?_)
   clear hK K
   refine no_ (some 22) ?_
   refine on_ (i := 8) (N := some 27) (fun K hK => ?_)
   refine goes_ Try.func69 (by kernel_rfl) rfl #[.slice A20 y367.length c20] (by rfl) rfl rfl ml_ ?_
   with_reducible refine (impl_copyLocks.calls k1 _ _ y367 t371 _ ?s1 ?s2 A13.out).mono ?_
   (case s1 => exact cC_ (Kd.C_below HR370.out HB.out))
   (case s2 => exact HC370.out)
   rintro e w22 ⟨v372, rfl, ho0, hb⟩
   refine ⟨_, rfl, ?_⟩
   have HO373 := A_ (Kd.N_lower (Kd.N_mono (ok' := fun k_ => (w.heap.size ≤ k_) ∧ some k_ ≠ (v365 : Value).ownBlock ∧ k_ ≠ gb359) (Kd.S_N (Kd.S_bound ho0)) (fun k_ hk_ => ⟨(Nat.le_trans (below_size (bG_ GE359.out)) hk_.2.1), (Kd.fresh' (Kd.N_lt (vN_ HO366.out)) k_ hk_.2.1), (Kd.freshB (g := gb359) (o := .cells #[.int .i64 ((rd_T28 l0 x10_1).f0), .slice A358_1 ((rd_T28 l0 x10_1).f1).length c358_1, .bool ((rd_T28 l0 x10_1).f2), .bool ((rd_T28 l0 x10_1).f3), .int .i64 ((rd_T28 l0 x10_1).f4)] 28 (0, 0)) (vb_ BK359.out) k_ hk_.2.1)⟩)) (below_size (bG_ GE359.out)))
   replace HO366 := A_ (Kd.N_elder' (vN_ HO366.out) (kb_ ho0) hb)
   replace BK359 := A_ (bw_ BK359.out hb)
   replace HB := A_ (below_step (bG_ GE359.out) hb)
   (try clear hb)
   (try clear hb2)
   (try clear hk)
   (try clear hi)
   (try clear ho0)
   obtain ⟨Ao24, co24, eo24⟩ := Kd.N_slice HO373.out
   (first | subst eo24 | (injection eo24 with f1_ f2_ f3_; have f4_ := f1_.symm; have f5_ := f3_.symm; clear f1_ f2_ f3_; subst f4_; subst f5_))
   refine hK.out _ _ trivial (fun hHeld => ?_)
   clear hK K
   refine no_ (some 27) ?_
   refine on_ (i := 9) (N := some 28) (fun K hK => ?_)
   refine Kd.N_append_rows_step k28 (w0 := w) w.heap.size (by rfl) (.tmp 22) (.tmp 27) 39 28 (.agg #[(.int .i64 0), (.slice none 0 0), (.bool false), (.bool false), (.int .i64 0)]) 48 rfl Try.underlying39 info28 rfl (by decide) (by omega) v365 t364 t371 _ _ _ (fun k_ => (w.heap.size ≤ k_) ∧ k_ ≠ gb359) (fun k_ => ((fun k_ => (w.heap.size ≤ k_) ∧ k_ ≠ gb359)) k_ ∧ some k_ ≠ (v365 : Value).ownBlock) rfl rfl ?aO ?aR (fun _ hk => hk) ?aF ?aB ?aS ?aL ?_
   (case aR => exact (by skip; exact Kd.N_F (Kd.N_mono (ok' := (fun k_ => ((fun k_ => (w.heap.size ≤ k_) ∧ k_ ≠ gb359)) k_ ∧ some k_ ≠ (v365 : Value).ownBlock)) (HO373.out) (fun k_ hk => ⟨⟨hk.1, hk.2.2⟩, hk.2.1⟩))))
   (case aB => exact (bG_ GE359.out))
   (case aF => exact (fun k_ hk => ⟨(Nat.le_trans (below_size (bG_ GE359.out)) hk), Kd.freshB (g := gb359) (o := .cells #[.int .i64 ((rd_T28 l0 x10_1).f0), .slice A358_1 ((rd_T28 l0 x10_1).f1).length c358_1, .bool ((rd_T28 l0 x10_1).f2), .bool ((rd_T28 l0 x10_1).f3), .int .i64 ((rd_T28 l0 x10_1).f4)] 28 (0, 0)) (vb_ BK359.out) k_ hk⟩))
   (case aO => exact (by (with_reducible repeat (first | apply Kd.N_alloc | apply Kd.N_drewN | apply Kd.N_drew)); exact Kd.N_mono HO366.out (fun _ hk => ⟨hk.1.1, hk.1.2⟩)))
   (case aS => exact (below_size (bG_ GE359.out)))
   (case aL => have := LMc14.out; omega)
   intro v375 w23 ho hb hg hat
   rw [← Ny374.out] at ho
   replace BK359 := A_ (blk_grown (g := gb359) (o := .cells #[.int .i64 ((rd_T28 l0 x10_1).f0), .slice A358_1 ((rd_T28 l0 x10_1).f1).length c358_1, .bool ((rd_T28 l0 x10_1).f2), .bool ((rd_T28 l0 x10_1).f3), .int .i64 ((rd_T28 l0 x10_1).f4)] 28 (0, 0)) (vb_ BK359.out) hg (Kd.N_away HO366.out (fun _ hk => hk.1.2)))
   replace HO373 := A_ (Kd.N_afterv (ok := (fun k_ => (w.heap.size ≤ k_) ∧ k_ ≠ gb359)) (by (with_reducible repeat (first | apply Kd.N_alloc | apply Kd.N_drewN | apply Kd.N_drew)); exact Kd.N_mono HO373.out (fun _ hk => ⟨⟨hk.1, hk.2.2⟩, hk.2.1⟩)) hg hat)
   replace HB := A_ (hb)
   have HO376 := A_ (ho)
   clear HO366
   clear ho hb hg hat
   refine hK.out _ _ trivial (fun hHeld => ?_)
   clear hK K
   refine no_ (some 28) ?_
   refine pu_ (i := 10) (N := some 4) ?_
   refine pu_ (i := 11) (N := some 5) ?_
   refine done_ (done_of HT_.out (by kernel_rfl)) ?_
   (try clear hHeld)
   try go_wp2
   go_ret2
   exact ⟨_, by first | rfl | (simp [errW_none, errW_some] <;> rfl) | (simp only [← hji10]; first | rfl | (simp [errW_none, errW_some] <;> rfl)) | (simp [*, errW_none, errW_some] <;> rfl), by (with_reducible repeat (first | apply Kd.N_alloc | apply Kd.N_drewN | apply Kd.N_drew)); exact Kd.N_mono HO376.out (fun _ hk => hk.1), bG_ GE359.out⟩
end Go.Proofs.Ytiddgglidkbipaa.Q
