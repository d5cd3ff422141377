-- PRINTED by print.py (a twelfth state) out of the translation. Not trusted: Lean checks it.
import Derived.Test.YtiddgglidkbipaaVMayTurnQx0
import Derived.Test.YtiddgglidkbipaaVMayTurnQx1
import Derived.Test.YtiddgglidkbipaaVMayTurnQx2
import Derived.Test.YtiddgglidkbipaaVMayTurnQx5
namespace Go.Proofs.Ytiddgglidkbipaa.Q
open Go.RowKit Go.Proofs.YtiddgglidkbipaaW.PrintWords Go.Proofs.YtiddgglidkbipaaW.PrintLast Go.Proofs.YtiddgglidkbipaaW.PrintMore
attribute [local go_sem] max2_int min2_int max_two min_two max_three min_three max_four min_four   -- for this text's walks alone
set_option linter.unusedVariables false
set_option linter.unusedSimpArgs false

/-! ### impl_MayTurn: function 29 -/
mutual
def impl_MayTurn.l0 : Nat → List ByteArray → Bool → List Int → Bool → Bool → List (S28) → Int → Int → Option (Bool)
  | 0, _, _, _, _, _, _, _, _ => none
  | k + 1, x1, x2, x3, x9, x10, x14, x15, x16 => if x16 < x15 then (if 0 ≤ x16 then (if x16 < (x14.length : Int) then ((impl_Covers.f k ((rd_T28 x14 x16).f0) ((rd_T28 x14 x16).f1) ((rd_T28 x14 x16).f2) ((rd_T28 x14 x16).f3) ((rd_T28 x14 x16).f4) x1).bind fun t272 => (if t272 = true then (impl_MayTurn.j1 k x1 x2 x3 x9 x10 x14 x15 x16 false ((rd_T28 x14 x16).f0) ((rd_T28 x14 x16).f1) ((rd_T28 x14 x16).f2) ((rd_T28 x14 x16).f3) ((rd_T28 x14 x16).f4)) else (if x2 = true then ((impl_Under.f k ((rd_T28 x14 x16).f1) x1).bind fun t273 => (impl_MayTurn.j1 k x1 x2 x3 x9 x10 x14 x15 x16 (!t273) ((rd_T28 x14 x16).f0) ((rd_T28 x14 x16).f1) ((rd_T28 x14 x16).f2) ((rd_T28 x14 x16).f3) ((rd_T28 x14 x16).f4))) else (impl_MayTurn.j1 k x1 x2 x3 x9 x10 x14 x15 x16 (!false) ((rd_T28 x14 x16).f0) ((rd_T28 x14 x16).f1) ((rd_T28 x14 x16).f2) ((rd_T28 x14 x16).f3) ((rd_T28 x14 x16).f4))))) else (none)) else (none)) else (if x9 = true then (some x10) else (some true))
def impl_MayTurn.j1 : Nat → List ByteArray → Bool → List Int → Bool → Bool → List (S28) → Int → Int → Bool → Int → List ByteArray → Bool → Bool → Int → Option (Bool)
  | 0, _, _, _, _, _, _, _, _, _, _, _, _, _, _ => none
  | k + 1, x1, x2, x3, x9, x10, x14, x15, x16, x33, x272000, x272001, x272002, x272003, x272004 => if x33 = true then (impl_MayTurn.l0 k x1 x2 x3 x9 x10 x14 x15 (wrap64 (x16 + 1))) else ((impl_hasInt.f k x3 x272000).bind fun t274 => (if x272003 = true then (if x9 = true then (if x10 = true then (impl_MayTurn.l0 k x1 x2 x3 true true x14 x15 (wrap64 (x16 + 1))) else (impl_MayTurn.l0 k x1 x2 x3 true t274 x14 x15 (wrap64 (x16 + 1)))) else (if x10 = true then (impl_MayTurn.l0 k x1 x2 x3 x272003 true x14 x15 (wrap64 (x16 + 1))) else (impl_MayTurn.l0 k x1 x2 x3 x272003 t274 x14 x15 (wrap64 (x16 + 1))))) else (if t274 = true then (if x9 = true then (if x10 = true then (impl_MayTurn.l0 k x1 x2 x3 true true x14 x15 (wrap64 (x16 + 1))) else (impl_MayTurn.l0 k x1 x2 x3 true false x14 x15 (wrap64 (x16 + 1)))) else (if x10 = true then (impl_MayTurn.l0 k x1 x2 x3 x272003 true x14 x15 (wrap64 (x16 + 1))) else (impl_MayTurn.l0 k x1 x2 x3 x272003 false x14 x15 (wrap64 (x16 + 1))))) else (some false))))
end
def impl_MayTurn.f (k : Nat) (l0 : List (S28)) (l1 : List ByteArray) (a2 : Bool) (l3 : List Int) : Option (Bool) := impl_MayTurn.l0 k l1 a2 l3 false false l0 (l0.length : Int) 0
theorem impl_MayTurn.mono_l : ∀ k, (∀ y0 y1 y2 y3 y4 y5 y6 y7, LeO (impl_MayTurn.l0 k y0 y1 y2 y3 y4 y5 y6 y7) (impl_MayTurn.l0 (k + 1) y0 y1 y2 y3 y4 y5 y6 y7)) ∧ (∀ y0 y1 y2 y3 y4 y5 y6 y7 y8 y9 y10 y11 y12 y13, LeO (impl_MayTurn.j1 k y0 y1 y2 y3 y4 y5 y6 y7 y8 y9 y10 y11 y12 y13) (impl_MayTurn.j1 (k + 1) y0 y1 y2 y3 y4 y5 y6 y7 y8 y9 y10 y11 y12 y13))
  | 0 => ⟨fun _ _ _ _ _ _ _ _ r h => by simp [impl_MayTurn.l0] at h, fun _ _ _ _ _ _ _ _ _ _ _ _ _ _ r h => by simp [impl_MayTurn.j1] at h⟩
  | k + 1 => by
    obtain ⟨ih0, ih1⟩ := impl_MayTurn.mono_l k
    refine ⟨?_, ?_⟩
    · intro y0 y1 y2 y3 y4 y5 y6 y7
      unfold impl_MayTurn.l0
      repeat' first
      | (with_reducible exact ih0 _ _ _ _ _ _ _ _)
      | (with_reducible exact ih1 _ _ _ _ _ _ _ _ _ _ _ _ _ _)
      | (with_reducible exact impl_Covers.mono _ _ _ _ _ _ _)
      | (with_reducible exact impl_Under.mono _ _ _)
      | (with_reducible exact impl_hasInt.mono _ _ _)
      | (with_reducible exact LeO.refl _)
      | (with_reducible exact LeO.none _)
      | (with_reducible refine LeO.ite ?_ ?_)
      | (with_reducible refine LeO.bind ?_ (fun _ => ?_))
      | exact ih0 _ _ _ _ _ _ _ _
      | exact ih1 _ _ _ _ _ _ _ _ _ _ _ _ _ _
      | exact impl_Covers.mono _ _ _ _ _ _ _
      | exact impl_Under.mono _ _ _
      | exact impl_hasInt.mono _ _ _
      | exact LeO.none _
      | refine LeO.ite ?_ ?_
      | refine LeO.bind ?_ (fun _ => ?_)
    · intro y0 y1 y2 y3 y4 y5 y6 y7 y8 y9 y10 y11 y12 y13
      unfold impl_MayTurn.j1
      repeat' first
      | (with_reducible exact ih0 _ _ _ _ _ _ _ _)
      | (with_reducible exact ih1 _ _ _ _ _ _ _ _ _ _ _ _ _ _)
      | (with_reducible exact impl_Covers.mono _ _ _ _ _ _ _)
      | (with_reducible exact impl_Under.mono _ _ _)
      | (with_reducible exact impl_hasInt.mono _ _ _)
      | (with_reducible exact LeO.refl _)
      | (with_reducible exact LeO.none _)
      | (with_reducible refine LeO.ite ?_ ?_)
      | (with_reducible refine LeO.bind ?_ (fun _ => ?_))
      | exact ih0 _ _ _ _ _ _ _ _
      | exact ih1 _ _ _ _ _ _ _ _ _ _ _ _ _ _
      | exact impl_Covers.mono _ _ _ _ _ _ _
      | exact impl_Under.mono _ _ _
      | exact impl_hasInt.mono _ _ _
      | exact LeO.none _
      | refine LeO.ite ?_ ?_
      | refine LeO.bind ?_ (fun _ => ?_)
theorem impl_MayTurn.mono : ∀ a0 a1 a2 a3 k, LeO (impl_MayTurn.f k a0 a1 a2 a3) (impl_MayTurn.f (k + 1) a0 a1 a2 a3) := by
  intro a0 a1 a2 a3 k
  obtain ⟨ih0, ih1⟩ := impl_MayTurn.mono_l k
  unfold impl_MayTurn.f
  repeat' first
      | (with_reducible exact ih0 _ _ _ _ _ _ _ _)
      | (with_reducible exact ih1 _ _ _ _ _ _ _ _ _ _ _ _ _ _)
      | (with_reducible exact impl_Covers.mono _ _ _ _ _ _ _)
      | (with_reducible exact impl_Under.mono _ _ _)
      | (with_reducible exact impl_hasInt.mono _ _ _)
      | (with_reducible exact LeO.refl _)
      | (with_reducible exact LeO.none _)
      | (with_reducible refine LeO.ite ?_ ?_)
      | (with_reducible refine LeO.bind ?_ (fun _ => ?_))
      | exact ih0 _ _ _ _ _ _ _ _
      | exact ih1 _ _ _ _ _ _ _ _ _ _ _ _ _ _
      | exact impl_Covers.mono _ _ _ _ _ _ _
      | exact impl_Under.mono _ _ _
      | exact impl_hasInt.mono _ _ _
      | exact LeO.none _
      | refine LeO.ite ?_ ?_
      | refine LeO.bind ?_ (fun _ => ?_)
set_option maxHeartbeats 8000000 in
set_option maxRecDepth 100000 in
theorem impl_MayTurn.calls (k : Nat) (A0 : Option Addr) (c0 : Nat) (l0 : List (S28)) (A1 : Option Addr) (c1 : Nat) (l1 : List ByteArray) (a2 : Bool) (A3 : Option Addr) (c3 : Nat) (l3 : List Int) (r : Bool) (w : World) (hr0 : Kd.C k28 w A0 l0.length l0) (hc0 : l0.length ≤ c0) (hr1 : Kd.C Kd.string w A1 l1.length l1) (hc1 : l1.length ≤ c1) (hr3 : Kd.C (Kd.int .i64) w A3 l3.length l3) (hc3 : l3.length ≤ c3) (h : impl_MayTurn.f k l0 l1 a2 l3 = some r) :
    Calls Try.prog 29 #[.slice A0 l0.length c0, .slice A1 l1.length c1, .bool a2, .slice A3 l3.length c3] w fun e w' => e = .returned (.bool r) ∧ Below w.heap.size w w' := by
  have hu28 := Try.underlying28
  have HR0 := Aside0.mk hr0
  have HC0 := Aside0.mk hc0
  clear hr0 hc0
  have HR1 := Aside0.mk hr1
  have HC1 := Aside0.mk hc1
  clear hr1 hc1
  have HR3 := Aside0.mk hr3
  have HC3 := Aside0.mk hc3
  clear hr3 hc3
  have HB := Aside0.mk (Below.refl w.heap.size w)
  have H : (impl_MayTurn.l0 k l1 a2 l3 false false l0 (l0.length : Int) 0) = some r := h
  clear h
  have H' := Aside0.mk H
  clear H
  go_enter Try.func29, Try.ntmps29
  go_wp2
  go_loopg [9, 10, 16] k (fun kq v9 v10 v16 w' => ∃ (x9_1 : Bool) (x10_1 : Bool) (x16_1 : Int), v9 = .bool x9_1 ∧ v10 = .bool x10_1 ∧ v16 = .int .i64 x16_1 ∧ Aside0 (impl_MayTurn.l0 kq l1 a2 l3 x9_1 x10_1 l0 (l0.length : Int) x16_1 = some r) ∧ Aside0 (kq ≤ k) ∧ Aside0 (Below w.heap.size w w'))
  case atStart => exact ⟨(false), (false), (0), (by first | rfl | (simp; done) | (simp [*]; done)), (by first | rfl | (simp; done) | (simp [*]; done)), (by first | rfl | (simp; done) | (simp [*]; done)), H', ⟨Nat.le_refl _⟩, ⟨by repeat (first | (with_reducible first | exact HB.out | apply below_alloc | apply pw_below_drewN | apply below_drew1) | exact HB.out)⟩⟩
  case round =>
    clear H'
    try clear c1
    try clear c2
    try clear p2
    try clear c3
    obtain ⟨x9_1, x10_1, x16_1, rfl, rfl, rfl, HA, HK1, HB⟩ := hrel
    cases gk with
    | zero => exact absurd HA.out (by simp [impl_MayTurn.l0])
    | succ k1 =>
      have H := HA.out
      clear HA
      simp only [impl_MayTurn.l0] at H
      by_cases c5 : x16_1 < (l0.length : Int)
      · rw [if_pos c5] at H
        have c5b0 : decide (x16_1 < (l0.length : Int)) = true := decide_eq_true c5
        clear c5
        by_cases c6 : 0 ≤ x16_1
        · rw [if_pos c6] at H
          have c6b0 : decide (0 ≤ x16_1) = true := decide_eq_true c6
          clear c6
          by_cases c7 : x16_1 < (l0.length : Int)
          · rw [if_pos c7] at H
            have c7b0 : decide (x16_1 < (l0.length : Int)) = true := decide_eq_true c7
            clear c7
            have HC8 := Aside0.mk H
            clear H
            have p270 : 0 ≤ (x16_1 : Int) := of_decide_eq_true (by first | (with_reducible assumption) | assumption)
            have q270 : x16_1 < (l0.length : Int) := of_decide_eq_true (by first | (with_reducible assumption) | assumption)
            obtain ⟨ad270, A270_1, c270_1, e270, hx270_0, hx270_1, hx270_2, hx270_3, hx270_4, hl270_1, hi270_1⟩ := at_T28 HR0.out x16_1 p270 q270
            cases e270
            replace hx270_0 := (HB.out.cell (World.block_lt_of_cell? w _ hx270_0)).trans hx270_0
            replace hx270_1 := (HB.out.cell (World.block_lt_of_cell? w _ hx270_1)).trans hx270_1
            replace hx270_2 := (HB.out.cell (World.block_lt_of_cell? w _ hx270_2)).trans hx270_2
            replace hx270_3 := (HB.out.cell (World.block_lt_of_cell? w _ hx270_3)).trans hx270_3
            replace hx270_4 := (HB.out.cell (World.block_lt_of_cell? w _ hx270_4)).trans hx270_4
            have HR270_1 := Aside0.mk hi270_1
            have HC270_1 := Aside0.mk hl270_1
            clear hi270_1 hl270_1
            replace p270 := eq_true p270
            replace q270 := eq_true q270
            go_upto_region 5 with (first | ((with_reducible refine gate_dst (N := 12) rfl ?_); refine box_event ?hg (N := 12) ?hd (cs := #[.int .i64 0, .slice none 0 0, .bool false, .bool false, .int .i64 0]) (t := 28) ?hr ?_; (case hd => rfl); (case hg => rfl); (case hr => first | (go_simp; done) | (go_simp; rfl)); intro gb271 hg w9 hbox hb; have n0_ := Aside0.mk (below_step (by repeat (first | (with_reducible first | exact HB.out | apply below_alloc | apply pw_below_drewN | apply below_drew1) | exact HB.out)) hb); have n1_ := Aside0.mk (hbox); have n2_ := Aside0.mk ((by rw [hg]; exact (below_size (by repeat (first | (with_reducible first | exact HB.out | apply below_alloc | apply pw_below_drewN | apply below_drew1) | exact HB.out))) : w.heap.size ≤ gb271)); have n3_ := Aside0.mk ((by rw [hg]; exact (below_size (by repeat (first | (with_reducible first | exact HB.out | apply below_alloc | apply pw_below_drewN | apply below_drew1) | exact HB.out))) : w.heap.size ≤ gb271)); clear HB; have HB := n0_; have BK271 := n1_; have GW271 := n2_; have GE271 := n3_; clear n0_ n1_ n2_ n3_; clear hb hbox hg; have hcz10_0 : w9.cell? ⟨gb271, 0, none⟩ = some (.int .i64 0) := (blk_cell BK271.out 0).trans rfl; have hcz10_1 : w9.cell? ⟨gb271, 1, none⟩ = some (.slice none 0 0) := (blk_cell BK271.out 1).trans rfl; have hcz10_2 : w9.cell? ⟨gb271, 2, none⟩ = some (.bool false) := (blk_cell BK271.out 2).trans rfl; have hcz10_3 : w9.cell? ⟨gb271, 3, none⟩ = some (.bool false) := (blk_cell BK271.out 3).trans rfl; have hcz10_4 : w9.cell? ⟨gb271, 4, none⟩ = some (.int .i64 0) := (blk_cell BK271.out 4).trans rfl; have hfz10_0 := blk_frozen BK271.out 0; have hfz10_1 := blk_frozen BK271.out 1; have hfz10_2 := blk_frozen BK271.out 2; have hfz10_3 := blk_frozen BK271.out 3; have hfz10_4 := blk_frozen BK271.out 4))
            (try simp only [Act.put, List.setIfInBounds_toArray, List.set_cons_zero, List.set_cons_succ])
            go_cut [33] (fun v33 wc => ∃ (kq : Nat) (x33_7 : Bool), v33 = .bool x33_7 ∧ Aside0 (impl_MayTurn.j1 kq l1 a2 l3 x9_1 x10_1 l0 (l0.length : Int) x16_1 x33_7 ((rd_T28 l0 x16_1).f0) ((rd_T28 l0 x16_1).f1) ((rd_T28 l0 x16_1).f2) ((rd_T28 l0 x16_1).f3) ((rd_T28 l0 x16_1).f4) = some r) ∧ Aside0 (kq ≤ k1) ∧ Aside0 (wc.heap[gb271]? = some (.cells #[.int .i64 ((rd_T28 l0 x16_1).f0), (.slice A270_1 ((rd_T28 l0 x16_1).f1).length c270_1), .bool ((rd_T28 l0 x16_1).f2), .bool ((rd_T28 l0 x16_1).f3), .int .i64 ((rd_T28 l0 x16_1).f4)] 28 (0, 0))) ∧ Aside0 (Below w.heap.size w wc))
            case first =>
              have H := HC8.out
              clear HC8
              replace H := Option.bind_eq_some_iff.mp H
              obtain ⟨t272, A110, H⟩ := H
              replace H : (if t272 = true then (impl_MayTurn.j1 k1 l1 a2 l3 x9_1 x10_1 l0 (l0.length : Int) x16_1 false ((rd_T28 l0 x16_1).f0) ((rd_T28 l0 x16_1).f1) ((rd_T28 l0 x16_1).f2) ((rd_T28 l0 x16_1).f3) ((rd_T28 l0 x16_1).f4)) else (if a2 = true then ((impl_Under.f k1 ((rd_T28 l0 x16_1).f1) l1).bind fun t273 => (impl_MayTurn.j1 k1 l1 a2 l3 x9_1 x10_1 l0 (l0.length : Int) x16_1 (!t273) ((rd_T28 l0 x16_1).f0) ((rd_T28 l0 x16_1).f1) ((rd_T28 l0 x16_1).f2) ((rd_T28 l0 x16_1).f3) ((rd_T28 l0 x16_1).f4))) else (impl_MayTurn.j1 k1 l1 a2 l3 x9_1 x10_1 l0 (l0.length : Int) x16_1 (!false) ((rd_T28 l0 x16_1).f0) ((rd_T28 l0 x16_1).f1) ((rd_T28 l0 x16_1).f2) ((rd_T28 l0 x16_1).f3) ((rd_T28 l0 x16_1).f4)))) = some r := H
              have A11 := Aside0.mk A110
              clear A110
              by_cases c12 : t272 = true
              · subst c12
                have H1 : (impl_MayTurn.j1 k1 l1 a2 l3 x9_1 x10_1 l0 (l0.length : Int) x16_1 false ((rd_T28 l0 x16_1).f0) ((rd_T28 l0 x16_1).f1) ((rd_T28 l0 x16_1).f2) ((rd_T28 l0 x16_1).f3) ((rd_T28 l0 x16_1).f4)) = some r := by rw [if_pos rfl] at H; exact H
                clear H
                have H := H1
                clear H1
                have H' := Aside0.mk H
                clear H
                have hcz13_0 : w9.cell? ⟨gb271, 0, none⟩ = some (.int .i64 0) := (blk_cell BK271.out 0).trans rfl
                have hcz13_1 : w9.cell? ⟨gb271, 1, none⟩ = some (.slice none 0 0) := (blk_cell BK271.out 1).trans rfl
                have hcz13_2 : w9.cell? ⟨gb271, 2, none⟩ = some (.bool false) := (blk_cell BK271.out 2).trans rfl
                have hcz13_3 : w9.cell? ⟨gb271, 3, none⟩ = some (.bool false) := (blk_cell BK271.out 3).trans rfl
                have hcz13_4 : w9.cell? ⟨gb271, 4, none⟩ = some (.int .i64 0) := (blk_cell BK271.out 4).trans rfl
                have hfz13_0 := blk_frozen BK271.out 0
                have hfz13_1 := blk_frozen BK271.out 1
                have hfz13_2 := blk_frozen BK271.out 2
                have hfz13_3 := blk_frozen BK271.out 3
                have hfz13_4 := blk_frozen BK271.out 4
                go_wp2_with (first | ((with_reducible refine gate_callee (f := 20) rfl ?_); refine goesL_ (some 22) rfl rfl Try.func20 (by kernel_rfl) rfl #[.agg #[.int .i64 ((rd_T28 l0 x16_1).f0), .slice A270_1 ((rd_T28 l0 x16_1).f1).length c270_1, .bool ((rd_T28 l0 x16_1).f2), .bool ((rd_T28 l0 x16_1).f3), .int .i64 ((rd_T28 l0 x16_1).f4)], .slice A1 l1.length c1] rfl (by (try simp only [List.map_toArray, List.map_cons, List.map_nil]); first | done | rfl | (simp only [List.length_drop, List.length_take]; rfl)) ?_; (with_reducible refine (impl_Covers.calls k1 ((rd_T28 l0 x16_1).f0) _ _ ((rd_T28 l0 x16_1).f1) ((rd_T28 l0 x16_1).f2) ((rd_T28 l0 x16_1).f3) ((rd_T28 l0 x16_1).f4) _ _ l1 true _ ?side1 ?side2 ?side3 ?side4 A11.out).mono ?_); (case side1 => exact Kd.C_below HR270_1.out (by repeat (first | (with_reducible first | exact HB.out | apply below_alloc | apply pw_below_drewN | apply below_drew1 | refine below_set ?_ GE271.out) | exact HB.out))); (case side2 => exact HC270_1.out); (case side3 => exact Kd.C_below HR1.out (by repeat (first | (with_reducible first | exact HB.out | apply below_alloc | apply pw_below_drewN | apply below_drew1 | refine below_set ?_ GE271.out) | exact HB.out))); (case side4 => exact HC1.out); rintro e w14 ⟨rfl, hb⟩; refine ⟨_, rfl, ?_⟩; have n0_ := Aside0.mk (blk_below (g := gb271) (o := .cells #[.int .i64 ((rd_T28 l0 x16_1).f0), .slice A270_1 ((rd_T28 l0 x16_1).f1).length c270_1, .bool ((rd_T28 l0 x16_1).f2), .bool ((rd_T28 l0 x16_1).f3), .int .i64 ((rd_T28 l0 x16_1).f4)] 28 (0, 0)) (by (with_reducible repeat (first | refine blk_drewN ?_ _ | refine blk_drew ?_ | refine blk_alloc ?_ _)); refine blk_put (cs := #[.int .i64 ((rd_T28 l0 x16_1).f0), .slice A270_1 ((rd_T28 l0 x16_1).f1).length c270_1, .bool ((rd_T28 l0 x16_1).f2), .bool ((rd_T28 l0 x16_1).f3), .int .i64 0]) ?_ 4 _ rfl; (with_reducible repeat (first | refine blk_drewN ?_ _ | refine blk_drew ?_ | refine blk_alloc ?_ _)); refine blk_put (cs := #[.int .i64 ((rd_T28 l0 x16_1).f0), .slice A270_1 ((rd_T28 l0 x16_1).f1).length c270_1, .bool ((rd_T28 l0 x16_1).f2), .bool false, .int .i64 0]) ?_ 3 _ rfl; (with_reducible repeat (first | refine blk_drewN ?_ _ | refine blk_drew ?_ | refine blk_alloc ?_ _)); refine blk_put (cs := #[.int .i64 ((rd_T28 l0 x16_1).f0), .slice A270_1 ((rd_T28 l0 x16_1).f1).length c270_1, .bool false, .bool false, .int .i64 0]) ?_ 2 _ rfl; (with_reducible repeat (first | refine blk_drewN ?_ _ | refine blk_drew ?_ | refine blk_alloc ?_ _)); refine blk_put (cs := #[.int .i64 ((rd_T28 l0 x16_1).f0), .slice none 0 0, .bool false, .bool false, .int .i64 0]) ?_ 1 _ rfl; (with_reducible repeat (first | refine blk_drewN ?_ _ | refine blk_drew ?_ | refine blk_alloc ?_ _)); refine blk_put (cs := #[.int .i64 0, .slice none 0 0, .bool false, .bool false, .int .i64 0]) ?_ 0 _ rfl; (with_reducible repeat (first | refine blk_drewN ?_ _ | refine blk_drew ?_ | refine blk_alloc ?_ _)); exact BK271.out) hb); have n1_ := Aside0.mk (below_step (by repeat (first | (with_reducible first | exact HB.out | apply below_alloc | apply pw_below_drewN | apply below_drew1 | refine below_set ?_ GE271.out) | exact HB.out)) hb); clear BK271; clear HB; have BK271 := n0_; have HB := n1_; clear n0_ n1_; (try clear hb); (try clear hb2); (try clear hk); (try clear hi)))
                go_meet
                case rel => exact ⟨_, (false), (by first | rfl | (simp; done) | (simp [*]; done)), H', ⟨by have := HK1.out; first | omega | exact Nat.le_refl _⟩, ⟨by (with_reducible repeat (first | refine blk_drewN ?_ _ | refine blk_drew ?_ | refine blk_alloc ?_ _)); exact BK271.out⟩, ⟨by repeat (first | (with_reducible first | exact HB.out | apply below_alloc | apply pw_below_drewN | apply below_drew1 | refine below_set ?_ GE271.out) | exact HB.out)⟩⟩
              · replace c12 := Bool.eq_false_iff.mpr c12
                subst c12
                have H1 : (if a2 = true then ((impl_Under.f k1 ((rd_T28 l0 x16_1).f1) l1).bind fun t273 => (impl_MayTurn.j1 k1 l1 a2 l3 x9_1 x10_1 l0 (l0.length : Int) x16_1 (!t273) ((rd_T28 l0 x16_1).f0) ((rd_T28 l0 x16_1).f1) ((rd_T28 l0 x16_1).f2) ((rd_T28 l0 x16_1).f3) ((rd_T28 l0 x16_1).f4))) else (impl_MayTurn.j1 k1 l1 a2 l3 x9_1 x10_1 l0 (l0.length : Int) x16_1 (!false) ((rd_T28 l0 x16_1).f0) ((rd_T28 l0 x16_1).f1) ((rd_T28 l0 x16_1).f2) ((rd_T28 l0 x16_1).f3) ((rd_T28 l0 x16_1).f4))) = some r := by rw [if_neg (show ¬ (false = true) by decide)] at H; exact H
                clear H
                have H := H1
                clear H1
                by_cases c15 : a2 = true
                · subst c15
                  have H1 : ((impl_Under.f k1 ((rd_T28 l0 x16_1).f1) l1).bind fun t273 => (impl_MayTurn.j1 k1 l1 true l3 x9_1 x10_1 l0 (l0.length : Int) x16_1 (!t273) ((rd_T28 l0 x16_1).f0) ((rd_T28 l0 x16_1).f1) ((rd_T28 l0 x16_1).f2) ((rd_T28 l0 x16_1).f3) ((rd_T28 l0 x16_1).f4))) = some r := by rw [if_pos rfl] at H; exact H
                  clear H
                  have H := H1
                  clear H1
                  replace H := Option.bind_eq_some_iff.mp H
                  obtain ⟨t273, A160, H⟩ := H
                  replace H : (impl_MayTurn.j1 k1 l1 true l3 x9_1 x10_1 l0 (l0.length : Int) x16_1 (!t273) ((rd_T28 l0 x16_1).f0) ((rd_T28 l0 x16_1).f1) ((rd_T28 l0 x16_1).f2) ((rd_T28 l0 x16_1).f3) ((rd_T28 l0 x16_1).f4)) = some r := H
                  have A16 := Aside0.mk A160
                  clear A160
                  have H' := Aside0.mk H
                  clear H
                  have hcz17_0 : w9.cell? ⟨gb271, 0, none⟩ = some (.int .i64 0) := (blk_cell BK271.out 0).trans rfl
                  have hcz17_1 : w9.cell? ⟨gb271, 1, none⟩ = some (.slice none 0 0) := (blk_cell BK271.out 1).trans rfl
                  have hcz17_2 : w9.cell? ⟨gb271, 2, none⟩ = some (.bool false) := (blk_cell BK271.out 2).trans rfl
                  have hcz17_3 : w9.cell? ⟨gb271, 3, none⟩ = some (.bool false) := (blk_cell BK271.out 3).trans rfl
                  have hcz17_4 : w9.cell? ⟨gb271, 4, none⟩ = some (.int .i64 0) := (blk_cell BK271.out 4).trans rfl
                  have hfz17_0 := blk_frozen BK271.out 0
                  have hfz17_1 := blk_frozen BK271.out 1
                  have hfz17_2 := blk_frozen BK271.out 2
                  have hfz17_3 := blk_frozen BK271.out 3
                  have hfz17_4 := blk_frozen BK271.out 4
                  go_wp2_with (first | ((with_reducible refine gate_callee (f := 20) rfl ?_); refine goesL_ (some 22) rfl rfl Try.func20 (by kernel_rfl) rfl #[.agg #[.int .i64 ((rd_T28 l0 x16_1).f0), .slice A270_1 ((rd_T28 l0 x16_1).f1).length c270_1, .bool ((rd_T28 l0 x16_1).f2), .bool ((rd_T28 l0 x16_1).f3), .int .i64 ((rd_T28 l0 x16_1).f4)], .slice A1 l1.length c1] rfl (by (try simp only [List.map_toArray, List.map_cons, List.map_nil]); first | done | rfl | (simp only [List.length_drop, List.length_take]; rfl)) ?_; (with_reducible refine (impl_Covers.calls k1 ((rd_T28 l0 x16_1).f0) _ _ ((rd_T28 l0 x16_1).f1) ((rd_T28 l0 x16_1).f2) ((rd_T28 l0 x16_1).f3) ((rd_T28 l0 x16_1).f4) _ _ l1 false _ ?side1 ?side2 ?side3 ?side4 A11.out).mono ?_); (case side1 => exact Kd.C_below HR270_1.out (by repeat (first | (with_reducible first | exact HB.out | apply below_alloc | apply pw_below_drewN | apply below_drew1 | refine below_set ?_ GE271.out) | exact HB.out))); (case side2 => exact HC270_1.out); (case side3 => exact Kd.C_below HR1.out (by repeat (first | (with_reducible first | exact HB.out | apply below_alloc | apply pw_below_drewN | apply below_drew1 | refine below_set ?_ GE271.out) | exact HB.out))); (case side4 => exact HC1.out); rintro e w18 ⟨rfl, hb⟩; refine ⟨_, rfl, ?_⟩; have n0_ := Aside0.mk (blk_below (g := gb271) (o := .cells #[.int .i64 ((rd_T28 l0 x16_1).f0), .slice A270_1 ((rd_T28 l0 x16_1).f1).length c270_1, .bool ((rd_T28 l0 x16_1).f2), .bool ((rd_T28 l0 x16_1).f3), .int .i64 ((rd_T28 l0 x16_1).f4)] 28 (0, 0)) (by (with_reducible repeat (first | refine blk_drewN ?_ _ | refine blk_drew ?_ | refine blk_alloc ?_ _)); refine blk_put (cs := #[.int .i64 ((rd_T28 l0 x16_1).f0), .slice A270_1 ((rd_T28 l0 x16_1).f1).length c270_1, .bool ((rd_T28 l0 x16_1).f2), .bool ((rd_T28 l0 x16_1).f3), .int .i64 0]) ?_ 4 _ rfl; (with_reducible repeat (first | refine blk_drewN ?_ _ | refine blk_drew ?_ | refine blk_alloc ?_ _)); refine blk_put (cs := #[.int .i64 ((rd_T28 l0 x16_1).f0), .slice A270_1 ((rd_T28 l0 x16_1).f1).length c270_1, .bool ((rd_T28 l0 x16_1).f2), .bool false, .int .i64 0]) ?_ 3 _ rfl; (with_reducible repeat (first | refine blk_drewN ?_ _ | refine blk_drew ?_ | refine blk_alloc ?_ _)); refine blk_put (cs := #[.int .i64 ((rd_T28 l0 x16_1).f0), .slice A270_1 ((rd_T28 l0 x16_1).f1).length c270_1, .bool false, .bool false, .int .i64 0]) ?_ 2 _ rfl; (with_reducible repeat (first | refine blk_drewN ?_ _ | refine blk_drew ?_ | refine blk_alloc ?_ _)); refine blk_put (cs := #[.int .i64 ((rd_T28 l0 x16_1).f0), .slice none 0 0, .bool false, .bool false, .int .i64 0]) ?_ 1 _ rfl; (with_reducible repeat (first | refine blk_drewN ?_ _ | refine blk_drew ?_ | refine blk_alloc ?_ _)); refine blk_put (cs := #[.int .i64 0, .slice none 0 0, .bool false, .bool false, .int .i64 0]) ?_ 0 _ rfl; (with_reducible repeat (first | refine blk_drewN ?_ _ | refine blk_drew ?_ | refine blk_alloc ?_ _)); exact BK271.out) hb); have n1_ := Aside0.mk (below_step (by repeat (first | (with_reducible first | exact HB.out | apply below_alloc | apply pw_below_drewN | apply below_drew1 | refine below_set ?_ GE271.out) | exact HB.out)) hb); clear BK271; clear HB; have BK271 := n0_; have HB := n1_; clear n0_ n1_; (try clear hb); (try clear hb2); (try clear hk); (try clear hi); have hcz19_0 : w18.cell? ⟨gb271, 0, none⟩ = some (.int .i64 ((rd_T28 l0 x16_1).f0)) := (blk_cell BK271.out 0).trans rfl; have hcz19_1 : w18.cell? ⟨gb271, 1, none⟩ = some (.slice A270_1 ((rd_T28 l0 x16_1).f1).length c270_1) := (blk_cell BK271.out 1).trans rfl; have hcz19_2 : w18.cell? ⟨gb271, 2, none⟩ = some (.bool ((rd_T28 l0 x16_1).f2)) := (blk_cell BK271.out 2).trans rfl; have hcz19_3 : w18.cell? ⟨gb271, 3, none⟩ = some (.bool ((rd_T28 l0 x16_1).f3)) := (blk_cell BK271.out 3).trans rfl; have hcz19_4 : w18.cell? ⟨gb271, 4, none⟩ = some (.int .i64 ((rd_T28 l0 x16_1).f4)) := (blk_cell BK271.out 4).trans rfl; have hfz19_0 := blk_frozen BK271.out 0; have hfz19_1 := blk_frozen BK271.out 1; have hfz19_2 := blk_frozen BK271.out 2; have hfz19_3 := blk_frozen BK271.out 3; have hfz19_4 := blk_frozen BK271.out 4) | (go_at_call 65; (with_reducible refine (impl_Under.calls k1 _ _ ((rd_T28 l0 x16_1).f1) _ _ l1 t273 _ ?side1 ?side2 ?side3 ?side4 A16.out).mono ?_); (case side1 => repeat (first | exact (Kd.C_below HR270_1.out HB.out) | (with_reducible refine Kd.C_alloc ?_ _) | (with_reducible refine Kd.C_drewN ?_ _) | (with_reducible refine Kd.C_drew ?_))); (case side2 => exact HC270_1.out); (case side3 => repeat (first | exact (Kd.C_below HR1.out HB.out) | (with_reducible refine Kd.C_alloc ?_ _) | (with_reducible refine Kd.C_drewN ?_ _) | (with_reducible refine Kd.C_drew ?_))); (case side4 => exact HC1.out); rintro e w' ⟨rfl, ⟨nd, rfl⟩⟩))
                  go_meet
                  case rel => exact ⟨_, (!t273), (by first | rfl | (simp; done) | (simp [*]; done)), H', ⟨by have := HK1.out; first | omega | exact Nat.le_refl _⟩, ⟨by (with_reducible repeat (first | refine blk_drewN ?_ _ | refine blk_drew ?_ | refine blk_alloc ?_ _)); exact BK271.out⟩, ⟨by repeat (first | (with_reducible first | exact HB.out | apply below_alloc | apply pw_below_drewN | apply below_drew1 | refine below_set ?_ GE271.out) | exact HB.out)⟩⟩
                · replace c15 := Bool.eq_false_iff.mpr c15
                  subst c15
                  have H1 : (impl_MayTurn.j1 k1 l1 false l3 x9_1 x10_1 l0 (l0.length : Int) x16_1 (!false) ((rd_T28 l0 x16_1).f0) ((rd_T28 l0 x16_1).f1) ((rd_T28 l0 x16_1).f2) ((rd_T28 l0 x16_1).f3) ((rd_T28 l0 x16_1).f4)) = some r := by rw [if_neg (show ¬ (false = true) by decide)] at H; exact H
                  clear H
                  have H := H1
                  clear H1
                  have H' := Aside0.mk H
                  clear H
                  have hcz20_0 : w9.cell? ⟨gb271, 0, none⟩ = some (.int .i64 0) := (blk_cell BK271.out 0).trans rfl
                  have hcz20_1 : w9.cell? ⟨gb271, 1, none⟩ = some (.slice none 0 0) := (blk_cell BK271.out 1).trans rfl
                  have hcz20_2 : w9.cell? ⟨gb271, 2, none⟩ = some (.bool false) := (blk_cell BK271.out 2).trans rfl
                  have hcz20_3 : w9.cell? ⟨gb271, 3, none⟩ = some (.bool false) := (blk_cell BK271.out 3).trans rfl
                  have hcz20_4 : w9.cell? ⟨gb271, 4, none⟩ = some (.int .i64 0) := (blk_cell BK271.out 4).trans rfl
                  have hfz20_0 := blk_frozen BK271.out 0
                  have hfz20_1 := blk_frozen BK271.out 1
                  have hfz20_2 := blk_frozen BK271.out 2
                  have hfz20_3 := blk_frozen BK271.out 3
                  have hfz20_4 := blk_frozen BK271.out 4
                  go_wp2_with (first | ((with_reducible refine gate_callee (f := 20) rfl ?_); refine goesL_ (some 22) rfl rfl Try.func20 (by kernel_rfl) rfl #[.agg #[.int .i64 ((rd_T28 l0 x16_1).f0), .slice A270_1 ((rd_T28 l0 x16_1).f1).length c270_1, .bool ((rd_T28 l0 x16_1).f2), .bool ((rd_T28 l0 x16_1).f3), .int .i64 ((rd_T28 l0 x16_1).f4)], .slice A1 l1.length c1] rfl (by (try simp only [List.map_toArray, List.map_cons, List.map_nil]); first | done | rfl | (simp only [List.length_drop, List.length_take]; rfl)) ?_; (with_reducible refine (impl_Covers.calls k1 ((rd_T28 l0 x16_1).f0) _ _ ((rd_T28 l0 x16_1).f1) ((rd_T28 l0 x16_1).f2) ((rd_T28 l0 x16_1).f3) ((rd_T28 l0 x16_1).f4) _ _ l1 false _ ?side1 ?side2 ?side3 ?side4 A11.out).mono ?_); (case side1 => exact Kd.C_below HR270_1.out (by repeat (first | (with_reducible first | exact HB.out | apply below_alloc | apply pw_below_drewN | apply below_drew1 | refine below_set ?_ GE271.out) | exact HB.out))); (case side2 => exact HC270_1.out); (case side3 => exact Kd.C_below HR1.out (by repeat (first | (with_reducible first | exact HB.out | apply below_alloc | apply pw_below_drewN | apply below_drew1 | refine below_set ?_ GE271.out) | exact HB.out))); (case side4 => exact HC1.out); rintro e w21 ⟨rfl, hb⟩; refine ⟨_, rfl, ?_⟩; have n0_ := Aside0.mk (blk_below (g := gb271) (o := .cells #[.int .i64 ((rd_T28 l0 x16_1).f0), .slice A270_1 ((rd_T28 l0 x16_1).f1).length c270_1, .bool ((rd_T28 l0 x16_1).f2), .bool ((rd_T28 l0 x16_1).f3), .int .i64 ((rd_T28 l0 x16_1).f4)] 28 (0, 0)) (by (with_reducible repeat (first | refine blk_drewN ?_ _ | refine blk_drew ?_ | refine blk_alloc ?_ _)); refine blk_put (cs := #[.int .i64 ((rd_T28 l0 x16_1).f0), .slice A270_1 ((rd_T28 l0 x16_1).f1).length c270_1, .bool ((rd_T28 l0 x16_1).f2), .bool ((rd_T28 l0 x16_1).f3), .int .i64 0]) ?_ 4 _ rfl; (with_reducible repeat (first | refine blk_drewN ?_ _ | refine blk_drew ?_ | refine blk_alloc ?_ _)); refine blk_put (cs := #[.int .i64 ((rd_T28 l0 x16_1).f0), .slice A270_1 ((rd_T28 l0 x16_1).f1).length c270_1, .bool ((rd_T28 l0 x16_1).f2), .bool false, .int .i64 0]) ?_ 3 _ rfl; (with_reducible repeat (first | refine blk_drewN ?_ _ | refine blk_drew ?_ | refine blk_alloc ?_ _)); refine blk_put (cs := #[.int .i64 ((rd_T28 l0 x16_1).f0), .slice A270_1 ((rd_T28 l0 x16_1).f1).length c270_1, .bool false, .bool false, .int .i64 0]) ?_ 2 _ rfl; (with_reducible repeat (first | refine blk_drewN ?_ _ | refine blk_drew ?_ | refine blk_alloc ?_ _)); refine blk_put (cs := #[.int .i64 ((rd_T28 l0 x16_1).f0), .slice none 0 0, .bool false, .bool false, .int .i64 0]) ?_ 1 _ rfl; (with_reducible repeat (first | refine blk_drewN ?_ _ | refine blk_drew ?_ | refine blk_alloc ?_ _)); refine blk_put (cs := #[.int .i64 0, .slice none 0 0, .bool false, .bool false, .int .i64 0]) ?_ 0 _ rfl; (with_reducible repeat (first | refine blk_drewN ?_ _ | refine blk_drew ?_ | refine blk_alloc ?_ _)); exact BK271.out) hb); have n1_ := Aside0.mk (below_step (by repeat (first | (with_reducible first | exact HB.out | apply below_alloc | apply pw_below_drewN | apply below_drew1 | refine below_set ?_ GE271.out) | exact HB.out)) hb); clear BK271; clear HB; have BK271 := n0_; have HB := n1_; clear n0_ n1_; (try clear hb); (try clear hb2); (try clear hk); (try clear hi)))
                  go_meet
                  case rel => exact ⟨_, (!false), (by first | rfl | (simp; done) | (simp [*]; done)), H', ⟨by have := HK1.out; first | omega | exact Nat.le_refl _⟩, ⟨by (with_reducible repeat (first | refine blk_drewN ?_ _ | refine blk_drew ?_ | refine blk_alloc ?_ _)); exact BK271.out⟩, ⟨by repeat (first | (with_reducible first | exact HB.out | apply below_alloc | apply pw_below_drewN | apply below_drew1 | refine below_set ?_ GE271.out) | exact HB.out)⟩⟩
            case rest =>
              clear HC8
              try clear c1
              try clear c2
              try clear p2
              try clear q2
              try clear hx2
              try clear c3
              try clear c5
              try clear c5b0
              try clear c6
              try clear c6b0
              try clear c7
              try clear c7b0
              try clear c12
              try clear c15
              try clear c20
              try clear hcz10_0
              try clear hcz10_1
              try clear hcz10_2
              try clear hcz10_3
              try clear hcz10_4
              try clear hcz13_0
              try clear hcz13_1
              try clear hcz13_2
              try clear hcz13_3
              try clear hcz13_4
              try clear hcz17_0
              try clear hcz17_1
              try clear hcz17_2
              try clear hcz17_3
              try clear hcz17_4
              try clear hcz19_0
              try clear hcz19_1
              try clear hcz19_2
              try clear hcz19_3
              try clear hcz19_4
              try clear hcz20_0
              try clear hcz20_1
              try clear hcz20_2
              try clear hcz20_3
              try clear hcz20_4
              try clear hfz10_0
              try clear hfz10_1
              try clear hfz10_2
              try clear hfz10_3
              try clear hfz10_4
              try clear hfz13_0
              try clear hfz13_1
              try clear hfz13_2
              try clear hfz13_3
              try clear hfz13_4
              try clear hfz17_0
              try clear hfz17_1
              try clear hfz17_2
              try clear hfz17_3
              try clear hfz17_4
              try clear hfz19_0
              try clear hfz19_1
              try clear hfz19_2
              try clear hfz19_3
              try clear hfz19_4
              try clear hfz20_0
              try clear hfz20_1
              try clear hfz20_2
              try clear hfz20_3
              try clear hfz20_4
              try clear hx270_0
              try clear hx270_1
              try clear hx270_2
              try clear hx270_3
              try clear hx270_4
              try clear p2
              try clear p270
              try clear q270
              obtain ⟨kq, x33_7, rfl, HA, HJ7, BK271, HB⟩ := hcut
              cases kq with
              | zero => exact absurd HA.out (by simp [impl_MayTurn.j1])
              | succ kj7 =>
                have H := HA.out
                clear HA
                simp only [impl_MayTurn.j1] at H
                by_cases c22 : x33_7 = true
                · subst c22
                  have H1 : (impl_MayTurn.l0 kj7 l1 a2 l3 x9_1 x10_1 l0 (l0.length : Int) (wrap64 (x16_1 + 1))) = some r := by rw [if_pos rfl] at H; exact H
                  clear H
                  have H := H1
                  clear H1
                  have H' := Aside0.mk H
                  clear H
                  go_wp2
                  go_roundg kj7
                  case measure => have := HK1.out; have := HJ7.out; omega
                  case rel => exact ⟨(x9_1), (x10_1), (wrap64 (x16_1 + 1)), (by first | rfl | (simp; done) | (simp [*]; done)), (by first | rfl | (simp; done) | (simp [*]; done)), (by first | rfl | (simp; done) | (simp [*]; done)), H', ⟨by have := HK1.out; have := HJ7.out; omega⟩, ⟨by repeat (first | (with_reducible first | exact HB.out | apply below_alloc | apply pw_below_drewN | apply below_drew1 | refine below_set ?_ GE271.out) | exact HB.out)⟩⟩
                · replace c22 := Bool.eq_false_iff.mpr c22
                  subst c22
                  have H1 : ((impl_hasInt.f kj7 l3 ((rd_T28 l0 x16_1).f0)).bind fun t274 => (if ((rd_T28 l0 x16_1).f3) = true then (if x9_1 = true then (if x10_1 = true then (impl_MayTurn.l0 kj7 l1 a2 l3 true true l0 (l0.length : Int) (wrap64 (x16_1 + 1))) else (impl_MayTurn.l0 kj7 l1 a2 l3 true t274 l0 (l0.length : Int) (wrap64 (x16_1 + 1)))) else (if x10_1 = true then (impl_MayTurn.l0 kj7 l1 a2 l3 ((rd_T28 l0 x16_1).f3) true l0 (l0.length : Int) (wrap64 (x16_1 + 1))) else (impl_MayTurn.l0 kj7 l1 a2 l3 ((rd_T28 l0 x16_1).f3) t274 l0 (l0.length : Int) (wrap64 (x16_1 + 1))))) else (if t274 = true then (if x9_1 = true then (if x10_1 = true then (impl_MayTurn.l0 kj7 l1 a2 l3 true true l0 (l0.length : Int) (wrap64 (x16_1 + 1))) else (impl_MayTurn.l0 kj7 l1 a2 l3 true false l0 (l0.length : Int) (wrap64 (x16_1 + 1)))) else (if x10_1 = true then (impl_MayTurn.l0 kj7 l1 a2 l3 ((rd_T28 l0 x16_1).f3) true l0 (l0.length : Int) (wrap64 (x16_1 + 1))) else (impl_MayTurn.l0 kj7 l1 a2 l3 ((rd_T28 l0 x16_1).f3) false l0 (l0.length : Int) (wrap64 (x16_1 + 1))))) else (some false)))) = some r := by rw [if_neg (show ¬ (false = true) by decide)] at H; exact H
                  clear H
                  have H := H1
                  clear H1
                  replace H := Option.bind_eq_some_iff.mp H
                  obtain ⟨t274, A230, H⟩ := H
                  replace H : (if ((rd_T28 l0 x16_1).f3) = true then (if x9_1 = true then (if x10_1 = true then (impl_MayTurn.l0 kj7 l1 a2 l3 true true l0 (l0.length : Int) (wrap64 (x16_1 + 1))) else (impl_MayTurn.l0 kj7 l1 a2 l3 true t274 l0 (l0.length : Int) (wrap64 (x16_1 + 1)))) else (if x10_1 = true then (impl_MayTurn.l0 kj7 l1 a2 l3 ((rd_T28 l0 x16_1).f3) true l0 (l0.length : Int) (wrap64 (x16_1 + 1))) else (impl_MayTurn.l0 kj7 l1 a2 l3 ((rd_T28 l0 x16_1).f3) t274 l0 (l0.length : Int) (wrap64 (x16_1 + 1))))) else (if t274 = true then (if x9_1 = true then (if x10_1 = true then (impl_MayTurn.l0 kj7 l1 a2 l3 true true l0 (l0.length : Int) (wrap64 (x16_1 + 1))) else (impl_MayTurn.l0 kj7 l1 a2 l3 true false l0 (l0.length : Int) (wrap64 (x16_1 + 1)))) else (if x10_1 = true then (impl_MayTurn.l0 kj7 l1 a2 l3 ((rd_T28 l0 x16_1).f3) true l0 (l0.length : Int) (wrap64 (x16_1 + 1))) else (impl_MayTurn.l0 kj7 l1 a2 l3 ((rd_T28 l0 x16_1).f3) false l0 (l0.length : Int) (wrap64 (x16_1 + 1))))) else (some false))) = some r := H
                  have A23 := Aside0.mk A230
                  clear A230
                  by_cases c24 : ((rd_T28 l0 x16_1).f3) = true
                  · rw [if_pos c24] at H
                    have c24b0 : ((rd_T28 l0 x16_1).f3) = true := c24
                    clear c24
                    by_cases c25 : x9_1 = true
                    · subst c25
                      have H1 : (if x10_1 = true then (impl_MayTurn.l0 kj7 l1 a2 l3 true true l0 (l0.length : Int) (wrap64 (x16_1 + 1))) else (impl_MayTurn.l0 kj7 l1 a2 l3 true t274 l0 (l0.length : Int) (wrap64 (x16_1 + 1)))) = some r := by rw [if_pos rfl] at H; exact H
                      clear H
                      have H := H1
                      clear H1
                      by_cases c26 : x10_1 = true
                      · subst c26
                        have H1 : (impl_MayTurn.l0 kj7 l1 a2 l3 true true l0 (l0.length : Int) (wrap64 (x16_1 + 1))) = some r := by rw [if_pos rfl] at H; exact H
                        clear H
                        have H := H1
                        clear H1
                        have H' := Aside0.mk H
                        clear H
                        have hcz27_0 : wc.cell? ⟨gb271, 0, none⟩ = some (.int .i64 ((rd_T28 l0 x16_1).f0)) := (blk_cell BK271.out 0).trans rfl
                        have hcz27_1 : wc.cell? ⟨gb271, 1, none⟩ = some (.slice A270_1 ((rd_T28 l0 x16_1).f1).length c270_1) := (blk_cell BK271.out 1).trans rfl
                        have hcz27_2 : wc.cell? ⟨gb271, 2, none⟩ = some (.bool ((rd_T28 l0 x16_1).f2)) := (blk_cell BK271.out 2).trans rfl
                        have hcz27_3 : wc.cell? ⟨gb271, 3, none⟩ = some (.bool ((rd_T28 l0 x16_1).f3)) := (blk_cell BK271.out 3).trans rfl
                        have hcz27_4 : wc.cell? ⟨gb271, 4, none⟩ = some (.int .i64 ((rd_T28 l0 x16_1).f4)) := (blk_cell BK271.out 4).trans rfl
                        have hfz27_0 := blk_frozen BK271.out 0
                        have hfz27_1 := blk_frozen BK271.out 1
                        have hfz27_2 := blk_frozen BK271.out 2
                        have hfz27_3 := blk_frozen BK271.out 3
                        have hfz27_4 := blk_frozen BK271.out 4
                        go_wp2_with (first | ((with_reducible refine gate_callee (f := 67) rfl ?_); refine goesL_ (some 37) rfl rfl Try.func67 (by kernel_rfl) rfl #[.slice A3 l3.length c3, .int .i64 ((rd_T28 l0 x16_1).f0)] rfl (by (try simp only [List.map_toArray, List.map_cons, List.map_nil]); first | done | rfl | (simp only [List.length_drop, List.length_take]; rfl)) ?_; (with_reducible refine (impl_hasInt.calls kj7 _ _ l3 ((rd_T28 l0 x16_1).f0) t274 _ ?side1 ?side2 A23.out).mono ?_); (case side1 => repeat (first | exact (Kd.C_below HR3.out HB.out) | (with_reducible refine Kd.C_alloc ?_ _) | (with_reducible refine Kd.C_drewN ?_ _) | (with_reducible refine Kd.C_drew ?_))); (case side2 => exact HC3.out); rintro e w' ⟨rfl, ⟨nd, rfl⟩⟩; refine ⟨_, rfl, ?_⟩))
                        go_roundg kj7
                        case measure => have := HK1.out; have := HJ7.out; omega
                        case rel => exact ⟨(true), (true), (wrap64 (x16_1 + 1)), (by first | rfl | (simp; done) | (simp [*]; done)), (by first | rfl | (simp; done) | (simp [*]; done)), (by first | rfl | (simp; done) | (simp [*]; done)), H', ⟨by have := HK1.out; have := HJ7.out; omega⟩, ⟨by repeat (first | (with_reducible first | exact HB.out | apply below_alloc | apply pw_below_drewN | apply below_drew1 | refine below_set ?_ GE271.out) | exact HB.out)⟩⟩
                      · replace c26 := Bool.eq_false_iff.mpr c26
                        subst c26
                        have H1 : (impl_MayTurn.l0 kj7 l1 a2 l3 true t274 l0 (l0.length : Int) (wrap64 (x16_1 + 1))) = some r := by rw [if_neg (show ¬ (false = true) by decide)] at H; exact H
                        clear H
                        have H := H1
                        clear H1
                        have H' := Aside0.mk H
                        clear H
                        have hcz28_0 : wc.cell? ⟨gb271, 0, none⟩ = some (.int .i64 ((rd_T28 l0 x16_1).f0)) := (blk_cell BK271.out 0).trans rfl
                        have hcz28_1 : wc.cell? ⟨gb271, 1, none⟩ = some (.slice A270_1 ((rd_T28 l0 x16_1).f1).length c270_1) := (blk_cell BK271.out 1).trans rfl
                        have hcz28_2 : wc.cell? ⟨gb271, 2, none⟩ = some (.bool ((rd_T28 l0 x16_1).f2)) := (blk_cell BK271.out 2).trans rfl
                        have hcz28_3 : wc.cell? ⟨gb271, 3, none⟩ = some (.bool ((rd_T28 l0 x16_1).f3)) := (blk_cell BK271.out 3).trans rfl
                        have hcz28_4 : wc.cell? ⟨gb271, 4, none⟩ = some (.int .i64 ((rd_T28 l0 x16_1).f4)) := (blk_cell BK271.out 4).trans rfl
                        have hfz28_0 := blk_frozen BK271.out 0
                        have hfz28_1 := blk_frozen BK271.out 1
                        have hfz28_2 := blk_frozen BK271.out 2
                        have hfz28_3 := blk_frozen BK271.out 3
                        have hfz28_4 := blk_frozen BK271.out 4
                        go_wp2_with (first | ((with_reducible refine gate_callee (f := 67) rfl ?_); refine goesL_ (some 37) rfl rfl Try.func67 (by kernel_rfl) rfl #[.slice A3 l3.length c3, .int .i64 ((rd_T28 l0 x16_1).f0)] rfl (by (try simp only [List.map_toArray, List.map_cons, List.map_nil]); first | done | rfl | (simp only [List.length_drop, List.length_take]; rfl)) ?_; (with_reducible refine (impl_hasInt.calls kj7 _ _ l3 ((rd_T28 l0 x16_1).f0) t274 _ ?side1 ?side2 A23.out).mono ?_); (case side1 => repeat (first | exact (Kd.C_below HR3.out HB.out) | (with_reducible refine Kd.C_alloc ?_ _) | (with_reducible refine Kd.C_drewN ?_ _) | (with_reducible refine Kd.C_drew ?_))); (case side2 => exact HC3.out); rintro e w' ⟨rfl, ⟨nd, rfl⟩⟩; refine ⟨_, rfl, ?_⟩))
                        go_roundg kj7
                        case measure => have := HK1.out; have := HJ7.out; omega
                        case rel => exact ⟨(true), (t274), (wrap64 (x16_1 + 1)), (by first | rfl | (simp; done) | (simp [*]; done)), (by first | rfl | (simp; done) | (simp [*]; done)), (by first | rfl | (simp; done) | (simp [*]; done)), H', ⟨by have := HK1.out; have := HJ7.out; omega⟩, ⟨by repeat (first | (with_reducible first | exact HB.out | apply below_alloc | apply pw_below_drewN | apply below_drew1 | refine below_set ?_ GE271.out) | exact HB.out)⟩⟩
                    · replace c25 := Bool.eq_false_iff.mpr c25
                      subst c25
                      have H1 : (if x10_1 = true then (impl_MayTurn.l0 kj7 l1 a2 l3 ((rd_T28 l0 x16_1).f3) true l0 (l0.length : Int) (wrap64 (x16_1 + 1))) else (impl_MayTurn.l0 kj7 l1 a2 l3 ((rd_T28 l0 x16_1).f3) t274 l0 (l0.length : Int) (wrap64 (x16_1 + 1)))) = some r := by rw [if_neg (show ¬ (false = true) by decide)] at H; exact H
                      clear H
                      have H := H1
                      clear H1
                      by_cases c29 : x10_1 = true
                      · subst c29
                        have H1 : (impl_MayTurn.l0 kj7 l1 a2 l3 ((rd_T28 l0 x16_1).f3) true l0 (l0.length : Int) (wrap64 (x16_1 + 1))) = some r := by rw [if_pos rfl] at H; exact H
                        clear H
                        have H := H1
                        clear H1
                        have H' := Aside0.mk H
                        clear H
                        have hcz30_0 : wc.cell? ⟨gb271, 0, none⟩ = some (.int .i64 ((rd_T28 l0 x16_1).f0)) := (blk_cell BK271.out 0).trans rfl
                        have hcz30_1 : wc.cell? ⟨gb271, 1, none⟩ = some (.slice A270_1 ((rd_T28 l0 x16_1).f1).length c270_1) := (blk_cell BK271.out 1).trans rfl
                        have hcz30_2 : wc.cell? ⟨gb271, 2, none⟩ = some (.bool ((rd_T28 l0 x16_1).f2)) := (blk_cell BK271.out 2).trans rfl
                        have hcz30_3 : wc.cell? ⟨gb271, 3, none⟩ = some (.bool ((rd_T28 l0 x16_1).f3)) := (blk_cell BK271.out 3).trans rfl
                        have hcz30_4 : wc.cell? ⟨gb271, 4, none⟩ = some (.int .i64 ((rd_T28 l0 x16_1).f4)) := (blk_cell BK271.out 4).trans rfl
                        have hfz30_0 := blk_frozen BK271.out 0
                        have hfz30_1 := blk_frozen BK271.out 1
                        have hfz30_2 := blk_frozen BK271.out 2
                        have hfz30_3 := blk_frozen BK271.out 3
                        have hfz30_4 := blk_frozen BK271.out 4
                        go_wp2_with (first | ((with_reducible refine gate_callee (f := 67) rfl ?_); refine goesL_ (some 37) rfl rfl Try.func67 (by kernel_rfl) rfl #[.slice A3 l3.length c3, .int .i64 ((rd_T28 l0 x16_1).f0)] rfl (by (try simp only [List.map_toArray, List.map_cons, List.map_nil]); first | done | rfl | (simp only [List.length_drop, List.length_take]; rfl)) ?_; (with_reducible refine (impl_hasInt.calls kj7 _ _ l3 ((rd_T28 l0 x16_1).f0) t274 _ ?side1 ?side2 A23.out).mono ?_); (case side1 => repeat (first | exact (Kd.C_below HR3.out HB.out) | (with_reducible refine Kd.C_alloc ?_ _) | (with_reducible refine Kd.C_drewN ?_ _) | (with_reducible refine Kd.C_drew ?_))); (case side2 => exact HC3.out); rintro e w' ⟨rfl, ⟨nd, rfl⟩⟩; refine ⟨_, rfl, ?_⟩))
                        go_roundg kj7
                        case measure => have := HK1.out; have := HJ7.out; omega
                        case rel => exact ⟨(((rd_T28 l0 x16_1).f3)), (true), (wrap64 (x16_1 + 1)), (by first | rfl | (simp; done) | (simp [*]; done)), (by first | rfl | (simp; done) | (simp [*]; done)), (by first | rfl | (simp; done) | (simp [*]; done)), H', ⟨by have := HK1.out; have := HJ7.out; omega⟩, ⟨by repeat (first | (with_reducible first | exact HB.out | apply below_alloc | apply pw_below_drewN | apply below_drew1 | refine below_set ?_ GE271.out) | exact HB.out)⟩⟩
                      · replace c29 := Bool.eq_false_iff.mpr c29
                        subst c29
                        have H1 : (impl_MayTurn.l0 kj7 l1 a2 l3 ((rd_T28 l0 x16_1).f3) t274 l0 (l0.length : Int) (wrap64 (x16_1 + 1))) = some r := by rw [if_neg (show ¬ (false = true) by decide)] at H; exact H
                        clear H
                        have H := H1
                        clear H1
                        have H' := Aside0.mk H
                        clear H
                        have hcz31_0 : wc.cell? ⟨gb271, 0, none⟩ = some (.int .i64 ((rd_T28 l0 x16_1).f0)) := (blk_cell BK271.out 0).trans rfl
                        have hcz31_1 : wc.cell? ⟨gb271, 1, none⟩ = some (.slice A270_1 ((rd_T28 l0 x16_1).f1).length c270_1) := (blk_cell BK271.out 1).trans rfl
                        have hcz31_2 : wc.cell? ⟨gb271, 2, none⟩ = some (.bool ((rd_T28 l0 x16_1).f2)) := (blk_cell BK271.out 2).trans rfl
                        have hcz31_3 : wc.cell? ⟨gb271, 3, none⟩ = some (.bool ((rd_T28 l0 x16_1).f3)) := (blk_cell BK271.out 3).trans rfl
                        have hcz31_4 : wc.cell? ⟨gb271, 4, none⟩ = some (.int .i64 ((rd_T28 l0 x16_1).f4)) := (blk_cell BK271.out 4).trans rfl
                        have hfz31_0 := blk_frozen BK271.out 0
                        have hfz31_1 := blk_frozen BK271.out 1
                        have hfz31_2 := blk_frozen BK271.out 2
                        have hfz31_3 := blk_frozen BK271.out 3
                        have hfz31_4 := blk_frozen BK271.out 4
                        go_wp2_with (first | ((with_reducible refine gate_callee (f := 67) rfl ?_); refine goesL_ (some 37) rfl rfl Try.func67 (by kernel_rfl) rfl #[.slice A3 l3.length c3, .int .i64 ((rd_T28 l0 x16_1).f0)] rfl (by (try simp only [List.map_toArray, List.map_cons, List.map_nil]); first | done | rfl | (simp only [List.length_drop, List.length_take]; rfl)) ?_; (with_reducible refine (impl_hasInt.calls kj7 _ _ l3 ((rd_T28 l0 x16_1).f0) t274 _ ?side1 ?side2 A23.out).mono ?_); (case side1 => repeat (first | exact (Kd.C_below HR3.out HB.out) | (with_reducible refine Kd.C_alloc ?_ _) | (with_reducible refine Kd.C_drewN ?_ _) | (with_reducible refine Kd.C_drew ?_))); (case side2 => exact HC3.out); rintro e w' ⟨rfl, ⟨nd, rfl⟩⟩; refine ⟨_, rfl, ?_⟩))
                        go_roundg kj7
                        case measure => have := HK1.out; have := HJ7.out; omega
                        case rel => exact ⟨(((rd_T28 l0 x16_1).f3)), (t274), (wrap64 (x16_1 + 1)), (by first | rfl | (simp; done) | (simp [*]; done)), (by first | rfl | (simp; done) | (simp [*]; done)), (by first | rfl | (simp; done) | (simp [*]; done)), H', ⟨by have := HK1.out; have := HJ7.out; omega⟩, ⟨by repeat (first | (with_reducible first | exact HB.out | apply below_alloc | apply pw_below_drewN | apply below_drew1 | refine below_set ?_ GE271.out) | exact HB.out)⟩⟩
                  · rw [if_neg c24] at H
                    have c24b0 : ((rd_T28 l0 x16_1).f3) = false := by simpa using c24
                    clear c24
                    by_cases c32 : t274 = true
                    · subst c32
                      have H1 : (if x9_1 = true then (if x10_1 = true then (impl_MayTurn.l0 kj7 l1 a2 l3 true true l0 (l0.length : Int) (wrap64 (x16_1 + 1))) else (impl_MayTurn.l0 kj7 l1 a2 l3 true false l0 (l0.length : Int) (wrap64 (x16_1 + 1)))) else (if x10_1 = true then (impl_MayTurn.l0 kj7 l1 a2 l3 ((rd_T28 l0 x16_1).f3) true l0 (l0.length : Int) (wrap64 (x16_1 + 1))) else (impl_MayTurn.l0 kj7 l1 a2 l3 ((rd_T28 l0 x16_1).f3) false l0 (l0.length : Int) (wrap64 (x16_1 + 1))))) = some r := by rw [if_pos rfl] at H; exact H
                      clear H
                      have H := H1
                      clear H1
                      by_cases c33 : x9_1 = true
                      · subst c33
                        have H1 : (if x10_1 = true then (impl_MayTurn.l0 kj7 l1 a2 l3 true true l0 (l0.length : Int) (wrap64 (x16_1 + 1))) else (impl_MayTurn.l0 kj7 l1 a2 l3 true false l0 (l0.length : Int) (wrap64 (x16_1 + 1)))) = some r := by rw [if_pos rfl] at H; exact H
                        clear H
                        have H := H1
                        clear H1
                        by_cases c34 : x10_1 = true
                        · subst c34
                          have H1 : (impl_MayTurn.l0 kj7 l1 a2 l3 true true l0 (l0.length : Int) (wrap64 (x16_1 + 1))) = some r := by rw [if_pos rfl] at H; exact H
                          clear H
                          have H := H1
                          clear H1
                          have H' := Aside0.mk H
                          clear H
                          have hcz35_0 : wc.cell? ⟨gb271, 0, none⟩ = some (.int .i64 ((rd_T28 l0 x16_1).f0)) := (blk_cell BK271.out 0).trans rfl
                          have hcz35_1 : wc.cell? ⟨gb271, 1, none⟩ = some (.slice A270_1 ((rd_T28 l0 x16_1).f1).length c270_1) := (blk_cell BK271.out 1).trans rfl
                          have hcz35_2 : wc.cell? ⟨gb271, 2, none⟩ = some (.bool ((rd_T28 l0 x16_1).f2)) := (blk_cell BK271.out 2).trans rfl
                          have hcz35_3 : wc.cell? ⟨gb271, 3, none⟩ = some (.bool ((rd_T28 l0 x16_1).f3)) := (blk_cell BK271.out 3).trans rfl
                          have hcz35_4 : wc.cell? ⟨gb271, 4, none⟩ = some (.int .i64 ((rd_T28 l0 x16_1).f4)) := (blk_cell BK271.out 4).trans rfl
                          have hfz35_0 := blk_frozen BK271.out 0
                          have hfz35_1 := blk_frozen BK271.out 1
                          have hfz35_2 := blk_frozen BK271.out 2
                          have hfz35_3 := blk_frozen BK271.out 3
                          have hfz35_4 := blk_frozen BK271.out 4
                          go_wp2_with (first | ((with_reducible refine gate_callee (f := 67) rfl ?_); refine goesL_ (some 37) rfl rfl Try.func67 (by kernel_rfl) rfl #[.slice A3 l3.length c3, .int .i64 ((rd_T28 l0 x16_1).f0)] rfl (by (try simp only [List.map_toArray, List.map_cons, List.map_nil]); first | done | rfl | (simp only [List.length_drop, List.length_take]; rfl)) ?_; (with_reducible refine (impl_hasInt.calls kj7 _ _ l3 ((rd_T28 l0 x16_1).f0) true _ ?side1 ?side2 A23.out).mono ?_); (case side1 => repeat (first | exact (Kd.C_below HR3.out HB.out) | (with_reducible refine Kd.C_alloc ?_ _) | (with_reducible refine Kd.C_drewN ?_ _) | (with_reducible refine Kd.C_drew ?_))); (case side2 => exact HC3.out); rintro e w' ⟨rfl, ⟨nd, rfl⟩⟩; refine ⟨_, rfl, ?_⟩))
                          go_roundg kj7
                          case measure => have := HK1.out; have := HJ7.out; omega
                          case rel => exact ⟨(true), (true), (wrap64 (x16_1 + 1)), (by first | rfl | (simp; done) | (simp [*]; done)), (by first | rfl | (simp; done) | (simp [*]; done)), (by first | rfl | (simp; done) | (simp [*]; done)), H', ⟨by have := HK1.out; have := HJ7.out; omega⟩, ⟨by repeat (first | (with_reducible first | exact HB.out | apply below_alloc | apply pw_below_drewN | apply below_drew1 | refine below_set ?_ GE271.out) | exact HB.out)⟩⟩
                        · replace c34 := Bool.eq_false_iff.mpr c34
                          subst c34
                          have H1 : (impl_MayTurn.l0 kj7 l1 a2 l3 true false l0 (l0.length : Int) (wrap64 (x16_1 + 1))) = some r := by rw [if_neg (show ¬ (false = true) by decide)] at H; exact H
                          clear H
                          have H := H1
                          clear H1
                          have H' := Aside0.mk H
                          clear H
                          have hcz36_0 : wc.cell? ⟨gb271, 0, none⟩ = some (.int .i64 ((rd_T28 l0 x16_1).f0)) := (blk_cell BK271.out 0).trans rfl
                          have hcz36_1 : wc.cell? ⟨gb271, 1, none⟩ = some (.slice A270_1 ((rd_T28 l0 x16_1).f1).length c270_1) := (blk_cell BK271.out 1).trans rfl
                          have hcz36_2 : wc.cell? ⟨gb271, 2, none⟩ = some (.bool ((rd_T28 l0 x16_1).f2)) := (blk_cell BK271.out 2).trans rfl
                          have hcz36_3 : wc.cell? ⟨gb271, 3, none⟩ = some (.bool ((rd_T28 l0 x16_1).f3)) := (blk_cell BK271.out 3).trans rfl
                          have hcz36_4 : wc.cell? ⟨gb271, 4, none⟩ = some (.int .i64 ((rd_T28 l0 x16_1).f4)) := (blk_cell BK271.out 4).trans rfl
                          have hfz36_0 := blk_frozen BK271.out 0
                          have hfz36_1 := blk_frozen BK271.out 1
                          have hfz36_2 := blk_frozen BK271.out 2
                          have hfz36_3 := blk_frozen BK271.out 3
                          have hfz36_4 := blk_frozen BK271.out 4
                          go_wp2_with (first | ((with_reducible refine gate_callee (f := 67) rfl ?_); refine goesL_ (some 37) rfl rfl Try.func67 (by kernel_rfl) rfl #[.slice A3 l3.length c3, .int .i64 ((rd_T28 l0 x16_1).f0)] rfl (by (try simp only [List.map_toArray, List.map_cons, List.map_nil]); first | done | rfl | (simp only [List.length_drop, List.length_take]; rfl)) ?_; (with_reducible refine (impl_hasInt.calls kj7 _ _ l3 ((rd_T28 l0 x16_1).f0) true _ ?side1 ?side2 A23.out).mono ?_); (case side1 => repeat (first | exact (Kd.C_below HR3.out HB.out) | (with_reducible refine Kd.C_alloc ?_ _) | (with_reducible refine Kd.C_drewN ?_ _) | (with_reducible refine Kd.C_drew ?_))); (case side2 => exact HC3.out); rintro e w' ⟨rfl, ⟨nd, rfl⟩⟩; refine ⟨_, rfl, ?_⟩))
                          go_roundg kj7
                          case measure => have := HK1.out; have := HJ7.out; omega
                          case rel => exact ⟨(true), (false), (wrap64 (x16_1 + 1)), (by first | rfl | (simp; done) | (simp [*]; done)), (by first | rfl | (simp; done) | (simp [*]; done)), (by first | rfl | (simp; done) | (simp [*]; done)), H', ⟨by have := HK1.out; have := HJ7.out; omega⟩, ⟨by repeat (first | (with_reducible first | exact HB.out | apply below_alloc | apply pw_below_drewN | apply below_drew1 | refine below_set ?_ GE271.out) | exact HB.out)⟩⟩
                      · replace c33 := Bool.eq_false_iff.mpr c33
                        subst c33
                        have H1 : (if x10_1 = true then (impl_MayTurn.l0 kj7 l1 a2 l3 ((rd_T28 l0 x16_1).f3) true l0 (l0.length : Int) (wrap64 (x16_1 + 1))) else (impl_MayTurn.l0 kj7 l1 a2 l3 ((rd_T28 l0 x16_1).f3) false l0 (l0.length : Int) (wrap64 (x16_1 + 1)))) = some r := by rw [if_neg (show ¬ (false = true) by decide)] at H; exact H
                        clear H
                        have H := H1
                        clear H1
                        by_cases c37 : x10_1 = true
                        · subst c37
                          have H1 : (impl_MayTurn.l0 kj7 l1 a2 l3 ((rd_T28 l0 x16_1).f3) true l0 (l0.length : Int) (wrap64 (x16_1 + 1))) = some r := by rw [if_pos rfl] at H; exact H
                          clear H
                          have H := H1
                          clear H1
                          have H' := Aside0.mk H
                          clear H
                          have hcz38_0 : wc.cell? ⟨gb271, 0, none⟩ = some (.int .i64 ((rd_T28 l0 x16_1).f0)) := (blk_cell BK271.out 0).trans rfl
                          have hcz38_1 : wc.cell? ⟨gb271, 1, none⟩ = some (.slice A270_1 ((rd_T28 l0 x16_1).f1).length c270_1) := (blk_cell BK271.out 1).trans rfl
                          have hcz38_2 : wc.cell? ⟨gb271, 2, none⟩ = some (.bool ((rd_T28 l0 x16_1).f2)) := (blk_cell BK271.out 2).trans rfl
                          have hcz38_3 : wc.cell? ⟨gb271, 3, none⟩ = some (.bool ((rd_T28 l0 x16_1).f3)) := (blk_cell BK271.out 3).trans rfl
                          have hcz38_4 : wc.cell? ⟨gb271, 4, none⟩ = some (.int .i64 ((rd_T28 l0 x16_1).f4)) := (blk_cell BK271.out 4).trans rfl
                          have hfz38_0 := blk_frozen BK271.out 0
                          have hfz38_1 := blk_frozen BK271.out 1
                          have hfz38_2 := blk_frozen BK271.out 2
                          have hfz38_3 := blk_frozen BK271.out 3
                          have hfz38_4 := blk_frozen BK271.out 4
                          go_wp2_with (first | ((with_reducible refine gate_callee (f := 67) rfl ?_); refine goesL_ (some 37) rfl rfl Try.func67 (by kernel_rfl) rfl #[.slice A3 l3.length c3, .int .i64 ((rd_T28 l0 x16_1).f0)] rfl (by (try simp only [List.map_toArray, List.map_cons, List.map_nil]); first | done | rfl | (simp only [List.length_drop, List.length_take]; rfl)) ?_; (with_reducible refine (impl_hasInt.calls kj7 _ _ l3 ((rd_T28 l0 x16_1).f0) true _ ?side1 ?side2 A23.out).mono ?_); (case side1 => repeat (first | exact (Kd.C_below HR3.out HB.out) | (with_reducible refine Kd.C_alloc ?_ _) | (with_reducible refine Kd.C_drewN ?_ _) | (with_reducible refine Kd.C_drew ?_))); (case side2 => exact HC3.out); rintro e w' ⟨rfl, ⟨nd, rfl⟩⟩; refine ⟨_, rfl, ?_⟩))
                          go_roundg kj7
                          case measure => have := HK1.out; have := HJ7.out; omega
                          case rel => exact ⟨(((rd_T28 l0 x16_1).f3)), (true), (wrap64 (x16_1 + 1)), (by first | rfl | (simp; done) | (simp [*]; done)), (by first | rfl | (simp; done) | (simp [*]; done)), (by first | rfl | (simp; done) | (simp [*]; done)), H', ⟨by have := HK1.out; have := HJ7.out; omega⟩, ⟨by repeat (first | (with_reducible first | exact HB.out | apply below_alloc | apply pw_below_drewN | apply below_drew1 | refine below_set ?_ GE271.out) | exact HB.out)⟩⟩
                        · replace c37 := Bool.eq_false_iff.mpr c37
                          subst c37
                          have H1 : (impl_MayTurn.l0 kj7 l1 a2 l3 ((rd_T28 l0 x16_1).f3) false l0 (l0.length : Int) (wrap64 (x16_1 + 1))) = some r := by rw [if_neg (show ¬ (false = true) by decide)] at H; exact H
                          clear H
                          have H := H1
                          clear H1
                          have H' := Aside0.mk H
                          clear H
                          have hcz39_0 : wc.cell? ⟨gb271, 0, none⟩ = some (.int .i64 ((rd_T28 l0 x16_1).f0)) := (blk_cell BK271.out 0).trans rfl
                          have hcz39_1 : wc.cell? ⟨gb271, 1, none⟩ = some (.slice A270_1 ((rd_T28 l0 x16_1).f1).length c270_1) := (blk_cell BK271.out 1).trans rfl
                          have hcz39_2 : wc.cell? ⟨gb271, 2, none⟩ = some (.bool ((rd_T28 l0 x16_1).f2)) := (blk_cell BK271.out 2).trans rfl
                          have hcz39_3 : wc.cell? ⟨gb271, 3, none⟩ = some (.bool ((rd_T28 l0 x16_1).f3)) := (blk_cell BK271.out 3).trans rfl
                          have hcz39_4 : wc.cell? ⟨gb271, 4, none⟩ = some (.int .i64 ((rd_T28 l0 x16_1).f4)) := (blk_cell BK271.out 4).trans rfl
                          have hfz39_0 := blk_frozen BK271.out 0
                          have hfz39_1 := blk_frozen BK271.out 1
                          have hfz39_2 := blk_frozen BK271.out 2
                          have hfz39_3 := blk_frozen BK271.out 3
                          have hfz39_4 := blk_frozen BK271.out 4
                          go_wp2_with (first | ((with_reducible refine gate_callee (f := 67) rfl ?_); refine goesL_ (some 37) rfl rfl Try.func67 (by kernel_rfl) rfl #[.slice A3 l3.length c3, .int .i64 ((rd_T28 l0 x16_1).f0)] rfl (by (try simp only [List.map_toArray, List.map_cons, List.map_nil]); first | done | rfl | (simp only [List.length_drop, List.length_take]; rfl)) ?_; (with_reducible refine (impl_hasInt.calls kj7 _ _ l3 ((rd_T28 l0 x16_1).f0) true _ ?side1 ?side2 A23.out).mono ?_); (case side1 => repeat (first | exact (Kd.C_below HR3.out HB.out) | (with_reducible refine Kd.C_alloc ?_ _) | (with_reducible refine Kd.C_drewN ?_ _) | (with_reducible refine Kd.C_drew ?_))); (case side2 => exact HC3.out); rintro e w' ⟨rfl, ⟨nd, rfl⟩⟩; refine ⟨_, rfl, ?_⟩))
                          go_roundg kj7
                          case measure => have := HK1.out; have := HJ7.out; omega
                          case rel => exact ⟨(((rd_T28 l0 x16_1).f3)), (false), (wrap64 (x16_1 + 1)), (by first | rfl | (simp; done) | (simp [*]; done)), (by first | rfl | (simp; done) | (simp [*]; done)), (by first | rfl | (simp; done) | (simp [*]; done)), H', ⟨by have := HK1.out; have := HJ7.out; omega⟩, ⟨by repeat (first | (with_reducible first | exact HB.out | apply below_alloc | apply pw_below_drewN | apply below_drew1 | refine below_set ?_ GE271.out) | exact HB.out)⟩⟩
                    · replace c32 := Bool.eq_false_iff.mpr c32
                      subst c32
                      have H1 : (some false) = some r := by rw [if_neg (show ¬ (false = true) by decide)] at H; exact H
                      clear H
                      have H := H1
                      clear H1
                      obtain rfl := Option.some.inj H
                      have hcz40_0 : wc.cell? ⟨gb271, 0, none⟩ = some (.int .i64 ((rd_T28 l0 x16_1).f0)) := (blk_cell BK271.out 0).trans rfl
                      have hcz40_1 : wc.cell? ⟨gb271, 1, none⟩ = some (.slice A270_1 ((rd_T28 l0 x16_1).f1).length c270_1) := (blk_cell BK271.out 1).trans rfl
                      have hcz40_2 : wc.cell? ⟨gb271, 2, none⟩ = some (.bool ((rd_T28 l0 x16_1).f2)) := (blk_cell BK271.out 2).trans rfl
                      have hcz40_3 : wc.cell? ⟨gb271, 3, none⟩ = some (.bool ((rd_T28 l0 x16_1).f3)) := (blk_cell BK271.out 3).trans rfl
                      have hcz40_4 : wc.cell? ⟨gb271, 4, none⟩ = some (.int .i64 ((rd_T28 l0 x16_1).f4)) := (blk_cell BK271.out 4).trans rfl
                      have hfz40_0 := blk_frozen BK271.out 0
                      have hfz40_1 := blk_frozen BK271.out 1
                      have hfz40_2 := blk_frozen BK271.out 2
                      have hfz40_3 := blk_frozen BK271.out 3
                      have hfz40_4 := blk_frozen BK271.out 4
                      go_wp2_with (first | ((with_reducible refine gate_callee (f := 67) rfl ?_); refine goesL_ (some 37) rfl rfl Try.func67 (by kernel_rfl) rfl #[.slice A3 l3.length c3, .int .i64 ((rd_T28 l0 x16_1).f0)] rfl (by (try simp only [List.map_toArray, List.map_cons, List.map_nil]); first | done | rfl | (simp only [List.length_drop, List.length_take]; rfl)) ?_; (with_reducible refine (impl_hasInt.calls kj7 _ _ l3 ((rd_T28 l0 x16_1).f0) false _ ?side1 ?side2 A23.out).mono ?_); (case side1 => repeat (first | exact (Kd.C_below HR3.out HB.out) | (with_reducible refine Kd.C_alloc ?_ _) | (with_reducible refine Kd.C_drewN ?_ _) | (with_reducible refine Kd.C_drew ?_))); (case side2 => exact HC3.out); rintro e w' ⟨rfl, ⟨nd, rfl⟩⟩; refine ⟨_, rfl, ?_⟩))
                      go_ret
                      exact ⟨by first | rfl | (simp [errW_none, errW_some] <;> rfl) | (simp [*, errW_none, errW_some] <;> rfl), by repeat (first | (with_reducible first | exact HB.out | apply below_alloc | apply pw_below_drewN | apply below_drew1 | refine below_set ?_ GE271.out) | exact HB.out)⟩
          · rw [if_neg c7] at H
            exact absurd H (by simp)
        · rw [if_neg c6] at H
          exact absurd H (by simp)
      · rw [if_neg c5] at H
        have c5b0 : decide (x16_1 < (l0.length : Int)) = false := decide_eq_false c5
        clear c5
        by_cases c41 : x9_1 = true
        · subst c41
          have H1 : (some x10_1) = some r := by rw [if_pos rfl] at H; exact H
          clear H
          have H := H1
          clear H1
          obtain rfl := Option.some.inj H
          go_wp2
          go_ret
          exact ⟨by first | rfl | (simp [errW_none, errW_some] <;> rfl) | (simp [*, errW_none, errW_some] <;> rfl), by repeat (first | (with_reducible first | exact HB.out | apply below_alloc | apply pw_below_drewN | apply below_drew1) | exact HB.out)⟩
        · replace c41 := Bool.eq_false_iff.mpr c41
          subst c41
          have H1 : (some true) = some r := by rw [if_neg (show ¬ (false = true) by decide)] at H; exact H
          clear H
          have H := H1
          clear H1
          obtain rfl := Option.some.inj H
          go_wp2
          go_ret
          exact ⟨by first | rfl | (simp [errW_none, errW_some] <;> rfl) | (simp [*, errW_none, errW_some] <;> rfl), by repeat (first | (with_reducible first | exact HB.out | apply below_alloc | apply pw_below_drewN | apply below_drew1) | exact HB.out)⟩

end Go.Proofs.Ytiddgglidkbipaa.Q
