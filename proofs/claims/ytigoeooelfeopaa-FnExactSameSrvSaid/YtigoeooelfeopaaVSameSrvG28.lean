-- PRINTED by print.py (a twelfth state) out of the translation. Not trusted: Lean checks it.
import Derived.Test.YtigoeooelfeopaaVSameSrvG27
namespace Go.Proofs.Ytigoeooelfeopaa.Q
open Go.RowKit Go.Proofs.YtigoeooelfeopaaW.PrintWords Go.Proofs.YtigoeooelfeopaaW.PrintLast Go.Proofs.YtigoeooelfeopaaW.PrintMore
attribute [local go_sem] max2_int min2_int max_two min_two max_three min_three max_four min_four   -- for this text's walks alone
set_option linter.unusedVariables false
set_option linter.unusedSimpArgs false
def impl_sameLocks.l0 : Nat → List (S82) → List (S82) → Int → Int → Option (Bool)
 | 0, _, _, _, _ => none
 | k + 1, x0, x1, x14, x15 => if x15 < x14 then (if 0 ≤ x15 then (if x15 < (x0.length : Int) then (if x15 < (x1.length : Int) then (if ((rd_T82 x0 x15).f0) = ((rd_T82 x1 x15).f0) then ((impl_SamePath.f k ((rd_T82 x0 x15).f1) ((rd_T82 x1 x15).f1)).bind fun t261 => (if t261 = true then (if (((rd_T82 x0 x15).f2) != ((rd_T82 x1 x15).f2)) = true then (some false) else (if (((rd_T82 x0 x15).f3) != ((rd_T82 x1 x15).f3)) = true then (some false) else (if ((rd_T82 x0 x15).f4) = ((rd_T82 x1 x15).f4) then (impl_sameLocks.l0 k x0 x1 x14 (wrap64 (x15 + 1))) else (some false)))) else (some false))) else (some false)) else (none)) else (none)) else (none)) else (some true)
def impl_sameLocks.f (k : Nat) (l0 : List (S82)) (l1 : List (S82)) : Option (Bool) := if (l0.length : Int) = (l1.length : Int) then (impl_sameLocks.l0 k l0 l1 (l0.length : Int) 0) else (some false)
def impl_sameLocks.T6 : Bool × List (List Nat × List Nat) := (true, [([], []), ([], []), ([0, 1], [0, 1]), ([2], [2]), ([], []), ([], []), ([4, 5], [4, 5]), ([6], [6]), ([], []), ([], []), ([8, 3, 0, 1, 2, 3, 8, 9], [3, 8]), ([9, 7, 10, 0, 1, 2, 3, 4, 5, 6, 7, 8, 9, 10], [7, 9])])
def impl_sameLocks.B6 : List Nat := [0, 0, 3, 7, 0, 0, 48, 112, 0, 0, 783, 2047]
theorem impl_sameLocks.tab6 : rtab .any (opsOf Try.f53 6) = impl_sameLocks.T6 := by kernel_rfl
theorem impl_sameLocks.bits6 : waitsOk impl_sameLocks.T6.2 impl_sameLocks.B6 = true := by kernel_rfl
set_option maxHeartbeats 8000000 in
set_option maxRecDepth 100000 in
theorem impl_sameLocks.calls (k : Nat) (A0 : Option Addr) (c0 : Nat) (l0 : List (S82)) (A1 : Option Addr) (c1 : Nat) (l1 : List (S82)) (r : Bool) (w : World) (hr0 : Kd.C k82 w A0 l0.length l0) (hc0 : l0.length ≤ c0) (hr1 : Kd.C k82 w A1 l1.length l1) (hc1 : l1.length ≤ c1) (h : impl_sameLocks.f k l0 l1 = some r) :
 Calls Try.prog 53 #[.slice A0 l0.length c0, .slice A1 l1.length c1] w fun e w' => e = .returned (.bool r) ∧ Below w.heap.size w w' := by
 have hu82 := Try.underlying82
 have HR0 := A_ hr0
 have HC0 := A_ hc0
 clear hr0 hc0
 have HR1 := A_ hr1
 have HC1 := A_ hc1
 clear hr1 hc1
 have HB := A_ (Below.refl w.heap.size w)
 have H : (if (l0.length : Int) = (l1.length : Int) then (impl_sameLocks.l0 k l0 l1 (l0.length : Int) 0) else (some false)) = some r := h
 clear h
 by_cases c3 : (l0.length : Int) = (l1.length : Int)
 rotate_left
 · rw [if_neg c3] at H
   have c3b0 : ((l0.length : Int) == (l1.length : Int)) = false := beq_eq_false_iff_ne.mpr c3
   have c3b1 : ((l0.length : Int) != (l1.length : Int)) = true := bne_iff_ne.mpr c3
   have c3b2 : (l0.length == l1.length) = false := by first | simpa using c3 | (simp at c3 ⊢; omega)
   obtain rfl := si_ H
   go_enter Try.func53, Try.ntmps53
   go_wp2
   go_ret
   exact ⟨rr_, bB_⟩
 rw [if_pos c3] at H
 have c3b0 : ((l0.length : Int) == (l1.length : Int)) = true := beq_iff_eq.mpr c3
 have c3b1 : ((l0.length : Int) != (l1.length : Int)) = false := bne_eq_false_iff_eq.mpr c3
 have c3b2 : (l0.length == l1.length) = true := by first | simpa using c3 | (simp at c3 ⊢; omega)
 clear c3
 have H' := A_ H
 clear H
 go_enter Try.func53, Try.ntmps53
 go_wp2
 go_loopg [15] k (fun kq v15 w' => ∃ (x15_1 : Int), v15 = .int .i64 x15_1 ∧ Aside0 (impl_sameLocks.l0 kq l0 l1 (l0.length : Int) x15_1 = some r) ∧ Aside0 (kq ≤ k) ∧ Aside0 (Below w.heap.size w w'))
 case atStart => exact ⟨(0), rs_, H', ⟨Nat.le_refl _⟩, ⟨bB_⟩⟩
 case round =>
  clear H'
  try clear c1
  try clear p2
  try clear c3
  try clear c3b0
  try clear c3b1
  try clear c3b2
  obtain ⟨x15_1, rfl, HA, HK1, HB⟩ := hrel
  cases gk with
  | zero => exact absurd HA.out (by simp [impl_sameLocks.l0])
  | succ k1 =>
   have H := HA.out
   clear HA
   simp only [impl_sameLocks.l0] at H
   by_cases c4 : x15_1 < (l0.length : Int)
   rotate_left
   · rw [if_neg c4] at H
     have c4b0 : decide (x15_1 < (l0.length : Int)) = false := decide_eq_false c4
     clear c4
     obtain rfl := si_ H
     go_wp2
     go_ret
     exact ⟨rr_, bB_⟩
   rw [if_pos c4] at H
   have c4b0 : decide (x15_1 < (l0.length : Int)) = true := decide_eq_true c4
   clear c4
   by_cases c5 : 0 ≤ x15_1
   rotate_left
   · exact absurd H (by rw [if_neg c5]; simp)
   rw [if_pos c5] at H
   have c5b0 : decide (0 ≤ x15_1) = true := decide_eq_true c5
   clear c5
   by_cases c6 : x15_1 < (l0.length : Int)
   rotate_left
   · exact absurd H (by rw [if_neg c6]; simp)
   rw [if_pos c6] at H
   have c6b0 : decide (x15_1 < (l0.length : Int)) = true := decide_eq_true c6
   clear c6
   by_cases c7 : x15_1 < (l1.length : Int)
   rotate_left
   · exact absurd H (by rw [if_neg c7]; simp)
   rw [if_pos c7] at H
   have c7b0 : decide (x15_1 < (l1.length : Int)) = true := decide_eq_true c7
   clear c7
   by_cases c8 : ((rd_T82 l0 x15_1).f0) = ((rd_T82 l1 x15_1).f0)
   rotate_left
   · rw [if_neg c8] at H
     have c8b0 : (((rd_T82 l0 x15_1).f0) == ((rd_T82 l1 x15_1).f0)) = false := beq_eq_false_iff_ne.mpr c8
     have c8b1 : (((rd_T82 l0 x15_1).f0) != ((rd_T82 l1 x15_1).f0)) = true := bne_iff_ne.mpr c8
     obtain rfl := si_ H
     try go_wp2
     replace HB := A_ (below_drew1 HB.out)
     have p257 : 0 ≤ (x15_1 : Int) := od_
     have q257 : x15_1 < (l0.length : Int) := od_
     obtain ⟨ad257, A257_1, c257_1, e257, hx257_0, hx257_1, hx257_2, hx257_3, hx257_4, hl257_1, hi257_1⟩ := at_T82 HR0.out x15_1 p257 q257
     have hw257_4 := hx257_4
     have hw257_3 := hx257_3
     have hw257_2 := hx257_2
     have hw257_1 := hx257_1
     have hw257_0 := hx257_0
     cases e257
     replace hx257_0 := bc_ HB.out hx257_0
     replace hx257_1 := bc_ HB.out hx257_1
     replace hx257_2 := bc_ HB.out hx257_2
     replace hx257_3 := bc_ HB.out hx257_3
     replace hx257_4 := bc_ HB.out hx257_4
     have HR257_1 := A_ hi257_1
     have HC257_1 := A_ hl257_1
     clear hi257_1 hl257_1
     replace p257 := eq_true p257
     replace q257 := eq_true q257
     have p258 : 0 ≤ (x15_1 : Int) := od_
     have q258 : x15_1 < (l1.length : Int) := od_
     obtain ⟨ad258, A258_1, c258_1, e258, hx258_0, hx258_1, hx258_2, hx258_3, hx258_4, hl258_1, hi258_1⟩ := at_T82 HR1.out x15_1 p258 q258
     have hw258_4 := hx258_4
     have hw258_3 := hx258_3
     have hw258_2 := hx258_2
     have hw258_1 := hx258_1
     have hw258_0 := hx258_0
     cases e258
     replace hx258_0 := bc_ HB.out hx258_0
     replace hx258_1 := bc_ HB.out hx258_1
     replace hx258_2 := bc_ HB.out hx258_2
     replace hx258_3 := bc_ HB.out hx258_3
     replace hx258_4 := bc_ HB.out hx258_4
     have HR258_1 := A_ hi258_1
     have HC258_1 := A_ hl258_1
     clear hi258_1 hl258_1
     replace p258 := eq_true p258
     replace q258 := eq_true q258
     refine start_ (n := 12) (S := fun w' => w'.cell? (ad257.add ((x15_1).toNat * 5)) = some (.int .i64 ((rd_T82 l0 x15_1).f0)) ∧ w'.cell? ⟨(ad257.add ((x15_1).toNat * 5)).block, (ad257.add ((x15_1).toNat * 5)).off + 1, none⟩ = some (.slice A257_1 ((rd_T82 l0 x15_1).f1).length c257_1) ∧ w'.cell? ⟨(ad257.add ((x15_1).toNat * 5)).block, (ad257.add ((x15_1).toNat * 5)).off + 2, none⟩ = some (.bool ((rd_T82 l0 x15_1).f2)) ∧ w'.cell? ⟨(ad257.add ((x15_1).toNat * 5)).block, (ad257.add ((x15_1).toNat * 5)).off + 3, none⟩ = some (.bool ((rd_T82 l0 x15_1).f3)) ∧ w'.cell? ⟨(ad257.add ((x15_1).toNat * 5)).block, (ad257.add ((x15_1).toNat * 5)).off + 4, none⟩ = some (.int .i64 ((rd_T82 l0 x15_1).f4)) ∧ w'.cell? (ad258.add ((x15_1).toNat * 5)) = some (.int .i64 ((rd_T82 l1 x15_1).f0)) ∧ w'.cell? ⟨(ad258.add ((x15_1).toNat * 5)).block, (ad258.add ((x15_1).toNat * 5)).off + 1, none⟩ = some (.slice A258_1 ((rd_T82 l1 x15_1).f1).length c258_1) ∧ w'.cell? ⟨(ad258.add ((x15_1).toNat * 5)).block, (ad258.add ((x15_1).toNat * 5)).off + 2, none⟩ = some (.bool ((rd_T82 l1 x15_1).f2)) ∧ w'.cell? ⟨(ad258.add ((x15_1).toNat * 5)).block, (ad258.add ((x15_1).toNat * 5)).off + 3, none⟩ = some (.bool ((rd_T82 l1 x15_1).f3)) ∧ w'.cell? ⟨(ad258.add ((x15_1).toNat * 5)).block, (ad258.add ((x15_1).toNat * 5)).off + 4, none⟩ = some (.int .i64 ((rd_T82 l1 x15_1).f4))) (ds := []) #[false, false, false, false, false, false, false, false, false, false, false, false] (by kernel_rfl) rfl rfl ⟨(be_ hw257_0), (be_ hw257_1), (be_ hw257_2), (be_ hw257_3), (be_ hw257_4), (be_ hw258_0), (be_ hw258_1), (be_ hw258_2), (be_ hw258_3), (be_ hw258_4)⟩ (fun hHeld => ?_); refine with_tabW impl_sameLocks.tab6 impl_sameLocks.bits6 (fun HT_ HW_ => ?_)
     generalize wr.drew = w99 at HB HR257_1 HR258_1 hx257_0 hx257_1 hx257_2 hx257_3 hx257_4 hx258_0 hx258_1 hx258_2 hx258_3 hx258_4 hHeld ⊢
     refine pu_ (i := 0) (N := some 18) ?_
     refine pu_ (i := 1) (N := some 19) ?_
     refine pu_ (i := 2) (N := some 20) ?_
     refine pu_ (i := 4) (N := some 22) ?_
     refine pu_ (i := 5) (N := some 23) ?_
     refine pu_ (i := 6) (N := some 24) ?_
     refine tk_ (i := 3) (N := some 21) hHeld ?_
     refine tk_ (i := 7) (N := some 25) hHeld ?_
     refine join_ (σ := Nat × Nat) 2 #[true, true, true, true, true, true, true, true, true, true, false, false] (fun s_ => [(6, .pointer (some ⟨s_.1, 0, none⟩)), (7, .pointer (some ⟨s_.2, 0, none⟩))]) (fun s_ w' => (w'.cell? (ad257.add ((x15_1).toNat * 5)) = some (.int .i64 ((rd_T82 l0 x15_1).f0)) ∧ w'.cell? ⟨(ad257.add ((x15_1).toNat * 5)).block, (ad257.add ((x15_1).toNat * 5)).off + 1, none⟩ = some (.slice A257_1 ((rd_T82 l0 x15_1).f1).length c257_1) ∧ w'.cell? ⟨(ad257.add ((x15_1).toNat * 5)).block, (ad257.add ((x15_1).toNat * 5)).off + 2, none⟩ = some (.bool ((rd_T82 l0 x15_1).f2)) ∧ w'.cell? ⟨(ad257.add ((x15_1).toNat * 5)).block, (ad257.add ((x15_1).toNat * 5)).off + 3, none⟩ = some (.bool ((rd_T82 l0 x15_1).f3)) ∧ w'.cell? ⟨(ad257.add ((x15_1).toNat * 5)).block, (ad257.add ((x15_1).toNat * 5)).off + 4, none⟩ = some (.int .i64 ((rd_T82 l0 x15_1).f4)) ∧ w'.cell? (ad258.add ((x15_1).toNat * 5)) = some (.int .i64 ((rd_T82 l1 x15_1).f0)) ∧ w'.cell? ⟨(ad258.add ((x15_1).toNat * 5)).block, (ad258.add ((x15_1).toNat * 5)).off + 1, none⟩ = some (.slice A258_1 ((rd_T82 l1 x15_1).f1).length c258_1) ∧ w'.cell? ⟨(ad258.add ((x15_1).toNat * 5)).block, (ad258.add ((x15_1).toNat * 5)).off + 2, none⟩ = some (.bool ((rd_T82 l1 x15_1).f2)) ∧ w'.cell? ⟨(ad258.add ((x15_1).toNat * 5)).block, (ad258.add ((x15_1).toNat * 5)).off + 3, none⟩ = some (.bool ((rd_T82 l1 x15_1).f3)) ∧ w'.cell? ⟨(ad258.add ((x15_1).toNat * 5)).block, (ad258.add ((x15_1).toNat * 5)).off + 4, none⟩ = some (.int .i64 ((rd_T82 l1 x15_1).f4))) ∧ (w'.heap[s_.1]? = some (.cells #[.int .i64 0, .slice none 0 0, .bool false, .bool false, .int .i64 0] 82 (0, 0))) ∧ (w'.heap[s_.2]? = some (.cells #[.int .i64 0, .slice none 0 0, .bool false, .bool false, .int .i64 0] 82 (0, 0))) ∧ (w.heap.size ≤ s_.1) ∧ (w.heap.size ≤ s_.1) ∧ (s_.2 ≠ s_.1) ∧ (s_.1 ≠ s_.2) ∧ (w.heap.size ≤ s_.2) ∧ (w.heap.size ≤ s_.2) ∧ (Below w.heap.size w w')) ?_ ?_
     rotate_left
     · intro hCont
       refine two_ (i := 8) (j := 9) (Ni := some 6) (Nj := some 7) #[true, true, true, true, true, true, true, true, true, false, false, false] #[true, true, true, true, true, true, true, true, false, true, false, false] rfl rfl rfl rfl (two_of HT_.out (by kernel_rfl)) (by decide) (by decide) (fun K hK => ?_) (fun K hK => ?_)
       · skip
         refine box_step ?hg (N := 6) ?hd (cs := #[.int .i64 0, .slice none 0 0, .bool false, .bool false, .int .i64 0]) (t := 82) ?hr ?_; (case hd => rfl); (case hg => rfl); (case hr => first | (go_simp; done) | (go_simp; rfl))
         intro gb259 hg w100 hbox hb
         have BK259 := A_ (hbox)
         have GW259 := A_ (ge_ hg bB_ : w.heap.size ≤ gb259)
         have GE259 := A_ (ge_ hg bB_ : w.heap.size ≤ gb259)
         replace HB := A_ (below_step bB_ hb)
         clear hb hbox hg
         refine hK.out _ _ ⟨(be_ hw257_0), (be_ hw257_1), (be_ hw257_2), (be_ hw257_3), (be_ hw257_4), (be_ hw258_0), (be_ hw258_1), (be_ hw258_2), (be_ hw258_3), (be_ hw258_4)⟩ (fun hHeld => ?_)
         clear hK K
         refine no_ (some 6) ?_
         refine on_ (i := 9) (N := some 7) (fun K hK => ?_)
         refine box_step ?hg (N := 7) ?hd (cs := #[.int .i64 0, .slice none 0 0, .bool false, .bool false, .int .i64 0]) (t := 82) ?hr ?_; (case hd => rfl); (case hg => rfl); (case hr => first | (go_simp; done) | (go_simp; rfl))
         intro gb260 hg w101 hbox hb
         have BK260 := A_ (hbox)
         have GW260 := A_ (ge_ hg (bG_ GE259.out) : w.heap.size ≤ gb260)
         have GE260 := A_ (ge_ hg (bG_ GE259.out) : w.heap.size ≤ gb260)
         replace HB := A_ (below_step (bG_ GE259.out) hb)
         have NB259_260 := A_ (gm_ hg BK259.out)
         have NB260_259 := A_ (gn_ hg BK259.out)
         replace BK259 := A_ (bw_ BK259.out hb)
         clear hb hbox hg
         refine hK.out _ _ ⟨(be_ hw257_0), (be_ hw257_1), (be_ hw257_2), (be_ hw257_3), (be_ hw257_4), (be_ hw258_0), (be_ hw258_1), (be_ hw258_2), (be_ hw258_3), (be_ hw258_4)⟩ (fun hHeld => ?_)
         clear hK K
         refine no_ (some 7) ?_
         exact norm_ (by simp only [putAll, Act.put, List.setIfInBounds_toArray, List.set_cons_zero, List.set_cons_succ]) (hCont (gb259, gb260) _ ⟨hHeld, (vb_ BK259.out), (vb_ BK260.out), GW259.out, GE259.out, NB260_259.out, NB259_260.out, GW260.out, GE260.out, (by repeat (first | (with_reducible first | exact HB.out | apply below_alloc | apply pw_below_drewN | apply below_drew1 | refine below_set ?_ GE259.out | refine below_set ?_ GE260.out) | exact HB.out))⟩)
       · skip
         refine box_step ?hg (N := 7) ?hd (cs := #[.int .i64 0, .slice none 0 0, .bool false, .bool false, .int .i64 0]) (t := 82) ?hr ?_; (case hd => rfl); (case hg => rfl); (case hr => first | (go_simp; done) | (go_simp; rfl))
         intro gb260 hg w100 hbox hb
         have BK260 := A_ (hbox)
         have GW260 := A_ (ge_ hg bB_ : w.heap.size ≤ gb260)
         have GE260 := A_ (ge_ hg bB_ : w.heap.size ≤ gb260)
         replace HB := A_ (below_step bB_ hb)
         clear hb hbox hg
         refine hK.out _ _ ⟨(be_ hw257_0), (be_ hw257_1), (be_ hw257_2), (be_ hw257_3), (be_ hw257_4), (be_ hw258_0), (be_ hw258_1), (be_ hw258_2), (be_ hw258_3), (be_ hw258_4)⟩ (fun hHeld => ?_)
         clear hK K
         refine no_ (some 7) ?_
         refine on_ (i := 8) (N := some 6) (fun K hK => ?_)
         refine box_step ?hg (N := 6) ?hd (cs := #[.int .i64 0, .slice none 0 0, .bool false, .bool false, .int .i64 0]) (t := 82) ?hr ?_; (case hd => rfl); (case hg => rfl); (case hr => first | (go_simp; done) | (go_simp; rfl))
         intro gb259 hg w101 hbox hb
         have BK259 := A_ (hbox)
         have GW259 := A_ (ge_ hg (bG_ GE260.out) : w.heap.size ≤ gb259)
         have GE259 := A_ (ge_ hg (bG_ GE260.out) : w.heap.size ≤ gb259)
         replace HB := A_ (below_step (bG_ GE260.out) hb)
         have NB260_259 := A_ (gm_ hg BK260.out)
         have NB259_260 := A_ (gn_ hg BK260.out)
         replace BK260 := A_ (bw_ BK260.out hb)
         clear hb hbox hg
         refine hK.out _ _ ⟨(be_ hw257_0), (be_ hw257_1), (be_ hw257_2), (be_ hw257_3), (be_ hw257_4), (be_ hw258_0), (be_ hw258_1), (be_ hw258_2), (be_ hw258_3), (be_ hw258_4)⟩ (fun hHeld => ?_)
         clear hK K
         refine no_ (some 6) ?_
         exact norm_ (by simp only [putAll, Act.put, List.setIfInBounds_toArray, List.set_cons_zero, List.set_cons_succ]) (hCont (gb259, gb260) _ ⟨hHeld, (vb_ BK259.out), (vb_ BK260.out), GW259.out, GE259.out, NB260_259.out, NB259_260.out, GW260.out, GE260.out, (by repeat (first | (with_reducible first | exact HB.out | apply below_alloc | apply pw_below_drewN | apply below_drew1 | refine below_set ?_ GE260.out | refine below_set ?_ GE259.out) | exact HB.out))⟩)
     rintro ⟨gb259, gb260⟩ w102 ⟨hS_, h0_, h1_, h2_, h3_, h4_, h5_, h6_, h7_, h8_⟩
     have n0_ : Aside0 (w102.heap[gb259]? = some (.cells #[.int .i64 0, .slice none 0 0, .bool false, .bool false, .int .i64 0] 82 (0, 0))) := ⟨h0_⟩
     have n1_ : Aside0 (w102.heap[gb260]? = some (.cells #[.int .i64 0, .slice none 0 0, .bool false, .bool false, .int .i64 0] 82 (0, 0))) := ⟨h1_⟩
     have n2_ : Aside0 (w.heap.size ≤ gb259) := ⟨h2_⟩
     have n3_ : Aside0 (w.heap.size ≤ gb259) := ⟨h3_⟩
     have n4_ : Aside0 (gb260 ≠ gb259) := ⟨h4_⟩
     have n5_ : Aside0 (gb259 ≠ gb260) := ⟨h5_⟩
     have n6_ : Aside0 (w.heap.size ≤ gb260) := ⟨h6_⟩
     have n7_ : Aside0 (w.heap.size ≤ gb260) := ⟨h7_⟩
     have n8_ : Aside0 (Below w.heap.size w w102) := ⟨h8_⟩
     clear HB
     clear h0_ h1_ h2_ h3_ h4_ h5_ h6_ h7_ h8_
     have BK259 := n0_
     have BK260 := n1_
     have GW259 := n2_
     have GE259 := n3_
     have NB260_259 := n4_
     have NB259_260 := n5_
     have GW260 := n6_
     have GE260 := n7_
     have HB := n8_
     clear n0_ n1_ n2_ n3_ n4_ n5_ n6_ n7_ n8_
     have hHeld : w102.cell? (ad257.add ((x15_1).toNat * 5)) = some (.int .i64 ((rd_T82 l0 x15_1).f0)) ∧ w102.cell? ⟨(ad257.add ((x15_1).toNat * 5)).block, (ad257.add ((x15_1).toNat * 5)).off + 1, none⟩ = some (.slice A257_1 ((rd_T82 l0 x15_1).f1).length c257_1) ∧ w102.cell? ⟨(ad257.add ((x15_1).toNat * 5)).block, (ad257.add ((x15_1).toNat * 5)).off + 2, none⟩ = some (.bool ((rd_T82 l0 x15_1).f2)) ∧ w102.cell? ⟨(ad257.add ((x15_1).toNat * 5)).block, (ad257.add ((x15_1).toNat * 5)).off + 3, none⟩ = some (.bool ((rd_T82 l0 x15_1).f3)) ∧ w102.cell? ⟨(ad257.add ((x15_1).toNat * 5)).block, (ad257.add ((x15_1).toNat * 5)).off + 4, none⟩ = some (.int .i64 ((rd_T82 l0 x15_1).f4)) ∧ w102.cell? (ad258.add ((x15_1).toNat * 5)) = some (.int .i64 ((rd_T82 l1 x15_1).f0)) ∧ w102.cell? ⟨(ad258.add ((x15_1).toNat * 5)).block, (ad258.add ((x15_1).toNat * 5)).off + 1, none⟩ = some (.slice A258_1 ((rd_T82 l1 x15_1).f1).length c258_1) ∧ w102.cell? ⟨(ad258.add ((x15_1).toNat * 5)).block, (ad258.add ((x15_1).toNat * 5)).off + 2, none⟩ = some (.bool ((rd_T82 l1 x15_1).f2)) ∧ w102.cell? ⟨(ad258.add ((x15_1).toNat * 5)).block, (ad258.add ((x15_1).toNat * 5)).off + 3, none⟩ = some (.bool ((rd_T82 l1 x15_1).f3)) ∧ w102.cell? ⟨(ad258.add ((x15_1).toNat * 5)).block, (ad258.add ((x15_1).toNat * 5)).off + 4, none⟩ = some (.int .i64 ((rd_T82 l1 x15_1).f4)) := hS_
     refine norm_ (a' := ?_) ?_ ?_
     rotate_left
     · simp only [putAll, Act.put, List.setIfInBounds_toArray, List.set_cons_zero, List.set_cons_succ]
       rfl
     refine on_ (i := 10) (N := none) (fun K hK => ?_)
     have hs103 : w102.cell? ⟨gb259, 0, none⟩ = some (.int .i64 0) := bl_ BK259.out 0
     have hfs103 := blk_frozen BK259.out 0
     have hns103_1 := NB260_259.out
     have hms103_1 := NB259_260.out
     have hs104 : w102.cell? ⟨gb259, 1, none⟩ = some (.slice none 0 0) := bl_ BK259.out 1
     have hfs104 := blk_frozen BK259.out 1
     have hns104_1 := NB260_259.out
     have hms104_1 := NB259_260.out
     have hs105 : w102.cell? ⟨gb259, 2, none⟩ = some (.bool false) := bl_ BK259.out 2
     have hfs105 := blk_frozen BK259.out 2
     have hns105_1 := NB260_259.out
     have hms105_1 := NB259_260.out
     have hs106 : w102.cell? ⟨gb259, 3, none⟩ = some (.bool false) := bl_ BK259.out 3
     have hfs106 := blk_frozen BK259.out 3
     have hns106_1 := NB260_259.out
     have hms106_1 := NB259_260.out
     have hs107 : w102.cell? ⟨gb259, 4, none⟩ = some (.int .i64 0) := bl_ BK259.out 4
     have hfs107 := blk_frozen BK259.out 4
     have hns107_1 := NB260_259.out
     have hms107_1 := NB259_260.out
     refine skip_ (w1 := ?_) (by rfl) rfl ?_ ?_
     rotate_left
     · go_simp
       rfl
     refine hK.out _ _ ⟨((cf_ (p := ⟨gb259, _, none⟩) hw257_0 GW259.out).trans (((cf_ (p := ⟨gb259, _, none⟩) hw257_0 GW259.out).trans (((cf_ (p := ⟨gb259, _, none⟩) hw257_0 GW259.out).trans (((cf_ (p := ⟨gb259, _, none⟩) hw257_0 GW259.out).trans (((cf_ (p := ⟨gb259, _, none⟩) hw257_0 GW259.out).trans (hHeld.1)))))))))), ((cf_ (p := ⟨gb259, _, none⟩) hw257_1 GW259.out).trans (((cf_ (p := ⟨gb259, _, none⟩) hw257_1 GW259.out).trans (((cf_ (p := ⟨gb259, _, none⟩) hw257_1 GW259.out).trans (((cf_ (p := ⟨gb259, _, none⟩) hw257_1 GW259.out).trans (((cf_ (p := ⟨gb259, _, none⟩) hw257_1 GW259.out).trans (hHeld.2.1)))))))))), ((cf_ (p := ⟨gb259, _, none⟩) hw257_2 GW259.out).trans (((cf_ (p := ⟨gb259, _, none⟩) hw257_2 GW259.out).trans (((cf_ (p := ⟨gb259, _, none⟩) hw257_2 GW259.out).trans (((cf_ (p := ⟨gb259, _, none⟩) hw257_2 GW259.out).trans (((cf_ (p := ⟨gb259, _, none⟩) hw257_2 GW259.out).trans (hHeld.2.2.1)))))))))), ((cf_ (p := ⟨gb259, _, none⟩) hw257_3 GW259.out).trans (((cf_ (p := ⟨gb259, _, none⟩) hw257_3 GW259.out).trans (((cf_ (p := ⟨gb259, _, none⟩) hw257_3 GW259.out).trans (((cf_ (p := ⟨gb259, _, none⟩) hw257_3 GW259.out).trans (((cf_ (p := ⟨gb259, _, none⟩) hw257_3 GW259.out).trans (hHeld.2.2.2.1)))))))))), ((cf_ (p := ⟨gb259, _, none⟩) hw257_4 GW259.out).trans (((cf_ (p := ⟨gb259, _, none⟩) hw257_4 GW259.out).trans (((cf_ (p := ⟨gb259, _, none⟩) hw257_4 GW259.out).trans (((cf_ (p := ⟨gb259, _, none⟩) hw257_4 GW259.out).trans (((cf_ (p := ⟨gb259, _, none⟩) hw257_4 GW259.out).trans (hHeld.2.2.2.2.1)))))))))), ((cf_ (p := ⟨gb259, _, none⟩) hw258_0 GW259.out).trans (((cf_ (p := ⟨gb259, _, none⟩) hw258_0 GW259.out).trans (((cf_ (p := ⟨gb259, _, none⟩) hw258_0 GW259.out).trans (((cf_ (p := ⟨gb259, _, none⟩) hw258_0 GW259.out).trans (((cf_ (p := ⟨gb259, _, none⟩) hw258_0 GW259.out).trans (hHeld.2.2.2.2.2.1)))))))))), ((cf_ (p := ⟨gb259, _, none⟩) hw258_1 GW259.out).trans (((cf_ (p := ⟨gb259, _, none⟩) hw258_1 GW259.out).trans (((cf_ (p := ⟨gb259, _, none⟩) hw258_1 GW259.out).trans (((cf_ (p := ⟨gb259, _, none⟩) hw258_1 GW259.out).trans (((cf_ (p := ⟨gb259, _, none⟩) hw258_1 GW259.out).trans (hHeld.2.2.2.2.2.2.1)))))))))), ((cf_ (p := ⟨gb259, _, none⟩) hw258_2 GW259.out).trans (((cf_ (p := ⟨gb259, _, none⟩) hw258_2 GW259.out).trans (((cf_ (p := ⟨gb259, _, none⟩) hw258_2 GW259.out).trans (((cf_ (p := ⟨gb259, _, none⟩) hw258_2 GW259.out).trans (((cf_ (p := ⟨gb259, _, none⟩) hw258_2 GW259.out).trans (hHeld.2.2.2.2.2.2.2.1)))))))))), ((cf_ (p := ⟨gb259, _, none⟩) hw258_3 GW259.out).trans (((cf_ (p := ⟨gb259, _, none⟩) hw258_3 GW259.out).trans (((cf_ (p := ⟨gb259, _, none⟩) hw258_3 GW259.out).trans (((cf_ (p := ⟨gb259, _, none⟩) hw258_3 GW259.out).trans (((cf_ (p := ⟨gb259, _, none⟩) hw258_3 GW259.out).trans (hHeld.2.2.2.2.2.2.2.2.1)))))))))), ((cf_ (p := ⟨gb259, _, none⟩) hw258_4 GW259.out).trans (((cf_ (p := ⟨gb259, _, none⟩) hw258_4 GW259.out).trans (((cf_ (p := ⟨gb259, _, none⟩) hw258_4 GW259.out).trans (((cf_ (p := ⟨gb259, _, none⟩) hw258_4 GW259.out).trans (((cf_ (p := ⟨gb259, _, none⟩) hw258_4 GW259.out).trans (hHeld.2.2.2.2.2.2.2.2.2))))))))))⟩ (fun hHeld => ?_)
     clear hK K
     refine on_ (i := 11) (N := none) (fun K hK => ?_)
     have hs108 : w102.cell? ⟨gb260, 0, none⟩ = some (.int .i64 0) := bl_ BK260.out 0
     have hfs108 := blk_frozen BK260.out 0
     have hns108_0 := NB259_260.out
     have hms108_0 := NB260_259.out
     have hs109 : w102.cell? ⟨gb260, 1, none⟩ = some (.slice none 0 0) := bl_ BK260.out 1
     have hfs109 := blk_frozen BK260.out 1
     have hns109_0 := NB259_260.out
     have hms109_0 := NB260_259.out
     have hs110 : w102.cell? ⟨gb260, 2, none⟩ = some (.bool false) := bl_ BK260.out 2
     have hfs110 := blk_frozen BK260.out 2
     have hns110_0 := NB259_260.out
     have hms110_0 := NB260_259.out
     have hs111 : w102.cell? ⟨gb260, 3, none⟩ = some (.bool false) := bl_ BK260.out 3
     have hfs111 := blk_frozen BK260.out 3
     have hns111_0 := NB259_260.out
     have hms111_0 := NB260_259.out
     have hs112 : w102.cell? ⟨gb260, 4, none⟩ = some (.int .i64 0) := bl_ BK260.out 4
     have hfs112 := blk_frozen BK260.out 4
     have hns112_0 := NB259_260.out
     have hms112_0 := NB260_259.out
     refine skip_ (w1 := ?_) (by rfl) rfl ?_ ?_
     rotate_left
     · go_simp
       rfl
     refine hK.out _ _ ⟨((cf_ (p := ⟨gb260, _, none⟩) hw257_0 GW260.out).trans (((cf_ (p := ⟨gb260, _, none⟩) hw257_0 GW260.out).trans (((cf_ (p := ⟨gb260, _, none⟩) hw257_0 GW260.out).trans (((cf_ (p := ⟨gb260, _, none⟩) hw257_0 GW260.out).trans (((cf_ (p := ⟨gb260, _, none⟩) hw257_0 GW260.out).trans (hHeld.1)))))))))), ((cf_ (p := ⟨gb260, _, none⟩) hw257_1 GW260.out).trans (((cf_ (p := ⟨gb260, _, none⟩) hw257_1 GW260.out).trans (((cf_ (p := ⟨gb260, _, none⟩) hw257_1 GW260.out).trans (((cf_ (p := ⟨gb260, _, none⟩) hw257_1 GW260.out).trans (((cf_ (p := ⟨gb260, _, none⟩) hw257_1 GW260.out).trans (hHeld.2.1)))))))))), ((cf_ (p := ⟨gb260, _, none⟩) hw257_2 GW260.out).trans (((cf_ (p := ⟨gb260, _, none⟩) hw257_2 GW260.out).trans (((cf_ (p := ⟨gb260, _, none⟩) hw257_2 GW260.out).trans (((cf_ (p := ⟨gb260, _, none⟩) hw257_2 GW260.out).trans (((cf_ (p := ⟨gb260, _, none⟩) hw257_2 GW260.out).trans (hHeld.2.2.1)))))))))), ((cf_ (p := ⟨gb260, _, none⟩) hw257_3 GW260.out).trans (((cf_ (p := ⟨gb260, _, none⟩) hw257_3 GW260.out).trans (((cf_ (p := ⟨gb260, _, none⟩) hw257_3 GW260.out).trans (((cf_ (p := ⟨gb260, _, none⟩) hw257_3 GW260.out).trans (((cf_ (p := ⟨gb260, _, none⟩) hw257_3 GW260.out).trans (hHeld.2.2.2.1)))))))))), ((cf_ (p := ⟨gb260, _, none⟩) hw257_4 GW260.out).trans (((cf_ (p := ⟨gb260, _, none⟩) hw257_4 GW260.out).trans (((cf_ (p := ⟨gb260, _, none⟩) hw257_4 GW260.out).trans (((cf_ (p := ⟨gb260, _, none⟩) hw257_4 GW260.out).trans (((cf_ (p := ⟨gb260, _, none⟩) hw257_4 GW260.out).trans (hHeld.2.2.2.2.1)))))))))), ((cf_ (p := ⟨gb260, _, none⟩) hw258_0 GW260.out).trans (((cf_ (p := ⟨gb260, _, none⟩) hw258_0 GW260.out).trans (((cf_ (p := ⟨gb260, _, none⟩) hw258_0 GW260.out).trans (((cf_ (p := ⟨gb260, _, none⟩) hw258_0 GW260.out).trans (((cf_ (p := ⟨gb260, _, none⟩) hw258_0 GW260.out).trans (hHeld.2.2.2.2.2.1)))))))))), ((cf_ (p := ⟨gb260, _, none⟩) hw258_1 GW260.out).trans (((cf_ (p := ⟨gb260, _, none⟩) hw258_1 GW260.out).trans (((cf_ (p := ⟨gb260, _, none⟩) hw258_1 GW260.out).trans (((cf_ (p := ⟨gb260, _, none⟩) hw258_1 GW260.out).trans (((cf_ (p := ⟨gb260, _, none⟩) hw258_1 GW260.out).trans (hHeld.2.2.2.2.2.2.1)))))))))), ((cf_ (p := ⟨gb260, _, none⟩) hw258_2 GW260.out).trans (((cf_ (p := ⟨gb260, _, none⟩) hw258_2 GW260.out).trans (((cf_ (p := ⟨gb260, _, none⟩) hw258_2 GW260.out).trans (((cf_ (p := ⟨gb260, _, none⟩) hw258_2 GW260.out).trans (((cf_ (p := ⟨gb260, _, none⟩) hw258_2 GW260.out).trans (hHeld.2.2.2.2.2.2.2.1)))))))))), ((cf_ (p := ⟨gb260, _, none⟩) hw258_3 GW260.out).trans (((cf_ (p := ⟨gb260, _, none⟩) hw258_3 GW260.out).trans (((cf_ (p := ⟨gb260, _, none⟩) hw258_3 GW260.out).trans (((cf_ (p := ⟨gb260, _, none⟩) hw258_3 GW260.out).trans (((cf_ (p := ⟨gb260, _, none⟩) hw258_3 GW260.out).trans (hHeld.2.2.2.2.2.2.2.2.1)))))))))), ((cf_ (p := ⟨gb260, _, none⟩) hw258_4 GW260.out).trans (((cf_ (p := ⟨gb260, _, none⟩) hw258_4 GW260.out).trans (((cf_ (p := ⟨gb260, _, none⟩) hw258_4 GW260.out).trans (((cf_ (p := ⟨gb260, _, none⟩) hw258_4 GW260.out).trans (((cf_ (p := ⟨gb260, _, none⟩) hw258_4 GW260.out).trans (hHeld.2.2.2.2.2.2.2.2.2))))))))))⟩ (fun hHeld => ?_)
     clear hK K
     refine done_ (done_of HT_.out (by kernel_rfl)) ?_
     (try clear hHeld)
     have hnb113 := NB259_260.out
     have hnc113 := NB260_259.out
     obtain ⟨hcz114_0, hcz114_1, hcz114_2, hcz114_3, hcz114_4, hfz114_0, hfz114_1, hfz114_2, hfz114_3, hfz114_4⟩ := cz5_ BK259.out
     obtain ⟨hcz115_0, hcz115_1, hcz115_2, hcz115_3, hcz115_4, hfz115_0, hfz115_1, hfz115_2, hfz115_3, hfz115_4⟩ := cz5_ BK260.out
     try go_wp2
     go_ret
     exact ⟨rr_, by repeat (first | (with_reducible first | exact HB.out | apply below_alloc | apply pw_below_drewN | apply below_drew1 | refine below_set ?_ GE259.out | refine below_set ?_ GE260.out) | exact HB.out)⟩
   rw [if_pos c8] at H
   have c8b0 : (((rd_T82 l0 x15_1).f0) == ((rd_T82 l1 x15_1).f0)) = true := beq_iff_eq.mpr c8
   have c8b1 : (((rd_T82 l0 x15_1).f0) != ((rd_T82 l1 x15_1).f0)) = false := bne_eq_false_iff_eq.mpr c8
   clear c8
   obtain ⟨t261, A9, H⟩ := bo_ H
   (try dsimp only at H)
   by_cases c10 : t261 = true
   · subst c10
     rw [if_pos rfl] at H
     by_cases c11 : (((rd_T82 l0 x15_1).f2) != ((rd_T82 l1 x15_1).f2)) = true
     · rw [if_pos c11] at H
       have c11b0 : (((rd_T82 l0 x15_1).f2) != ((rd_T82 l1 x15_1).f2)) = true := c11
       (try (have c11b1 : decide (((rd_T82 l0 x15_1).f2) = ((rd_T82 l1 x15_1).f2)) = false := by simpa using c11))
       (try (have c11b2 : (((rd_T82 l0 x15_1).f2) == ((rd_T82 l1 x15_1).f2)) = false := by simpa using c11))
       (try (have c11b3 : ¬ (((rd_T82 l0 x15_1).f2) = ((rd_T82 l1 x15_1).f2)) := by simpa using c11))
       clear c11
       obtain rfl := si_ H
       try go_wp2
       replace HB := A_ (below_drew1 HB.out)
       have p257 : 0 ≤ (x15_1 : Int) := od_
       have q257 : x15_1 < (l0.length : Int) := od_
       obtain ⟨ad257, A257_1, c257_1, e257, hx257_0, hx257_1, hx257_2, hx257_3, hx257_4, hl257_1, hi257_1⟩ := at_T82 HR0.out x15_1 p257 q257
       have hw257_4 := hx257_4
       have hw257_3 := hx257_3
       have hw257_2 := hx257_2
       have hw257_1 := hx257_1
       have hw257_0 := hx257_0
       cases e257
       replace hx257_0 := bc_ HB.out hx257_0
       replace hx257_1 := bc_ HB.out hx257_1
       replace hx257_2 := bc_ HB.out hx257_2
       replace hx257_3 := bc_ HB.out hx257_3
       replace hx257_4 := bc_ HB.out hx257_4
       have HR257_1 := A_ hi257_1
       have HC257_1 := A_ hl257_1
       clear hi257_1 hl257_1
       replace p257 := eq_true p257
       replace q257 := eq_true q257
       have p258 : 0 ≤ (x15_1 : Int) := od_
       have q258 : x15_1 < (l1.length : Int) := od_
       obtain ⟨ad258, A258_1, c258_1, e258, hx258_0, hx258_1, hx258_2, hx258_3, hx258_4, hl258_1, hi258_1⟩ := at_T82 HR1.out x15_1 p258 q258
       have hw258_4 := hx258_4
       have hw258_3 := hx258_3
       have hw258_2 := hx258_2
       have hw258_1 := hx258_1
       have hw258_0 := hx258_0
       cases e258
       replace hx258_0 := bc_ HB.out hx258_0
       replace hx258_1 := bc_ HB.out hx258_1
       replace hx258_2 := bc_ HB.out hx258_2
       replace hx258_3 := bc_ HB.out hx258_3
       replace hx258_4 := bc_ HB.out hx258_4
       have HR258_1 := A_ hi258_1
       have HC258_1 := A_ hl258_1
       clear hi258_1 hl258_1
       replace p258 := eq_true p258
       replace q258 := eq_true q258
       refine start_ (n := 12) (S := fun w' => w'.cell? (ad257.add ((x15_1).toNat * 5)) = some (.int .i64 ((rd_T82 l0 x15_1).f0)) ∧ w'.cell? ⟨(ad257.add ((x15_1).toNat * 5)).block, (ad257.add ((x15_1).toNat * 5)).off + 1, none⟩ = some (.slice A257_1 ((rd_T82 l0 x15_1).f1).length c257_1) ∧ w'.cell? ⟨(ad257.add ((x15_1).toNat * 5)).block, (ad257.add ((x15_1).toNat * 5)).off + 2, none⟩ = some (.bool ((rd_T82 l0 x15_1).f2)) ∧ w'.cell? ⟨(ad257.add ((x15_1).toNat * 5)).block, (ad257.add ((x15_1).toNat * 5)).off + 3, none⟩ = some (.bool ((rd_T82 l0 x15_1).f3)) ∧ w'.cell? ⟨(ad257.add ((x15_1).toNat * 5)).block, (ad257.add ((x15_1).toNat * 5)).off + 4, none⟩ = some (.int .i64 ((rd_T82 l0 x15_1).f4)) ∧ w'.cell? (ad258.add ((x15_1).toNat * 5)) = some (.int .i64 ((rd_T82 l1 x15_1).f0)) ∧ w'.cell? ⟨(ad258.add ((x15_1).toNat * 5)).block, (ad258.add ((x15_1).toNat * 5)).off + 1, none⟩ = some (.slice A258_1 ((rd_T82 l1 x15_1).f1).length c258_1) ∧ w'.cell? ⟨(ad258.add ((x15_1).toNat * 5)).block, (ad258.add ((x15_1).toNat * 5)).off + 2, none⟩ = some (.bool ((rd_T82 l1 x15_1).f2)) ∧ w'.cell? ⟨(ad258.add ((x15_1).toNat * 5)).block, (ad258.add ((x15_1).toNat * 5)).off + 3, none⟩ = some (.bool ((rd_T82 l1 x15_1).f3)) ∧ w'.cell? ⟨(ad258.add ((x15_1).toNat * 5)).block, (ad258.add ((x15_1).toNat * 5)).off + 4, none⟩ = some (.int .i64 ((rd_T82 l1 x15_1).f4))) (ds := []) #[false, false, false, false, false, false, false, false, false, false, false, false] (by kernel_rfl) rfl rfl ⟨(be_ hw257_0), (be_ hw257_1), (be_ hw257_2), (be_ hw257_3), (be_ hw257_4), (be_ hw258_0), (be_ hw258_1), (be_ hw258_2), (be_ hw258_3), (be_ hw258_4)⟩ (fun hHeld => ?_); refine with_tabW impl_sameLocks.tab6 impl_sameLocks.bits6 (fun HT_ HW_ => ?_)
       generalize wr.drew = w12 at HB HR257_1 HR258_1 hx257_0 hx257_1 hx257_2 hx257_3 hx257_4 hx258_0 hx258_1 hx258_2 hx258_3 hx258_4 hHeld ⊢
       refine pu_ (i := 0) (N := some 18) ?_
       refine pu_ (i := 1) (N := some 19) ?_
       refine pu_ (i := 2) (N := some 20) ?_
       refine pu_ (i := 4) (N := some 22) ?_
       refine pu_ (i := 5) (N := some 23) ?_
       refine pu_ (i := 6) (N := some 24) ?_
       refine tk_ (i := 3) (N := some 21) hHeld ?_
       refine tk_ (i := 7) (N := some 25) hHeld ?_
       refine join_ (σ := Nat × Nat) 2 #[true, true, true, true, true, true, true, true, true, true, false, false] (fun s_ => [(6, .pointer (some ⟨s_.1, 0, none⟩)), (7, .pointer (some ⟨s_.2, 0, none⟩))]) (fun s_ w' => (w'.cell? (ad257.add ((x15_1).toNat * 5)) = some (.int .i64 ((rd_T82 l0 x15_1).f0)) ∧ w'.cell? ⟨(ad257.add ((x15_1).toNat * 5)).block, (ad257.add ((x15_1).toNat * 5)).off + 1, none⟩ = some (.slice A257_1 ((rd_T82 l0 x15_1).f1).length c257_1) ∧ w'.cell? ⟨(ad257.add ((x15_1).toNat * 5)).block, (ad257.add ((x15_1).toNat * 5)).off + 2, none⟩ = some (.bool ((rd_T82 l0 x15_1).f2)) ∧ w'.cell? ⟨(ad257.add ((x15_1).toNat * 5)).block, (ad257.add ((x15_1).toNat * 5)).off + 3, none⟩ = some (.bool ((rd_T82 l0 x15_1).f3)) ∧ w'.cell? ⟨(ad257.add ((x15_1).toNat * 5)).block, (ad257.add ((x15_1).toNat * 5)).off + 4, none⟩ = some (.int .i64 ((rd_T82 l0 x15_1).f4)) ∧ w'.cell? (ad258.add ((x15_1).toNat * 5)) = some (.int .i64 ((rd_T82 l1 x15_1).f0)) ∧ w'.cell? ⟨(ad258.add ((x15_1).toNat * 5)).block, (ad258.add ((x15_1).toNat * 5)).off + 1, none⟩ = some (.slice A258_1 ((rd_T82 l1 x15_1).f1).length c258_1) ∧ w'.cell? ⟨(ad258.add ((x15_1).toNat * 5)).block, (ad258.add ((x15_1).toNat * 5)).off + 2, none⟩ = some (.bool ((rd_T82 l1 x15_1).f2)) ∧ w'.cell? ⟨(ad258.add ((x15_1).toNat * 5)).block, (ad258.add ((x15_1).toNat * 5)).off + 3, none⟩ = some (.bool ((rd_T82 l1 x15_1).f3)) ∧ w'.cell? ⟨(ad258.add ((x15_1).toNat * 5)).block, (ad258.add ((x15_1).toNat * 5)).off + 4, none⟩ = some (.int .i64 ((rd_T82 l1 x15_1).f4))) ∧ (w'.heap[s_.1]? = some (.cells #[.int .i64 0, .slice none 0 0, .bool false, .bool false, .int .i64 0] 82 (0, 0))) ∧ (w'.heap[s_.2]? = some (.cells #[.int .i64 0, .slice none 0 0, .bool false, .bool false, .int .i64 0] 82 (0, 0))) ∧ (w.heap.size ≤ s_.1) ∧ (w.heap.size ≤ s_.1) ∧ (s_.2 ≠ s_.1) ∧ (s_.1 ≠ s_.2) ∧ (w.heap.size ≤ s_.2) ∧ (w.heap.size ≤ s_.2) ∧ (Below w.heap.size w w')) ?_ ?_
       rotate_left
       · intro hCont
         refine two_ (i := 8) (j := 9) (Ni := some 6) (Nj := some 7) #[true, true, true, true, true, true, true, true, true, false, false, false] #[true, true, true, true, true, true, true, true, false, true, false, false] rfl rfl rfl rfl (two_of HT_.out (by kernel_rfl)) (by decide) (by decide) (fun K hK => ?_) (fun K hK => ?_)
         · skip
           refine box_step ?hg (N := 6) ?hd (cs := #[.int .i64 0, .slice none 0 0, .bool false, .bool false, .int .i64 0]) (t := 82) ?hr ?_; (case hd => rfl); (case hg => rfl); (case hr => first | (go_simp; done) | (go_simp; rfl))
           intro gb259 hg w13 hbox hb
           have BK259 := A_ (hbox)
           have GW259 := A_ (ge_ hg bB_ : w.heap.size ≤ gb259)
           have GE259 := A_ (ge_ hg bB_ : w.heap.size ≤ gb259)
           replace HB := A_ (below_step bB_ hb)
           clear hb hbox hg
           refine hK.out _ _ ⟨(be_ hw257_0), (be_ hw257_1), (be_ hw257_2), (be_ hw257_3), (be_ hw257_4), (be_ hw258_0), (be_ hw258_1), (be_ hw258_2), (be_ hw258_3), (be_ hw258_4)⟩ (fun hHeld => ?_)
           clear hK K
           refine no_ (some 6) ?_
           refine on_ (i := 9) (N := some 7) (fun K hK => ?_)
           refine box_step ?hg (N := 7) ?hd (cs := #[.int .i64 0, .slice none 0 0, .bool false, .bool false, .int .i64 0]) (t := 82) ?hr ?_; (case hd => rfl); (case hg => rfl); (case hr => first | (go_simp; done) | (go_simp; rfl))
           intro gb260 hg w14 hbox hb
           have BK260 := A_ (hbox)
           have GW260 := A_ (ge_ hg (bG_ GE259.out) : w.heap.size ≤ gb260)
           have GE260 := A_ (ge_ hg (bG_ GE259.out) : w.heap.size ≤ gb260)
           replace HB := A_ (below_step (bG_ GE259.out) hb)
           have NB259_260 := A_ (gm_ hg BK259.out)
           have NB260_259 := A_ (gn_ hg BK259.out)
           replace BK259 := A_ (bw_ BK259.out hb)
           clear hb hbox hg
           refine hK.out _ _ ⟨(be_ hw257_0), (be_ hw257_1), (be_ hw257_2), (be_ hw257_3), (be_ hw257_4), (be_ hw258_0), (be_ hw258_1), (be_ hw258_2), (be_ hw258_3), (be_ hw258_4)⟩ (fun hHeld => ?_)
           clear hK K
           refine no_ (some 7) ?_
           exact norm_ (by simp only [putAll, Act.put, List.setIfInBounds_toArray, List.set_cons_zero, List.set_cons_succ]) (hCont (gb259, gb260) _ ⟨hHeld, (vb_ BK259.out), (vb_ BK260.out), GW259.out, GE259.out, NB260_259.out, NB259_260.out, GW260.out, GE260.out, (by repeat (first | (with_reducible first | exact HB.out | apply below_alloc | apply pw_below_drewN | apply below_drew1 | refine below_set ?_ GE259.out | refine below_set ?_ GE260.out) | exact HB.out))⟩)
         · skip
           refine box_step ?hg (N := 7) ?hd (cs := #[.int .i64 0, .slice none 0 0, .bool false, .bool false, .int .i64 0]) (t := 82) ?hr ?_; (case hd => rfl); (case hg => rfl); (case hr => first | (go_simp; done) | (go_simp; rfl))
           intro gb260 hg w13 hbox hb
           have BK260 := A_ (hbox)
           have GW260 := A_ (ge_ hg bB_ : w.heap.size ≤ gb260)
           have GE260 := A_ (ge_ hg bB_ : w.heap.size ≤ gb260)
           replace HB := A_ (below_step bB_ hb)
           clear hb hbox hg
           refine hK.out _ _ ⟨(be_ hw257_0), (be_ hw257_1), (be_ hw257_2), (be_ hw257_3), (be_ hw257_4), (be_ hw258_0), (be_ hw258_1), (be_ hw258_2), (be_ hw258_3), (be_ hw258_4)⟩ (fun hHeld => ?_)
           clear hK K
           refine no_ (some 7) ?_
           refine on_ (i := 8) (N := some 6) (fun K hK => ?_)
           refine box_step ?hg (N := 6) ?hd (cs := #[.int .i64 0, .slice none 0 0, .bool false, .bool false, .int .i64 0]) (t := 82) ?hr ?_; (case hd => rfl); (case hg => rfl); (case hr => first | (go_simp; done) | (go_simp; rfl))
           intro gb259 hg w14 hbox hb
           have BK259 := A_ (hbox)
           have GW259 := A_ (ge_ hg (bG_ GE260.out) : w.heap.size ≤ gb259)
           have GE259 := A_ (ge_ hg (bG_ GE260.out) : w.heap.size ≤ gb259)
           replace HB := A_ (below_step (bG_ GE260.out) hb)
           have NB260_259 := A_ (gm_ hg BK260.out)
           have NB259_260 := A_ (gn_ hg BK260.out)
           replace BK260 := A_ (bw_ BK260.out hb)
           clear hb hbox hg
           refine hK.out _ _ ⟨(be_ hw257_0), (be_ hw257_1), (be_ hw257_2), (be_ hw257_3), (be_ hw257_4), (be_ hw258_0), (be_ hw258_1), (be_ hw258_2), (be_ hw258_3), (be_ hw258_4)⟩ (fun hHeld => ?_)
           clear hK K
           refine no_ (some 6) ?_
           exact norm_ (by simp only [putAll, Act.put, List.setIfInBounds_toArray, List.set_cons_zero, List.set_cons_succ]) (hCont (gb259, gb260) _ ⟨hHeld, (vb_ BK259.out), (vb_ BK260.out), GW259.out, GE259.out, NB260_259.out, NB259_260.out, GW260.out, GE260.out, (by repeat (first | (with_reducible first | exact HB.out | apply below_alloc | apply pw_below_drewN | apply below_drew1 | refine below_set ?_ GE260.out | refine below_set ?_ GE259.out) | exact HB.out))⟩)
       rintro ⟨gb259, gb260⟩ w15 ⟨hS_, h0_, h1_, h2_, h3_, h4_, h5_, h6_, h7_, h8_⟩
       have n0_ : Aside0 (w15.heap[gb259]? = some (.cells #[.int .i64 0, .slice none 0 0, .bool false, .bool false, .int .i64 0] 82 (0, 0))) := ⟨h0_⟩
       have n1_ : Aside0 (w15.heap[gb260]? = some (.cells #[.int .i64 0, .slice none 0 0, .bool false, .bool false, .int .i64 0] 82 (0, 0))) := ⟨h1_⟩
       have n2_ : Aside0 (w.heap.size ≤ gb259) := ⟨h2_⟩
       have n3_ : Aside0 (w.heap.size ≤ gb259) := ⟨h3_⟩
       have n4_ : Aside0 (gb260 ≠ gb259) := ⟨h4_⟩
       have n5_ : Aside0 (gb259 ≠ gb260) := ⟨h5_⟩
       have n6_ : Aside0 (w.heap.size ≤ gb260) := ⟨h6_⟩
       have n7_ : Aside0 (w.heap.size ≤ gb260) := ⟨h7_⟩
       have n8_ : Aside0 (Below w.heap.size w w15) := ⟨h8_⟩
       clear HB
       clear h0_ h1_ h2_ h3_ h4_ h5_ h6_ h7_ h8_
       have BK259 := n0_
       have BK260 := n1_
       have GW259 := n2_
       have GE259 := n3_
       have NB260_259 := n4_
       have NB259_260 := n5_
       have GW260 := n6_
       have GE260 := n7_
       have HB := n8_
       clear n0_ n1_ n2_ n3_ n4_ n5_ n6_ n7_ n8_
       have hHeld : w15.cell? (ad257.add ((x15_1).toNat * 5)) = some (.int .i64 ((rd_T82 l0 x15_1).f0)) ∧ w15.cell? ⟨(ad257.add ((x15_1).toNat * 5)).block, (ad257.add ((x15_1).toNat * 5)).off + 1, none⟩ = some (.slice A257_1 ((rd_T82 l0 x15_1).f1).length c257_1) ∧ w15.cell? ⟨(ad257.add ((x15_1).toNat * 5)).block, (ad257.add ((x15_1).toNat * 5)).off + 2, none⟩ = some (.bool ((rd_T82 l0 x15_1).f2)) ∧ w15.cell? ⟨(ad257.add ((x15_1).toNat * 5)).block, (ad257.add ((x15_1).toNat * 5)).off + 3, none⟩ = some (.bool ((rd_T82 l0 x15_1).f3)) ∧ w15.cell? ⟨(ad257.add ((x15_1).toNat * 5)).block, (ad257.add ((x15_1).toNat * 5)).off + 4, none⟩ = some (.int .i64 ((rd_T82 l0 x15_1).f4)) ∧ w15.cell? (ad258.add ((x15_1).toNat * 5)) = some (.int .i64 ((rd_T82 l1 x15_1).f0)) ∧ w15.cell? ⟨(ad258.add ((x15_1).toNat * 5)).block, (ad258.add ((x15_1).toNat * 5)).off + 1, none⟩ = some (.slice A258_1 ((rd_T82 l1 x15_1).f1).length c258_1) ∧ w15.cell? ⟨(ad258.add ((x15_1).toNat * 5)).block, (ad258.add ((x15_1).toNat * 5)).off + 2, none⟩ = some (.bool ((rd_T82 l1 x15_1).f2)) ∧ w15.cell? ⟨(ad258.add ((x15_1).toNat * 5)).block, (ad258.add ((x15_1).toNat * 5)).off + 3, none⟩ = some (.bool ((rd_T82 l1 x15_1).f3)) ∧ w15.cell? ⟨(ad258.add ((x15_1).toNat * 5)).block, (ad258.add ((x15_1).toNat * 5)).off + 4, none⟩ = some (.int .i64 ((rd_T82 l1 x15_1).f4)) := hS_
       refine norm_ (a' := ?_) ?_ ?_
       rotate_left
       · simp only [putAll, Act.put, List.setIfInBounds_toArray, List.set_cons_zero, List.set_cons_succ]
         rfl
       refine on_ (i := 10) (N := none) (fun K hK => ?_)
       have hs16 : w15.cell? ⟨gb259, 0, none⟩ = some (.int .i64 0) := bl_ BK259.out 0
       have hfs16 := blk_frozen BK259.out 0
       have hns16_1 := NB260_259.out
       have hms16_1 := NB259_260.out
       have hs17 : w15.cell? ⟨gb259, 1, none⟩ = some (.slice none 0 0) := bl_ BK259.out 1
       have hfs17 := blk_frozen BK259.out 1
       have hns17_1 := NB260_259.out
       have hms17_1 := NB259_260.out
       have hs18 : w15.cell? ⟨gb259, 2, none⟩ = some (.bool false) := bl_ BK259.out 2
       have hfs18 := blk_frozen BK259.out 2
       have hns18_1 := NB260_259.out
       have hms18_1 := NB259_260.out
       have hs19 : w15.cell? ⟨gb259, 3, none⟩ = some (.bool false) := bl_ BK259.out 3
       have hfs19 := blk_frozen BK259.out 3
       have hns19_1 := NB260_259.out
       have hms19_1 := NB259_260.out
       have hs20 : w15.cell? ⟨gb259, 4, none⟩ = some (.int .i64 0) := bl_ BK259.out 4
       have hfs20 := blk_frozen BK259.out 4
       have hns20_1 := NB260_259.out
       have hms20_1 := NB259_260.out
       refine skip_ (w1 := ?_) (by rfl) rfl ?_ ?_
       rotate_left
       · go_simp
         rfl
       refine hK.out _ _ ⟨((cf_ (p := ⟨gb259, _, none⟩) hw257_0 GW259.out).trans (((cf_ (p := ⟨gb259, _, none⟩) hw257_0 GW259.out).trans (((cf_ (p := ⟨gb259, _, none⟩) hw257_0 GW259.out).trans (((cf_ (p := ⟨gb259, _, none⟩) hw257_0 GW259.out).trans (((cf_ (p := ⟨gb259, _, none⟩) hw257_0 GW259.out).trans (hHeld.1)))))))))), ((cf_ (p := ⟨gb259, _, none⟩) hw257_1 GW259.out).trans (((cf_ (p := ⟨gb259, _, none⟩) hw257_1 GW259.out).trans (((cf_ (p := ⟨gb259, _, none⟩) hw257_1 GW259.out).trans (((cf_ (p := ⟨gb259, _, none⟩) hw257_1 GW259.out).trans (((cf_ (p := ⟨gb259, _, none⟩) hw257_1 GW259.out).trans (hHeld.2.1)))))))))), ((cf_ (p := ⟨gb259, _, none⟩) hw257_2 GW259.out).trans (((cf_ (p := ⟨gb259, _, none⟩) hw257_2 GW259.out).trans (((cf_ (p := ⟨gb259, _, none⟩) hw257_2 GW259.out).trans (((cf_ (p := ⟨gb259, _, none⟩) hw257_2 GW259.out).trans (((cf_ (p := ⟨gb259, _, none⟩) hw257_2 GW259.out).trans (hHeld.2.2.1)))))))))), ((cf_ (p := ⟨gb259, _, none⟩) hw257_3 GW259.out).trans (((cf_ (p := ⟨gb259, _, none⟩) hw257_3 GW259.out).trans (((cf_ (p := ⟨gb259, _, none⟩) hw257_3 GW259.out).trans (((cf_ (p := ⟨gb259, _, none⟩) hw257_3 GW259.out).trans (((cf_ (p := ⟨gb259, _, none⟩) hw257_3 GW259.out).trans (hHeld.2.2.2.1)))))))))), ((cf_ (p := ⟨gb259, _, none⟩) hw257_4 GW259.out).trans (((cf_ (p := ⟨gb259, _, none⟩) hw257_4 GW259.out).trans (((cf_ (p := ⟨gb259, _, none⟩) hw257_4 GW259.out).trans (((cf_ (p := ⟨gb259, _, none⟩) hw257_4 GW259.out).trans (((cf_ (p := ⟨gb259, _, none⟩) hw257_4 GW259.out).trans (hHeld.2.2.2.2.1)))))))))), ((cf_ (p := ⟨gb259, _, none⟩) hw258_0 GW259.out).trans (((cf_ (p := ⟨gb259, _, none⟩) hw258_0 GW259.out).trans (((cf_ (p := ⟨gb259, _, none⟩) hw258_0 GW259.out).trans (((cf_ (p := ⟨gb259, _, none⟩) hw258_0 GW259.out).trans (((cf_ (p := ⟨gb259, _, none⟩) hw258_0 GW259.out).trans (hHeld.2.2.2.2.2.1)))))))))), ((cf_ (p := ⟨gb259, _, none⟩) hw258_1 GW259.out).trans (((cf_ (p := ⟨gb259, _, none⟩) hw258_1 GW259.out).trans (((cf_ (p := ⟨gb259, _, none⟩) hw258_1 GW259.out).trans (((cf_ (p := ⟨gb259, _, none⟩) hw258_1 GW259.out).trans (((cf_ (p := ⟨gb259, _, none⟩) hw258_1 GW259.out).trans (hHeld.2.2.2.2.2.2.1)))))))))), ((cf_ (p := ⟨gb259, _, none⟩) hw258_2 GW259.out).trans (((cf_ (p := ⟨gb259, _, none⟩) hw258_2 GW259.out).trans (((cf_ (p := ⟨gb259, _, none⟩) hw258_2 GW259.out).trans (((cf_ (p := ⟨gb259, _, none⟩) hw258_2 GW259.out).trans (((cf_ (p := ⟨gb259, _, none⟩) hw258_2 GW259.out).trans (hHeld.2.2.2.2.2.2.2.1)))))))))), ((cf_ (p := ⟨gb259, _, none⟩) hw258_3 GW259.out).trans (((cf_ (p := ⟨gb259, _, none⟩) hw258_3 GW259.out).trans (((cf_ (p := ⟨gb259, _, none⟩) hw258_3 GW259.out).trans (((cf_ (p := ⟨gb259, _, none⟩) hw258_3 GW259.out).trans (((cf_ (p := ⟨gb259, _, none⟩) hw258_3 GW259.out).trans (hHeld.2.2.2.2.2.2.2.2.1)))))))))), ((cf_ (p := ⟨gb259, _, none⟩) hw258_4 GW259.out).trans (((cf_ (p := ⟨gb259, _, none⟩) hw258_4 GW259.out).trans (((cf_ (p := ⟨gb259, _, none⟩) hw258_4 GW259.out).trans (((cf_ (p := ⟨gb259, _, none⟩) hw258_4 GW259.out).trans (((cf_ (p := ⟨gb259, _, none⟩) hw258_4 GW259.out).trans (hHeld.2.2.2.2.2.2.2.2.2))))))))))⟩ (fun hHeld => ?_)
       clear hK K
       refine on_ (i := 11) (N := none) (fun K hK => ?_)
       have hs21 : w15.cell? ⟨gb260, 0, none⟩ = some (.int .i64 0) := bl_ BK260.out 0
       have hfs21 := blk_frozen BK260.out 0
       have hns21_0 := NB259_260.out
       have hms21_0 := NB260_259.out
       have hs22 : w15.cell? ⟨gb260, 1, none⟩ = some (.slice none 0 0) := bl_ BK260.out 1
       have hfs22 := blk_frozen BK260.out 1
       have hns22_0 := NB259_260.out
       have hms22_0 := NB260_259.out
       have hs23 : w15.cell? ⟨gb260, 2, none⟩ = some (.bool false) := bl_ BK260.out 2
       have hfs23 := blk_frozen BK260.out 2
       have hns23_0 := NB259_260.out
       have hms23_0 := NB260_259.out
       have hs24 : w15.cell? ⟨gb260, 3, none⟩ = some (.bool false) := bl_ BK260.out 3
       have hfs24 := blk_frozen BK260.out 3
       have hns24_0 := NB259_260.out
       have hms24_0 := NB260_259.out
       have hs25 : w15.cell? ⟨gb260, 4, none⟩ = some (.int .i64 0) := bl_ BK260.out 4
       have hfs25 := blk_frozen BK260.out 4
       have hns25_0 := NB259_260.out
       have hms25_0 := NB260_259.out
       refine skip_ (w1 := ?_) (by rfl) rfl ?_ ?_
       rotate_left
       · go_simp
         rfl
       refine hK.out _ _ ⟨((cf_ (p := ⟨gb260, _, none⟩) hw257_0 GW260.out).trans (((cf_ (p := ⟨gb260, _, none⟩) hw257_0 GW260.out).trans (((cf_ (p := ⟨gb260, _, none⟩) hw257_0 GW260.out).trans (((cf_ (p := ⟨gb260, _, none⟩) hw257_0 GW260.out).trans (((cf_ (p := ⟨gb260, _, none⟩) hw257_0 GW260.out).trans (hHeld.1)))))))))), ((cf_ (p := ⟨gb260, _, none⟩) hw257_1 GW260.out).trans (((cf_ (p := ⟨gb260, _, none⟩) hw257_1 GW260.out).trans (((cf_ (p := ⟨gb260, _, none⟩) hw257_1 GW260.out).trans (((cf_ (p := ⟨gb260, _, none⟩) hw257_1 GW260.out).trans (((cf_ (p := ⟨gb260, _, none⟩) hw257_1 GW260.out).trans (hHeld.2.1)))))))))), ((cf_ (p := ⟨gb260, _, none⟩) hw257_2 GW260.out).trans (((cf_ (p := ⟨gb260, _, none⟩) hw257_2 GW260.out).trans (((cf_ (p := ⟨gb260, _, none⟩) hw257_2 GW260.out).trans (((cf_ (p := ⟨gb260, _, none⟩) hw257_2 GW260.out).trans (((cf_ (p := ⟨gb260, _, none⟩) hw257_2 GW260.out).trans (hHeld.2.2.1)))))))))), ((cf_ (p := ⟨gb260, _, none⟩) hw257_3 GW260.out).trans (((cf_ (p := ⟨gb260, _, none⟩) hw257_3 GW260.out).trans (((cf_ (p := ⟨gb260, _, none⟩) hw257_3 GW260.out).trans (((cf_ (p := ⟨gb260, _, none⟩) hw257_3 GW260.out).trans (((cf_ (p := ⟨gb260, _, none⟩) hw257_3 GW260.out).trans (hHeld.2.2.2.1)))))))))), ((cf_ (p := ⟨gb260, _, none⟩) hw257_4 GW260.out).trans (((cf_ (p := ⟨gb260, _, none⟩) hw257_4 GW260.out).trans (((cf_ (p := ⟨gb260, _, none⟩) hw257_4 GW260.out).trans (((cf_ (p := ⟨gb260, _, none⟩) hw257_4 GW260.out).trans (((cf_ (p := ⟨gb260, _, none⟩) hw257_4 GW260.out).trans (hHeld.2.2.2.2.1)))))))))), ((cf_ (p := ⟨gb260, _, none⟩) hw258_0 GW260.out).trans (((cf_ (p := ⟨gb260, _, none⟩) hw258_0 GW260.out).trans (((cf_ (p := ⟨gb260, _, none⟩) hw258_0 GW260.out).trans (((cf_ (p := ⟨gb260, _, none⟩) hw258_0 GW260.out).trans (((cf_ (p := ⟨gb260, _, none⟩) hw258_0 GW260.out).trans (hHeld.2.2.2.2.2.1)))))))))), ((cf_ (p := ⟨gb260, _, none⟩) hw258_1 GW260.out).trans (((cf_ (p := ⟨gb260, _, none⟩) hw258_1 GW260.out).trans (((cf_ (p := ⟨gb260, _, none⟩) hw258_1 GW260.out).trans (((cf_ (p := ⟨gb260, _, none⟩) hw258_1 GW260.out).trans (((cf_ (p := ⟨gb260, _, none⟩) hw258_1 GW260.out).trans (hHeld.2.2.2.2.2.2.1)))))))))), ((cf_ (p := ⟨gb260, _, none⟩) hw258_2 GW260.out).trans (((cf_ (p := ⟨gb260, _, none⟩) hw258_2 GW260.out).trans (((cf_ (p := ⟨gb260, _, none⟩) hw258_2 GW260.out).trans (((cf_ (p := ⟨gb260, _, none⟩) hw258_2 GW260.out).trans (((cf_ (p := ⟨gb260, _, none⟩) hw258_2 GW260.out).trans (hHeld.2.2.2.2.2.2.2.1)))))))))), ((cf_ (p := ⟨gb260, _, none⟩) hw258_3 GW260.out).trans (((cf_ (p := ⟨gb260, _, none⟩) hw258_3 GW260.out).trans (((cf_ (p := ⟨gb260, _, none⟩) hw258_3 GW260.out).trans (((cf_ (p := ⟨gb260, _, none⟩) hw258_3 GW260.out).trans (((cf_ (p := ⟨gb260, _, none⟩) hw258_3 GW260.out).trans (hHeld.2.2.2.2.2.2.2.2.1)))))))))), ((cf_ (p := ⟨gb260, _, none⟩) hw258_4 GW260.out).trans (((cf_ (p := ⟨gb260, _, none⟩) hw258_4 GW260.out).trans (((cf_ (p := ⟨gb260, _, none⟩) hw258_4 GW260.out).trans (((cf_ (p := ⟨gb260, _, none⟩) hw258_4 GW260.out).trans (((cf_ (p := ⟨gb260, _, none⟩) hw258_4 GW260.out).trans (hHeld.2.2.2.2.2.2.2.2.2))))))))))⟩ (fun hHeld => ?_)
       clear hK K
       refine done_ (done_of HT_.out (by kernel_rfl)) ?_
       (try clear hHeld)
       have hnb26 := NB259_260.out
       have hnc26 := NB260_259.out
       obtain ⟨hcz27_0, hcz27_1, hcz27_2, hcz27_3, hcz27_4, hfz27_0, hfz27_1, hfz27_2, hfz27_3, hfz27_4⟩ := cz5_ BK259.out
       obtain ⟨hcz28_0, hcz28_1, hcz28_2, hcz28_3, hcz28_4, hfz28_0, hfz28_1, hfz28_2, hfz28_3, hfz28_4⟩ := cz5_ BK260.out
       try go_wp2_with (first | (go_at_call 72; (with_reducible refine (impl_SamePath.calls k1 _ _ ((rd_T82 l0 x15_1).f1) _ _ ((rd_T82 l1 x15_1).f1) true _ ?s1 ?s2 ?s3 ?s4 A9.out).mono ?_); (case s1 => exact Kd.C_below HR257_1.out (by repeat (first | (with_reducible first | exact HB.out | apply below_alloc | apply pw_below_drewN | apply below_drew1 | refine below_set ?_ GE259.out | refine below_set ?_ GE260.out) | exact HB.out))); (case s2 => exact HC257_1.out); (case s3 => exact Kd.C_below HR258_1.out (by repeat (first | (with_reducible first | exact HB.out | apply below_alloc | apply pw_below_drewN | apply below_drew1 | refine below_set ?_ GE259.out | refine below_set ?_ GE260.out) | exact HB.out))); (case s4 => exact HC258_1.out); rintro e w' ⟨rfl, ⟨nd, rfl⟩⟩))
       go_ret
       exact ⟨rr_, by repeat (first | (with_reducible first | exact HB.out | apply below_alloc | apply pw_below_drewN | apply below_drew1 | refine below_set ?_ GE259.out | refine below_set ?_ GE260.out) | exact HB.out)⟩
     rw [if_neg c11] at H
     have c11b0 : (((rd_T82 l0 x15_1).f2) != ((rd_T82 l1 x15_1).f2)) = false := by simpa using c11
     (try (have c11b1 : decide (((rd_T82 l0 x15_1).f2) = ((rd_T82 l1 x15_1).f2)) = true := by simpa using c11))
     (try (have c11b2 : (((rd_T82 l0 x15_1).f2) == ((rd_T82 l1 x15_1).f2)) = true := by simpa using c11))
     clear c11
     by_cases c29 : (((rd_T82 l0 x15_1).f3) != ((rd_T82 l1 x15_1).f3)) = true
     · rw [if_pos c29] at H
       have c29b0 : (((rd_T82 l0 x15_1).f3) != ((rd_T82 l1 x15_1).f3)) = true := c29
       (try (have c29b1 : decide (((rd_T82 l0 x15_1).f3) = ((rd_T82 l1 x15_1).f3)) = false := by simpa using c29))
       (try (have c29b2 : (((rd_T82 l0 x15_1).f3) == ((rd_T82 l1 x15_1).f3)) = false := by simpa using c29))
       (try (have c29b3 : ¬ (((rd_T82 l0 x15_1).f3) = ((rd_T82 l1 x15_1).f3)) := by simpa using c29))
       clear c29
       obtain rfl := si_ H
       try go_wp2
       replace HB := A_ (below_drew1 HB.out)
       have p257 : 0 ≤ (x15_1 : Int) := od_
       have q257 : x15_1 < (l0.length : Int) := od_
       obtain ⟨ad257, A257_1, c257_1, e257, hx257_0, hx257_1, hx257_2, hx257_3, hx257_4, hl257_1, hi257_1⟩ := at_T82 HR0.out x15_1 p257 q257
       have hw257_4 := hx257_4
       have hw257_3 := hx257_3
       have hw257_2 := hx257_2
       have hw257_1 := hx257_1
       have hw257_0 := hx257_0
       cases e257
       replace hx257_0 := bc_ HB.out hx257_0
       replace hx257_1 := bc_ HB.out hx257_1
       replace hx257_2 := bc_ HB.out hx257_2
       replace hx257_3 := bc_ HB.out hx257_3
       replace hx257_4 := bc_ HB.out hx257_4
       have HR257_1 := A_ hi257_1
       have HC257_1 := A_ hl257_1
       clear hi257_1 hl257_1
       replace p257 := eq_true p257
       replace q257 := eq_true q257
       have p258 : 0 ≤ (x15_1 : Int) := od_
       have q258 : x15_1 < (l1.length : Int) := od_
       obtain ⟨ad258, A258_1, c258_1, e258, hx258_0, hx258_1, hx258_2, hx258_3, hx258_4, hl258_1, hi258_1⟩ := at_T82 HR1.out x15_1 p258 q258
       have hw258_4 := hx258_4
       have hw258_3 := hx258_3
       have hw258_2 := hx258_2
       have hw258_1 := hx258_1
       have hw258_0 := hx258_0
       cases e258
       replace hx258_0 := bc_ HB.out hx258_0
       replace hx258_1 := bc_ HB.out hx258_1
       replace hx258_2 := bc_ HB.out hx258_2
       replace hx258_3 := bc_ HB.out hx258_3
       replace hx258_4 := bc_ HB.out hx258_4
       have HR258_1 := A_ hi258_1
       have HC258_1 := A_ hl258_1
       clear hi258_1 hl258_1
       replace p258 := eq_true p258
       replace q258 := eq_true q258
       refine start_ (n := 12) (S := fun w' => w'.cell? (ad257.add ((x15_1).toNat * 5)) = some (.int .i64 ((rd_T82 l0 x15_1).f0)) ∧ w'.cell? ⟨(ad257.add ((x15_1).toNat * 5)).block, (ad257.add ((x15_1).toNat * 5)).off + 1, none⟩ = some (.slice A257_1 ((rd_T82 l0 x15_1).f1).length c257_1) ∧ w'.cell? ⟨(ad257.add ((x15_1).toNat * 5)).block, (ad257.add ((x15_1).toNat * 5)).off + 2, none⟩ = some (.bool ((rd_T82 l0 x15_1).f2)) ∧ w'.cell? ⟨(ad257.add ((x15_1).toNat * 5)).block, (ad257.add ((x15_1).toNat * 5)).off + 3, none⟩ = some (.bool ((rd_T82 l0 x15_1).f3)) ∧ w'.cell? ⟨(ad257.add ((x15_1).toNat * 5)).block, (ad257.add ((x15_1).toNat * 5)).off + 4, none⟩ = some (.int .i64 ((rd_T82 l0 x15_1).f4)) ∧ w'.cell? (ad258.add ((x15_1).toNat * 5)) = some (.int .i64 ((rd_T82 l1 x15_1).f0)) ∧ w'.cell? ⟨(ad258.add ((x15_1).toNat * 5)).block, (ad258.add ((x15_1).toNat * 5)).off + 1, none⟩ = some (.slice A258_1 ((rd_T82 l1 x15_1).f1).length c258_1) ∧ w'.cell? ⟨(ad258.add ((x15_1).toNat * 5)).block, (ad258.add ((x15_1).toNat * 5)).off + 2, none⟩ = some (.bool ((rd_T82 l1 x15_1).f2)) ∧ w'.cell? ⟨(ad258.add ((x15_1).toNat * 5)).block, (ad258.add ((x15_1).toNat * 5)).off + 3, none⟩ = some (.bool ((rd_T82 l1 x15_1).f3)) ∧ w'.cell? ⟨(ad258.add ((x15_1).toNat * 5)).block, (ad258.add ((x15_1).toNat * 5)).off + 4, none⟩ = some (.int .i64 ((rd_T82 l1 x15_1).f4))) (ds := []) #[false, false, false, false, false, false, false, false, false, false, false, false] (by kernel_rfl) rfl rfl ⟨(be_ hw257_0), (be_ hw257_1), (be_ hw257_2), (be_ hw257_3), (be_ hw257_4), (be_ hw258_0), (be_ hw258_1), (be_ hw258_2), (be_ hw258_3), (be_ hw258_4)⟩ (fun hHeld => ?_); refine with_tabW impl_sameLocks.tab6 impl_sameLocks.bits6 (fun HT_ HW_ => ?_)
       generalize wr.drew = w30 at HB HR257_1 HR258_1 hx257_0 hx257_1 hx257_2 hx257_3 hx257_4 hx258_0 hx258_1 hx258_2 hx258_3 hx258_4 hHeld ⊢
       refine pu_ (i := 0) (N := some 18) ?_
       refine pu_ (i := 1) (N := some 19) ?_
       refine pu_ (i := 2) (N := some 20) ?_
       refine pu_ (i := 4) (N := some 22) ?_
       refine pu_ (i := 5) (N := some 23) ?_
       refine pu_ (i := 6) (N := some 24) ?_
       refine tk_ (i := 3) (N := some 21) hHeld ?_
       refine tk_ (i := 7) (N := some 25) hHeld ?_
       refine join_ (σ := Nat × Nat) 2 #[true, true, true, true, true, true, true, true, true, true, false, false] (fun s_ => [(6, .pointer (some ⟨s_.1, 0, none⟩)), (7, .pointer (some ⟨s_.2, 0, none⟩))]) (fun s_ w' => (w'.cell? (ad257.add ((x15_1).toNat * 5)) = some (.int .i64 ((rd_T82 l0 x15_1).f0)) ∧ w'.cell? ⟨(ad257.add ((x15_1).toNat * 5)).block, (ad257.add ((x15_1).toNat * 5)).off + 1, none⟩ = some (.slice A257_1 ((rd_T82 l0 x15_1).f1).length c257_1) ∧ w'.cell? ⟨(ad257.add ((x15_1).toNat * 5)).block, (ad257.add ((x15_1).toNat * 5)).off + 2, none⟩ = some (.bool ((rd_T82 l0 x15_1).f2)) ∧ w'.cell? ⟨(ad257.add ((x15_1).toNat * 5)).block, (ad257.add ((x15_1).toNat * 5)).off + 3, none⟩ = some (.bool ((rd_T82 l0 x15_1).f3)) ∧ w'.cell? ⟨(ad257.add ((x15_1).toNat * 5)).block, (ad257.add ((x15_1).toNat * 5)).off + 4, none⟩ = some (.int .i64 ((rd_T82 l0 x15_1).f4)) ∧ w'.cell? (ad258.add ((x15_1).toNat * 5)) = some (.int .i64 ((rd_T82 l1 x15_1).f0)) ∧ w'.cell? ⟨(ad258.add ((x15_1).toNat * 5)).block, (ad258.add ((x15_1).toNat * 5)).off + 1, none⟩ = some (.slice A258_1 ((rd_T82 l1 x15_1).f1).length c258_1) ∧ w'.cell? ⟨(ad258.add ((x15_1).toNat * 5)).block, (ad258.add ((x15_1).toNat * 5)).off + 2, none⟩ = some (.bool ((rd_T82 l1 x15_1).f2)) ∧ w'.cell? ⟨(ad258.add ((x15_1).toNat * 5)).block, (ad258.add ((x15_1).toNat * 5)).off + 3, none⟩ = some (.bool ((rd_T82 l1 x15_1).f3)) ∧ w'.cell? ⟨(ad258.add ((x15_1).toNat * 5)).block, (ad258.add ((x15_1).toNat * 5)).off + 4, none⟩ = some (.int .i64 ((rd_T82 l1 x15_1).f4))) ∧ (w'.heap[s_.1]? = some (.cells #[.int .i64 0, .slice none 0 0, .bool false, .bool false, .int .i64 0] 82 (0, 0))) ∧ (w'.heap[s_.2]? = some (.cells #[.int .i64 0, .slice none 0 0, .bool false, .bool false, .int .i64 0] 82 (0, 0))) ∧ (w.heap.size ≤ s_.1) ∧ (w.heap.size ≤ s_.1) ∧ (s_.2 ≠ s_.1) ∧ (s_.1 ≠ s_.2) ∧ (w.heap.size ≤ s_.2) ∧ (w.heap.size ≤ s_.2) ∧ (Below w.heap.size w w')) ?_ ?_
       rotate_left
       · intro hCont
         refine two_ (i := 8) (j := 9) (Ni := some 6) (Nj := some 7) #[true, true, true, true, true, true, true, true, true, false, false, false] #[true, true, true, true, true, true, true, true, false, true, false, false] rfl rfl rfl rfl (two_of HT_.out (by kernel_rfl)) (by decide) (by decide) (fun K hK => ?_) (fun K hK => ?_)
         · skip
           refine box_step ?hg (N := 6) ?hd (cs := #[.int .i64 0, .slice none 0 0, .bool false, .bool false, .int .i64 0]) (t := 82) ?hr ?_; (case hd => rfl); (case hg => rfl); (case hr => first | (go_simp; done) | (go_simp; rfl))
           intro gb259 hg w31 hbox hb
           have BK259 := A_ (hbox)
           have GW259 := A_ (ge_ hg bB_ : w.heap.size ≤ gb259)
           have GE259 := A_ (ge_ hg bB_ : w.heap.size ≤ gb259)
           replace HB := A_ (below_step bB_ hb)
           clear hb hbox hg
           refine hK.out _ _ ⟨(be_ hw257_0), (be_ hw257_1), (be_ hw257_2), (be_ hw257_3), (be_ hw257_4), (be_ hw258_0), (be_ hw258_1), (be_ hw258_2), (be_ hw258_3), (be_ hw258_4)⟩ (fun hHeld => ?_)
           clear hK K
           refine no_ (some 6) ?_
           refine on_ (i := 9) (N := some 7) (fun K hK => ?_)
           refine box_step ?hg (N := 7) ?hd (cs := #[.int .i64 0, .slice none 0 0, .bool false, .bool false, .int .i64 0]) (t := 82) ?hr ?_; (case hd => rfl); (case hg => rfl); (case hr => first | (go_simp; done) | (go_simp; rfl))
           intro gb260 hg w32 hbox hb
           have BK260 := A_ (hbox)
           have GW260 := A_ (ge_ hg (bG_ GE259.out) : w.heap.size ≤ gb260)
           have GE260 := A_ (ge_ hg (bG_ GE259.out) : w.heap.size ≤ gb260)
           replace HB := A_ (below_step (bG_ GE259.out) hb)
           have NB259_260 := A_ (gm_ hg BK259.out)
           have NB260_259 := A_ (gn_ hg BK259.out)
           replace BK259 := A_ (bw_ BK259.out hb)
           clear hb hbox hg
           refine hK.out _ _ ⟨(be_ hw257_0), (be_ hw257_1), (be_ hw257_2), (be_ hw257_3), (be_ hw257_4), (be_ hw258_0), (be_ hw258_1), (be_ hw258_2), (be_ hw258_3), (be_ hw258_4)⟩ (fun hHeld => ?_)
           clear hK K
           refine no_ (some 7) ?_
           exact norm_ (by simp only [putAll, Act.put, List.setIfInBounds_toArray, List.set_cons_zero, List.set_cons_succ]) (hCont (gb259, gb260) _ ⟨hHeld, (vb_ BK259.out), (vb_ BK260.out), GW259.out, GE259.out, NB260_259.out, NB259_260.out, GW260.out, GE260.out, (by repeat (first | (with_reducible first | exact HB.out | apply below_alloc | apply pw_below_drewN | apply below_drew1 | refine below_set ?_ GE259.out | refine below_set ?_ GE260.out) | exact HB.out))⟩)
         · skip
           refine box_step ?hg (N := 7) ?hd (cs := #[.int .i64 0, .slice none 0 0, .bool false, .bool false, .int .i64 0]) (t := 82) ?hr ?_; (case hd => rfl); (case hg => rfl); (case hr => first | (go_simp; done) | (go_simp; rfl))
           intro gb260 hg w31 hbox hb
           have BK260 := A_ (hbox)
           have GW260 := A_ (ge_ hg bB_ : w.heap.size ≤ gb260)
           have GE260 := A_ (ge_ hg bB_ : w.heap.size ≤ gb260)
           replace HB := A_ (below_step bB_ hb)
           clear hb hbox hg
           refine hK.out _ _ ⟨(be_ hw257_0), (be_ hw257_1), (be_ hw257_2), (be_ hw257_3), (be_ hw257_4), (be_ hw258_0), (be_ hw258_1), (be_ hw258_2), (be_ hw258_3), (be_ hw258_4)⟩ (fun hHeld => ?_)
           clear hK K
           refine no_ (some 7) ?_
           refine on_ (i := 8) (N := some 6) (fun K hK => ?_)
           refine box_step ?hg (N := 6) ?hd (cs := #[.int .i64 0, .slice none 0 0, .bool false, .bool false, .int .i64 0]) (t := 82) ?hr ?_; (case hd => rfl); (case hg => rfl); (case hr => first | (go_simp; done) | (go_simp; rfl))
           intro gb259 hg w32 hbox hb
           have BK259 := A_ (hbox)
           have GW259 := A_ (ge_ hg (bG_ GE260.out) : w.heap.size ≤ gb259)
           have GE259 := A_ (ge_ hg (bG_ GE260.out) : w.heap.size ≤ gb259)
           replace HB := A_ (below_step (bG_ GE260.out) hb)
           have NB260_259 := A_ (gm_ hg BK260.out)
           have NB259_260 := A_ (gn_ hg BK260.out)
           replace BK260 := A_ (bw_ BK260.out hb)
           clear hb hbox hg
           refine hK.out _ _ ⟨(be_ hw257_0), (be_ hw257_1), (be_ hw257_2), (be_ hw257_3), (be_ hw257_4), (be_ hw258_0), (be_ hw258_1), (be_ hw258_2), (be_ hw258_3), (be_ hw258_4)⟩ (fun hHeld => ?_)
           clear hK K
           refine no_ (some 6) ?_
           exact norm_ (by simp only [putAll, Act.put, List.setIfInBounds_toArray, List.set_cons_zero, List.set_cons_succ]) (hCont (gb259, gb260) _ ⟨hHeld, (vb_ BK259.out), (vb_ BK260.out), GW259.out, GE259.out, NB260_259.out, NB259_260.out, GW260.out, GE260.out, (by repeat (first | (with_reducible first | exact HB.out | apply below_alloc | apply pw_below_drewN | apply below_drew1 | refine below_set ?_ GE260.out | refine below_set ?_ GE259.out) | exact HB.out))⟩)
       rintro ⟨gb259, gb260⟩ w33 ⟨hS_, h0_, h1_, h2_, h3_, h4_, h5_, h6_, h7_, h8_⟩
       have n0_ : Aside0 (w33.heap[gb259]? = some (.cells #[.int .i64 0, .slice none 0 0, .bool false, .bool false, .int .i64 0] 82 (0, 0))) := ⟨h0_⟩
       have n1_ : Aside0 (w33.heap[gb260]? = some (.cells #[.int .i64 0, .slice none 0 0, .bool false, .bool false, .int .i64 0] 82 (0, 0))) := ⟨h1_⟩
       have n2_ : Aside0 (w.heap.size ≤ gb259) := ⟨h2_⟩
       have n3_ : Aside0 (w.heap.size ≤ gb259) := ⟨h3_⟩
       have n4_ : Aside0 (gb260 ≠ gb259) := ⟨h4_⟩
       have n5_ : Aside0 (gb259 ≠ gb260) := ⟨h5_⟩
       have n6_ : Aside0 (w.heap.size ≤ gb260) := ⟨h6_⟩
       have n7_ : Aside0 (w.heap.size ≤ gb260) := ⟨h7_⟩
       have n8_ : Aside0 (Below w.heap.size w w33) := ⟨h8_⟩
       clear HB
       clear h0_ h1_ h2_ h3_ h4_ h5_ h6_ h7_ h8_
       have BK259 := n0_
       have BK260 := n1_
       have GW259 := n2_
       have GE259 := n3_
       have NB260_259 := n4_
       have NB259_260 := n5_
       have GW260 := n6_
       have GE260 := n7_
       have HB := n8_
       clear n0_ n1_ n2_ n3_ n4_ n5_ n6_ n7_ n8_
       have hHeld : w33.cell? (ad257.add ((x15_1).toNat * 5)) = some (.int .i64 ((rd_T82 l0 x15_1).f0)) ∧ w33.cell? ⟨(ad257.add ((x15_1).toNat * 5)).block, (ad257.add ((x15_1).toNat * 5)).off + 1, none⟩ = some (.slice A257_1 ((rd_T82 l0 x15_1).f1).length c257_1) ∧ w33.cell? ⟨(ad257.add ((x15_1).toNat * 5)).block, (ad257.add ((x15_1).toNat * 5)).off + 2, none⟩ = some (.bool ((rd_T82 l0 x15_1).f2)) ∧ w33.cell? ⟨(ad257.add ((x15_1).toNat * 5)).block, (ad257.add ((x15_1).toNat * 5)).off + 3, none⟩ = some (.bool ((rd_T82 l0 x15_1).f3)) ∧ w33.cell? ⟨(ad257.add ((x15_1).toNat * 5)).block, (ad257.add ((x15_1).toNat * 5)).off + 4, none⟩ = some (.int .i64 ((rd_T82 l0 x15_1).f4)) ∧ w33.cell? (ad258.add ((x15_1).toNat * 5)) = some (.int .i64 ((rd_T82 l1 x15_1).f0)) ∧ w33.cell? ⟨(ad258.add ((x15_1).toNat * 5)).block, (ad258.add ((x15_1).toNat * 5)).off + 1, none⟩ = some (.slice A258_1 ((rd_T82 l1 x15_1).f1).length c258_1) ∧ w33.cell? ⟨(ad258.add ((x15_1).toNat * 5)).block, (ad258.add ((x15_1).toNat * 5)).off + 2, none⟩ = some (.bool ((rd_T82 l1 x15_1).f2)) ∧ w33.cell? ⟨(ad258.add ((x15_1).toNat * 5)).block, (ad258.add ((x15_1).toNat * 5)).off + 3, none⟩ = some (.bool ((rd_T82 l1 x15_1).f3)) ∧ w33.cell? ⟨(ad258.add ((x15_1).toNat * 5)).block, (ad258.add ((x15_1).toNat * 5)).off + 4, none⟩ = some (.int .i64 ((rd_T82 l1 x15_1).f4)) := hS_
       refine norm_ (a' := ?_) ?_ ?_
       rotate_left
       · simp only [putAll, Act.put, List.setIfInBounds_toArray, List.set_cons_zero, List.set_cons_succ]
         rfl
       refine on_ (i := 10) (N := none) (fun K hK => ?_)
       have hs34 : w33.cell? ⟨gb259, 0, none⟩ = some (.int .i64 0) := bl_ BK259.out 0
       have hfs34 := blk_frozen BK259.out 0
       have hns34_1 := NB260_259.out
       have hms34_1 := NB259_260.out
       have hs35 : w33.cell? ⟨gb259, 1, none⟩ = some (.slice none 0 0) := bl_ BK259.out 1
       have hfs35 := blk_frozen BK259.out 1
       have hns35_1 := NB260_259.out
       have hms35_1 := NB259_260.out
       have hs36 : w33.cell? ⟨gb259, 2, none⟩ = some (.bool false) := bl_ BK259.out 2
       have hfs36 := blk_frozen BK259.out 2
       have hns36_1 := NB260_259.out
       have hms36_1 := NB259_260.out
       have hs37 : w33.cell? ⟨gb259, 3, none⟩ = some (.bool false) := bl_ BK259.out 3
       have hfs37 := blk_frozen BK259.out 3
       have hns37_1 := NB260_259.out
       have hms37_1 := NB259_260.out
       have hs38 : w33.cell? ⟨gb259, 4, none⟩ = some (.int .i64 0) := bl_ BK259.out 4
       have hfs38 := blk_frozen BK259.out 4
       have hns38_1 := NB260_259.out
       have hms38_1 := NB259_260.out
       refine skip_ (w1 := ?_) (by rfl) rfl ?_ ?_
       rotate_left
       · go_simp
         rfl
       refine hK.out _ _ ⟨((cf_ (p := ⟨gb259, _, none⟩) hw257_0 GW259.out).trans (((cf_ (p := ⟨gb259, _, none⟩) hw257_0 GW259.out).trans (((cf_ (p := ⟨gb259, _, none⟩) hw257_0 GW259.out).trans (((cf_ (p := ⟨gb259, _, none⟩) hw257_0 GW259.out).trans (((cf_ (p := ⟨gb259, _, none⟩) hw257_0 GW259.out).trans (hHeld.1)))))))))), ((cf_ (p := ⟨gb259, _, none⟩) hw257_1 GW259.out).trans (((cf_ (p := ⟨gb259, _, none⟩) hw257_1 GW259.out).trans (((cf_ (p := ⟨gb259, _, none⟩) hw257_1 GW259.out).trans (((cf_ (p := ⟨gb259, _, none⟩) hw257_1 GW259.out).trans (((cf_ (p := ⟨gb259, _, none⟩) hw257_1 GW259.out).trans (hHeld.2.1)))))))))), ((cf_ (p := ⟨gb259, _, none⟩) hw257_2 GW259.out).trans (((cf_ (p := ⟨gb259, _, none⟩) hw257_2 GW259.out).trans (((cf_ (p := ⟨gb259, _, none⟩) hw257_2 GW259.out).trans (((cf_ (p := ⟨gb259, _, none⟩) hw257_2 GW259.out).trans (((cf_ (p := ⟨gb259, _, none⟩) hw257_2 GW259.out).trans (hHeld.2.2.1)))))))))), ((cf_ (p := ⟨gb259, _, none⟩) hw257_3 GW259.out).trans (((cf_ (p := ⟨gb259, _, none⟩) hw257_3 GW259.out).trans (((cf_ (p := ⟨gb259, _, none⟩) hw257_3 GW259.out).trans (((cf_ (p := ⟨gb259, _, none⟩) hw257_3 GW259.out).trans (((cf_ (p := ⟨gb259, _, none⟩) hw257_3 GW259.out).trans (hHeld.2.2.2.1)))))))))), ((cf_ (p := ⟨gb259, _, none⟩) hw257_4 GW259.out).trans (((cf_ (p := ⟨gb259, _, none⟩) hw257_4 GW259.out).trans (((cf_ (p := ⟨gb259, _, none⟩) hw257_4 GW259.out).trans (((cf_ (p := ⟨gb259, _, none⟩) hw257_4 GW259.out).trans (((cf_ (p := ⟨gb259, _, none⟩) hw257_4 GW259.out).trans (hHeld.2.2.2.2.1)))))))))), ((cf_ (p := ⟨gb259, _, none⟩) hw258_0 GW259.out).trans (((cf_ (p := ⟨gb259, _, none⟩) hw258_0 GW259.out).trans (((cf_ (p := ⟨gb259, _, none⟩) hw258_0 GW259.out).trans (((cf_ (p := ⟨gb259, _, none⟩) hw258_0 GW259.out).trans (((cf_ (p := ⟨gb259, _, none⟩) hw258_0 GW259.out).trans (hHeld.2.2.2.2.2.1)))))))))), ((cf_ (p := ⟨gb259, _, none⟩) hw258_1 GW259.out).trans (((cf_ (p := ⟨gb259, _, none⟩) hw258_1 GW259.out).trans (((cf_ (p := ⟨gb259, _, none⟩) hw258_1 GW259.out).trans (((cf_ (p := ⟨gb259, _, none⟩) hw258_1 GW259.out).trans (((cf_ (p := ⟨gb259, _, none⟩) hw258_1 GW259.out).trans (hHeld.2.2.2.2.2.2.1)))))))))), ((cf_ (p := ⟨gb259, _, none⟩) hw258_2 GW259.out).trans (((cf_ (p := ⟨gb259, _, none⟩) hw258_2 GW259.out).trans (((cf_ (p := ⟨gb259, _, none⟩) hw258_2 GW259.out).trans (((cf_ (p := ⟨gb259, _, none⟩) hw258_2 GW259.out).trans (((cf_ (p := ⟨gb259, _, none⟩) hw258_2 GW259.out).trans (hHeld.2.2.2.2.2.2.2.1)))))))))), ((cf_ (p := ⟨gb259, _, none⟩) hw258_3 GW259.out).trans (((cf_ (p := ⟨gb259, _, none⟩) hw258_3 GW259.out).trans (((cf_ (p := ⟨gb259, _, none⟩) hw258_3 GW259.out).trans (((cf_ (p := ⟨gb259, _, none⟩) hw258_3 GW259.out).trans (((cf_ (p := ⟨gb259, _, none⟩) hw258_3 GW259.out).trans (hHeld.2.2.2.2.2.2.2.2.1)))))))))), ((cf_ (p := ⟨gb259, _, none⟩) hw258_4 GW259.out).trans (((cf_ (p := ⟨gb259, _, none⟩) hw258_4 GW259.out).trans (((cf_ (p := ⟨gb259, _, none⟩) hw258_4 GW259.out).trans (((cf_ (p := ⟨gb259, _, none⟩) hw258_4 GW259.out).trans (((cf_ (p := ⟨gb259, _, none⟩) hw258_4 GW259.out).trans (hHeld.2.2.2.2.2.2.2.2.2))))))))))⟩ (fun hHeld => ?_)
       clear hK K
       refine on_ (i := 11) (N := none) (fun K hK => ?_)
       have hs39 : w33.cell? ⟨gb260, 0, none⟩ = some (.int .i64 0) := bl_ BK260.out 0
       have hfs39 := blk_frozen BK260.out 0
       have hns39_0 := NB259_260.out
       have hms39_0 := NB260_259.out
       have hs40 : w33.cell? ⟨gb260, 1, none⟩ = some (.slice none 0 0) := bl_ BK260.out 1
       have hfs40 := blk_frozen BK260.out 1
       have hns40_0 := NB259_260.out
       have hms40_0 := NB260_259.out
       have hs41 : w33.cell? ⟨gb260, 2, none⟩ = some (.bool false) := bl_ BK260.out 2
       have hfs41 := blk_frozen BK260.out 2
       have hns41_0 := NB259_260.out
       have hms41_0 := NB260_259.out
       have hs42 : w33.cell? ⟨gb260, 3, none⟩ = some (.bool false) := bl_ BK260.out 3
       have hfs42 := blk_frozen BK260.out 3
       have hns42_0 := NB259_260.out
       have hms42_0 := NB260_259.out
       have hs43 : w33.cell? ⟨gb260, 4, none⟩ = some (.int .i64 0) := bl_ BK260.out 4
       have hfs43 := blk_frozen BK260.out 4
       have hns43_0 := NB259_260.out
       have hms43_0 := NB260_259.out
       refine skip_ (w1 := ?_) (by rfl) rfl ?_ ?_
       rotate_left
       · go_simp
         rfl
       refine hK.out _ _ ⟨((cf_ (p := ⟨gb260, _, none⟩) hw257_0 GW260.out).trans (((cf_ (p := ⟨gb260, _, none⟩) hw257_0 GW260.out).trans (((cf_ (p := ⟨gb260, _, none⟩) hw257_0 GW260.out).trans (((cf_ (p := ⟨gb260, _, none⟩) hw257_0 GW260.out).trans (((cf_ (p := ⟨gb260, _, none⟩) hw257_0 GW260.out).trans (hHeld.1)))))))))), ((cf_ (p := ⟨gb260, _, none⟩) hw257_1 GW260.out).trans (((cf_ (p := ⟨gb260, _, none⟩) hw257_1 GW260.out).trans (((cf_ (p := ⟨gb260, _, none⟩) hw257_1 GW260.out).trans (((cf_ (p := ⟨gb260, _, none⟩) hw257_1 GW260.out).trans (((cf_ (p := ⟨gb260, _, none⟩) hw257_1 GW260.out).trans (hHeld.2.1)))))))))), ((cf_ (p := ⟨gb260, _, none⟩) hw257_2 GW260.out).trans (((cf_ (p := ⟨gb260, _, none⟩) hw257_2 GW260.out).trans (((cf_ (p := ⟨gb260, _, none⟩) hw257_2 GW260.out).trans (((cf_ (p := ⟨gb260, _, none⟩) hw257_2 GW260.out).trans (((cf_ (p := ⟨gb260, _, none⟩) hw257_2 GW260.out).trans (hHeld.2.2.1)))))))))), ((cf_ (p := ⟨gb260, _, none⟩) hw257_3 GW260.out).trans (((cf_ (p := ⟨gb260, _, none⟩) hw257_3 GW260.out).trans (((cf_ (p := ⟨gb260, _, none⟩) hw257_3 GW260.out).trans (((cf_ (p := ⟨gb260, _, none⟩) hw257_3 GW260.out).trans (((cf_ (p := ⟨gb260, _, none⟩) hw257_3 GW260.out).trans (hHeld.2.2.2.1)))))))))), ((cf_ (p := ⟨gb260, _, none⟩) hw257_4 GW260.out).trans (((cf_ (p := ⟨gb260, _, none⟩) hw257_4 GW260.out).trans (((cf_ (p := ⟨gb260, _, none⟩) hw257_4 GW260.out).trans (((cf_ (p := ⟨gb260, _, none⟩) hw257_4 GW260.out).trans (((cf_ (p := ⟨gb260, _, none⟩) hw257_4 GW260.out).trans (hHeld.2.2.2.2.1)))))))))), ((cf_ (p := ⟨gb260, _, none⟩) hw258_0 GW260.out).trans (((cf_ (p := ⟨gb260, _, none⟩) hw258_0 GW260.out).trans (((cf_ (p := ⟨gb260, _, none⟩) hw258_0 GW260.out).trans (((cf_ (p := ⟨gb260, _, none⟩) hw258_0 GW260.out).trans (((cf_ (p := ⟨gb260, _, none⟩) hw258_0 GW260.out).trans (hHeld.2.2.2.2.2.1)))))))))), ((cf_ (p := ⟨gb260, _, none⟩) hw258_1 GW260.out).trans (((cf_ (p := ⟨gb260, _, none⟩) hw258_1 GW260.out).trans (((cf_ (p := ⟨gb260, _, none⟩) hw258_1 GW260.out).trans (((cf_ (p := ⟨gb260, _, none⟩) hw258_1 GW260.out).trans (((cf_ (p := ⟨gb260, _, none⟩) hw258_1 GW260.out).trans (hHeld.2.2.2.2.2.2.1)))))))))), ((cf_ (p := ⟨gb260, _, none⟩) hw258_2 GW260.out).trans (((cf_ (p := ⟨gb260, _, none⟩) hw258_2 GW260.out).trans (((cf_ (p := ⟨gb260, _, none⟩) hw258_2 GW260.out).trans (((cf_ (p := ⟨gb260, _, none⟩) hw258_2 GW260.out).trans (((cf_ (p := ⟨gb260, _, none⟩) hw258_2 GW260.out).trans (hHeld.2.2.2.2.2.2.2.1)))))))))), ((cf_ (p := ⟨gb260, _, none⟩) hw258_3 GW260.out).trans (((cf_ (p := ⟨gb260, _, none⟩) hw258_3 GW260.out).trans (((cf_ (p := ⟨gb260, _, none⟩) hw258_3 GW260.out).trans (((cf_ (p := ⟨gb260, _, none⟩) hw258_3 GW260.out).trans (((cf_ (p := ⟨gb260, _, none⟩) hw258_3 GW260.out).trans (hHeld.2.2.2.2.2.2.2.2.1)))))))))), ((cf_ (p := ⟨gb260, _, none⟩) hw258_4 GW260.out).trans (((cf_ (p := ⟨gb260, _, none⟩) hw258_4 GW260.out).trans (((cf_ (p := ⟨gb260, _, none⟩) hw258_4 GW260.out).trans (((cf_ (p := ⟨gb260, _, none⟩) hw258_4 GW260.out).trans (((cf_ (p := ⟨gb260, _, none⟩) hw258_4 GW260.out).trans (hHeld.2.2.2.2.2.2.2.2.2))))))))))⟩ (fun hHeld => ?_)
       clear hK K
       refine done_ (done_of HT_.out (by kernel_rfl)) ?_
       (try clear hHeld)
       have hnb44 := NB259_260.out
       have hnc44 := NB260_259.out
       obtain ⟨hcz45_0, hcz45_1, hcz45_2, hcz45_3, hcz45_4, hfz45_0, hfz45_1, hfz45_2, hfz45_3, hfz45_4⟩ := cz5_ BK259.out
       obtain ⟨hcz46_0, hcz46_1, hcz46_2, hcz46_3, hcz46_4, hfz46_0, hfz46_1, hfz46_2, hfz46_3, hfz46_4⟩ := cz5_ BK260.out
       try go_wp2_with (first | (go_at_call 72; (with_reducible refine (impl_SamePath.calls k1 _ _ ((rd_T82 l0 x15_1).f1) _ _ ((rd_T82 l1 x15_1).f1) true _ ?s1 ?s2 ?s3 ?s4 A9.out).mono ?_); (case s1 => exact Kd.C_below HR257_1.out (by repeat (first | (with_reducible first | exact HB.out | apply below_alloc | apply pw_below_drewN | apply below_drew1 | refine below_set ?_ GE259.out | refine below_set ?_ GE260.out) | exact HB.out))); (case s2 => exact HC257_1.out); (case s3 => exact Kd.C_below HR258_1.out (by repeat (first | (with_reducible first | exact HB.out | apply below_alloc | apply pw_below_drewN | apply below_drew1 | refine below_set ?_ GE259.out | refine below_set ?_ GE260.out) | exact HB.out))); (case s4 => exact HC258_1.out); rintro e w' ⟨rfl, ⟨nd, rfl⟩⟩))
       go_ret
       exact ⟨rr_, by repeat (first | (with_reducible first | exact HB.out | apply below_alloc | apply pw_below_drewN | apply below_drew1 | refine below_set ?_ GE259.out | refine below_set ?_ GE260.out) | exact HB.out)⟩
     rw [if_neg c29] at H
     have c29b0 : (((rd_T82 l0 x15_1).f3) != ((rd_T82 l1 x15_1).f3)) = false := by simpa using c29
     (try (have c29b1 : decide (((rd_T82 l0 x15_1).f3) = ((rd_T82 l1 x15_1).f3)) = true := by simpa using c29))
     (try (have c29b2 : (((rd_T82 l0 x15_1).f3) == ((rd_T82 l1 x15_1).f3)) = true := by simpa using c29))
     clear c29
     by_cases c47 : ((rd_T82 l0 x15_1).f4) = ((rd_T82 l1 x15_1).f4)
     rotate_left
     · rw [if_neg c47] at H
       have c47b0 : (((rd_T82 l0 x15_1).f4) == ((rd_T82 l1 x15_1).f4)) = false := beq_eq_false_iff_ne.mpr c47
       have c47b1 : (((rd_T82 l0 x15_1).f4) != ((rd_T82 l1 x15_1).f4)) = true := bne_iff_ne.mpr c47
       obtain rfl := si_ H
       try go_wp2
       replace HB := A_ (below_drew1 HB.out)
       have p257 : 0 ≤ (x15_1 : Int) := od_
       have q257 : x15_1 < (l0.length : Int) := od_
       obtain ⟨ad257, A257_1, c257_1, e257, hx257_0, hx257_1, hx257_2, hx257_3, hx257_4, hl257_1, hi257_1⟩ := at_T82 HR0.out x15_1 p257 q257
       have hw257_4 := hx257_4
       have hw257_3 := hx257_3
       have hw257_2 := hx257_2
       have hw257_1 := hx257_1
       have hw257_0 := hx257_0
       cases e257
       replace hx257_0 := bc_ HB.out hx257_0
       replace hx257_1 := bc_ HB.out hx257_1
       replace hx257_2 := bc_ HB.out hx257_2
       replace hx257_3 := bc_ HB.out hx257_3
       replace hx257_4 := bc_ HB.out hx257_4
       have HR257_1 := A_ hi257_1
       have HC257_1 := A_ hl257_1
       clear hi257_1 hl257_1
       replace p257 := eq_true p257
       replace q257 := eq_true q257
       have p258 : 0 ≤ (x15_1 : Int) := od_
       have q258 : x15_1 < (l1.length : Int) := od_
       obtain ⟨ad258, A258_1, c258_1, e258, hx258_0, hx258_1, hx258_2, hx258_3, hx258_4, hl258_1, hi258_1⟩ := at_T82 HR1.out x15_1 p258 q258
       have hw258_4 := hx258_4
       have hw258_3 := hx258_3
       have hw258_2 := hx258_2
       have hw258_1 := hx258_1
       have hw258_0 := hx258_0
       cases e258
       replace hx258_0 := bc_ HB.out hx258_0
       replace hx258_1 := bc_ HB.out hx258_1
       replace hx258_2 := bc_ HB.out hx258_2
       replace hx258_3 := bc_ HB.out hx258_3
       replace hx258_4 := bc_ HB.out hx258_4
       have HR258_1 := A_ hi258_1
       have HC258_1 := A_ hl258_1
       clear hi258_1 hl258_1
       replace p258 := eq_true p258
       replace q258 := eq_true q258
       refine start_ (n := 12) (S := fun w' => w'.cell? (ad257.add ((x15_1).toNat * 5)) = some (.int .i64 ((rd_T82 l0 x15_1).f0)) ∧ w'.cell? ⟨(ad257.add ((x15_1).toNat * 5)).block, (ad257.add ((x15_1).toNat * 5)).off + 1, none⟩ = some (.slice A257_1 ((rd_T82 l0 x15_1).f1).length c257_1) ∧ w'.cell? ⟨(ad257.add ((x15_1).toNat * 5)).block, (ad257.add ((x15_1).toNat * 5)).off + 2, none⟩ = some (.bool ((rd_T82 l0 x15_1).f2)) ∧ w'.cell? ⟨(ad257.add ((x15_1).toNat * 5)).block, (ad257.add ((x15_1).toNat * 5)).off + 3, none⟩ = some (.bool ((rd_T82 l0 x15_1).f3)) ∧ w'.cell? ⟨(ad257.add ((x15_1).toNat * 5)).block, (ad257.add ((x15_1).toNat * 5)).off + 4, none⟩ = some (.int .i64 ((rd_T82 l0 x15_1).f4)) ∧ w'.cell? (ad258.add ((x15_1).toNat * 5)) = some (.int .i64 ((rd_T82 l1 x15_1).f0)) ∧ w'.cell? ⟨(ad258.add ((x15_1).toNat * 5)).block, (ad258.add ((x15_1).toNat * 5)).off + 1, none⟩ = some (.slice A258_1 ((rd_T82 l1 x15_1).f1).length c258_1) ∧ w'.cell? ⟨(ad258.add ((x15_1).toNat * 5)).block, (ad258.add ((x15_1).toNat * 5)).off + 2, none⟩ = some (.bool ((rd_T82 l1 x15_1).f2)) ∧ w'.cell? ⟨(ad258.add ((x15_1).toNat * 5)).block, (ad258.add ((x15_1).toNat * 5)).off + 3, none⟩ = some (.bool ((rd_T82 l1 x15_1).f3)) ∧ w'.cell? ⟨(ad258.add ((x15_1).toNat * 5)).block, (ad258.add ((x15_1).toNat * 5)).off + 4, none⟩ = some (.int .i64 ((rd_T82 l1 x15_1).f4))) (ds := []) #[false, false, false, false, false, false, false, false, false, false, false, false] (by kernel_rfl) rfl rfl ⟨(be_ hw257_0), (be_ hw257_1), (be_ hw257_2), (be_ hw257_3), (be_ hw257_4), (be_ hw258_0), (be_ hw258_1), (be_ hw258_2), (be_ hw258_3), (be_ hw258_4)⟩ (fun hHeld => ?_); refine with_tabW impl_sameLocks.tab6 impl_sameLocks.bits6 (fun HT_ HW_ => ?_)
       generalize wr.drew = w65 at HB HR257_1 HR258_1 hx257_0 hx257_1 hx257_2 hx257_3 hx257_4 hx258_0 hx258_1 hx258_2 hx258_3 hx258_4 hHeld ⊢
       refine pu_ (i := 0) (N := some 18) ?_
       refine pu_ (i := 1) (N := some 19) ?_
       refine pu_ (i := 2) (N := some 20) ?_
       refine pu_ (i := 4) (N := some 22) ?_
       refine pu_ (i := 5) (N := some 23) ?_
       refine pu_ (i := 6) (N := some 24) ?_
       refine tk_ (i := 3) (N := some 21) hHeld ?_
       refine tk_ (i := 7) (N := some 25) hHeld ?_
       refine join_ (σ := Nat × Nat) 2 #[true, true, true, true, true, true, true, true, true, true, false, false] (fun s_ => [(6, .pointer (some ⟨s_.1, 0, none⟩)), (7, .pointer (some ⟨s_.2, 0, none⟩))]) (fun s_ w' => (w'.cell? (ad257.add ((x15_1).toNat * 5)) = some (.int .i64 ((rd_T82 l0 x15_1).f0)) ∧ w'.cell? ⟨(ad257.add ((x15_1).toNat * 5)).block, (ad257.add ((x15_1).toNat * 5)).off + 1, none⟩ = some (.slice A257_1 ((rd_T82 l0 x15_1).f1).length c257_1) ∧ w'.cell? ⟨(ad257.add ((x15_1).toNat * 5)).block, (ad257.add ((x15_1).toNat * 5)).off + 2, none⟩ = some (.bool ((rd_T82 l0 x15_1).f2)) ∧ w'.cell? ⟨(ad257.add ((x15_1).toNat * 5)).block, (ad257.add ((x15_1).toNat * 5)).off + 3, none⟩ = some (.bool ((rd_T82 l0 x15_1).f3)) ∧ w'.cell? ⟨(ad257.add ((x15_1).toNat * 5)).block, (ad257.add ((x15_1).toNat * 5)).off + 4, none⟩ = some (.int .i64 ((rd_T82 l0 x15_1).f4)) ∧ w'.cell? (ad258.add ((x15_1).toNat * 5)) = some (.int .i64 ((rd_T82 l1 x15_1).f0)) ∧ w'.cell? ⟨(ad258.add ((x15_1).toNat * 5)).block, (ad258.add ((x15_1).toNat * 5)).off + 1, none⟩ = some (.slice A258_1 ((rd_T82 l1 x15_1).f1).length c258_1) ∧ w'.cell? ⟨(ad258.add ((x15_1).toNat * 5)).block, (ad258.add ((x15_1).toNat * 5)).off + 2, none⟩ = some (.bool ((rd_T82 l1 x15_1).f2)) ∧ w'.cell? ⟨(ad258.add ((x15_1).toNat * 5)).block, (ad258.add ((x15_1).toNat * 5)).off + 3, none⟩ = some (.bool ((rd_T82 l1 x15_1).f3)) ∧ w'.cell? ⟨(ad258.add ((x15_1).toNat * 5)).block, (ad258.add ((x15_1).toNat * 5)).off + 4, none⟩ = some (.int .i64 ((rd_T82 l1 x15_1).f4))) ∧ (w'.heap[s_.1]? = some (.cells #[.int .i64 0, .slice none 0 0, .bool false, .bool false, .int .i64 0] 82 (0, 0))) ∧ (w'.heap[s_.2]? = some (.cells #[.int .i64 0, .slice none 0 0, .bool false, .bool false, .int .i64 0] 82 (0, 0))) ∧ (w.heap.size ≤ s_.1) ∧ (w.heap.size ≤ s_.1) ∧ (s_.2 ≠ s_.1) ∧ (s_.1 ≠ s_.2) ∧ (w.heap.size ≤ s_.2) ∧ (w.heap.size ≤ s_.2) ∧ (Below w.heap.size w w')) ?_ ?_
       rotate_left
       · intro hCont
         refine two_ (i := 8) (j := 9) (Ni := some 6) (Nj := some 7) #[true, true, true, true, true, true, true, true, true, false, false, false] #[true, true, true, true, true, true, true, true, false, true, false, false] rfl rfl rfl rfl (two_of HT_.out (by kernel_rfl)) (by decide) (by decide) (fun K hK => ?_) (fun K hK => ?_)
         · skip
           refine box_step ?hg (N := 6) ?hd (cs := #[.int .i64 0, .slice none 0 0, .bool false, .bool false, .int .i64 0]) (t := 82) ?hr ?_; (case hd => rfl); (case hg => rfl); (case hr => first | (go_simp; done) | (go_simp; rfl))
           intro gb259 hg w66 hbox hb
           have BK259 := A_ (hbox)
           have GW259 := A_ (ge_ hg bB_ : w.heap.size ≤ gb259)
           have GE259 := A_ (ge_ hg bB_ : w.heap.size ≤ gb259)
           replace HB := A_ (below_step bB_ hb)
           clear hb hbox hg
           refine hK.out _ _ ⟨(be_ hw257_0), (be_ hw257_1), (be_ hw257_2), (be_ hw257_3), (be_ hw257_4), (be_ hw258_0), (be_ hw258_1), (be_ hw258_2), (be_ hw258_3), (be_ hw258_4)⟩ (fun hHeld => ?_)
           clear hK K
           refine no_ (some 6) ?_
           refine on_ (i := 9) (N := some 7) (fun K hK => ?_)
           refine box_step ?hg (N := 7) ?hd (cs := #[.int .i64 0, .slice none 0 0, .bool false, .bool false, .int .i64 0]) (t := 82) ?hr ?_; (case hd => rfl); (case hg => rfl); (case hr => first | (go_simp; done) | (go_simp; rfl))
           intro gb260 hg w67 hbox hb
           have BK260 := A_ (hbox)
           have GW260 := A_ (ge_ hg (bG_ GE259.out) : w.heap.size ≤ gb260)
           have GE260 := A_ (ge_ hg (bG_ GE259.out) : w.heap.size ≤ gb260)
           replace HB := A_ (below_step (bG_ GE259.out) hb)
           have NB259_260 := A_ (gm_ hg BK259.out)
           have NB260_259 := A_ (gn_ hg BK259.out)
           replace BK259 := A_ (bw_ BK259.out hb)
           clear hb hbox hg
           refine hK.out _ _ ⟨(be_ hw257_0), (be_ hw257_1), (be_ hw257_2), (be_ hw257_3), (be_ hw257_4), (be_ hw258_0), (be_ hw258_1), (be_ hw258_2), (be_ hw258_3), (be_ hw258_4)⟩ (fun hHeld => ?_)
           clear hK K
           refine no_ (some 7) ?_
           exact norm_ (by simp only [putAll, Act.put, List.setIfInBounds_toArray, List.set_cons_zero, List.set_cons_succ]) (hCont (gb259, gb260) _ ⟨hHeld, (vb_ BK259.out), (vb_ BK260.out), GW259.out, GE259.out, NB260_259.out, NB259_260.out, GW260.out, GE260.out, (by repeat (first | (with_reducible first | exact HB.out | apply below_alloc | apply pw_below_drewN | apply below_drew1 | refine below_set ?_ GE259.out | refine below_set ?_ GE260.out) | exact HB.out))⟩)
         · skip
           refine box_step ?hg (N := 7) ?hd (cs := #[.int .i64 0, .slice none 0 0, .bool false, .bool false, .int .i64 0]) (t := 82) ?hr ?_; (case hd => rfl); (case hg => rfl); (case hr => first | (go_simp; done) | (go_simp; rfl))
           intro gb260 hg w66 hbox hb
           have BK260 := A_ (hbox)
           have GW260 := A_ (ge_ hg bB_ : w.heap.size ≤ gb260)
           have GE260 := A_ (ge_ hg bB_ : w.heap.size ≤ gb260)
           replace HB := A_ (below_step bB_ hb)
           clear hb hbox hg
           refine hK.out _ _ ⟨(be_ hw257_0), (be_ hw257_1), (be_ hw257_2), (be_ hw257_3), (be_ hw257_4), (be_ hw258_0), (be_ hw258_1), (be_ hw258_2), (be_ hw258_3), (be_ hw258_4)⟩ (fun hHeld => ?_)
           clear hK K
           refine no_ (some 7) ?_
           refine on_ (i := 8) (N := some 6) (fun K hK => ?_)
           refine box_step ?hg (N := 6) ?hd (cs := #[.int .i64 0, .slice none 0 0, .bool false, .bool false, .int .i64 0]) (t := 82) ?hr ?_; (case hd => rfl); (case hg => rfl); (case hr => first | (go_simp; done) | (go_simp; rfl))
           intro gb259 hg w67 hbox hb
           have BK259 := A_ (hbox)
           have GW259 := A_ (ge_ hg (bG_ GE260.out) : w.heap.size ≤ gb259)
           have GE259 := A_ (ge_ hg (bG_ GE260.out) : w.heap.size ≤ gb259)
           replace HB := A_ (below_step (bG_ GE260.out) hb)
           have NB260_259 := A_ (gm_ hg BK260.out)
           have NB259_260 := A_ (gn_ hg BK260.out)
           replace BK260 := A_ (bw_ BK260.out hb)
           clear hb hbox hg
           refine hK.out _ _ ⟨(be_ hw257_0), (be_ hw257_1), (be_ hw257_2), (be_ hw257_3), (be_ hw257_4), (be_ hw258_0), (be_ hw258_1), (be_ hw258_2), (be_ hw258_3), (be_ hw258_4)⟩ (fun hHeld => ?_)
           clear hK K
           refine no_ (some 6) ?_
           exact norm_ (by simp only [putAll, Act.put, List.setIfInBounds_toArray, List.set_cons_zero, List.set_cons_succ]) (hCont (gb259, gb260) _ ⟨hHeld, (vb_ BK259.out), (vb_ BK260.out), GW259.out, GE259.out, NB260_259.out, NB259_260.out, GW260.out, GE260.out, (by repeat (first | (with_reducible first | exact HB.out | apply below_alloc | apply pw_below_drewN | apply below_drew1 | refine below_set ?_ GE260.out | refine below_set ?_ GE259.out) | exact HB.out))⟩)
       rintro ⟨gb259, gb260⟩ w68 ⟨hS_, h0_, h1_, h2_, h3_, h4_, h5_, h6_, h7_, h8_⟩
       have n0_ : Aside0 (w68.heap[gb259]? = some (.cells #[.int .i64 0, .slice none 0 0, .bool false, .bool false, .int .i64 0] 82 (0, 0))) := ⟨h0_⟩
       have n1_ : Aside0 (w68.heap[gb260]? = some (.cells #[.int .i64 0, .slice none 0 0, .bool false, .bool false, .int .i64 0] 82 (0, 0))) := ⟨h1_⟩
       have n2_ : Aside0 (w.heap.size ≤ gb259) := ⟨h2_⟩
       have n3_ : Aside0 (w.heap.size ≤ gb259) := ⟨h3_⟩
       have n4_ : Aside0 (gb260 ≠ gb259) := ⟨h4_⟩
       have n5_ : Aside0 (gb259 ≠ gb260) := ⟨h5_⟩
       have n6_ : Aside0 (w.heap.size ≤ gb260) := ⟨h6_⟩
       have n7_ : Aside0 (w.heap.size ≤ gb260) := ⟨h7_⟩
       have n8_ : Aside0 (Below w.heap.size w w68) := ⟨h8_⟩
       clear HB
       clear h0_ h1_ h2_ h3_ h4_ h5_ h6_ h7_ h8_
       have BK259 := n0_
       have BK260 := n1_
       have GW259 := n2_
       have GE259 := n3_
       have NB260_259 := n4_
       have NB259_260 := n5_
       have GW260 := n6_
       have GE260 := n7_
       have HB := n8_
       clear n0_ n1_ n2_ n3_ n4_ n5_ n6_ n7_ n8_
       have hHeld : w68.cell? (ad257.add ((x15_1).toNat * 5)) = some (.int .i64 ((rd_T82 l0 x15_1).f0)) ∧ w68.cell? ⟨(ad257.add ((x15_1).toNat * 5)).block, (ad257.add ((x15_1).toNat * 5)).off + 1, none⟩ = some (.slice A257_1 ((rd_T82 l0 x15_1).f1).length c257_1) ∧ w68.cell? ⟨(ad257.add ((x15_1).toNat * 5)).block, (ad257.add ((x15_1).toNat * 5)).off + 2, none⟩ = some (.bool ((rd_T82 l0 x15_1).f2)) ∧ w68.cell? ⟨(ad257.add ((x15_1).toNat * 5)).block, (ad257.add ((x15_1).toNat * 5)).off + 3, none⟩ = some (.bool ((rd_T82 l0 x15_1).f3)) ∧ w68.cell? ⟨(ad257.add ((x15_1).toNat * 5)).block, (ad257.add ((x15_1).toNat * 5)).off + 4, none⟩ = some (.int .i64 ((rd_T82 l0 x15_1).f4)) ∧ w68.cell? (ad258.add ((x15_1).toNat * 5)) = some (.int .i64 ((rd_T82 l1 x15_1).f0)) ∧ w68.cell? ⟨(ad258.add ((x15_1).toNat * 5)).block, (ad258.add ((x15_1).toNat * 5)).off + 1, none⟩ = some (.slice A258_1 ((rd_T82 l1 x15_1).f1).length c258_1) ∧ w68.cell? ⟨(ad258.add ((x15_1).toNat * 5)).block, (ad258.add ((x15_1).toNat * 5)).off + 2, none⟩ = some (.bool ((rd_T82 l1 x15_1).f2)) ∧ w68.cell? ⟨(ad258.add ((x15_1).toNat * 5)).block, (ad258.add ((x15_1).toNat * 5)).off + 3, none⟩ = some (.bool ((rd_T82 l1 x15_1).f3)) ∧ w68.cell? ⟨(ad258.add ((x15_1).toNat * 5)).block, (ad258.add ((x15_1).toNat * 5)).off + 4, none⟩ = some (.int .i64 ((rd_T82 l1 x15_1).f4)) := hS_
       refine norm_ (a' := ?_) ?_ ?_
       rotate_left
       · simp only [putAll, Act.put, List.setIfInBounds_toArray, List.set_cons_zero, List.set_cons_succ]
         rfl
       refine on_ (i := 10) (N := none) (fun K hK => ?_)
       have hs69 : w68.cell? ⟨gb259, 0, none⟩ = some (.int .i64 0) := bl_ BK259.out 0
       have hfs69 := blk_frozen BK259.out 0
       have hns69_1 := NB260_259.out
       have hms69_1 := NB259_260.out
       have hs70 : w68.cell? ⟨gb259, 1, none⟩ = some (.slice none 0 0) := bl_ BK259.out 1
       have hfs70 := blk_frozen BK259.out 1
       have hns70_1 := NB260_259.out
       have hms70_1 := NB259_260.out
       have hs71 : w68.cell? ⟨gb259, 2, none⟩ = some (.bool false) := bl_ BK259.out 2
       have hfs71 := blk_frozen BK259.out 2
       have hns71_1 := NB260_259.out
       have hms71_1 := NB259_260.out
       have hs72 : w68.cell? ⟨gb259, 3, none⟩ = some (.bool false) := bl_ BK259.out 3
       have hfs72 := blk_frozen BK259.out 3
       have hns72_1 := NB260_259.out
       have hms72_1 := NB259_260.out
       have hs73 : w68.cell? ⟨gb259, 4, none⟩ = some (.int .i64 0) := bl_ BK259.out 4
       have hfs73 := blk_frozen BK259.out 4
       have hns73_1 := NB260_259.out
       have hms73_1 := NB259_260.out
       refine skip_ (w1 := ?_) (by rfl) rfl ?_ ?_
       rotate_left
       · go_simp
         rfl
       refine hK.out _ _ ⟨((cf_ (p := ⟨gb259, _, none⟩) hw257_0 GW259.out).trans (((cf_ (p := ⟨gb259, _, none⟩) hw257_0 GW259.out).trans (((cf_ (p := ⟨gb259, _, none⟩) hw257_0 GW259.out).trans (((cf_ (p := ⟨gb259, _, none⟩) hw257_0 GW259.out).trans (((cf_ (p := ⟨gb259, _, none⟩) hw257_0 GW259.out).trans (hHeld.1)))))))))), ((cf_ (p := ⟨gb259, _, none⟩) hw257_1 GW259.out).trans (((cf_ (p := ⟨gb259, _, none⟩) hw257_1 GW259.out).trans (((cf_ (p := ⟨gb259, _, none⟩) hw257_1 GW259.out).trans (((cf_ (p := ⟨gb259, _, none⟩) hw257_1 GW259.out).trans (((cf_ (p := ⟨gb259, _, none⟩) hw257_1 GW259.out).trans (hHeld.2.1)))))))))), ((cf_ (p := ⟨gb259, _, none⟩) hw257_2 GW259.out).trans (((cf_ (p := ⟨gb259, _, none⟩) hw257_2 GW259.out).trans (((cf_ (p := ⟨gb259, _, none⟩) hw257_2 GW259.out).trans (((cf_ (p := ⟨gb259, _, none⟩) hw257_2 GW259.out).trans (((cf_ (p := ⟨gb259, _, none⟩) hw257_2 GW259.out).trans (hHeld.2.2.1)))))))))), ((cf_ (p := ⟨gb259, _, none⟩) hw257_3 GW259.out).trans (((cf_ (p := ⟨gb259, _, none⟩) hw257_3 GW259.out).trans (((cf_ (p := ⟨gb259, _, none⟩) hw257_3 GW259.out).trans (((cf_ (p := ⟨gb259, _, none⟩) hw257_3 GW259.out).trans (((cf_ (p := ⟨gb259, _, none⟩) hw257_3 GW259.out).trans (hHeld.2.2.2.1)))))))))), ((cf_ (p := ⟨gb259, _, none⟩) hw257_4 GW259.out).trans (((cf_ (p := ⟨gb259, _, none⟩) hw257_4 GW259.out).trans (((cf_ (p := ⟨gb259, _, none⟩) hw257_4 GW259.out).trans (((cf_ (p := ⟨gb259, _, none⟩) hw257_4 GW259.out).trans (((cf_ (p := ⟨gb259, _, none⟩) hw257_4 GW259.out).trans (hHeld.2.2.2.2.1)))))))))), ((cf_ (p := ⟨gb259, _, none⟩) hw258_0 GW259.out).trans (((cf_ (p := ⟨gb259, _, none⟩) hw258_0 GW259.out).trans (((cf_ (p := ⟨gb259, _, none⟩) hw258_0 GW259.out).trans (((cf_ (p := ⟨gb259, _, none⟩) hw258_0 GW259.out).trans (((cf_ (p := ⟨gb259, _, none⟩) hw258_0 GW259.out).trans (hHeld.2.2.2.2.2.1)))))))))), ((cf_ (p := ⟨gb259, _, none⟩) hw258_1 GW259.out).trans (((cf_ (p := ⟨gb259, _, none⟩) hw258_1 GW259.out).trans (((cf_ (p := ⟨gb259, _, none⟩) hw258_1 GW259.out).trans (((cf_ (p := ⟨gb259, _, none⟩) hw258_1 GW259.out).trans (((cf_ (p := ⟨gb259, _, none⟩) hw258_1 GW259.out).trans (hHeld.2.2.2.2.2.2.1)))))))))), ((cf_ (p := ⟨gb259, _, none⟩) hw258_2 GW259.out).trans (((cf_ (p := ⟨gb259, _, none⟩) hw258_2 GW259.out).trans (((cf_ (p := ⟨gb259, _, none⟩) hw258_2 GW259.out).trans (((cf_ (p := ⟨gb259, _, none⟩) hw258_2 GW259.out).trans (((cf_ (p := ⟨gb259, _, none⟩) hw258_2 GW259.out).trans (hHeld.2.2.2.2.2.2.2.1)))))))))), ((cf_ (p := ⟨gb259, _, none⟩) hw258_3 GW259.out).trans (((cf_ (p := ⟨gb259, _, none⟩) hw258_3 GW259.out).trans (((cf_ (p := ⟨gb259, _, none⟩) hw258_3 GW259.out).trans (((cf_ (p := ⟨gb259, _, none⟩) hw258_3 GW259.out).trans (((cf_ (p := ⟨gb259, _, none⟩) hw258_3 GW259.out).trans (hHeld.2.2.2.2.2.2.2.2.1)))))))))), ((cf_ (p := ⟨gb259, _, none⟩) hw258_4 GW259.out).trans (((cf_ (p := ⟨gb259, _, none⟩) hw258_4 GW259.out).trans (((cf_ (p := ⟨gb259, _, none⟩) hw258_4 GW259.out).trans (((cf_ (p := ⟨gb259, _, none⟩) hw258_4 GW259.out).trans (((cf_ (p := ⟨gb259, _, none⟩) hw258_4 GW259.out).trans (hHeld.2.2.2.2.2.2.2.2.2))))))))))⟩ (fun hHeld => ?_)
       clear hK K
       refine on_ (i := 11) (N := none) (fun K hK => ?_)
       have hs74 : w68.cell? ⟨gb260, 0, none⟩ = some (.int .i64 0) := bl_ BK260.out 0
       have hfs74 := blk_frozen BK260.out 0
       have hns74_0 := NB259_260.out
       have hms74_0 := NB260_259.out
       have hs75 : w68.cell? ⟨gb260, 1, none⟩ = some (.slice none 0 0) := bl_ BK260.out 1
       have hfs75 := blk_frozen BK260.out 1
       have hns75_0 := NB259_260.out
       have hms75_0 := NB260_259.out
       have hs76 : w68.cell? ⟨gb260, 2, none⟩ = some (.bool false) := bl_ BK260.out 2
       have hfs76 := blk_frozen BK260.out 2
       have hns76_0 := NB259_260.out
       have hms76_0 := NB260_259.out
       have hs77 : w68.cell? ⟨gb260, 3, none⟩ = some (.bool false) := bl_ BK260.out 3
       have hfs77 := blk_frozen BK260.out 3
       have hns77_0 := NB259_260.out
       have hms77_0 := NB260_259.out
       have hs78 : w68.cell? ⟨gb260, 4, none⟩ = some (.int .i64 0) := bl_ BK260.out 4
       have hfs78 := blk_frozen BK260.out 4
       have hns78_0 := NB259_260.out
       have hms78_0 := NB260_259.out
       refine skip_ (w1 := ?_) (by rfl) rfl ?_ ?_
       rotate_left
       · go_simp
         rfl
       refine hK.out _ _ ⟨((cf_ (p := ⟨gb260, _, none⟩) hw257_0 GW260.out).trans (((cf_ (p := ⟨gb260, _, none⟩) hw257_0 GW260.out).trans (((cf_ (p := ⟨gb260, _, none⟩) hw257_0 GW260.out).trans (((cf_ (p := ⟨gb260, _, none⟩) hw257_0 GW260.out).trans (((cf_ (p := ⟨gb260, _, none⟩) hw257_0 GW260.out).trans (hHeld.1)))))))))), ((cf_ (p := ⟨gb260, _, none⟩) hw257_1 GW260.out).trans (((cf_ (p := ⟨gb260, _, none⟩) hw257_1 GW260.out).trans (((cf_ (p := ⟨gb260, _, none⟩) hw257_1 GW260.out).trans (((cf_ (p := ⟨gb260, _, none⟩) hw257_1 GW260.out).trans (((cf_ (p := ⟨gb260, _, none⟩) hw257_1 GW260.out).trans (hHeld.2.1)))))))))), ((cf_ (p := ⟨gb260, _, none⟩) hw257_2 GW260.out).trans (((cf_ (p := ⟨gb260, _, none⟩) hw257_2 GW260.out).trans (((cf_ (p := ⟨gb260, _, none⟩) hw257_2 GW260.out).trans (((cf_ (p := ⟨gb260, _, none⟩) hw257_2 GW260.out).trans (((cf_ (p := ⟨gb260, _, none⟩) hw257_2 GW260.out).trans (hHeld.2.2.1)))))))))), ((cf_ (p := ⟨gb260, _, none⟩) hw257_3 GW260.out).trans (((cf_ (p := ⟨gb260, _, none⟩) hw257_3 GW260.out).trans (((cf_ (p := ⟨gb260, _, none⟩) hw257_3 GW260.out).trans (((cf_ (p := ⟨gb260, _, none⟩) hw257_3 GW260.out).trans (((cf_ (p := ⟨gb260, _, none⟩) hw257_3 GW260.out).trans (hHeld.2.2.2.1)))))))))), ((cf_ (p := ⟨gb260, _, none⟩) hw257_4 GW260.out).trans (((cf_ (p := ⟨gb260, _, none⟩) hw257_4 GW260.out).trans (((cf_ (p := ⟨gb260, _, none⟩) hw257_4 GW260.out).trans (((cf_ (p := ⟨gb260, _, none⟩) hw257_4 GW260.out).trans (((cf_ (p := ⟨gb260, _, none⟩) hw257_4 GW260.out).trans (hHeld.2.2.2.2.1)))))))))), ((cf_ (p := ⟨gb260, _, none⟩) hw258_0 GW260.out).trans (((cf_ (p := ⟨gb260, _, none⟩) hw258_0 GW260.out).trans (((cf_ (p := ⟨gb260, _, none⟩) hw258_0 GW260.out).trans (((cf_ (p := ⟨gb260, _, none⟩) hw258_0 GW260.out).trans (((cf_ (p := ⟨gb260, _, none⟩) hw258_0 GW260.out).trans (hHeld.2.2.2.2.2.1)))))))))), ((cf_ (p := ⟨gb260, _, none⟩) hw258_1 GW260.out).trans (((cf_ (p := ⟨gb260, _, none⟩) hw258_1 GW260.out).trans (((cf_ (p := ⟨gb260, _, none⟩) hw258_1 GW260.out).trans (((cf_ (p := ⟨gb260, _, none⟩) hw258_1 GW260.out).trans (((cf_ (p := ⟨gb260, _, none⟩) hw258_1 GW260.out).trans (hHeld.2.2.2.2.2.2.1)))))))))), ((cf_ (p := ⟨gb260, _, none⟩) hw258_2 GW260.out).trans (((cf_ (p := ⟨gb260, _, none⟩) hw258_2 GW260.out).trans (((cf_ (p := ⟨gb260, _, none⟩) hw258_2 GW260.out).trans (((cf_ (p := ⟨gb260, _, none⟩) hw258_2 GW260.out).trans (((cf_ (p := ⟨gb260, _, none⟩) hw258_2 GW260.out).trans (hHeld.2.2.2.2.2.2.2.1)))))))))), ((cf_ (p := ⟨gb260, _, none⟩) hw258_3 GW260.out).trans (((cf_ (p := ⟨gb260, _, none⟩) hw258_3 GW260.out).trans (((cf_ (p := ⟨gb260, _, none⟩) hw258_3 GW260.out).trans (((cf_ (p := ⟨gb260, _, none⟩) hw258_3 GW260.out).trans (((cf_ (p := ⟨gb260, _, none⟩) hw258_3 GW260.out).trans (hHeld.2.2.2.2.2.2.2.2.1)))))))))), ((cf_ (p := ⟨gb260, _, none⟩) hw258_4 GW260.out).trans (((cf_ (p := ⟨gb260, _, none⟩) hw258_4 GW260.out).trans (((cf_ (p := ⟨gb260, _, none⟩) hw258_4 GW260.out).trans (((cf_ (p := ⟨gb260, _, none⟩) hw258_4 GW260.out).trans (((cf_ (p := ⟨gb260, _, none⟩) hw258_4 GW260.out).trans (hHeld.2.2.2.2.2.2.2.2.2))))))))))⟩ (fun hHeld => ?_)
       clear hK K
       refine done_ (done_of HT_.out (by kernel_rfl)) ?_
       (try clear hHeld)
       have hnb79 := NB259_260.out
       have hnc79 := NB260_259.out
       obtain ⟨hcz80_0, hcz80_1, hcz80_2, hcz80_3, hcz80_4, hfz80_0, hfz80_1, hfz80_2, hfz80_3, hfz80_4⟩ := cz5_ BK259.out
       obtain ⟨hcz81_0, hcz81_1, hcz81_2, hcz81_3, hcz81_4, hfz81_0, hfz81_1, hfz81_2, hfz81_3, hfz81_4⟩ := cz5_ BK260.out
       try go_wp2_with (first | (go_at_call 72; (with_reducible refine (impl_SamePath.calls k1 _ _ ((rd_T82 l0 x15_1).f1) _ _ ((rd_T82 l1 x15_1).f1) true _ ?s1 ?s2 ?s3 ?s4 A9.out).mono ?_); (case s1 => exact Kd.C_below HR257_1.out (by repeat (first | (with_reducible first | exact HB.out | apply below_alloc | apply pw_below_drewN | apply below_drew1 | refine below_set ?_ GE259.out | refine below_set ?_ GE260.out) | exact HB.out))); (case s2 => exact HC257_1.out); (case s3 => exact Kd.C_below HR258_1.out (by repeat (first | (with_reducible first | exact HB.out | apply below_alloc | apply pw_below_drewN | apply below_drew1 | refine below_set ?_ GE259.out | refine below_set ?_ GE260.out) | exact HB.out))); (case s4 => exact HC258_1.out); rintro e w' ⟨rfl, ⟨nd, rfl⟩⟩))
       go_ret
       exact ⟨rr_, by repeat (first | (with_reducible first | exact HB.out | apply below_alloc | apply pw_below_drewN | apply below_drew1 | refine below_set ?_ GE259.out | refine below_set ?_ GE260.out) | exact HB.out)⟩
     rw [if_pos c47] at H
     have c47b0 : (((rd_T82 l0 x15_1).f4) == ((rd_T82 l1 x15_1).f4)) = true := beq_iff_eq.mpr c47
     have c47b1 : (((rd_T82 l0 x15_1).f4) != ((rd_T82 l1 x15_1).f4)) = false := bne_eq_false_iff_eq.mpr c47
     clear c47
     have H' := A_ H
     clear H
     try go_wp2
     replace HB := A_ (below_drew1 HB.out)
     have p257 : 0 ≤ (x15_1 : Int) := od_
     have q257 : x15_1 < (l0.length : Int) := od_
     obtain ⟨ad257, A257_1, c257_1, e257, hx257_0, hx257_1, hx257_2, hx257_3, hx257_4, hl257_1, hi257_1⟩ := at_T82 HR0.out x15_1 p257 q257
     have hw257_4 := hx257_4
     have hw257_3 := hx257_3
     have hw257_2 := hx257_2
     have hw257_1 := hx257_1
     have hw257_0 := hx257_0
     cases e257
     replace hx257_0 := bc_ HB.out hx257_0
     replace hx257_1 := bc_ HB.out hx257_1
     replace hx257_2 := bc_ HB.out hx257_2
     replace hx257_3 := bc_ HB.out hx257_3
     replace hx257_4 := bc_ HB.out hx257_4
     have HR257_1 := A_ hi257_1
     have HC257_1 := A_ hl257_1
     clear hi257_1 hl257_1
     replace p257 := eq_true p257
     replace q257 := eq_true q257
     have p258 : 0 ≤ (x15_1 : Int) := od_
     have q258 : x15_1 < (l1.length : Int) := od_
     obtain ⟨ad258, A258_1, c258_1, e258, hx258_0, hx258_1, hx258_2, hx258_3, hx258_4, hl258_1, hi258_1⟩ := at_T82 HR1.out x15_1 p258 q258
     have hw258_4 := hx258_4
     have hw258_3 := hx258_3
     have hw258_2 := hx258_2
     have hw258_1 := hx258_1
     have hw258_0 := hx258_0
     cases e258
     replace hx258_0 := bc_ HB.out hx258_0
     replace hx258_1 := bc_ HB.out hx258_1
     replace hx258_2 := bc_ HB.out hx258_2
     replace hx258_3 := bc_ HB.out hx258_3
     replace hx258_4 := bc_ HB.out hx258_4
     have HR258_1 := A_ hi258_1
     have HC258_1 := A_ hl258_1
     clear hi258_1 hl258_1
     replace p258 := eq_true p258
     replace q258 := eq_true q258
     refine start_ (n := 12) (S := fun w' => w'.cell? (ad257.add ((x15_1).toNat * 5)) = some (.int .i64 ((rd_T82 l0 x15_1).f0)) ∧ w'.cell? ⟨(ad257.add ((x15_1).toNat * 5)).block, (ad257.add ((x15_1).toNat * 5)).off + 1, none⟩ = some (.slice A257_1 ((rd_T82 l0 x15_1).f1).length c257_1) ∧ w'.cell? ⟨(ad257.add ((x15_1).toNat * 5)).block, (ad257.add ((x15_1).toNat * 5)).off + 2, none⟩ = some (.bool ((rd_T82 l0 x15_1).f2)) ∧ w'.cell? ⟨(ad257.add ((x15_1).toNat * 5)).block, (ad257.add ((x15_1).toNat * 5)).off + 3, none⟩ = some (.bool ((rd_T82 l0 x15_1).f3)) ∧ w'.cell? ⟨(ad257.add ((x15_1).toNat * 5)).block, (ad257.add ((x15_1).toNat * 5)).off + 4, none⟩ = some (.int .i64 ((rd_T82 l0 x15_1).f4)) ∧ w'.cell? (ad258.add ((x15_1).toNat * 5)) = some (.int .i64 ((rd_T82 l1 x15_1).f0)) ∧ w'.cell? ⟨(ad258.add ((x15_1).toNat * 5)).block, (ad258.add ((x15_1).toNat * 5)).off + 1, none⟩ = some (.slice A258_1 ((rd_T82 l1 x15_1).f1).length c258_1) ∧ w'.cell? ⟨(ad258.add ((x15_1).toNat * 5)).block, (ad258.add ((x15_1).toNat * 5)).off + 2, none⟩ = some (.bool ((rd_T82 l1 x15_1).f2)) ∧ w'.cell? ⟨(ad258.add ((x15_1).toNat * 5)).block, (ad258.add ((x15_1).toNat * 5)).off + 3, none⟩ = some (.bool ((rd_T82 l1 x15_1).f3)) ∧ w'.cell? ⟨(ad258.add ((x15_1).toNat * 5)).block, (ad258.add ((x15_1).toNat * 5)).off + 4, none⟩ = some (.int .i64 ((rd_T82 l1 x15_1).f4))) (ds := []) #[false, false, false, false, false, false, false, false, false, false, false, false] (by kernel_rfl) rfl rfl ⟨(be_ hw257_0), (be_ hw257_1), (be_ hw257_2), (be_ hw257_3), (be_ hw257_4), (be_ hw258_0), (be_ hw258_1), (be_ hw258_2), (be_ hw258_3), (be_ hw258_4)⟩ (fun hHeld => ?_); refine with_tabW impl_sameLocks.tab6 impl_sameLocks.bits6 (fun HT_ HW_ => ?_)
     generalize wr.drew = w48 at HB HR257_1 HR258_1 hx257_0 hx257_1 hx257_2 hx257_3 hx257_4 hx258_0 hx258_1 hx258_2 hx258_3 hx258_4 hHeld ⊢
     refine pu_ (i := 0) (N := some 18) ?_
     refine pu_ (i := 1) (N := some 19) ?_
     refine pu_ (i := 2) (N := some 20) ?_
     refine pu_ (i := 4) (N := some 22) ?_
     refine pu_ (i := 5) (N := some 23) ?_
     refine pu_ (i := 6) (N := some 24) ?_
     refine tk_ (i := 3) (N := some 21) hHeld ?_
     refine tk_ (i := 7) (N := some 25) hHeld ?_
     refine join_ (σ := Nat × Nat) 2 #[true, true, true, true, true, true, true, true, true, true, false, false] (fun s_ => [(6, .pointer (some ⟨s_.1, 0, none⟩)), (7, .pointer (some ⟨s_.2, 0, none⟩))]) (fun s_ w' => (w'.cell? (ad257.add ((x15_1).toNat * 5)) = some (.int .i64 ((rd_T82 l0 x15_1).f0)) ∧ w'.cell? ⟨(ad257.add ((x15_1).toNat * 5)).block, (ad257.add ((x15_1).toNat * 5)).off + 1, none⟩ = some (.slice A257_1 ((rd_T82 l0 x15_1).f1).length c257_1) ∧ w'.cell? ⟨(ad257.add ((x15_1).toNat * 5)).block, (ad257.add ((x15_1).toNat * 5)).off + 2, none⟩ = some (.bool ((rd_T82 l0 x15_1).f2)) ∧ w'.cell? ⟨(ad257.add ((x15_1).toNat * 5)).block, (ad257.add ((x15_1).toNat * 5)).off + 3, none⟩ = some (.bool ((rd_T82 l0 x15_1).f3)) ∧ w'.cell? ⟨(ad257.add ((x15_1).toNat * 5)).block, (ad257.add ((x15_1).toNat * 5)).off + 4, none⟩ = some (.int .i64 ((rd_T82 l0 x15_1).f4)) ∧ w'.cell? (ad258.add ((x15_1).toNat * 5)) = some (.int .i64 ((rd_T82 l1 x15_1).f0)) ∧ w'.cell? ⟨(ad258.add ((x15_1).toNat * 5)).block, (ad258.add ((x15_1).toNat * 5)).off + 1, none⟩ = some (.slice A258_1 ((rd_T82 l1 x15_1).f1).length c258_1) ∧ w'.cell? ⟨(ad258.add ((x15_1).toNat * 5)).block, (ad258.add ((x15_1).toNat * 5)).off + 2, none⟩ = some (.bool ((rd_T82 l1 x15_1).f2)) ∧ w'.cell? ⟨(ad258.add ((x15_1).toNat * 5)).block, (ad258.add ((x15_1).toNat * 5)).off + 3, none⟩ = some (.bool ((rd_T82 l1 x15_1).f3)) ∧ w'.cell? ⟨(ad258.add ((x15_1).toNat * 5)).block, (ad258.add ((x15_1).toNat * 5)).off + 4, none⟩ = some (.int .i64 ((rd_T82 l1 x15_1).f4))) ∧ (w'.heap[s_.1]? = some (.cells #[.int .i64 0, .slice none 0 0, .bool false, .bool false, .int .i64 0] 82 (0, 0))) ∧ (w'.heap[s_.2]? = some (.cells #[.int .i64 0, .slice none 0 0, .bool false, .bool false, .int .i64 0] 82 (0, 0))) ∧ (w.heap.size ≤ s_.1) ∧ (w.heap.size ≤ s_.1) ∧ (s_.2 ≠ s_.1) ∧ (s_.1 ≠ s_.2) ∧ (w.heap.size ≤ s_.2) ∧ (w.heap.size ≤ s_.2) ∧ (Below w.heap.size w w')) ?_ ?_
     rotate_left
     · intro hCont
       refine two_ (i := 8) (j := 9) (Ni := some 6) (Nj := some 7) #[true, true, true, true, true, true, true, true, true, false, false, false] #[true, true, true, true, true, true, true, true, false, true, false, false] rfl rfl rfl rfl (two_of HT_.out (by kernel_rfl)) (by decide) (by decide) (fun K hK => ?_) (fun K hK => ?_)
       · skip
         refine box_step ?hg (N := 6) ?hd (cs := #[.int .i64 0, .slice none 0 0, .bool false, .bool false, .int .i64 0]) (t := 82) ?hr ?_; (case hd => rfl); (case hg => rfl); (case hr => first | (go_simp; done) | (go_simp; rfl))
         intro gb259 hg w49 hbox hb
         have BK259 := A_ (hbox)
         have GW259 := A_ (ge_ hg bB_ : w.heap.size ≤ gb259)
         have GE259 := A_ (ge_ hg bB_ : w.heap.size ≤ gb259)
         replace HB := A_ (below_step bB_ hb)
         clear hb hbox hg
         refine hK.out _ _ ⟨(be_ hw257_0), (be_ hw257_1), (be_ hw257_2), (be_ hw257_3), (be_ hw257_4), (be_ hw258_0), (be_ hw258_1), (be_ hw258_2), (be_ hw258_3), (be_ hw258_4)⟩ (fun hHeld => ?_)
         clear hK K
         refine no_ (some 6) ?_
         refine on_ (i := 9) (N := some 7) (fun K hK => ?_)
         refine box_step ?hg (N := 7) ?hd (cs := #[.int .i64 0, .slice none 0 0, .bool false, .bool false, .int .i64 0]) (t := 82) ?hr ?_; (case hd => rfl); (case hg => rfl); (case hr => first | (go_simp; done) | (go_simp; rfl))
         intro gb260 hg w50 hbox hb
         have BK260 := A_ (hbox)
         have GW260 := A_ (ge_ hg (bG_ GE259.out) : w.heap.size ≤ gb260)
         have GE260 := A_ (ge_ hg (bG_ GE259.out) : w.heap.size ≤ gb260)
         replace HB := A_ (below_step (bG_ GE259.out) hb)
         have NB259_260 := A_ (gm_ hg BK259.out)
         have NB260_259 := A_ (gn_ hg BK259.out)
         replace BK259 := A_ (bw_ BK259.out hb)
         clear hb hbox hg
         refine hK.out _ _ ⟨(be_ hw257_0), (be_ hw257_1), (be_ hw257_2), (be_ hw257_3), (be_ hw257_4), (be_ hw258_0), (be_ hw258_1), (be_ hw258_2), (be_ hw258_3), (be_ hw258_4)⟩ (fun hHeld => ?_)
         clear hK K
         refine no_ (some 7) ?_
         exact norm_ (by simp only [putAll, Act.put, List.setIfInBounds_toArray, List.set_cons_zero, List.set_cons_succ]) (hCont (gb259, gb260) _ ⟨hHeld, (vb_ BK259.out), (vb_ BK260.out), GW259.out, GE259.out, NB260_259.out, NB259_260.out, GW260.out, GE260.out, (by repeat (first | (with_reducible first | exact HB.out | apply below_alloc | apply pw_below_drewN | apply below_drew1 | refine below_set ?_ GE259.out | refine below_set ?_ GE260.out) | exact HB.out))⟩)
       · skip
         refine box_step ?hg (N := 7) ?hd (cs := #[.int .i64 0, .slice none 0 0, .bool false, .bool false, .int .i64 0]) (t := 82) ?hr ?_; (case hd => rfl); (case hg => rfl); (case hr => first | (go_simp; done) | (go_simp; rfl))
         intro gb260 hg w49 hbox hb
         have BK260 := A_ (hbox)
         have GW260 := A_ (ge_ hg bB_ : w.heap.size ≤ gb260)
         have GE260 := A_ (ge_ hg bB_ : w.heap.size ≤ gb260)
         replace HB := A_ (below_step bB_ hb)
         clear hb hbox hg
         refine hK.out _ _ ⟨(be_ hw257_0), (be_ hw257_1), (be_ hw257_2), (be_ hw257_3), (be_ hw257_4), (be_ hw258_0), (be_ hw258_1), (be_ hw258_2), (be_ hw258_3), (be_ hw258_4)⟩ (fun hHeld => ?_)
         clear hK K
         refine no_ (some 7) ?_
         refine on_ (i := 8) (N := some 6) (fun K hK => ?_)
         refine box_step ?hg (N := 6) ?hd (cs := #[.int .i64 0, .slice none 0 0, .bool false, .bool false, .int .i64 0]) (t := 82) ?hr ?_; (case hd => rfl); (case hg => rfl); (case hr => first | (go_simp; done) | (go_simp; rfl))
         intro gb259 hg w50 hbox hb
         have BK259 := A_ (hbox)
         have GW259 := A_ (ge_ hg (bG_ GE260.out) : w.heap.size ≤ gb259)
         have GE259 := A_ (ge_ hg (bG_ GE260.out) : w.heap.size ≤ gb259)
         replace HB := A_ (below_step (bG_ GE260.out) hb)
         have NB260_259 := A_ (gm_ hg BK260.out)
         have NB259_260 := A_ (gn_ hg BK260.out)
         replace BK260 := A_ (bw_ BK260.out hb)
         clear hb hbox hg
         refine hK.out _ _ ⟨(be_ hw257_0), (be_ hw257_1), (be_ hw257_2), (be_ hw257_3), (be_ hw257_4), (be_ hw258_0), (be_ hw258_1), (be_ hw258_2), (be_ hw258_3), (be_ hw258_4)⟩ (fun hHeld => ?_)
         clear hK K
         refine no_ (some 6) ?_
         exact norm_ (by simp only [putAll, Act.put, List.setIfInBounds_toArray, List.set_cons_zero, List.set_cons_succ]) (hCont (gb259, gb260) _ ⟨hHeld, (vb_ BK259.out), (vb_ BK260.out), GW259.out, GE259.out, NB260_259.out, NB259_260.out, GW260.out, GE260.out, (by repeat (first | (with_reducible first | exact HB.out | apply below_alloc | apply pw_below_drewN | apply below_drew1 | refine below_set ?_ GE260.out | refine below_set ?_ GE259.out) | exact HB.out))⟩)
     rintro ⟨gb259, gb260⟩ w51 ⟨hS_, h0_, h1_, h2_, h3_, h4_, h5_, h6_, h7_, h8_⟩
     have n0_ : Aside0 (w51.heap[gb259]? = some (.cells #[.int .i64 0, .slice none 0 0, .bool false, .bool false, .int .i64 0] 82 (0, 0))) := ⟨h0_⟩
     have n1_ : Aside0 (w51.heap[gb260]? = some (.cells #[.int .i64 0, .slice none 0 0, .bool false, .bool false, .int .i64 0] 82 (0, 0))) := ⟨h1_⟩
     have n2_ : Aside0 (w.heap.size ≤ gb259) := ⟨h2_⟩
     have n3_ : Aside0 (w.heap.size ≤ gb259) := ⟨h3_⟩
     have n4_ : Aside0 (gb260 ≠ gb259) := ⟨h4_⟩
     have n5_ : Aside0 (gb259 ≠ gb260) := ⟨h5_⟩
     have n6_ : Aside0 (w.heap.size ≤ gb260) := ⟨h6_⟩
     have n7_ : Aside0 (w.heap.size ≤ gb260) := ⟨h7_⟩
     have n8_ : Aside0 (Below w.heap.size w w51) := ⟨h8_⟩
     clear HB
     clear h0_ h1_ h2_ h3_ h4_ h5_ h6_ h7_ h8_
     have BK259 := n0_
     have BK260 := n1_
     have GW259 := n2_
     have GE259 := n3_
     have NB260_259 := n4_
     have NB259_260 := n5_
     have GW260 := n6_
     have GE260 := n7_
     have HB := n8_
     clear n0_ n1_ n2_ n3_ n4_ n5_ n6_ n7_ n8_
     have hHeld : w51.cell? (ad257.add ((x15_1).toNat * 5)) = some (.int .i64 ((rd_T82 l0 x15_1).f0)) ∧ w51.cell? ⟨(ad257.add ((x15_1).toNat * 5)).block, (ad257.add ((x15_1).toNat * 5)).off + 1, none⟩ = some (.slice A257_1 ((rd_T82 l0 x15_1).f1).length c257_1) ∧ w51.cell? ⟨(ad257.add ((x15_1).toNat * 5)).block, (ad257.add ((x15_1).toNat * 5)).off + 2, none⟩ = some (.bool ((rd_T82 l0 x15_1).f2)) ∧ w51.cell? ⟨(ad257.add ((x15_1).toNat * 5)).block, (ad257.add ((x15_1).toNat * 5)).off + 3, none⟩ = some (.bool ((rd_T82 l0 x15_1).f3)) ∧ w51.cell? ⟨(ad257.add ((x15_1).toNat * 5)).block, (ad257.add ((x15_1).toNat * 5)).off + 4, none⟩ = some (.int .i64 ((rd_T82 l0 x15_1).f4)) ∧ w51.cell? (ad258.add ((x15_1).toNat * 5)) = some (.int .i64 ((rd_T82 l1 x15_1).f0)) ∧ w51.cell? ⟨(ad258.add ((x15_1).toNat * 5)).block, (ad258.add ((x15_1).toNat * 5)).off + 1, none⟩ = some (.slice A258_1 ((rd_T82 l1 x15_1).f1).length c258_1) ∧ w51.cell? ⟨(ad258.add ((x15_1).toNat * 5)).block, (ad258.add ((x15_1).toNat * 5)).off + 2, none⟩ = some (.bool ((rd_T82 l1 x15_1).f2)) ∧ w51.cell? ⟨(ad258.add ((x15_1).toNat * 5)).block, (ad258.add ((x15_1).toNat * 5)).off + 3, none⟩ = some (.bool ((rd_T82 l1 x15_1).f3)) ∧ w51.cell? ⟨(ad258.add ((x15_1).toNat * 5)).block, (ad258.add ((x15_1).toNat * 5)).off + 4, none⟩ = some (.int .i64 ((rd_T82 l1 x15_1).f4)) := hS_
     refine norm_ (a' := ?_) ?_ ?_
     rotate_left
     · simp only [putAll, Act.put, List.setIfInBounds_toArray, List.set_cons_zero, List.set_cons_succ]
       rfl
     refine on_ (i := 10) (N := none) (fun K hK => ?_)
     have hs52 : w51.cell? ⟨gb259, 0, none⟩ = some (.int .i64 0) := bl_ BK259.out 0
     have hfs52 := blk_frozen BK259.out 0
     have hns52_1 := NB260_259.out
     have hms52_1 := NB259_260.out
     have hs53 : w51.cell? ⟨gb259, 1, none⟩ = some (.slice none 0 0) := bl_ BK259.out 1
     have hfs53 := blk_frozen BK259.out 1
     have hns53_1 := NB260_259.out
     have hms53_1 := NB259_260.out
     have hs54 : w51.cell? ⟨gb259, 2, none⟩ = some (.bool false) := bl_ BK259.out 2
     have hfs54 := blk_frozen BK259.out 2
     have hns54_1 := NB260_259.out
     have hms54_1 := NB259_260.out
     have hs55 : w51.cell? ⟨gb259, 3, none⟩ = some (.bool false) := bl_ BK259.out 3
     have hfs55 := blk_frozen BK259.out 3
     have hns55_1 := NB260_259.out
     have hms55_1 := NB259_260.out
     have hs56 : w51.cell? ⟨gb259, 4, none⟩ = some (.int .i64 0) := bl_ BK259.out 4
     have hfs56 := blk_frozen BK259.out 4
     have hns56_1 := NB260_259.out
     have hms56_1 := NB259_260.out
     refine skip_ (w1 := ?_) (by rfl) rfl ?_ ?_
     rotate_left
     · go_simp
       rfl
     refine hK.out _ _ ⟨((cf_ (p := ⟨gb259, _, none⟩) hw257_0 GW259.out).trans (((cf_ (p := ⟨gb259, _, none⟩) hw257_0 GW259.out).trans (((cf_ (p := ⟨gb259, _, none⟩) hw257_0 GW259.out).trans (((cf_ (p := ⟨gb259, _, none⟩) hw257_0 GW259.out).trans (((cf_ (p := ⟨gb259, _, none⟩) hw257_0 GW259.out).trans (hHeld.1)))))))))), ((cf_ (p := ⟨gb259, _, none⟩) hw257_1 GW259.out).trans (((cf_ (p := ⟨gb259, _, none⟩) hw257_1 GW259.out).trans (((cf_ (p := ⟨gb259, _, none⟩) hw257_1 GW259.out).trans (((cf_ (p := ⟨gb259, _, none⟩) hw257_1 GW259.out).trans (((cf_ (p := ⟨gb259, _, none⟩) hw257_1 GW259.out).trans (hHeld.2.1)))))))))), ((cf_ (p := ⟨gb259, _, none⟩) hw257_2 GW259.out).trans (((cf_ (p := ⟨gb259, _, none⟩) hw257_2 GW259.out).trans (((cf_ (p := ⟨gb259, _, none⟩) hw257_2 GW259.out).trans (((cf_ (p := ⟨gb259, _, none⟩) hw257_2 GW259.out).trans (((cf_ (p := ⟨gb259, _, none⟩) hw257_2 GW259.out).trans (hHeld.2.2.1)))))))))), ((cf_ (p := ⟨gb259, _, none⟩) hw257_3 GW259.out).trans (((cf_ (p := ⟨gb259, _, none⟩) hw257_3 GW259.out).trans (((cf_ (p := ⟨gb259, _, none⟩) hw257_3 GW259.out).trans (((cf_ (p := ⟨gb259, _, none⟩) hw257_3 GW259.out).trans (((cf_ (p := ⟨gb259, _, none⟩) hw257_3 GW259.out).trans (hHeld.2.2.2.1)))))))))), ((cf_ (p := ⟨gb259, _, none⟩) hw257_4 GW259.out).trans (((cf_ (p := ⟨gb259, _, none⟩) hw257_4 GW259.out).trans (((cf_ (p := ⟨gb259, _, none⟩) hw257_4 GW259.out).trans (((cf_ (p := ⟨gb259, _, none⟩) hw257_4 GW259.out).trans (((cf_ (p := ⟨gb259, _, none⟩) hw257_4 GW259.out).trans (hHeld.2.2.2.2.1)))))))))), ((cf_ (p := ⟨gb259, _, none⟩) hw258_0 GW259.out).trans (((cf_ (p := ⟨gb259, _, none⟩) hw258_0 GW259.out).trans (((cf_ (p := ⟨gb259, _, none⟩) hw258_0 GW259.out).trans (((cf_ (p := ⟨gb259, _, none⟩) hw258_0 GW259.out).trans (((cf_ (p := ⟨gb259, _, none⟩) hw258_0 GW259.out).trans (hHeld.2.2.2.2.2.1)))))))))), ((cf_ (p := ⟨gb259, _, none⟩) hw258_1 GW259.out).trans (((cf_ (p := ⟨gb259, _, none⟩) hw258_1 GW259.out).trans (((cf_ (p := ⟨gb259, _, none⟩) hw258_1 GW259.out).trans (((cf_ (p := ⟨gb259, _, none⟩) hw258_1 GW259.out).trans (((cf_ (p := ⟨gb259, _, none⟩) hw258_1 GW259.out).trans (hHeld.2.2.2.2.2.2.1)))))))))), ((cf_ (p := ⟨gb259, _, none⟩) hw258_2 GW259.out).trans (((cf_ (p := ⟨gb259, _, none⟩) hw258_2 GW259.out).trans (((cf_ (p := ⟨gb259, _, none⟩) hw258_2 GW259.out).trans (((cf_ (p := ⟨gb259, _, none⟩) hw258_2 GW259.out).trans (((cf_ (p := ⟨gb259, _, none⟩) hw258_2 GW259.out).trans (hHeld.2.2.2.2.2.2.2.1)))))))))), ((cf_ (p := ⟨gb259, _, none⟩) hw258_3 GW259.out).trans (((cf_ (p := ⟨gb259, _, none⟩) hw258_3 GW259.out).trans (((cf_ (p := ⟨gb259, _, none⟩) hw258_3 GW259.out).trans (((cf_ (p := ⟨gb259, _, none⟩) hw258_3 GW259.out).trans (((cf_ (p := ⟨gb259, _, none⟩) hw258_3 GW259.out).trans (hHeld.2.2.2.2.2.2.2.2.1)))))))))), ((cf_ (p := ⟨gb259, _, none⟩) hw258_4 GW259.out).trans (((cf_ (p := ⟨gb259, _, none⟩) hw258_4 GW259.out).trans (((cf_ (p := ⟨gb259, _, none⟩) hw258_4 GW259.out).trans (((cf_ (p := ⟨gb259, _, none⟩) hw258_4 GW259.out).trans (((cf_ (p := ⟨gb259, _, none⟩) hw258_4 GW259.out).trans (hHeld.2.2.2.2.2.2.2.2.2))))))))))⟩ (fun hHeld => ?_)
     clear hK K
     refine on_ (i := 11) (N := none) (fun K hK => ?_)
     have hs57 : w51.cell? ⟨gb260, 0, none⟩ = some (.int .i64 0) := bl_ BK260.out 0
     have hfs57 := blk_frozen BK260.out 0
     have hns57_0 := NB259_260.out
     have hms57_0 := NB260_259.out
     have hs58 : w51.cell? ⟨gb260, 1, none⟩ = some (.slice none 0 0) := bl_ BK260.out 1
     have hfs58 := blk_frozen BK260.out 1
     have hns58_0 := NB259_260.out
     have hms58_0 := NB260_259.out
     have hs59 : w51.cell? ⟨gb260, 2, none⟩ = some (.bool false) := bl_ BK260.out 2
     have hfs59 := blk_frozen BK260.out 2
     have hns59_0 := NB259_260.out
     have hms59_0 := NB260_259.out
     have hs60 : w51.cell? ⟨gb260, 3, none⟩ = some (.bool false) := bl_ BK260.out 3
     have hfs60 := blk_frozen BK260.out 3
     have hns60_0 := NB259_260.out
     have hms60_0 := NB260_259.out
     have hs61 : w51.cell? ⟨gb260, 4, none⟩ = some (.int .i64 0) := bl_ BK260.out 4
     have hfs61 := blk_frozen BK260.out 4
     have hns61_0 := NB259_260.out
     have hms61_0 := NB260_259.out
     refine skip_ (w1 := ?_) (by rfl) rfl ?_ ?_
     rotate_left
     · go_simp
       rfl
     refine hK.out _ _ ⟨((cf_ (p := ⟨gb260, _, none⟩) hw257_0 GW260.out).trans (((cf_ (p := ⟨gb260, _, none⟩) hw257_0 GW260.out).trans (((cf_ (p := ⟨gb260, _, none⟩) hw257_0 GW260.out).trans (((cf_ (p := ⟨gb260, _, none⟩) hw257_0 GW260.out).trans (((cf_ (p := ⟨gb260, _, none⟩) hw257_0 GW260.out).trans (hHeld.1)))))))))), ((cf_ (p := ⟨gb260, _, none⟩) hw257_1 GW260.out).trans (((cf_ (p := ⟨gb260, _, none⟩) hw257_1 GW260.out).trans (((cf_ (p := ⟨gb260, _, none⟩) hw257_1 GW260.out).trans (((cf_ (p := ⟨gb260, _, none⟩) hw257_1 GW260.out).trans (((cf_ (p := ⟨gb260, _, none⟩) hw257_1 GW260.out).trans (hHeld.2.1)))))))))), ((cf_ (p := ⟨gb260, _, none⟩) hw257_2 GW260.out).trans (((cf_ (p := ⟨gb260, _, none⟩) hw257_2 GW260.out).trans (((cf_ (p := ⟨gb260, _, none⟩) hw257_2 GW260.out).trans (((cf_ (p := ⟨gb260, _, none⟩) hw257_2 GW260.out).trans (((cf_ (p := ⟨gb260, _, none⟩) hw257_2 GW260.out).trans (hHeld.2.2.1)))))))))), ((cf_ (p := ⟨gb260, _, none⟩) hw257_3 GW260.out).trans (((cf_ (p := ⟨gb260, _, none⟩) hw257_3 GW260.out).trans (((cf_ (p := ⟨gb260, _, none⟩) hw257_3 GW260.out).trans (((cf_ (p := ⟨gb260, _, none⟩) hw257_3 GW260.out).trans (((cf_ (p := ⟨gb260, _, none⟩) hw257_3 GW260.out).trans (hHeld.2.2.2.1)))))))))), ((cf_ (p := ⟨gb260, _, none⟩) hw257_4 GW260.out).trans (((cf_ (p := ⟨gb260, _, none⟩) hw257_4 GW260.out).trans (((cf_ (p := ⟨gb260, _, none⟩) hw257_4 GW260.out).trans (((cf_ (p := ⟨gb260, _, none⟩) hw257_4 GW260.out).trans (((cf_ (p := ⟨gb260, _, none⟩) hw257_4 GW260.out).trans (hHeld.2.2.2.2.1)))))))))), ((cf_ (p := ⟨gb260, _, none⟩) hw258_0 GW260.out).trans (((cf_ (p := ⟨gb260, _, none⟩) hw258_0 GW260.out).trans (((cf_ (p := ⟨gb260, _, none⟩) hw258_0 GW260.out).trans (((cf_ (p := ⟨gb260, _, none⟩) hw258_0 GW260.out).trans (((cf_ (p := ⟨gb260, _, none⟩) hw258_0 GW260.out).trans (hHeld.2.2.2.2.2.1)))))))))), ((cf_ (p := ⟨gb260, _, none⟩) hw258_1 GW260.out).trans (((cf_ (p := ⟨gb260, _, none⟩) hw258_1 GW260.out).trans (((cf_ (p := ⟨gb260, _, none⟩) hw258_1 GW260.out).trans (((cf_ (p := ⟨gb260, _, none⟩) hw258_1 GW260.out).trans (((cf_ (p := ⟨gb260, _, none⟩) hw258_1 GW260.out).trans (hHeld.2.2.2.2.2.2.1)))))))))), ((cf_ (p := ⟨gb260, _, none⟩) hw258_2 GW260.out).trans (((cf_ (p := ⟨gb260, _, none⟩) hw258_2 GW260.out).trans (((cf_ (p := ⟨gb260, _, none⟩) hw258_2 GW260.out).trans (((cf_ (p := ⟨gb260, _, none⟩) hw258_2 GW260.out).trans (((cf_ (p := ⟨gb260, _, none⟩) hw258_2 GW260.out).trans (hHeld.2.2.2.2.2.2.2.1)))))))))), ((cf_ (p := ⟨gb260, _, none⟩) hw258_3 GW260.out).trans (((cf_ (p := ⟨gb260, _, none⟩) hw258_3 GW260.out).trans (((cf_ (p := ⟨gb260, _, none⟩) hw258_3 GW260.out).trans (((cf_ (p := ⟨gb260, _, none⟩) hw258_3 GW260.out).trans (((cf_ (p := ⟨gb260, _, none⟩) hw258_3 GW260.out).trans (hHeld.2.2.2.2.2.2.2.2.1)))))))))), ((cf_ (p := ⟨gb260, _, none⟩) hw258_4 GW260.out).trans (((cf_ (p := ⟨gb260, _, none⟩) hw258_4 GW260.out).trans (((cf_ (p := ⟨gb260, _, none⟩) hw258_4 GW260.out).trans (((cf_ (p := ⟨gb260, _, none⟩) hw258_4 GW260.out).trans (((cf_ (p := ⟨gb260, _, none⟩) hw258_4 GW260.out).trans (hHeld.2.2.2.2.2.2.2.2.2))))))))))⟩ (fun hHeld => ?_)
     clear hK K
     refine done_ (done_of HT_.out (by kernel_rfl)) ?_
     (try clear hHeld)
     have hnb62 := NB259_260.out
     have hnc62 := NB260_259.out
     obtain ⟨hcz63_0, hcz63_1, hcz63_2, hcz63_3, hcz63_4, hfz63_0, hfz63_1, hfz63_2, hfz63_3, hfz63_4⟩ := cz5_ BK259.out
     obtain ⟨hcz64_0, hcz64_1, hcz64_2, hcz64_3, hcz64_4, hfz64_0, hfz64_1, hfz64_2, hfz64_3, hfz64_4⟩ := cz5_ BK260.out
     try go_wp2_with (first | (go_at_call 72; (with_reducible refine (impl_SamePath.calls k1 _ _ ((rd_T82 l0 x15_1).f1) _ _ ((rd_T82 l1 x15_1).f1) true _ ?s1 ?s2 ?s3 ?s4 A9.out).mono ?_); (case s1 => exact Kd.C_below HR257_1.out (by repeat (first | (with_reducible first | exact HB.out | apply below_alloc | apply pw_below_drewN | apply below_drew1 | refine below_set ?_ GE259.out | refine below_set ?_ GE260.out) | exact HB.out))); (case s2 => exact HC257_1.out); (case s3 => exact Kd.C_below HR258_1.out (by repeat (first | (with_reducible first | exact HB.out | apply below_alloc | apply pw_below_drewN | apply below_drew1 | refine below_set ?_ GE259.out | refine below_set ?_ GE260.out) | exact HB.out))); (case s4 => exact HC258_1.out); rintro e w' ⟨rfl, ⟨nd, rfl⟩⟩))
     go_roundg k1
     case measure => have := HK1.out; omega
     case rel => exact ⟨(wrap64 (x15_1 + 1)), rs_, H', ⟨by have := HK1.out; omega⟩, ⟨by repeat (first | (with_reducible first | exact HB.out | apply below_alloc | apply pw_below_drewN | apply below_drew1 | refine below_set ?_ GE259.out | refine below_set ?_ GE260.out) | exact HB.out)⟩⟩
   · replace c10 := Bool.eq_false_iff.mpr c10
     subst c10
     rw [if_neg nf_] at H
     obtain rfl := si_ H
     try go_wp2
     replace HB := A_ (below_drew1 HB.out)
     have p257 : 0 ≤ (x15_1 : Int) := od_
     have q257 : x15_1 < (l0.length : Int) := od_
     obtain ⟨ad257, A257_1, c257_1, e257, hx257_0, hx257_1, hx257_2, hx257_3, hx257_4, hl257_1, hi257_1⟩ := at_T82 HR0.out x15_1 p257 q257
     have hw257_4 := hx257_4
     have hw257_3 := hx257_3
     have hw257_2 := hx257_2
     have hw257_1 := hx257_1
     have hw257_0 := hx257_0
     cases e257
     replace hx257_0 := bc_ HB.out hx257_0
     replace hx257_1 := bc_ HB.out hx257_1
     replace hx257_2 := bc_ HB.out hx257_2
     replace hx257_3 := bc_ HB.out hx257_3
     replace hx257_4 := bc_ HB.out hx257_4
     have HR257_1 := A_ hi257_1
     have HC257_1 := A_ hl257_1
     clear hi257_1 hl257_1
     replace p257 := eq_true p257
     replace q257 := eq_true q257
     have p258 : 0 ≤ (x15_1 : Int) := od_
     have q258 : x15_1 < (l1.length : Int) := od_
     obtain ⟨ad258, A258_1, c258_1, e258, hx258_0, hx258_1, hx258_2, hx258_3, hx258_4, hl258_1, hi258_1⟩ := at_T82 HR1.out x15_1 p258 q258
     have hw258_4 := hx258_4
     have hw258_3 := hx258_3
     have hw258_2 := hx258_2
     have hw258_1 := hx258_1
     have hw258_0 := hx258_0
     cases e258
     replace hx258_0 := bc_ HB.out hx258_0
     replace hx258_1 := bc_ HB.out hx258_1
     replace hx258_2 := bc_ HB.out hx258_2
     replace hx258_3 := bc_ HB.out hx258_3
     replace hx258_4 := bc_ HB.out hx258_4
     have HR258_1 := A_ hi258_1
     have HC258_1 := A_ hl258_1
     clear hi258_1 hl258_1
     replace p258 := eq_true p258
     replace q258 := eq_true q258
     refine start_ (n := 12) (S := fun w' => w'.cell? (ad257.add ((x15_1).toNat * 5)) = some (.int .i64 ((rd_T82 l0 x15_1).f0)) ∧ w'.cell? ⟨(ad257.add ((x15_1).toNat * 5)).block, (ad257.add ((x15_1).toNat * 5)).off + 1, none⟩ = some (.slice A257_1 ((rd_T82 l0 x15_1).f1).length c257_1) ∧ w'.cell? ⟨(ad257.add ((x15_1).toNat * 5)).block, (ad257.add ((x15_1).toNat * 5)).off + 2, none⟩ = some (.bool ((rd_T82 l0 x15_1).f2)) ∧ w'.cell? ⟨(ad257.add ((x15_1).toNat * 5)).block, (ad257.add ((x15_1).toNat * 5)).off + 3, none⟩ = some (.bool ((rd_T82 l0 x15_1).f3)) ∧ w'.cell? ⟨(ad257.add ((x15_1).toNat * 5)).block, (ad257.add ((x15_1).toNat * 5)).off + 4, none⟩ = some (.int .i64 ((rd_T82 l0 x15_1).f4)) ∧ w'.cell? (ad258.add ((x15_1).toNat * 5)) = some (.int .i64 ((rd_T82 l1 x15_1).f0)) ∧ w'.cell? ⟨(ad258.add ((x15_1).toNat * 5)).block, (ad258.add ((x15_1).toNat * 5)).off + 1, none⟩ = some (.slice A258_1 ((rd_T82 l1 x15_1).f1).length c258_1) ∧ w'.cell? ⟨(ad258.add ((x15_1).toNat * 5)).block, (ad258.add ((x15_1).toNat * 5)).off + 2, none⟩ = some (.bool ((rd_T82 l1 x15_1).f2)) ∧ w'.cell? ⟨(ad258.add ((x15_1).toNat * 5)).block, (ad258.add ((x15_1).toNat * 5)).off + 3, none⟩ = some (.bool ((rd_T82 l1 x15_1).f3)) ∧ w'.cell? ⟨(ad258.add ((x15_1).toNat * 5)).block, (ad258.add ((x15_1).toNat * 5)).off + 4, none⟩ = some (.int .i64 ((rd_T82 l1 x15_1).f4))) (ds := []) #[false, false, false, false, false, false, false, false, false, false, false, false] (by kernel_rfl) rfl rfl ⟨(be_ hw257_0), (be_ hw257_1), (be_ hw257_2), (be_ hw257_3), (be_ hw257_4), (be_ hw258_0), (be_ hw258_1), (be_ hw258_2), (be_ hw258_3), (be_ hw258_4)⟩ (fun hHeld => ?_); refine with_tabW impl_sameLocks.tab6 impl_sameLocks.bits6 (fun HT_ HW_ => ?_)
     generalize wr.drew = w82 at HB HR257_1 HR258_1 hx257_0 hx257_1 hx257_2 hx257_3 hx257_4 hx258_0 hx258_1 hx258_2 hx258_3 hx258_4 hHeld ⊢
     refine pu_ (i := 0) (N := some 18) ?_
     refine pu_ (i := 1) (N := some 19) ?_
     refine pu_ (i := 2) (N := some 20) ?_
     refine pu_ (i := 4) (N := some 22) ?_
     refine pu_ (i := 5) (N := some 23) ?_
     refine pu_ (i := 6) (N := some 24) ?_
     refine tk_ (i := 3) (N := some 21) hHeld ?_
     refine tk_ (i := 7) (N := some 25) hHeld ?_
     refine join_ (σ := Nat × Nat) 2 #[true, true, true, true, true, true, true, true, true, true, false, false] (fun s_ => [(6, .pointer (some ⟨s_.1, 0, none⟩)), (7, .pointer (some ⟨s_.2, 0, none⟩))]) (fun s_ w' => (w'.cell? (ad257.add ((x15_1).toNat * 5)) = some (.int .i64 ((rd_T82 l0 x15_1).f0)) ∧ w'.cell? ⟨(ad257.add ((x15_1).toNat * 5)).block, (ad257.add ((x15_1).toNat * 5)).off + 1, none⟩ = some (.slice A257_1 ((rd_T82 l0 x15_1).f1).length c257_1) ∧ w'.cell? ⟨(ad257.add ((x15_1).toNat * 5)).block, (ad257.add ((x15_1).toNat * 5)).off + 2, none⟩ = some (.bool ((rd_T82 l0 x15_1).f2)) ∧ w'.cell? ⟨(ad257.add ((x15_1).toNat * 5)).block, (ad257.add ((x15_1).toNat * 5)).off + 3, none⟩ = some (.bool ((rd_T82 l0 x15_1).f3)) ∧ w'.cell? ⟨(ad257.add ((x15_1).toNat * 5)).block, (ad257.add ((x15_1).toNat * 5)).off + 4, none⟩ = some (.int .i64 ((rd_T82 l0 x15_1).f4)) ∧ w'.cell? (ad258.add ((x15_1).toNat * 5)) = some (.int .i64 ((rd_T82 l1 x15_1).f0)) ∧ w'.cell? ⟨(ad258.add ((x15_1).toNat * 5)).block, (ad258.add ((x15_1).toNat * 5)).off + 1, none⟩ = some (.slice A258_1 ((rd_T82 l1 x15_1).f1).length c258_1) ∧ w'.cell? ⟨(ad258.add ((x15_1).toNat * 5)).block, (ad258.add ((x15_1).toNat * 5)).off + 2, none⟩ = some (.bool ((rd_T82 l1 x15_1).f2)) ∧ w'.cell? ⟨(ad258.add ((x15_1).toNat * 5)).block, (ad258.add ((x15_1).toNat * 5)).off + 3, none⟩ = some (.bool ((rd_T82 l1 x15_1).f3)) ∧ w'.cell? ⟨(ad258.add ((x15_1).toNat * 5)).block, (ad258.add ((x15_1).toNat * 5)).off + 4, none⟩ = some (.int .i64 ((rd_T82 l1 x15_1).f4))) ∧ (w'.heap[s_.1]? = some (.cells #[.int .i64 0, .slice none 0 0, .bool false, .bool false, .int .i64 0] 82 (0, 0))) ∧ (w'.heap[s_.2]? = some (.cells #[.int .i64 0, .slice none 0 0, .bool false, .bool false, .int .i64 0] 82 (0, 0))) ∧ (w.heap.size ≤ s_.1) ∧ (w.heap.size ≤ s_.1) ∧ (s_.2 ≠ s_.1) ∧ (s_.1 ≠ s_.2) ∧ (w.heap.size ≤ s_.2) ∧ (w.heap.size ≤ s_.2) ∧ (Below w.heap.size w w')) ?_ ?_
     rotate_left
     · intro hCont
       refine two_ (i := 8) (j := 9) (Ni := some 6) (Nj := some 7) #[true, true, true, true, true, true, true, true, true, false, false, false] #[true, true, true, true, true, true, true, true, false, true, false, false] rfl rfl rfl rfl (two_of HT_.out (by kernel_rfl)) (by decide) (by decide) (fun K hK => ?_) (fun K hK => ?_)
       · skip
         refine box_step ?hg (N := 6) ?hd (cs := #[.int .i64 0, .slice none 0 0, .bool false, .bool false, .int .i64 0]) (t := 82) ?hr ?_; (case hd => rfl); (case hg => rfl); (case hr => first | (go_simp; done) | (go_simp; rfl))
         intro gb259 hg w83 hbox hb
         have BK259 := A_ (hbox)
         have GW259 := A_ (ge_ hg bB_ : w.heap.size ≤ gb259)
         have GE259 := A_ (ge_ hg bB_ : w.heap.size ≤ gb259)
         replace HB := A_ (below_step bB_ hb)
         clear hb hbox hg
         refine hK.out _ _ ⟨(be_ hw257_0), (be_ hw257_1), (be_ hw257_2), (be_ hw257_3), (be_ hw257_4), (be_ hw258_0), (be_ hw258_1), (be_ hw258_2), (be_ hw258_3), (be_ hw258_4)⟩ (fun hHeld => ?_)
         clear hK K
         refine no_ (some 6) ?_
         refine on_ (i := 9) (N := some 7) (fun K hK => ?_)
         refine box_step ?hg (N := 7) ?hd (cs := #[.int .i64 0, .slice none 0 0, .bool false, .bool false, .int .i64 0]) (t := 82) ?hr ?_; (case hd => rfl); (case hg => rfl); (case hr => first | (go_simp; done) | (go_simp; rfl))
         intro gb260 hg w84 hbox hb
         have BK260 := A_ (hbox)
         have GW260 := A_ (ge_ hg (bG_ GE259.out) : w.heap.size ≤ gb260)
         have GE260 := A_ (ge_ hg (bG_ GE259.out) : w.heap.size ≤ gb260)
         replace HB := A_ (below_step (bG_ GE259.out) hb)
         have NB259_260 := A_ (gm_ hg BK259.out)
         have NB260_259 := A_ (gn_ hg BK259.out)
         replace BK259 := A_ (bw_ BK259.out hb)
         clear hb hbox hg
         refine hK.out _ _ ⟨(be_ hw257_0), (be_ hw257_1), (be_ hw257_2), (be_ hw257_3), (be_ hw257_4), (be_ hw258_0), (be_ hw258_1), (be_ hw258_2), (be_ hw258_3), (be_ hw258_4)⟩ (fun hHeld => ?_)
         clear hK K
         refine no_ (some 7) ?_
         exact norm_ (by simp only [putAll, Act.put, List.setIfInBounds_toArray, List.set_cons_zero, List.set_cons_succ]) (hCont (gb259, gb260) _ ⟨hHeld, (vb_ BK259.out), (vb_ BK260.out), GW259.out, GE259.out, NB260_259.out, NB259_260.out, GW260.out, GE260.out, (by repeat (first | (with_reducible first | exact HB.out | apply below_alloc | apply pw_below_drewN | apply below_drew1 | refine below_set ?_ GE259.out | refine below_set ?_ GE260.out) | exact HB.out))⟩)
       · skip
         refine box_step ?hg (N := 7) ?hd (cs := #[.int .i64 0, .slice none 0 0, .bool false, .bool false, .int .i64 0]) (t := 82) ?hr ?_; (case hd => rfl); (case hg => rfl); (case hr => first | (go_simp; done) | (go_simp; rfl))
         intro gb260 hg w83 hbox hb
         have BK260 := A_ (hbox)
         have GW260 := A_ (ge_ hg bB_ : w.heap.size ≤ gb260)
         have GE260 := A_ (ge_ hg bB_ : w.heap.size ≤ gb260)
         replace HB := A_ (below_step bB_ hb)
         clear hb hbox hg
         refine hK.out _ _ ⟨(be_ hw257_0), (be_ hw257_1), (be_ hw257_2), (be_ hw257_3), (be_ hw257_4), (be_ hw258_0), (be_ hw258_1), (be_ hw258_2), (be_ hw258_3), (be_ hw258_4)⟩ (fun hHeld => ?_)
         clear hK K
         refine no_ (some 7) ?_
         refine on_ (i := 8) (N := some 6) (fun K hK => ?_)
         refine box_step ?hg (N := 6) ?hd (cs := #[.int .i64 0, .slice none 0 0, .bool false, .bool false, .int .i64 0]) (t := 82) ?hr ?_; (case hd => rfl); (case hg => rfl); (case hr => first | (go_simp; done) | (go_simp; rfl))
         intro gb259 hg w84 hbox hb
         have BK259 := A_ (hbox)
         have GW259 := A_ (ge_ hg (bG_ GE260.out) : w.heap.size ≤ gb259)
         have GE259 := A_ (ge_ hg (bG_ GE260.out) : w.heap.size ≤ gb259)
         replace HB := A_ (below_step (bG_ GE260.out) hb)
         have NB260_259 := A_ (gm_ hg BK260.out)
         have NB259_260 := A_ (gn_ hg BK260.out)
         replace BK260 := A_ (bw_ BK260.out hb)
         clear hb hbox hg
         refine hK.out _ _ ⟨(be_ hw257_0), (be_ hw257_1), (be_ hw257_2), (be_ hw257_3), (be_ hw257_4), (be_ hw258_0), (be_ hw258_1), (be_ hw258_2), (be_ hw258_3), (be_ hw258_4)⟩ (fun hHeld => ?_)
         clear hK K
         refine no_ (some 6) ?_
         exact norm_ (by simp only [putAll, Act.put, List.setIfInBounds_toArray, List.set_cons_zero, List.set_cons_succ]) (hCont (gb259, gb260) _ ⟨hHeld, (vb_ BK259.out), (vb_ BK260.out), GW259.out, GE259.out, NB260_259.out, NB259_260.out, GW260.out, GE260.out, (by repeat (first | (with_reducible first | exact HB.out | apply below_alloc | apply pw_below_drewN | apply below_drew1 | refine below_set ?_ GE260.out | refine below_set ?_ GE259.out) | exact HB.out))⟩)
     rintro ⟨gb259, gb260⟩ w85 ⟨hS_, h0_, h1_, h2_, h3_, h4_, h5_, h6_, h7_, h8_⟩
     have n0_ : Aside0 (w85.heap[gb259]? = some (.cells #[.int .i64 0, .slice none 0 0, .bool false, .bool false, .int .i64 0] 82 (0, 0))) := ⟨h0_⟩
     have n1_ : Aside0 (w85.heap[gb260]? = some (.cells #[.int .i64 0, .slice none 0 0, .bool false, .bool false, .int .i64 0] 82 (0, 0))) := ⟨h1_⟩
     have n2_ : Aside0 (w.heap.size ≤ gb259) := ⟨h2_⟩
     have n3_ : Aside0 (w.heap.size ≤ gb259) := ⟨h3_⟩
     have n4_ : Aside0 (gb260 ≠ gb259) := ⟨h4_⟩
     have n5_ : Aside0 (gb259 ≠ gb260) := ⟨h5_⟩
     have n6_ : Aside0 (w.heap.size ≤ gb260) := ⟨h6_⟩
     have n7_ : Aside0 (w.heap.size ≤ gb260) := ⟨h7_⟩
     have n8_ : Aside0 (Below w.heap.size w w85) := ⟨h8_⟩
     clear HB
     clear h0_ h1_ h2_ h3_ h4_ h5_ h6_ h7_ h8_
     have BK259 := n0_
     have BK260 := n1_
     have GW259 := n2_
     have GE259 := n3_
     have NB260_259 := n4_
     have NB259_260 := n5_
     have GW260 := n6_
     have GE260 := n7_
     have HB := n8_
     clear n0_ n1_ n2_ n3_ n4_ n5_ n6_ n7_ n8_
     have hHeld : w85.cell? (ad257.add ((x15_1).toNat * 5)) = some (.int .i64 ((rd_T82 l0 x15_1).f0)) ∧ w85.cell? ⟨(ad257.add ((x15_1).toNat * 5)).block, (ad257.add ((x15_1).toNat * 5)).off + 1, none⟩ = some (.slice A257_1 ((rd_T82 l0 x15_1).f1).length c257_1) ∧ w85.cell? ⟨(ad257.add ((x15_1).toNat * 5)).block, (ad257.add ((x15_1).toNat * 5)).off + 2, none⟩ = some (.bool ((rd_T82 l0 x15_1).f2)) ∧ w85.cell? ⟨(ad257.add ((x15_1).toNat * 5)).block, (ad257.add ((x15_1).toNat * 5)).off + 3, none⟩ = some (.bool ((rd_T82 l0 x15_1).f3)) ∧ w85.cell? ⟨(ad257.add ((x15_1).toNat * 5)).block, (ad257.add ((x15_1).toNat * 5)).off + 4, none⟩ = some (.int .i64 ((rd_T82 l0 x15_1).f4)) ∧ w85.cell? (ad258.add ((x15_1).toNat * 5)) = some (.int .i64 ((rd_T82 l1 x15_1).f0)) ∧ w85.cell? ⟨(ad258.add ((x15_1).toNat * 5)).block, (ad258.add ((x15_1).toNat * 5)).off + 1, none⟩ = some (.slice A258_1 ((rd_T82 l1 x15_1).f1).length c258_1) ∧ w85.cell? ⟨(ad258.add ((x15_1).toNat * 5)).block, (ad258.add ((x15_1).toNat * 5)).off + 2, none⟩ = some (.bool ((rd_T82 l1 x15_1).f2)) ∧ w85.cell? ⟨(ad258.add ((x15_1).toNat * 5)).block, (ad258.add ((x15_1).toNat * 5)).off + 3, none⟩ = some (.bool ((rd_T82 l1 x15_1).f3)) ∧ w85.cell? ⟨(ad258.add ((x15_1).toNat * 5)).block, (ad258.add ((x15_1).toNat * 5)).off + 4, none⟩ = some (.int .i64 ((rd_T82 l1 x15_1).f4)) := hS_
     refine norm_ (a' := ?_) ?_ ?_
     rotate_left
     · simp only [putAll, Act.put, List.setIfInBounds_toArray, List.set_cons_zero, List.set_cons_succ]
       rfl
     refine on_ (i := 10) (N := none) (fun K hK => ?_)
     have hs86 : w85.cell? ⟨gb259, 0, none⟩ = some (.int .i64 0) := bl_ BK259.out 0
     have hfs86 := blk_frozen BK259.out 0
     have hns86_1 := NB260_259.out
     have hms86_1 := NB259_260.out
     have hs87 : w85.cell? ⟨gb259, 1, none⟩ = some (.slice none 0 0) := bl_ BK259.out 1
     have hfs87 := blk_frozen BK259.out 1
     have hns87_1 := NB260_259.out
     have hms87_1 := NB259_260.out
     have hs88 : w85.cell? ⟨gb259, 2, none⟩ = some (.bool false) := bl_ BK259.out 2
     have hfs88 := blk_frozen BK259.out 2
     have hns88_1 := NB260_259.out
     have hms88_1 := NB259_260.out
     have hs89 : w85.cell? ⟨gb259, 3, none⟩ = some (.bool false) := bl_ BK259.out 3
     have hfs89 := blk_frozen BK259.out 3
     have hns89_1 := NB260_259.out
     have hms89_1 := NB259_260.out
     have hs90 : w85.cell? ⟨gb259, 4, none⟩ = some (.int .i64 0) := bl_ BK259.out 4
     have hfs90 := blk_frozen BK259.out 4
     have hns90_1 := NB260_259.out
     have hms90_1 := NB259_260.out
     refine skip_ (w1 := ?_) (by rfl) rfl ?_ ?_
     rotate_left
     · go_simp
       rfl
     refine hK.out _ _ ⟨((cf_ (p := ⟨gb259, _, none⟩) hw257_0 GW259.out).trans (((cf_ (p := ⟨gb259, _, none⟩) hw257_0 GW259.out).trans (((cf_ (p := ⟨gb259, _, none⟩) hw257_0 GW259.out).trans (((cf_ (p := ⟨gb259, _, none⟩) hw257_0 GW259.out).trans (((cf_ (p := ⟨gb259, _, none⟩) hw257_0 GW259.out).trans (hHeld.1)))))))))), ((cf_ (p := ⟨gb259, _, none⟩) hw257_1 GW259.out).trans (((cf_ (p := ⟨gb259, _, none⟩) hw257_1 GW259.out).trans (((cf_ (p := ⟨gb259, _, none⟩) hw257_1 GW259.out).trans (((cf_ (p := ⟨gb259, _, none⟩) hw257_1 GW259.out).trans (((cf_ (p := ⟨gb259, _, none⟩) hw257_1 GW259.out).trans (hHeld.2.1)))))))))), ((cf_ (p := ⟨gb259, _, none⟩) hw257_2 GW259.out).trans (((cf_ (p := ⟨gb259, _, none⟩) hw257_2 GW259.out).trans (((cf_ (p := ⟨gb259, _, none⟩) hw257_2 GW259.out).trans (((cf_ (p := ⟨gb259, _, none⟩) hw257_2 GW259.out).trans (((cf_ (p := ⟨gb259, _, none⟩) hw257_2 GW259.out).trans (hHeld.2.2.1)))))))))), ((cf_ (p := ⟨gb259, _, none⟩) hw257_3 GW259.out).trans (((cf_ (p := ⟨gb259, _, none⟩) hw257_3 GW259.out).trans (((cf_ (p := ⟨gb259, _, none⟩) hw257_3 GW259.out).trans (((cf_ (p := ⟨gb259, _, none⟩) hw257_3 GW259.out).trans (((cf_ (p := ⟨gb259, _, none⟩) hw257_3 GW259.out).trans (hHeld.2.2.2.1)))))))))), ((cf_ (p := ⟨gb259, _, none⟩) hw257_4 GW259.out).trans (((cf_ (p := ⟨gb259, _, none⟩) hw257_4 GW259.out).trans (((cf_ (p := ⟨gb259, _, none⟩) hw257_4 GW259.out).trans (((cf_ (p := ⟨gb259, _, none⟩) hw257_4 GW259.out).trans (((cf_ (p := ⟨gb259, _, none⟩) hw257_4 GW259.out).trans (hHeld.2.2.2.2.1)))))))))), ((cf_ (p := ⟨gb259, _, none⟩) hw258_0 GW259.out).trans (((cf_ (p := ⟨gb259, _, none⟩) hw258_0 GW259.out).trans (((cf_ (p := ⟨gb259, _, none⟩) hw258_0 GW259.out).trans (((cf_ (p := ⟨gb259, _, none⟩) hw258_0 GW259.out).trans (((cf_ (p := ⟨gb259, _, none⟩) hw258_0 GW259.out).trans (hHeld.2.2.2.2.2.1)))))))))), ((cf_ (p := ⟨gb259, _, none⟩) hw258_1 GW259.out).trans (((cf_ (p := ⟨gb259, _, none⟩) hw258_1 GW259.out).trans (((cf_ (p := ⟨gb259, _, none⟩) hw258_1 GW259.out).trans (((cf_ (p := ⟨gb259, _, none⟩) hw258_1 GW259.out).trans (((cf_ (p := ⟨gb259, _, none⟩) hw258_1 GW259.out).trans (hHeld.2.2.2.2.2.2.1)))))))))), ((cf_ (p := ⟨gb259, _, none⟩) hw258_2 GW259.out).trans (((cf_ (p := ⟨gb259, _, none⟩) hw258_2 GW259.out).trans (((cf_ (p := ⟨gb259, _, none⟩) hw258_2 GW259.out).trans (((cf_ (p := ⟨gb259, _, none⟩) hw258_2 GW259.out).trans (((cf_ (p := ⟨gb259, _, none⟩) hw258_2 GW259.out).trans (hHeld.2.2.2.2.2.2.2.1)))))))))), ((cf_ (p := ⟨gb259, _, none⟩) hw258_3 GW259.out).trans (((cf_ (p := ⟨gb259, _, none⟩) hw258_3 GW259.out).trans (((cf_ (p := ⟨gb259, _, none⟩) hw258_3 GW259.out).trans (((cf_ (p := ⟨gb259, _, none⟩) hw258_3 GW259.out).trans (((cf_ (p := ⟨gb259, _, none⟩) hw258_3 GW259.out).trans (hHeld.2.2.2.2.2.2.2.2.1)))))))))), ((cf_ (p := ⟨gb259, _, none⟩) hw258_4 GW259.out).trans (((cf_ (p := ⟨gb259, _, none⟩) hw258_4 GW259.out).trans (((cf_ (p := ⟨gb259, _, none⟩) hw258_4 GW259.out).trans (((cf_ (p := ⟨gb259, _, none⟩) hw258_4 GW259.out).trans (((cf_ (p := ⟨gb259, _, none⟩) hw258_4 GW259.out).trans (hHeld.2.2.2.2.2.2.2.2.2))))))))))⟩ (fun hHeld => ?_)
     clear hK K
     refine on_ (i := 11) (N := none) (fun K hK => ?_)
     have hs91 : w85.cell? ⟨gb260, 0, none⟩ = some (.int .i64 0) := bl_ BK260.out 0
     have hfs91 := blk_frozen BK260.out 0
     have hns91_0 := NB259_260.out
     have hms91_0 := NB260_259.out
     have hs92 : w85.cell? ⟨gb260, 1, none⟩ = some (.slice none 0 0) := bl_ BK260.out 1
     have hfs92 := blk_frozen BK260.out 1
     have hns92_0 := NB259_260.out
     have hms92_0 := NB260_259.out
     have hs93 : w85.cell? ⟨gb260, 2, none⟩ = some (.bool false) := bl_ BK260.out 2
     have hfs93 := blk_frozen BK260.out 2
     have hns93_0 := NB259_260.out
     have hms93_0 := NB260_259.out
     have hs94 : w85.cell? ⟨gb260, 3, none⟩ = some (.bool false) := bl_ BK260.out 3
     have hfs94 := blk_frozen BK260.out 3
     have hns94_0 := NB259_260.out
     have hms94_0 := NB260_259.out
     have hs95 : w85.cell? ⟨gb260, 4, none⟩ = some (.int .i64 0) := bl_ BK260.out 4
     have hfs95 := blk_frozen BK260.out 4
     have hns95_0 := NB259_260.out
     have hms95_0 := NB260_259.out
     refine skip_ (w1 := ?_) (by rfl) rfl ?_ ?_
     rotate_left
     · go_simp
       rfl
     refine hK.out _ _ ⟨((cf_ (p := ⟨gb260, _, none⟩) hw257_0 GW260.out).trans (((cf_ (p := ⟨gb260, _, none⟩) hw257_0 GW260.out).trans (((cf_ (p := ⟨gb260, _, none⟩) hw257_0 GW260.out).trans (((cf_ (p := ⟨gb260, _, none⟩) hw257_0 GW260.out).trans (((cf_ (p := ⟨gb260, _, none⟩) hw257_0 GW260.out).trans (hHeld.1)))))))))), ((cf_ (p := ⟨gb260, _, none⟩) hw257_1 GW260.out).trans (((cf_ (p := ⟨gb260, _, none⟩) hw257_1 GW260.out).trans (((cf_ (p := ⟨gb260, _, none⟩) hw257_1 GW260.out).trans (((cf_ (p := ⟨gb260, _, none⟩) hw257_1 GW260.out).trans (((cf_ (p := ⟨gb260, _, none⟩) hw257_1 GW260.out).trans (hHeld.2.1)))))))))), ((cf_ (p := ⟨gb260, _, none⟩) hw257_2 GW260.out).trans (((cf_ (p := ⟨gb260, _, none⟩) hw257_2 GW260.out).trans (((cf_ (p := ⟨gb260, _, none⟩) hw257_2 GW260.out).trans (((cf_ (p := ⟨gb260, _, none⟩) hw257_2 GW260.out).trans (((cf_ (p := ⟨gb260, _, none⟩) hw257_2 GW260.out).trans (hHeld.2.2.1)))))))))), ((cf_ (p := ⟨gb260, _, none⟩) hw257_3 GW260.out).trans (((cf_ (p := ⟨gb260, _, none⟩) hw257_3 GW260.out).trans (((cf_ (p := ⟨gb260, _, none⟩) hw257_3 GW260.out).trans (((cf_ (p := ⟨gb260, _, none⟩) hw257_3 GW260.out).trans (((cf_ (p := ⟨gb260, _, none⟩) hw257_3 GW260.out).trans (hHeld.2.2.2.1)))))))))), ((cf_ (p := ⟨gb260, _, none⟩) hw257_4 GW260.out).trans (((cf_ (p := ⟨gb260, _, none⟩) hw257_4 GW260.out).trans (((cf_ (p := ⟨gb260, _, none⟩) hw257_4 GW260.out).trans (((cf_ (p := ⟨gb260, _, none⟩) hw257_4 GW260.out).trans (((cf_ (p := ⟨gb260, _, none⟩) hw257_4 GW260.out).trans (hHeld.2.2.2.2.1)))))))))), ((cf_ (p := ⟨gb260, _, none⟩) hw258_0 GW260.out).trans (((cf_ (p := ⟨gb260, _, none⟩) hw258_0 GW260.out).trans (((cf_ (p := ⟨gb260, _, none⟩) hw258_0 GW260.out).trans (((cf_ (p := ⟨gb260, _, none⟩) hw258_0 GW260.out).trans (((cf_ (p := ⟨gb260, _, none⟩) hw258_0 GW260.out).trans (hHeld.2.2.2.2.2.1)))))))))), ((cf_ (p := ⟨gb260, _, none⟩) hw258_1 GW260.out).trans (((cf_ (p := ⟨gb260, _, none⟩) hw258_1 GW260.out).trans (((cf_ (p := ⟨gb260, _, none⟩) hw258_1 GW260.out).trans (((cf_ (p := ⟨gb260, _, none⟩) hw258_1 GW260.out).trans (((cf_ (p := ⟨gb260, _, none⟩) hw258_1 GW260.out).trans (hHeld.2.2.2.2.2.2.1)))))))))), ((cf_ (p := ⟨gb260, _, none⟩) hw258_2 GW260.out).trans (((cf_ (p := ⟨gb260, _, none⟩) hw258_2 GW260.out).trans (((cf_ (p := ⟨gb260, _, none⟩) hw258_2 GW260.out).trans (((cf_ (p := ⟨gb260, _, none⟩) hw258_2 GW260.out).trans (((cf_ (p := ⟨gb260, _, none⟩) hw258_2 GW260.out).trans (hHeld.2.2.2.2.2.2.2.1)))))))))), ((cf_ (p := ⟨gb260, _, none⟩) hw258_3 GW260.out).trans (((cf_ (p := ⟨gb260, _, none⟩) hw258_3 GW260.out).trans (((cf_ (p := ⟨gb260, _, none⟩) hw258_3 GW260.out).trans (((cf_ (p := ⟨gb260, _, none⟩) hw258_3 GW260.out).trans (((cf_ (p := ⟨gb260, _, none⟩) hw258_3 GW260.out).trans (hHeld.2.2.2.2.2.2.2.2.1)))))))))), ((cf_ (p := ⟨gb260, _, none⟩) hw258_4 GW260.out).trans (((cf_ (p := ⟨gb260, _, none⟩) hw258_4 GW260.out).trans (((cf_ (p := ⟨gb260, _, none⟩) hw258_4 GW260.out).trans (((cf_ (p := ⟨gb260, _, none⟩) hw258_4 GW260.out).trans (((cf_ (p := ⟨gb260, _, none⟩) hw258_4 GW260.out).trans (hHeld.2.2.2.2.2.2.2.2.2))))))))))⟩ (fun hHeld => ?_)
     clear hK K
     refine done_ (done_of HT_.out (by kernel_rfl)) ?_
     (try clear hHeld)
     have hnb96 := NB259_260.out
     have hnc96 := NB260_259.out
     obtain ⟨hcz97_0, hcz97_1, hcz97_2, hcz97_3, hcz97_4, hfz97_0, hfz97_1, hfz97_2, hfz97_3, hfz97_4⟩ := cz5_ BK259.out
     obtain ⟨hcz98_0, hcz98_1, hcz98_2, hcz98_3, hcz98_4, hfz98_0, hfz98_1, hfz98_2, hfz98_3, hfz98_4⟩ := cz5_ BK260.out
     try go_wp2_with (first | (go_at_call 72; (with_reducible refine (impl_SamePath.calls k1 _ _ ((rd_T82 l0 x15_1).f1) _ _ ((rd_T82 l1 x15_1).f1) false _ ?s1 ?s2 ?s3 ?s4 A9.out).mono ?_); (case s1 => exact Kd.C_below HR257_1.out (by repeat (first | (with_reducible first | exact HB.out | apply below_alloc | apply pw_below_drewN | apply below_drew1 | refine below_set ?_ GE259.out | refine below_set ?_ GE260.out) | exact HB.out))); (case s2 => exact HC257_1.out); (case s3 => exact Kd.C_below HR258_1.out (by repeat (first | (with_reducible first | exact HB.out | apply below_alloc | apply pw_below_drewN | apply below_drew1 | refine below_set ?_ GE259.out | refine below_set ?_ GE260.out) | exact HB.out))); (case s4 => exact HC258_1.out); rintro e w' ⟨rfl, ⟨nd, rfl⟩⟩))
     go_ret
     exact ⟨rr_, by repeat (first | (with_reducible first | exact HB.out | apply below_alloc | apply pw_below_drewN | apply below_drew1 | refine below_set ?_ GE259.out | refine below_set ?_ GE260.out) | exact HB.out)⟩
end Go.Proofs.Ytigoeooelfeopaa.Q
