import Derived.Test.YtbgggcgjijljkaaVFnCopiedG24
namespace Go.Proofs.Ytbgggcgjijljkaa.Q
open Go.RowKit Go.Proofs.YtbgggcgjijljkaaW.PrintWords Go.Proofs.YtbgggcgjijljkaaW.PrintLast Go.Proofs.YtbgggcgjijljkaaW.PrintMore
attribute [local go_sem] max2_int min2_int max_two min_two max_three min_three max_four min_four
set_option linter.unusedVariables false
set_option linter.unusedSimpArgs false
def impl_TreeOk.l0 : Nat -> List (S57) -> List (S57) -> Int -> Int -> Option (Bool)
 | 0, _, _, _, _ => none
 | k + 1, x0, x5, x6, x7 => if x7 < x6 then (if 0 <= x7 then (if x7 < (x5.length : Int) then ((impl_resOk.f k ((rd_T57 x5 x7).f0) ((rd_T57 x5 x7).f1) ((rd_T57 x5 x7).f2) ((rd_T57 x5 x7).f3) ((rd_T57 x5 x7).f4)).bind fun t317 => (if t317 = true then (if x7 > 0 then (if 0 <= (wrap64 (x7 - 1)) then (if (wrap64 (x7 - 1)) < (x0.length : Int) then ((impl_LessPath.f k ((rd_T57 x0 (wrap64 (x7 - 1))).f0) ((rd_T57 x5 x7).f0)).bind fun t319 => (if t319 = true then ((impl_Above.f ((rd_T57 x5 x7).f0)).bind fun t320 => ((impl_IsColl.f k x0 t320).bind fun t323 => (if t323 = true then (impl_TreeOk.l0 k x0 x5 x6 (wrap64 (x7 + 1))) else (some false)))) else (some false))) else (none)) else (none)) else ((impl_Above.f ((rd_T57 x5 x7).f0)).bind fun t324 => ((impl_IsColl.f k x0 t324).bind fun t327 => (if t327 = true then (impl_TreeOk.l0 k x0 x5 x6 (wrap64 (x7 + 1))) else (some false))))) else (some false))) else (none)) else (none)) else (some (decide ((x0.length : Int) <= 12)))
def impl_TreeOk.f (k : Nat) (l0 : List (S57)) : Option (Bool) := impl_TreeOk.l0 k l0 l0 (l0.length : Int) 0
def impl_TreeOk.T4 : Bool × List (List Nat × List Nat) := (true, [([], []), ([0], [0]), ([1], [1]), ([2, 1], [2]), ([3], [3]), ([4, 3], [3, 4]), ([5, 3, 3], [3, 5]), ([6], [6]), ([6], [6]), ([8, 6], [6, 8]), ([7, 9, 6], [6, 7, 9]), ([10, 6], [6, 10]), ([11, 6], [6, 11]), ([6], [6]), ([13, 6], [6, 13]), ([12, 14, 6, 6], [6, 12, 14]), ([15, 6], [6, 15]), ([6, 16, 3], [3, 6, 16]), ([3, 17], [3, 17]), ([18, 15], [18]), ([19], [19]), ([19], [19]), ([21, 19], [19, 21]), ([22, 19, 19], [19, 22]), ([20, 23, 23, 19], [19, 20, 23]), ([24, 19], [19, 24]), ([19, 25], [19, 25])])
def impl_TreeOk.B4 : List Nat := [0, 1, 3, 7, 15, 31, 63, 127, 127, 383, 1023, 2047, 4095, 127, 8319, 32767, 65535, 131071, 262143, 524287, 1048575, 1048575, 3145727, 7340031, 16777215, 33554431, 67108863]
theorem impl_TreeOk.tab4 : rtab .any (opsOf Try.f40 4) = impl_TreeOk.T4 := by kernel_rfl
theorem impl_TreeOk.bits4 : waitsOk impl_TreeOk.T4.2 impl_TreeOk.B4 = true := by kernel_rfl
set_option maxHeartbeats 8000000 in
set_option maxRecDepth 100000 in
theorem impl_TreeOk.calls (k : Nat) (A0 : Option Addr) (c0 : Nat) (l0 : List (S57)) (r : Bool) (w : World) (hr0 : Kd.C k57 w A0 l0.length l0) (hc0 : l0.length <= c0) (h : impl_TreeOk.f k l0 = some r) :
 Calls Try.prog 40 #[.slice A0 l0.length c0] w fun e w' => e = .returned (.bool r) /\ Below w.heap.size w w' := by
 have hu57 := Try.underlying57
 have HR0 := A_ hr0
 have HC0 := A_ hc0
 clear hr0 hc0
 have HB := A_ (Below.refl w.heap.size w)
 have H : (impl_TreeOk.l0 k l0 l0 (l0.length : Int) 0) = some r := h
 clear h
 have H' := A_ H
 clear H
 go_enter Try.func40, Try.ntmps40
 go_wp2
 go_loopg [7] k (fun kq v7 w' => ∃ (x7_1 : Int), v7 = .int .i64 x7_1 /\ Aside0 (impl_TreeOk.l0 kq l0 l0 (l0.length : Int) x7_1 = some r) /\ Aside0 (kq <= k) /\ Aside0 (Below w.heap.size w w'))
 case atStart => exact ⟨(0), rs_, H', ⟨Nat.le_refl _⟩, ⟨bB_⟩⟩
 case round =>
  clear H'
  obtain ⟨x7_1, rfl, HA, HK1, HB⟩ := hrel
  cases gk with
  | zero => exact absurd HA.out (by simp [impl_TreeOk.l0])
  | succ k1 =>
   have H := HA.out
   clear HA
   simp only [impl_TreeOk.l0] at H
   by_cases c2 : x7_1 < (l0.length : Int)
   rotate_left
   . rw [if_neg c2] at H
     have c2b0 := decide_eq_false c2
     clear c2
     obtain rfl := si_ H
     go_wp2
     go_ret
     exact ⟨rr_, bB_⟩
   rw [if_pos c2] at H
   have c2b0 := decide_eq_true c2
   clear c2
   by_cases c3 : 0 <= x7_1
   rotate_left
   . exact absurd H (by rw [if_neg c3]; simp)
   rw [if_pos c3] at H
   have c3b0 := decide_eq_true c3
   clear c3
   by_cases c4 : x7_1 < (l0.length : Int)
   rotate_left
   . exact absurd H (by rw [if_neg c4]; simp)
   rw [if_pos c4] at H
   have c4b0 := decide_eq_true c4
   clear c4
   obtain ⟨t71, A5, H⟩ := bo_ H
   (try dsimp only at H)
   by_cases c6 : t71 = true
   . subst c6
     rw [if_pos rfl] at H
     by_cases c7 : x7_1 > 0
     rotate_left
     . rw [if_neg c7] at H
       have c7b0 : decide (0 < x7_1) = false := decide_eq_false c7
       clear c7
       obtain ⟨t68, A37, H⟩ := bo_ H
       (try dsimp only at H)
       obtain ⟨t72, A38, H⟩ := bo_ H
       (try dsimp only at H)
       by_cases c39 : t72 = true
       . subst c39
         rw [if_pos rfl] at H
         have H' := A_ H
         clear H
         have p61 : 0 <= (x7_1 : Int) := od_
         have q61 : x7_1 < (l0.length : Int) := od_
         obtain ⟨ad61, A61_0, c61_0, A61_4, c61_4, e61, hx61_0, hx61_1, hx61_2, hx61_3, hx61_4, hl61_0, hi61_0, hl61_4, hi61_4⟩ := at_T57 HR0.out x7_1 p61 q61
         cases e61
         replace hx61_0 := bc_ HB.out hx61_0
         replace hx61_1 := bc_ HB.out hx61_1
         replace hx61_2 := bc_ HB.out hx61_2
         replace hx61_3 := bc_ HB.out hx61_3
         replace hx61_4 := bc_ HB.out hx61_4
         have HR61_0 := A_ hi61_0
         have HC61_0 := A_ hl61_0
         clear hi61_0 hl61_0
         have HR61_4 := A_ hi61_4
         have HC61_4 := A_ hl61_4
         clear hi61_4 hl61_4
         replace p61 := eq_true p61
         replace q61 := eq_true q61
         try go_wp2_with (first | ((with_reducible refine gd_ (N := 4) rfl ?_); refine bx_ (N := 4) (cs := #[.slice none 0 0, .bool false, .string (⟨#[]⟩ : ByteArray), .int .i64 0, .slice none 0 0]) (t := 57) ?_; intro gb62 hg w40 hbox hb; have BK62 := A_ (hbox); have GW62 := A_ (ge_ hg bB_ : w.heap.size <= gb62); have GE62 := A_ (ge_ hg bB_ : w.heap.size <= gb62); replace HB := A_ (below_step bB_ hb); clear hb hbox hg; obtain ⟨hcz41_0, hcz41_1, hcz41_2, hcz41_3, hcz41_4, hfz41_0, hfz41_1, hfz41_2, hfz41_3, hfz41_4⟩ := cz5_ BK62.out))
         obtain ⟨w42, hW_⟩ : ∃ w_, w_ = (((((w40.setCell ⟨gb62, 0, none⟩ (.slice A61_0 ((rd_T57 l0 x7_1).f0).length c61_0)).setCell ⟨gb62, 1, none⟩ (.bool ((rd_T57 l0 x7_1).f1))).setCell ⟨gb62, 2, none⟩ (.string ((rd_T57 l0 x7_1).f2))).setCell ⟨gb62, 3, none⟩ (.int .i64 ((rd_T57 l0 x7_1).f3))).setCell ⟨gb62, 4, none⟩ (.slice A61_4 ((rd_T57 l0 x7_1).f4).length c61_4)) := ⟨_, rfl⟩
         have n0_ : Aside0 (w42.heap[gb62]? = some (.cells #[.slice A61_0 ((rd_T57 l0 x7_1).f0).length c61_0, .bool ((rd_T57 l0 x7_1).f1), .string ((rd_T57 l0 x7_1).f2), .int .i64 ((rd_T57 l0 x7_1).f3), .slice A61_4 ((rd_T57 l0 x7_1).f4).length c61_4] 57 (0, 0))) := ⟨by rw [hW_]; (with_reducible repeat (first | refine blk_drewN ?_ _ | refine blk_drew ?_ | refine blk_alloc ?_ _)); with_reducible exact p5_01234_ (vb_ BK62.out)⟩
         have n1_ : Aside0 (Below w.heap.size w w42) := ⟨by rw [hW_]; exact bG_ GE62.out⟩
         (try clear BK62)
         (try clear HB)
         rw [← hW_]
         clear hW_
         have BK62 := n0_
         have HB := n1_
         clear n0_ n1_
         replace BK62 := A_ (blk_drew BK62.out)
         replace HB := A_ (below_drew1 HB.out)
         refine st5_ (n := 27) (ds := []) (bl_ BK62.out 0) (bl_ BK62.out 1) (bl_ BK62.out 2) (bl_ BK62.out 3) (bl_ BK62.out 4) (fun hHeld => ?_); refine with_tabW impl_TreeOk.tab4 impl_TreeOk.bits4 (fun HT_ HW_ => ?_)
         generalize w42.drew = w43 at BK62 HB hHeld ⊢
         refine tk_ (i := 0) (N := some 12) hHeld ?_
         refine on_ (i := 1) (N := some 13) (fun K hK => ?_)
         refine goes_ Try.func87 (by kernel_rfl) rfl #[.agg #[.slice A61_0 ((rd_T57 l0 x7_1).f0).length c61_0, .bool ((rd_T57 l0 x7_1).f1), .string ((rd_T57 l0 x7_1).f2), .int .i64 ((rd_T57 l0 x7_1).f3), .slice A61_4 ((rd_T57 l0 x7_1).f4).length c61_4]] (by rfl) rfl rfl ml_ ?_
         with_reducible refine (impl_resOk.calls k1 _ _ ((rd_T57 l0 x7_1).f0) ((rd_T57 l0 x7_1).f1) ((rd_T57 l0 x7_1).f2) ((rd_T57 l0 x7_1).f3) _ _ ((rd_T57 l0 x7_1).f4) true _ ?s1 ?s2 ?s3 ?s4 A5.out).mono ?_
         (case s1 => exact cC_ (Kd.C_below HR61_0.out HB.out))
         (case s2 => exact HC61_0.out)
         (case s3 => exact cC_ (Kd.C_below HR61_4.out HB.out))
         (case s4 => exact HC61_4.out)
         rintro e w44 ⟨rfl, hb⟩
         refine ⟨_, rfl, ?_⟩
         replace BK62 := A_ (bw_ BK62.out hb)
         replace HB := A_ (below_step (bG_ GE62.out) hb)
         clear hb
         refine hK.out _ _ (hl_ BK62.out) (fun hHeld => ?_)
         clear hK K
         refine no_ (some 13) ?_
         refine pu_ (i := 2) (N := some 14) ?_
         refine pu_ (i := 3) (N := some 15) ?_
         refine pu_ (i := 4) (N := some 16) ?_
         refine pu_ (i := 5) (N := some 17) ?_
         refine pu_ (i := 6) (N := some 18) ?_
         refine pn_ (i := 7) (N := some 19) ?_
         refine pn_ (i := 8) (N := some 20) ?_
         refine pn_ (i := 9) (N := some 21) ?_
         refine pn_ (i := 10) (N := some 22) ?_
         refine pn_ (i := 11) (N := some 23) ?_
         refine pn_ (i := 12) (N := some 24) ?_
         refine pn_ (i := 13) (N := some 25) ?_
         refine pn_ (i := 14) (N := some 26) ?_
         refine pn_ (i := 15) (N := some 27) ?_
         refine pn_ (i := 16) (N := some 28) ?_
         refine pu_ (i := 17) (N := some 29) ?_
         refine pu_ (i := 18) (N := some 30) ?_
         refine pu_ (i := 19) (N := some 31) ?_
         refine pu_ (i := 20) (N := some 32) ?_
         refine pu_ (i := 21) (N := some 33) ?_
         refine tk_ (i := 22) (N := some 34) hHeld ?_
         refine on_ (i := 23) (N := some 35) (fun K hK => ?_)
         refine goes_ Try.func44 (by kernel_rfl) rfl #[.slice A61_0 ((rd_T57 l0 x7_1).f0).length c61_0] (by rfl) rfl rfl ml_ ?_
         with_reducible refine (impl_Above.calls _ _ ((rd_T57 l0 x7_1).f0) t68 _ ?s1 ?s2 A37.out).mono ?_
         (case s1 => exact cC_ (Kd.C_below HR61_0.out HB.out))
         (case s2 => exact HC61_0.out)
         rintro e w45 ⟨v73, rfl, ho0, hb⟩
         refine ⟨_, rfl, ?_⟩
         have HO66 := A_ (Kd.R_lower ho0 (below_size (bG_ GE62.out)))
         replace BK62 := A_ (bw_ BK62.out hb)
         replace HB := A_ (below_step (bG_ GE62.out) hb)
         clear hb ho0
         obtain ⟨Ao46, co46, eo46⟩ := Kd.R_slice HO66.out
         (first | subst eo46 | (injection eo46 with f1_ f2_ f3_; have f4_ := f1_.symm; have f5_ := f3_.symm; clear f1_ f2_ f3_; subst f4_; subst f5_))
         refine hK.out _ _ (hl_ BK62.out) (fun hHeld => ?_)
         clear hK K
         refine no_ (some 35) ?_
         refine on_ (i := 24) (N := some 36) (fun K hK => ?_)
         refine goes_ Try.func43 (by kernel_rfl) rfl #[.slice (some ad61) l0.length c0, .slice Ao46 t68.length co46] (by rfl) rfl rfl ml_ ?_
         with_reducible refine (impl_IsColl.calls k1 _ _ l0 _ _ t68 true _ ?s1 ?s2 ?s3 ?s4 A38.out).mono ?_
         (case s1 => exact cC_ (Kd.C_below HR0.out HB.out))
         (case s2 => exact HC0.out)
         (case s3 => exact cC_ (Kd.R_reads' HO66.out).2.2)
         (case s4 => exact (Kd.R_reads' HO66.out).2.1)
         rintro e w47 ⟨rfl, hb⟩
         refine ⟨_, rfl, ?_⟩
         replace BK62 := A_ (bw_ BK62.out hb)
         replace HB := A_ (below_step (bG_ GE62.out) hb)
         clear hb
         refine hK.out _ _ (hl_ BK62.out) (fun hHeld => ?_)
         clear hK K
         refine no_ (some 36) ?_
         refine pu_ (i := 25) (N := some 37) ?_
         refine pu_ (i := 26) (N := some 38) ?_
         refine done_ (done_of HT_.out (by kernel_rfl)) ?_
         (try clear hHeld)
         try go_wp2
         go_roundg k1
         case measure => have := HK1.out; omega
         case rel => exact ⟨(wrap64 (x7_1 + 1)), rs_, H', ⟨by have := HK1.out; omega⟩, ⟨bG_ GE62.out⟩⟩
       . replace c39 := Bool.eq_false_iff.mpr c39
         subst c39
         rw [if_neg nf_] at H
         obtain rfl := si_ H
         have p61 : 0 <= (x7_1 : Int) := od_
         have q61 : x7_1 < (l0.length : Int) := od_
         obtain ⟨ad61, A61_0, c61_0, A61_4, c61_4, e61, hx61_0, hx61_1, hx61_2, hx61_3, hx61_4, hl61_0, hi61_0, hl61_4, hi61_4⟩ := at_T57 HR0.out x7_1 p61 q61
         cases e61
         replace hx61_0 := bc_ HB.out hx61_0
         replace hx61_1 := bc_ HB.out hx61_1
         replace hx61_2 := bc_ HB.out hx61_2
         replace hx61_3 := bc_ HB.out hx61_3
         replace hx61_4 := bc_ HB.out hx61_4
         have HR61_0 := A_ hi61_0
         have HC61_0 := A_ hl61_0
         clear hi61_0 hl61_0
         have HR61_4 := A_ hi61_4
         have HC61_4 := A_ hl61_4
         clear hi61_4 hl61_4
         replace p61 := eq_true p61
         replace q61 := eq_true q61
         try go_wp2_with (first | ((with_reducible refine gd_ (N := 4) rfl ?_); refine bx_ (N := 4) (cs := #[.slice none 0 0, .bool false, .string (⟨#[]⟩ : ByteArray), .int .i64 0, .slice none 0 0]) (t := 57) ?_; intro gb62 hg w48 hbox hb; have BK62 := A_ (hbox); have GW62 := A_ (ge_ hg bB_ : w.heap.size <= gb62); have GE62 := A_ (ge_ hg bB_ : w.heap.size <= gb62); replace HB := A_ (below_step bB_ hb); clear hb hbox hg; obtain ⟨hcz49_0, hcz49_1, hcz49_2, hcz49_3, hcz49_4, hfz49_0, hfz49_1, hfz49_2, hfz49_3, hfz49_4⟩ := cz5_ BK62.out))
         obtain ⟨w50, hW_⟩ : ∃ w_, w_ = (((((w48.setCell ⟨gb62, 0, none⟩ (.slice A61_0 ((rd_T57 l0 x7_1).f0).length c61_0)).setCell ⟨gb62, 1, none⟩ (.bool ((rd_T57 l0 x7_1).f1))).setCell ⟨gb62, 2, none⟩ (.string ((rd_T57 l0 x7_1).f2))).setCell ⟨gb62, 3, none⟩ (.int .i64 ((rd_T57 l0 x7_1).f3))).setCell ⟨gb62, 4, none⟩ (.slice A61_4 ((rd_T57 l0 x7_1).f4).length c61_4)) := ⟨_, rfl⟩
         have n0_ : Aside0 (w50.heap[gb62]? = some (.cells #[.slice A61_0 ((rd_T57 l0 x7_1).f0).length c61_0, .bool ((rd_T57 l0 x7_1).f1), .string ((rd_T57 l0 x7_1).f2), .int .i64 ((rd_T57 l0 x7_1).f3), .slice A61_4 ((rd_T57 l0 x7_1).f4).length c61_4] 57 (0, 0))) := ⟨by rw [hW_]; (with_reducible repeat (first | refine blk_drewN ?_ _ | refine blk_drew ?_ | refine blk_alloc ?_ _)); with_reducible exact p5_01234_ (vb_ BK62.out)⟩
         have n1_ : Aside0 (Below w.heap.size w w50) := ⟨by rw [hW_]; exact bG_ GE62.out⟩
         (try clear BK62)
         (try clear HB)
         rw [← hW_]
         clear hW_
         have BK62 := n0_
         have HB := n1_
         clear n0_ n1_
         replace BK62 := A_ (blk_drew BK62.out)
         replace HB := A_ (below_drew1 HB.out)
         refine st5_ (n := 27) (ds := []) (bl_ BK62.out 0) (bl_ BK62.out 1) (bl_ BK62.out 2) (bl_ BK62.out 3) (bl_ BK62.out 4) (fun hHeld => ?_); refine with_tabW impl_TreeOk.tab4 impl_TreeOk.bits4 (fun HT_ HW_ => ?_)
         generalize w50.drew = w51 at BK62 HB hHeld ⊢
         refine tk_ (i := 0) (N := some 12) hHeld ?_
         refine on_ (i := 1) (N := some 13) (fun K hK => ?_)
         refine goes_ Try.func87 (by kernel_rfl) rfl #[.agg #[.slice A61_0 ((rd_T57 l0 x7_1).f0).length c61_0, .bool ((rd_T57 l0 x7_1).f1), .string ((rd_T57 l0 x7_1).f2), .int .i64 ((rd_T57 l0 x7_1).f3), .slice A61_4 ((rd_T57 l0 x7_1).f4).length c61_4]] (by rfl) rfl rfl ml_ ?_
         with_reducible refine (impl_resOk.calls k1 _ _ ((rd_T57 l0 x7_1).f0) ((rd_T57 l0 x7_1).f1) ((rd_T57 l0 x7_1).f2) ((rd_T57 l0 x7_1).f3) _ _ ((rd_T57 l0 x7_1).f4) true _ ?s1 ?s2 ?s3 ?s4 A5.out).mono ?_
         (case s1 => exact cC_ (Kd.C_below HR61_0.out HB.out))
         (case s2 => exact HC61_0.out)
         (case s3 => exact cC_ (Kd.C_below HR61_4.out HB.out))
         (case s4 => exact HC61_4.out)
         rintro e w52 ⟨rfl, hb⟩
         refine ⟨_, rfl, ?_⟩
         replace BK62 := A_ (bw_ BK62.out hb)
         replace HB := A_ (below_step (bG_ GE62.out) hb)
         clear hb
         refine hK.out _ _ (hl_ BK62.out) (fun hHeld => ?_)
         clear hK K
         refine no_ (some 13) ?_
         refine pu_ (i := 2) (N := some 14) ?_
         refine pu_ (i := 3) (N := some 15) ?_
         refine pu_ (i := 4) (N := some 16) ?_
         refine pu_ (i := 5) (N := some 17) ?_
         refine pu_ (i := 6) (N := some 18) ?_
         refine pn_ (i := 7) (N := some 19) ?_
         refine pn_ (i := 8) (N := some 20) ?_
         refine pn_ (i := 9) (N := some 21) ?_
         refine pn_ (i := 10) (N := some 22) ?_
         refine pn_ (i := 11) (N := some 23) ?_
         refine pn_ (i := 12) (N := some 24) ?_
         refine pn_ (i := 13) (N := some 25) ?_
         refine pn_ (i := 14) (N := some 26) ?_
         refine pn_ (i := 15) (N := some 27) ?_
         refine pn_ (i := 16) (N := some 28) ?_
         refine pu_ (i := 17) (N := some 29) ?_
         refine pu_ (i := 18) (N := some 30) ?_
         refine pu_ (i := 19) (N := some 31) ?_
         refine pu_ (i := 20) (N := some 32) ?_
         refine pu_ (i := 21) (N := some 33) ?_
         refine tk_ (i := 22) (N := some 34) hHeld ?_
         refine on_ (i := 23) (N := some 35) (fun K hK => ?_)
         refine goes_ Try.func44 (by kernel_rfl) rfl #[.slice A61_0 ((rd_T57 l0 x7_1).f0).length c61_0] (by rfl) rfl rfl ml_ ?_
         with_reducible refine (impl_Above.calls _ _ ((rd_T57 l0 x7_1).f0) t68 _ ?s1 ?s2 A37.out).mono ?_
         (case s1 => exact cC_ (Kd.C_below HR61_0.out HB.out))
         (case s2 => exact HC61_0.out)
         rintro e w53 ⟨v73, rfl, ho0, hb⟩
         refine ⟨_, rfl, ?_⟩
         have HO66 := A_ (Kd.R_lower ho0 (below_size (bG_ GE62.out)))
         replace BK62 := A_ (bw_ BK62.out hb)
         replace HB := A_ (below_step (bG_ GE62.out) hb)
         clear hb ho0
         obtain ⟨Ao54, co54, eo54⟩ := Kd.R_slice HO66.out
         (first | subst eo54 | (injection eo54 with f1_ f2_ f3_; have f4_ := f1_.symm; have f5_ := f3_.symm; clear f1_ f2_ f3_; subst f4_; subst f5_))
         refine hK.out _ _ (hl_ BK62.out) (fun hHeld => ?_)
         clear hK K
         refine no_ (some 35) ?_
         refine on_ (i := 24) (N := some 36) (fun K hK => ?_)
         refine goes_ Try.func43 (by kernel_rfl) rfl #[.slice (some ad61) l0.length c0, .slice Ao54 t68.length co54] (by rfl) rfl rfl ml_ ?_
         with_reducible refine (impl_IsColl.calls k1 _ _ l0 _ _ t68 false _ ?s1 ?s2 ?s3 ?s4 A38.out).mono ?_
         (case s1 => exact cC_ (Kd.C_below HR0.out HB.out))
         (case s2 => exact HC0.out)
         (case s3 => exact cC_ (Kd.R_reads' HO66.out).2.2)
         (case s4 => exact (Kd.R_reads' HO66.out).2.1)
         rintro e w55 ⟨rfl, hb⟩
         refine ⟨_, rfl, ?_⟩
         replace BK62 := A_ (bw_ BK62.out hb)
         replace HB := A_ (below_step (bG_ GE62.out) hb)
         clear hb
         refine hK.out _ _ (hl_ BK62.out) (fun hHeld => ?_)
         clear hK K
         refine no_ (some 36) ?_
         refine pu_ (i := 25) (N := some 37) ?_
         refine pu_ (i := 26) (N := some 38) ?_
         refine done_ (done_of HT_.out (by kernel_rfl)) ?_
         (try clear hHeld)
         try go_wp2
         go_ret
         exact ⟨rr_, bG_ GE62.out⟩
     rw [if_pos c7] at H
     have c7b0 : decide (0 < x7_1) = true := decide_eq_true c7
     clear c7
     obtain ⟨ji8, hji8⟩ : ∃ j_ : Int, (wrap64 (x7_1 - 1)) = j_ := ⟨_, rfl⟩
     replace H : (if 0 <= (ji8) then (if (ji8) < (l0.length : Int) then ((impl_LessPath.f k1 ((rd_T57 l0 (ji8)).f0) ((rd_T57 l0 x7_1).f0)).bind fun t69 => (if t69 = true then ((impl_Above.f ((rd_T57 l0 x7_1).f0)).bind fun t65 => ((impl_IsColl.f k1 l0 t65).bind fun t70 => (if t70 = true then (impl_TreeOk.l0 k1 l0 l0 (l0.length : Int) (wrap64 (x7_1 + 1))) else (some false)))) else (some false))) else (none)) else (none)) = some r := by first | (rw [hji8] at H; exact H) | (simp only [hji8] at H ⊢; exact H)
     (try rw [hji8] at A5)
     have hji8w : (IntKind.i64.wrap (x7_1 - 1)) = ji8 := (i64_w _).trans hji8
     by_cases c9 : 0 <= (ji8)
     rotate_left
     . exact absurd H (by rw [if_neg c9]; simp)
     rw [if_pos c9] at H
     have c9b0 := decide_eq_true c9
     clear c9
     by_cases c10 : (ji8) < (l0.length : Int)
     rotate_left
     . exact absurd H (by rw [if_neg c10]; simp)
     rw [if_pos c10] at H
     have c10b0 := decide_eq_true c10
     clear c10
     obtain ⟨t69, A11, H⟩ := bo_ H
     (try dsimp only at H)
     by_cases c12 : t69 = true
     . subst c12
       rw [if_pos rfl] at H
       obtain ⟨t65, A13, H⟩ := bo_ H
       (try dsimp only at H)
       obtain ⟨t70, A14, H⟩ := bo_ H
       (try dsimp only at H)
       by_cases c15 : t70 = true
       . subst c15
         rw [if_pos rfl] at H
         have H' := A_ H
         clear H
         have p61 : 0 <= (x7_1 : Int) := od_
         have q61 : x7_1 < (l0.length : Int) := od_
         obtain ⟨ad61, A61_0, c61_0, A61_4, c61_4, e61, hx61_0, hx61_1, hx61_2, hx61_3, hx61_4, hl61_0, hi61_0, hl61_4, hi61_4⟩ := at_T57 HR0.out x7_1 p61 q61
         cases e61
         replace hx61_0 := bc_ HB.out hx61_0
         replace hx61_1 := bc_ HB.out hx61_1
         replace hx61_2 := bc_ HB.out hx61_2
         replace hx61_3 := bc_ HB.out hx61_3
         replace hx61_4 := bc_ HB.out hx61_4
         have HR61_0 := A_ hi61_0
         have HC61_0 := A_ hl61_0
         clear hi61_0 hl61_0
         have HR61_4 := A_ hi61_4
         have HC61_4 := A_ hl61_4
         clear hi61_4 hl61_4
         replace p61 := eq_true p61
         replace q61 := eq_true q61
         try go_wp2_with (first | ((with_reducible refine gd_ (N := 4) rfl ?_); refine bx_ (N := 4) (cs := #[.slice none 0 0, .bool false, .string (⟨#[]⟩ : ByteArray), .int .i64 0, .slice none 0 0]) (t := 57) ?_; intro gb62 hg w16 hbox hb; have BK62 := A_ (hbox); have GW62 := A_ (ge_ hg bB_ : w.heap.size <= gb62); have GE62 := A_ (ge_ hg bB_ : w.heap.size <= gb62); replace HB := A_ (below_step bB_ hb); clear hb hbox hg; obtain ⟨hcz17_0, hcz17_1, hcz17_2, hcz17_3, hcz17_4, hfz17_0, hfz17_1, hfz17_2, hfz17_3, hfz17_4⟩ := cz5_ BK62.out))
         obtain ⟨w18, hW_⟩ : ∃ w_, w_ = (((((w16.setCell ⟨gb62, 0, none⟩ (.slice A61_0 ((rd_T57 l0 x7_1).f0).length c61_0)).setCell ⟨gb62, 1, none⟩ (.bool ((rd_T57 l0 x7_1).f1))).setCell ⟨gb62, 2, none⟩ (.string ((rd_T57 l0 x7_1).f2))).setCell ⟨gb62, 3, none⟩ (.int .i64 ((rd_T57 l0 x7_1).f3))).setCell ⟨gb62, 4, none⟩ (.slice A61_4 ((rd_T57 l0 x7_1).f4).length c61_4)) := ⟨_, rfl⟩
         have n0_ : Aside0 (w18.heap[gb62]? = some (.cells #[.slice A61_0 ((rd_T57 l0 x7_1).f0).length c61_0, .bool ((rd_T57 l0 x7_1).f1), .string ((rd_T57 l0 x7_1).f2), .int .i64 ((rd_T57 l0 x7_1).f3), .slice A61_4 ((rd_T57 l0 x7_1).f4).length c61_4] 57 (0, 0))) := ⟨by rw [hW_]; (with_reducible repeat (first | refine blk_drewN ?_ _ | refine blk_drew ?_ | refine blk_alloc ?_ _)); with_reducible exact p5_01234_ (vb_ BK62.out)⟩
         have n1_ : Aside0 (Below w.heap.size w w18) := ⟨by rw [hW_]; exact bG_ GE62.out⟩
         (try clear BK62)
         (try clear HB)
         rw [← hW_]
         clear hW_
         have BK62 := n0_
         have HB := n1_
         clear n0_ n1_
         replace BK62 := A_ (blk_drew BK62.out)
         replace HB := A_ (below_drew1 HB.out)
         have p63 : 0 <= ((ji8) : Int) := od_
         have q63 : (ji8) < (l0.length : Int) := od_
         obtain ⟨ad63, A63_0, c63_0, A63_4, c63_4, e63, hx63_0, hx63_1, hx63_2, hx63_3, hx63_4, hl63_0, hi63_0, hl63_4, hi63_4⟩ := at_T57 HR0.out (ji8) p63 q63
         have hw63_4 := hx63_4
         have hw63_3 := hx63_3
         have hw63_2 := hx63_2
         have hw63_1 := hx63_1
         have hw63_0 := hx63_0
         obtain rfl : ad61 = ad63 := (by injection e63)
         replace hx63_0 := bc_ HB.out hx63_0
         replace hx63_1 := bc_ HB.out hx63_1
         replace hx63_2 := bc_ HB.out hx63_2
         replace hx63_3 := bc_ HB.out hx63_3
         replace hx63_4 := bc_ HB.out hx63_4
         have HR63_0 := A_ hi63_0
         have HC63_0 := A_ hl63_0
         clear hi63_0 hl63_0
         clear hi63_4 hl63_4
         replace p63 := eq_true p63
         replace q63 := eq_true q63
         refine st10_ (n := 27) (ds := []) (bl_ BK62.out 0) (bl_ BK62.out 1) (bl_ BK62.out 2) (bl_ BK62.out 3) (bl_ BK62.out 4) (be_ hw63_0) (be_ hw63_1) (be_ hw63_2) (be_ hw63_3) (be_ hw63_4) (fun hHeld => ?_); refine with_tabW impl_TreeOk.tab4 impl_TreeOk.bits4 (fun HT_ HW_ => ?_)
         generalize w18.drew = w19 at BK62 HB HR63_0 hx63_0 hx63_1 hx63_2 hx63_3 hx63_4 hHeld ⊢
         refine tk_ (i := 0) (N := some 12) hHeld ?_
         refine on_ (i := 1) (N := some 13) (fun K hK => ?_)
         refine goes_ Try.func87 (by kernel_rfl) rfl #[.agg #[.slice A61_0 ((rd_T57 l0 x7_1).f0).length c61_0, .bool ((rd_T57 l0 x7_1).f1), .string ((rd_T57 l0 x7_1).f2), .int .i64 ((rd_T57 l0 x7_1).f3), .slice A61_4 ((rd_T57 l0 x7_1).f4).length c61_4]] (by rfl) rfl rfl ml_ ?_
         with_reducible refine (impl_resOk.calls k1 _ _ ((rd_T57 l0 x7_1).f0) ((rd_T57 l0 x7_1).f1) ((rd_T57 l0 x7_1).f2) ((rd_T57 l0 x7_1).f3) _ _ ((rd_T57 l0 x7_1).f4) true _ ?s1 ?s2 ?s3 ?s4 A5.out).mono ?_
         (case s1 => exact cC_ (Kd.C_below HR61_0.out HB.out))
         (case s2 => exact HC61_0.out)
         (case s3 => exact cC_ (Kd.C_below HR61_4.out HB.out))
         (case s4 => exact HC61_4.out)
         rintro e w20 ⟨rfl, hb⟩
         refine ⟨_, rfl, ?_⟩
         replace BK62 := A_ (bw_ BK62.out hb)
         replace HB := A_ (below_step (bG_ GE62.out) hb)
         clear hb
         refine hK.out _ _ ⟨bl_ BK62.out 0, bl_ BK62.out 1, bl_ BK62.out 2, bl_ BK62.out 3, bl_ BK62.out 4, (be_ hw63_0), (be_ hw63_1), (be_ hw63_2), (be_ hw63_3), (be_ hw63_4)⟩ (fun hHeld => ?_)
         clear hK K
         refine no_ (some 13) ?_
         refine pu_ (i := 2) (N := some 14) ?_
         refine pu_ (i := 3) (N := some 15) ?_
         refine pu_ (i := 4) (N := some 16) ?_
         refine pu_ (i := 5) (N := some 17) ?_
         refine pu_ (i := 6) (N := some 18) ?_
         refine pu_ (i := 7) (N := some 19) ?_
         refine pu_ (i := 8) (N := some 20) ?_
         refine pu_ (i := 9) (N := some 21) ?_
         refine pu_ (i := 10) (N := some 22) ?_
         refine pu_ (i := 11) (N := some 23) ?_
         refine pu_ (i := 13) (N := some 25) ?_
         refine tk_ (i := 12) (N := some 24) hHeld ?_
         refine tk_ (i := 14) (N := some 26) hHeld ?_
         refine on_ (i := 15) (N := some 27) (fun K hK => ?_)
         refine goes_ Try.func88 (by kernel_rfl) rfl #[.slice A63_0 ((rd_T57 l0 (ji8)).f0).length c63_0, .slice A61_0 ((rd_T57 l0 x7_1).f0).length c61_0] (by rfl) rfl rfl (by (try simp only [List.map_toArray, List.map_cons, List.map_nil]); first | done | (simp only [hji8]; rfl) | rfl | (simp only [List.length_drop, List.length_take]; rfl)) ?_
         with_reducible refine (impl_LessPath.calls k1 _ _ ((rd_T57 l0 (ji8)).f0) _ _ ((rd_T57 l0 x7_1).f0) true _ ?s1 ?s2 ?s3 ?s4 A11.out).mono ?_
         (case s1 => exact cC_ (Kd.C_below HR63_0.out HB.out))
         (case s2 => exact HC63_0.out)
         (case s3 => exact cC_ (Kd.C_below HR61_0.out HB.out))
         (case s4 => exact HC61_0.out)
         rintro e w' ⟨rfl, ⟨nd, rfl⟩⟩
         refine ⟨_, rfl, ?_⟩
         refine hK.out _ _ ⟨bl_ BK62.out 0, bl_ BK62.out 1, bl_ BK62.out 2, bl_ BK62.out 3, bl_ BK62.out 4, (be_ hw63_0), (be_ hw63_1), (be_ hw63_2), (be_ hw63_3), (be_ hw63_4)⟩ (fun hHeld => ?_)
         clear hK K
         refine no_ (some 27) ?_
         refine pu_ (i := 16) (N := some 28) ?_
         refine pu_ (i := 17) (N := some 29) ?_
         refine pu_ (i := 18) (N := some 30) ?_
         refine pu_ (i := 19) (N := some 31) ?_
         refine pu_ (i := 20) (N := some 32) ?_
         refine pu_ (i := 21) (N := some 33) ?_
         refine tk_ (i := 22) (N := some 34) hHeld ?_
         refine on_ (i := 23) (N := some 35) (fun K hK => ?_)
         refine goes_ Try.func44 (by kernel_rfl) rfl #[.slice A61_0 ((rd_T57 l0 x7_1).f0).length c61_0] (by rfl) rfl rfl ml_ ?_
         with_reducible refine (impl_Above.calls _ _ ((rd_T57 l0 x7_1).f0) t65 _ ?s1 ?s2 A13.out).mono ?_
         (case s1 => exact cC_ (Kd.C_below HR61_0.out (bG_ GE62.out)))
         (case s2 => exact HC61_0.out)
         rintro e w21 ⟨v74, rfl, ho0, hb⟩
         refine ⟨_, rfl, ?_⟩
         have HO67 := A_ (Kd.R_lower ho0 (below_size (bG_ GE62.out)))
         replace BK62 := A_ (bw_ BK62.out hb)
         replace HB := A_ (below_step (bG_ GE62.out) hb)
         clear hb ho0
         obtain ⟨Ao22, co22, eo22⟩ := Kd.R_slice HO67.out
         (first | subst eo22 | (injection eo22 with f1_ f2_ f3_; have f4_ := f1_.symm; have f5_ := f3_.symm; clear f1_ f2_ f3_; subst f4_; subst f5_))
         refine hK.out _ _ ⟨bl_ BK62.out 0, bl_ BK62.out 1, bl_ BK62.out 2, bl_ BK62.out 3, bl_ BK62.out 4, (be_ hw63_0), (be_ hw63_1), (be_ hw63_2), (be_ hw63_3), (be_ hw63_4)⟩ (fun hHeld => ?_)
         clear hK K
         refine no_ (some 35) ?_
         refine on_ (i := 24) (N := some 36) (fun K hK => ?_)
         refine goes_ Try.func43 (by kernel_rfl) rfl #[.slice (some ad61) l0.length c0, .slice Ao22 t65.length co22] (by rfl) rfl rfl ml_ ?_
         with_reducible refine (impl_IsColl.calls k1 _ _ l0 _ _ t65 true _ ?s1 ?s2 ?s3 ?s4 A14.out).mono ?_
         (case s1 => exact cC_ (Kd.C_below HR0.out HB.out))
         (case s2 => exact HC0.out)
         (case s3 => exact cC_ (Kd.R_reads' HO67.out).2.2)
         (case s4 => exact (Kd.R_reads' HO67.out).2.1)
         rintro e w23 ⟨rfl, hb⟩
         refine ⟨_, rfl, ?_⟩
         replace BK62 := A_ (bw_ BK62.out hb)
         replace HB := A_ (below_step (bG_ GE62.out) hb)
         clear hb
         refine hK.out _ _ ⟨bl_ BK62.out 0, bl_ BK62.out 1, bl_ BK62.out 2, bl_ BK62.out 3, bl_ BK62.out 4, (be_ hw63_0), (be_ hw63_1), (be_ hw63_2), (be_ hw63_3), (be_ hw63_4)⟩ (fun hHeld => ?_)
         clear hK K
         refine no_ (some 36) ?_
         refine pu_ (i := 25) (N := some 37) ?_
         refine pu_ (i := 26) (N := some 38) ?_
         refine done_ (done_of HT_.out (by kernel_rfl)) ?_
         (try clear hHeld)
         try go_wp2
         go_roundg k1
         case measure => have := HK1.out; omega
         case rel => exact ⟨(wrap64 (x7_1 + 1)), rs_, H', ⟨by have := HK1.out; omega⟩, ⟨bG_ GE62.out⟩⟩
       . replace c15 := Bool.eq_false_iff.mpr c15
         subst c15
         rw [if_neg nf_] at H
         obtain rfl := si_ H
         have p61 : 0 <= (x7_1 : Int) := od_
         have q61 : x7_1 < (l0.length : Int) := od_
         obtain ⟨ad61, A61_0, c61_0, A61_4, c61_4, e61, hx61_0, hx61_1, hx61_2, hx61_3, hx61_4, hl61_0, hi61_0, hl61_4, hi61_4⟩ := at_T57 HR0.out x7_1 p61 q61
         cases e61
         replace hx61_0 := bc_ HB.out hx61_0
         replace hx61_1 := bc_ HB.out hx61_1
         replace hx61_2 := bc_ HB.out hx61_2
         replace hx61_3 := bc_ HB.out hx61_3
         replace hx61_4 := bc_ HB.out hx61_4
         have HR61_0 := A_ hi61_0
         have HC61_0 := A_ hl61_0
         clear hi61_0 hl61_0
         have HR61_4 := A_ hi61_4
         have HC61_4 := A_ hl61_4
         clear hi61_4 hl61_4
         replace p61 := eq_true p61
         replace q61 := eq_true q61
         try go_wp2_with (first | ((with_reducible refine gd_ (N := 4) rfl ?_); refine bx_ (N := 4) (cs := #[.slice none 0 0, .bool false, .string (⟨#[]⟩ : ByteArray), .int .i64 0, .slice none 0 0]) (t := 57) ?_; intro gb62 hg w24 hbox hb; have BK62 := A_ (hbox); have GW62 := A_ (ge_ hg bB_ : w.heap.size <= gb62); have GE62 := A_ (ge_ hg bB_ : w.heap.size <= gb62); replace HB := A_ (below_step bB_ hb); clear hb hbox hg; obtain ⟨hcz25_0, hcz25_1, hcz25_2, hcz25_3, hcz25_4, hfz25_0, hfz25_1, hfz25_2, hfz25_3, hfz25_4⟩ := cz5_ BK62.out))
         obtain ⟨w26, hW_⟩ : ∃ w_, w_ = (((((w24.setCell ⟨gb62, 0, none⟩ (.slice A61_0 ((rd_T57 l0 x7_1).f0).length c61_0)).setCell ⟨gb62, 1, none⟩ (.bool ((rd_T57 l0 x7_1).f1))).setCell ⟨gb62, 2, none⟩ (.string ((rd_T57 l0 x7_1).f2))).setCell ⟨gb62, 3, none⟩ (.int .i64 ((rd_T57 l0 x7_1).f3))).setCell ⟨gb62, 4, none⟩ (.slice A61_4 ((rd_T57 l0 x7_1).f4).length c61_4)) := ⟨_, rfl⟩
         have n0_ : Aside0 (w26.heap[gb62]? = some (.cells #[.slice A61_0 ((rd_T57 l0 x7_1).f0).length c61_0, .bool ((rd_T57 l0 x7_1).f1), .string ((rd_T57 l0 x7_1).f2), .int .i64 ((rd_T57 l0 x7_1).f3), .slice A61_4 ((rd_T57 l0 x7_1).f4).length c61_4] 57 (0, 0))) := ⟨by rw [hW_]; (with_reducible repeat (first | refine blk_drewN ?_ _ | refine blk_drew ?_ | refine blk_alloc ?_ _)); with_reducible exact p5_01234_ (vb_ BK62.out)⟩
         have n1_ : Aside0 (Below w.heap.size w w26) := ⟨by rw [hW_]; exact bG_ GE62.out⟩
         (try clear BK62)
         (try clear HB)
         rw [← hW_]
         clear hW_
         have BK62 := n0_
         have HB := n1_
         clear n0_ n1_
         replace BK62 := A_ (blk_drew BK62.out)
         replace HB := A_ (below_drew1 HB.out)
         have p63 : 0 <= ((ji8) : Int) := od_
         have q63 : (ji8) < (l0.length : Int) := od_
         obtain ⟨ad63, A63_0, c63_0, A63_4, c63_4, e63, hx63_0, hx63_1, hx63_2, hx63_3, hx63_4, hl63_0, hi63_0, hl63_4, hi63_4⟩ := at_T57 HR0.out (ji8) p63 q63
         have hw63_4 := hx63_4
         have hw63_3 := hx63_3
         have hw63_2 := hx63_2
         have hw63_1 := hx63_1
         have hw63_0 := hx63_0
         obtain rfl : ad61 = ad63 := (by injection e63)
         replace hx63_0 := bc_ HB.out hx63_0
         replace hx63_1 := bc_ HB.out hx63_1
         replace hx63_2 := bc_ HB.out hx63_2
         replace hx63_3 := bc_ HB.out hx63_3
         replace hx63_4 := bc_ HB.out hx63_4
         have HR63_0 := A_ hi63_0
         have HC63_0 := A_ hl63_0
         clear hi63_0 hl63_0
         clear hi63_4 hl63_4
         replace p63 := eq_true p63
         replace q63 := eq_true q63
         refine st10_ (n := 27) (ds := []) (bl_ BK62.out 0) (bl_ BK62.out 1) (bl_ BK62.out 2) (bl_ BK62.out 3) (bl_ BK62.out 4) (be_ hw63_0) (be_ hw63_1) (be_ hw63_2) (be_ hw63_3) (be_ hw63_4) (fun hHeld => ?_); refine with_tabW impl_TreeOk.tab4 impl_TreeOk.bits4 (fun HT_ HW_ => ?_)
         generalize w26.drew = w27 at BK62 HB HR63_0 hx63_0 hx63_1 hx63_2 hx63_3 hx63_4 hHeld ⊢
         refine tk_ (i := 0) (N := some 12) hHeld ?_
         refine on_ (i := 1) (N := some 13) (fun K hK => ?_)
         refine goes_ Try.func87 (by kernel_rfl) rfl #[.agg #[.slice A61_0 ((rd_T57 l0 x7_1).f0).length c61_0, .bool ((rd_T57 l0 x7_1).f1), .string ((rd_T57 l0 x7_1).f2), .int .i64 ((rd_T57 l0 x7_1).f3), .slice A61_4 ((rd_T57 l0 x7_1).f4).length c61_4]] (by rfl) rfl rfl ml_ ?_
         with_reducible refine (impl_resOk.calls k1 _ _ ((rd_T57 l0 x7_1).f0) ((rd_T57 l0 x7_1).f1) ((rd_T57 l0 x7_1).f2) ((rd_T57 l0 x7_1).f3) _ _ ((rd_T57 l0 x7_1).f4) true _ ?s1 ?s2 ?s3 ?s4 A5.out).mono ?_
         (case s1 => exact cC_ (Kd.C_below HR61_0.out HB.out))
         (case s2 => exact HC61_0.out)
         (case s3 => exact cC_ (Kd.C_below HR61_4.out HB.out))
         (case s4 => exact HC61_4.out)
         rintro e w28 ⟨rfl, hb⟩
         refine ⟨_, rfl, ?_⟩
         replace BK62 := A_ (bw_ BK62.out hb)
         replace HB := A_ (below_step (bG_ GE62.out) hb)
         clear hb
         refine hK.out _ _ ⟨bl_ BK62.out 0, bl_ BK62.out 1, bl_ BK62.out 2, bl_ BK62.out 3, bl_ BK62.out 4, (be_ hw63_0), (be_ hw63_1), (be_ hw63_2), (be_ hw63_3), (be_ hw63_4)⟩ (fun hHeld => ?_)
         clear hK K
         refine no_ (some 13) ?_
         refine pu_ (i := 2) (N := some 14) ?_
         refine pu_ (i := 3) (N := some 15) ?_
         refine pu_ (i := 4) (N := some 16) ?_
         refine pu_ (i := 5) (N := some 17) ?_
         refine pu_ (i := 6) (N := some 18) ?_
         refine pu_ (i := 7) (N := some 19) ?_
         refine pu_ (i := 8) (N := some 20) ?_
         refine pu_ (i := 9) (N := some 21) ?_
         refine pu_ (i := 10) (N := some 22) ?_
         refine pu_ (i := 11) (N := some 23) ?_
         refine pu_ (i := 13) (N := some 25) ?_
         refine tk_ (i := 12) (N := some 24) hHeld ?_
         refine tk_ (i := 14) (N := some 26) hHeld ?_
         refine on_ (i := 15) (N := some 27) (fun K hK => ?_)
         refine goes_ Try.func88 (by kernel_rfl) rfl #[.slice A63_0 ((rd_T57 l0 (ji8)).f0).length c63_0, .slice A61_0 ((rd_T57 l0 x7_1).f0).length c61_0] (by rfl) rfl rfl (by (try simp only [List.map_toArray, List.map_cons, List.map_nil]); first | done | (simp only [hji8]; rfl) | rfl | (simp only [List.length_drop, List.length_take]; rfl)) ?_
         with_reducible refine (impl_LessPath.calls k1 _ _ ((rd_T57 l0 (ji8)).f0) _ _ ((rd_T57 l0 x7_1).f0) true _ ?s1 ?s2 ?s3 ?s4 A11.out).mono ?_
         (case s1 => exact cC_ (Kd.C_below HR63_0.out HB.out))
         (case s2 => exact HC63_0.out)
         (case s3 => exact cC_ (Kd.C_below HR61_0.out HB.out))
         (case s4 => exact HC61_0.out)
         rintro e w' ⟨rfl, ⟨nd, rfl⟩⟩
         refine ⟨_, rfl, ?_⟩
         refine hK.out _ _ ⟨bl_ BK62.out 0, bl_ BK62.out 1, bl_ BK62.out 2, bl_ BK62.out 3, bl_ BK62.out 4, (be_ hw63_0), (be_ hw63_1), (be_ hw63_2), (be_ hw63_3), (be_ hw63_4)⟩ (fun hHeld => ?_)
         clear hK K
         refine no_ (some 27) ?_
         refine pu_ (i := 16) (N := some 28) ?_
         refine pu_ (i := 17) (N := some 29) ?_
         refine pu_ (i := 18) (N := some 30) ?_
         refine pu_ (i := 19) (N := some 31) ?_
         refine pu_ (i := 20) (N := some 32) ?_
         refine pu_ (i := 21) (N := some 33) ?_
         refine tk_ (i := 22) (N := some 34) hHeld ?_
         refine on_ (i := 23) (N := some 35) (fun K hK => ?_)
         refine goes_ Try.func44 (by kernel_rfl) rfl #[.slice A61_0 ((rd_T57 l0 x7_1).f0).length c61_0] (by rfl) rfl rfl ml_ ?_
         with_reducible refine (impl_Above.calls _ _ ((rd_T57 l0 x7_1).f0) t65 _ ?s1 ?s2 A13.out).mono ?_
         (case s1 => exact cC_ (Kd.C_below HR61_0.out (bG_ GE62.out)))
         (case s2 => exact HC61_0.out)
         rintro e w29 ⟨v74, rfl, ho0, hb⟩
         refine ⟨_, rfl, ?_⟩
         have HO67 := A_ (Kd.R_lower ho0 (below_size (bG_ GE62.out)))
         replace BK62 := A_ (bw_ BK62.out hb)
         replace HB := A_ (below_step (bG_ GE62.out) hb)
         clear hb ho0
         obtain ⟨Ao30, co30, eo30⟩ := Kd.R_slice HO67.out
         (first | subst eo30 | (injection eo30 with f1_ f2_ f3_; have f4_ := f1_.symm; have f5_ := f3_.symm; clear f1_ f2_ f3_; subst f4_; subst f5_))
         refine hK.out _ _ ⟨bl_ BK62.out 0, bl_ BK62.out 1, bl_ BK62.out 2, bl_ BK62.out 3, bl_ BK62.out 4, (be_ hw63_0), (be_ hw63_1), (be_ hw63_2), (be_ hw63_3), (be_ hw63_4)⟩ (fun hHeld => ?_)
         clear hK K
         refine no_ (some 35) ?_
         refine on_ (i := 24) (N := some 36) (fun K hK => ?_)
         refine goes_ Try.func43 (by kernel_rfl) rfl #[.slice (some ad61) l0.length c0, .slice Ao30 t65.length co30] (by rfl) rfl rfl ml_ ?_
         with_reducible refine (impl_IsColl.calls k1 _ _ l0 _ _ t65 false _ ?s1 ?s2 ?s3 ?s4 A14.out).mono ?_
         (case s1 => exact cC_ (Kd.C_below HR0.out HB.out))
         (case s2 => exact HC0.out)
         (case s3 => exact cC_ (Kd.R_reads' HO67.out).2.2)
         (case s4 => exact (Kd.R_reads' HO67.out).2.1)
         rintro e w31 ⟨rfl, hb⟩
         refine ⟨_, rfl, ?_⟩
         replace BK62 := A_ (bw_ BK62.out hb)
         replace HB := A_ (below_step (bG_ GE62.out) hb)
         clear hb
         refine hK.out _ _ ⟨bl_ BK62.out 0, bl_ BK62.out 1, bl_ BK62.out 2, bl_ BK62.out 3, bl_ BK62.out 4, (be_ hw63_0), (be_ hw63_1), (be_ hw63_2), (be_ hw63_3), (be_ hw63_4)⟩ (fun hHeld => ?_)
         clear hK K
         refine no_ (some 36) ?_
         refine pu_ (i := 25) (N := some 37) ?_
         refine pu_ (i := 26) (N := some 38) ?_
         refine done_ (done_of HT_.out (by kernel_rfl)) ?_
         (try clear hHeld)
         try go_wp2
         go_ret
         exact ⟨by first | rfl | (simp [errW_none, errW_some] <;> rfl) | (simp only [← hji8]; first | rfl | (simp [errW_none, errW_some] <;> rfl)) | (simp [*, errW_none, errW_some] <;> rfl), bG_ GE62.out⟩
     . replace c12 := Bool.eq_false_iff.mpr c12
       subst c12
       rw [if_neg nf_] at H
       obtain rfl := si_ H
       have p61 : 0 <= (x7_1 : Int) := od_
       have q61 : x7_1 < (l0.length : Int) := od_
       obtain ⟨ad61, A61_0, c61_0, A61_4, c61_4, e61, hx61_0, hx61_1, hx61_2, hx61_3, hx61_4, hl61_0, hi61_0, hl61_4, hi61_4⟩ := at_T57 HR0.out x7_1 p61 q61
       cases e61
       replace hx61_0 := bc_ HB.out hx61_0
       replace hx61_1 := bc_ HB.out hx61_1
       replace hx61_2 := bc_ HB.out hx61_2
       replace hx61_3 := bc_ HB.out hx61_3
       replace hx61_4 := bc_ HB.out hx61_4
       have HR61_0 := A_ hi61_0
       have HC61_0 := A_ hl61_0
       clear hi61_0 hl61_0
       have HR61_4 := A_ hi61_4
       have HC61_4 := A_ hl61_4
       clear hi61_4 hl61_4
       replace p61 := eq_true p61
       replace q61 := eq_true q61
       try go_wp2_with (first | ((with_reducible refine gd_ (N := 4) rfl ?_); refine bx_ (N := 4) (cs := #[.slice none 0 0, .bool false, .string (⟨#[]⟩ : ByteArray), .int .i64 0, .slice none 0 0]) (t := 57) ?_; intro gb62 hg w32 hbox hb; have BK62 := A_ (hbox); have GW62 := A_ (ge_ hg bB_ : w.heap.size <= gb62); have GE62 := A_ (ge_ hg bB_ : w.heap.size <= gb62); replace HB := A_ (below_step bB_ hb); clear hb hbox hg; obtain ⟨hcz33_0, hcz33_1, hcz33_2, hcz33_3, hcz33_4, hfz33_0, hfz33_1, hfz33_2, hfz33_3, hfz33_4⟩ := cz5_ BK62.out))
       obtain ⟨w34, hW_⟩ : ∃ w_, w_ = (((((w32.setCell ⟨gb62, 0, none⟩ (.slice A61_0 ((rd_T57 l0 x7_1).f0).length c61_0)).setCell ⟨gb62, 1, none⟩ (.bool ((rd_T57 l0 x7_1).f1))).setCell ⟨gb62, 2, none⟩ (.string ((rd_T57 l0 x7_1).f2))).setCell ⟨gb62, 3, none⟩ (.int .i64 ((rd_T57 l0 x7_1).f3))).setCell ⟨gb62, 4, none⟩ (.slice A61_4 ((rd_T57 l0 x7_1).f4).length c61_4)) := ⟨_, rfl⟩
       have n0_ : Aside0 (w34.heap[gb62]? = some (.cells #[.slice A61_0 ((rd_T57 l0 x7_1).f0).length c61_0, .bool ((rd_T57 l0 x7_1).f1), .string ((rd_T57 l0 x7_1).f2), .int .i64 ((rd_T57 l0 x7_1).f3), .slice A61_4 ((rd_T57 l0 x7_1).f4).length c61_4] 57 (0, 0))) := ⟨by rw [hW_]; (with_reducible repeat (first | refine blk_drewN ?_ _ | refine blk_drew ?_ | refine blk_alloc ?_ _)); with_reducible exact p5_01234_ (vb_ BK62.out)⟩
       have n1_ : Aside0 (Below w.heap.size w w34) := ⟨by rw [hW_]; exact bG_ GE62.out⟩
       (try clear BK62)
       (try clear HB)
       rw [← hW_]
       clear hW_
       have BK62 := n0_
       have HB := n1_
       clear n0_ n1_
       replace BK62 := A_ (blk_drew BK62.out)
       replace HB := A_ (below_drew1 HB.out)
       have p63 : 0 <= ((ji8) : Int) := od_
       have q63 : (ji8) < (l0.length : Int) := od_
       obtain ⟨ad63, A63_0, c63_0, A63_4, c63_4, e63, hx63_0, hx63_1, hx63_2, hx63_3, hx63_4, hl63_0, hi63_0, hl63_4, hi63_4⟩ := at_T57 HR0.out (ji8) p63 q63
       have hw63_4 := hx63_4
       have hw63_3 := hx63_3
       have hw63_2 := hx63_2
       have hw63_1 := hx63_1
       have hw63_0 := hx63_0
       obtain rfl : ad61 = ad63 := (by injection e63)
       replace hx63_0 := bc_ HB.out hx63_0
       replace hx63_1 := bc_ HB.out hx63_1
       replace hx63_2 := bc_ HB.out hx63_2
       replace hx63_3 := bc_ HB.out hx63_3
       replace hx63_4 := bc_ HB.out hx63_4
       have HR63_0 := A_ hi63_0
       have HC63_0 := A_ hl63_0
       clear hi63_0 hl63_0
       clear hi63_4 hl63_4
       replace p63 := eq_true p63
       replace q63 := eq_true q63
       refine st10_ (n := 27) (ds := []) (bl_ BK62.out 0) (bl_ BK62.out 1) (bl_ BK62.out 2) (bl_ BK62.out 3) (bl_ BK62.out 4) (be_ hw63_0) (be_ hw63_1) (be_ hw63_2) (be_ hw63_3) (be_ hw63_4) (fun hHeld => ?_); refine with_tabW impl_TreeOk.tab4 impl_TreeOk.bits4 (fun HT_ HW_ => ?_)
       generalize w34.drew = w35 at BK62 HB HR63_0 hx63_0 hx63_1 hx63_2 hx63_3 hx63_4 hHeld ⊢
       refine tk_ (i := 0) (N := some 12) hHeld ?_
       refine on_ (i := 1) (N := some 13) (fun K hK => ?_)
       refine goes_ Try.func87 (by kernel_rfl) rfl #[.agg #[.slice A61_0 ((rd_T57 l0 x7_1).f0).length c61_0, .bool ((rd_T57 l0 x7_1).f1), .string ((rd_T57 l0 x7_1).f2), .int .i64 ((rd_T57 l0 x7_1).f3), .slice A61_4 ((rd_T57 l0 x7_1).f4).length c61_4]] (by rfl) rfl rfl ml_ ?_
       with_reducible refine (impl_resOk.calls k1 _ _ ((rd_T57 l0 x7_1).f0) ((rd_T57 l0 x7_1).f1) ((rd_T57 l0 x7_1).f2) ((rd_T57 l0 x7_1).f3) _ _ ((rd_T57 l0 x7_1).f4) true _ ?s1 ?s2 ?s3 ?s4 A5.out).mono ?_
       (case s1 => exact cC_ (Kd.C_below HR61_0.out HB.out))
       (case s2 => exact HC61_0.out)
       (case s3 => exact cC_ (Kd.C_below HR61_4.out HB.out))
       (case s4 => exact HC61_4.out)
       rintro e w36 ⟨rfl, hb⟩
       refine ⟨_, rfl, ?_⟩
       replace BK62 := A_ (bw_ BK62.out hb)
       replace HB := A_ (below_step (bG_ GE62.out) hb)
       clear hb
       refine hK.out _ _ ⟨bl_ BK62.out 0, bl_ BK62.out 1, bl_ BK62.out 2, bl_ BK62.out 3, bl_ BK62.out 4, (be_ hw63_0), (be_ hw63_1), (be_ hw63_2), (be_ hw63_3), (be_ hw63_4)⟩ (fun hHeld => ?_)
       clear hK K
       refine no_ (some 13) ?_
       refine pu_ (i := 2) (N := some 14) ?_
       refine pu_ (i := 3) (N := some 15) ?_
       refine pu_ (i := 4) (N := some 16) ?_
       refine pu_ (i := 5) (N := some 17) ?_
       refine pu_ (i := 6) (N := some 18) ?_
       refine pu_ (i := 7) (N := some 19) ?_
       refine pu_ (i := 8) (N := some 20) ?_
       refine pu_ (i := 9) (N := some 21) ?_
       refine pu_ (i := 10) (N := some 22) ?_
       refine pu_ (i := 11) (N := some 23) ?_
       refine pu_ (i := 13) (N := some 25) ?_
       refine tk_ (i := 12) (N := some 24) hHeld ?_
       refine tk_ (i := 14) (N := some 26) hHeld ?_
       refine on_ (i := 15) (N := some 27) (fun K hK => ?_)
       refine goes_ Try.func88 (by kernel_rfl) rfl #[.slice A63_0 ((rd_T57 l0 (ji8)).f0).length c63_0, .slice A61_0 ((rd_T57 l0 x7_1).f0).length c61_0] (by rfl) rfl rfl (by (try simp only [List.map_toArray, List.map_cons, List.map_nil]); first | done | (simp only [hji8]; rfl) | rfl | (simp only [List.length_drop, List.length_take]; rfl)) ?_
       with_reducible refine (impl_LessPath.calls k1 _ _ ((rd_T57 l0 (ji8)).f0) _ _ ((rd_T57 l0 x7_1).f0) false _ ?s1 ?s2 ?s3 ?s4 A11.out).mono ?_
       (case s1 => exact cC_ (Kd.C_below HR63_0.out HB.out))
       (case s2 => exact HC63_0.out)
       (case s3 => exact cC_ (Kd.C_below HR61_0.out HB.out))
       (case s4 => exact HC61_0.out)
       rintro e w' ⟨rfl, ⟨nd, rfl⟩⟩
       refine ⟨_, rfl, ?_⟩
       refine hK.out _ _ ⟨bl_ BK62.out 0, bl_ BK62.out 1, bl_ BK62.out 2, bl_ BK62.out 3, bl_ BK62.out 4, (be_ hw63_0), (be_ hw63_1), (be_ hw63_2), (be_ hw63_3), (be_ hw63_4)⟩ (fun hHeld => ?_)
       clear hK K
       refine no_ (some 27) ?_
       refine pu_ (i := 16) (N := some 28) ?_
       refine pu_ (i := 17) (N := some 29) ?_
       refine pu_ (i := 18) (N := some 30) ?_
       refine pu_ (i := 19) (N := some 31) ?_
       refine pn_ (i := 20) (N := some 32) ?_
       refine pn_ (i := 21) (N := some 33) ?_
       refine pn_ (i := 22) (N := some 34) ?_
       refine pn_ (i := 23) (N := some 35) ?_
       refine pn_ (i := 24) (N := some 36) ?_
       refine pn_ (i := 25) (N := some 37) ?_
       refine pu_ (i := 26) (N := some 38) ?_
       refine done_ (done_of HT_.out (by kernel_rfl)) ?_
       (try clear hHeld)
       try go_wp2
       go_ret
       exact ⟨by first | rfl | (simp [errW_none, errW_some] <;> rfl) | (simp only [← hji8]; first | rfl | (simp [errW_none, errW_some] <;> rfl)) | (simp [*, errW_none, errW_some] <;> rfl), bG_ GE62.out⟩
   . replace c6 := Bool.eq_false_iff.mpr c6
     subst c6
     rw [if_neg nf_] at H
     obtain rfl := si_ H
     have p61 : 0 <= (x7_1 : Int) := od_
     have q61 : x7_1 < (l0.length : Int) := od_
     obtain ⟨ad61, A61_0, c61_0, A61_4, c61_4, e61, hx61_0, hx61_1, hx61_2, hx61_3, hx61_4, hl61_0, hi61_0, hl61_4, hi61_4⟩ := at_T57 HR0.out x7_1 p61 q61
     cases e61
     replace hx61_0 := bc_ HB.out hx61_0
     replace hx61_1 := bc_ HB.out hx61_1
     replace hx61_2 := bc_ HB.out hx61_2
     replace hx61_3 := bc_ HB.out hx61_3
     replace hx61_4 := bc_ HB.out hx61_4
     have HR61_0 := A_ hi61_0
     have HC61_0 := A_ hl61_0
     clear hi61_0 hl61_0
     have HR61_4 := A_ hi61_4
     have HC61_4 := A_ hl61_4
     clear hi61_4 hl61_4
     replace p61 := eq_true p61
     replace q61 := eq_true q61
     try go_wp2_with (first | ((with_reducible refine gd_ (N := 4) rfl ?_); refine bx_ (N := 4) (cs := #[.slice none 0 0, .bool false, .string (⟨#[]⟩ : ByteArray), .int .i64 0, .slice none 0 0]) (t := 57) ?_; intro gb62 hg w56 hbox hb; have BK62 := A_ (hbox); have GW62 := A_ (ge_ hg bB_ : w.heap.size <= gb62); have GE62 := A_ (ge_ hg bB_ : w.heap.size <= gb62); replace HB := A_ (below_step bB_ hb); clear hb hbox hg; obtain ⟨hcz57_0, hcz57_1, hcz57_2, hcz57_3, hcz57_4, hfz57_0, hfz57_1, hfz57_2, hfz57_3, hfz57_4⟩ := cz5_ BK62.out))
     obtain ⟨w58, hW_⟩ : ∃ w_, w_ = (((((w56.setCell ⟨gb62, 0, none⟩ (.slice A61_0 ((rd_T57 l0 x7_1).f0).length c61_0)).setCell ⟨gb62, 1, none⟩ (.bool ((rd_T57 l0 x7_1).f1))).setCell ⟨gb62, 2, none⟩ (.string ((rd_T57 l0 x7_1).f2))).setCell ⟨gb62, 3, none⟩ (.int .i64 ((rd_T57 l0 x7_1).f3))).setCell ⟨gb62, 4, none⟩ (.slice A61_4 ((rd_T57 l0 x7_1).f4).length c61_4)) := ⟨_, rfl⟩
     have n0_ : Aside0 (w58.heap[gb62]? = some (.cells #[.slice A61_0 ((rd_T57 l0 x7_1).f0).length c61_0, .bool ((rd_T57 l0 x7_1).f1), .string ((rd_T57 l0 x7_1).f2), .int .i64 ((rd_T57 l0 x7_1).f3), .slice A61_4 ((rd_T57 l0 x7_1).f4).length c61_4] 57 (0, 0))) := ⟨by rw [hW_]; (with_reducible repeat (first | refine blk_drewN ?_ _ | refine blk_drew ?_ | refine blk_alloc ?_ _)); with_reducible exact p5_01234_ (vb_ BK62.out)⟩
     have n1_ : Aside0 (Below w.heap.size w w58) := ⟨by rw [hW_]; exact bG_ GE62.out⟩
     (try clear BK62)
     (try clear HB)
     rw [← hW_]
     clear hW_
     have BK62 := n0_
     have HB := n1_
     clear n0_ n1_
     replace BK62 := A_ (blk_drew BK62.out)
     replace HB := A_ (below_drew1 HB.out)
     refine st5_ (n := 27) (ds := []) (bl_ BK62.out 0) (bl_ BK62.out 1) (bl_ BK62.out 2) (bl_ BK62.out 3) (bl_ BK62.out 4) (fun hHeld => ?_); refine with_tabW impl_TreeOk.tab4 impl_TreeOk.bits4 (fun HT_ HW_ => ?_)
     generalize w58.drew = w59 at BK62 HB hHeld ⊢
     refine tk_ (i := 0) (N := some 12) hHeld ?_
     refine on_ (i := 1) (N := some 13) (fun K hK => ?_)
     refine goes_ Try.func87 (by kernel_rfl) rfl #[.agg #[.slice A61_0 ((rd_T57 l0 x7_1).f0).length c61_0, .bool ((rd_T57 l0 x7_1).f1), .string ((rd_T57 l0 x7_1).f2), .int .i64 ((rd_T57 l0 x7_1).f3), .slice A61_4 ((rd_T57 l0 x7_1).f4).length c61_4]] (by rfl) rfl rfl ml_ ?_
     with_reducible refine (impl_resOk.calls k1 _ _ ((rd_T57 l0 x7_1).f0) ((rd_T57 l0 x7_1).f1) ((rd_T57 l0 x7_1).f2) ((rd_T57 l0 x7_1).f3) _ _ ((rd_T57 l0 x7_1).f4) false _ ?s1 ?s2 ?s3 ?s4 A5.out).mono ?_
     (case s1 => exact cC_ (Kd.C_below HR61_0.out HB.out))
     (case s2 => exact HC61_0.out)
     (case s3 => exact cC_ (Kd.C_below HR61_4.out HB.out))
     (case s4 => exact HC61_4.out)
     rintro e w60 ⟨rfl, hb⟩
     refine ⟨_, rfl, ?_⟩
     replace BK62 := A_ (bw_ BK62.out hb)
     replace HB := A_ (below_step (bG_ GE62.out) hb)
     clear hb
     refine hK.out _ _ (hl_ BK62.out) (fun hHeld => ?_)
     clear hK K
     refine no_ (some 13) ?_
     refine pu_ (i := 2) (N := some 14) ?_
     refine pu_ (i := 3) (N := some 15) ?_
     refine pn_ (i := 4) (N := some 16) ?_
     refine pn_ (i := 5) (N := some 17) ?_
     refine pn_ (i := 6) (N := some 18) ?_
     refine pn_ (i := 7) (N := some 19) ?_
     refine pn_ (i := 8) (N := some 20) ?_
     refine pn_ (i := 9) (N := some 21) ?_
     refine pn_ (i := 10) (N := some 22) ?_
     refine pn_ (i := 11) (N := some 23) ?_
     refine pn_ (i := 12) (N := some 24) ?_
     refine pn_ (i := 13) (N := some 25) ?_
     refine pn_ (i := 14) (N := some 26) ?_
     refine pn_ (i := 15) (N := some 27) ?_
     refine pn_ (i := 16) (N := some 28) ?_
     refine pn_ (i := 17) (N := some 29) ?_
     refine pu_ (i := 18) (N := some 30) ?_
     refine pu_ (i := 19) (N := some 31) ?_
     refine pn_ (i := 20) (N := some 32) ?_
     refine pn_ (i := 21) (N := some 33) ?_
     refine pn_ (i := 22) (N := some 34) ?_
     refine pn_ (i := 23) (N := some 35) ?_
     refine pn_ (i := 24) (N := some 36) ?_
     refine pn_ (i := 25) (N := some 37) ?_
     refine pu_ (i := 26) (N := some 38) ?_
     refine done_ (done_of HT_.out (by kernel_rfl)) ?_
     (try clear hHeld)
     try go_wp2
     go_ret
     exact ⟨rr_, bG_ GE62.out⟩
set_option maxHeartbeats 8000000
set_option maxRecDepth 100000
def impl_opForm.l0 : Nat -> Int -> List (List ByteArray) -> Int -> Int -> Option (Int)
 | 0, _, _, _, _ => none
 | k + 1, x1, x12, x13, x14 => if x14 < x13 then (if 0 <= x14 then (if x14 < (x12.length : Int) then ((impl_PathOk.f k (rd_L2 x12 x14)).bind fun t330 => (if t330 = true then (impl_opForm.l0 k x1 x12 x13 (wrap64 (x14 + 1))) else (some 400))) else (none)) else (none)) else ((impl_in.f x1 0 99999).bind fun t331 => (if t331 = true then (some 0) else (some 507)))
def impl_opForm.f (k : Nat) (l0 : List (S57)) (a1 : Int) (l2 : List (List ByteArray)) : Option (Int) := (impl_TreeOk.f k l0).bind fun t328 => (if t328 = true then (impl_opForm.l0 k a1 l2 (l2.length : Int) 0) else (some 500))
theorem impl_opForm.calls (k : Nat) (A0 : Option Addr) (c0 : Nat) (l0 : List (S57)) (a1 : Int) (A2 : Option Addr) (c2 : Nat) (l2 : List (List ByteArray)) (r : Int) (w : World) (hr0 : Kd.C k57 w A0 l0.length l0) (hc0 : l0.length <= c0) (hr2 : Kd.C (Kd.slice 9 Kd.string) w A2 l2.length l2) (hc2 : l2.length <= c2) (h : impl_opForm.f k l0 a1 l2 = some r) :
 Calls Try.prog 65 #[.slice A0 l0.length c0, .int .i64 a1, .slice A2 l2.length c2] w fun e w' => e = .returned (.int .i64 r) /\ Below w.heap.size w w' := by
 have HR0 := A_ hr0
 have HC0 := A_ hc0
 clear hr0 hc0
 have HR2 := A_ hr2
 clear hr2 hc2
 have HB := A_ (Below.refl w.heap.size w)
 have H : ((impl_TreeOk.f k l0).bind fun t15 => (if t15 = true then (impl_opForm.l0 k a1 l2 (l2.length : Int) 0) else (some 500))) = some r := h
 clear h
 obtain ⟨t15, A4, H⟩ := bo_ H
 (try dsimp only at H)
 by_cases c5 : t15 = true
 . subst c5
   rw [if_pos rfl] at H
   have H' := A_ H
   clear H
   go_enter Try.func65, Try.ntmps65
   go_wp2_with (first | ((with_reducible refine gc_ (f := 40) rfl ?_); refine gL_ (some 10) Try.func40 #[.slice A0 l0.length c0] ?_; (with_reducible refine (impl_TreeOk.calls k _ _ l0 true _ ?s1 ?s2 A4.out).mono ?_); (case s1 => exact cC_ HR0.out); (case s2 => exact HC0.out); rintro e w6 ⟨rfl, hb⟩; refine ⟨_, rfl, ?_⟩; replace HB := A_ (below_step bB_ hb); clear hb))
   go_loopg [14] k (fun kq v14 w' => ∃ (x14_1 : Int), v14 = .int .i64 x14_1 /\ Aside0 (impl_opForm.l0 kq a1 l2 (l2.length : Int) x14_1 = some r) /\ Aside0 (kq <= k) /\ Aside0 (Below w.heap.size w w'))
   case atStart => exact ⟨(0), rs_, H', ⟨Nat.le_refl _⟩, ⟨bB_⟩⟩
   case round =>
    clear H'
    try clear c5
    obtain ⟨x14_1, rfl, HA, HK1, HB⟩ := hrel
    cases gk with
    | zero => exact absurd HA.out (by simp [impl_opForm.l0])
    | succ k1 =>
     have H := HA.out
     clear HA
     simp only [impl_opForm.l0] at H
     by_cases c7 : x14_1 < (l2.length : Int)
     rotate_left
     . rw [if_neg c7] at H
       have c7b0 := decide_eq_false c7
       clear c7
       obtain ⟨t16, A12, H⟩ := bo_ H
       (try dsimp only at H)
       by_cases c13 : t16 = true
       . subst c13
         rw [if_pos rfl] at H
         obtain rfl := si_ H
         go_wp2_with (first | ((with_reducible refine gc_ (f := 109) rfl ?_); refine gL_ (some 23) Try.func109 #[.int .i64 a1, .int .i64 0, .int .i64 99999] ?_; (with_reducible refine (impl_in.calls a1 0 99999 true _ A12.out).mono ?_); rintro e w' ⟨rfl, ⟨nd, rfl⟩⟩; refine ⟨_, rfl, ?_⟩))
         go_ret
         exact ⟨rr_, bB_⟩
       . replace c13 := Bool.eq_false_iff.mpr c13
         subst c13
         rw [if_neg nf_] at H
         obtain rfl := si_ H
         go_wp2_with (first | ((with_reducible refine gc_ (f := 109) rfl ?_); refine gL_ (some 23) Try.func109 #[.int .i64 a1, .int .i64 0, .int .i64 99999] ?_; (with_reducible refine (impl_in.calls a1 0 99999 false _ A12.out).mono ?_); rintro e w' ⟨rfl, ⟨nd, rfl⟩⟩; refine ⟨_, rfl, ?_⟩))
         go_ret
         exact ⟨rr_, bB_⟩
     rw [if_pos c7] at H
     have c7b0 := decide_eq_true c7
     clear c7
     by_cases c8 : 0 <= x14_1
     rotate_left
     . exact absurd H (by rw [if_neg c8]; simp)
     rw [if_pos c8] at H
     have c8b0 := decide_eq_true c8
     clear c8
     by_cases c9 : x14_1 < (l2.length : Int)
     rotate_left
     . exact absurd H (by rw [if_neg c9]; simp)
     rw [if_pos c9] at H
     have c9b0 := decide_eq_true c9
     clear c9
     obtain ⟨t17, A10, H⟩ := bo_ H
     (try dsimp only at H)
     by_cases c11 : t17 = true
     . subst c11
       rw [if_pos rfl] at H
       have H' := A_ H
       clear H
       have p3 : 0 <= (x14_1 : Int) := od_
       have q3 : x14_1 < (l2.length : Int) := od_
       obtain ⟨ad3, A3_0, c3_0, e3, hx3_0, hl3_0, hi3_0⟩ := at_L2 HR2.out x14_1 p3 q3
       cases e3
       replace hx3_0 := bc_ HB.out hx3_0
       have HR3_0 := A_ hi3_0
       have HC3_0 := A_ hl3_0
       clear hi3_0 hl3_0
       replace p3 := eq_true p3
       replace q3 := eq_true q3
       go_wp2_with (first | ((with_reducible refine gc_ (f := 108) rfl ?_); refine gL_ (some 19) Try.func108 #[.slice A3_0 (rd_L2 l2 x14_1).length c3_0] ?_; (with_reducible refine (impl_PathOk.calls k1 _ _ (rd_L2 l2 x14_1) true _ ?s1 ?s2 A10.out).mono ?_); (case s1 => exact cC_ (Kd.C_below HR3_0.out HB.out)); (case s2 => exact HC3_0.out); rintro e w' ⟨rfl, ⟨nd, rfl⟩⟩; refine ⟨_, rfl, ?_⟩))
       go_roundg k1
       case measure => have := HK1.out; omega
       case rel => exact ⟨(wrap64 (x14_1 + 1)), rs_, H', ⟨by have := HK1.out; omega⟩, ⟨bB_⟩⟩
     . replace c11 := Bool.eq_false_iff.mpr c11
       subst c11
       rw [if_neg nf_] at H
       obtain rfl := si_ H
       have p3 : 0 <= (x14_1 : Int) := od_
       have q3 : x14_1 < (l2.length : Int) := od_
       obtain ⟨ad3, A3_0, c3_0, e3, hx3_0, hl3_0, hi3_0⟩ := at_L2 HR2.out x14_1 p3 q3
       cases e3
       replace hx3_0 := bc_ HB.out hx3_0
       have HR3_0 := A_ hi3_0
       have HC3_0 := A_ hl3_0
       clear hi3_0 hl3_0
       replace p3 := eq_true p3
       replace q3 := eq_true q3
       go_wp2_with (first | ((with_reducible refine gc_ (f := 108) rfl ?_); refine gL_ (some 19) Try.func108 #[.slice A3_0 (rd_L2 l2 x14_1).length c3_0] ?_; (with_reducible refine (impl_PathOk.calls k1 _ _ (rd_L2 l2 x14_1) false _ ?s1 ?s2 A10.out).mono ?_); (case s1 => exact cC_ (Kd.C_below HR3_0.out HB.out)); (case s2 => exact HC3_0.out); rintro e w' ⟨rfl, ⟨nd, rfl⟩⟩; refine ⟨_, rfl, ?_⟩))
       go_ret
       exact ⟨rr_, bB_⟩
 . replace c5 := Bool.eq_false_iff.mpr c5
   subst c5
   rw [if_neg nf_] at H
   obtain rfl := si_ H
   go_enter Try.func65, Try.ntmps65
   go_wp2_with (first | ((with_reducible refine gc_ (f := 40) rfl ?_); refine gL_ (some 10) Try.func40 #[.slice A0 l0.length c0] ?_; (with_reducible refine (impl_TreeOk.calls k _ _ l0 false _ ?s1 ?s2 A4.out).mono ?_); (case s1 => exact cC_ HR0.out); (case s2 => exact HC0.out); rintro e w14 ⟨rfl, hb⟩; refine ⟨_, rfl, ?_⟩; replace HB := A_ (below_step bB_ hb); clear hb))
   go_ret
   exact ⟨rr_, bB_⟩
def impl_copyRes.f (l0_0 : List ByteArray) (a0_1 : Bool) (a0_2 : ByteArray) (a0_3 : Int) (l0_4 : List (S72)) : Option (List ByteArray × Bool × ByteArray × Int × (List (S72))) := (impl_copyPath.f l0_0).bind fun t334 => (if ([] : List (S72)).length + l0_4.length < 2932031007402 then (some (t334, a0_1, a0_2, a0_3, (([] : List (S72)) ++ l0_4))) else (none))
def impl_copyRes.T1 : Bool × List (List Nat × List Nat) := (true, [([], []), ([0], [0]), ([1], [1]), ([], []), ([3], [3]), ([4, 2], [4]), ([0, 1, 2, 3, 4], []), ([6, 2, 5, 0, 1, 2, 3, 4], [2, 6]), ([0, 1, 2, 3, 4, 5, 6, 7], []), ([8, 5, 7, 0, 1, 2, 3, 4, 5, 6, 7], [5, 8])])
def impl_copyRes.B1 : List Nat := [0, 1, 3, 0, 8, 31, 31, 127, 255, 511]
theorem impl_copyRes.tab1 : rtab .any (opsOf Try.f90 1) = impl_copyRes.T1 := by kernel_rfl
theorem impl_copyRes.bits1 : waitsOk impl_copyRes.T1.2 impl_copyRes.B1 = true := by kernel_rfl
theorem impl_copyRes.calls (A0_0 : Option Addr) (c0_0 : Nat) (l0_0 : List ByteArray) (a0_1 : Bool) (a0_2 : ByteArray) (a0_3 : Int) (A0_4 : Option Addr) (c0_4 : Nat) (l0_4 : List (S72)) (r1 : List ByteArray) (r2 : Bool) (r3 : ByteArray) (r4 : Int) (r5 : List (S72)) (w : World) (hr0_0 : Kd.C Kd.string w A0_0 l0_0.length l0_0) (hc0_0 : l0_0.length <= c0_0) (hr0_4 : Kd.C k72 w A0_4 l0_4.length l0_4) (hc0_4 : l0_4.length <= c0_4) (h : impl_copyRes.f l0_0 a0_1 a0_2 a0_3 l0_4 = some (r1, r2, r3, r4, r5)) :
 Calls Try.prog 90 #[.agg #[.slice A0_0 l0_0.length c0_0, .bool a0_1, .string a0_2, .int .i64 a0_3, .slice A0_4 l0_4.length c0_4]] w fun e w' => ∃ v0_ v4_ : Value, e = .returned (.agg #[v0_, .bool r2, .string r3, .int .i64 r4, v4_]) /\ Kd.R Kd.string 9 w' w.heap.size (fun _ => True) v0_ r1 /\ Kd.R k72 72 w' w.heap.size (fun _ => True) v4_ r5 /\ Below w.heap.size w w' := by
 have hu57 := Try.underlying57
 have HR0_0 := A_ hr0_0
 have HC0_0 := A_ hc0_0
 clear hr0_0 hc0_0
 have HR0_4 := A_ hr0_4
 clear hr0_4 hc0_4
 have HB := A_ (Below.refl w.heap.size w)
 have H : ((impl_copyPath.f l0_0).bind fun t18 => (if ([] : List (S72)).length + l0_4.length < 2932031007402 then (some (t18, a0_1, a0_2, a0_3, (([] : List (S72)) ++ l0_4))) else (none))) = some (r1, r2, r3, r4, r5) := h
 clear h
 obtain ⟨t18, A2, H⟩ := bo_ H
 (try dsimp only at H)
 by_cases c3 : ([] : List (S72)).length + l0_4.length < 2932031007402
 rotate_left
 . exact absurd H (by rw [if_neg c3]; simp)
 rw [if_pos c3] at H
 have LMc3 := A_ c3
 clear c3
 obtain ⟨y19, hy19⟩ : ∃ y_ : List (S72), y_ = (([] : List (S72)) ++ l0_4) := ⟨_, rfl⟩
 replace H : (some (t18, a0_1, a0_2, a0_3, y19)) = some (r1, r2, r3, r4, r5) := hy_ hy19 H
 have Ny19 := A_ hy19
 clear hy19
 simp only [Option.some.injEq, Prod.mk.injEq] at H
 obtain ⟨rfl, rfl, rfl, rfl, rfl⟩ := H
 go_enter Try.func90, Try.ntmps90
 try go_wp2_with (first | ((with_reducible refine gd_ (N := 1) rfl ?_); refine bx_ (N := 1) (cs := #[.slice A0_0 l0_0.length c0_0, .bool a0_1, .string a0_2, .int .i64 a0_3, .slice A0_4 l0_4.length c0_4]) (t := 57) ?_; intro gb16 hg w4 hbox hb; have BK16 := A_ (hbox); have GW16 := A_ (ge_ hg bB_ : w.heap.size <= gb16); have GE16 := A_ (ge_ hg bB_ : w.heap.size <= gb16); replace HB := A_ (below_step bB_ hb); clear hb hbox hg) | ((with_reducible refine gd_ (N := 2) rfl ?_); refine bx_ (N := 2) (cs := #[.slice none 0 0, .bool false, .string (⟨#[]⟩ : ByteArray), .int .i64 0, .slice none 0 0]) (t := 57) ?_; intro gb17 hg w5 hbox hb; have BK17 := A_ (hbox); have GW17 := A_ (ge_ hg (bG_ GE16.out) : w.heap.size <= gb17); have GE17 := A_ (ge_ hg (bG_ GE16.out) : w.heap.size <= gb17); replace HB := A_ (below_step (bG_ GE16.out) hb); have NB332_333 := A_ (gm_ hg BK16.out); have NB333_332 := A_ (gn_ hg BK16.out); replace BK16 := A_ (bw_ BK16.out hb); clear hb hbox hg))
 replace BK16 := A_ (blk_drew BK16.out)
 replace BK17 := A_ (blk_drew BK17.out)
 replace HB := A_ (below_drew1 HB.out)
 refine st5_ (n := 10) (ds := [7, 9]) (bl_ BK16.out 0) (bl_ BK16.out 1) (bl_ BK16.out 2) (bl_ BK16.out 3) (bl_ BK16.out 4) (fun hHeld => ?_); refine with_tabW impl_copyRes.tab1 impl_copyRes.bits1 (fun HT_ HW_ => ?_)
 generalize w5.drew = w6 at BK16 BK17 HB hHeld ⊢
 refine pu_ (i := 0) (N := some 3) ?_
 refine pu_ (i := 3) (N := some 6) ?_
 refine tk_ (i := 1) (N := some 4) hHeld ?_
 refine tk_ (i := 4) (N := some 7) hHeld ?_
 refine on_ (i := 2) (N := some 5) (fun K hK => ?_)
 refine goes_ Try.func77 (by kernel_rfl) rfl #[.slice A0_0 l0_0.length c0_0] (by rfl) rfl rfl ml_ ?_
 with_reducible refine (impl_copyPath.calls _ _ l0_0 t18 _ ?s1 ?s2 A2.out).mono ?_
 (case s1 => exact cC_ (Kd.C_below HR0_0.out HB.out))
 (case s2 => exact HC0_0.out)
 rintro e w7 ⟨v22, rfl, ho0, hb⟩
 refine ⟨_, rfl, ?_⟩
 have HO20 := A_ (Kd.R_lower ho0 (below_size (by repeat (first | (with_reducible first | exact HB.out | apply below_alloc | apply pw_below_drewN | apply below_drew1 | refine below_set ?_ GE16.out | refine below_set ?_ GE17.out) | exact HB.out))))
 replace BK16 := A_ (bw_ BK16.out hb)
 replace BK17 := A_ (bw_ BK17.out hb)
 replace HB := A_ (below_step (by repeat (first | (with_reducible first | exact HB.out | apply below_alloc | apply pw_below_drewN | apply below_drew1 | refine below_set ?_ GE16.out | refine below_set ?_ GE17.out) | exact HB.out)) hb)
 clear hb ho0
 refine hK.out _ _ (hl_ BK16.out) (fun hHeld => ?_)
 clear hK K
 refine no_ (some 5) ?_
 refine pu_ (i := 6) (N := some 9) ?_
 refine on_ (i := 5) (N := some 8) (fun K hK => ?_)
 refine Kd.R_append_rows_step k72 (w0 := w) w.heap.size rfl (.const (.slice none 0 0)) (.tmp 7) 55 72 (.agg #[(.string ⟨#[]⟩), (.string ⟨#[]⟩), (.string ⟨#[]⟩)]) 48 rfl Try.underlying55 info72 rfl (by decide) (by omega) (.slice none 0 0) ([] : List (S72)) l0_4 _ _ _ (fun _ => True) (fun _ => False) rfl rfl ?aO ?aR (fun _ _ h => h) (fun _ h => h.elim) ?aF ?aB ?aS ?aL ?_
 (case aR => exact cC_ (Kd.C_below HR0_4.out HB.out))
 (case aB => exact (by repeat (first | (with_reducible first | exact HB.out | apply below_alloc | apply pw_below_drewN | apply below_drew1 | refine below_set ?_ GE16.out | refine below_set ?_ GE17.out) | exact HB.out)))
 (case aF => exact (fun _ _ => trivial))
 (case aO => exact ((Kd.R_nil _ _ _ _ (fun _ => True))))
 (case aS => exact (below_size (by repeat (first | (with_reducible first | exact HB.out | apply below_alloc | apply pw_below_drewN | apply below_drew1 | refine below_set ?_ GE16.out | refine below_set ?_ GE17.out) | exact HB.out))))
 (case aL => have := LMc3.out; omega)
 intro v23 w8 ho hb hg hat
 rw [← Ny19.out] at ho
 replace BK16 := A_ (blk_grown (g := gb16) (o := .cells #[.slice A0_0 l0_0.length c0_0, .bool a0_1, .string a0_2, .int .i64 a0_3, .slice A0_4 l0_4.length c0_4] 57 (0, 0)) (vb_ BK16.out) hg (by simp [Value.ownBlock]))
 replace BK17 := A_ (blk_grown (g := gb17) (o := .cells #[.slice none 0 0, .bool false, .string (⟨#[]⟩ : ByteArray), .int .i64 0, .slice none 0 0] 57 (0, 0)) (vb_ BK17.out) hg (by simp [Value.ownBlock]))
 replace HO20 := A_ (Kd.R_grown (vR_ HO20.out) hg (fun _ _ => by simp [Value.ownBlock]))
 replace HB := A_ (hb)
 have HO21 := A_ (ho)
 clear ho hb hg hat
 obtain ⟨Ao9, co9, eo9⟩ := Kd.R_slice HO20.out
 (first | subst eo9 | (injection eo9 with f1_ f2_ f3_; have f4_ := f1_.symm; have f5_ := f3_.symm; clear f1_ f2_ f3_; subst f4_; subst f5_))
 obtain ⟨Ao11, co11, eo11⟩ := Kd.R_slice HO21.out
 (first | subst eo11 | (injection eo11 with f1_ f2_ f3_; have f4_ := f1_.symm; have f5_ := f3_.symm; clear f1_ f2_ f3_; subst f4_; subst f5_))
 refine hK.out _ _ (hl_ BK16.out) (fun hHeld => ?_)
 clear hK K
 refine no_ (some 8) ?_
 refine last_ (i := 7) (N := none) #[true, true, true, true, true, true, true, true, false, false] rfl rfl (one_of HT_.out (by kernel_rfl)) (by decide) (fun K hK => ?_)
 have hs10 : w8.cell? ⟨gb16, 0, none⟩ = some (.slice A0_0 l0_0.length c0_0) := bl_ BK16.out 0
 have hfs10 := blk_frozen BK16.out 0
 have hns10_1 := NB333_332.out
 have hms10_1 := NB332_333.out
 refine skip_ (w1 := ?_) (by rfl) rfl ?_ ?_
 rotate_left
 . go_simp
   rfl
 refine hK.out _ _ ?_
 clear hK K
 refine pu_ (i := 8) (N := some 10) ?_
 refine last_ (i := 9) (N := none) #[true, true, true, true, true, true, true, true, true, true] rfl rfl (one_of HT_.out (by kernel_rfl)) (by decide) (fun K hK => ?_)
 have hs12 : w8.cell? ⟨gb16, 4, none⟩ = some (.slice A0_4 l0_4.length c0_4) := bl_ BK16.out 4
 have hfs12 := blk_frozen BK16.out 4
 have hns12_1 := NB333_332.out
 have hms12_1 := NB332_333.out
 refine skip_ (w1 := ?_) (by rfl) rfl ?_ ?_
 rotate_left
 . go_simp
   rfl
 refine hK.out _ _ ?_
 clear hK K
 refine done_ (done_of HT_.out (by kernel_rfl)) ?_
 (try clear hHeld)
 have hnb13 := NB332_333.out
 have hnc13 := NB333_332.out
 obtain ⟨hcz14_0, hcz14_1, hcz14_2, hcz14_3, hcz14_4, hfz14_0, hfz14_1, hfz14_2, hfz14_3, hfz14_4⟩ := cz5_ BK16.out
 obtain ⟨hcz15_0, hcz15_1, hcz15_2, hcz15_3, hcz15_4, hfz15_0, hfz15_1, hfz15_2, hfz15_3, hfz15_4⟩ := cz5_ BK17.out
 try go_wp2
 refine bodyPost_ret (results_cell_row rfl _ _ gb17 57 #[.slice Ao9 t18.length co9, .bool a0_1, .string a0_2, .int .i64 a0_3, .slice Ao11 y19.length co11] (0, 0) _ rfl (by (with_reducible repeat (first | refine blk_drewN ?_ _ | refine blk_drew ?_ | refine blk_alloc ?_ _)); refine blk_put (cs := #[.slice Ao9 t18.length co9, .bool a0_1, .string a0_2, .int .i64 a0_3, .slice none 0 0]) ?_ 4 _ rfl; (with_reducible repeat (first | refine blk_drewN ?_ _ | refine blk_drew ?_ | refine blk_alloc ?_ _)); refine blk_put (cs := #[.slice Ao9 t18.length co9, .bool a0_1, .string a0_2, .int .i64 0, .slice none 0 0]) ?_ 3 _ rfl; (with_reducible repeat (first | refine blk_drewN ?_ _ | refine blk_drew ?_ | refine blk_alloc ?_ _)); refine blk_put (cs := #[.slice Ao9 t18.length co9, .bool a0_1, .string (⟨#[]⟩ : ByteArray), .int .i64 0, .slice none 0 0]) ?_ 2 _ rfl; (with_reducible repeat (first | refine blk_drewN ?_ _ | refine blk_drew ?_ | refine blk_alloc ?_ _)); refine blk_put (cs := #[.slice Ao9 t18.length co9, .bool false, .string (⟨#[]⟩ : ByteArray), .int .i64 0, .slice none 0 0]) ?_ 1 _ rfl; (with_reducible repeat (first | refine blk_drewN ?_ _ | refine blk_drew ?_ | refine blk_alloc ?_ _)); refine blk_put (cs := #[.slice none 0 0, .bool false, .string (⟨#[]⟩ : ByteArray), .int .i64 0, .slice none 0 0]) ?_ 0 _ rfl; (with_reducible repeat (first | refine blk_drewN ?_ _ | refine blk_drew ?_ | refine blk_alloc ?_ _)); refine blk_far ?_ NB333_332.out _; (with_reducible repeat (first | refine blk_drewN ?_ _ | refine blk_drew ?_ | refine blk_alloc ?_ _)); refine blk_far ?_ NB333_332.out _; (with_reducible repeat (first | refine blk_drewN ?_ _ | refine blk_drew ?_ | refine blk_alloc ?_ _)); exact BK17.out) Try.underlying57 rfl (by kernel_rfl)) rfl ?_
 exact ⟨_, _, rr_, by (with_reducible repeat (first | apply Kd.R_alloc | apply Kd.R_drewN | apply Kd.R_drew)); exact Kd.R_mono (Kd.R_far (p := ⟨gb17, 4, none⟩) (Kd.R_far (p := ⟨gb17, 3, none⟩) (Kd.R_far (p := ⟨gb17, 2, none⟩) (Kd.R_far (p := ⟨gb17, 1, none⟩) (Kd.R_far (p := ⟨gb17, 0, none⟩) (Kd.R_far (p := ⟨gb16, 4, none⟩) (Kd.R_far (p := ⟨gb16, 0, none⟩) (Kd.R_types (Kd.R_types HO20.out BK16.out (by decide)) BK17.out (by decide)) (fun _ hk => hk.1.2) (.slice Ao9 t18.length co9)) (fun _ hk => hk.1.2) (.slice Ao11 y19.length co11)) (fun _ hk => hk.2) (.slice Ao9 t18.length co9)) (fun _ hk => hk.2) (.bool a0_1)) (fun _ hk => hk.2) (.string a0_2)) (fun _ hk => hk.2) (.int .i64 a0_3)) (fun _ hk => hk.2) (.slice Ao11 y19.length co11)) (fun _ hk => trivial), by (with_reducible repeat (first | apply Kd.R_alloc | apply Kd.R_drewN | apply Kd.R_drew)); exact Kd.R_mono (Kd.R_far (p := ⟨gb17, 4, none⟩) (Kd.R_far (p := ⟨gb17, 3, none⟩) (Kd.R_far (p := ⟨gb17, 2, none⟩) (Kd.R_far (p := ⟨gb17, 1, none⟩) (Kd.R_far (p := ⟨gb17, 0, none⟩) (Kd.R_far (p := ⟨gb16, 4, none⟩) (Kd.R_far (p := ⟨gb16, 0, none⟩) (Kd.R_types (Kd.R_types HO21.out BK16.out (by decide)) BK17.out (by decide)) (fun _ hk => hk.1.2) (.slice Ao9 t18.length co9)) (fun _ hk => hk.1.2) (.slice Ao11 y19.length co11)) (fun _ hk => hk.2) (.slice Ao9 t18.length co9)) (fun _ hk => hk.2) (.bool a0_1)) (fun _ hk => hk.2) (.string a0_2)) (fun _ hk => hk.2) (.int .i64 a0_3)) (fun _ hk => hk.2) (.slice Ao11 y19.length co11)) (fun _ hk => trivial), by repeat (first | (with_reducible first | exact HB.out | apply below_alloc | apply pw_below_drewN | apply below_drew1 | refine below_set ?_ GE16.out | refine below_set ?_ GE17.out) | exact HB.out)⟩
def impl_copyTree.l0 : Nat -> List (S57) -> List (S57) -> Int -> Int -> Option ((List (S57)))
 | 0, _, _, _, _ => none
 | k + 1, x3, x6, x7, x8 => if x8 < x7 then (if 0 <= x8 then (if x8 < (x6.length : Int) then ((impl_copyRes.f ((rd_T57 x6 x8).f0) ((rd_T57 x6 x8).f1) ((rd_T57 x6 x8).f2) ((rd_T57 x6 x8).f3) ((rd_T57 x6 x8).f4)).bind fun bt342 => (if x3.length < 1759218604441 then (impl_copyTree.l0 k (x3 ++ [(⟨bt342.1, bt342.2.1, bt342.2.2.1, bt342.2.2.2.1, bt342.2.2.2.2⟩ : S57)]) x6 x7 (wrap64 (x8 + 1))) else (none))) else (none)) else (none)) else (some x3)
def impl_copyTree.f (k : Nat) (l0 : List (S57)) : Option ((List (S57))) := impl_copyTree.l0 k ([] : List (S57)) l0 (l0.length : Int) 0
theorem impl_copyTree.calls (k : Nat) (A0 : Option Addr) (c0 : Nat) (l0 : List (S57)) (r : List (S57)) (w : World) (hr0 : Kd.C k57 w A0 l0.length l0) (hc0 : l0.length <= c0) (h : impl_copyTree.f k l0 = some r) :
 Calls Try.prog 66 #[.slice A0 l0.length c0] w fun e w' => ∃ v0_ : Value, e = .returned (v0_) /\ Kd.S k57 57 w' w.heap.size (fun _ => True) v0_ r /\ Below w.heap.size w w' := by
 have hu57 := Try.underlying57
 have HR0 := A_ hr0
 clear hr0 hc0
 have HB := A_ (Below.refl w.heap.size w)
 have H : (impl_copyTree.l0 k ([] : List (S57)) l0 (l0.length : Int) 0) = some r := h
 clear h
 have H' := A_ H
 clear H
 go_enter Try.func66, Try.ntmps66
 go_wp2
 go_loopg [3, 8] k (fun kq v3 v8 w' => ∃ (x3_1 : List (S57)) (x8_1 : Int), v8 = .int .i64 x8_1 /\ Aside0 (impl_copyTree.l0 kq x3_1 l0 (l0.length : Int) x8_1 = some r) /\ Aside0 (kq <= k) /\ Aside0 (Kd.S k57 57 w' w.heap.size (fun _ => True) v3 x3_1) /\ Aside0 (Below w.heap.size w w'))
 case atStart => exact ⟨(([] : List (S57))), (0), rs_, H', ⟨Nat.le_refl _⟩, ⟨by first | exact Kd.S_nil _ _ _ _ _ | exact Kd.N_nil _ _ _ _ _ | exact Kd.V_nil _ _ _ _ _ | exact Kd.Q_nil _ _ _ _ _ | exact Kd.R_nil _ _ _ _ _⟩, ⟨bB_⟩⟩
 case round =>
  clear H'
  obtain ⟨x3_1, x8_1, rfl, HA, HK1, HO_3, HB⟩ := hrel
  cases gk with
  | zero => exact absurd HA.out (by simp [impl_copyTree.l0])
  | succ k1 =>
   have H := HA.out
   clear HA
   simp only [impl_copyTree.l0] at H
   by_cases c2 : x8_1 < (l0.length : Int)
   rotate_left
   . rw [if_neg c2] at H
     have c2b0 := decide_eq_false c2
     clear c2
     obtain rfl := si_ H
     go_wp2
     go_ret
     exact ⟨_, rr_, vS_ HO_3.out, bB_⟩
   rw [if_pos c2] at H
   have c2b0 := decide_eq_true c2
   clear c2
   by_cases c3 : 0 <= x8_1
   rotate_left
   . exact absurd H (by rw [if_neg c3]; simp)
   rw [if_pos c3] at H
   have c3b0 := decide_eq_true c3
   clear c3
   by_cases c4 : x8_1 < (l0.length : Int)
   rotate_left
   . exact absurd H (by rw [if_neg c4]; simp)
   rw [if_pos c4] at H
   have c4b0 := decide_eq_true c4
   clear c4
   obtain ⟨⟨t16, t18, t19, t20, t17⟩, A5, H⟩ := bo_ H
   (try dsimp only at H)
   by_cases c6 : x3_1.length < 1759218604441
   rotate_left
   . exact absurd H (by rw [if_neg c6]; simp)
   rw [if_pos c6] at H
   have LMc6 := A_ c6
   clear c6
   obtain ⟨y15, hy15⟩ : ∃ y_ : List (S57), y_ = (x3_1 ++ [(⟨t16, t18, t19, t20, t17⟩ : S57)]) := ⟨_, rfl⟩
   replace H : (impl_copyTree.l0 k1 y15 l0 (l0.length : Int) (wrap64 (x8_1 + 1))) = some r := hy_ hy15 H
   have Ny15 := A_ hy15
   clear hy15
   have H' := A_ H
   clear H
   have p13 : 0 <= (x8_1 : Int) := od_
   have q13 : x8_1 < (l0.length : Int) := od_
   obtain ⟨ad13, A13_0, c13_0, A13_4, c13_4, e13, hx13_0, hx13_1, hx13_2, hx13_3, hx13_4, hl13_0, hi13_0, hl13_4, hi13_4⟩ := at_T57 HR0.out x8_1 p13 q13
   cases e13
   replace hx13_0 := bc_ HB.out hx13_0
   replace hx13_1 := bc_ HB.out hx13_1
   replace hx13_2 := bc_ HB.out hx13_2
   replace hx13_3 := bc_ HB.out hx13_3
   replace hx13_4 := bc_ HB.out hx13_4
   have HR13_0 := A_ hi13_0
   have HC13_0 := A_ hl13_0
   clear hi13_0 hl13_0
   have HR13_4 := A_ hi13_4
   have HC13_4 := A_ hl13_4
   clear hi13_4 hl13_4
   replace p13 := eq_true p13
   replace q13 := eq_true q13
   go_wp2_with (first | ((with_reducible refine gd_ (N := 5) rfl ?_); refine bx_ (N := 5) (cs := #[.slice none 0 0, .bool false, .string (⟨#[]⟩ : ByteArray), .int .i64 0, .slice none 0 0]) (t := 57) ?_; intro gb14 hg w7 hbox hb; replace HO_3 := A_ (Kd.S_below (Kd.S_elderB (vS_ HO_3.out) gb14 (Nat.le_of_eq hg.symm)) hb); have BK14 := A_ (hbox); have GW14 := A_ (ge_ hg bB_ : w.heap.size <= gb14); have GE14 := A_ (ge_ hg bB_ : w.heap.size <= gb14); replace HB := A_ (below_step bB_ hb); clear hb hbox hg; obtain ⟨hcz8_0, hcz8_1, hcz8_2, hcz8_3, hcz8_4, hfz8_0, hfz8_1, hfz8_2, hfz8_3, hfz8_4⟩ := cz5_ BK14.out) | ((with_reducible refine gc_ (f := 90) rfl ?_); refine gL_ (some 14) Try.func90 #[.agg #[.slice A13_0 ((rd_T57 l0 x8_1).f0).length c13_0, .bool ((rd_T57 l0 x8_1).f1), .string ((rd_T57 l0 x8_1).f2), .int .i64 ((rd_T57 l0 x8_1).f3), .slice A13_4 ((rd_T57 l0 x8_1).f4).length c13_4]] ?_; (with_reducible refine (impl_copyRes.calls _ _ ((rd_T57 l0 x8_1).f0) ((rd_T57 l0 x8_1).f1) ((rd_T57 l0 x8_1).f2) ((rd_T57 l0 x8_1).f3) _ _ ((rd_T57 l0 x8_1).f4) t16 t18 t19 t20 t17 _ ?s1 ?s2 ?s3 ?s4 A5.out).mono ?_); (case s1 => exact Kd.C_below HR13_0.out (bG_ GE14.out)); (case s2 => exact HC13_0.out); (case s3 => exact Kd.C_below HR13_4.out (bG_ GE14.out)); (case s4 => exact HC13_4.out); rintro e w9 ⟨v24, v25, rfl, ho0, ho1, hb⟩; refine ⟨_, rfl, ?_⟩; replace HO_3 := A_ (Kd.S_mono (Kd.S_told (Kd.S_told (Kd.S_old (by (with_reducible repeat (first | apply Kd.S_alloc | apply Kd.S_drewN | apply Kd.S_drew)); exact (Kd.S_mono (Kd.S_far (p := ⟨gb14, 4, none⟩) (Kd.S_far (p := ⟨gb14, 3, none⟩) (Kd.S_far (p := ⟨gb14, 2, none⟩) (Kd.S_far (p := ⟨gb14, 1, none⟩) (Kd.S_far (p := ⟨gb14, 0, none⟩) (Kd.S_mono HO_3.out (fun k_ hk => (⟨hk, hk.2⟩ : _ /\ k_ ≠ gb14))) (fun _ hk => hk.2) (.slice A13_0 ((rd_T57 l0 x8_1).f0).length c13_0)) (fun _ hk => hk.2) (.bool ((rd_T57 l0 x8_1).f1))) (fun _ hk => hk.2) (.string ((rd_T57 l0 x8_1).f2))) (fun _ hk => hk.2) (.int .i64 ((rd_T57 l0 x8_1).f3))) (fun _ hk => hk.2) (.slice A13_4 ((rd_T57 l0 x8_1).f4).length c13_4)) (fun _ h_ => h_.1))) hb) (kb_ ho0)) (kb_ ho1)) (fun _ h_ => h_.1)); have HO21 := A_ (Kd.R_lower ho0 (below_size (bG_ GE14.out))); have HO22 := A_ (Kd.R_lower ho1 (below_size (bG_ GE14.out))); replace BK14 := A_ (blk_below (g := gb14) (o := .cells #[.slice A13_0 ((rd_T57 l0 x8_1).f0).length c13_0, .bool ((rd_T57 l0 x8_1).f1), .string ((rd_T57 l0 x8_1).f2), .int .i64 ((rd_T57 l0 x8_1).f3), .slice A13_4 ((rd_T57 l0 x8_1).f4).length c13_4] 57 (0, 0)) (by (with_reducible repeat (first | refine blk_drewN ?_ _ | refine blk_drew ?_ | refine blk_alloc ?_ _)); with_reducible exact p5_01234_ (vb_ BK14.out)) hb); replace HB := A_ (below_step (bG_ GE14.out) hb); (try clear hb); (try clear hk); (try clear ho0); (try clear ho1); obtain ⟨Ao11, co11, eo11⟩ := Kd.R_slice HO21.out; subst eo11; obtain ⟨Ao12, co12, eo12⟩ := Kd.R_slice HO22.out; subst eo12) | ((with_reducible refine gate_builtin (b := .append) (xs := #[.tmp 12, .tmp 15]) rfl ?_); at_builtin; refine Kd.S_append k57 (w0 := w) w.heap.size rfl (.tmp 12) (.tmp 15) 26 57 (.agg #[(.slice none 0 0), (.bool false), (.string ⟨#[]⟩), (.int .i64 0), (.slice none 0 0)]) 80 rfl Try.underlying26 info57 rfl (by decide) (by omega) u3 x3_1 (⟨t16, t18, t19, t20, t17⟩ : S57) [.slice Ao11 t16.length co11, .bool t18, .string t19, .int .i64 t20, .slice Ao12 t17.length co12] (fun k_ => k_ ≠ gb14) (fun k_ => some k_ = (.slice Ao11 t16.length co11 : Value).ownBlock \/ some k_ = (.slice Ao12 t17.length co12 : Value).ownBlock) rfl rfl ?aP (fun k_ hk_ => hk_.elim (fun h_ => ((Kd.R_mono (ok' := fun k_ => ((fun k_ => k_ ≠ gb14)) k_ /\ some k_ ≠ (u3 : Value).ownBlock) (Kd.R_types (Kd.R_apart' (HO21.out) (Kd.S_typed HO_3.out) (by decide)) BK14.out (by decide)) (fun k_ hk => ⟨hk.2, hk.1.2⟩))).1 k_ h_.symm) (fun h_ => ((Kd.R_mono (ok' := fun k_ => ((fun k_ => k_ ≠ gb14)) k_ /\ some k_ ≠ (u3 : Value).ownBlock) (Kd.R_types (Kd.R_apart' (HO22.out) (Kd.S_typed HO_3.out) (by decide)) BK14.out (by decide)) (fun k_ hk => ⟨hk.2, hk.1.2⟩))).1 k_ h_.symm)) ?aF ?aO ?aB ?aS ?aL ?_; (case aP => exact k57_mkM _ _ _ (⟨t16, t18, t19, t20, t17⟩ : S57) (Kd.R_mono (Kd.R_tight rfl (Kd.R_mono (ok' := fun k_ => ((fun k_ => k_ ≠ gb14)) k_ /\ some k_ ≠ (u3 : Value).ownBlock) (Kd.R_types (Kd.R_apart' (HO21.out) (Kd.S_typed HO_3.out) (by decide)) BK14.out (by decide)) (fun k_ hk => ⟨hk.2, hk.1.2⟩))) (fun _ h_ => Or.inl h_)) (Kd.R_mono (Kd.R_tight rfl (Kd.R_mono (ok' := fun k_ => ((fun k_ => k_ ≠ gb14)) k_ /\ some k_ ≠ (u3 : Value).ownBlock) (Kd.R_types (Kd.R_apart' (HO22.out) (Kd.S_typed HO_3.out) (by decide)) BK14.out (by decide)) (fun k_ hk => ⟨hk.2, hk.1.2⟩))) (fun _ h_ => Or.inr (h_)))); (case aB => exact (bG_ GE14.out)); (case aF => exact (fun k_ hk => Kd.freshB (g := gb14) (o := .cells #[.slice A13_0 ((rd_T57 l0 x8_1).f0).length c13_0, .bool ((rd_T57 l0 x8_1).f1), .string ((rd_T57 l0 x8_1).f2), .int .i64 ((rd_T57 l0 x8_1).f3), .slice A13_4 ((rd_T57 l0 x8_1).f4).length c13_4] 57 (0, 0)) (vb_ BK14.out) k_ hk)); (case aO => exact (by (with_reducible repeat (first | apply Kd.S_alloc | apply Kd.S_drewN | apply Kd.S_drew)); exact Kd.S_mono HO_3.out (fun k_ hk => ⟨hk.1.1.2, fun e_ => e_.elim (fun h_ => hk.1.2 h_) (fun h_ => hk.2 h_)⟩))); (case aS => exact (below_size (bG_ GE14.out))); (case aL => have := LMc6.out; omega); intro v26 w10 ho hb hg hat; rw [← Ny15.out] at ho; replace HB := A_ (hb); have HO23 := A_ (ho); clear HO_3 HO21 HO22; clear ho hb hg hat))
   go_roundg k1
   case measure => have := HK1.out; omega
   case rel => exact ⟨(y15), (wrap64 (x8_1 + 1)), rs_, H', ⟨by have := HK1.out; omega⟩, ⟨by (with_reducible repeat (first | apply Kd.S_alloc | apply Kd.S_drewN | apply Kd.S_drew)); exact Kd.S_mono HO23.out (fun _ hk => trivial)⟩, ⟨bG_ GE14.out⟩⟩
def impl_Under.f (k : Nat) (l0 : List ByteArray) (l1 : List ByteArray) : Option (Bool) := if (l0.length : Int) > (l1.length : Int) then (if 0 <= (l1.length : Int) then (if (l1.length : Int) <= (l0.length : Int) then ((impl_SamePath.f k (l0.take ((l1.length : Int) : Int).toNat) l1).bind fun t355 => (some t355)) else (none)) else (none)) else (some false)
theorem impl_Under.calls (k : Nat) (A0 : Option Addr) (c0 : Nat) (l0 : List ByteArray) (A1 : Option Addr) (c1 : Nat) (l1 : List ByteArray) (r : Bool) (w : World) (hr0 : Kd.C Kd.string w A0 l0.length l0) (hc0 : l0.length <= c0) (hr1 : Kd.C Kd.string w A1 l1.length l1) (hc1 : l1.length <= c1) (h : impl_Under.f k l0 l1 = some r) :
 Calls Try.prog 48 #[.slice A0 l0.length c0, .slice A1 l1.length c1] w fun e w' => e = .returned (.bool r) /\ Drawn0 w w' := by
 have HR0 := A_ hr0
 have HC0 := A_ hc0
 clear hr0 hc0
 have HR1 := A_ hr1
 have HC1 := A_ hc1
 clear hr1 hc1
 have H : (if (l0.length : Int) > (l1.length : Int) then (if 0 <= (l1.length : Int) then (if (l1.length : Int) <= (l0.length : Int) then ((impl_SamePath.f k (l0.take ((l1.length : Int) : Int).toNat) l1).bind fun t8 => (some t8)) else (none)) else (none)) else (some false)) = some r := h
 clear h
 by_cases c3 : (l0.length : Int) > (l1.length : Int)
 rotate_left
 . rw [if_neg c3] at H
   have c3b0 : decide ((l1.length : Int) < (l0.length : Int)) = false := decide_eq_false c3
   have c3b1 : decide (l1.length < l0.length) = false := decide_eq_false (fun h => c3 (Int.ofNat_lt.mpr h))
   clear c3
   obtain rfl := si_ H
   go_enter Try.func48, Try.ntmps48
   go_wp2
   go_ret
   exact ⟨rs_, dr_⟩
 rw [if_pos c3] at H
 have c3b0 : decide ((l1.length : Int) < (l0.length : Int)) = true := decide_eq_true c3
 have c3b1 : decide (l1.length < l0.length) = true := decide_eq_true (Int.ofNat_lt.mp c3)
 clear c3
 by_cases c4 : 0 <= (l1.length : Int)
 rotate_left
 . exact absurd H (by rw [if_neg c4]; simp)
 rw [if_pos c4] at H
 have c4b0 := eq_true c4
 have c4b1 := decide_eq_true c4
 clear c4
 by_cases c5 : (l1.length : Int) <= (l0.length : Int)
 rotate_left
 . exact absurd H (by rw [if_neg c5]; simp)
 rw [if_pos c5] at H
 have c5b0 := eq_true c5
 have c5b1 := decide_eq_true c5
 clear c5
 obtain ⟨t8, A6, H⟩ := bo_ H
 (try dsimp only at H)
 obtain rfl := si_ H
 obtain ⟨i07, hi07, _, hsz7, _⟩ := info_parts info9
 obtain ⟨hcut7, hA7, hC7⟩ := print_take_of (P := Try.prog) Value.string (⟨#[]⟩ : ByteArray) 23 9 .i64 Try.underlying23 hi07 hsz7 A0 c0 l0 (l1.length : Int) od_ od_ HC0.out
 have HR10 := A_ (Kd.C_of_reads (h1 := fun _ => rfl) (hA7 _ (Kd.reads_of_C HR0.out)))
 have HC10 := A_ hC7
 clear hA7 hC7 hi07 hsz7
 go_enter Try.func48, Try.ntmps48
 go_wp2_with (first | (go_at_call 47; refine calls_of_args (args' := #[.slice A0 (l0.take ((l1.length : Int) : Int).toNat).length c0, .slice A1 l1.length c1]) (by first | (simp only [List.length_take, List.length_drop, Int.toNat_natCast]; done) | (rw [show (l0.take ((l1.length : Int) : Int).toNat).length = (l1.length : Int).toNat from (by rw [List.length_take]; have h_ : ((l1.length : Int) : Int) <= (l0.length : Int) := od_; omega)] <;> rfl) | rfl) ?_; (with_reducible refine (impl_SamePath.calls k _ _ (l0.take ((l1.length : Int) : Int).toNat) _ _ l1 t8 _ ?s1 ?s2 ?s3 ?s4 A6.out).mono ?_); (case s1 => exact cC_ HR10.out); (case s2 => exact HC10.out); (case s3 => exact cC_ HR1.out); (case s4 => exact HC1.out); rintro e w' ⟨rfl, ⟨nd, rfl⟩⟩))
 go_ret
 exact ⟨rs_, dr_⟩
def impl_isAt.f (k : Nat) (l0 : List ByteArray) (l1 : List ByteArray) : Option (Bool) := (impl_SamePath.f k l0 l1).bind fun t356 => (if t356 = true then (some true) else ((impl_Under.f k l0 l1).bind fun t357 => (some t357)))
theorem impl_isAt.calls (k : Nat) (A0 : Option Addr) (c0 : Nat) (l0 : List ByteArray) (A1 : Option Addr) (c1 : Nat) (l1 : List ByteArray) (r : Bool) (w : World) (hr0 : Kd.C Kd.string w A0 l0.length l0) (hc0 : l0.length <= c0) (hr1 : Kd.C Kd.string w A1 l1.length l1) (hc1 : l1.length <= c1) (h : impl_isAt.f k l0 l1 = some r) :
 Calls Try.prog 89 #[.slice A0 l0.length c0, .slice A1 l1.length c1] w fun e w' => e = .returned (.bool r) /\ Drawn0 w w' := by
 have HR0 := A_ hr0
 have HC0 := A_ hc0
 clear hr0 hc0
 have HR1 := A_ hr1
 have HC1 := A_ hc1
 clear hr1 hc1
 have H : ((impl_SamePath.f k l0 l1).bind fun t6 => (if t6 = true then (some true) else ((impl_Under.f k l0 l1).bind fun t7 => (some t7)))) = some r := h
 clear h
 obtain ⟨t6, A3, H⟩ := bo_ H
 (try dsimp only at H)
 by_cases c4 : t6 = true
 . subst c4
   rw [if_pos rfl] at H
   obtain rfl := si_ H
   go_enter Try.func89, Try.ntmps89
   go_wp2_with (first | ((with_reducible refine gc_ (f := 47) rfl ?_); refine gL_ (some 7) Try.func47 #[.slice A0 l0.length c0, .slice A1 l1.length c1] ?_; (with_reducible refine (impl_SamePath.calls k _ _ l0 _ _ l1 true _ ?s1 ?s2 ?s3 ?s4 A3.out).mono ?_); (case s1 => exact cC_ HR0.out); (case s2 => exact HC0.out); (case s3 => exact cC_ HR1.out); (case s4 => exact HC1.out); rintro e w' ⟨rfl, ⟨nd, rfl⟩⟩; refine ⟨_, rfl, ?_⟩))
   go_ret
   exact ⟨rs_, dr_⟩
 . replace c4 := Bool.eq_false_iff.mpr c4
   subst c4
   rw [if_neg nf_] at H
   obtain ⟨t7, A5, H⟩ := bo_ H
   (try dsimp only at H)
   obtain rfl := si_ H
   go_enter Try.func89, Try.ntmps89
   go_wp2_with (first | ((with_reducible refine gc_ (f := 47) rfl ?_); refine gL_ (some 7) Try.func47 #[.slice A0 l0.length c0, .slice A1 l1.length c1] ?_; (with_reducible refine (impl_SamePath.calls k _ _ l0 _ _ l1 false _ ?s1 ?s2 ?s3 ?s4 A3.out).mono ?_); (case s1 => exact cC_ HR0.out); (case s2 => exact HC0.out); (case s3 => exact cC_ HR1.out); (case s4 => exact HC1.out); rintro e w' ⟨rfl, ⟨nd, rfl⟩⟩; refine ⟨_, rfl, ?_⟩) | (go_at_call 48; (with_reducible refine (impl_Under.calls k _ _ l0 _ _ l1 t7 _ ?s1 ?s2 ?s3 ?s4 A5.out).mono ?_); (case s1 => exact cC_ HR0.out); (case s2 => exact HC0.out); (case s3 => exact cC_ HR1.out); (case s4 => exact HC1.out); rintro e w' ⟨rfl, ⟨nd, rfl⟩⟩))
   go_ret
   exact ⟨rs_, dr_⟩
def impl_without.l0 : Nat -> List ByteArray -> List (S57) -> List (S57) -> Int -> Int -> Option ((List (S57)))
 | 0, _, _, _, _, _ => none
 | k + 1, x1, x5, x8, x9, x10 => if x10 < x9 then (if 0 <= x10 then (if x10 < (x8.length : Int) then ((impl_isAt.f k ((rd_T57 x8 x10).f0) x1).bind fun t360 => (if t360 = true then (impl_without.l0 k x1 x5 x8 x9 (wrap64 (x10 + 1))) else ((impl_copyRes.f ((rd_T57 x8 x10).f0) ((rd_T57 x8 x10).f1) ((rd_T57 x8 x10).f2) ((rd_T57 x8 x10).f3) ((rd_T57 x8 x10).f4)).bind fun bt361 => (if x5.length < 1759218604441 then (impl_without.l0 k x1 (x5 ++ [(⟨bt361.1, bt361.2.1, bt361.2.2.1, bt361.2.2.2.1, bt361.2.2.2.2⟩ : S57)]) x8 x9 (wrap64 (x10 + 1))) else (none))))) else (none)) else (none)) else (some x5)
def impl_without.f (k : Nat) (l0 : List (S57)) (l1 : List ByteArray) : Option ((List (S57))) := impl_without.l0 k l1 ([] : List (S57)) l0 (l0.length : Int) 0
theorem impl_without.calls (k : Nat) (A0 : Option Addr) (c0 : Nat) (l0 : List (S57)) (A1 : Option Addr) (c1 : Nat) (l1 : List ByteArray) (r : List (S57)) (w : World) (hr0 : Kd.C k57 w A0 l0.length l0) (hc0 : l0.length <= c0) (hr1 : Kd.C Kd.string w A1 l1.length l1) (hc1 : l1.length <= c1) (h : impl_without.f k l0 l1 = some r) :
 Calls Try.prog 67 #[.slice A0 l0.length c0, .slice A1 l1.length c1] w fun e w' => ∃ v0_ : Value, e = .returned (v0_) /\ Kd.S k57 57 w' w.heap.size (fun _ => True) v0_ r /\ Below w.heap.size w w' := by
 have hu57 := Try.underlying57
 have HR0 := A_ hr0
 clear hr0 hc0
 have HR1 := A_ hr1
 have HC1 := A_ hc1
 clear hr1 hc1
 have HB := A_ (Below.refl w.heap.size w)
 have H : (impl_without.l0 k l1 ([] : List (S57)) l0 (l0.length : Int) 0) = some r := h
 clear h
 have H' := A_ H
 clear H
 go_enter Try.func67, Try.ntmps67
 go_wp2
 go_loopg [5, 10] k (fun kq v5 v10 w' => ∃ (x5_1 : List (S57)) (x10_1 : Int), v10 = .int .i64 x10_1 /\ Aside0 (impl_without.l0 kq l1 x5_1 l0 (l0.length : Int) x10_1 = some r) /\ Aside0 (kq <= k) /\ Aside0 (Kd.S k57 57 w' w.heap.size (fun _ => True) v5 x5_1) /\ Aside0 (Below w.heap.size w w'))
 case atStart => exact ⟨(([] : List (S57))), (0), rs_, H', ⟨Nat.le_refl _⟩, ⟨by first | exact Kd.S_nil _ _ _ _ _ | exact Kd.N_nil _ _ _ _ _ | exact Kd.V_nil _ _ _ _ _ | exact Kd.Q_nil _ _ _ _ _ | exact Kd.R_nil _ _ _ _ _⟩, ⟨bB_⟩⟩
 case round =>
  clear H'
  obtain ⟨x5_1, x10_1, rfl, HA, HK1, HO_5, HB⟩ := hrel
  cases gk with
  | zero => exact absurd HA.out (by simp [impl_without.l0])
  | succ k1 =>
   have H := HA.out
   clear HA
   simp only [impl_without.l0] at H
   by_cases c3 : x10_1 < (l0.length : Int)
   rotate_left
   . rw [if_neg c3] at H
     have c3b0 := decide_eq_false c3
     clear c3
     obtain rfl := si_ H
     go_wp2
     go_ret
     exact ⟨_, rr_, vS_ HO_5.out, bB_⟩
   rw [if_pos c3] at H
   have c3b0 := decide_eq_true c3
   clear c3
   by_cases c4 : 0 <= x10_1
   rotate_left
   . exact absurd H (by rw [if_neg c4]; simp)
   rw [if_pos c4] at H
   have c4b0 := decide_eq_true c4
   clear c4
   by_cases c5 : x10_1 < (l0.length : Int)
   rotate_left
   . exact absurd H (by rw [if_neg c5]; simp)
   rw [if_pos c5] at H
   have c5b0 := decide_eq_true c5
   clear c5
   obtain ⟨t28, A6, H⟩ := bo_ H
   (try dsimp only at H)
   by_cases c7 : t28 = true
   . subst c7
     rw [if_pos rfl] at H
     have H' := A_ H
     clear H
     have p18 : 0 <= (x10_1 : Int) := od_
     have q18 : x10_1 < (l0.length : Int) := od_
     obtain ⟨ad18, A18_0, c18_0, A18_4, c18_4, e18, hx18_0, hx18_1, hx18_2, hx18_3, hx18_4, hl18_0, hi18_0, hl18_4, hi18_4⟩ := at_T57 HR0.out x10_1 p18 q18
     cases e18
     replace hx18_0 := bc_ HB.out hx18_0
     replace hx18_1 := bc_ HB.out hx18_1
     replace hx18_2 := bc_ HB.out hx18_2
     replace hx18_3 := bc_ HB.out hx18_3
     replace hx18_4 := bc_ HB.out hx18_4
     have HR18_0 := A_ hi18_0
     have HC18_0 := A_ hl18_0
     clear hi18_0 hl18_0
     clear hi18_4 hl18_4
     replace p18 := eq_true p18
     replace q18 := eq_true q18
     go_wp2_with (first | ((with_reducible refine gd_ (N := 7) rfl ?_); refine bx_ (N := 7) (cs := #[.slice none 0 0, .bool false, .string (⟨#[]⟩ : ByteArray), .int .i64 0, .slice none 0 0]) (t := 57) ?_; intro gb19 hg w8 hbox hb; replace HO_5 := A_ (Kd.S_below (Kd.S_elderB (vS_ HO_5.out) gb19 (Nat.le_of_eq hg.symm)) hb); have BK19 := A_ (hbox); have GW19 := A_ (ge_ hg bB_ : w.heap.size <= gb19); have GE19 := A_ (ge_ hg bB_ : w.heap.size <= gb19); replace HB := A_ (below_step bB_ hb); clear hb hbox hg; obtain ⟨hcz9_0, hcz9_1, hcz9_2, hcz9_3, hcz9_4, hfz9_0, hfz9_1, hfz9_2, hfz9_3, hfz9_4⟩ := cz5_ BK19.out) | ((with_reducible refine gc_ (f := 89) rfl ?_); refine gL_ (some 17) Try.func89 #[.slice A18_0 ((rd_T57 l0 x10_1).f0).length c18_0, .slice A1 l1.length c1] ?_; (with_reducible refine (impl_isAt.calls k1 _ _ ((rd_T57 l0 x10_1).f0) _ _ l1 true _ ?s1 ?s2 ?s3 ?s4 A6.out).mono ?_); (case s1 => exact Kd.C_below HR18_0.out (bG_ GE19.out)); (case s2 => exact HC18_0.out); (case s3 => exact Kd.C_below HR1.out (bG_ GE19.out)); (case s4 => exact HC1.out); rintro e w' ⟨rfl, ⟨nd, rfl⟩⟩; refine ⟨_, rfl, ?_⟩))
     go_roundg k1
     case measure => have := HK1.out; omega
     case rel => exact ⟨(x5_1), (wrap64 (x10_1 + 1)), rs_, H', ⟨by have := HK1.out; omega⟩, ⟨by (with_reducible repeat (first | apply Kd.S_alloc | apply Kd.S_drewN | apply Kd.S_drew)); exact Kd.S_mono (Kd.S_far (p := ⟨gb19, 4, none⟩) (Kd.S_far (p := ⟨gb19, 3, none⟩) (Kd.S_far (p := ⟨gb19, 2, none⟩) (Kd.S_far (p := ⟨gb19, 1, none⟩) (Kd.S_far (p := ⟨gb19, 0, none⟩) (Kd.S_mono HO_5.out (fun k_ hk => (⟨hk, hk.2⟩ : _ /\ k_ ≠ gb19))) (fun _ hk => hk.2) (.slice A18_0 ((rd_T57 l0 x10_1).f0).length c18_0)) (fun _ hk => hk.2) (.bool ((rd_T57 l0 x10_1).f1))) (fun _ hk => hk.2) (.string ((rd_T57 l0 x10_1).f2))) (fun _ hk => hk.2) (.int .i64 ((rd_T57 l0 x10_1).f3))) (fun _ hk => hk.2) (.slice A18_4 ((rd_T57 l0 x10_1).f4).length c18_4)) (fun _ hk => trivial)⟩, ⟨bG_ GE19.out⟩⟩
   . replace c7 := Bool.eq_false_iff.mpr c7
     subst c7
     rw [if_neg nf_] at H
     obtain ⟨⟨t21, t23, t24, t25, t22⟩, A10, H⟩ := bo_ H
     (try dsimp only at H)
     by_cases c11 : x5_1.length < 1759218604441
     rotate_left
     . exact absurd H (by rw [if_neg c11]; simp)
     rw [if_pos c11] at H
     have LMc11 := A_ c11
     clear c11
     obtain ⟨y20, hy20⟩ : ∃ y_ : List (S57), y_ = (x5_1 ++ [(⟨t21, t23, t24, t25, t22⟩ : S57)]) := ⟨_, rfl⟩
     replace H : (impl_without.l0 k1 l1 y20 l0 (l0.length : Int) (wrap64 (x10_1 + 1))) = some r := hy_ hy20 H
     have Ny20 := A_ hy20
     clear hy20
     have H' := A_ H
     clear H
     have p18 : 0 <= (x10_1 : Int) := od_
     have q18 : x10_1 < (l0.length : Int) := od_
     obtain ⟨ad18, A18_0, c18_0, A18_4, c18_4, e18, hx18_0, hx18_1, hx18_2, hx18_3, hx18_4, hl18_0, hi18_0, hl18_4, hi18_4⟩ := at_T57 HR0.out x10_1 p18 q18
     cases e18
     replace hx18_0 := bc_ HB.out hx18_0
     replace hx18_1 := bc_ HB.out hx18_1
     replace hx18_2 := bc_ HB.out hx18_2
     replace hx18_3 := bc_ HB.out hx18_3
     replace hx18_4 := bc_ HB.out hx18_4
     have HR18_0 := A_ hi18_0
     have HC18_0 := A_ hl18_0
     clear hi18_0 hl18_0
     have HR18_4 := A_ hi18_4
     have HC18_4 := A_ hl18_4
     clear hi18_4 hl18_4
     replace p18 := eq_true p18
     replace q18 := eq_true q18
     go_wp2_with (first | ((with_reducible refine gd_ (N := 7) rfl ?_); refine bx_ (N := 7) (cs := #[.slice none 0 0, .bool false, .string (⟨#[]⟩ : ByteArray), .int .i64 0, .slice none 0 0]) (t := 57) ?_; intro gb19 hg w12 hbox hb; replace HO_5 := A_ (Kd.S_below (Kd.S_elderB (vS_ HO_5.out) gb19 (Nat.le_of_eq hg.symm)) hb); have BK19 := A_ (hbox); have GW19 := A_ (ge_ hg bB_ : w.heap.size <= gb19); have GE19 := A_ (ge_ hg bB_ : w.heap.size <= gb19); replace HB := A_ (below_step bB_ hb); clear hb hbox hg; obtain ⟨hcz13_0, hcz13_1, hcz13_2, hcz13_3, hcz13_4, hfz13_0, hfz13_1, hfz13_2, hfz13_3, hfz13_4⟩ := cz5_ BK19.out) | ((with_reducible refine gc_ (f := 89) rfl ?_); refine gL_ (some 17) Try.func89 #[.slice A18_0 ((rd_T57 l0 x10_1).f0).length c18_0, .slice A1 l1.length c1] ?_; (with_reducible refine (impl_isAt.calls k1 _ _ ((rd_T57 l0 x10_1).f0) _ _ l1 false _ ?s1 ?s2 ?s3 ?s4 A6.out).mono ?_); (case s1 => exact Kd.C_below HR18_0.out (bG_ GE19.out)); (case s2 => exact HC18_0.out); (case s3 => exact Kd.C_below HR1.out (bG_ GE19.out)); (case s4 => exact HC1.out); rintro e w' ⟨rfl, ⟨nd, rfl⟩⟩; refine ⟨_, rfl, ?_⟩) | ((with_reducible refine gc_ (f := 90) rfl ?_); refine gL_ (some 21) Try.func90 #[.agg #[.slice A18_0 ((rd_T57 l0 x10_1).f0).length c18_0, .bool ((rd_T57 l0 x10_1).f1), .string ((rd_T57 l0 x10_1).f2), .int .i64 ((rd_T57 l0 x10_1).f3), .slice A18_4 ((rd_T57 l0 x10_1).f4).length c18_4]] ?_; (with_reducible refine (impl_copyRes.calls _ _ ((rd_T57 l0 x10_1).f0) ((rd_T57 l0 x10_1).f1) ((rd_T57 l0 x10_1).f2) ((rd_T57 l0 x10_1).f3) _ _ ((rd_T57 l0 x10_1).f4) t21 t23 t24 t25 t22 _ ?s1 ?s2 ?s3 ?s4 A10.out).mono ?_); (case s1 => exact Kd.C_below HR18_0.out (bG_ GE19.out)); (case s2 => exact HC18_0.out); (case s3 => exact Kd.C_below HR18_4.out (bG_ GE19.out)); (case s4 => exact HC18_4.out); rintro e w14 ⟨v30, v31, rfl, ho0, ho1, hb⟩; refine ⟨_, rfl, ?_⟩; replace HO_5 := A_ (Kd.S_mono (Kd.S_told (Kd.S_told (Kd.S_old (by (with_reducible repeat (first | apply Kd.S_alloc | apply Kd.S_drewN | apply Kd.S_drew)); exact (Kd.S_mono (Kd.S_far (p := ⟨gb19, 4, none⟩) (Kd.S_far (p := ⟨gb19, 3, none⟩) (Kd.S_far (p := ⟨gb19, 2, none⟩) (Kd.S_far (p := ⟨gb19, 1, none⟩) (Kd.S_far (p := ⟨gb19, 0, none⟩) (Kd.S_mono HO_5.out (fun k_ hk => (⟨hk, hk.2⟩ : _ /\ k_ ≠ gb19))) (fun _ hk => hk.2) (.slice A18_0 ((rd_T57 l0 x10_1).f0).length c18_0)) (fun _ hk => hk.2) (.bool ((rd_T57 l0 x10_1).f1))) (fun _ hk => hk.2) (.string ((rd_T57 l0 x10_1).f2))) (fun _ hk => hk.2) (.int .i64 ((rd_T57 l0 x10_1).f3))) (fun _ hk => hk.2) (.slice A18_4 ((rd_T57 l0 x10_1).f4).length c18_4)) (fun _ h_ => h_.1))) hb) (kb_ ho0)) (kb_ ho1)) (fun _ h_ => h_.1)); have HO26 := A_ (Kd.R_lower ho0 (below_size (bG_ GE19.out))); have HO27 := A_ (Kd.R_lower ho1 (below_size (bG_ GE19.out))); replace BK19 := A_ (blk_below (g := gb19) (o := .cells #[.slice A18_0 ((rd_T57 l0 x10_1).f0).length c18_0, .bool ((rd_T57 l0 x10_1).f1), .string ((rd_T57 l0 x10_1).f2), .int .i64 ((rd_T57 l0 x10_1).f3), .slice A18_4 ((rd_T57 l0 x10_1).f4).length c18_4] 57 (0, 0)) (by (with_reducible repeat (first | refine blk_drewN ?_ _ | refine blk_drew ?_ | refine blk_alloc ?_ _)); with_reducible exact p5_01234_ (vb_ BK19.out)) hb); replace HB := A_ (below_step (bG_ GE19.out) hb); (try clear hb); (try clear hk); (try clear ho0); (try clear ho1); obtain ⟨Ao16, co16, eo16⟩ := Kd.R_slice HO26.out; subst eo16; obtain ⟨Ao17, co17, eo17⟩ := Kd.R_slice HO27.out; subst eo17) | ((with_reducible refine gate_builtin (b := .append) (xs := #[.tmp 19, .tmp 22]) rfl ?_); at_builtin; refine Kd.S_append k57 (w0 := w) w.heap.size rfl (.tmp 19) (.tmp 22) 26 57 (.agg #[(.slice none 0 0), (.bool false), (.string ⟨#[]⟩), (.int .i64 0), (.slice none 0 0)]) 80 rfl Try.underlying26 info57 rfl (by decide) (by omega) u5 x5_1 (⟨t21, t23, t24, t25, t22⟩ : S57) [.slice Ao16 t21.length co16, .bool t23, .string t24, .int .i64 t25, .slice Ao17 t22.length co17] (fun k_ => k_ ≠ gb19) (fun k_ => some k_ = (.slice Ao16 t21.length co16 : Value).ownBlock \/ some k_ = (.slice Ao17 t22.length co17 : Value).ownBlock) rfl rfl ?aP (fun k_ hk_ => hk_.elim (fun h_ => ((Kd.R_mono (ok' := fun k_ => ((fun k_ => k_ ≠ gb19)) k_ /\ some k_ ≠ (u5 : Value).ownBlock) (Kd.R_types (Kd.R_apart' (HO26.out) (Kd.S_typed HO_5.out) (by decide)) BK19.out (by decide)) (fun k_ hk => ⟨hk.2, hk.1.2⟩))).1 k_ h_.symm) (fun h_ => ((Kd.R_mono (ok' := fun k_ => ((fun k_ => k_ ≠ gb19)) k_ /\ some k_ ≠ (u5 : Value).ownBlock) (Kd.R_types (Kd.R_apart' (HO27.out) (Kd.S_typed HO_5.out) (by decide)) BK19.out (by decide)) (fun k_ hk => ⟨hk.2, hk.1.2⟩))).1 k_ h_.symm)) ?aF ?aO ?aB ?aS ?aL ?_; (case aP => exact k57_mkM _ _ _ (⟨t21, t23, t24, t25, t22⟩ : S57) (Kd.R_mono (Kd.R_tight rfl (Kd.R_mono (ok' := fun k_ => ((fun k_ => k_ ≠ gb19)) k_ /\ some k_ ≠ (u5 : Value).ownBlock) (Kd.R_types (Kd.R_apart' (HO26.out) (Kd.S_typed HO_5.out) (by decide)) BK19.out (by decide)) (fun k_ hk => ⟨hk.2, hk.1.2⟩))) (fun _ h_ => Or.inl h_)) (Kd.R_mono (Kd.R_tight rfl (Kd.R_mono (ok' := fun k_ => ((fun k_ => k_ ≠ gb19)) k_ /\ some k_ ≠ (u5 : Value).ownBlock) (Kd.R_types (Kd.R_apart' (HO27.out) (Kd.S_typed HO_5.out) (by decide)) BK19.out (by decide)) (fun k_ hk => ⟨hk.2, hk.1.2⟩))) (fun _ h_ => Or.inr (h_)))); (case aB => exact (bG_ GE19.out)); (case aF => exact (fun k_ hk => Kd.freshB (g := gb19) (o := .cells #[.slice A18_0 ((rd_T57 l0 x10_1).f0).length c18_0, .bool ((rd_T57 l0 x10_1).f1), .string ((rd_T57 l0 x10_1).f2), .int .i64 ((rd_T57 l0 x10_1).f3), .slice A18_4 ((rd_T57 l0 x10_1).f4).length c18_4] 57 (0, 0)) (vb_ BK19.out) k_ hk)); (case aO => exact (by (with_reducible repeat (first | apply Kd.S_alloc | apply Kd.S_drewN | apply Kd.S_drew)); exact Kd.S_mono HO_5.out (fun k_ hk => ⟨hk.1.1.2, fun e_ => e_.elim (fun h_ => hk.1.2 h_) (fun h_ => hk.2 h_)⟩))); (case aS => exact (below_size (bG_ GE19.out))); (case aL => have := LMc11.out; omega); intro v32 w15 ho hb hg hat; rw [← Ny20.out] at ho; replace HB := A_ (hb); have HO29 := A_ (ho); clear HO_5 HO26 HO27; clear ho hb hg hat))
     go_roundg k1
     case measure => have := HK1.out; omega
     case rel => exact ⟨(y20), (wrap64 (x10_1 + 1)), rs_, H', ⟨by have := HK1.out; omega⟩, ⟨by (with_reducible repeat (first | apply Kd.S_alloc | apply Kd.S_drewN | apply Kd.S_drew)); exact Kd.S_mono HO29.out (fun _ hk => trivial)⟩, ⟨bG_ GE19.out⟩⟩
def impl_withRes.l0 : Nat -> List (S57) -> Int -> List ByteArray -> Bool -> ByteArray -> Int -> List (S72) -> Option ((List (S57)))
  | 0, _, _, _, _, _, _, _ => none
  | k + 1, x0, x5, x521000, x521001, x521002, x521003, x521004 => if x5 < (x0.length : Int) then (if 0 <= x5 then ((impl_LessPath.f k ((rd_T57 x0 x5).f0) x521000).bind fun t522 => (if t522 = true then (impl_withRes.l0 k x0 (wrap64 (x5 + 1)) x521000 x521001 x521002 x521003 x521004) else (if x5 <= (x0.length : Int) then ((some (x0.take (x5 : Int).toNat : List (S57))).bind fun y523 => (if ([] : List (S57)).length + y523.length < 1759218604441 then ((some (([] : List (S57)) ++ y523 : List (S57))).bind fun y528 => ((some (([(⟨x521000, x521001, x521002, x521003, x521004⟩ : S57)] : List (S57)) : List (S57))).bind fun y531 => (if y528.length + y531.length < 1759218604441 then ((some (y528 ++ y531 : List (S57))).bind fun y534 => ((some (x0.drop (x5 : Int).toNat : List (S57))).bind fun y537 => (if y534.length + y537.length < 1759218604441 then (some (y534 ++ y537)) else (none)))) else (none)))) else (none))) else (none)))) else (none)) else (if 0 <= x5 then (if x5 <= (x0.length : Int) then ((some (x0.take (x5 : Int).toNat : List (S57))).bind fun y545 => (if ([] : List (S57)).length + y545.length < 1759218604441 then ((some (([] : List (S57)) ++ y545 : List (S57))).bind fun y550 => ((some (([(⟨x521000, x521001, x521002, x521003, x521004⟩ : S57)] : List (S57)) : List (S57))).bind fun y553 => (if y550.length + y553.length < 1759218604441 then ((some (y550 ++ y553 : List (S57))).bind fun y556 => ((some (x0.drop (x5 : Int).toNat : List (S57))).bind fun y559 => (if y556.length + y559.length < 1759218604441 then (some (y556 ++ y559)) else (none)))) else (none)))) else (none))) else (none)) else (none))
def impl_withRes.f (k : Nat) (l0 : List (S57)) (l1_0 : List ByteArray) (a1_1 : Bool) (a1_2 : ByteArray) (a1_3 : Int) (l1_4 : List (S72)) : Option ((List (S57))) := impl_withRes.l0 k l0 0 l1_0 a1_1 a1_2 a1_3 l1_4
def impl_withRes.T2 : Bool × List (List Nat × List Nat) := (true, [([], []), ([], []), ([1], [1]), ([0, 2], [0, 2]), ([3], [3]), ([4], [4]), ([4], [4]), ([5, 6, 4], [4, 5, 6]), ([7, 4], [4, 7]), ([8, 4], [4, 8]), ([4], [4]), ([10, 4], [4, 10]), ([9, 11, 4, 4], [4, 9, 11]), ([4, 12], [4, 12])])
def impl_withRes.B2 : List Nat := [0, 0, 2, 7, 15, 31, 31, 127, 255, 511, 31, 1055, 4095, 8191]
theorem impl_withRes.tab2 : rtab .any (opsOf Try.f76 2) = impl_withRes.T2 := by kernel_rfl
theorem impl_withRes.bits2 : waitsOk impl_withRes.T2.2 impl_withRes.B2 = true := by kernel_rfl
def impl_withRes.T4 : Bool × List (List Nat × List Nat) := (true, [([], []), ([], []), ([0, 1], [0, 1]), ([2], [2]), ([], []), ([4], [4]), ([3, 5, 3], [3, 5]), ([], []), ([], []), ([7, 8], [7, 8]), ([6, 9, 6], [6, 9]), ([10, 10, 0, 1, 2, 3, 4, 5, 6, 7, 8, 9, 10], [10])])
def impl_withRes.B4 : List Nat := [0, 0, 3, 7, 0, 16, 63, 0, 0, 384, 1023, 2047]
theorem impl_withRes.tab4 : rtab .any (opsOf Try.f76 4) = impl_withRes.T4 := by kernel_rfl
theorem impl_withRes.bits4 : waitsOk impl_withRes.T4.2 impl_withRes.B4 = true := by kernel_rfl
end Go.Proofs.Ytbgggcgjijljkaa.Q
