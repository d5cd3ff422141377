-- PRINTED by print.py (a twelfth state) out of the translation. Not trusted: Lean checks it.
import Derived.Test.YteabkidfgdmmpaaVFnTreesBentG23
set_option maxHeartbeats 8000000
set_option maxRecDepth 100000
namespace Go.Proofs.Yteabkidfgdmmpaa.Q
open Go.RowKit Go.Proofs.YteabkidfgdmmpaaW.PrintWords Go.Proofs.YteabkidfgdmmpaaW.PrintLast Go.Proofs.YteabkidfgdmmpaaW.PrintMore
attribute [local go_sem] max2_int min2_int max_two min_two max_three min_three max_four min_four   -- for this text's walks alone
set_option linter.unusedVariables false
set_option linter.unusedSimpArgs false
def spec_KidsOf.l0 : Nat → List (S59) → List ByteArray → List (List ByteArray) → Int → Option ((List (List ByteArray)))
 | 0, _, _, _, _ => none
 | k + 1, x0, x1, x5, x6 => if x6 < (x0.length : Int) then (if 0 ≤ x6 then (if (((rd_T59 x0 x6).f0).length : Int) = (wrap64 ((x1.length : Int) + 1)) then ((spec_Under.f k ((rd_T59 x0 x6).f0) x1).bind fun t400 => (if t400 = true then ((some (([] : List ByteArray) : List ByteArray)).bind fun y401 => (if y401.length + ((rd_T59 x0 x6).f0).length < 8796093022208 then (if x5.length < 5864062014805 then (spec_KidsOf.l0 k x0 x1 (x5 ++ [(y401 ++ ((rd_T59 x0 x6).f0))]) (wrap64 (x6 + 1))) else (none)) else (none))) else (spec_KidsOf.l0 k x0 x1 x5 (wrap64 (x6 + 1))))) else (spec_KidsOf.l0 k x0 x1 x5 (wrap64 (x6 + 1)))) else (none)) else (some x5)
def spec_KidsOf.f (k : Nat) (l0 : List (S59)) (l1 : List ByteArray) : Option ((List (List ByteArray))) := spec_KidsOf.l0 k l0 l1 (([] : List (List ByteArray))) 0
theorem spec_KidsOf.calls (k : Nat) (A0 : Option Addr) (c0 : Nat) (l0 : List (S59)) (A1 : Option Addr) (c1 : Nat) (l1 : List ByteArray) (r : List (List ByteArray)) (w : World) (hr0 : Kd.C k59 w A0 l0.length l0) (hc0 : l0.length ≤ c0) (hr1 : Kd.C Kd.string w A1 l1.length l1) (hc1 : l1.length ≤ c1) (h : spec_KidsOf.f k l0 l1 = some r) :
 Calls Try.prog 40 #[.slice A0 l0.length c0, .slice A1 l1.length c1] w fun e w' => ∃ v0_ : Value, e = .returned (v0_) ∧ Kd.S (Kd.slice 9 Kd.string) 22 w' w.heap.size (fun _ => True) v0_ r ∧ Below w.heap.size w w' := by
 have HR0 := A_ hr0
 have HC0 := A_ hc0
 clear hr0 hc0
 have HR1 := A_ hr1
 have HC1 := A_ hc1
 clear hr1 hc1
 have HB := A_ (Below.refl w.heap.size w)
 have H : (spec_KidsOf.l0 k l0 l1 (([] : List (List ByteArray))) 0) = some r := h
 clear h
 obtain ⟨y395, hy395⟩ : ∃ y_ : List (List ByteArray), y_ = (([] : List (List ByteArray))) := ⟨_, rfl⟩
 replace H : (spec_KidsOf.l0 k l0 l1 y395 0) = some r := hy_ hy395 H
 have Ny395 := A_ hy395
 clear hy395
 have H' := A_ H
 clear H
 go_enter Try.func40, Try.ntmps40
 go_wp2_with (first | ((with_reducible refine gd_ (N := 7) rfl ?_); refine Kd.S_lit (Kd.slice 9 Kd.string) _ 22 ?hg (N := 7) ?hd (xs := ([] : List (List ByteArray))) (inner := []) (ok := fun _ => True) (okp := fun _ => True) ?hr ?hp (fun _ hk => hk) trivial (Below.refl _ _) (Nat.le_refl _) (by simp) ?_; (case hd => rfl); (case hg => rfl); (case hr => first | (go_simp; done) | (go_simp; rfl)); (case hp => exact (Reps.none _ _)); intro v396 w3 ho4 hb hg_ hnew_; clear hg_ hnew_; (first | rw [← Ny395.out] at ho4 | (simp only [Int.reduceToNat] at ho4; rw [← Ny395.out] at ho4)); have HO397 := A_ (Kd.S_lower ho4 (below_size bB_)); replace HB := A_ (below_step bB_ hb); clear hb ho4))
 go_loopg [5, 6] k (fun kq v5 v6 w' => ∃ (x5_1 : List (List ByteArray)) (x6_1 : Int), v6 = .int .i64 x6_1 ∧ Aside0 (spec_KidsOf.l0 kq l0 l1 x5_1 x6_1 = some r) ∧ Aside0 (kq ≤ k) ∧ Aside0 (Kd.S (Kd.slice 9 Kd.string) 22 w' w.heap.size (fun _ => True) v5 x5_1) ∧ Aside0 (Below w.heap.size w w'))
 case atStart => exact ⟨(y395), (0), rs_, H', ⟨Nat.le_refl _⟩, ⟨vS_ HO397.out⟩, ⟨bB_⟩⟩
 case round =>
  clear H'
  try clear c1
  try clear p2
  try clear c4
  obtain ⟨x5_1, x6_1, rfl, HA, HK1, HO_5, HB⟩ := hrel
  cases gk with
  | zero => exact absurd HA.out (by simp [spec_KidsOf.l0])
  | succ k1 =>
   have H := HA.out
   clear HA
   simp only [spec_KidsOf.l0] at H
   by_cases c5 : x6_1 < (l0.length : Int)
   rotate_left
   · rw [if_neg c5] at H
     have c5b0 : decide (x6_1 < (l0.length : Int)) = false := decide_eq_false c5
     clear c5
     obtain rfl := si_ H
     go_wp2
     go_ret
     exact ⟨_, rr_, by (with_reducible repeat (first | apply Kd.S_alloc | apply Kd.S_drewN | apply Kd.S_drew)); exact HO_5.out, bB_⟩
   rw [if_pos c5] at H
   have c5b0 : decide (x6_1 < (l0.length : Int)) = true := decide_eq_true c5
   clear c5
   by_cases c6 : 0 ≤ x6_1
   rotate_left
   · exact absurd H (by rw [if_neg c6]; simp)
   rw [if_pos c6] at H
   have c6b0 : decide (0 ≤ x6_1) = true := decide_eq_true c6
   clear c6
   by_cases c7 : (((rd_T59 l0 x6_1).f0).length : Int) = (wrap64 ((l1.length : Int) + 1))
   rotate_left
   · rw [if_neg c7] at H
     have c7b0 : ((((rd_T59 l0 x6_1).f0).length : Int) == (wrap64 ((l1.length : Int) + 1))) = false := beq_eq_false_iff_ne.mpr c7
     have c7b1 : ((((rd_T59 l0 x6_1).f0).length : Int) != (wrap64 ((l1.length : Int) + 1))) = true := bne_iff_ne.mpr c7
     have H' := A_ H
     clear H
     have p398 : 0 ≤ (x6_1 : Int) := od_
     have q398 : x6_1 < (l0.length : Int) := od_
     obtain ⟨ad398, A398_0, c398_0, A398_4, c398_4, e398, hx398_0, hx398_1, hx398_2, hx398_3, hx398_4, hl398_0, hi398_0, hl398_4, hi398_4⟩ := at_T59 HR0.out x6_1 p398 q398
     cases e398
     replace hx398_0 := bc_ HB.out hx398_0
     replace hx398_1 := bc_ HB.out hx398_1
     replace hx398_2 := bc_ HB.out hx398_2
     replace hx398_3 := bc_ HB.out hx398_3
     replace hx398_4 := bc_ HB.out hx398_4
     have HR398_0 := A_ hi398_0
     have HC398_0 := A_ hl398_0
     clear hi398_0 hl398_0
     have HR398_4 := A_ hi398_4
     have HC398_4 := A_ hl398_4
     clear hi398_4 hl398_4
     replace p398 := eq_true p398
     replace q398 := eq_true q398
     go_wp2
     go_roundg k1
     case measure => have := HK1.out; omega
     case rel => exact ⟨(x5_1), (wrap64 (x6_1 + 1)), rs_, H', ⟨by have := HK1.out; omega⟩, ⟨vS_ HO_5.out⟩, ⟨bB_⟩⟩
   rw [if_pos c7] at H
   have c7b0 : ((((rd_T59 l0 x6_1).f0).length : Int) == (wrap64 ((l1.length : Int) + 1))) = true := beq_iff_eq.mpr c7
   have c7b1 : ((((rd_T59 l0 x6_1).f0).length : Int) != (wrap64 ((l1.length : Int) + 1))) = false := bne_eq_false_iff_eq.mpr c7
   clear c7
   obtain ⟨t400, A8, H⟩ := bo_ H
   (try dsimp only at H)
   by_cases c9 : t400 = true
   · subst c9
     rw [if_pos rfl] at H
     obtain ⟨y401, hy401⟩ : ∃ y_ : List ByteArray, y_ = (([] : List ByteArray)) := ⟨_, rfl⟩
     replace H : (if y401.length + ((rd_T59 l0 x6_1).f0).length < 8796093022208 then (if x5_1.length < 5864062014805 then (spec_KidsOf.l0 k1 l0 l1 (x5_1 ++ [(y401 ++ ((rd_T59 l0 x6_1).f0))]) (wrap64 (x6_1 + 1))) else (none)) else (none)) = some r := hy_ hy401 H
     have Ny401 := A_ hy401
     clear hy401
     by_cases c10 : y401.length + ((rd_T59 l0 x6_1).f0).length < 8796093022208
     rotate_left
     · exact absurd H (by rw [if_neg c10]; simp)
     rw [if_pos c10] at H
     have LMc10 := A_ c10
     clear c10
     obtain ⟨y405, hy405⟩ : ∃ y_ : List ByteArray, y_ = (y401 ++ ((rd_T59 l0 x6_1).f0)) := ⟨_, rfl⟩
     replace H : (if x5_1.length < 5864062014805 then (spec_KidsOf.l0 k1 l0 l1 (x5_1 ++ [y405]) (wrap64 (x6_1 + 1))) else (none)) = some r := hy_ hy405 H
     have Ny405 := A_ hy405
     clear hy405
     by_cases c11 : x5_1.length < 5864062014805
     rotate_left
     · exact absurd H (by rw [if_neg c11]; simp)
     rw [if_pos c11] at H
     have LMc11 := A_ c11
     clear c11
     obtain ⟨y408, hy408⟩ : ∃ y_ : List (List ByteArray), y_ = (x5_1 ++ [y405]) := ⟨_, rfl⟩
     replace H : (spec_KidsOf.l0 k1 l0 l1 y408 (wrap64 (x6_1 + 1))) = some r := hy_ hy408 H
     have Ny408 := A_ hy408
     clear hy408
     have H' := A_ H
     clear H
     have p398 : 0 ≤ (x6_1 : Int) := od_
     have q398 : x6_1 < (l0.length : Int) := od_
     obtain ⟨ad398, A398_0, c398_0, A398_4, c398_4, e398, hx398_0, hx398_1, hx398_2, hx398_3, hx398_4, hl398_0, hi398_0, hl398_4, hi398_4⟩ := at_T59 HR0.out x6_1 p398 q398
     cases e398
     replace hx398_0 := bc_ HB.out hx398_0
     replace hx398_1 := bc_ HB.out hx398_1
     replace hx398_2 := bc_ HB.out hx398_2
     replace hx398_3 := bc_ HB.out hx398_3
     replace hx398_4 := bc_ HB.out hx398_4
     have HR398_0 := A_ hi398_0
     have HC398_0 := A_ hl398_0
     clear hi398_0 hl398_0
     have HR398_4 := A_ hi398_4
     have HC398_4 := A_ hl398_4
     clear hi398_4 hl398_4
     replace p398 := eq_true p398
     replace q398 := eq_true q398
     have p399 : 0 ≤ (x6_1 : Int) := od_
     have q399 : x6_1 < (l0.length : Int) := od_
     obtain ⟨ad399, A399_0, c399_0, A399_4, c399_4, e399, hx399_0, hx399_1, hx399_2, hx399_3, hx399_4, hl399_0, hi399_0, hl399_4, hi399_4⟩ := at_T59 HR0.out x6_1 p399 q399
     obtain rfl : ad398 = ad399 := (by injection e399)
     replace hx399_0 := bc_ HB.out hx399_0
     replace hx399_1 := bc_ HB.out hx399_1
     replace hx399_2 := bc_ HB.out hx399_2
     replace hx399_3 := bc_ HB.out hx399_3
     replace hx399_4 := bc_ HB.out hx399_4
     have HR399_0 := A_ hi399_0
     have HC399_0 := A_ hl399_0
     clear hi399_0 hl399_0
     have HR399_4 := A_ hi399_4
     have HC399_4 := A_ hl399_4
     clear hi399_4 hl399_4
     replace p399 := eq_true p399
     replace q399 := eq_true q399
     have ea_ := Option.some.inj (hx398_0.symm.trans hx399_0)
     injection ea_ with ea_ en_ ec_
     subst ea_
     subst ec_
     clear en_
     have ea_ := Option.some.inj (hx398_4.symm.trans hx399_4)
     injection ea_ with ea_ en_ ec_
     subst ea_
     subst ec_
     clear en_
     go_wp2_with (first | (go_at_call 75; (with_reducible refine (spec_Under.calls k1 _ _ ((rd_T59 l0 x6_1).f0) _ _ l1 true _ ?s1 ?s2 ?s3 ?s4 A8.out).mono ?_); (case s1 => exact cC_ (Kd.C_below HR399_0.out HB.out)); (case s2 => exact HC399_0.out); (case s3 => exact cC_ (Kd.C_below HR1.out HB.out)); (case s4 => exact HC1.out); rintro e w' ⟨rfl, ⟨nd, rfl⟩⟩) | ((with_reducible refine gd_ (N := 34) rfl ?_); refine Kd.R_lit Kd.string _ 9 ?hg (N := 34) ?hd (xs := ([] : List ByteArray)) (inner := []) (ok := fun _ => True) (okp := fun _ => True) ?hr ?hp (fun _ hk => hk) trivial (Below.refl _ _) (Nat.le_refl _) (by simp) ?_; (case hd => rfl); (case hg => rfl); (case hr => first | (go_simp; done) | (go_simp; rfl)); (case hp => exact (Reps.none _ _)); intro v402 w12 ho13 hb hg_ hnew_; clear hg_ hnew_; (first | rw [← Ny401.out] at ho13 | (simp only [Int.reduceToNat] at ho13; rw [← Ny401.out] at ho13)); replace HO_5 := A_ (Kd.S_elder' (vS_ HO_5.out) (kb_ ho13) hb); have HO403 := A_ (Kd.R_lower ho13 (below_size bB_)); replace HB := A_ (below_step bB_ hb); clear hb ho13; have p404 : 0 ≤ (x6_1 : Int) := od_; have q404 : x6_1 < (l0.length : Int) := od_; obtain ⟨ad404, A404_0, c404_0, A404_4, c404_4, e404, hx404_0, hx404_1, hx404_2, hx404_3, hx404_4, hl404_0, hi404_0, hl404_4, hi404_4⟩ := at_T59 HR0.out x6_1 p404 q404; obtain rfl : ad398 = ad404 := (by injection e404); replace hx404_0 := bc_ HB.out hx404_0; replace hx404_1 := bc_ HB.out hx404_1; replace hx404_2 := bc_ HB.out hx404_2; replace hx404_3 := bc_ HB.out hx404_3; replace hx404_4 := bc_ HB.out hx404_4; have HR404_0 := A_ hi404_0; have HC404_0 := A_ hl404_0; clear hi404_0 hl404_0; have HR404_4 := A_ hi404_4; have HC404_4 := A_ hl404_4; clear hi404_4 hl404_4; replace p404 := eq_true p404; replace q404 := eq_true q404) | ((with_reducible refine gate_builtin (b := .append) (xs := #[.tmp 34, .tmp 39]) rfl ?_); at_builtin; refine Kd.R_append_rows Kd.string (w0 := w) w.heap.size rfl (.tmp 34) (.tmp 39) 22 9 (.string ⟨#[]⟩) 16 rfl Try.underlying22 info9 rfl (by decide) (by omega) v402 y401 ((rd_T59 l0 x6_1).f0) _ _ _ (fun _ => True) (fun _ => False) rfl rfl ?aO ?aR (fun _ _ h => h) (fun _ h => h.elim) ?aF ?aB ?aS ?aL ?_; (case aR => exact cC_ (Kd.C_below HR404_0.out HB.out)); (case aB => exact bB_); (case aF => exact (fun _ _ => trivial)); (case aO => exact (vR_ HO403.out)); (case aS => exact (below_size bB_)); (case aL => have := LMc10.out; omega); intro v406 w14 ho hb hg hat; rw [← Ny405.out] at ho; replace HO_5 := A_ (Kd.S_after (ok := (fun _ => True)) (vS_ HO_5.out) hg hat); replace HB := A_ (hb); have HO407 := A_ (ho); clear HO403; clear ho hb hg hat; obtain ⟨Ao16, co16, eo16⟩ := Kd.R_slice HO407.out; subst eo16) | ((with_reducible refine gate_builtin (b := .append) (xs := #[.tmp 33, .tmp 41]) rfl ?_); at_builtin; refine Kd.S_append (Kd.slice 9 Kd.string) (w0 := w) w.heap.size rfl (.tmp 33) (.tmp 41) 47 22 (.slice none 0 0) 24 rfl Try.underlying47 info22 rfl (by decide) (by omega) u5 x5_1 y405 [.slice Ao16 y405.length co16] (fun _ => True) (fun k_ => some k_ = (.slice Ao16 y405.length co16 : Value).ownBlock) rfl rfl ?aP (fun k_ hk_ => ((Kd.R_mono (ok' := fun k_ => ((fun _ => True)) k_ ∧ some k_ ≠ (u5 : Value).ownBlock) (Kd.R_apart' (HO407.out) (Kd.S_typed HO_5.out) (by decide)) (fun k_ hk => ⟨trivial, hk.2⟩))).1 k_ hk_.symm) ?aF ?aO ?aB ?aS ?aL ?_; (case aP => exact Kd.M_row (Kd.R_mono (Kd.R_tight rfl (Kd.R_mono (ok' := fun k_ => ((fun _ => True)) k_ ∧ some k_ ≠ (u5 : Value).ownBlock) (Kd.R_apart' (HO407.out) (Kd.S_typed HO_5.out) (by decide)) (fun k_ hk => ⟨trivial, hk.2⟩))) (fun _ h_ => h_))); (case aB => exact bB_); (case aF => exact (fun _ _ => trivial)); (case aO => exact (by (with_reducible repeat (first | apply Kd.S_alloc | apply Kd.S_drewN | apply Kd.S_drew)); exact Kd.S_mono HO_5.out (fun k_ hk => ⟨trivial, fun e_ => hk.2 e_⟩))); (case aS => exact (below_size bB_)); (case aL => have := LMc11.out; omega); intro v409 w15 ho hb hg hat; rw [← Ny408.out] at ho; replace HB := A_ (hb); have HO410 := A_ (ho); clear HO_5 HO407; clear ho hb hg hat))
     go_roundg k1
     case measure => have := HK1.out; omega
     case rel => exact ⟨(y408), (wrap64 (x6_1 + 1)), rs_, H', ⟨by have := HK1.out; omega⟩, ⟨vS_ HO410.out⟩, ⟨bB_⟩⟩
   · replace c9 := Bool.eq_false_iff.mpr c9
     subst c9
     rw [if_neg nf_] at H
     have H' := A_ H
     clear H
     have p398 : 0 ≤ (x6_1 : Int) := od_
     have q398 : x6_1 < (l0.length : Int) := od_
     obtain ⟨ad398, A398_0, c398_0, A398_4, c398_4, e398, hx398_0, hx398_1, hx398_2, hx398_3, hx398_4, hl398_0, hi398_0, hl398_4, hi398_4⟩ := at_T59 HR0.out x6_1 p398 q398
     cases e398
     replace hx398_0 := bc_ HB.out hx398_0
     replace hx398_1 := bc_ HB.out hx398_1
     replace hx398_2 := bc_ HB.out hx398_2
     replace hx398_3 := bc_ HB.out hx398_3
     replace hx398_4 := bc_ HB.out hx398_4
     have HR398_0 := A_ hi398_0
     have HC398_0 := A_ hl398_0
     clear hi398_0 hl398_0
     have HR398_4 := A_ hi398_4
     have HC398_4 := A_ hl398_4
     clear hi398_4 hl398_4
     replace p398 := eq_true p398
     replace q398 := eq_true q398
     have p399 : 0 ≤ (x6_1 : Int) := od_
     have q399 : x6_1 < (l0.length : Int) := od_
     obtain ⟨ad399, A399_0, c399_0, A399_4, c399_4, e399, hx399_0, hx399_1, hx399_2, hx399_3, hx399_4, hl399_0, hi399_0, hl399_4, hi399_4⟩ := at_T59 HR0.out x6_1 p399 q399
     obtain rfl : ad398 = ad399 := (by injection e399)
     replace hx399_0 := bc_ HB.out hx399_0
     replace hx399_1 := bc_ HB.out hx399_1
     replace hx399_2 := bc_ HB.out hx399_2
     replace hx399_3 := bc_ HB.out hx399_3
     replace hx399_4 := bc_ HB.out hx399_4
     have HR399_0 := A_ hi399_0
     have HC399_0 := A_ hl399_0
     clear hi399_0 hl399_0
     have HR399_4 := A_ hi399_4
     have HC399_4 := A_ hl399_4
     clear hi399_4 hl399_4
     replace p399 := eq_true p399
     replace q399 := eq_true q399
     have ea_ := Option.some.inj (hx398_0.symm.trans hx399_0)
     injection ea_ with ea_ en_ ec_
     subst ea_
     subst ec_
     clear en_
     have ea_ := Option.some.inj (hx398_4.symm.trans hx399_4)
     injection ea_ with ea_ en_ ec_
     subst ea_
     subst ec_
     clear en_
     go_wp2_with (first | (go_at_call 75; (with_reducible refine (spec_Under.calls k1 _ _ ((rd_T59 l0 x6_1).f0) _ _ l1 false _ ?s1 ?s2 ?s3 ?s4 A8.out).mono ?_); (case s1 => exact cC_ (Kd.C_below HR399_0.out HB.out)); (case s2 => exact HC399_0.out); (case s3 => exact cC_ (Kd.C_below HR1.out HB.out)); (case s4 => exact HC1.out); rintro e w' ⟨rfl, ⟨nd, rfl⟩⟩))
     go_roundg k1
     case measure => have := HK1.out; omega
     case rel => exact ⟨(x5_1), (wrap64 (x6_1 + 1)), rs_, H', ⟨by have := HK1.out; omega⟩, ⟨vS_ HO_5.out⟩, ⟨bB_⟩⟩
def impl_Under.f (k : Nat) (l0 : List ByteArray) (l1 : List ByteArray) : Option (Bool) := if (l0.length : Int) > (l1.length : Int) then (if 0 ≤ (l1.length : Int) then (if (l1.length : Int) ≤ (l0.length : Int) then ((impl_SamePath.f k (l0.take ((l1.length : Int) : Int).toNat) l1).bind fun t412 => (some t412)) else (none)) else (none)) else (some false)
theorem impl_Under.calls (k : Nat) (A0 : Option Addr) (c0 : Nat) (l0 : List ByteArray) (A1 : Option Addr) (c1 : Nat) (l1 : List ByteArray) (r : Bool) (w : World) (hr0 : Kd.C Kd.string w A0 l0.length l0) (hc0 : l0.length ≤ c0) (hr1 : Kd.C Kd.string w A1 l1.length l1) (hc1 : l1.length ≤ c1) (h : impl_Under.f k l0 l1 = some r) :
 Calls Try.prog 76 #[.slice A0 l0.length c0, .slice A1 l1.length c1] w fun e w' => e = .returned (.bool r) ∧ Drawn0 w w' := by
 have HR0 := A_ hr0
 have HC0 := A_ hc0
 clear hr0 hc0
 have HR1 := A_ hr1
 have HC1 := A_ hc1
 clear hr1 hc1
 have H : (if (l0.length : Int) > (l1.length : Int) then (if 0 ≤ (l1.length : Int) then (if (l1.length : Int) ≤ (l0.length : Int) then ((impl_SamePath.f k (l0.take ((l1.length : Int) : Int).toNat) l1).bind fun t412 => (some t412)) else (none)) else (none)) else (some false)) = some r := h
 clear h
 by_cases c3 : (l0.length : Int) > (l1.length : Int)
 rotate_left
 · rw [if_neg c3] at H
   have c3b0 : decide ((l1.length : Int) < (l0.length : Int)) = false := decide_eq_false c3
   have c3b1 : decide (l1.length < l0.length) = false := decide_eq_false (fun h => c3 (Int.ofNat_lt.mpr h))
   clear c3
   obtain rfl := si_ H
   go_enter Try.func76, Try.ntmps76
   go_wp2
   go_ret
   exact ⟨rs_, dr_⟩
 rw [if_pos c3] at H
 have c3b0 : decide ((l1.length : Int) < (l0.length : Int)) = true := decide_eq_true c3
 have c3b1 : decide (l1.length < l0.length) = true := decide_eq_true (Int.ofNat_lt.mp c3)
 clear c3
 by_cases c4 : 0 ≤ (l1.length : Int)
 rotate_left
 · exact absurd H (by rw [if_neg c4]; simp)
 rw [if_pos c4] at H
 have c4b0 := eq_true c4
 have c4b1 : decide (0 ≤ (l1.length : Int)) = true := decide_eq_true c4
 clear c4
 by_cases c5 : (l1.length : Int) ≤ (l0.length : Int)
 rotate_left
 · exact absurd H (by rw [if_neg c5]; simp)
 rw [if_pos c5] at H
 have c5b0 := eq_true c5
 have c5b1 : decide ((l1.length : Int) ≤ (l0.length : Int)) = true := decide_eq_true c5
 clear c5
 obtain ⟨t412, A6, H⟩ := bo_ H
 (try dsimp only at H)
 obtain rfl := si_ H
 obtain ⟨i07, hi07, _, hsz7, _⟩ := info_parts info9
 obtain ⟨hcut7, hA7, hC7⟩ := print_take_of (P := Try.prog) Value.string (⟨#[]⟩ : ByteArray) 22 9 .i64 Try.underlying22 hi07 hsz7 A0 c0 l0 (l1.length : Int) od_ od_ HC0.out
 have HR411 := A_ (Kd.C_of_reads (h1 := fun _ => rfl) (hA7 _ (Kd.reads_of_C HR0.out)))
 have HC411 := A_ hC7
 clear hA7 hC7 hi07 hsz7
 go_enter Try.func76, Try.ntmps76
 go_wp2_with (first | (go_at_call 53; refine calls_of_args (args' := #[.slice A0 (l0.take ((l1.length : Int) : Int).toNat).length c0, .slice A1 l1.length c1]) (by first | (simp only [List.length_take, List.length_drop, Int.toNat_natCast]; done) | (rw [show (l0.take ((l1.length : Int) : Int).toNat).length = (l1.length : Int).toNat from (by rw [List.length_take]; have h_ : ((l1.length : Int) : Int) ≤ (l0.length : Int) := od_; omega)] <;> rfl) | rfl) ?_; (with_reducible refine (impl_SamePath.calls k _ _ (l0.take ((l1.length : Int) : Int).toNat) _ _ l1 t412 _ ?s1 ?s2 ?s3 ?s4 A6.out).mono ?_); (case s1 => exact cC_ HR411.out); (case s2 => exact HC411.out); (case s3 => exact cC_ HR1.out); (case s4 => exact HC1.out); rintro e w' ⟨rfl, ⟨nd, rfl⟩⟩))
 go_ret
 exact ⟨rs_, dr_⟩
def impl_KidsOf.l0 : Nat → List ByteArray → List (List ByteArray) → List (S59) → Int → Int → Option ((List (List ByteArray)))
 | 0, _, _, _, _, _ => none
 | k + 1, x1, x5, x8, x9, x10 => if x10 < x9 then (if 0 ≤ x10 then (if x10 < (x8.length : Int) then (if (((rd_T59 x8 x10).f0).length : Int) = (wrap64 ((x1.length : Int) + 1)) then ((impl_Under.f k ((rd_T59 x8 x10).f0) x1).bind fun t415 => (if t415 = true then ((impl_copyPath.f ((rd_T59 x8 x10).f0)).bind fun t416 => (if x5.length < 5864062014805 then (impl_KidsOf.l0 k x1 (x5 ++ [t416]) x8 x9 (wrap64 (x10 + 1))) else (none))) else (impl_KidsOf.l0 k x1 x5 x8 x9 (wrap64 (x10 + 1))))) else (impl_KidsOf.l0 k x1 x5 x8 x9 (wrap64 (x10 + 1)))) else (none)) else (none)) else (some x5)
def impl_KidsOf.f (k : Nat) (l0 : List (S59)) (l1 : List ByteArray) : Option ((List (List ByteArray))) := impl_KidsOf.l0 k l1 ([] : List (List ByteArray)) l0 (l0.length : Int) 0
theorem impl_KidsOf.calls (k : Nat) (A0 : Option Addr) (c0 : Nat) (l0 : List (S59)) (A1 : Option Addr) (c1 : Nat) (l1 : List ByteArray) (r : List (List ByteArray)) (w : World) (hr0 : Kd.C k59 w A0 l0.length l0) (hc0 : l0.length ≤ c0) (hr1 : Kd.C Kd.string w A1 l1.length l1) (hc1 : l1.length ≤ c1) (h : impl_KidsOf.f k l0 l1 = some r) :
 Calls Try.prog 41 #[.slice A0 l0.length c0, .slice A1 l1.length c1] w fun e w' => ∃ v0_ : Value, e = .returned (v0_) ∧ Kd.S (Kd.slice 9 Kd.string) 22 w' w.heap.size (fun _ => True) v0_ r ∧ Below w.heap.size w w' := by
 have hu59 := Try.underlying59
 have HR0 := A_ hr0
 have HC0 := A_ hc0
 clear hr0 hc0
 have HR1 := A_ hr1
 have HC1 := A_ hc1
 clear hr1 hc1
 have HB := A_ (Below.refl w.heap.size w)
 have H : (impl_KidsOf.l0 k l1 ([] : List (List ByteArray)) l0 (l0.length : Int) 0) = some r := h
 clear h
 have H' := A_ H
 clear H
 go_enter Try.func41, Try.ntmps41
 go_wp2
 go_loopg [5, 10] k (fun kq v5 v10 w' => ∃ (x5_1 : List (List ByteArray)) (x10_1 : Int), v10 = .int .i64 x10_1 ∧ Aside0 (impl_KidsOf.l0 kq l1 x5_1 l0 (l0.length : Int) x10_1 = some r) ∧ Aside0 (kq ≤ k) ∧ Aside0 (Kd.S (Kd.slice 9 Kd.string) 22 w' w.heap.size (fun _ => True) v5 x5_1) ∧ Aside0 (Below w.heap.size w w'))
 case atStart => exact ⟨(([] : List (List ByteArray))), (0), rs_, H', ⟨Nat.le_refl _⟩, ⟨by first | exact Kd.S_nil _ _ _ _ _ | exact Kd.N_nil _ _ _ _ _ | exact Kd.V_nil _ _ _ _ _ | exact Kd.Q_nil _ _ _ _ _ | exact Kd.R_nil _ _ _ _ _⟩, ⟨bB_⟩⟩
 case round =>
  clear H'
  try clear c1
  try clear p2
  obtain ⟨x5_1, x10_1, rfl, HA, HK1, HO_5, HB⟩ := hrel
  cases gk with
  | zero => exact absurd HA.out (by simp [impl_KidsOf.l0])
  | succ k1 =>
   have H := HA.out
   clear HA
   simp only [impl_KidsOf.l0] at H
   by_cases c3 : x10_1 < (l0.length : Int)
   rotate_left
   · rw [if_neg c3] at H
     have c3b0 : decide (x10_1 < (l0.length : Int)) = false := decide_eq_false c3
     clear c3
     obtain rfl := si_ H
     go_wp2
     go_ret
     exact ⟨_, rr_, by (with_reducible repeat (first | apply Kd.S_alloc | apply Kd.S_drewN | apply Kd.S_drew)); exact HO_5.out, bB_⟩
   rw [if_pos c3] at H
   have c3b0 : decide (x10_1 < (l0.length : Int)) = true := decide_eq_true c3
   clear c3
   by_cases c4 : 0 ≤ x10_1
   rotate_left
   · exact absurd H (by rw [if_neg c4]; simp)
   rw [if_pos c4] at H
   have c4b0 : decide (0 ≤ x10_1) = true := decide_eq_true c4
   clear c4
   by_cases c5 : x10_1 < (l0.length : Int)
   rotate_left
   · exact absurd H (by rw [if_neg c5]; simp)
   rw [if_pos c5] at H
   have c5b0 : decide (x10_1 < (l0.length : Int)) = true := decide_eq_true c5
   clear c5
   by_cases c6 : (((rd_T59 l0 x10_1).f0).length : Int) = (wrap64 ((l1.length : Int) + 1))
   rotate_left
   · rw [if_neg c6] at H
     have c6b0 : ((((rd_T59 l0 x10_1).f0).length : Int) == (wrap64 ((l1.length : Int) + 1))) = false := beq_eq_false_iff_ne.mpr c6
     have c6b1 : ((((rd_T59 l0 x10_1).f0).length : Int) != (wrap64 ((l1.length : Int) + 1))) = true := bne_iff_ne.mpr c6
     have H' := A_ H
     clear H
     have p413 : 0 ≤ (x10_1 : Int) := od_
     have q413 : x10_1 < (l0.length : Int) := od_
     obtain ⟨ad413, A413_0, c413_0, A413_4, c413_4, e413, hx413_0, hx413_1, hx413_2, hx413_3, hx413_4, hl413_0, hi413_0, hl413_4, hi413_4⟩ := at_T59 HR0.out x10_1 p413 q413
     cases e413
     replace hx413_0 := bc_ HB.out hx413_0
     replace hx413_1 := bc_ HB.out hx413_1
     replace hx413_2 := bc_ HB.out hx413_2
     replace hx413_3 := bc_ HB.out hx413_3
     replace hx413_4 := bc_ HB.out hx413_4
     have HR413_0 := A_ hi413_0
     have HC413_0 := A_ hl413_0
     clear hi413_0 hl413_0
     have HR413_4 := A_ hi413_4
     have HC413_4 := A_ hl413_4
     clear hi413_4 hl413_4
     replace p413 := eq_true p413
     replace q413 := eq_true q413
     go_wp2_with (first | ((with_reducible refine gd_ (N := 7) rfl ?_); refine bx_ (N := 7) (cs := #[.slice none 0 0, .bool false, .string (⟨#[]⟩ : ByteArray), .int .i64 0, .slice none 0 0]) (t := 59) ?_; intro gb414 hg w18 hbox hb; replace HO_5 := A_ (Kd.S_below (vS_ HO_5.out) hb); have BK414 := A_ (hbox); have GW414 := A_ (ge_ hg bB_ : w.heap.size ≤ gb414); have GE414 := A_ (ge_ hg bB_ : w.heap.size ≤ gb414); replace HB := A_ (below_step bB_ hb); clear hb hbox hg; obtain ⟨hcz19_0, hcz19_1, hcz19_2, hcz19_3, hcz19_4, hfz19_0, hfz19_1, hfz19_2, hfz19_3, hfz19_4⟩ := cz5_ BK414.out))
     go_roundg k1
     case measure => have := HK1.out; omega
     case rel => exact ⟨(x5_1), (wrap64 (x10_1 + 1)), rs_, H', ⟨by have := HK1.out; omega⟩, ⟨by (with_reducible repeat (first | apply Kd.S_alloc | apply Kd.S_drewN | apply Kd.S_drew)); exact Kd.S_mono (Kd.S_far (p := ⟨gb414, 4, none⟩) (Kd.S_far (p := ⟨gb414, 3, none⟩) (Kd.S_far (p := ⟨gb414, 2, none⟩) (Kd.S_far (p := ⟨gb414, 1, none⟩) (Kd.S_far (p := ⟨gb414, 0, none⟩) (Kd.S_types HO_5.out BK414.out (by decide)) (fun _ hk => hk.2) (.slice A413_0 ((rd_T59 l0 x10_1).f0).length c413_0)) (fun _ hk => hk.2) (.bool ((rd_T59 l0 x10_1).f1))) (fun _ hk => hk.2) (.string ((rd_T59 l0 x10_1).f2))) (fun _ hk => hk.2) (.int .i64 ((rd_T59 l0 x10_1).f3))) (fun _ hk => hk.2) (.slice A413_4 ((rd_T59 l0 x10_1).f4).length c413_4)) (fun _ hk => trivial)⟩, ⟨bG_ GE414.out⟩⟩
   rw [if_pos c6] at H
   have c6b0 : ((((rd_T59 l0 x10_1).f0).length : Int) == (wrap64 ((l1.length : Int) + 1))) = true := beq_iff_eq.mpr c6
   have c6b1 : ((((rd_T59 l0 x10_1).f0).length : Int) != (wrap64 ((l1.length : Int) + 1))) = false := bne_eq_false_iff_eq.mpr c6
   clear c6
   obtain ⟨t415, A7, H⟩ := bo_ H
   (try dsimp only at H)
   by_cases c8 : t415 = true
   · subst c8
     rw [if_pos rfl] at H
     obtain ⟨t416, A9, H⟩ := bo_ H
     (try dsimp only at H)
     by_cases c10 : x5_1.length < 5864062014805
     rotate_left
     · exact absurd H (by rw [if_neg c10]; simp)
     rw [if_pos c10] at H
     have LMc10 := A_ c10
     clear c10
     obtain ⟨y419, hy419⟩ : ∃ y_ : List (List ByteArray), y_ = (x5_1 ++ [t416]) := ⟨_, rfl⟩
     replace H : (impl_KidsOf.l0 k1 l1 y419 l0 (l0.length : Int) (wrap64 (x10_1 + 1))) = some r := hy_ hy419 H
     have Ny419 := A_ hy419
     clear hy419
     have H' := A_ H
     clear H
     have p413 : 0 ≤ (x10_1 : Int) := od_
     have q413 : x10_1 < (l0.length : Int) := od_
     obtain ⟨ad413, A413_0, c413_0, A413_4, c413_4, e413, hx413_0, hx413_1, hx413_2, hx413_3, hx413_4, hl413_0, hi413_0, hl413_4, hi413_4⟩ := at_T59 HR0.out x10_1 p413 q413
     cases e413
     replace hx413_0 := bc_ HB.out hx413_0
     replace hx413_1 := bc_ HB.out hx413_1
     replace hx413_2 := bc_ HB.out hx413_2
     replace hx413_3 := bc_ HB.out hx413_3
     replace hx413_4 := bc_ HB.out hx413_4
     have HR413_0 := A_ hi413_0
     have HC413_0 := A_ hl413_0
     clear hi413_0 hl413_0
     have HR413_4 := A_ hi413_4
     have HC413_4 := A_ hl413_4
     clear hi413_4 hl413_4
     replace p413 := eq_true p413
     replace q413 := eq_true q413
     go_wp2_with (first | ((with_reducible refine gd_ (N := 7) rfl ?_); refine bx_ (N := 7) (cs := #[.slice none 0 0, .bool false, .string (⟨#[]⟩ : ByteArray), .int .i64 0, .slice none 0 0]) (t := 59) ?_; intro gb414 hg w11 hbox hb; replace HO_5 := A_ (Kd.S_below (vS_ HO_5.out) hb); have BK414 := A_ (hbox); have GW414 := A_ (ge_ hg bB_ : w.heap.size ≤ gb414); have GE414 := A_ (ge_ hg bB_ : w.heap.size ≤ gb414); replace HB := A_ (below_step bB_ hb); clear hb hbox hg; obtain ⟨hcz12_0, hcz12_1, hcz12_2, hcz12_3, hcz12_4, hfz12_0, hfz12_1, hfz12_2, hfz12_3, hfz12_4⟩ := cz5_ BK414.out) | (go_at_call 76; (with_reducible refine (impl_Under.calls k1 _ _ ((rd_T59 l0 x10_1).f0) _ _ l1 true _ ?s1 ?s2 ?s3 ?s4 A7.out).mono ?_); (case s1 => exact Kd.C_below HR413_0.out (bG_ GE414.out)); (case s2 => exact HC413_0.out); (case s3 => exact Kd.C_below HR1.out (bG_ GE414.out)); (case s4 => exact HC1.out); rintro e w' ⟨rfl, ⟨nd, rfl⟩⟩) | ((with_reducible refine gc_ (f := 62) rfl ?_); refine gL_ (some 30) Try.func62 #[.slice A413_0 ((rd_T59 l0 x10_1).f0).length c413_0] ?_; (with_reducible refine (impl_copyPath.calls _ _ ((rd_T59 l0 x10_1).f0) t416 _ ?s1 ?s2 A9.out).mono ?_); (case s1 => exact Kd.C_below HR413_0.out (bG_ GE414.out)); (case s2 => exact HC413_0.out); rintro e w13 ⟨v417, rfl, ho0, hb⟩; refine ⟨_, rfl, ?_⟩; replace HO_5 := A_ (Kd.S_elder' (by (with_reducible repeat (first | apply Kd.S_alloc | apply Kd.S_drewN | apply Kd.S_drew)); exact (Kd.S_mono (Kd.S_far (p := ⟨gb414, 4, none⟩) (Kd.S_far (p := ⟨gb414, 3, none⟩) (Kd.S_far (p := ⟨gb414, 2, none⟩) (Kd.S_far (p := ⟨gb414, 1, none⟩) (Kd.S_far (p := ⟨gb414, 0, none⟩) (Kd.S_types HO_5.out BK414.out (by decide)) (fun _ hk => hk.2) (.slice A413_0 ((rd_T59 l0 x10_1).f0).length c413_0)) (fun _ hk => hk.2) (.bool ((rd_T59 l0 x10_1).f1))) (fun _ hk => hk.2) (.string ((rd_T59 l0 x10_1).f2))) (fun _ hk => hk.2) (.int .i64 ((rd_T59 l0 x10_1).f3))) (fun _ hk => hk.2) (.slice A413_4 ((rd_T59 l0 x10_1).f4).length c413_4)) (fun _ h_ => h_.1))) (kb_ ho0) hb); have HO418 := A_ (Kd.R_lower ho0 (below_size (bG_ GE414.out))); replace BK414 := A_ (blk_below (g := gb414) (o := .cells #[.slice A413_0 ((rd_T59 l0 x10_1).f0).length c413_0, .bool ((rd_T59 l0 x10_1).f1), .string ((rd_T59 l0 x10_1).f2), .int .i64 ((rd_T59 l0 x10_1).f3), .slice A413_4 ((rd_T59 l0 x10_1).f4).length c413_4] 59 (0, 0)) (by (with_reducible repeat (first | refine blk_drewN ?_ _ | refine blk_drew ?_ | refine blk_alloc ?_ _)); refine blk_put (cs := #[.slice A413_0 ((rd_T59 l0 x10_1).f0).length c413_0, .bool ((rd_T59 l0 x10_1).f1), .string ((rd_T59 l0 x10_1).f2), .int .i64 ((rd_T59 l0 x10_1).f3), .slice none 0 0]) ?_ 4 _ rfl; (with_reducible repeat (first | refine blk_drewN ?_ _ | refine blk_drew ?_ | refine blk_alloc ?_ _)); refine blk_put (cs := #[.slice A413_0 ((rd_T59 l0 x10_1).f0).length c413_0, .bool ((rd_T59 l0 x10_1).f1), .string ((rd_T59 l0 x10_1).f2), .int .i64 0, .slice none 0 0]) ?_ 3 _ rfl; (with_reducible repeat (first | refine blk_drewN ?_ _ | refine blk_drew ?_ | refine blk_alloc ?_ _)); refine blk_put (cs := #[.slice A413_0 ((rd_T59 l0 x10_1).f0).length c413_0, .bool ((rd_T59 l0 x10_1).f1), .string (⟨#[]⟩ : ByteArray), .int .i64 0, .slice none 0 0]) ?_ 2 _ rfl; (with_reducible repeat (first | refine blk_drewN ?_ _ | refine blk_drew ?_ | refine blk_alloc ?_ _)); refine blk_put (cs := #[.slice A413_0 ((rd_T59 l0 x10_1).f0).length c413_0, .bool false, .string (⟨#[]⟩ : ByteArray), .int .i64 0, .slice none 0 0]) ?_ 1 _ rfl; (with_reducible repeat (first | refine blk_drewN ?_ _ | refine blk_drew ?_ | refine blk_alloc ?_ _)); refine blk_put (cs := #[.slice none 0 0, .bool false, .string (⟨#[]⟩ : ByteArray), .int .i64 0, .slice none 0 0]) ?_ 0 _ rfl; (with_reducible repeat (first | refine blk_drewN ?_ _ | refine blk_drew ?_ | refine blk_alloc ?_ _)); exact BK414.out) hb); replace HB := A_ (below_step (bG_ GE414.out) hb); (try clear hb); (try clear ho0); obtain ⟨Ao15, co15, eo15⟩ := Kd.R_slice HO418.out; subst eo15) | ((with_reducible refine gate_builtin (b := .append) (xs := #[.tmp 27, .tmp 31]) rfl ?_); at_builtin; refine Kd.S_append (Kd.slice 9 Kd.string) (w0 := w) w.heap.size rfl (.tmp 27) (.tmp 31) 47 22 (.slice none 0 0) 24 rfl Try.underlying47 info22 rfl (by decide) (by omega) u5 x5_1 t416 [.slice Ao15 t416.length co15] (fun _ => True) (fun k_ => some k_ = (.slice Ao15 t416.length co15 : Value).ownBlock) rfl rfl ?aP (fun k_ hk_ => ((Kd.R_mono (ok' := fun k_ => ((fun _ => True)) k_ ∧ some k_ ≠ (u5 : Value).ownBlock) (Kd.R_apart' (HO418.out) (Kd.S_typed HO_5.out) (by decide)) (fun k_ hk => ⟨trivial, hk.2⟩))).1 k_ hk_.symm) ?aF ?aO ?aB ?aS ?aL ?_; (case aP => exact Kd.M_row (Kd.R_mono (Kd.R_tight rfl (Kd.R_mono (ok' := fun k_ => ((fun _ => True)) k_ ∧ some k_ ≠ (u5 : Value).ownBlock) (Kd.R_apart' (HO418.out) (Kd.S_typed HO_5.out) (by decide)) (fun k_ hk => ⟨trivial, hk.2⟩))) (fun _ h_ => h_))); (case aB => exact (bG_ GE414.out)); (case aF => exact (fun _ _ => trivial)); (case aO => exact (by (with_reducible repeat (first | apply Kd.S_alloc | apply Kd.S_drewN | apply Kd.S_drew)); exact Kd.S_mono HO_5.out (fun k_ hk => ⟨trivial, fun e_ => hk.2 e_⟩))); (case aS => exact (below_size (bG_ GE414.out))); (case aL => have := LMc10.out; omega); intro v420 w14 ho hb hg hat; rw [← Ny419.out] at ho; replace BK414 := A_ (blk_grown (g := gb414) (o := .cells #[.slice A413_0 ((rd_T59 l0 x10_1).f0).length c413_0, .bool ((rd_T59 l0 x10_1).f1), .string ((rd_T59 l0 x10_1).f2), .int .i64 ((rd_T59 l0 x10_1).f3), .slice A413_4 ((rd_T59 l0 x10_1).f4).length c413_4] 59 (0, 0)) (vb_ BK414.out) hg (Kd.S_ne HO_5.out BK414.out (by decide))); replace HB := A_ (hb); have HO421 := A_ (ho); clear HO_5 HO418; clear ho hb hg hat))
     go_roundg k1
     case measure => have := HK1.out; omega
     case rel => exact ⟨(y419), (wrap64 (x10_1 + 1)), rs_, H', ⟨by have := HK1.out; omega⟩, ⟨vS_ HO421.out⟩, ⟨bG_ GE414.out⟩⟩
   · replace c8 := Bool.eq_false_iff.mpr c8
     subst c8
     rw [if_neg nf_] at H
     have H' := A_ H
     clear H
     have p413 : 0 ≤ (x10_1 : Int) := od_
     have q413 : x10_1 < (l0.length : Int) := od_
     obtain ⟨ad413, A413_0, c413_0, A413_4, c413_4, e413, hx413_0, hx413_1, hx413_2, hx413_3, hx413_4, hl413_0, hi413_0, hl413_4, hi413_4⟩ := at_T59 HR0.out x10_1 p413 q413
     cases e413
     replace hx413_0 := bc_ HB.out hx413_0
     replace hx413_1 := bc_ HB.out hx413_1
     replace hx413_2 := bc_ HB.out hx413_2
     replace hx413_3 := bc_ HB.out hx413_3
     replace hx413_4 := bc_ HB.out hx413_4
     have HR413_0 := A_ hi413_0
     have HC413_0 := A_ hl413_0
     clear hi413_0 hl413_0
     have HR413_4 := A_ hi413_4
     have HC413_4 := A_ hl413_4
     clear hi413_4 hl413_4
     replace p413 := eq_true p413
     replace q413 := eq_true q413
     go_wp2_with (first | ((with_reducible refine gd_ (N := 7) rfl ?_); refine bx_ (N := 7) (cs := #[.slice none 0 0, .bool false, .string (⟨#[]⟩ : ByteArray), .int .i64 0, .slice none 0 0]) (t := 59) ?_; intro gb414 hg w16 hbox hb; replace HO_5 := A_ (Kd.S_below (vS_ HO_5.out) hb); have BK414 := A_ (hbox); have GW414 := A_ (ge_ hg bB_ : w.heap.size ≤ gb414); have GE414 := A_ (ge_ hg bB_ : w.heap.size ≤ gb414); replace HB := A_ (below_step bB_ hb); clear hb hbox hg; obtain ⟨hcz17_0, hcz17_1, hcz17_2, hcz17_3, hcz17_4, hfz17_0, hfz17_1, hfz17_2, hfz17_3, hfz17_4⟩ := cz5_ BK414.out) | (go_at_call 76; (with_reducible refine (impl_Under.calls k1 _ _ ((rd_T59 l0 x10_1).f0) _ _ l1 false _ ?s1 ?s2 ?s3 ?s4 A7.out).mono ?_); (case s1 => exact Kd.C_below HR413_0.out (bG_ GE414.out)); (case s2 => exact HC413_0.out); (case s3 => exact Kd.C_below HR1.out (bG_ GE414.out)); (case s4 => exact HC1.out); rintro e w' ⟨rfl, ⟨nd, rfl⟩⟩))
     go_roundg k1
     case measure => have := HK1.out; omega
     case rel => exact ⟨(x5_1), (wrap64 (x10_1 + 1)), rs_, H', ⟨by have := HK1.out; omega⟩, ⟨by (with_reducible repeat (first | apply Kd.S_alloc | apply Kd.S_drewN | apply Kd.S_drew)); exact Kd.S_mono (Kd.S_far (p := ⟨gb414, 4, none⟩) (Kd.S_far (p := ⟨gb414, 3, none⟩) (Kd.S_far (p := ⟨gb414, 2, none⟩) (Kd.S_far (p := ⟨gb414, 1, none⟩) (Kd.S_far (p := ⟨gb414, 0, none⟩) (Kd.S_types HO_5.out BK414.out (by decide)) (fun _ hk => hk.2) (.slice A413_0 ((rd_T59 l0 x10_1).f0).length c413_0)) (fun _ hk => hk.2) (.bool ((rd_T59 l0 x10_1).f1))) (fun _ hk => hk.2) (.string ((rd_T59 l0 x10_1).f2))) (fun _ hk => hk.2) (.int .i64 ((rd_T59 l0 x10_1).f3))) (fun _ hk => hk.2) (.slice A413_4 ((rd_T59 l0 x10_1).f4).length c413_4)) (fun _ hk => trivial)⟩, ⟨bG_ GE414.out⟩⟩
end Go.Proofs.Yteabkidfgdmmpaa.Q
