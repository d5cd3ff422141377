-- PRINTED by print.py (a twelfth state) out of the translation. Not trusted: Lean checks it.
import Derived.Test.YtbgggcgjijljkaaVRemoveG12
import Derived.Test.YtbgggcgjijljkaaVRemoveG22
namespace Go.Proofs.Ytbgggcgjijljkaa.Q
open Go.RowKit Go.Proofs.YtbgggcgjijljkaaW.PrintWords Go.Proofs.YtbgggcgjijljkaaW.PrintLast Go.Proofs.YtbgggcgjijljkaaW.PrintMore
attribute [local go_sem] max2_int min2_int max_two min_two max_three min_three max_four min_four   -- for this text's walks alone
set_option linter.unusedVariables false
set_option linter.unusedSimpArgs false
def spec_IsColl.f (k : Nat) (l0 : List (S57)) (l1 : List ByteArray) : Option (Bool) := (spec_FindRes.f k l0 l1).bind fun t114 => (if (l1.length : Int) = 0 then (some true) else (if t114 ≥ 0 then (if 0 ≤ t114 then (if t114 < (l0.length : Int) then (some ((rd_T57 l0 t114).f1)) else (none)) else (none)) else (some false)))
set_option maxHeartbeats 8000000 in
set_option maxRecDepth 100000 in
theorem spec_IsColl.calls (k : Nat) (A0 : Option Addr) (c0 : Nat) (l0 : List (S57)) (A1 : Option Addr) (c1 : Nat) (l1 : List ByteArray) (r : Bool) (w : World) (hr0 : Kd.C k57 w A0 l0.length l0) (hc0 : l0.length ≤ c0) (hr1 : Kd.C Kd.string w A1 l1.length l1) (hc1 : l1.length ≤ c1) (h : spec_IsColl.f k l0 l1 = some r) :
 Calls Try.prog 73 #[.slice A0 l0.length c0, .slice A1 l1.length c1] w fun e w' => e = .returned (.bool r) ∧ Drawn0 w w' := by
 have HR0 := Aside0.mk hr0
 have HC0 := Aside0.mk hc0
 clear hr0 hc0
 have HR1 := Aside0.mk hr1
 have HC1 := Aside0.mk hc1
 clear hr1 hc1
 have H : ((spec_FindRes.f k l0 l1).bind fun t114 => (if (l1.length : Int) = 0 then (some true) else (if t114 ≥ 0 then (if 0 ≤ t114 then (if t114 < (l0.length : Int) then (some ((rd_T57 l0 t114).f1)) else (none)) else (none)) else (some false)))) = some r := h
 clear h
 replace H := Option.bind_eq_some_iff.mp H
 obtain ⟨t114, A30, H⟩ := H
 (try dsimp only at H)
 have A3 := Aside0.mk A30
 clear A30
 by_cases c4 : (l1.length : Int) = 0
 · rw [if_pos c4] at H
   have c4b0 : ((l1.length : Int) == 0) = true := beq_iff_eq.mpr c4
   have c4b1 : ((l1.length : Int) != 0) = false := bne_eq_false_iff_eq.mpr c4
   clear c4
   obtain rfl := Option.some.inj H
   go_enter Try.func73, Try.ntmps73
   go_wp2_with (first | ((with_reducible refine gate_callee (f := 61) rfl ?_); refine goesL_ (some 8) rfl rfl Try.func61 (by kernel_rfl) rfl #[.slice A0 l0.length c0, .slice A1 l1.length c1] rfl ml_ ?_; (with_reducible refine (spec_FindRes.calls k _ _ l0 _ _ l1 t114 _ ?side1 ?side2 ?side3 ?side4 A3.out).mono ?_); (case side1 => exact cC_ HR0.out); (case side2 => exact HC0.out); (case side3 => exact cC_ HR1.out); (case side4 => exact HC1.out); rintro e w' ⟨rfl, ⟨nd, rfl⟩⟩; refine ⟨_, rfl, ?_⟩))
   go_ret
   exact ⟨by first | rfl | (simp; done) | (simp [*]; done), by repeat (first | exact Drawn0.refl _ | apply Drawn0.step)⟩
 · rw [if_neg c4] at H
   have c4b0 : ((l1.length : Int) == 0) = false := beq_eq_false_iff_ne.mpr c4
   have c4b1 : ((l1.length : Int) != 0) = true := bne_iff_ne.mpr c4
   have c4b2 : ¬ (l1 = []) := fun h_ => c4 (by rw [h_]; rfl)
   by_cases c5 : t114 ≥ 0
   · rw [if_pos c5] at H
     have c5b0 : decide (0 ≤ t114) = true := decide_eq_true c5
     clear c5
     by_cases c6 : 0 ≤ t114
     · rw [if_pos c6] at H
       have c6b0 : decide (0 ≤ t114) = true := decide_eq_true c6
       clear c6
       by_cases c7 : t114 < (l0.length : Int)
       · rw [if_pos c7] at H
         have c7b0 : decide (t114 < (l0.length : Int)) = true := decide_eq_true c7
         clear c7
         obtain rfl := Option.some.inj H
         go_enter Try.func73, Try.ntmps73
         go_wp2_with (first | ((with_reducible refine gate_callee (f := 61) rfl ?_); refine goesL_ (some 8) rfl rfl Try.func61 (by kernel_rfl) rfl #[.slice A0 l0.length c0, .slice A1 l1.length c1] rfl ml_ ?_; (with_reducible refine (spec_FindRes.calls k _ _ l0 _ _ l1 t114 _ ?side1 ?side2 ?side3 ?side4 A3.out).mono ?_); (case side1 => exact cC_ HR0.out); (case side2 => exact HC0.out); (case side3 => exact cC_ HR1.out); (case side4 => exact HC1.out); rintro e w' ⟨rfl, ⟨nd, rfl⟩⟩; refine ⟨_, rfl, ?_⟩; have p115 : 0 ≤ (t114 : Int) := of_decide_eq_true as_; have q115 : t114 < (l0.length : Int) := of_decide_eq_true as_; obtain ⟨ad115, A115_0, c115_0, A115_4, c115_4, e115, hx115_0, hx115_1, hx115_2, hx115_3, hx115_4, hl115_0, hi115_0, hl115_4, hi115_4⟩ := at_T57 HR0.out t114 p115 q115; cases e115; have HR115_0 := Aside0.mk hi115_0; have HC115_0 := Aside0.mk hl115_0; clear hi115_0 hl115_0; have HR115_4 := Aside0.mk hi115_4; have HC115_4 := Aside0.mk hl115_4; clear hi115_4 hl115_4; replace p115 := eq_true p115; replace q115 := eq_true q115))
         go_ret
         exact ⟨by first | rfl | (simp; done) | (simp [*]; done), by repeat (first | exact Drawn0.refl _ | apply Drawn0.step)⟩
       · rw [if_neg c7] at H
         exact absurd H (by simp)
     · rw [if_neg c6] at H
       exact absurd H (by simp)
   · rw [if_neg c5] at H
     have c5b0 : decide (0 ≤ t114) = false := decide_eq_false c5
     clear c5
     obtain rfl := Option.some.inj H
     go_enter Try.func73, Try.ntmps73
     go_wp2_with (first | ((with_reducible refine gate_callee (f := 61) rfl ?_); refine goesL_ (some 8) rfl rfl Try.func61 (by kernel_rfl) rfl #[.slice A0 l0.length c0, .slice A1 l1.length c1] rfl ml_ ?_; (with_reducible refine (spec_FindRes.calls k _ _ l0 _ _ l1 t114 _ ?side1 ?side2 ?side3 ?side4 A3.out).mono ?_); (case side1 => exact cC_ HR0.out); (case side2 => exact HC0.out); (case side3 => exact cC_ HR1.out); (case side4 => exact HC1.out); rintro e w' ⟨rfl, ⟨nd, rfl⟩⟩; refine ⟨_, rfl, ?_⟩))
     go_ret
     exact ⟨by first | rfl | (simp; done) | (simp [*]; done), by repeat (first | exact Drawn0.refl _ | apply Drawn0.step)⟩
def spec_Above.f (l0 : List ByteArray) : Option (List ByteArray) := if (l0.length : Int) = 0 then (some (([] : List ByteArray))) else ((some (([] : List ByteArray) : List ByteArray)).bind fun y119 => (if 0 ≤ (wrap64 ((l0.length : Int) - 1)) then (if (wrap64 ((l0.length : Int) - 1)) ≤ (l0.length : Int) then (if y119.length + (l0.take ((wrap64 ((l0.length : Int) - 1)) : Int).toNat).length < 8796093022208 then (some (y119 ++ (l0.take ((wrap64 ((l0.length : Int) - 1)) : Int).toNat))) else (none)) else (none)) else (none)))
set_option maxHeartbeats 8000000 in
set_option maxRecDepth 100000 in
theorem spec_Above.calls (A0 : Option Addr) (c0 : Nat) (l0 : List ByteArray) (r : List ByteArray) (w : World) (hr0 : Kd.C Kd.string w A0 l0.length l0) (hc0 : l0.length ≤ c0) (h : spec_Above.f l0 = some r) :
 Calls Try.prog 74 #[.slice A0 l0.length c0] w fun e w' => ∃ v0_ : Value, e = .returned (v0_) ∧ Kd.R Kd.string 9 w' w.heap.size (fun _ => True) v0_ r ∧ Below w.heap.size w w' := by
 have HR0 := Aside0.mk hr0
 have HC0 := Aside0.mk hc0
 clear hr0 hc0
 have HB := Aside0.mk (Below.refl w.heap.size w)
 have H : (if (l0.length : Int) = 0 then (some (([] : List ByteArray))) else ((some (([] : List ByteArray) : List ByteArray)).bind fun y119 => (if 0 ≤ (wrap64 ((l0.length : Int) - 1)) then (if (wrap64 ((l0.length : Int) - 1)) ≤ (l0.length : Int) then (if y119.length + (l0.take ((wrap64 ((l0.length : Int) - 1)) : Int).toNat).length < 8796093022208 then (some (y119 ++ (l0.take ((wrap64 ((l0.length : Int) - 1)) : Int).toNat))) else (none)) else (none)) else (none)))) = some r := h
 clear h
 by_cases c2 : (l0.length : Int) = 0
 · rw [if_pos c2] at H
   have c2b0 : ((l0.length : Int) == 0) = true := beq_iff_eq.mpr c2
   have c2b1 : ((l0.length : Int) != 0) = false := bne_eq_false_iff_eq.mpr c2
   clear c2
   obtain ⟨y116, hy116⟩ : ∃ y_ : List ByteArray, y_ = (([] : List ByteArray)) := ⟨_, rfl⟩
   replace H : (some y116) = some r := by first | (rw [hy116]; with_reducible exact H) | (have H2_ := (Option.bind_some _ _).symm.trans H; rw [hy116]; with_reducible exact H2_) | (have H2_ := (Option.bind_some _ _).symm.trans H; with_reducible exact H2_) | with_reducible exact H | (rw [hy116]; exact H) | exact H
   have Ny116 := Aside0.mk hy116
   clear hy116
   obtain rfl := Option.some.inj H
   go_enter Try.func74, Try.ntmps74
   go_wp2_with (first | ((with_reducible refine gate_dst (N := 6) rfl ?_); refine Kd.R_lit Kd.string _ 9 ?hg (N := 6) ?hd (xs := ([] : List ByteArray)) (inner := []) (ok := fun _ => True) (okp := fun _ => True) ?hr ?hp (fun _ hk => hk) trivial (Below.refl _ _) (Nat.le_refl _) (by simp) ?_; (case hd => rfl); (case hg => rfl); (case hr => first | (go_simp; done) | (go_simp; rfl)); (case hp => exact (Reps.none _ _)); intro v117 w3 ho4 hb hg_ hnew_; clear hg_ hnew_; (first | rw [← Ny116.out] at ho4 | (simp only [Int.reduceToNat] at ho4; rw [← Ny116.out] at ho4)); have n0_ := Aside0.mk (Kd.R_lower ho4 (below_size bB_)); have n1_ := Aside0.mk (below_step bB_ hb); clear HB; have HO118 := n0_; have HB := n1_; clear n0_ n1_; clear hb ho4))
   go_ret
   exact ⟨_, rr_, by (with_reducible repeat (first | apply Kd.R_alloc | apply Kd.R_drewN | apply Kd.R_drew)); exact HO118.out, bB_⟩
 · rw [if_neg c2] at H
   have c2b0 : ((l0.length : Int) == 0) = false := beq_eq_false_iff_ne.mpr c2
   have c2b1 : ((l0.length : Int) != 0) = true := bne_iff_ne.mpr c2
   have c2b2 : ¬ (l0 = []) := fun h_ => c2 (by rw [h_]; rfl)
   obtain ⟨y119, hy119⟩ : ∃ y_ : List ByteArray, y_ = (([] : List ByteArray)) := ⟨_, rfl⟩
   replace H : (if 0 ≤ (wrap64 ((l0.length : Int) - 1)) then (if (wrap64 ((l0.length : Int) - 1)) ≤ (l0.length : Int) then (if y119.length + (l0.take ((wrap64 ((l0.length : Int) - 1)) : Int).toNat).length < 8796093022208 then (some (y119 ++ (l0.take ((wrap64 ((l0.length : Int) - 1)) : Int).toNat))) else (none)) else (none)) else (none)) = some r := by first | (rw [hy119]; with_reducible exact H) | (have H2_ := (Option.bind_some _ _).symm.trans H; rw [hy119]; with_reducible exact H2_) | (have H2_ := (Option.bind_some _ _).symm.trans H; with_reducible exact H2_) | with_reducible exact H | (rw [hy119]; exact H) | exact H
   have Ny119 := Aside0.mk hy119
   clear hy119
   obtain ⟨ji5, hji5⟩ : ∃ j_ : Int, (wrap64 ((l0.length : Int) - 1)) = j_ := ⟨_, rfl⟩
   replace H : (if 0 ≤ (ji5) then (if (ji5) ≤ (l0.length : Int) then (if y119.length + (l0.take ((ji5) : Int).toNat).length < 8796093022208 then (some (y119 ++ (l0.take ((ji5) : Int).toNat))) else (none)) else (none)) else (none)) = some r := by first | (rw [hji5] at H; exact H) | (simp only [hji5] at H ⊢; exact H)
   have hji5w : (IntKind.i64.wrap ((l0.length : Int) - 1)) = ji5 := (i64_w _).trans hji5
   by_cases c6 : 0 ≤ (ji5)
   · rw [if_pos c6] at H
     have c6b0 := eq_true c6
     have c6b1 : decide (0 ≤ (ji5)) = true := decide_eq_true c6
     clear c6
     by_cases c7 : (ji5) ≤ (l0.length : Int)
     · rw [if_pos c7] at H
       have c7b0 := eq_true c7
       have c7b1 : decide ((ji5) ≤ (l0.length : Int)) = true := decide_eq_true c7
       clear c7
       by_cases c8 : y119.length + (l0.take ((ji5) : Int).toNat).length < 8796093022208
       · rw [if_pos c8] at H
         have LMc8 := Aside0.mk c8
         clear c8
         obtain ⟨y123, hy123⟩ : ∃ y_ : List ByteArray, y_ = (y119 ++ (l0.take ((ji5) : Int).toNat)) := ⟨_, rfl⟩
         replace H : (some y123) = some r := by first | (rw [hy123]; with_reducible exact H) | (have H2_ := (Option.bind_some _ _).symm.trans H; rw [hy123]; with_reducible exact H2_) | (have H2_ := (Option.bind_some _ _).symm.trans H; with_reducible exact H2_) | with_reducible exact H | (rw [hy123]; exact H) | exact H
         have Ny123 := Aside0.mk hy123
         clear hy123
         obtain rfl := Option.some.inj H
         go_enter Try.func74, Try.ntmps74
         go_wp2_with (first | ((with_reducible refine gate_dst (N := 7) rfl ?_); refine Kd.R_lit Kd.string _ 9 ?hg (N := 7) ?hd (xs := ([] : List ByteArray)) (inner := []) (ok := fun _ => True) (okp := fun _ => True) ?hr ?hp (fun _ hk => hk) trivial (Below.refl _ _) (Nat.le_refl _) (by simp) ?_; (case hd => rfl); (case hg => rfl); (case hr => first | (go_simp; done) | (go_simp; rfl)); (case hp => exact (Reps.none _ _)); intro v120 w9 ho10 hb hg_ hnew_; clear hg_ hnew_; (first | rw [← Ny119.out] at ho10 | (simp only [Int.reduceToNat] at ho10; rw [← Ny119.out] at ho10)); have n0_ := Aside0.mk (Kd.R_lower ho10 (below_size bB_)); have n1_ := Aside0.mk (below_step bB_ hb); clear HB; have HO121 := n0_; have HB := n1_; clear n0_ n1_; clear hb ho10; obtain ⟨i011, hi011, _, hsz11, _⟩ := info_parts info9; obtain ⟨hcut11, hA11, hC11⟩ := print_take_of (P := Try.prog) Value.string (⟨#[]⟩ : ByteArray) 23 9 .i64 Try.underlying23 hi011 hsz11 A0 c0 l0 (ji5) (of_decide_eq_true as_) (of_decide_eq_true as_) HC0.out; have HR122 := Aside0.mk (Kd.C_of_reads (h1 := fun _ => rfl) (hA11 _ (Kd.reads_of_C HR0.out))); have HC122 := Aside0.mk hC11; clear hA11 hC11 hi011 hsz11) | ((with_reducible refine gate_builtin (b := .append) (xs := #[.tmp 7, .tmp 12]) rfl ?_); at_builtin; refine Kd.R_append_rows Kd.string (w0 := w) w.heap.size rfl (.tmp 7) (.tmp 12) 23 9 (.string ⟨#[]⟩) 16 rfl Try.underlying23 info9 rfl (by decide) (by omega) v120 y119 (l0.take ((ji5) : Int).toNat) _ _ _ (fun _ => True) (fun _ => False) rfl rfl ?aO ?aR (fun _ _ h => h) (fun _ h => h.elim) ?aF ?aB ?aS ?aL ?_; (case aR => first | (refine C_len_cast (show (l0.take ((ji5) : Int).toNat).length = (ji5).toNat from (by rw [List.length_take]; have h_ : ((ji5) : Int) ≤ (l0.length : Int) := of_decide_eq_true as_; omega)) ?_; repeat (first | exact (Kd.C_below HR122.out HB.out) | (with_reducible refine Kd.C_alloc ?_ _) | (with_reducible refine Kd.C_drewN ?_ _) | (with_reducible refine Kd.C_drew ?_))) | (repeat (first | exact (Kd.C_below HR122.out HB.out) | (with_reducible refine Kd.C_alloc ?_ _) | (with_reducible refine Kd.C_drewN ?_ _) | (with_reducible refine Kd.C_drew ?_)))); (case aB => exact bB_); (case aF => exact (fun _ _ => trivial)); (case aO => exact (vR_ HO121.out)); (case aS => exact (below_size bB_)); (case aL => have := LMc8.out; have hlx_ := (show (l0.take ((ji5) : Int).toNat).length = (ji5).toNat from (by rw [List.length_take]; have h_ : ((ji5) : Int) ≤ (l0.length : Int) := of_decide_eq_true as_; omega)); omega); intro v124 w12 ho hb hg hat; rw [← Ny123.out] at ho; have n0_ := Aside0.mk (hb); have n1_ := Aside0.mk (ho); clear HB; clear HO121; have HB := n0_; have HO125 := n1_; clear n0_ n1_; clear ho hb hg hat))
         go_ret
         exact ⟨_, by first | rfl | (simp [errW_none, errW_some] <;> rfl) | (simp only [← hji5]; first | rfl | (simp [errW_none, errW_some] <;> rfl)) | (simp [*, errW_none, errW_some] <;> rfl), by (with_reducible repeat (first | apply Kd.R_alloc | apply Kd.R_drewN | apply Kd.R_drew)); exact HO125.out, bB_⟩
       · rw [if_neg c8] at H
         exact absurd H (by simp)
     · rw [if_neg c7] at H
       exact absurd H (by simp)
   · rw [if_neg c6] at H
     exact absurd H (by simp)
def spec_l1In.f (a0 : Int) (a1 : Int) (a2 : Int) : Option (Bool) := if a0 ≥ a1 then (some (decide (a0 ≤ a2))) else (some false)
set_option maxHeartbeats 8000000 in
set_option maxRecDepth 100000 in
theorem spec_l1In.calls (a0 : Int) (a1 : Int) (a2 : Int) (r : Bool) (w : World) (h : spec_l1In.f a0 a1 a2 = some r) :
 Calls Try.prog 103 #[.int .i64 a0, .int .i64 a1, .int .i64 a2] w fun e w' => e = .returned (.bool r) ∧ Drawn0 w w' := by
 have H : (if a0 ≥ a1 then (some (decide (a0 ≤ a2))) else (some false)) = some r := h
 clear h
 by_cases c4 : a0 ≥ a1
 · rw [if_pos c4] at H
   have c4b0 : decide (a1 ≤ a0) = true := decide_eq_true c4
   clear c4
   obtain rfl := Option.some.inj H
   go_enter Try.func103, Try.ntmps103
   go_wp2
   go_ret
   exact ⟨by first | rfl | (simp; done) | (simp [*]; done), by repeat (first | exact Drawn0.refl _ | apply Drawn0.step)⟩
 · rw [if_neg c4] at H
   have c4b0 : decide (a1 ≤ a0) = false := decide_eq_false c4
   clear c4
   obtain rfl := Option.some.inj H
   go_enter Try.func103, Try.ntmps103
   go_wp2
   go_ret
   exact ⟨by first | rfl | (simp; done) | (simp [*]; done), by repeat (first | exact Drawn0.refl _ | apply Drawn0.step)⟩
def spec_Plain.l0 : Nat → ByteArray → Int → Option (Bool)
 | 0, _, _ => none
 | k + 1, x0, x3 => if x3 < (x0.size : Int) then (if 0 ≤ x3 then ((spec_l1In.f (wrap64 (bt x0 x3)) 32 126).bind fun t126 => (if t126 = true then (spec_Plain.l0 k x0 (wrap64 (x3 + 1))) else (some false))) else (none)) else (some true)
def spec_Plain.f (k : Nat) (a0 : ByteArray) : Option (Bool) := spec_Plain.l0 k a0 0
set_option maxHeartbeats 8000000 in
set_option maxRecDepth 100000 in
theorem spec_Plain.calls (k : Nat) (a0 : ByteArray) (r : Bool) (w : World) (h : spec_Plain.f k a0 = some r) :
 Calls Try.prog 125 #[.string a0] w fun e w' => e = .returned (.bool r) ∧ Drawn0 w w' := by
 have H : (spec_Plain.l0 k a0 0) = some r := h
 clear h
 have H' := Aside0.mk H
 clear H
 go_enter Try.func125, Try.ntmps125
 go_wp2
 go_loopg [3] k (fun kq v3 w' => ∃ (x3_1 : Int), v3 = .int .i64 x3_1 ∧ Aside0 (spec_Plain.l0 kq a0 x3_1 = some r) ∧ Aside0 (kq ≤ k) ∧ Drawn0 w w')
 case atStart => exact ⟨(0), (by first | rfl | (simp; done) | (simp [*]; done)), H', ⟨Nat.le_refl _⟩, by repeat (first | exact Drawn0.refl _ | apply Drawn0.step)⟩
 case round =>
  clear H'
  try clear c1
  obtain ⟨x3_1, rfl, HA, HK1, ⟨m1, rfl⟩⟩ := hrel
  cases gk with
  | zero => exact absurd HA.out (by simp [spec_Plain.l0])
  | succ k1 =>
   have H := HA.out
   clear HA
   simp only [spec_Plain.l0] at H
   by_cases c2 : x3_1 < (a0.size : Int)
   · rw [if_pos c2] at H
     have c2b0 : decide (x3_1 < (a0.size : Int)) = true := decide_eq_true c2
     clear c2
     by_cases c3 : 0 ≤ x3_1
     · rw [if_pos c3] at H
       have c3b0 : decide (0 ≤ x3_1) = true := decide_eq_true c3
       clear c3
       replace H := Option.bind_eq_some_iff.mp H
       obtain ⟨t126, A50, H⟩ := H
       (try dsimp only at H)
       have A5 := Aside0.mk A50
       clear A50
       by_cases c6 : t126 = true
       · subst c6
         rw [if_pos rfl] at H
         have H' := Aside0.mk H
         clear H
         have p4 : 0 ≤ (x3_1 : Int) := of_decide_eq_true as_
         have q4 : x3_1 < (a0.size : Int) := of_decide_eq_true as_
         have hx4 := bt_at a0 x3_1
         replace p4 := eq_true p4
         replace q4 := eq_true q4
         go_wp2_with (first | ((with_reducible refine gate_callee (f := 103) rfl ?_); refine goesL_ (some 14) rfl rfl Try.func103 (by kernel_rfl) rfl #[.int .i64 (wrap64 (bt a0 x3_1)), .int .i64 32, .int .i64 126] rfl ml_ ?_; (with_reducible refine (spec_l1In.calls (wrap64 (bt a0 x3_1)) 32 126 true _ A5.out).mono ?_); rintro e w' ⟨rfl, ⟨nd, rfl⟩⟩; refine ⟨_, rfl, ?_⟩))
         go_roundg k1
         case measure => have := HK1.out; omega
         case rel => exact ⟨(wrap64 (x3_1 + 1)), (by first | rfl | (simp; done) | (simp [*]; done)), H', ⟨by have := HK1.out; omega⟩, by repeat (first | exact Drawn0.refl _ | apply Drawn0.step)⟩
       · replace c6 := Bool.eq_false_iff.mpr c6
         subst c6
         rw [if_neg (show ¬ (false = true) by decide)] at H
         obtain rfl := Option.some.inj H
         have p4 : 0 ≤ (x3_1 : Int) := of_decide_eq_true as_
         have q4 : x3_1 < (a0.size : Int) := of_decide_eq_true as_
         have hx4 := bt_at a0 x3_1
         replace p4 := eq_true p4
         replace q4 := eq_true q4
         go_wp2_with (first | ((with_reducible refine gate_callee (f := 103) rfl ?_); refine goesL_ (some 14) rfl rfl Try.func103 (by kernel_rfl) rfl #[.int .i64 (wrap64 (bt a0 x3_1)), .int .i64 32, .int .i64 126] rfl ml_ ?_; (with_reducible refine (spec_l1In.calls (wrap64 (bt a0 x3_1)) 32 126 false _ A5.out).mono ?_); rintro e w' ⟨rfl, ⟨nd, rfl⟩⟩; refine ⟨_, rfl, ?_⟩))
         go_ret
         exact ⟨by first | rfl | (simp; done) | (simp [*]; done), by repeat (first | exact Drawn0.refl _ | apply Drawn0.step)⟩
     · rw [if_neg c3] at H
       exact absurd H (by simp)
   · rw [if_neg c2] at H
     have c2b0 : decide (x3_1 < (a0.size : Int)) = false := decide_eq_false c2
     clear c2
     obtain rfl := Option.some.inj H
     go_wp2
     go_ret
     exact ⟨by first | rfl | (simp; done) | (simp [*]; done), by repeat (first | exact Drawn0.refl _ | apply Drawn0.step)⟩
def spec_l1Small.f (a0 : Int) : Option (Bool) := (spec_l1In.f (wrap64 (a0)) 97 122).bind fun t127 => (some t127)
set_option maxHeartbeats 8000000 in
set_option maxRecDepth 100000 in
theorem spec_l1Small.calls (a0 : Int) (r : Bool) (w : World) (h : spec_l1Small.f a0 = some r) :
 Calls Try.prog 135 #[.int .u8 a0] w fun e w' => e = .returned (.bool r) ∧ Drawn0 w w' := by
 have H : ((spec_l1In.f (wrap64 (a0)) 97 122).bind fun t127 => (some t127)) = some r := h
 clear h
 replace H := Option.bind_eq_some_iff.mp H
 obtain ⟨t127, A20, H⟩ := H
 (try dsimp only at H)
 have A2 := Aside0.mk A20
 clear A20
 obtain rfl := Option.some.inj H
 go_enter Try.func135, Try.ntmps135
 go_wp2_with (first | ((with_reducible refine gate_callee (f := 103) rfl ?_); refine goesL_ (some 5) rfl rfl Try.func103 (by kernel_rfl) rfl #[.int .i64 (wrap64 (a0)), .int .i64 97, .int .i64 122] rfl ml_ ?_; (with_reducible refine (spec_l1In.calls (wrap64 (a0)) 97 122 t127 _ A2.out).mono ?_); rintro e w' ⟨rfl, ⟨nd, rfl⟩⟩; refine ⟨_, rfl, ?_⟩))
 go_ret
 exact ⟨by first | rfl | (simp; done) | (simp [*]; done), by repeat (first | exact Drawn0.refl _ | apply Drawn0.step)⟩
def spec_l1Digit.f (a0 : Int) : Option (Bool) := (spec_l1In.f (wrap64 (a0)) 48 57).bind fun t128 => (some t128)
set_option maxHeartbeats 8000000 in
set_option maxRecDepth 100000 in
theorem spec_l1Digit.calls (a0 : Int) (r : Bool) (w : World) (h : spec_l1Digit.f a0 = some r) :
 Calls Try.prog 136 #[.int .u8 a0] w fun e w' => e = .returned (.bool r) ∧ Drawn0 w w' := by
 have H : ((spec_l1In.f (wrap64 (a0)) 48 57).bind fun t128 => (some t128)) = some r := h
 clear h
 replace H := Option.bind_eq_some_iff.mp H
 obtain ⟨t128, A20, H⟩ := H
 (try dsimp only at H)
 have A2 := Aside0.mk A20
 clear A20
 obtain rfl := Option.some.inj H
 go_enter Try.func136, Try.ntmps136
 go_wp2_with (first | ((with_reducible refine gate_callee (f := 103) rfl ?_); refine goesL_ (some 5) rfl rfl Try.func103 (by kernel_rfl) rfl #[.int .i64 (wrap64 (a0)), .int .i64 48, .int .i64 57] rfl ml_ ?_; (with_reducible refine (spec_l1In.calls (wrap64 (a0)) 48 57 t128 _ A2.out).mono ?_); rintro e w' ⟨rfl, ⟨nd, rfl⟩⟩; refine ⟨_, rfl, ?_⟩))
 go_ret
 exact ⟨by first | rfl | (simp; done) | (simp [*]; done), by repeat (first | exact Drawn0.refl _ | apply Drawn0.step)⟩
def spec_SmallName.l0 : Nat → ByteArray → Int → Option (Bool)
 | 0, _, _ => none
 | k + 1, x0, x3 => if x3 < (x0.size : Int) then (if 0 ≤ x3 then ((spec_l1Small.f (bt x0 x3)).bind fun t130 => (if t130 = true then (spec_SmallName.l0 k x0 (wrap64 (x3 + 1))) else (if x3 = 0 then (some false) else ((spec_l1Digit.f (bt x0 x3)).bind fun t131 => (if t131 = true then (spec_SmallName.l0 k x0 (wrap64 (x3 + 1))) else (if (bt x0 x3) = 45 then (spec_SmallName.l0 k x0 (wrap64 (x3 + 1))) else (some false))))))) else (none)) else ((spec_l1In.f (x0.size : Int) 1 20).bind fun t129 => (some t129))
def spec_SmallName.f (k : Nat) (a0 : ByteArray) : Option (Bool) := spec_SmallName.l0 k a0 0
set_option maxHeartbeats 8000000 in
set_option maxRecDepth 100000 in
theorem spec_SmallName.calls (k : Nat) (a0 : ByteArray) (r : Bool) (w : World) (h : spec_SmallName.f k a0 = some r) :
 Calls Try.prog 126 #[.string a0] w fun e w' => e = .returned (.bool r) ∧ Drawn0 w w' := by
 have H : (spec_SmallName.l0 k a0 0) = some r := h
 clear h
 have H' := Aside0.mk H
 clear H
 go_enter Try.func126, Try.ntmps126
 go_wp2
 go_loopg [3] k (fun kq v3 w' => ∃ (x3_1 : Int), v3 = .int .i64 x3_1 ∧ Aside0 (spec_SmallName.l0 kq a0 x3_1 = some r) ∧ Aside0 (kq ≤ k) ∧ Drawn0 w w')
 case atStart => exact ⟨(0), (by first | rfl | (simp; done) | (simp [*]; done)), H', ⟨Nat.le_refl _⟩, by repeat (first | exact Drawn0.refl _ | apply Drawn0.step)⟩
 case round =>
  clear H'
  try clear c1
  obtain ⟨x3_1, rfl, HA, HK1, ⟨m1, rfl⟩⟩ := hrel
  cases gk with
  | zero => exact absurd HA.out (by simp [spec_SmallName.l0])
  | succ k1 =>
   have H := HA.out
   clear HA
   simp only [spec_SmallName.l0] at H
   by_cases c2 : x3_1 < (a0.size : Int)
   · rw [if_pos c2] at H
     have c2b0 : decide (x3_1 < (a0.size : Int)) = true := decide_eq_true c2
     clear c2
     by_cases c3 : 0 ≤ x3_1
     · rw [if_pos c3] at H
       have c3b0 : decide (0 ≤ x3_1) = true := decide_eq_true c3
       clear c3
       replace H := Option.bind_eq_some_iff.mp H
       obtain ⟨t130, A50, H⟩ := H
       (try dsimp only at H)
       have A5 := Aside0.mk A50
       clear A50
       by_cases c6 : t130 = true
       · subst c6
         rw [if_pos rfl] at H
         have H' := Aside0.mk H
         clear H
         have p4 : 0 ≤ (x3_1 : Int) := of_decide_eq_true as_
         have q4 : x3_1 < (a0.size : Int) := of_decide_eq_true as_
         have hx4 := bt_at a0 x3_1
         replace p4 := eq_true p4
         replace q4 := eq_true q4
         go_wp2_with (first | ((with_reducible refine gate_callee (f := 135) rfl ?_); refine goesL_ (some 13) rfl rfl Try.func135 (by kernel_rfl) rfl #[.int .u8 (bt a0 x3_1)] rfl ml_ ?_; (with_reducible refine (spec_l1Small.calls (bt a0 x3_1) true _ A5.out).mono ?_); rintro e w' ⟨rfl, ⟨nd, rfl⟩⟩; refine ⟨_, rfl, ?_⟩))
         go_roundg k1
         case measure => have := HK1.out; omega
         case rel => exact ⟨(wrap64 (x3_1 + 1)), (by first | rfl | (simp; done) | (simp [*]; done)), H', ⟨by have := HK1.out; omega⟩, by repeat (first | exact Drawn0.refl _ | apply Drawn0.step)⟩
       · replace c6 := Bool.eq_false_iff.mpr c6
         subst c6
         rw [if_neg (show ¬ (false = true) by decide)] at H
         by_cases c7 : x3_1 = 0
         · rw [if_pos c7] at H
           have c7b0 : (x3_1 == 0) = true := beq_iff_eq.mpr c7
           have c7b1 : (x3_1 != 0) = false := bne_eq_false_iff_eq.mpr c7
           clear c7
           obtain rfl := Option.some.inj H
           have p4 : 0 ≤ (x3_1 : Int) := of_decide_eq_true as_
           have q4 : x3_1 < (a0.size : Int) := of_decide_eq_true as_
           have hx4 := bt_at a0 x3_1
           replace p4 := eq_true p4
           replace q4 := eq_true q4
           go_wp2_with (first | ((with_reducible refine gate_callee (f := 135) rfl ?_); refine goesL_ (some 13) rfl rfl Try.func135 (by kernel_rfl) rfl #[.int .u8 (bt a0 x3_1)] rfl ml_ ?_; (with_reducible refine (spec_l1Small.calls (bt a0 x3_1) false _ A5.out).mono ?_); rintro e w' ⟨rfl, ⟨nd, rfl⟩⟩; refine ⟨_, rfl, ?_⟩))
           go_ret
           exact ⟨by first | rfl | (simp; done) | (simp [*]; done), by repeat (first | exact Drawn0.refl _ | apply Drawn0.step)⟩
         · rw [if_neg c7] at H
           have c7b0 : (x3_1 == 0) = false := beq_eq_false_iff_ne.mpr c7
           have c7b1 : (x3_1 != 0) = true := bne_iff_ne.mpr c7
           replace H := Option.bind_eq_some_iff.mp H
           obtain ⟨t131, A90, H⟩ := H
           (try dsimp only at H)
           have A9 := Aside0.mk A90
           clear A90
           by_cases c10 : t131 = true
           · subst c10
             rw [if_pos rfl] at H
             have H' := Aside0.mk H
             clear H
             have p4 : 0 ≤ (x3_1 : Int) := of_decide_eq_true as_
             have q4 : x3_1 < (a0.size : Int) := of_decide_eq_true as_
             have hx4 := bt_at a0 x3_1
             replace p4 := eq_true p4
             replace q4 := eq_true q4
             go_wp2_with (first | ((with_reducible refine gate_callee (f := 135) rfl ?_); refine goesL_ (some 13) rfl rfl Try.func135 (by kernel_rfl) rfl #[.int .u8 (bt a0 x3_1)] rfl ml_ ?_; (with_reducible refine (spec_l1Small.calls (bt a0 x3_1) false _ A5.out).mono ?_); rintro e w' ⟨rfl, ⟨nd, rfl⟩⟩; refine ⟨_, rfl, ?_⟩; have p8 : 0 ≤ (x3_1 : Int) := of_decide_eq_true as_; have q8 : x3_1 < (a0.size : Int) := of_decide_eq_true as_; have hx8 := bt_at a0 x3_1; replace p8 := eq_true p8; replace q8 := eq_true q8) | (go_at_call 136; (with_reducible refine (spec_l1Digit.calls (bt a0 x3_1) true _ A9.out).mono ?_); rintro e w' ⟨rfl, ⟨nd, rfl⟩⟩))
             go_roundg k1
             case measure => have := HK1.out; omega
             case rel => exact ⟨(wrap64 (x3_1 + 1)), (by first | rfl | (simp; done) | (simp [*]; done)), H', ⟨by have := HK1.out; omega⟩, by repeat (first | exact Drawn0.refl _ | apply Drawn0.step)⟩
           · replace c10 := Bool.eq_false_iff.mpr c10
             subst c10
             rw [if_neg (show ¬ (false = true) by decide)] at H
             by_cases c12 : (bt a0 x3_1) = 45
             · rw [if_pos c12] at H
               have c12b0 : ((bt a0 x3_1) == 45) = true := beq_iff_eq.mpr c12
               have c12b1 : ((bt a0 x3_1) != 45) = false := bne_eq_false_iff_eq.mpr c12
               clear c12
               have H' := Aside0.mk H
               clear H
               have p4 : 0 ≤ (x3_1 : Int) := of_decide_eq_true as_
               have q4 : x3_1 < (a0.size : Int) := of_decide_eq_true as_
               have hx4 := bt_at a0 x3_1
               replace p4 := eq_true p4
               replace q4 := eq_true q4
               go_wp2_with (first | ((with_reducible refine gate_callee (f := 135) rfl ?_); refine goesL_ (some 13) rfl rfl Try.func135 (by kernel_rfl) rfl #[.int .u8 (bt a0 x3_1)] rfl ml_ ?_; (with_reducible refine (spec_l1Small.calls (bt a0 x3_1) false _ A5.out).mono ?_); rintro e w' ⟨rfl, ⟨nd, rfl⟩⟩; refine ⟨_, rfl, ?_⟩; have p8 : 0 ≤ (x3_1 : Int) := of_decide_eq_true as_; have q8 : x3_1 < (a0.size : Int) := of_decide_eq_true as_; have hx8 := bt_at a0 x3_1; replace p8 := eq_true p8; replace q8 := eq_true q8) | (go_at_call 136; (with_reducible refine (spec_l1Digit.calls (bt a0 x3_1) false _ A9.out).mono ?_); rintro e w' ⟨rfl, ⟨nd, rfl⟩⟩; have p11 : 0 ≤ (x3_1 : Int) := of_decide_eq_true as_; have q11 : x3_1 < (a0.size : Int) := of_decide_eq_true as_; have hx11 := bt_at a0 x3_1; replace p11 := eq_true p11; replace q11 := eq_true q11))
               go_roundg k1
               case measure => have := HK1.out; omega
               case rel => exact ⟨(wrap64 (x3_1 + 1)), (by first | rfl | (simp; done) | (simp [*]; done)), H', ⟨by have := HK1.out; omega⟩, by repeat (first | exact Drawn0.refl _ | apply Drawn0.step)⟩
             · rw [if_neg c12] at H
               have c12b0 : ((bt a0 x3_1) == 45) = false := beq_eq_false_iff_ne.mpr c12
               have c12b1 : ((bt a0 x3_1) != 45) = true := bne_iff_ne.mpr c12
               obtain rfl := Option.some.inj H
               have p4 : 0 ≤ (x3_1 : Int) := of_decide_eq_true as_
               have q4 : x3_1 < (a0.size : Int) := of_decide_eq_true as_
               have hx4 := bt_at a0 x3_1
               replace p4 := eq_true p4
               replace q4 := eq_true q4
               go_wp2_with (first | ((with_reducible refine gate_callee (f := 135) rfl ?_); refine goesL_ (some 13) rfl rfl Try.func135 (by kernel_rfl) rfl #[.int .u8 (bt a0 x3_1)] rfl ml_ ?_; (with_reducible refine (spec_l1Small.calls (bt a0 x3_1) false _ A5.out).mono ?_); rintro e w' ⟨rfl, ⟨nd, rfl⟩⟩; refine ⟨_, rfl, ?_⟩; have p8 : 0 ≤ (x3_1 : Int) := of_decide_eq_true as_; have q8 : x3_1 < (a0.size : Int) := of_decide_eq_true as_; have hx8 := bt_at a0 x3_1; replace p8 := eq_true p8; replace q8 := eq_true q8) | (go_at_call 136; (with_reducible refine (spec_l1Digit.calls (bt a0 x3_1) false _ A9.out).mono ?_); rintro e w' ⟨rfl, ⟨nd, rfl⟩⟩; have p11 : 0 ≤ (x3_1 : Int) := of_decide_eq_true as_; have q11 : x3_1 < (a0.size : Int) := of_decide_eq_true as_; have hx11 := bt_at a0 x3_1; replace p11 := eq_true p11; replace q11 := eq_true q11))
               go_ret
               exact ⟨by first | rfl | (simp; done) | (simp [*]; done), by repeat (first | exact Drawn0.refl _ | apply Drawn0.step)⟩
     · rw [if_neg c3] at H
       exact absurd H (by simp)
   · rw [if_neg c2] at H
     have c2b0 : decide (x3_1 < (a0.size : Int)) = false := decide_eq_false c2
     clear c2
     replace H := Option.bind_eq_some_iff.mp H
     obtain ⟨t129, A130, H⟩ := H
     (try dsimp only at H)
     have A13 := Aside0.mk A130
     clear A130
     obtain rfl := Option.some.inj H
     go_wp2_with (first | ((with_reducible refine gate_callee (f := 103) rfl ?_); refine goesL_ (some 34) rfl rfl Try.func103 (by kernel_rfl) rfl #[.int .i64 (a0.size : Int), .int .i64 1, .int .i64 20] rfl ml_ ?_; (with_reducible refine (spec_l1In.calls (a0.size : Int) 1 20 t129 _ A13.out).mono ?_); rintro e w' ⟨rfl, ⟨nd, rfl⟩⟩; refine ⟨_, rfl, ?_⟩))
     go_ret
     exact ⟨by first | rfl | (simp; done) | (simp [*]; done), by repeat (first | exact Drawn0.refl _ | apply Drawn0.step)⟩
def spec_l10Prop.f (k : Nat) (a0_0 : ByteArray) (a0_1 : ByteArray) (a0_2 : ByteArray) : Option (Bool) := if (a0_0.size : Int) ≤ 20 then ((spec_Plain.f k a0_0).bind fun t133 => (if t133 = true then ((spec_SmallName.f k a0_1).bind fun t134 => (if t134 = true then (if (a0_2.size : Int) ≤ 20 then ((spec_Plain.f k a0_2).bind fun t135 => (some t135)) else (some false)) else (some false))) else (some false))) else (some false)
set_option maxHeartbeats 8000000 in
set_option maxRecDepth 100000 in
theorem spec_l10Prop.calls (k : Nat) (a0_0 : ByteArray) (a0_1 : ByteArray) (a0_2 : ByteArray) (r : Bool) (w : World) (h : spec_l10Prop.f k a0_0 a0_1 a0_2 = some r) :
 Calls Try.prog 95 #[.agg #[.string a0_0, .string a0_1, .string a0_2]] w fun e w' => e = .returned (.bool r) ∧ Below w.heap.size w w' := by
 have hu72 := Try.underlying72
 have HB := Aside0.mk (Below.refl w.heap.size w)
 have H : (if (a0_0.size : Int) ≤ 20 then ((spec_Plain.f k a0_0).bind fun t133 => (if t133 = true then ((spec_SmallName.f k a0_1).bind fun t134 => (if t134 = true then (if (a0_2.size : Int) ≤ 20 then ((spec_Plain.f k a0_2).bind fun t135 => (some t135)) else (some false)) else (some false))) else (some false))) else (some false)) = some r := h
 clear h
 by_cases c2 : (a0_0.size : Int) ≤ 20
 · rw [if_pos c2] at H
   have c2b0 : decide ((a0_0.size : Int) ≤ 20) = true := decide_eq_true c2
   have c2b1 : decide (a0_0.size ≤ 20) = true := decide_eq_true (by omega)
   clear c2
   replace H := Option.bind_eq_some_iff.mp H
   obtain ⟨t133, A30, H⟩ := H
   (try dsimp only at H)
   have A3 := Aside0.mk A30
   clear A30
   by_cases c4 : t133 = true
   · subst c4
     rw [if_pos rfl] at H
     replace H := Option.bind_eq_some_iff.mp H
     obtain ⟨t134, A50, H⟩ := H
     (try dsimp only at H)
     have A5 := Aside0.mk A50
     clear A50
     by_cases c6 : t134 = true
     · subst c6
       rw [if_pos rfl] at H
       by_cases c7 : (a0_2.size : Int) ≤ 20
       · rw [if_pos c7] at H
         have c7b0 : decide ((a0_2.size : Int) ≤ 20) = true := decide_eq_true c7
         have c7b1 : decide (a0_2.size ≤ 20) = true := decide_eq_true (by omega)
         clear c7
         replace H := Option.bind_eq_some_iff.mp H
         obtain ⟨t135, A80, H⟩ := H
         (try dsimp only at H)
         have A8 := Aside0.mk A80
         clear A80
         obtain rfl := Option.some.inj H
         go_enter Try.func95, Try.ntmps95
         go_wp2_with (first | ((with_reducible refine gate_dst (N := 1) rfl ?_); (try (refine gate_guard (by rfl) ?_; dsimp only)); refine box_event ?hg (N := 1) ?hd (cs := #[.string a0_0, .string a0_1, .string a0_2]) (t := 72) ?hr ?_; (case hd => rfl); (case hg => rfl); (case hr => first | (go_simp; done) | (go_simp; rfl)); intro gb132 hg w9 hbox hb; have n0_ := Aside0.mk (below_step bB_ hb); have n1_ := Aside0.mk (hbox); have n2_ := Aside0.mk ((by rw [hg]; exact (below_size bB_) : w.heap.size ≤ gb132)); have n3_ := Aside0.mk ((by rw [hg]; exact (below_size bB_) : w.heap.size ≤ gb132)); clear HB; have HB := n0_; have BK132 := n1_; have GW132 := n2_; have GE132 := n3_; clear n0_ n1_ n2_ n3_; clear hb hbox hg; obtain ⟨hcz10_0, hcz10_1, hcz10_2, hfz10_0, hfz10_1, hfz10_2⟩ := cz3_ BK132.out) | (go_at_call 125; (with_reducible refine (spec_Plain.calls k a0_0 true _ A3.out).mono ?_); rintro e w' ⟨rfl, ⟨nd, rfl⟩⟩) | (go_at_call 126; (with_reducible refine (spec_SmallName.calls k a0_1 true _ A5.out).mono ?_); rintro e w' ⟨rfl, ⟨nd, rfl⟩⟩) | (go_at_call 125; (with_reducible refine (spec_Plain.calls k a0_2 t135 _ A8.out).mono ?_); rintro e w' ⟨rfl, ⟨nd, rfl⟩⟩))
         go_ret
         exact ⟨rr_, bG_ GE132.out⟩
       · rw [if_neg c7] at H
         have c7b0 : decide ((a0_2.size : Int) ≤ 20) = false := decide_eq_false c7
         have c7b1 : decide (a0_2.size ≤ 20) = false := decide_eq_false (by omega)
         clear c7
         obtain rfl := Option.some.inj H
         go_enter Try.func95, Try.ntmps95
         go_wp2_with (first | ((with_reducible refine gate_dst (N := 1) rfl ?_); (try (refine gate_guard (by rfl) ?_; dsimp only)); refine box_event ?hg (N := 1) ?hd (cs := #[.string a0_0, .string a0_1, .string a0_2]) (t := 72) ?hr ?_; (case hd => rfl); (case hg => rfl); (case hr => first | (go_simp; done) | (go_simp; rfl)); intro gb132 hg w11 hbox hb; have n0_ := Aside0.mk (below_step bB_ hb); have n1_ := Aside0.mk (hbox); have n2_ := Aside0.mk ((by rw [hg]; exact (below_size bB_) : w.heap.size ≤ gb132)); have n3_ := Aside0.mk ((by rw [hg]; exact (below_size bB_) : w.heap.size ≤ gb132)); clear HB; have HB := n0_; have BK132 := n1_; have GW132 := n2_; have GE132 := n3_; clear n0_ n1_ n2_ n3_; clear hb hbox hg; obtain ⟨hcz12_0, hcz12_1, hcz12_2, hfz12_0, hfz12_1, hfz12_2⟩ := cz3_ BK132.out) | (go_at_call 125; (with_reducible refine (spec_Plain.calls k a0_0 true _ A3.out).mono ?_); rintro e w' ⟨rfl, ⟨nd, rfl⟩⟩) | (go_at_call 126; (with_reducible refine (spec_SmallName.calls k a0_1 true _ A5.out).mono ?_); rintro e w' ⟨rfl, ⟨nd, rfl⟩⟩))
         go_ret
         exact ⟨rr_, bG_ GE132.out⟩
     · replace c6 := Bool.eq_false_iff.mpr c6
       subst c6
       rw [if_neg (show ¬ (false = true) by decide)] at H
       obtain rfl := Option.some.inj H
       go_enter Try.func95, Try.ntmps95
       go_wp2_with (first | ((with_reducible refine gate_dst (N := 1) rfl ?_); (try (refine gate_guard (by rfl) ?_; dsimp only)); refine box_event ?hg (N := 1) ?hd (cs := #[.string a0_0, .string a0_1, .string a0_2]) (t := 72) ?hr ?_; (case hd => rfl); (case hg => rfl); (case hr => first | (go_simp; done) | (go_simp; rfl)); intro gb132 hg w13 hbox hb; have n0_ := Aside0.mk (below_step bB_ hb); have n1_ := Aside0.mk (hbox); have n2_ := Aside0.mk ((by rw [hg]; exact (below_size bB_) : w.heap.size ≤ gb132)); have n3_ := Aside0.mk ((by rw [hg]; exact (below_size bB_) : w.heap.size ≤ gb132)); clear HB; have HB := n0_; have BK132 := n1_; have GW132 := n2_; have GE132 := n3_; clear n0_ n1_ n2_ n3_; clear hb hbox hg; obtain ⟨hcz14_0, hcz14_1, hcz14_2, hfz14_0, hfz14_1, hfz14_2⟩ := cz3_ BK132.out) | (go_at_call 125; (with_reducible refine (spec_Plain.calls k a0_0 true _ A3.out).mono ?_); rintro e w' ⟨rfl, ⟨nd, rfl⟩⟩) | (go_at_call 126; (with_reducible refine (spec_SmallName.calls k a0_1 false _ A5.out).mono ?_); rintro e w' ⟨rfl, ⟨nd, rfl⟩⟩))
       go_ret
       exact ⟨rr_, bG_ GE132.out⟩
   · replace c4 := Bool.eq_false_iff.mpr c4
     subst c4
     rw [if_neg (show ¬ (false = true) by decide)] at H
     obtain rfl := Option.some.inj H
     go_enter Try.func95, Try.ntmps95
     go_wp2_with (first | ((with_reducible refine gate_dst (N := 1) rfl ?_); (try (refine gate_guard (by rfl) ?_; dsimp only)); refine box_event ?hg (N := 1) ?hd (cs := #[.string a0_0, .string a0_1, .string a0_2]) (t := 72) ?hr ?_; (case hd => rfl); (case hg => rfl); (case hr => first | (go_simp; done) | (go_simp; rfl)); intro gb132 hg w15 hbox hb; have n0_ := Aside0.mk (below_step bB_ hb); have n1_ := Aside0.mk (hbox); have n2_ := Aside0.mk ((by rw [hg]; exact (below_size bB_) : w.heap.size ≤ gb132)); have n3_ := Aside0.mk ((by rw [hg]; exact (below_size bB_) : w.heap.size ≤ gb132)); clear HB; have HB := n0_; have BK132 := n1_; have GW132 := n2_; have GE132 := n3_; clear n0_ n1_ n2_ n3_; clear hb hbox hg; obtain ⟨hcz16_0, hcz16_1, hcz16_2, hfz16_0, hfz16_1, hfz16_2⟩ := cz3_ BK132.out) | (go_at_call 125; (with_reducible refine (spec_Plain.calls k a0_0 false _ A3.out).mono ?_); rintro e w' ⟨rfl, ⟨nd, rfl⟩⟩))
     go_ret
     exact ⟨rr_, bG_ GE132.out⟩
 · rw [if_neg c2] at H
   have c2b0 : decide ((a0_0.size : Int) ≤ 20) = false := decide_eq_false c2
   have c2b1 : decide (a0_0.size ≤ 20) = false := decide_eq_false (by omega)
   clear c2
   obtain rfl := Option.some.inj H
   go_enter Try.func95, Try.ntmps95
   go_wp2_with (first | ((with_reducible refine gate_dst (N := 1) rfl ?_); (try (refine gate_guard (by rfl) ?_; dsimp only)); refine box_event ?hg (N := 1) ?hd (cs := #[.string a0_0, .string a0_1, .string a0_2]) (t := 72) ?hr ?_; (case hd => rfl); (case hg => rfl); (case hr => first | (go_simp; done) | (go_simp; rfl)); intro gb132 hg w17 hbox hb; have n0_ := Aside0.mk (below_step bB_ hb); have n1_ := Aside0.mk (hbox); have n2_ := Aside0.mk ((by rw [hg]; exact (below_size bB_) : w.heap.size ≤ gb132)); have n3_ := Aside0.mk ((by rw [hg]; exact (below_size bB_) : w.heap.size ≤ gb132)); clear HB; have HB := n0_; have BK132 := n1_; have GW132 := n2_; have GE132 := n3_; clear n0_ n1_ n2_ n3_; clear hb hbox hg; obtain ⟨hcz18_0, hcz18_1, hcz18_2, hfz18_0, hfz18_1, hfz18_2⟩ := cz3_ BK132.out))
   go_ret
   exact ⟨rr_, bG_ GE132.out⟩
def spec_l10LessProp.f (a0_0 : ByteArray) (a0_1 : ByteArray) (a0_2 : ByteArray) (a1_0 : ByteArray) (a1_1 : ByteArray) (a1_2 : ByteArray) : Option (Bool) := if a0_0.toList = a1_0.toList then (some (Op.bytesLess a0_1.toList a1_1.toList)) else (some (Op.bytesLess a0_0.toList a1_0.toList))
set_option maxHeartbeats 8000000 in
set_option maxRecDepth 100000 in
theorem spec_l10LessProp.calls (a0_0 : ByteArray) (a0_1 : ByteArray) (a0_2 : ByteArray) (a1_0 : ByteArray) (a1_1 : ByteArray) (a1_2 : ByteArray) (r : Bool) (w : World) (h : spec_l10LessProp.f a0_0 a0_1 a0_2 a1_0 a1_1 a1_2 = some r) :
 Calls Try.prog 127 #[.agg #[.string a0_0, .string a0_1, .string a0_2], .agg #[.string a1_0, .string a1_1, .string a1_2]] w fun e w' => e = .returned (.bool r) ∧ Below w.heap.size w w' := by
 have hu72 := Try.underlying72
 have HB := Aside0.mk (Below.refl w.heap.size w)
 have H : (if a0_0.toList = a1_0.toList then (some (Op.bytesLess a0_1.toList a1_1.toList)) else (some (Op.bytesLess a0_0.toList a1_0.toList))) = some r := h
 clear h
 by_cases c3 : a0_0.toList = a1_0.toList
 · rw [if_pos c3] at H
   have c3b0 : (a0_0.toList == a1_0.toList) = true := beq_iff_eq.mpr c3
   have c3b1 : (a0_0.toList != a1_0.toList) = false := bne_eq_false_iff_eq.mpr c3
   clear c3
   obtain rfl := Option.some.inj H
   go_enter Try.func127, Try.ntmps127
   go_wp2_with (first | ((with_reducible refine gate_dst (N := 2) rfl ?_); refine box_event ?hg (N := 2) ?hd (cs := #[.string a0_0, .string a0_1, .string a0_2]) (t := 72) ?hr ?_; (case hd => rfl); (case hg => rfl); (case hr => first | (go_simp; done) | (go_simp; rfl)); intro gb136 hg w4 hbox hb; have n0_ := Aside0.mk (below_step bB_ hb); have n1_ := Aside0.mk (hbox); have n2_ := Aside0.mk ((by rw [hg]; exact (below_size bB_) : w.heap.size ≤ gb136)); have n3_ := Aside0.mk ((by rw [hg]; exact (below_size bB_) : w.heap.size ≤ gb136)); clear HB; have HB := n0_; have BK136 := n1_; have GW136 := n2_; have GE136 := n3_; clear n0_ n1_ n2_ n3_; clear hb hbox hg) | ((with_reducible refine gate_dst (N := 3) rfl ?_); refine box_event ?hg (N := 3) ?hd (cs := #[.string a1_0, .string a1_1, .string a1_2]) (t := 72) ?hr ?_; (case hd => rfl); (case hg => rfl); (case hr => first | (go_simp; done) | (go_simp; rfl)); intro gb137 hg w5 hbox hb; have n0_ := Aside0.mk (blk_below (g := gb136) (o := .cells #[.string a0_0, .string a0_1, .string a0_2] 72 (0, 0)) (vb_ BK136.out) hb); have n1_ := Aside0.mk (below_step (bG_ GE136.out) hb); have n2_ := Aside0.mk (hbox); have n3_ := Aside0.mk ((by rw [hg]; exact (below_size (bG_ GE136.out)) : w.heap.size ≤ gb137)); have n4_ := Aside0.mk ((by rw [hg]; exact (below_size (bG_ GE136.out)) : w.heap.size ≤ gb137)); have n5_ := Aside0.mk ((by rw [hg]; exact Nat.ne_of_lt (blk_lt (g := gb136) (o := .cells #[.string a0_0, .string a0_1, .string a0_2] 72 (0, 0)) (vb_ BK136.out)) : gb136 ≠ gb137)); have n6_ := Aside0.mk ((by rw [hg]; exact Nat.ne_of_gt (blk_lt (g := gb136) (o := .cells #[.string a0_0, .string a0_1, .string a0_2] 72 (0, 0)) (vb_ BK136.out)) : gb137 ≠ gb136)); clear BK136; clear HB; have BK136 := n0_; have HB := n1_; have BK137 := n2_; have GW137 := n3_; have GE137 := n4_; have NB136_137 := n5_; have NB137_136 := n6_; clear n0_ n1_ n2_ n3_ n4_ n5_ n6_; clear hb hbox hg; have hnb6 := NB136_137.out; have hnc6 := NB137_136.out; obtain ⟨hcz7_0, hcz7_1, hcz7_2, hfz7_0, hfz7_1, hfz7_2⟩ := cz3_ BK136.out; obtain ⟨hcz8_0, hcz8_1, hcz8_2, hfz8_0, hfz8_1, hfz8_2⟩ := cz3_ BK137.out))
   go_ret
   exact ⟨rr_, by repeat (first | (with_reducible first | exact HB.out | apply below_alloc | apply pw_below_drewN | apply below_drew1 | refine below_set ?_ GE136.out | refine below_set ?_ GE137.out) | exact HB.out)⟩
 · rw [if_neg c3] at H
   have c3b0 : (a0_0.toList == a1_0.toList) = false := beq_eq_false_iff_ne.mpr c3
   have c3b1 : (a0_0.toList != a1_0.toList) = true := bne_iff_ne.mpr c3
   obtain rfl := Option.some.inj H
   go_enter Try.func127, Try.ntmps127
   go_wp2_with (first | ((with_reducible refine gate_dst (N := 2) rfl ?_); refine box_event ?hg (N := 2) ?hd (cs := #[.string a0_0, .string a0_1, .string a0_2]) (t := 72) ?hr ?_; (case hd => rfl); (case hg => rfl); (case hr => first | (go_simp; done) | (go_simp; rfl)); intro gb136 hg w9 hbox hb; have n0_ := Aside0.mk (below_step bB_ hb); have n1_ := Aside0.mk (hbox); have n2_ := Aside0.mk ((by rw [hg]; exact (below_size bB_) : w.heap.size ≤ gb136)); have n3_ := Aside0.mk ((by rw [hg]; exact (below_size bB_) : w.heap.size ≤ gb136)); clear HB; have HB := n0_; have BK136 := n1_; have GW136 := n2_; have GE136 := n3_; clear n0_ n1_ n2_ n3_; clear hb hbox hg) | ((with_reducible refine gate_dst (N := 3) rfl ?_); refine box_event ?hg (N := 3) ?hd (cs := #[.string a1_0, .string a1_1, .string a1_2]) (t := 72) ?hr ?_; (case hd => rfl); (case hg => rfl); (case hr => first | (go_simp; done) | (go_simp; rfl)); intro gb137 hg w10 hbox hb; have n0_ := Aside0.mk (blk_below (g := gb136) (o := .cells #[.string a0_0, .string a0_1, .string a0_2] 72 (0, 0)) (vb_ BK136.out) hb); have n1_ := Aside0.mk (below_step (bG_ GE136.out) hb); have n2_ := Aside0.mk (hbox); have n3_ := Aside0.mk ((by rw [hg]; exact (below_size (bG_ GE136.out)) : w.heap.size ≤ gb137)); have n4_ := Aside0.mk ((by rw [hg]; exact (below_size (bG_ GE136.out)) : w.heap.size ≤ gb137)); have n5_ := Aside0.mk ((by rw [hg]; exact Nat.ne_of_lt (blk_lt (g := gb136) (o := .cells #[.string a0_0, .string a0_1, .string a0_2] 72 (0, 0)) (vb_ BK136.out)) : gb136 ≠ gb137)); have n6_ := Aside0.mk ((by rw [hg]; exact Nat.ne_of_gt (blk_lt (g := gb136) (o := .cells #[.string a0_0, .string a0_1, .string a0_2] 72 (0, 0)) (vb_ BK136.out)) : gb137 ≠ gb136)); clear BK136; clear HB; have BK136 := n0_; have HB := n1_; have BK137 := n2_; have GW137 := n3_; have GE137 := n4_; have NB136_137 := n5_; have NB137_136 := n6_; clear n0_ n1_ n2_ n3_ n4_ n5_ n6_; clear hb hbox hg; have hnb11 := NB136_137.out; have hnc11 := NB137_136.out; obtain ⟨hcz12_0, hcz12_1, hcz12_2, hfz12_0, hfz12_1, hfz12_2⟩ := cz3_ BK136.out; obtain ⟨hcz13_0, hcz13_1, hcz13_2, hfz13_0, hfz13_1, hfz13_2⟩ := cz3_ BK137.out))
   go_ret
   exact ⟨rr_, by repeat (first | (with_reducible first | exact HB.out | apply below_alloc | apply pw_below_drewN | apply below_drew1 | refine below_set ?_ GE136.out | refine below_set ?_ GE137.out) | exact HB.out)⟩
end Go.Proofs.Ytbgggcgjijljkaa.Q

namespace Go.Proofs.Ytbgggcgjijljkaa.Q
open Go.RowKit Go.Proofs.YtbgggcgjijljkaaW.PrintWords Go.Proofs.YtbgggcgjijljkaaW.PrintLast Go.Proofs.YtbgggcgjijljkaaW.PrintMore
attribute [local go_sem] max2_int min2_int max_two min_two max_three min_three max_four min_four   -- for this text's walks alone
set_option linter.unusedVariables false
set_option linter.unusedSimpArgs false
def spec_NameOk.l0 : Nat → ByteArray → Int → Option (Bool)
 | 0, _, _ => none
 | k + 1, x0, x3 => if x3 < (x0.size : Int) then (if 0 ≤ x3 then (if (bt x0 x3) = 47 then (some false) else (spec_NameOk.l0 k x0 (wrap64 (x3 + 1)))) else (none)) else ((spec_l1In.f (x0.size : Int) 1 8).bind fun t143 => (if t143 = true then ((spec_Plain.f k x0).bind fun t144 => (if t144 = true then (if x0.toList = ([46] : List UInt8) then (some false) else (some (x0.toList != ([46, 46] : List UInt8)))) else (some false))) else (some false)))
def spec_NameOk.f (k : Nat) (a0 : ByteArray) : Option (Bool) := spec_NameOk.l0 k a0 0
set_option maxHeartbeats 8000000 in
set_option maxRecDepth 100000 in
theorem spec_NameOk.calls (k : Nat) (a0 : ByteArray) (r : Bool) (w : World) (h : spec_NameOk.f k a0 = some r) :
 Calls Try.prog 129 #[.string a0] w fun e w' => e = .returned (.bool r) ∧ Drawn0 w w' := by
 have H : (spec_NameOk.l0 k a0 0) = some r := h
 clear h
 have H' := Aside0.mk H
 clear H
 go_enter Try.func129, Try.ntmps129
 go_wp2
 go_loopg [3] k (fun kq v3 w' => ∃ (x3_1 : Int), v3 = .int .i64 x3_1 ∧ Aside0 (spec_NameOk.l0 kq a0 x3_1 = some r) ∧ Aside0 (kq ≤ k) ∧ Drawn0 w w')
 case atStart => exact ⟨(0), (by first | rfl | (simp; done) | (simp [*]; done)), H', ⟨Nat.le_refl _⟩, by repeat (first | exact Drawn0.refl _ | apply Drawn0.step)⟩
 case round =>
  clear H'
  try clear c1
  obtain ⟨x3_1, rfl, HA, HK1, ⟨m1, rfl⟩⟩ := hrel
  cases gk with
  | zero => exact absurd HA.out (by simp [spec_NameOk.l0])
  | succ k1 =>
   have H := HA.out
   clear HA
   simp only [spec_NameOk.l0] at H
   by_cases c2 : x3_1 < (a0.size : Int)
   · rw [if_pos c2] at H
     have c2b0 : decide (x3_1 < (a0.size : Int)) = true := decide_eq_true c2
     clear c2
     by_cases c3 : 0 ≤ x3_1
     · rw [if_pos c3] at H
       have c3b0 : decide (0 ≤ x3_1) = true := decide_eq_true c3
       clear c3
       by_cases c5 : (bt a0 x3_1) = 47
       · rw [if_pos c5] at H
         have c5b0 : ((bt a0 x3_1) == 47) = true := beq_iff_eq.mpr c5
         have c5b1 : ((bt a0 x3_1) != 47) = false := bne_eq_false_iff_eq.mpr c5
         clear c5
         obtain rfl := Option.some.inj H
         have p4 : 0 ≤ (x3_1 : Int) := of_decide_eq_true as_
         have q4 : x3_1 < (a0.size : Int) := of_decide_eq_true as_
         have hx4 := bt_at a0 x3_1
         replace p4 := eq_true p4
         replace q4 := eq_true q4
         go_wp2
         go_ret
         exact ⟨by first | rfl | (simp; done) | (simp [*]; done), by repeat (first | exact Drawn0.refl _ | apply Drawn0.step)⟩
       · rw [if_neg c5] at H
         have c5b0 : ((bt a0 x3_1) == 47) = false := beq_eq_false_iff_ne.mpr c5
         have c5b1 : ((bt a0 x3_1) != 47) = true := bne_iff_ne.mpr c5
         have H' := Aside0.mk H
         clear H
         have p4 : 0 ≤ (x3_1 : Int) := of_decide_eq_true as_
         have q4 : x3_1 < (a0.size : Int) := of_decide_eq_true as_
         have hx4 := bt_at a0 x3_1
         replace p4 := eq_true p4
         replace q4 := eq_true q4
         go_wp2
         go_roundg k1
         case measure => have := HK1.out; omega
         case rel => exact ⟨(wrap64 (x3_1 + 1)), (by first | rfl | (simp; done) | (simp [*]; done)), H', ⟨by have := HK1.out; omega⟩, by repeat (first | exact Drawn0.refl _ | apply Drawn0.step)⟩
     · rw [if_neg c3] at H
       exact absurd H (by simp)
   · rw [if_neg c2] at H
     have c2b0 : decide (x3_1 < (a0.size : Int)) = false := decide_eq_false c2
     clear c2
     replace H := Option.bind_eq_some_iff.mp H
     obtain ⟨t143, A60, H⟩ := H
     (try dsimp only at H)
     have A6 := Aside0.mk A60
     clear A60
     by_cases c7 : t143 = true
     · subst c7
       rw [if_pos rfl] at H
       replace H := Option.bind_eq_some_iff.mp H
       obtain ⟨t144, A80, H⟩ := H
       (try dsimp only at H)
       have A8 := Aside0.mk A80
       clear A80
       by_cases c9 : t144 = true
       · subst c9
         rw [if_pos rfl] at H
         by_cases c10 : a0.toList = ([46] : List UInt8)
         · rw [if_pos c10] at H
           have c10b0 : (a0.toList == ([46] : List UInt8)) = true := beq_iff_eq.mpr c10
           have c10b1 : (a0.toList != ([46] : List UInt8)) = false := bne_eq_false_iff_eq.mpr c10
           clear c10
           obtain rfl := Option.some.inj H
           go_wp2_with (first | ((with_reducible refine gate_callee (f := 103) rfl ?_); refine goesL_ (some 16) rfl rfl Try.func103 (by kernel_rfl) rfl #[.int .i64 (a0.size : Int), .int .i64 1, .int .i64 8] rfl ml_ ?_; (with_reducible refine (spec_l1In.calls (a0.size : Int) 1 8 true _ A6.out).mono ?_); rintro e w' ⟨rfl, ⟨nd, rfl⟩⟩; refine ⟨_, rfl, ?_⟩) | (go_at_call 125; (with_reducible refine (spec_Plain.calls k1 a0 true _ A8.out).mono ?_); rintro e w' ⟨rfl, ⟨nd, rfl⟩⟩))
           go_ret
           exact ⟨by first | rfl | (simp; done) | (simp [*]; done), by repeat (first | exact Drawn0.refl _ | apply Drawn0.step)⟩
         · rw [if_neg c10] at H
           have c10b0 : (a0.toList == ([46] : List UInt8)) = false := beq_eq_false_iff_ne.mpr c10
           have c10b1 : (a0.toList != ([46] : List UInt8)) = true := bne_iff_ne.mpr c10
           obtain rfl := Option.some.inj H
           go_wp2_with (first | ((with_reducible refine gate_callee (f := 103) rfl ?_); refine goesL_ (some 16) rfl rfl Try.func103 (by kernel_rfl) rfl #[.int .i64 (a0.size : Int), .int .i64 1, .int .i64 8] rfl ml_ ?_; (with_reducible refine (spec_l1In.calls (a0.size : Int) 1 8 true _ A6.out).mono ?_); rintro e w' ⟨rfl, ⟨nd, rfl⟩⟩; refine ⟨_, rfl, ?_⟩) | (go_at_call 125; (with_reducible refine (spec_Plain.calls k1 a0 true _ A8.out).mono ?_); rintro e w' ⟨rfl, ⟨nd, rfl⟩⟩))
           go_ret
           exact ⟨by first | rfl | (simp; done) | (simp [*]; done), by repeat (first | exact Drawn0.refl _ | apply Drawn0.step)⟩
       · replace c9 := Bool.eq_false_iff.mpr c9
         subst c9
         rw [if_neg (show ¬ (false = true) by decide)] at H
         obtain rfl := Option.some.inj H
         go_wp2_with (first | ((with_reducible refine gate_callee (f := 103) rfl ?_); refine goesL_ (some 16) rfl rfl Try.func103 (by kernel_rfl) rfl #[.int .i64 (a0.size : Int), .int .i64 1, .int .i64 8] rfl ml_ ?_; (with_reducible refine (spec_l1In.calls (a0.size : Int) 1 8 true _ A6.out).mono ?_); rintro e w' ⟨rfl, ⟨nd, rfl⟩⟩; refine ⟨_, rfl, ?_⟩) | (go_at_call 125; (with_reducible refine (spec_Plain.calls k1 a0 false _ A8.out).mono ?_); rintro e w' ⟨rfl, ⟨nd, rfl⟩⟩))
         go_ret
         exact ⟨by first | rfl | (simp; done) | (simp [*]; done), by repeat (first | exact Drawn0.refl _ | apply Drawn0.step)⟩
     · replace c7 := Bool.eq_false_iff.mpr c7
       subst c7
       rw [if_neg (show ¬ (false = true) by decide)] at H
       obtain rfl := Option.some.inj H
       go_wp2_with (first | ((with_reducible refine gate_callee (f := 103) rfl ?_); refine goesL_ (some 16) rfl rfl Try.func103 (by kernel_rfl) rfl #[.int .i64 (a0.size : Int), .int .i64 1, .int .i64 8] rfl ml_ ?_; (with_reducible refine (spec_l1In.calls (a0.size : Int) 1 8 false _ A6.out).mono ?_); rintro e w' ⟨rfl, ⟨nd, rfl⟩⟩; refine ⟨_, rfl, ?_⟩))
       go_ret
       exact ⟨by first | rfl | (simp; done) | (simp [*]; done), by repeat (first | exact Drawn0.refl _ | apply Drawn0.step)⟩
def spec_PathOk.l0 : Nat → List ByteArray → Int → Option (Bool)
 | 0, _, _ => none
 | k + 1, x0, x3 => if x3 < (x0.length : Int) then (if 0 ≤ x3 then ((spec_NameOk.f k (rdOf ByteArray.empty x0 x3)).bind fun t146 => (if t146 = true then (spec_PathOk.l0 k x0 (wrap64 (x3 + 1))) else (some false))) else (none)) else (some (decide ((x0.length : Int) ≤ 4)))
def spec_PathOk.f (k : Nat) (l0 : List ByteArray) : Option (Bool) := spec_PathOk.l0 k l0 0
set_option maxHeartbeats 8000000 in
set_option maxRecDepth 100000 in
theorem spec_PathOk.calls (k : Nat) (A0 : Option Addr) (c0 : Nat) (l0 : List ByteArray) (r : Bool) (w : World) (hr0 : Kd.C Kd.string w A0 l0.length l0) (hc0 : l0.length ≤ c0) (h : spec_PathOk.f k l0 = some r) :
 Calls Try.prog 102 #[.slice A0 l0.length c0] w fun e w' => e = .returned (.bool r) ∧ Drawn0 w w' := by
 have HR0 := Aside0.mk hr0
 have HC0 := Aside0.mk hc0
 clear hr0 hc0
 have H : (spec_PathOk.l0 k l0 0) = some r := h
 clear h
 have H' := Aside0.mk H
 clear H
 go_enter Try.func102, Try.ntmps102
 go_wp2
 go_loopg [3] k (fun kq v3 w' => ∃ (x3_1 : Int), v3 = .int .i64 x3_1 ∧ Aside0 (spec_PathOk.l0 kq l0 x3_1 = some r) ∧ Aside0 (kq ≤ k) ∧ Drawn0 w w')
 case atStart => exact ⟨(0), (by first | rfl | (simp; done) | (simp [*]; done)), H', ⟨Nat.le_refl _⟩, by repeat (first | exact Drawn0.refl _ | apply Drawn0.step)⟩
 case round =>
  clear H'
  try clear c1
  obtain ⟨x3_1, rfl, HA, HK1, ⟨m1, rfl⟩⟩ := hrel
  cases gk with
  | zero => exact absurd HA.out (by simp [spec_PathOk.l0])
  | succ k1 =>
   have H := HA.out
   clear HA
   simp only [spec_PathOk.l0] at H
   by_cases c2 : x3_1 < (l0.length : Int)
   · rw [if_pos c2] at H
     have c2b0 : decide (x3_1 < (l0.length : Int)) = true := decide_eq_true c2
     clear c2
     by_cases c3 : 0 ≤ x3_1
     · rw [if_pos c3] at H
       have c3b0 : decide (0 ≤ x3_1) = true := decide_eq_true c3
       clear c3
       replace H := Option.bind_eq_some_iff.mp H
       obtain ⟨t146, A40, H⟩ := H
       (try dsimp only at H)
       have A4 := Aside0.mk A40
       clear A40
       by_cases c5 : t146 = true
       · subst c5
         rw [if_pos rfl] at H
         have H' := Aside0.mk H
         clear H
         have p145 : 0 ≤ (x3_1 : Int) := of_decide_eq_true as_
         have q145 : x3_1 < (l0.length : Int) := of_decide_eq_true as_
         obtain ⟨ad145, e145, hx145_0⟩ := Kd.at_string HR0.out x3_1 p145 q145
         cases e145
         replace p145 := eq_true p145
         replace q145 := eq_true q145
         go_wp2_with (first | ((with_reducible refine gate_callee (f := 129) rfl ?_); refine goesL_ (some 14) rfl rfl Try.func129 (by kernel_rfl) rfl #[.string (rdOf ByteArray.empty l0 x3_1)] rfl ml_ ?_; (with_reducible refine (spec_NameOk.calls k1 (rdOf ByteArray.empty l0 x3_1) true _ A4.out).mono ?_); rintro e w' ⟨rfl, ⟨nd, rfl⟩⟩; refine ⟨_, rfl, ?_⟩))
         go_roundg k1
         case measure => have := HK1.out; omega
         case rel => exact ⟨(wrap64 (x3_1 + 1)), (by first | rfl | (simp; done) | (simp [*]; done)), H', ⟨by have := HK1.out; omega⟩, by repeat (first | exact Drawn0.refl _ | apply Drawn0.step)⟩
       · replace c5 := Bool.eq_false_iff.mpr c5
         subst c5
         rw [if_neg (show ¬ (false = true) by decide)] at H
         obtain rfl := Option.some.inj H
         have p145 : 0 ≤ (x3_1 : Int) := of_decide_eq_true as_
         have q145 : x3_1 < (l0.length : Int) := of_decide_eq_true as_
         obtain ⟨ad145, e145, hx145_0⟩ := Kd.at_string HR0.out x3_1 p145 q145
         cases e145
         replace p145 := eq_true p145
         replace q145 := eq_true q145
         go_wp2_with (first | ((with_reducible refine gate_callee (f := 129) rfl ?_); refine goesL_ (some 14) rfl rfl Try.func129 (by kernel_rfl) rfl #[.string (rdOf ByteArray.empty l0 x3_1)] rfl ml_ ?_; (with_reducible refine (spec_NameOk.calls k1 (rdOf ByteArray.empty l0 x3_1) false _ A4.out).mono ?_); rintro e w' ⟨rfl, ⟨nd, rfl⟩⟩; refine ⟨_, rfl, ?_⟩))
         go_ret
         exact ⟨by first | rfl | (simp; done) | (simp [*]; done), by repeat (first | exact Drawn0.refl _ | apply Drawn0.step)⟩
     · rw [if_neg c3] at H
       exact absurd H (by simp)
   · rw [if_neg c2] at H
     have c2b0 : decide (x3_1 < (l0.length : Int)) = false := decide_eq_false c2
     clear c2
     obtain rfl := Option.some.inj H
     go_wp2
     go_ret
     exact ⟨by first | rfl | (simp; done) | (simp [*]; done), by repeat (first | exact Drawn0.refl _ | apply Drawn0.step)⟩
mutual
def spec_LessPath.l0 : Nat → List ByteArray → List ByteArray → Int → Option (Bool)
 | 0, _, _, _ => none
 | k + 1, x0, x1, x5 => if x5 < (x0.length : Int) then (spec_LessPath.j1 k x0 x1 x5 (decide (x5 < (x1.length : Int)))) else (spec_LessPath.j1 k x0 x1 x5 false)
def spec_LessPath.j1 : Nat → List ByteArray → List ByteArray → Int → Bool → Option (Bool)
 | 0, _, _, _, _ => none
 | k + 1, x0, x1, x5, x15 => if x15 = true then (if 0 ≤ x5 then (if x5 < (x0.length : Int) then (if x5 < (x1.length : Int) then (if (rdOf ByteArray.empty x0 x5).toList = (rdOf ByteArray.empty x1 x5).toList then (spec_LessPath.l0 k x0 x1 (wrap64 (x5 + 1))) else (some (Op.bytesLess ((rdOf ByteArray.empty x0 x5).toList) ((rdOf ByteArray.empty x1 x5).toList)))) else (none)) else (none)) else (none)) else (some (decide ((x0.length : Int) < (x1.length : Int))))
end
def spec_LessPath.f (k : Nat) (l0 : List ByteArray) (l1 : List ByteArray) : Option (Bool) := spec_LessPath.l0 k l0 l1 0
set_option maxHeartbeats 8000000 in
set_option maxRecDepth 100000 in
theorem spec_LessPath.calls (k : Nat) (A0 : Option Addr) (c0 : Nat) (l0 : List ByteArray) (A1 : Option Addr) (c1 : Nat) (l1 : List ByteArray) (r : Bool) (w : World) (hr0 : Kd.C Kd.string w A0 l0.length l0) (hc0 : l0.length ≤ c0) (hr1 : Kd.C Kd.string w A1 l1.length l1) (hc1 : l1.length ≤ c1) (h : spec_LessPath.f k l0 l1 = some r) :
 Calls Try.prog 111 #[.slice A0 l0.length c0, .slice A1 l1.length c1] w fun e w' => e = .returned (.bool r) ∧ Drawn0 w w' := by
 have HR0 := Aside0.mk hr0
 have HC0 := Aside0.mk hc0
 clear hr0 hc0
 have HR1 := Aside0.mk hr1
 have HC1 := Aside0.mk hc1
 clear hr1 hc1
 have H : (spec_LessPath.l0 k l0 l1 0) = some r := h
 clear h
 have H' := Aside0.mk H
 clear H
 go_enter Try.func111, Try.ntmps111
 go_wp2
 repeat (go_quiet (fail); try go_wp2)
 go_loopg [5] k (fun kq v5 w' => ∃ (x5_1 : Int), v5 = .int .i64 x5_1 ∧ Aside0 (spec_LessPath.l0 kq l0 l1 x5_1 = some r) ∧ Aside0 (kq ≤ k) ∧ Drawn0 w w')
 case atStart => exact ⟨(0), (by first | rfl | (simp; done) | (simp [*]; done)), H', ⟨Nat.le_refl _⟩, by repeat (first | exact Drawn0.refl _ | apply Drawn0.step)⟩
 case round =>
  clear H'
  try clear c1
  try clear p2
  obtain ⟨x5_1, rfl, HA, HK1, ⟨m1, rfl⟩⟩ := hrel
  cases gk with
  | zero => exact absurd HA.out (by simp [spec_LessPath.l0])
  | succ k1 =>
   have H := HA.out
   clear HA
   simp only [spec_LessPath.l0] at H
   have HC3 := Aside0.mk H
   clear H
   go_upto_region 2 with (fail)
   repeat (go_quiet (fail); go_upto_region 2 with (fail))
   go_cut [15] (fun v15 wc => ∃ (kq : Nat) (x15_2 : Bool), v15 = .bool x15_2 ∧ Aside0 (spec_LessPath.j1 kq l0 l1 x5_1 x15_2 = some r) ∧ Aside0 (kq ≤ k1) ∧ Drawn0 w wc)
   case first =>
    have H := HC3.out
    clear HC3
    by_cases c4 : x5_1 < (l0.length : Int)
    · rw [if_pos c4] at H
      have c4b0 : decide (x5_1 < (l0.length : Int)) = true := decide_eq_true c4
      clear c4
      (first | rw [c4b0] | (simp only [i64_w, i32_w]; rw [c4b0]) | skip)
      have H' := Aside0.mk H
      clear H
      go_wp2
      repeat (go_quiet (fail); try go_wp2)
      go_meet
      case rel => exact ⟨_, (decide (x5_1 < (l1.length : Int))), (by first | rfl | (simp; done) | (simp [*]; done)), H', ⟨by have := HK1.out; first | omega | exact Nat.le_refl _⟩, by repeat (first | exact Drawn0.refl _ | apply Drawn0.step)⟩
    · rw [if_neg c4] at H
      have c4b0 : decide (x5_1 < (l0.length : Int)) = false := decide_eq_false c4
      clear c4
      (first | rw [c4b0] | (simp only [i64_w, i32_w]; rw [c4b0]) | skip)
      have H' := Aside0.mk H
      clear H
      go_wp2
      repeat (go_quiet (fail); try go_wp2)
      go_meet
      case rel => exact ⟨_, (false), (by first | rfl | (simp; done) | (simp [*]; done)), H', ⟨by have := HK1.out; first | omega | exact Nat.le_refl _⟩, by repeat (first | exact Drawn0.refl _ | apply Drawn0.step)⟩
   case rest =>
    clear HC3
    try clear c1
    try clear p2
    try clear c4
    try clear c4b0
    try clear p2
    obtain ⟨kq, x15_2, rfl, HA, HJ2, ⟨mc2, rfl⟩⟩ := hcut
    cases kq with
    | zero => exact absurd HA.out (by simp [spec_LessPath.j1])
    | succ kj2 =>
     have H := HA.out
     clear HA
     simp only [spec_LessPath.j1] at H
     by_cases c5 : x15_2 = true
     · subst c5
       rw [if_pos rfl] at H
       by_cases c6 : 0 ≤ x5_1
       · rw [if_pos c6] at H
         have c6b0 : decide (0 ≤ x5_1) = true := decide_eq_true c6
         clear c6
         by_cases c7 : x5_1 < (l0.length : Int)
         · rw [if_pos c7] at H
           have c7b0 : decide (x5_1 < (l0.length : Int)) = true := decide_eq_true c7
           clear c7
           by_cases c8 : x5_1 < (l1.length : Int)
           · rw [if_pos c8] at H
             have c8b0 : decide (x5_1 < (l1.length : Int)) = true := decide_eq_true c8
             clear c8
             by_cases c9 : (rdOf ByteArray.empty l0 x5_1).toList = (rdOf ByteArray.empty l1 x5_1).toList
             · rw [if_pos c9] at H
               have c9b0 : ((rdOf ByteArray.empty l0 x5_1).toList == (rdOf ByteArray.empty l1 x5_1).toList) = true := beq_iff_eq.mpr c9
               have c9b1 : ((rdOf ByteArray.empty l0 x5_1).toList != (rdOf ByteArray.empty l1 x5_1).toList) = false := bne_eq_false_iff_eq.mpr c9
               clear c9
               have H' := Aside0.mk H
               clear H
               have p147 : 0 ≤ (x5_1 : Int) := of_decide_eq_true as_
               have q147 : x5_1 < (l0.length : Int) := of_decide_eq_true as_
               obtain ⟨ad147, e147, hx147_0⟩ := Kd.at_string HR0.out x5_1 p147 q147
               cases e147
               replace p147 := eq_true p147
               replace q147 := eq_true q147
               have p148 : 0 ≤ (x5_1 : Int) := of_decide_eq_true as_
               have q148 : x5_1 < (l1.length : Int) := of_decide_eq_true as_
               obtain ⟨ad148, e148, hx148_0⟩ := Kd.at_string HR1.out x5_1 p148 q148
               cases e148
               replace p148 := eq_true p148
               replace q148 := eq_true q148
               go_wp2
               repeat (go_quiet (fail); try go_wp2)
               go_roundg kj2
               case measure => have := HK1.out; have := HJ2.out; omega
               case rel => exact ⟨(wrap64 (x5_1 + 1)), (by first | rfl | (simp; done) | (simp [*]; done)), H', ⟨by have := HK1.out; have := HJ2.out; omega⟩, by repeat (first | exact Drawn0.refl _ | apply Drawn0.step)⟩
             · rw [if_neg c9] at H
               have c9b0 : ((rdOf ByteArray.empty l0 x5_1).toList == (rdOf ByteArray.empty l1 x5_1).toList) = false := beq_eq_false_iff_ne.mpr c9
               have c9b1 : ((rdOf ByteArray.empty l0 x5_1).toList != (rdOf ByteArray.empty l1 x5_1).toList) = true := bne_iff_ne.mpr c9
               obtain rfl := Option.some.inj H
               have p147 : 0 ≤ (x5_1 : Int) := of_decide_eq_true as_
               have q147 : x5_1 < (l0.length : Int) := of_decide_eq_true as_
               obtain ⟨ad147, e147, hx147_0⟩ := Kd.at_string HR0.out x5_1 p147 q147
               cases e147
               replace p147 := eq_true p147
               replace q147 := eq_true q147
               have p148 : 0 ≤ (x5_1 : Int) := of_decide_eq_true as_
               have q148 : x5_1 < (l1.length : Int) := of_decide_eq_true as_
               obtain ⟨ad148, e148, hx148_0⟩ := Kd.at_string HR1.out x5_1 p148 q148
               cases e148
               replace p148 := eq_true p148
               replace q148 := eq_true q148
               have p149 : 0 ≤ (x5_1 : Int) := of_decide_eq_true as_
               have q149 : x5_1 < (l0.length : Int) := of_decide_eq_true as_
               obtain ⟨ad149, e149, hx149_0⟩ := Kd.at_string HR0.out x5_1 p149 q149
               obtain rfl : ad147 = ad149 := (by injection e149)
               replace p149 := eq_true p149
               replace q149 := eq_true q149
               have p150 : 0 ≤ (x5_1 : Int) := of_decide_eq_true as_
               have q150 : x5_1 < (l1.length : Int) := of_decide_eq_true as_
               obtain ⟨ad150, e150, hx150_0⟩ := Kd.at_string HR1.out x5_1 p150 q150
               obtain rfl : ad148 = ad150 := (by injection e150)
               replace p150 := eq_true p150
               replace q150 := eq_true q150
               go_wp2
               repeat (go_quiet (fail); try go_wp2)
               go_ret
               exact ⟨by first | rfl | (simp; done) | (simp [*]; done), by repeat (first | exact Drawn0.refl _ | apply Drawn0.step)⟩
           · rw [if_neg c8] at H
             exact absurd H (by simp)
         · rw [if_neg c7] at H
           exact absurd H (by simp)
       · rw [if_neg c6] at H
         exact absurd H (by simp)
     · replace c5 := Bool.eq_false_iff.mpr c5
       subst c5
       rw [if_neg (show ¬ (false = true) by decide)] at H
       obtain rfl := Option.some.inj H
       go_wp2
       repeat (go_quiet (fail); try go_wp2)
       go_ret
       exact ⟨by first | rfl | (simp; done) | (simp [*]; done), by repeat (first | exact Drawn0.refl _ | apply Drawn0.step)⟩
end Go.Proofs.Ytbgggcgjijljkaa.Q

namespace Go.Proofs.Ytbgggcgjijljkaa.Q
open Go.RowKit Go.Proofs.YtbgggcgjijljkaaW.PrintWords Go.Proofs.YtbgggcgjijljkaaW.PrintLast Go.Proofs.YtbgggcgjijljkaaW.PrintMore
attribute [local go_sem] max2_int min2_int max_two min_two max_three min_three max_four min_four   -- for this text's walks alone
set_option linter.unusedVariables false
set_option linter.unusedSimpArgs false
def spec_PropsOk.l0 : Nat → List (S72) → Int → Option (Bool)
 | 0, _, _ => none
 | k + 1, x0, x3 => if x3 < (x0.length : Int) then (if 0 ≤ x3 then ((spec_l10Prop.f k ((rd_T72 x0 x3).f0) ((rd_T72 x0 x3).f1) ((rd_T72 x0 x3).f2)).bind fun t139 => (if t139 = true then (if x3 > 0 then (if 0 ≤ (wrap64 (x3 - 1)) then (if (wrap64 (x3 - 1)) < (x0.length : Int) then ((spec_l10LessProp.f ((rd_T72 x0 (wrap64 (x3 - 1))).f0) ((rd_T72 x0 (wrap64 (x3 - 1))).f1) ((rd_T72 x0 (wrap64 (x3 - 1))).f2) ((rd_T72 x0 x3).f0) ((rd_T72 x0 x3).f1) ((rd_T72 x0 x3).f2)).bind fun t142 => (if t142 = true then (spec_PropsOk.l0 k x0 (wrap64 (x3 + 1))) else (some false))) else (none)) else (none)) else (spec_PropsOk.l0 k x0 (wrap64 (x3 + 1)))) else (some false))) else (none)) else (some (decide ((x0.length : Int) ≤ 4)))
def spec_PropsOk.f (k : Nat) (l0 : List (S72)) : Option (Bool) := spec_PropsOk.l0 k l0 0
def spec_PropsOk.T4 : Bool × List (List Nat × List Nat) := (true, [([], []), ([], []), ([0, 1], [0, 1]), ([2], [2]), ([3], [3]), ([4], [4]), ([5, 4], [5]), ([6], [6]), ([7, 6], [6, 7]), ([8, 6, 6], [6, 8]), ([9], [9]), ([9], [9]), ([11, 9], [9, 11]), ([10, 12, 9], [9, 10, 12]), ([13, 9], [9, 13]), ([9], [9]), ([9], [9]), ([15, 16, 9], [9, 15, 16]), ([17, 9], [9, 17]), ([14, 18, 9, 9], [9, 14, 18]), ([19, 9], [9, 19]), ([9, 20, 6], [6, 9, 20]), ([6, 21], [6, 21])])
def spec_PropsOk.B4 : List Nat := [0, 0, 3, 7, 15, 31, 63, 127, 255, 511, 1023, 1023, 3071, 8191, 16383, 1023, 1023, 99327, 230399, 524287, 1048575, 2097151, 4194303]
theorem spec_PropsOk.tab4 : rtab .any (opsOf Try.f97 4) = spec_PropsOk.T4 := by kernel_rfl
theorem spec_PropsOk.bits4 : waitsOk spec_PropsOk.T4.2 spec_PropsOk.B4 = true := by kernel_rfl
set_option maxHeartbeats 8000000 in
set_option maxRecDepth 100000 in
theorem spec_PropsOk.calls (k : Nat) (A0 : Option Addr) (c0 : Nat) (l0 : List (S72)) (r : Bool) (w : World) (hr0 : Kd.C k72 w A0 l0.length l0) (hc0 : l0.length ≤ c0) (h : spec_PropsOk.f k l0 = some r) :
 Calls Try.prog 97 #[.slice A0 l0.length c0] w fun e w' => e = .returned (.bool r) ∧ Below w.heap.size w w' := by
 have hu72 := Try.underlying72
 have HR0 := Aside0.mk hr0
 have HC0 := Aside0.mk hc0
 clear hr0 hc0
 have HB := Aside0.mk (Below.refl w.heap.size w)
 have H : (spec_PropsOk.l0 k l0 0) = some r := h
 clear h
 have H' := Aside0.mk H
 clear H
 go_enter Try.func97, Try.ntmps97
 go_wp2
 go_loopg [3] k (fun kq v3 w' => ∃ (x3_1 : Int), v3 = .int .i64 x3_1 ∧ Aside0 (spec_PropsOk.l0 kq l0 x3_1 = some r) ∧ Aside0 (kq ≤ k) ∧ Aside0 (Below w.heap.size w w'))
 case atStart => exact ⟨(0), (by first | rfl | (simp; done) | (simp [*]; done)), H', ⟨Nat.le_refl _⟩, ⟨bB_⟩⟩
 case round =>
  clear H'
  obtain ⟨x3_1, rfl, HA, HK1, HB⟩ := hrel
  cases gk with
  | zero => exact absurd HA.out (by simp [spec_PropsOk.l0])
  | succ k1 =>
   have H := HA.out
   clear HA
   simp only [spec_PropsOk.l0] at H
   by_cases c2 : x3_1 < (l0.length : Int)
   · rw [if_pos c2] at H
     have c2b0 : decide (x3_1 < (l0.length : Int)) = true := decide_eq_true c2
     clear c2
     by_cases c3 : 0 ≤ x3_1
     · rw [if_pos c3] at H
       have c3b0 : decide (0 ≤ x3_1) = true := decide_eq_true c3
       clear c3
       replace H := Option.bind_eq_some_iff.mp H
       obtain ⟨t139, A40, H⟩ := H
       (try dsimp only at H)
       have A4 := Aside0.mk A40
       clear A40
       by_cases c5 : t139 = true
       · subst c5
         rw [if_pos rfl] at H
         by_cases c6 : x3_1 > 0
         · rw [if_pos c6] at H
           have c6b0 : decide (0 < x3_1) = true := decide_eq_true c6
           clear c6
           obtain ⟨ji7, hji7⟩ : ∃ j_ : Int, (wrap64 (x3_1 - 1)) = j_ := ⟨_, rfl⟩
           replace H : (if 0 ≤ (ji7) then (if (ji7) < (l0.length : Int) then ((spec_l10LessProp.f ((rd_T72 l0 (ji7)).f0) ((rd_T72 l0 (ji7)).f1) ((rd_T72 l0 (ji7)).f2) ((rd_T72 l0 x3_1).f0) ((rd_T72 l0 x3_1).f1) ((rd_T72 l0 x3_1).f2)).bind fun t142 => (if t142 = true then (spec_PropsOk.l0 k1 l0 (wrap64 (x3_1 + 1))) else (some false))) else (none)) else (none)) = some r := by first | (rw [hji7] at H; exact H) | (simp only [hji7] at H ⊢; exact H)
           (try rw [hji7] at A4)
           have hji7w : (IntKind.i64.wrap (x3_1 - 1)) = ji7 := (i64_w _).trans hji7
           by_cases c8 : 0 ≤ (ji7)
           · rw [if_pos c8] at H
             have c8b0 : decide (0 ≤ (ji7)) = true := decide_eq_true c8
             clear c8
             by_cases c9 : (ji7) < (l0.length : Int)
             · rw [if_pos c9] at H
               have c9b0 : decide ((ji7) < (l0.length : Int)) = true := decide_eq_true c9
               clear c9
               replace H := Option.bind_eq_some_iff.mp H
               obtain ⟨t142, A100, H⟩ := H
               (try dsimp only at H)
               have A10 := Aside0.mk A100
               clear A100
               by_cases c11 : t142 = true
               · subst c11
                 rw [if_pos rfl] at H
                 have H' := Aside0.mk H
                 clear H
                 try go_wp2
                 have n0_ := Aside0.mk (below_drew1 HB.out)
                 clear HB
                 have HB := n0_
                 clear n0_
                 have p138 : 0 ≤ (x3_1 : Int) := of_decide_eq_true as_
                 have q138 : x3_1 < (l0.length : Int) := of_decide_eq_true as_
                 obtain ⟨ad138, e138, hx138_0, hx138_1, hx138_2⟩ := at_T72 HR0.out x3_1 p138 q138
                 have hw138_2 := hx138_2
                 have hw138_1 := hx138_1
                 have hw138_0 := hx138_0
                 cases e138
                 replace hx138_0 := bc_ HB.out hx138_0
                 replace hx138_1 := bc_ HB.out hx138_1
                 replace hx138_2 := bc_ HB.out hx138_2
                 replace p138 := eq_true p138
                 replace q138 := eq_true q138
                 have p140 : 0 ≤ ((ji7) : Int) := of_decide_eq_true as_
                 have q140 : (ji7) < (l0.length : Int) := of_decide_eq_true as_
                 obtain ⟨ad140, e140, hx140_0, hx140_1, hx140_2⟩ := at_T72 HR0.out (ji7) p140 q140
                 have hw140_2 := hx140_2
                 have hw140_1 := hx140_1
                 have hw140_0 := hx140_0
                 obtain rfl : ad138 = ad140 := (by injection e140)
                 replace hx140_0 := bc_ HB.out hx140_0
                 replace hx140_1 := bc_ HB.out hx140_1
                 replace hx140_2 := bc_ HB.out hx140_2
                 replace p140 := eq_true p140
                 replace q140 := eq_true q140
                 have p141 : 0 ≤ (x3_1 : Int) := of_decide_eq_true as_
                 have q141 : x3_1 < (l0.length : Int) := of_decide_eq_true as_
                 obtain ⟨ad141, e141, hx141_0, hx141_1, hx141_2⟩ := at_T72 HR0.out x3_1 p141 q141
                 have hw141_2 := hx141_2
                 have hw141_1 := hx141_1
                 have hw141_0 := hx141_0
                 obtain rfl : ad138 = ad141 := (by injection e141)
                 replace hx141_0 := bc_ HB.out hx141_0
                 replace hx141_1 := bc_ HB.out hx141_1
                 replace hx141_2 := bc_ HB.out hx141_2
                 replace p141 := eq_true p141
                 replace q141 := eq_true q141
                 refine start_ (n := 23) (S := fun w' => w'.cell? (ad138.add ((x3_1).toNat * 3)) = some (.string ((rd_T72 l0 x3_1).f0)) ∧ w'.cell? ⟨(ad138.add ((x3_1).toNat * 3)).block, (ad138.add ((x3_1).toNat * 3)).off + 1, none⟩ = some (.string ((rd_T72 l0 x3_1).f1)) ∧ w'.cell? ⟨(ad138.add ((x3_1).toNat * 3)).block, (ad138.add ((x3_1).toNat * 3)).off + 2, none⟩ = some (.string ((rd_T72 l0 x3_1).f2)) ∧ w'.cell? (ad138.add (((ji7)).toNat * 3)) = some (.string ((rd_T72 l0 (ji7)).f0)) ∧ w'.cell? ⟨(ad138.add (((ji7)).toNat * 3)).block, (ad138.add (((ji7)).toNat * 3)).off + 1, none⟩ = some (.string ((rd_T72 l0 (ji7)).f1)) ∧ w'.cell? ⟨(ad138.add (((ji7)).toNat * 3)).block, (ad138.add (((ji7)).toNat * 3)).off + 2, none⟩ = some (.string ((rd_T72 l0 (ji7)).f2)) ∧ w'.cell? (ad138.add ((x3_1).toNat * 3)) = some (.string ((rd_T72 l0 x3_1).f0)) ∧ w'.cell? ⟨(ad138.add ((x3_1).toNat * 3)).block, (ad138.add ((x3_1).toNat * 3)).off + 1, none⟩ = some (.string ((rd_T72 l0 x3_1).f1)) ∧ w'.cell? ⟨(ad138.add ((x3_1).toNat * 3)).block, (ad138.add ((x3_1).toNat * 3)).off + 2, none⟩ = some (.string ((rd_T72 l0 x3_1).f2))) (ds := []) #[false, false, false, false, false, false, false, false, false, false, false, false, false, false, false, false, false, false, false, false, false, false, false] (by kernel_rfl) rfl rfl ⟨((HB.out.cell (World.block_lt_of_cell? w _ hw138_0)).trans hw138_0), ((HB.out.cell (World.block_lt_of_cell? w _ hw138_1)).trans hw138_1), ((HB.out.cell (World.block_lt_of_cell? w _ hw138_2)).trans hw138_2), ((HB.out.cell (World.block_lt_of_cell? w _ hw140_0)).trans hw140_0), ((HB.out.cell (World.block_lt_of_cell? w _ hw140_1)).trans hw140_1), ((HB.out.cell (World.block_lt_of_cell? w _ hw140_2)).trans hw140_2), ((HB.out.cell (World.block_lt_of_cell? w _ hw141_0)).trans hw141_0), ((HB.out.cell (World.block_lt_of_cell? w _ hw141_1)).trans hw141_1), ((HB.out.cell (World.block_lt_of_cell? w _ hw141_2)).trans hw141_2)⟩ (fun hHeld => ?_); refine with_tabW spec_PropsOk.tab4 spec_PropsOk.bits4 (fun HT_ HW_ => ?_)
                 generalize wr.drew = w12 at HB hx138_0 hx138_1 hx138_2 hx140_0 hx140_1 hx140_2 hx141_0 hx141_1 hx141_2 hHeld ⊢
                 refine pu_ (i := 0) (N := some 10) ?_
                 refine pu_ (i := 1) (N := some 11) ?_
                 refine pu_ (i := 2) (N := some 12) ?_
                 refine tk_ (i := 3) (N := some 13) hHeld ?_
                 refine on_ (i := 4) (N := some 14) (fun K hK => ?_)
                 refine goes_ Try.func95 (by kernel_rfl) rfl #[.agg #[.string ((rd_T72 l0 x3_1).f0), .string ((rd_T72 l0 x3_1).f1), .string ((rd_T72 l0 x3_1).f2)]] (by rfl) rfl rfl ml_ ?_
                 with_reducible refine (spec_l10Prop.calls k1 ((rd_T72 l0 x3_1).f0) ((rd_T72 l0 x3_1).f1) ((rd_T72 l0 x3_1).f2) true _ A4.out).mono ?_
                 rintro e w13 ⟨rfl, hb⟩
                 refine ⟨_, rfl, ?_⟩
                 have n0_ := Aside0.mk (below_step bB_ hb)
                 clear HB
                 have HB := n0_
                 clear n0_
                 (try clear hb)
                 (try clear hb2)
                 (try clear hk)
                 (try clear hi)
                 refine hK.out _ _ ⟨((HB.out.cell (World.block_lt_of_cell? w _ hw138_0)).trans hw138_0), ((HB.out.cell (World.block_lt_of_cell? w _ hw138_1)).trans hw138_1), ((HB.out.cell (World.block_lt_of_cell? w _ hw138_2)).trans hw138_2), ((HB.out.cell (World.block_lt_of_cell? w _ hw140_0)).trans hw140_0), ((HB.out.cell (World.block_lt_of_cell? w _ hw140_1)).trans hw140_1), ((HB.out.cell (World.block_lt_of_cell? w _ hw140_2)).trans hw140_2), ((HB.out.cell (World.block_lt_of_cell? w _ hw141_0)).trans hw141_0), ((HB.out.cell (World.block_lt_of_cell? w _ hw141_1)).trans hw141_1), ((HB.out.cell (World.block_lt_of_cell? w _ hw141_2)).trans hw141_2)⟩ (fun hHeld => ?_)
                 clear hK K
                 refine no_ ?_
                 refine pu_ (i := 5) (N := some 15) ?_
                 refine pu_ (i := 6) (N := some 16) ?_
                 refine pu_ (i := 7) (N := some 17) ?_
                 refine pu_ (i := 8) (N := some 18) ?_
                 refine pu_ (i := 9) (N := some 19) ?_
                 refine pu_ (i := 10) (N := some 20) ?_
                 refine pu_ (i := 11) (N := some 21) ?_
                 refine pu_ (i := 12) (N := some 22) ?_
                 refine pu_ (i := 13) (N := some 23) ?_
                 refine pu_ (i := 15) (N := some 25) ?_
                 refine pu_ (i := 16) (N := some 26) ?_
                 refine pu_ (i := 17) (N := some 27) ?_
                 refine tk_ (i := 14) (N := some 24) hHeld ?_
                 refine tk_ (i := 18) (N := some 28) hHeld ?_
                 refine on_ (i := 19) (N := some 29) (fun K hK => ?_)
                 refine goes_ Try.func127 (by kernel_rfl) rfl #[.agg #[.string ((rd_T72 l0 (ji7)).f0), .string ((rd_T72 l0 (ji7)).f1), .string ((rd_T72 l0 (ji7)).f2)], .agg #[.string ((rd_T72 l0 x3_1).f0), .string ((rd_T72 l0 x3_1).f1), .string ((rd_T72 l0 x3_1).f2)]] (by rfl) rfl rfl (by (try simp only [List.map_toArray, List.map_cons, List.map_nil]); first | done | (simp only [hji7]; rfl) | rfl | (simp only [List.length_drop, List.length_take]; rfl)) ?_
                 with_reducible refine (spec_l10LessProp.calls ((rd_T72 l0 (ji7)).f0) ((rd_T72 l0 (ji7)).f1) ((rd_T72 l0 (ji7)).f2) ((rd_T72 l0 x3_1).f0) ((rd_T72 l0 x3_1).f1) ((rd_T72 l0 x3_1).f2) true _ A10.out).mono ?_
                 rintro e w14 ⟨rfl, hb⟩
                 refine ⟨_, rfl, ?_⟩
                 have n0_ := Aside0.mk (below_step bB_ hb)
                 clear HB
                 have HB := n0_
                 clear n0_
                 (try clear hb)
                 (try clear hb2)
                 (try clear hk)
                 (try clear hi)
                 refine hK.out _ _ ⟨((HB.out.cell (World.block_lt_of_cell? w _ hw138_0)).trans hw138_0), ((HB.out.cell (World.block_lt_of_cell? w _ hw138_1)).trans hw138_1), ((HB.out.cell (World.block_lt_of_cell? w _ hw138_2)).trans hw138_2), ((HB.out.cell (World.block_lt_of_cell? w _ hw140_0)).trans hw140_0), ((HB.out.cell (World.block_lt_of_cell? w _ hw140_1)).trans hw140_1), ((HB.out.cell (World.block_lt_of_cell? w _ hw140_2)).trans hw140_2), ((HB.out.cell (World.block_lt_of_cell? w _ hw141_0)).trans hw141_0), ((HB.out.cell (World.block_lt_of_cell? w _ hw141_1)).trans hw141_1), ((HB.out.cell (World.block_lt_of_cell? w _ hw141_2)).trans hw141_2)⟩ (fun hHeld => ?_)
                 clear hK K
                 refine no_ ?_
                 refine pu_ (i := 20) (N := some 30) ?_
                 refine pu_ (i := 21) (N := some 31) ?_
                 refine pu_ (i := 22) (N := some 32) ?_
                 refine done_ (done_of HT_.out (by kernel_rfl)) ?_
                 (try clear hHeld)
                 try go_wp2
                 go_roundg k1
                 case measure => have := HK1.out; omega
                 case rel => exact ⟨(wrap64 (x3_1 + 1)), (by first | rfl | (simp; done) | (simp [*]; done)), H', ⟨by have := HK1.out; omega⟩, ⟨bB_⟩⟩
               · replace c11 := Bool.eq_false_iff.mpr c11
                 subst c11
                 rw [if_neg (show ¬ (false = true) by decide)] at H
                 obtain rfl := Option.some.inj H
                 try go_wp2
                 have n0_ := Aside0.mk (below_drew1 HB.out)
                 clear HB
                 have HB := n0_
                 clear n0_
                 have p138 : 0 ≤ (x3_1 : Int) := of_decide_eq_true as_
                 have q138 : x3_1 < (l0.length : Int) := of_decide_eq_true as_
                 obtain ⟨ad138, e138, hx138_0, hx138_1, hx138_2⟩ := at_T72 HR0.out x3_1 p138 q138
                 have hw138_2 := hx138_2
                 have hw138_1 := hx138_1
                 have hw138_0 := hx138_0
                 cases e138
                 replace hx138_0 := bc_ HB.out hx138_0
                 replace hx138_1 := bc_ HB.out hx138_1
                 replace hx138_2 := bc_ HB.out hx138_2
                 replace p138 := eq_true p138
                 replace q138 := eq_true q138
                 have p140 : 0 ≤ ((ji7) : Int) := of_decide_eq_true as_
                 have q140 : (ji7) < (l0.length : Int) := of_decide_eq_true as_
                 obtain ⟨ad140, e140, hx140_0, hx140_1, hx140_2⟩ := at_T72 HR0.out (ji7) p140 q140
                 have hw140_2 := hx140_2
                 have hw140_1 := hx140_1
                 have hw140_0 := hx140_0
                 obtain rfl : ad138 = ad140 := (by injection e140)
                 replace hx140_0 := bc_ HB.out hx140_0
                 replace hx140_1 := bc_ HB.out hx140_1
                 replace hx140_2 := bc_ HB.out hx140_2
                 replace p140 := eq_true p140
                 replace q140 := eq_true q140
                 have p141 : 0 ≤ (x3_1 : Int) := of_decide_eq_true as_
                 have q141 : x3_1 < (l0.length : Int) := of_decide_eq_true as_
                 obtain ⟨ad141, e141, hx141_0, hx141_1, hx141_2⟩ := at_T72 HR0.out x3_1 p141 q141
                 have hw141_2 := hx141_2
                 have hw141_1 := hx141_1
                 have hw141_0 := hx141_0
                 obtain rfl : ad138 = ad141 := (by injection e141)
                 replace hx141_0 := bc_ HB.out hx141_0
                 replace hx141_1 := bc_ HB.out hx141_1
                 replace hx141_2 := bc_ HB.out hx141_2
                 replace p141 := eq_true p141
                 replace q141 := eq_true q141
                 refine start_ (n := 23) (S := fun w' => w'.cell? (ad138.add ((x3_1).toNat * 3)) = some (.string ((rd_T72 l0 x3_1).f0)) ∧ w'.cell? ⟨(ad138.add ((x3_1).toNat * 3)).block, (ad138.add ((x3_1).toNat * 3)).off + 1, none⟩ = some (.string ((rd_T72 l0 x3_1).f1)) ∧ w'.cell? ⟨(ad138.add ((x3_1).toNat * 3)).block, (ad138.add ((x3_1).toNat * 3)).off + 2, none⟩ = some (.string ((rd_T72 l0 x3_1).f2)) ∧ w'.cell? (ad138.add (((ji7)).toNat * 3)) = some (.string ((rd_T72 l0 (ji7)).f0)) ∧ w'.cell? ⟨(ad138.add (((ji7)).toNat * 3)).block, (ad138.add (((ji7)).toNat * 3)).off + 1, none⟩ = some (.string ((rd_T72 l0 (ji7)).f1)) ∧ w'.cell? ⟨(ad138.add (((ji7)).toNat * 3)).block, (ad138.add (((ji7)).toNat * 3)).off + 2, none⟩ = some (.string ((rd_T72 l0 (ji7)).f2)) ∧ w'.cell? (ad138.add ((x3_1).toNat * 3)) = some (.string ((rd_T72 l0 x3_1).f0)) ∧ w'.cell? ⟨(ad138.add ((x3_1).toNat * 3)).block, (ad138.add ((x3_1).toNat * 3)).off + 1, none⟩ = some (.string ((rd_T72 l0 x3_1).f1)) ∧ w'.cell? ⟨(ad138.add ((x3_1).toNat * 3)).block, (ad138.add ((x3_1).toNat * 3)).off + 2, none⟩ = some (.string ((rd_T72 l0 x3_1).f2))) (ds := []) #[false, false, false, false, false, false, false, false, false, false, false, false, false, false, false, false, false, false, false, false, false, false, false] (by kernel_rfl) rfl rfl ⟨((HB.out.cell (World.block_lt_of_cell? w _ hw138_0)).trans hw138_0), ((HB.out.cell (World.block_lt_of_cell? w _ hw138_1)).trans hw138_1), ((HB.out.cell (World.block_lt_of_cell? w _ hw138_2)).trans hw138_2), ((HB.out.cell (World.block_lt_of_cell? w _ hw140_0)).trans hw140_0), ((HB.out.cell (World.block_lt_of_cell? w _ hw140_1)).trans hw140_1), ((HB.out.cell (World.block_lt_of_cell? w _ hw140_2)).trans hw140_2), ((HB.out.cell (World.block_lt_of_cell? w _ hw141_0)).trans hw141_0), ((HB.out.cell (World.block_lt_of_cell? w _ hw141_1)).trans hw141_1), ((HB.out.cell (World.block_lt_of_cell? w _ hw141_2)).trans hw141_2)⟩ (fun hHeld => ?_); refine with_tabW spec_PropsOk.tab4 spec_PropsOk.bits4 (fun HT_ HW_ => ?_)
                 generalize wr.drew = w15 at HB hx138_0 hx138_1 hx138_2 hx140_0 hx140_1 hx140_2 hx141_0 hx141_1 hx141_2 hHeld ⊢
                 refine pu_ (i := 0) (N := some 10) ?_
                 refine pu_ (i := 1) (N := some 11) ?_
                 refine pu_ (i := 2) (N := some 12) ?_
                 refine tk_ (i := 3) (N := some 13) hHeld ?_
                 refine on_ (i := 4) (N := some 14) (fun K hK => ?_)
                 refine goes_ Try.func95 (by kernel_rfl) rfl #[.agg #[.string ((rd_T72 l0 x3_1).f0), .string ((rd_T72 l0 x3_1).f1), .string ((rd_T72 l0 x3_1).f2)]] (by rfl) rfl rfl ml_ ?_
                 with_reducible refine (spec_l10Prop.calls k1 ((rd_T72 l0 x3_1).f0) ((rd_T72 l0 x3_1).f1) ((rd_T72 l0 x3_1).f2) true _ A4.out).mono ?_
                 rintro e w16 ⟨rfl, hb⟩
                 refine ⟨_, rfl, ?_⟩
                 have n0_ := Aside0.mk (below_step bB_ hb)
                 clear HB
                 have HB := n0_
                 clear n0_
                 (try clear hb)
                 (try clear hb2)
                 (try clear hk)
                 (try clear hi)
                 refine hK.out _ _ ⟨((HB.out.cell (World.block_lt_of_cell? w _ hw138_0)).trans hw138_0), ((HB.out.cell (World.block_lt_of_cell? w _ hw138_1)).trans hw138_1), ((HB.out.cell (World.block_lt_of_cell? w _ hw138_2)).trans hw138_2), ((HB.out.cell (World.block_lt_of_cell? w _ hw140_0)).trans hw140_0), ((HB.out.cell (World.block_lt_of_cell? w _ hw140_1)).trans hw140_1), ((HB.out.cell (World.block_lt_of_cell? w _ hw140_2)).trans hw140_2), ((HB.out.cell (World.block_lt_of_cell? w _ hw141_0)).trans hw141_0), ((HB.out.cell (World.block_lt_of_cell? w _ hw141_1)).trans hw141_1), ((HB.out.cell (World.block_lt_of_cell? w _ hw141_2)).trans hw141_2)⟩ (fun hHeld => ?_)
                 clear hK K
                 refine no_ ?_
                 refine pu_ (i := 5) (N := some 15) ?_
                 refine pu_ (i := 6) (N := some 16) ?_
                 refine pu_ (i := 7) (N := some 17) ?_
                 refine pu_ (i := 8) (N := some 18) ?_
                 refine pu_ (i := 9) (N := some 19) ?_
                 refine pu_ (i := 10) (N := some 20) ?_
                 refine pu_ (i := 11) (N := some 21) ?_
                 refine pu_ (i := 12) (N := some 22) ?_
                 refine pu_ (i := 13) (N := some 23) ?_
                 refine pu_ (i := 15) (N := some 25) ?_
                 refine pu_ (i := 16) (N := some 26) ?_
                 refine pu_ (i := 17) (N := some 27) ?_
                 refine tk_ (i := 14) (N := some 24) hHeld ?_
                 refine tk_ (i := 18) (N := some 28) hHeld ?_
                 refine on_ (i := 19) (N := some 29) (fun K hK => ?_)
                 refine goes_ Try.func127 (by kernel_rfl) rfl #[.agg #[.string ((rd_T72 l0 (ji7)).f0), .string ((rd_T72 l0 (ji7)).f1), .string ((rd_T72 l0 (ji7)).f2)], .agg #[.string ((rd_T72 l0 x3_1).f0), .string ((rd_T72 l0 x3_1).f1), .string ((rd_T72 l0 x3_1).f2)]] (by rfl) rfl rfl (by (try simp only [List.map_toArray, List.map_cons, List.map_nil]); first | done | (simp only [hji7]; rfl) | rfl | (simp only [List.length_drop, List.length_take]; rfl)) ?_
                 with_reducible refine (spec_l10LessProp.calls ((rd_T72 l0 (ji7)).f0) ((rd_T72 l0 (ji7)).f1) ((rd_T72 l0 (ji7)).f2) ((rd_T72 l0 x3_1).f0) ((rd_T72 l0 x3_1).f1) ((rd_T72 l0 x3_1).f2) false _ A10.out).mono ?_
                 rintro e w17 ⟨rfl, hb⟩
                 refine ⟨_, rfl, ?_⟩
                 have n0_ := Aside0.mk (below_step bB_ hb)
                 clear HB
                 have HB := n0_
                 clear n0_
                 (try clear hb)
                 (try clear hb2)
                 (try clear hk)
                 (try clear hi)
                 refine hK.out _ _ ⟨((HB.out.cell (World.block_lt_of_cell? w _ hw138_0)).trans hw138_0), ((HB.out.cell (World.block_lt_of_cell? w _ hw138_1)).trans hw138_1), ((HB.out.cell (World.block_lt_of_cell? w _ hw138_2)).trans hw138_2), ((HB.out.cell (World.block_lt_of_cell? w _ hw140_0)).trans hw140_0), ((HB.out.cell (World.block_lt_of_cell? w _ hw140_1)).trans hw140_1), ((HB.out.cell (World.block_lt_of_cell? w _ hw140_2)).trans hw140_2), ((HB.out.cell (World.block_lt_of_cell? w _ hw141_0)).trans hw141_0), ((HB.out.cell (World.block_lt_of_cell? w _ hw141_1)).trans hw141_1), ((HB.out.cell (World.block_lt_of_cell? w _ hw141_2)).trans hw141_2)⟩ (fun hHeld => ?_)
                 clear hK K
                 refine no_ ?_
                 refine pu_ (i := 20) (N := some 30) ?_
                 refine pu_ (i := 21) (N := some 31) ?_
                 refine pu_ (i := 22) (N := some 32) ?_
                 refine done_ (done_of HT_.out (by kernel_rfl)) ?_
                 (try clear hHeld)
                 try go_wp2
                 go_ret
                 exact ⟨by first | rfl | (simp [errW_none, errW_some] <;> rfl) | (simp only [← hji7]; first | rfl | (simp [errW_none, errW_some] <;> rfl)) | (simp [*, errW_none, errW_some] <;> rfl), bB_⟩
             · rw [if_neg c9] at H
               exact absurd H (by simp)
           · rw [if_neg c8] at H
             exact absurd H (by simp)
         · rw [if_neg c6] at H
           have c6b0 : decide (0 < x3_1) = false := decide_eq_false c6
           clear c6
           have H' := Aside0.mk H
           clear H
           try go_wp2
           have n0_ := Aside0.mk (below_drew1 HB.out)
           clear HB
           have HB := n0_
           clear n0_
           have p138 : 0 ≤ (x3_1 : Int) := of_decide_eq_true as_
           have q138 : x3_1 < (l0.length : Int) := of_decide_eq_true as_
           obtain ⟨ad138, e138, hx138_0, hx138_1, hx138_2⟩ := at_T72 HR0.out x3_1 p138 q138
           have hw138_2 := hx138_2
           have hw138_1 := hx138_1
           have hw138_0 := hx138_0
           cases e138
           replace hx138_0 := bc_ HB.out hx138_0
           replace hx138_1 := bc_ HB.out hx138_1
           replace hx138_2 := bc_ HB.out hx138_2
           replace p138 := eq_true p138
           replace q138 := eq_true q138
           refine start_ (n := 23) (S := fun w' => w'.cell? (ad138.add ((x3_1).toNat * 3)) = some (.string ((rd_T72 l0 x3_1).f0)) ∧ w'.cell? ⟨(ad138.add ((x3_1).toNat * 3)).block, (ad138.add ((x3_1).toNat * 3)).off + 1, none⟩ = some (.string ((rd_T72 l0 x3_1).f1)) ∧ w'.cell? ⟨(ad138.add ((x3_1).toNat * 3)).block, (ad138.add ((x3_1).toNat * 3)).off + 2, none⟩ = some (.string ((rd_T72 l0 x3_1).f2))) (ds := []) #[false, false, false, false, false, false, false, false, false, false, false, false, false, false, false, false, false, false, false, false, false, false, false] (by kernel_rfl) rfl rfl ⟨((HB.out.cell (World.block_lt_of_cell? w _ hw138_0)).trans hw138_0), ((HB.out.cell (World.block_lt_of_cell? w _ hw138_1)).trans hw138_1), ((HB.out.cell (World.block_lt_of_cell? w _ hw138_2)).trans hw138_2)⟩ (fun hHeld => ?_); refine with_tabW spec_PropsOk.tab4 spec_PropsOk.bits4 (fun HT_ HW_ => ?_)
           generalize wr.drew = w18 at HB hx138_0 hx138_1 hx138_2 hHeld ⊢
           refine pu_ (i := 0) (N := some 10) ?_
           refine pu_ (i := 1) (N := some 11) ?_
           refine pu_ (i := 2) (N := some 12) ?_
           refine tk_ (i := 3) (N := some 13) hHeld ?_
           refine on_ (i := 4) (N := some 14) (fun K hK => ?_)
           refine goes_ Try.func95 (by kernel_rfl) rfl #[.agg #[.string ((rd_T72 l0 x3_1).f0), .string ((rd_T72 l0 x3_1).f1), .string ((rd_T72 l0 x3_1).f2)]] (by rfl) rfl rfl ml_ ?_
           with_reducible refine (spec_l10Prop.calls k1 ((rd_T72 l0 x3_1).f0) ((rd_T72 l0 x3_1).f1) ((rd_T72 l0 x3_1).f2) true _ A4.out).mono ?_
           rintro e w19 ⟨rfl, hb⟩
           refine ⟨_, rfl, ?_⟩
           have n0_ := Aside0.mk (below_step bB_ hb)
           clear HB
           have HB := n0_
           clear n0_
           (try clear hb)
           (try clear hb2)
           (try clear hk)
           (try clear hi)
           refine hK.out _ _ ⟨((HB.out.cell (World.block_lt_of_cell? w _ hw138_0)).trans hw138_0), ((HB.out.cell (World.block_lt_of_cell? w _ hw138_1)).trans hw138_1), ((HB.out.cell (World.block_lt_of_cell? w _ hw138_2)).trans hw138_2)⟩ (fun hHeld => ?_)
           clear hK K
           refine no_ ?_
           refine pu_ (i := 5) (N := some 15) ?_
           refine pu_ (i := 6) (N := some 16) ?_
           refine pu_ (i := 7) (N := some 17) ?_
           refine pu_ (i := 8) (N := some 18) ?_
           refine pu_ (i := 9) (N := some 19) ?_
           refine pn_ (i := 10) (N := some 20) ?_
           refine pn_ (i := 11) (N := some 21) ?_
           refine pn_ (i := 12) (N := some 22) ?_
           refine pn_ (i := 13) (N := some 23) ?_
           refine pn_ (i := 14) (N := some 24) ?_
           refine pn_ (i := 15) (N := some 25) ?_
           refine pn_ (i := 16) (N := some 26) ?_
           refine pn_ (i := 17) (N := some 27) ?_
           refine pn_ (i := 18) (N := some 28) ?_
           refine pn_ (i := 19) (N := some 29) ?_
           refine pn_ (i := 20) (N := some 30) ?_
           refine pu_ (i := 21) (N := some 31) ?_
           refine pu_ (i := 22) (N := some 32) ?_
           refine done_ (done_of HT_.out (by kernel_rfl)) ?_
           (try clear hHeld)
           try go_wp2
           go_roundg k1
           case measure => have := HK1.out; omega
           case rel => exact ⟨(wrap64 (x3_1 + 1)), (by first | rfl | (simp; done) | (simp [*]; done)), H', ⟨by have := HK1.out; omega⟩, ⟨bB_⟩⟩
       · replace c5 := Bool.eq_false_iff.mpr c5
         subst c5
         rw [if_neg (show ¬ (false = true) by decide)] at H
         obtain rfl := Option.some.inj H
         try go_wp2
         have n0_ := Aside0.mk (below_drew1 HB.out)
         clear HB
         have HB := n0_
         clear n0_
         have p138 : 0 ≤ (x3_1 : Int) := of_decide_eq_true as_
         have q138 : x3_1 < (l0.length : Int) := of_decide_eq_true as_
         obtain ⟨ad138, e138, hx138_0, hx138_1, hx138_2⟩ := at_T72 HR0.out x3_1 p138 q138
         have hw138_2 := hx138_2
         have hw138_1 := hx138_1
         have hw138_0 := hx138_0
         cases e138
         replace hx138_0 := bc_ HB.out hx138_0
         replace hx138_1 := bc_ HB.out hx138_1
         replace hx138_2 := bc_ HB.out hx138_2
         replace p138 := eq_true p138
         replace q138 := eq_true q138
         refine start_ (n := 23) (S := fun w' => w'.cell? (ad138.add ((x3_1).toNat * 3)) = some (.string ((rd_T72 l0 x3_1).f0)) ∧ w'.cell? ⟨(ad138.add ((x3_1).toNat * 3)).block, (ad138.add ((x3_1).toNat * 3)).off + 1, none⟩ = some (.string ((rd_T72 l0 x3_1).f1)) ∧ w'.cell? ⟨(ad138.add ((x3_1).toNat * 3)).block, (ad138.add ((x3_1).toNat * 3)).off + 2, none⟩ = some (.string ((rd_T72 l0 x3_1).f2))) (ds := []) #[false, false, false, false, false, false, false, false, false, false, false, false, false, false, false, false, false, false, false, false, false, false, false] (by kernel_rfl) rfl rfl ⟨((HB.out.cell (World.block_lt_of_cell? w _ hw138_0)).trans hw138_0), ((HB.out.cell (World.block_lt_of_cell? w _ hw138_1)).trans hw138_1), ((HB.out.cell (World.block_lt_of_cell? w _ hw138_2)).trans hw138_2)⟩ (fun hHeld => ?_); refine with_tabW spec_PropsOk.tab4 spec_PropsOk.bits4 (fun HT_ HW_ => ?_)
         generalize wr.drew = w20 at HB hx138_0 hx138_1 hx138_2 hHeld ⊢
         refine pu_ (i := 0) (N := some 10) ?_
         refine pu_ (i := 1) (N := some 11) ?_
         refine pu_ (i := 2) (N := some 12) ?_
         refine tk_ (i := 3) (N := some 13) hHeld ?_
         refine on_ (i := 4) (N := some 14) (fun K hK => ?_)
         refine goes_ Try.func95 (by kernel_rfl) rfl #[.agg #[.string ((rd_T72 l0 x3_1).f0), .string ((rd_T72 l0 x3_1).f1), .string ((rd_T72 l0 x3_1).f2)]] (by rfl) rfl rfl ml_ ?_
         with_reducible refine (spec_l10Prop.calls k1 ((rd_T72 l0 x3_1).f0) ((rd_T72 l0 x3_1).f1) ((rd_T72 l0 x3_1).f2) false _ A4.out).mono ?_
         rintro e w21 ⟨rfl, hb⟩
         refine ⟨_, rfl, ?_⟩
         have n0_ := Aside0.mk (below_step bB_ hb)
         clear HB
         have HB := n0_
         clear n0_
         (try clear hb)
         (try clear hb2)
         (try clear hk)
         (try clear hi)
         refine hK.out _ _ ⟨((HB.out.cell (World.block_lt_of_cell? w _ hw138_0)).trans hw138_0), ((HB.out.cell (World.block_lt_of_cell? w _ hw138_1)).trans hw138_1), ((HB.out.cell (World.block_lt_of_cell? w _ hw138_2)).trans hw138_2)⟩ (fun hHeld => ?_)
         clear hK K
         refine no_ ?_
         refine pu_ (i := 5) (N := some 15) ?_
         refine pu_ (i := 6) (N := some 16) ?_
         refine pn_ (i := 7) (N := some 17) ?_
         refine pn_ (i := 8) (N := some 18) ?_
         refine pn_ (i := 9) (N := some 19) ?_
         refine pn_ (i := 10) (N := some 20) ?_
         refine pn_ (i := 11) (N := some 21) ?_
         refine pn_ (i := 12) (N := some 22) ?_
         refine pn_ (i := 13) (N := some 23) ?_
         refine pn_ (i := 14) (N := some 24) ?_
         refine pn_ (i := 15) (N := some 25) ?_
         refine pn_ (i := 16) (N := some 26) ?_
         refine pn_ (i := 17) (N := some 27) ?_
         refine pn_ (i := 18) (N := some 28) ?_
         refine pn_ (i := 19) (N := some 29) ?_
         refine pn_ (i := 20) (N := some 30) ?_
         refine pn_ (i := 21) (N := some 31) ?_
         refine pu_ (i := 22) (N := some 32) ?_
         refine done_ (done_of HT_.out (by kernel_rfl)) ?_
         (try clear hHeld)
         try go_wp2
         go_ret
         exact ⟨rr_, bB_⟩
     · rw [if_neg c3] at H
       exact absurd H (by simp)
   · rw [if_neg c2] at H
     have c2b0 : decide (x3_1 < (l0.length : Int)) = false := decide_eq_false c2
     clear c2
     obtain rfl := Option.some.inj H
     go_wp2
     go_ret
     exact ⟨rr_, bB_⟩
end Go.Proofs.Ytbgggcgjijljkaa.Q
