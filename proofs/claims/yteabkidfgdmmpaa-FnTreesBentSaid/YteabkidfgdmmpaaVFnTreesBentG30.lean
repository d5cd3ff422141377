-- PRINTED by print.py (a twelfth state) out of the translation. Not trusted: Lean checks it.
import Derived.Test.YteabkidfgdmmpaaVFnTreesBentG29
set_option maxHeartbeats 8000000
set_option maxRecDepth 100000
namespace Go.Proofs.Yteabkidfgdmmpaa.Q
open Go.RowKit Go.Proofs.YteabkidfgdmmpaaW.PrintWords Go.Proofs.YteabkidfgdmmpaaW.PrintLast Go.Proofs.YteabkidfgdmmpaaW.PrintMore
attribute [local go_sem] max2_int min2_int max_two min_two max_three min_three max_four min_four   -- for this text's walks alone
set_option linter.unusedVariables false
set_option linter.unusedSimpArgs false
mutual
def spec_l11Put.l0 : Nat → List (S59) → List (S59) → Bool → Int → List ByteArray → Bool → ByteArray → Int → List (S71) → Option ((List (S59)))
 | 0, _, _, _, _, _, _, _, _, _ => none
 | k + 1, x0, x5, x6, x7, x820000, x820001, x820002, x820003, x820004 => if x7 < (x0.length : Int) then (if x6 = true then (spec_l11Put.j1 k x0 x5 x6 x7 false x820000 x820001 x820002 x820003 x820004) else (if 0 ≤ x7 then ((spec_LessPath.f k ((rd_T59 x0 x7).f0) x820000).bind fun t836 => (spec_l11Put.j1 k x0 x5 x6 x7 (!t836) x820000 x820001 x820002 x820003 x820004)) else (none))) else (if x6 = true then (some x5) else ((spec_l10Copy.f x820000 x820001 x820002 x820003 x820004).bind fun bt823 => (if x5.length < 1759218604441 then (some (x5 ++ [(⟨bt823.1, bt823.2.1, bt823.2.2.1, bt823.2.2.2.1, bt823.2.2.2.2⟩ : S59)])) else (none))))
def spec_l11Put.j1 : Nat → List (S59) → List (S59) → Bool → Int → Bool → List ByteArray → Bool → ByteArray → Int → List (S71) → Option ((List (S59)))
 | 0, _, _, _, _, _, _, _, _, _, _ => none
 | k + 1, x0, x5, x6, x7, x27, x820000, x820001, x820002, x820003, x820004 => if x27 = true then ((spec_l10Copy.f x820000 x820001 x820002 x820003 x820004).bind fun bt837 => (if x5.length < 1759218604441 then (spec_l11Put.j2 k x0 (x5 ++ [(⟨bt837.1, bt837.2.1, bt837.2.2.1, bt837.2.2.2.1, bt837.2.2.2.2⟩ : S59)]) true x7 x820000 x820001 x820002 x820003 x820004) else (none))) else (spec_l11Put.j2 k x0 x5 x6 x7 x820000 x820001 x820002 x820003 x820004)
def spec_l11Put.j2 : Nat → List (S59) → List (S59) → Bool → Int → List ByteArray → Bool → ByteArray → Int → List (S71) → Option ((List (S59)))
 | 0, _, _, _, _, _, _, _, _, _ => none
 | k + 1, x0, x5, x6, x7, x820000, x820001, x820002, x820003, x820004 => if 0 ≤ x7 then (if x7 < (x0.length : Int) then ((spec_SamePath.f k ((rd_T59 x0 x7).f0) x820000).bind fun t850 => (if t850 = true then (spec_l11Put.l0 k x0 x5 x6 (wrap64 (x7 + 1)) x820000 x820001 x820002 x820003 x820004) else ((spec_l10Copy.f ((rd_T59 x0 x7).f0) ((rd_T59 x0 x7).f1) ((rd_T59 x0 x7).f2) ((rd_T59 x0 x7).f3) ((rd_T59 x0 x7).f4)).bind fun bt852 => (if x5.length < 1759218604441 then (spec_l11Put.l0 k x0 (x5 ++ [(⟨bt852.1, bt852.2.1, bt852.2.2.1, bt852.2.2.2.1, bt852.2.2.2.2⟩ : S59)]) x6 (wrap64 (x7 + 1)) x820000 x820001 x820002 x820003 x820004) else (none))))) else (none)) else (none)
end
def spec_l11Put.f (k : Nat) (l0 : List (S59)) (l1_0 : List ByteArray) (a1_1 : Bool) (a1_2 : ByteArray) (a1_3 : Int) (l1_4 : List (S71)) : Option ((List (S59))) := spec_l11Put.l0 k l0 (([] : List (S59))) false 0 l1_0 a1_1 a1_2 a1_3 l1_4
theorem spec_l11Put.calls (k : Nat) (A0 : Option Addr) (c0 : Nat) (l0 : List (S59)) (A1_0 : Option Addr) (c1_0 : Nat) (l1_0 : List ByteArray) (a1_1 : Bool) (a1_2 : ByteArray) (a1_3 : Int) (A1_4 : Option Addr) (c1_4 : Nat) (l1_4 : List (S71)) (r : List (S59)) (w : World) (hr0 : Kd.C k59 w A0 l0.length l0) (hc0 : l0.length ≤ c0) (hr1_0 : Kd.C Kd.string w A1_0 l1_0.length l1_0) (hc1_0 : l1_0.length ≤ c1_0) (hr1_4 : Kd.C k71 w A1_4 l1_4.length l1_4) (hc1_4 : l1_4.length ≤ c1_4) (h : spec_l11Put.f k l0 l1_0 a1_1 a1_2 a1_3 l1_4 = some r) :
 Calls Try.prog 121 #[.slice A0 l0.length c0, .agg #[.slice A1_0 l1_0.length c1_0, .bool a1_1, .string a1_2, .int .i64 a1_3, .slice A1_4 l1_4.length c1_4]] w fun e w' => ∃ v0_ : Value, e = .returned (v0_) ∧ Kd.S k59 59 w' w.heap.size (fun _ => True) v0_ r ∧ Below w.heap.size w w' := by
 have hu59 := Try.underlying59
 have HR0 := A_ hr0
 have HC0 := A_ hc0
 clear hr0 hc0
 have HR1_0 := A_ hr1_0
 have HC1_0 := A_ hc1_0
 clear hr1_0 hc1_0
 have HR1_4 := A_ hr1_4
 have HC1_4 := A_ hc1_4
 clear hr1_4 hc1_4
 have HB := A_ (Below.refl w.heap.size w)
 have H : (spec_l11Put.l0 k l0 (([] : List (S59))) false 0 l1_0 a1_1 a1_2 a1_3 l1_4) = some r := h
 clear h
 obtain ⟨y820, hy820⟩ : ∃ y_ : List (S59), y_ = (([] : List (S59))) := ⟨_, rfl⟩
 replace H : (spec_l11Put.l0 k l0 y820 false 0 l1_0 a1_1 a1_2 a1_3 l1_4) = some r := hy_ hy820 H
 have Ny820 := A_ hy820
 clear hy820
 have H' := A_ H
 clear H
 go_enter Try.func121, Try.ntmps121
 go_wp2_with (first | ((with_reducible refine gd_ (N := 3) rfl ?_); refine bx_ (N := 3) (cs := #[.slice A1_0 l1_0.length c1_0, .bool a1_1, .string a1_2, .int .i64 a1_3, .slice A1_4 l1_4.length c1_4]) (t := 59) ?_; intro gb819 hg w3 hbox hb; have BK819 := A_ (hbox); have GW819 := A_ (ge_ hg bB_ : w.heap.size ≤ gb819); have GE819 := A_ (ge_ hg bB_ : w.heap.size ≤ gb819); replace HB := A_ (below_step bB_ hb); clear hb hbox hg) | ((with_reducible refine gd_ (N := 8) rfl ?_); refine Kd.S_lit k59 _ 59 ?hg (N := 8) ?hd (xs := ([] : List (S59))) (inner := []) (ok := fun _ => True) (okp := fun _ => True) ?hr ?hp (fun _ hk => hk) trivial (Below.refl _ _) (Nat.le_refl _) (by simp) ?_; (case hd => rfl); (case hg => rfl); (case hr => first | (go_simp; done) | (go_simp; rfl)); (case hp => exact (Reps.none _ _)); intro v821 w4 ho5 hb hg_ hnew_; clear hg_ hnew_; (first | rw [← Ny820.out] at ho5 | (simp only [Int.reduceToNat] at ho5; rw [← Ny820.out] at ho5)); have HO822 := A_ (Kd.S_lower (Kd.S_newB ho5 (g := gb819) (o := .cells #[.slice A1_0 l1_0.length c1_0, .bool a1_1, .string a1_2, .int .i64 a1_3, .slice A1_4 l1_4.length c1_4] 59 (0, 0)) (vb_ BK819.out)) (below_size (bG_ GE819.out))); replace BK819 := A_ (bw_ BK819.out hb); replace HB := A_ (below_step (bG_ GE819.out) hb); clear hb ho5))
 repeat (go_quiet (first | ((with_reducible refine gd_ (N := 3) rfl ?_); refine bx_ (N := 3) (cs := #[.slice A1_0 l1_0.length c1_0, .bool a1_1, .string a1_2, .int .i64 a1_3, .slice A1_4 l1_4.length c1_4]) (t := 59) ?_; intro gb819 hg w3 hbox hb; have BK819 := A_ (hbox); have GW819 := A_ (ge_ hg bB_ : w.heap.size ≤ gb819); have GE819 := A_ (ge_ hg bB_ : w.heap.size ≤ gb819); replace HB := A_ (below_step bB_ hb); clear hb hbox hg) | ((with_reducible refine gd_ (N := 8) rfl ?_); refine Kd.S_lit k59 _ 59 ?hg (N := 8) ?hd (xs := ([] : List (S59))) (inner := []) (ok := fun _ => True) (okp := fun _ => True) ?hr ?hp (fun _ hk => hk) trivial (Below.refl _ _) (Nat.le_refl _) (by simp) ?_; (case hd => rfl); (case hg => rfl); (case hr => first | (go_simp; done) | (go_simp; rfl)); (case hp => exact (Reps.none _ _)); intro v821 w4 ho5 hb hg_ hnew_; clear hg_ hnew_; (first | rw [← Ny820.out] at ho5 | (simp only [Int.reduceToNat] at ho5; rw [← Ny820.out] at ho5)); have HO822 := A_ (Kd.S_lower (Kd.S_newB ho5 (g := gb819) (o := .cells #[.slice A1_0 l1_0.length c1_0, .bool a1_1, .string a1_2, .int .i64 a1_3, .slice A1_4 l1_4.length c1_4] 59 (0, 0)) (vb_ BK819.out)) (below_size (bG_ GE819.out))); replace BK819 := A_ (bw_ BK819.out hb); replace HB := A_ (below_step (bG_ GE819.out) hb); clear hb ho5)); try go_wp2_with (first | ((with_reducible refine gd_ (N := 3) rfl ?_); refine bx_ (N := 3) (cs := #[.slice A1_0 l1_0.length c1_0, .bool a1_1, .string a1_2, .int .i64 a1_3, .slice A1_4 l1_4.length c1_4]) (t := 59) ?_; intro gb819 hg w3 hbox hb; have BK819 := A_ (hbox); have GW819 := A_ (ge_ hg bB_ : w.heap.size ≤ gb819); have GE819 := A_ (ge_ hg bB_ : w.heap.size ≤ gb819); replace HB := A_ (below_step bB_ hb); clear hb hbox hg) | ((with_reducible refine gd_ (N := 8) rfl ?_); refine Kd.S_lit k59 _ 59 ?hg (N := 8) ?hd (xs := ([] : List (S59))) (inner := []) (ok := fun _ => True) (okp := fun _ => True) ?hr ?hp (fun _ hk => hk) trivial (Below.refl _ _) (Nat.le_refl _) (by simp) ?_; (case hd => rfl); (case hg => rfl); (case hr => first | (go_simp; done) | (go_simp; rfl)); (case hp => exact (Reps.none _ _)); intro v821 w4 ho5 hb hg_ hnew_; clear hg_ hnew_; (first | rw [← Ny820.out] at ho5 | (simp only [Int.reduceToNat] at ho5; rw [← Ny820.out] at ho5)); have HO822 := A_ (Kd.S_lower (Kd.S_newB ho5 (g := gb819) (o := .cells #[.slice A1_0 l1_0.length c1_0, .bool a1_1, .string a1_2, .int .i64 a1_3, .slice A1_4 l1_4.length c1_4] 59 (0, 0)) (vb_ BK819.out)) (below_size (bG_ GE819.out))); replace BK819 := A_ (bw_ BK819.out hb); replace HB := A_ (below_step (bG_ GE819.out) hb); clear hb ho5)))
 go_loopg [5, 6, 7] k (fun kq v5 v6 v7 w' => ∃ (x5_1 : List (S59)) (x6_1 : Bool) (x7_1 : Int), v6 = .bool x6_1 ∧ v7 = .int .i64 x7_1 ∧ Aside0 (spec_l11Put.l0 kq l0 x5_1 x6_1 x7_1 l1_0 a1_1 a1_2 a1_3 l1_4 = some r) ∧ Aside0 (kq ≤ k) ∧ Aside0 (Kd.S k59 59 w' w.heap.size (fun k_ => k_ ≠ gb819) v5 x5_1) ∧ Aside0 (w'.heap[gb819]? = some (.cells #[(.slice A1_0 l1_0.length c1_0), .bool a1_1, .string a1_2, .int .i64 a1_3, (.slice A1_4 l1_4.length c1_4)] 59 (0, 0))) ∧ Aside0 (Below w.heap.size w w'))
 case atStart => exact ⟨(y820), (false), (0), rs_, rs_, H', ⟨Nat.le_refl _⟩, ⟨by (with_reducible repeat (first | apply Kd.S_alloc | apply Kd.S_drewN | apply Kd.S_drew)); exact Kd.S_mono HO822.out (fun _ hk => hk.2)⟩, ⟨vb_ BK819.out⟩, ⟨bG_ GE819.out⟩⟩
 case round =>
  clear H'
  try clear c1
  try clear p2
  obtain ⟨x5_1, x6_1, x7_1, rfl, rfl, HA, HK1, HO_5, BK819, HB⟩ := hrel
  cases gk with
  | zero => exact absurd HA.out (by simp [spec_l11Put.l0])
  | succ k1 =>
   have H := HA.out
   clear HA
   simp only [spec_l11Put.l0] at H
   by_cases c6 : x7_1 < (l0.length : Int)
   rotate_left
   · rw [if_neg c6] at H
     have c6b0 : decide (x7_1 < (l0.length : Int)) = false := decide_eq_false c6
     clear c6
     by_cases c33 : x6_1 = true
     · subst c33
       rw [if_pos rfl] at H
       obtain rfl := si_ H
       go_wp2
       repeat (go_quiet (fail); try go_wp2)
       go_ret
       exact ⟨_, rr_, by (with_reducible repeat (first | apply Kd.S_alloc | apply Kd.S_drewN | apply Kd.S_drew)); exact Kd.S_mono HO_5.out (fun _ hk => trivial), bG_ GE819.out⟩
     · replace c33 := Bool.eq_false_iff.mpr c33
       subst c33
       rw [if_neg nf_] at H
       obtain ⟨⟨t823, t826, t827, t828, t829⟩, A34, H⟩ := bo_ H
       (try dsimp only at H)
       by_cases c35 : x5_1.length < 1759218604441
       rotate_left
       · exact absurd H (by rw [if_neg c35]; simp)
       rw [if_pos c35] at H
       have LMc35 := A_ c35
       clear c35
       obtain ⟨y832, hy832⟩ : ∃ y_ : List (S59), y_ = (x5_1 ++ [(⟨t823, t826, t827, t828, t829⟩ : S59)]) := ⟨_, rfl⟩
       replace H : (some y832) = some r := hy_ hy832 H
       have Ny832 := A_ hy832
       clear hy832
       obtain rfl := si_ H
       have hcz36_0 : wr.cell? ⟨gb819, 0, none⟩ = some (.slice A1_0 l1_0.length c1_0) := bl_ BK819.out 0
       have hcz36_1 : wr.cell? ⟨gb819, 1, none⟩ = some (.bool a1_1) := bl_ BK819.out 1
       have hcz36_2 : wr.cell? ⟨gb819, 2, none⟩ = some (.string a1_2) := bl_ BK819.out 2
       have hcz36_3 : wr.cell? ⟨gb819, 3, none⟩ = some (.int .i64 a1_3) := bl_ BK819.out 3
       have hcz36_4 : wr.cell? ⟨gb819, 4, none⟩ = some (.slice A1_4 l1_4.length c1_4) := bl_ BK819.out 4
       have hfz36_0 := blk_frozen BK819.out 0
       have hfz36_1 := blk_frozen BK819.out 1
       have hfz36_2 := blk_frozen BK819.out 2
       have hfz36_3 := blk_frozen BK819.out 3
       have hfz36_4 := blk_frozen BK819.out 4
       go_wp2_with (first | (go_at_call 78; (with_reducible refine (spec_l10Copy.calls _ _ l1_0 a1_1 a1_2 a1_3 _ _ l1_4 t823 t826 t827 t828 t829 _ ?s1 ?s2 ?s3 ?s4 A34.out).mono ?_); (case s1 => exact cC_ (Kd.C_below HR1_0.out HB.out)); (case s2 => exact HC1_0.out); (case s3 => exact cC_ (Kd.C_below HR1_4.out HB.out)); (case s4 => exact HC1_4.out); rintro e w37 ⟨v824, v830, rfl, ho0, ho1, hb⟩; replace HO_5 := A_ (Kd.S_mono (Kd.S_told (Kd.S_told (Kd.S_old (vS_ HO_5.out) hb) (kb_ ho0)) (kb_ ho1)) (fun _ h_ => h_.1)); have HO825 := A_ (Kd.R_lower ho0 (below_size (bG_ GE819.out))); have HO831 := A_ (Kd.R_lower ho1 (below_size (bG_ GE819.out))); replace BK819 := A_ (bw_ BK819.out hb); replace HB := A_ (below_step (bG_ GE819.out) hb); (try clear hb); (try clear ho0); (try clear ho1); obtain ⟨Ao39, co39, eo39⟩ := Kd.R_slice HO825.out; subst eo39; obtain ⟨Ao40, co40, eo40⟩ := Kd.R_slice HO831.out; subst eo40) | ((with_reducible refine gate_builtin (b := .append) (xs := #[.tmp 52, .tmp 55]) rfl ?_); at_builtin; refine Kd.S_append k59 (w0 := w) w.heap.size rfl (.tmp 52) (.tmp 55) 40 59 (.agg #[(.slice none 0 0), (.bool false), (.string ⟨#[]⟩), (.int .i64 0), (.slice none 0 0)]) 80 rfl Try.underlying40 info59 rfl (by decide) (by omega) u5 x5_1 (⟨t823, t826, t827, t828, t829⟩ : S59) [.slice Ao39 t823.length co39, .bool t826, .string t827, .int .i64 t828, .slice Ao40 t829.length co40] (fun k_ => k_ ≠ gb819) (fun k_ => some k_ = (.slice Ao39 t823.length co39 : Value).ownBlock ∨ some k_ = (.slice Ao40 t829.length co40 : Value).ownBlock) rfl rfl ?aP (fun k_ hk_ => hk_.elim (fun h_ => ((Kd.R_mono (ok' := fun k_ => ((fun k_ => k_ ≠ gb819)) k_ ∧ some k_ ≠ (u5 : Value).ownBlock) (Kd.R_types (Kd.R_apart' (HO825.out) (Kd.S_typed HO_5.out) (by decide)) BK819.out (by decide)) (fun k_ hk => ⟨hk.2, hk.1.2⟩))).1 k_ h_.symm) (fun h_ => ((Kd.R_mono (ok' := fun k_ => ((fun k_ => k_ ≠ gb819)) k_ ∧ some k_ ≠ (u5 : Value).ownBlock) (Kd.R_types (Kd.R_apart' (HO831.out) (Kd.S_typed HO_5.out) (by decide)) BK819.out (by decide)) (fun k_ hk => ⟨hk.2, hk.1.2⟩))).1 k_ h_.symm)) ?aF ?aO ?aB ?aS ?aL ?_; (case aP => exact k59_mkM _ _ _ (⟨t823, t826, t827, t828, t829⟩ : S59) (Kd.R_mono (Kd.R_tight rfl (Kd.R_mono (ok' := fun k_ => ((fun k_ => k_ ≠ gb819)) k_ ∧ some k_ ≠ (u5 : Value).ownBlock) (Kd.R_types (Kd.R_apart' (HO825.out) (Kd.S_typed HO_5.out) (by decide)) BK819.out (by decide)) (fun k_ hk => ⟨hk.2, hk.1.2⟩))) (fun _ h_ => Or.inl h_)) (Kd.R_mono (Kd.R_tight rfl (Kd.R_mono (ok' := fun k_ => ((fun k_ => k_ ≠ gb819)) k_ ∧ some k_ ≠ (u5 : Value).ownBlock) (Kd.R_types (Kd.R_apart' (HO831.out) (Kd.S_typed HO_5.out) (by decide)) BK819.out (by decide)) (fun k_ hk => ⟨hk.2, hk.1.2⟩))) (fun _ h_ => Or.inr (h_)))); (case aB => exact (bG_ GE819.out)); (case aF => exact (fun k_ hk => Kd.freshB (g := gb819) (o := .cells #[.slice A1_0 l1_0.length c1_0, .bool a1_1, .string a1_2, .int .i64 a1_3, .slice A1_4 l1_4.length c1_4] 59 (0, 0)) (vb_ BK819.out) k_ hk)); (case aO => exact (by (with_reducible repeat (first | apply Kd.S_alloc | apply Kd.S_drewN | apply Kd.S_drew)); exact Kd.S_mono HO_5.out (fun k_ hk => ⟨hk.1.1, fun e_ => e_.elim (fun h_ => hk.1.2 h_) (fun h_ => hk.2 h_)⟩))); (case aS => exact (below_size (bG_ GE819.out))); (case aL => have := LMc35.out; omega); intro v833 w38 ho hb hg hat; rw [← Ny832.out] at ho; replace BK819 := A_ (blk_grown (g := gb819) (o := .cells #[.slice A1_0 l1_0.length c1_0, .bool a1_1, .string a1_2, .int .i64 a1_3, .slice A1_4 l1_4.length c1_4] 59 (0, 0)) (vb_ BK819.out) hg (Kd.S_away HO_5.out (fun _ hk => hk.1.1))); replace HB := A_ (hb); have HO834 := A_ (ho); clear HO_5 HO825 HO831; clear ho hb hg hat))
       repeat (go_quiet (first | (go_at_call 78; (with_reducible refine (spec_l10Copy.calls _ _ l1_0 a1_1 a1_2 a1_3 _ _ l1_4 t823 t826 t827 t828 t829 _ ?s1 ?s2 ?s3 ?s4 A34.out).mono ?_); (case s1 => exact cC_ (Kd.C_below HR1_0.out HB.out)); (case s2 => exact HC1_0.out); (case s3 => exact cC_ (Kd.C_below HR1_4.out HB.out)); (case s4 => exact HC1_4.out); rintro e w37 ⟨v824, v830, rfl, ho0, ho1, hb⟩; replace HO_5 := A_ (Kd.S_mono (Kd.S_told (Kd.S_told (Kd.S_old (vS_ HO_5.out) hb) (kb_ ho0)) (kb_ ho1)) (fun _ h_ => h_.1)); have HO825 := A_ (Kd.R_lower ho0 (below_size (bG_ GE819.out))); have HO831 := A_ (Kd.R_lower ho1 (below_size (bG_ GE819.out))); replace BK819 := A_ (bw_ BK819.out hb); replace HB := A_ (below_step (bG_ GE819.out) hb); (try clear hb); (try clear ho0); (try clear ho1); obtain ⟨Ao39, co39, eo39⟩ := Kd.R_slice HO825.out; subst eo39; obtain ⟨Ao40, co40, eo40⟩ := Kd.R_slice HO831.out; subst eo40) | ((with_reducible refine gate_builtin (b := .append) (xs := #[.tmp 52, .tmp 55]) rfl ?_); at_builtin; refine Kd.S_append k59 (w0 := w) w.heap.size rfl (.tmp 52) (.tmp 55) 40 59 (.agg #[(.slice none 0 0), (.bool false), (.string ⟨#[]⟩), (.int .i64 0), (.slice none 0 0)]) 80 rfl Try.underlying40 info59 rfl (by decide) (by omega) u5 x5_1 (⟨t823, t826, t827, t828, t829⟩ : S59) [.slice Ao39 t823.length co39, .bool t826, .string t827, .int .i64 t828, .slice Ao40 t829.length co40] (fun k_ => k_ ≠ gb819) (fun k_ => some k_ = (.slice Ao39 t823.length co39 : Value).ownBlock ∨ some k_ = (.slice Ao40 t829.length co40 : Value).ownBlock) rfl rfl ?aP (fun k_ hk_ => hk_.elim (fun h_ => ((Kd.R_mono (ok' := fun k_ => ((fun k_ => k_ ≠ gb819)) k_ ∧ some k_ ≠ (u5 : Value).ownBlock) (Kd.R_types (Kd.R_apart' (HO825.out) (Kd.S_typed HO_5.out) (by decide)) BK819.out (by decide)) (fun k_ hk => ⟨hk.2, hk.1.2⟩))).1 k_ h_.symm) (fun h_ => ((Kd.R_mono (ok' := fun k_ => ((fun k_ => k_ ≠ gb819)) k_ ∧ some k_ ≠ (u5 : Value).ownBlock) (Kd.R_types (Kd.R_apart' (HO831.out) (Kd.S_typed HO_5.out) (by decide)) BK819.out (by decide)) (fun k_ hk => ⟨hk.2, hk.1.2⟩))).1 k_ h_.symm)) ?aF ?aO ?aB ?aS ?aL ?_; (case aP => exact k59_mkM _ _ _ (⟨t823, t826, t827, t828, t829⟩ : S59) (Kd.R_mono (Kd.R_tight rfl (Kd.R_mono (ok' := fun k_ => ((fun k_ => k_ ≠ gb819)) k_ ∧ some k_ ≠ (u5 : Value).ownBlock) (Kd.R_types (Kd.R_apart' (HO825.out) (Kd.S_typed HO_5.out) (by decide)) BK819.out (by decide)) (fun k_ hk => ⟨hk.2, hk.1.2⟩))) (fun _ h_ => Or.inl h_)) (Kd.R_mono (Kd.R_tight rfl (Kd.R_mono (ok' := fun k_ => ((fun k_ => k_ ≠ gb819)) k_ ∧ some k_ ≠ (u5 : Value).ownBlock) (Kd.R_types (Kd.R_apart' (HO831.out) (Kd.S_typed HO_5.out) (by decide)) BK819.out (by decide)) (fun k_ hk => ⟨hk.2, hk.1.2⟩))) (fun _ h_ => Or.inr (h_)))); (case aB => exact (bG_ GE819.out)); (case aF => exact (fun k_ hk => Kd.freshB (g := gb819) (o := .cells #[.slice A1_0 l1_0.length c1_0, .bool a1_1, .string a1_2, .int .i64 a1_3, .slice A1_4 l1_4.length c1_4] 59 (0, 0)) (vb_ BK819.out) k_ hk)); (case aO => exact (by (with_reducible repeat (first | apply Kd.S_alloc | apply Kd.S_drewN | apply Kd.S_drew)); exact Kd.S_mono HO_5.out (fun k_ hk => ⟨hk.1.1, fun e_ => e_.elim (fun h_ => hk.1.2 h_) (fun h_ => hk.2 h_)⟩))); (case aS => exact (below_size (bG_ GE819.out))); (case aL => have := LMc35.out; omega); intro v833 w38 ho hb hg hat; rw [← Ny832.out] at ho; replace BK819 := A_ (blk_grown (g := gb819) (o := .cells #[.slice A1_0 l1_0.length c1_0, .bool a1_1, .string a1_2, .int .i64 a1_3, .slice A1_4 l1_4.length c1_4] 59 (0, 0)) (vb_ BK819.out) hg (Kd.S_away HO_5.out (fun _ hk => hk.1.1))); replace HB := A_ (hb); have HO834 := A_ (ho); clear HO_5 HO825 HO831; clear ho hb hg hat)); try go_wp2_with (first | (go_at_call 78; (with_reducible refine (spec_l10Copy.calls _ _ l1_0 a1_1 a1_2 a1_3 _ _ l1_4 t823 t826 t827 t828 t829 _ ?s1 ?s2 ?s3 ?s4 A34.out).mono ?_); (case s1 => exact cC_ (Kd.C_below HR1_0.out HB.out)); (case s2 => exact HC1_0.out); (case s3 => exact cC_ (Kd.C_below HR1_4.out HB.out)); (case s4 => exact HC1_4.out); rintro e w37 ⟨v824, v830, rfl, ho0, ho1, hb⟩; replace HO_5 := A_ (Kd.S_mono (Kd.S_told (Kd.S_told (Kd.S_old (vS_ HO_5.out) hb) (kb_ ho0)) (kb_ ho1)) (fun _ h_ => h_.1)); have HO825 := A_ (Kd.R_lower ho0 (below_size (bG_ GE819.out))); have HO831 := A_ (Kd.R_lower ho1 (below_size (bG_ GE819.out))); replace BK819 := A_ (bw_ BK819.out hb); replace HB := A_ (below_step (bG_ GE819.out) hb); (try clear hb); (try clear ho0); (try clear ho1); obtain ⟨Ao39, co39, eo39⟩ := Kd.R_slice HO825.out; subst eo39; obtain ⟨Ao40, co40, eo40⟩ := Kd.R_slice HO831.out; subst eo40) | ((with_reducible refine gate_builtin (b := .append) (xs := #[.tmp 52, .tmp 55]) rfl ?_); at_builtin; refine Kd.S_append k59 (w0 := w) w.heap.size rfl (.tmp 52) (.tmp 55) 40 59 (.agg #[(.slice none 0 0), (.bool false), (.string ⟨#[]⟩), (.int .i64 0), (.slice none 0 0)]) 80 rfl Try.underlying40 info59 rfl (by decide) (by omega) u5 x5_1 (⟨t823, t826, t827, t828, t829⟩ : S59) [.slice Ao39 t823.length co39, .bool t826, .string t827, .int .i64 t828, .slice Ao40 t829.length co40] (fun k_ => k_ ≠ gb819) (fun k_ => some k_ = (.slice Ao39 t823.length co39 : Value).ownBlock ∨ some k_ = (.slice Ao40 t829.length co40 : Value).ownBlock) rfl rfl ?aP (fun k_ hk_ => hk_.elim (fun h_ => ((Kd.R_mono (ok' := fun k_ => ((fun k_ => k_ ≠ gb819)) k_ ∧ some k_ ≠ (u5 : Value).ownBlock) (Kd.R_types (Kd.R_apart' (HO825.out) (Kd.S_typed HO_5.out) (by decide)) BK819.out (by decide)) (fun k_ hk => ⟨hk.2, hk.1.2⟩))).1 k_ h_.symm) (fun h_ => ((Kd.R_mono (ok' := fun k_ => ((fun k_ => k_ ≠ gb819)) k_ ∧ some k_ ≠ (u5 : Value).ownBlock) (Kd.R_types (Kd.R_apart' (HO831.out) (Kd.S_typed HO_5.out) (by decide)) BK819.out (by decide)) (fun k_ hk => ⟨hk.2, hk.1.2⟩))).1 k_ h_.symm)) ?aF ?aO ?aB ?aS ?aL ?_; (case aP => exact k59_mkM _ _ _ (⟨t823, t826, t827, t828, t829⟩ : S59) (Kd.R_mono (Kd.R_tight rfl (Kd.R_mono (ok' := fun k_ => ((fun k_ => k_ ≠ gb819)) k_ ∧ some k_ ≠ (u5 : Value).ownBlock) (Kd.R_types (Kd.R_apart' (HO825.out) (Kd.S_typed HO_5.out) (by decide)) BK819.out (by decide)) (fun k_ hk => ⟨hk.2, hk.1.2⟩))) (fun _ h_ => Or.inl h_)) (Kd.R_mono (Kd.R_tight rfl (Kd.R_mono (ok' := fun k_ => ((fun k_ => k_ ≠ gb819)) k_ ∧ some k_ ≠ (u5 : Value).ownBlock) (Kd.R_types (Kd.R_apart' (HO831.out) (Kd.S_typed HO_5.out) (by decide)) BK819.out (by decide)) (fun k_ hk => ⟨hk.2, hk.1.2⟩))) (fun _ h_ => Or.inr (h_)))); (case aB => exact (bG_ GE819.out)); (case aF => exact (fun k_ hk => Kd.freshB (g := gb819) (o := .cells #[.slice A1_0 l1_0.length c1_0, .bool a1_1, .string a1_2, .int .i64 a1_3, .slice A1_4 l1_4.length c1_4] 59 (0, 0)) (vb_ BK819.out) k_ hk)); (case aO => exact (by (with_reducible repeat (first | apply Kd.S_alloc | apply Kd.S_drewN | apply Kd.S_drew)); exact Kd.S_mono HO_5.out (fun k_ hk => ⟨hk.1.1, fun e_ => e_.elim (fun h_ => hk.1.2 h_) (fun h_ => hk.2 h_)⟩))); (case aS => exact (below_size (bG_ GE819.out))); (case aL => have := LMc35.out; omega); intro v833 w38 ho hb hg hat; rw [← Ny832.out] at ho; replace BK819 := A_ (blk_grown (g := gb819) (o := .cells #[.slice A1_0 l1_0.length c1_0, .bool a1_1, .string a1_2, .int .i64 a1_3, .slice A1_4 l1_4.length c1_4] 59 (0, 0)) (vb_ BK819.out) hg (Kd.S_away HO_5.out (fun _ hk => hk.1.1))); replace HB := A_ (hb); have HO834 := A_ (ho); clear HO_5 HO825 HO831; clear ho hb hg hat)))
       go_ret
       exact ⟨_, rr_, by (with_reducible repeat (first | apply Kd.S_alloc | apply Kd.S_drewN | apply Kd.S_drew)); exact Kd.S_mono HO834.out (fun _ hk => trivial), bG_ GE819.out⟩
   rw [if_pos c6] at H
   have c6b0 : decide (x7_1 < (l0.length : Int)) = true := decide_eq_true c6
   clear c6
   have HC7 := A_ H
   clear H
   go_upto_region 6 with (fail)
   repeat (go_quiet (fail); go_upto_region 6 with (fail))
   go_cut [27] (fun v27 wc => ∃ (kq : Nat) (x27_6 : Bool), v27 = .bool x27_6 ∧ Aside0 (spec_l11Put.j1 kq l0 x5_1 x6_1 x7_1 x27_6 l1_0 a1_1 a1_2 a1_3 l1_4 = some r) ∧ Aside0 (kq ≤ k1) ∧ Aside0 (Kd.S k59 59 wc w.heap.size (fun k_ => k_ ≠ gb819) u5 x5_1) ∧ Aside0 (wc.heap[gb819]? = some (.cells #[(.slice A1_0 l1_0.length c1_0), .bool a1_1, .string a1_2, .int .i64 a1_3, (.slice A1_4 l1_4.length c1_4)] 59 (0, 0))) ∧ Aside0 (Below w.heap.size w wc))
   case first =>
    have H := HC7.out
    clear HC7
    by_cases c8 : x6_1 = true
    · subst c8
      rw [if_pos rfl] at H
      have H' := A_ H
      clear H
      go_wp2
      repeat (go_quiet (fail); try go_wp2)
      go_meet
      case rel => exact ⟨_, (false), rs_, H', ⟨by have := HK1.out; first | omega | exact Nat.le_refl _⟩, ⟨vS_ HO_5.out⟩, ⟨vb_ BK819.out⟩, ⟨bG_ GE819.out⟩⟩
    · replace c8 := Bool.eq_false_iff.mpr c8
      subst c8
      rw [if_neg nf_] at H
      by_cases c9 : 0 ≤ x7_1
      rotate_left
      · exact absurd H (by rw [if_neg c9]; simp)
      rw [if_pos c9] at H
      have c9b0 : decide (0 ≤ x7_1) = true := decide_eq_true c9
      clear c9
      (first | rw [c9b0] | (simp only [i64_w, i32_w]; rw [c9b0]) | skip)
      obtain ⟨t836, A10, H⟩ := bo_ H
      (try dsimp only at H)
      have H' := A_ H
      clear H
      have p835 : 0 ≤ (x7_1 : Int) := od_
      have q835 : x7_1 < (l0.length : Int) := od_
      obtain ⟨ad835, A835_0, c835_0, A835_4, c835_4, e835, hx835_0, hx835_1, hx835_2, hx835_3, hx835_4, hl835_0, hi835_0, hl835_4, hi835_4⟩ := at_T59 HR0.out x7_1 p835 q835
      cases e835
      replace hx835_0 := bc_ HB.out hx835_0
      replace hx835_1 := bc_ HB.out hx835_1
      replace hx835_2 := bc_ HB.out hx835_2
      replace hx835_3 := bc_ HB.out hx835_3
      replace hx835_4 := bc_ HB.out hx835_4
      have HR835_0 := A_ hi835_0
      have HC835_0 := A_ hl835_0
      clear hi835_0 hl835_0
      have HR835_4 := A_ hi835_4
      have HC835_4 := A_ hl835_4
      clear hi835_4 hl835_4
      replace p835 := eq_true p835
      replace q835 := eq_true q835
      have hcz11_0 : wr.cell? ⟨gb819, 0, none⟩ = some (.slice A1_0 l1_0.length c1_0) := bl_ BK819.out 0
      have hcz11_1 : wr.cell? ⟨gb819, 1, none⟩ = some (.bool a1_1) := bl_ BK819.out 1
      have hcz11_2 : wr.cell? ⟨gb819, 2, none⟩ = some (.string a1_2) := bl_ BK819.out 2
      have hcz11_3 : wr.cell? ⟨gb819, 3, none⟩ = some (.int .i64 a1_3) := bl_ BK819.out 3
      have hcz11_4 : wr.cell? ⟨gb819, 4, none⟩ = some (.slice A1_4 l1_4.length c1_4) := bl_ BK819.out 4
      have hfz11_0 := blk_frozen BK819.out 0
      have hfz11_1 := blk_frozen BK819.out 1
      have hfz11_2 := blk_frozen BK819.out 2
      have hfz11_3 := blk_frozen BK819.out 3
      have hfz11_4 := blk_frozen BK819.out 4
      go_wp2_with (first | (go_at_call 16; (with_reducible refine (spec_LessPath.calls k1 _ _ ((rd_T59 l0 x7_1).f0) _ _ l1_0 t836 _ ?s1 ?s2 ?s3 ?s4 A10.out).mono ?_); (case s1 => exact cC_ (Kd.C_below HR835_0.out HB.out)); (case s2 => exact HC835_0.out); (case s3 => exact cC_ (Kd.C_below HR1_0.out HB.out)); (case s4 => exact HC1_0.out); rintro e w' ⟨rfl, ⟨nd, rfl⟩⟩; (try first | exact ⟨rfl, _, World.drewN_drewN _ _ _⟩ | exact ⟨rfl, _, Eq.trans (World.drewN_drewN _ _ _) (congrArg (World.drewN _) (Nat.add_assoc _ _ _))⟩)))
      repeat (go_quiet (first | (go_at_call 16; (with_reducible refine (spec_LessPath.calls k1 _ _ ((rd_T59 l0 x7_1).f0) _ _ l1_0 t836 _ ?s1 ?s2 ?s3 ?s4 A10.out).mono ?_); (case s1 => exact cC_ (Kd.C_below HR835_0.out HB.out)); (case s2 => exact HC835_0.out); (case s3 => exact cC_ (Kd.C_below HR1_0.out HB.out)); (case s4 => exact HC1_0.out); rintro e w' ⟨rfl, ⟨nd, rfl⟩⟩; (try first | exact ⟨rfl, _, World.drewN_drewN _ _ _⟩ | exact ⟨rfl, _, Eq.trans (World.drewN_drewN _ _ _) (congrArg (World.drewN _) (Nat.add_assoc _ _ _))⟩))); try go_wp2_with (first | (go_at_call 16; (with_reducible refine (spec_LessPath.calls k1 _ _ ((rd_T59 l0 x7_1).f0) _ _ l1_0 t836 _ ?s1 ?s2 ?s3 ?s4 A10.out).mono ?_); (case s1 => exact cC_ (Kd.C_below HR835_0.out HB.out)); (case s2 => exact HC835_0.out); (case s3 => exact cC_ (Kd.C_below HR1_0.out HB.out)); (case s4 => exact HC1_0.out); rintro e w' ⟨rfl, ⟨nd, rfl⟩⟩; (try first | exact ⟨rfl, _, World.drewN_drewN _ _ _⟩ | exact ⟨rfl, _, Eq.trans (World.drewN_drewN _ _ _) (congrArg (World.drewN _) (Nat.add_assoc _ _ _))⟩))))
      go_meet
      case rel => exact ⟨_, (!t836), rs_, H', ⟨by have := HK1.out; first | omega | exact Nat.le_refl _⟩, ⟨vS_ HO_5.out⟩, ⟨vb_ BK819.out⟩, ⟨bG_ GE819.out⟩⟩
   case rest =>
    clear HC7
    try clear c1
    try clear p2
    try clear c6
    try clear c6b0
    try clear c8
    try clear p8
    try clear q8
    try clear hx8
    try clear c9
    try clear c9b0
    try clear hcz11_0
    try clear hcz11_1
    try clear hcz11_2
    try clear hcz11_3
    try clear hcz11_4
    try clear hfz11_0
    try clear hfz11_1
    try clear hfz11_2
    try clear hfz11_3
    try clear hfz11_4
    try clear hx835_0
    try clear hx835_1
    try clear hx835_2
    try clear hx835_3
    try clear hx835_4
    try clear p2
    try clear p835
    try clear q835
    obtain ⟨kq, x27_6, rfl, HA, HJ6, HO_5, BK819, HB⟩ := hcut
    cases kq with
    | zero => exact absurd HA.out (by simp [spec_l11Put.j1])
    | succ kj6 =>
     have H := HA.out
     clear HA
     simp only [spec_l11Put.j1] at H
     have HC12 := A_ H
     clear H
     go_upto_if 27 with (fail)
     repeat (go_quiet (fail); go_upto_if 27 with (fail))
     go_cut [5, 6] (fun v5 v6 wc => ∃ (kq : Nat) (x5_11 : List (S59)) (x6_11 : Bool), v6 = .bool x6_11 ∧ Aside0 (spec_l11Put.j2 kq l0 x5_11 x6_11 x7_1 l1_0 a1_1 a1_2 a1_3 l1_4 = some r) ∧ Aside0 (kq ≤ kj6) ∧ Aside0 (Kd.S k59 59 wc w.heap.size (fun k_ => k_ ≠ gb819) v5 x5_11) ∧ Aside0 (wc.heap[gb819]? = some (.cells #[(.slice A1_0 l1_0.length c1_0), .bool a1_1, .string a1_2, .int .i64 a1_3, (.slice A1_4 l1_4.length c1_4)] 59 (0, 0))) ∧ Aside0 (Below w.heap.size w wc))
     case first =>
      have H := HC12.out
      clear HC12
      by_cases c13 : x27_6 = true
      · subst c13
        rw [if_pos rfl] at H
        obtain ⟨⟨t837, t840, t841, t842, t843⟩, A14, H⟩ := bo_ H
        (try dsimp only at H)
        by_cases c15 : x5_1.length < 1759218604441
        rotate_left
        · exact absurd H (by rw [if_neg c15]; simp)
        rw [if_pos c15] at H
        have LMc15 := A_ c15
        clear c15
        obtain ⟨y846, hy846⟩ : ∃ y_ : List (S59), y_ = (x5_1 ++ [(⟨t837, t840, t841, t842, t843⟩ : S59)]) := ⟨_, rfl⟩
        replace H : (spec_l11Put.j2 kj6 l0 y846 true x7_1 l1_0 a1_1 a1_2 a1_3 l1_4) = some r := hy_ hy846 H
        have Ny846 := A_ hy846
        clear hy846
        have H' := A_ H
        clear H
        have hcz16_0 : wc.cell? ⟨gb819, 0, none⟩ = some (.slice A1_0 l1_0.length c1_0) := bl_ BK819.out 0
        have hcz16_1 : wc.cell? ⟨gb819, 1, none⟩ = some (.bool a1_1) := bl_ BK819.out 1
        have hcz16_2 : wc.cell? ⟨gb819, 2, none⟩ = some (.string a1_2) := bl_ BK819.out 2
        have hcz16_3 : wc.cell? ⟨gb819, 3, none⟩ = some (.int .i64 a1_3) := bl_ BK819.out 3
        have hcz16_4 : wc.cell? ⟨gb819, 4, none⟩ = some (.slice A1_4 l1_4.length c1_4) := bl_ BK819.out 4
        have hfz16_0 := blk_frozen BK819.out 0
        have hfz16_1 := blk_frozen BK819.out 1
        have hfz16_2 := blk_frozen BK819.out 2
        have hfz16_3 := blk_frozen BK819.out 3
        have hfz16_4 := blk_frozen BK819.out 4
        go_wp2_with (first | (go_at_call 78; (with_reducible refine (spec_l10Copy.calls _ _ l1_0 a1_1 a1_2 a1_3 _ _ l1_4 t837 t840 t841 t842 t843 _ ?s1 ?s2 ?s3 ?s4 A14.out).mono ?_); (case s1 => exact cC_ (Kd.C_below HR1_0.out HB.out)); (case s2 => exact HC1_0.out); (case s3 => exact cC_ (Kd.C_below HR1_4.out HB.out)); (case s4 => exact HC1_4.out); rintro e w17 ⟨v838, v844, rfl, ho0, ho1, hb⟩; replace HO_5 := A_ (Kd.S_mono (Kd.S_told (Kd.S_told (Kd.S_old (vS_ HO_5.out) hb) (kb_ ho0)) (kb_ ho1)) (fun _ h_ => h_.1)); have HO839 := A_ (Kd.R_lower ho0 (below_size (bG_ GE819.out))); have HO845 := A_ (Kd.R_lower ho1 (below_size (bG_ GE819.out))); replace BK819 := A_ (bw_ BK819.out hb); replace HB := A_ (below_step (bG_ GE819.out) hb); (try clear hb); (try clear ho0); (try clear ho1); obtain ⟨Ao19, co19, eo19⟩ := Kd.R_slice HO839.out; subst eo19; obtain ⟨Ao20, co20, eo20⟩ := Kd.R_slice HO845.out; subst eo20) | ((with_reducible refine gate_builtin (b := .append) (xs := #[.tmp 28, .tmp 31]) rfl ?_); at_builtin; refine Kd.S_append k59 (w0 := w) w.heap.size rfl (.tmp 28) (.tmp 31) 40 59 (.agg #[(.slice none 0 0), (.bool false), (.string ⟨#[]⟩), (.int .i64 0), (.slice none 0 0)]) 80 rfl Try.underlying40 info59 rfl (by decide) (by omega) u5 x5_1 (⟨t837, t840, t841, t842, t843⟩ : S59) [.slice Ao19 t837.length co19, .bool t840, .string t841, .int .i64 t842, .slice Ao20 t843.length co20] (fun k_ => k_ ≠ gb819) (fun k_ => some k_ = (.slice Ao19 t837.length co19 : Value).ownBlock ∨ some k_ = (.slice Ao20 t843.length co20 : Value).ownBlock) rfl rfl ?aP (fun k_ hk_ => hk_.elim (fun h_ => ((Kd.R_mono (ok' := fun k_ => ((fun k_ => k_ ≠ gb819)) k_ ∧ some k_ ≠ (u5 : Value).ownBlock) (Kd.R_types (Kd.R_apart' (HO839.out) (Kd.S_typed HO_5.out) (by decide)) BK819.out (by decide)) (fun k_ hk => ⟨hk.2, hk.1.2⟩))).1 k_ h_.symm) (fun h_ => ((Kd.R_mono (ok' := fun k_ => ((fun k_ => k_ ≠ gb819)) k_ ∧ some k_ ≠ (u5 : Value).ownBlock) (Kd.R_types (Kd.R_apart' (HO845.out) (Kd.S_typed HO_5.out) (by decide)) BK819.out (by decide)) (fun k_ hk => ⟨hk.2, hk.1.2⟩))).1 k_ h_.symm)) ?aF ?aO ?aB ?aS ?aL ?_; (case aP => exact k59_mkM _ _ _ (⟨t837, t840, t841, t842, t843⟩ : S59) (Kd.R_mono (Kd.R_tight rfl (Kd.R_mono (ok' := fun k_ => ((fun k_ => k_ ≠ gb819)) k_ ∧ some k_ ≠ (u5 : Value).ownBlock) (Kd.R_types (Kd.R_apart' (HO839.out) (Kd.S_typed HO_5.out) (by decide)) BK819.out (by decide)) (fun k_ hk => ⟨hk.2, hk.1.2⟩))) (fun _ h_ => Or.inl h_)) (Kd.R_mono (Kd.R_tight rfl (Kd.R_mono (ok' := fun k_ => ((fun k_ => k_ ≠ gb819)) k_ ∧ some k_ ≠ (u5 : Value).ownBlock) (Kd.R_types (Kd.R_apart' (HO845.out) (Kd.S_typed HO_5.out) (by decide)) BK819.out (by decide)) (fun k_ hk => ⟨hk.2, hk.1.2⟩))) (fun _ h_ => Or.inr (h_)))); (case aB => exact (bG_ GE819.out)); (case aF => exact (fun k_ hk => Kd.freshB (g := gb819) (o := .cells #[.slice A1_0 l1_0.length c1_0, .bool a1_1, .string a1_2, .int .i64 a1_3, .slice A1_4 l1_4.length c1_4] 59 (0, 0)) (vb_ BK819.out) k_ hk)); (case aO => exact (by (with_reducible repeat (first | apply Kd.S_alloc | apply Kd.S_drewN | apply Kd.S_drew)); exact Kd.S_mono HO_5.out (fun k_ hk => ⟨hk.1.1, fun e_ => e_.elim (fun h_ => hk.1.2 h_) (fun h_ => hk.2 h_)⟩))); (case aS => exact (below_size (bG_ GE819.out))); (case aL => have := LMc15.out; omega); intro v847 w18 ho hb hg hat; rw [← Ny846.out] at ho; replace BK819 := A_ (blk_grown (g := gb819) (o := .cells #[.slice A1_0 l1_0.length c1_0, .bool a1_1, .string a1_2, .int .i64 a1_3, .slice A1_4 l1_4.length c1_4] 59 (0, 0)) (vb_ BK819.out) hg (Kd.S_away HO_5.out (fun _ hk => hk.1.1))); replace HB := A_ (hb); have HO848 := A_ (ho); clear HO_5 HO839 HO845; clear ho hb hg hat))
        repeat (go_quiet (first | (go_at_call 78; (with_reducible refine (spec_l10Copy.calls _ _ l1_0 a1_1 a1_2 a1_3 _ _ l1_4 t837 t840 t841 t842 t843 _ ?s1 ?s2 ?s3 ?s4 A14.out).mono ?_); (case s1 => exact cC_ (Kd.C_below HR1_0.out HB.out)); (case s2 => exact HC1_0.out); (case s3 => exact cC_ (Kd.C_below HR1_4.out HB.out)); (case s4 => exact HC1_4.out); rintro e w17 ⟨v838, v844, rfl, ho0, ho1, hb⟩; replace HO_5 := A_ (Kd.S_mono (Kd.S_told (Kd.S_told (Kd.S_old (vS_ HO_5.out) hb) (kb_ ho0)) (kb_ ho1)) (fun _ h_ => h_.1)); have HO839 := A_ (Kd.R_lower ho0 (below_size (bG_ GE819.out))); have HO845 := A_ (Kd.R_lower ho1 (below_size (bG_ GE819.out))); replace BK819 := A_ (bw_ BK819.out hb); replace HB := A_ (below_step (bG_ GE819.out) hb); (try clear hb); (try clear ho0); (try clear ho1); obtain ⟨Ao19, co19, eo19⟩ := Kd.R_slice HO839.out; subst eo19; obtain ⟨Ao20, co20, eo20⟩ := Kd.R_slice HO845.out; subst eo20) | ((with_reducible refine gate_builtin (b := .append) (xs := #[.tmp 28, .tmp 31]) rfl ?_); at_builtin; refine Kd.S_append k59 (w0 := w) w.heap.size rfl (.tmp 28) (.tmp 31) 40 59 (.agg #[(.slice none 0 0), (.bool false), (.string ⟨#[]⟩), (.int .i64 0), (.slice none 0 0)]) 80 rfl Try.underlying40 info59 rfl (by decide) (by omega) u5 x5_1 (⟨t837, t840, t841, t842, t843⟩ : S59) [.slice Ao19 t837.length co19, .bool t840, .string t841, .int .i64 t842, .slice Ao20 t843.length co20] (fun k_ => k_ ≠ gb819) (fun k_ => some k_ = (.slice Ao19 t837.length co19 : Value).ownBlock ∨ some k_ = (.slice Ao20 t843.length co20 : Value).ownBlock) rfl rfl ?aP (fun k_ hk_ => hk_.elim (fun h_ => ((Kd.R_mono (ok' := fun k_ => ((fun k_ => k_ ≠ gb819)) k_ ∧ some k_ ≠ (u5 : Value).ownBlock) (Kd.R_types (Kd.R_apart' (HO839.out) (Kd.S_typed HO_5.out) (by decide)) BK819.out (by decide)) (fun k_ hk => ⟨hk.2, hk.1.2⟩))).1 k_ h_.symm) (fun h_ => ((Kd.R_mono (ok' := fun k_ => ((fun k_ => k_ ≠ gb819)) k_ ∧ some k_ ≠ (u5 : Value).ownBlock) (Kd.R_types (Kd.R_apart' (HO845.out) (Kd.S_typed HO_5.out) (by decide)) BK819.out (by decide)) (fun k_ hk => ⟨hk.2, hk.1.2⟩))).1 k_ h_.symm)) ?aF ?aO ?aB ?aS ?aL ?_; (case aP => exact k59_mkM _ _ _ (⟨t837, t840, t841, t842, t843⟩ : S59) (Kd.R_mono (Kd.R_tight rfl (Kd.R_mono (ok' := fun k_ => ((fun k_ => k_ ≠ gb819)) k_ ∧ some k_ ≠ (u5 : Value).ownBlock) (Kd.R_types (Kd.R_apart' (HO839.out) (Kd.S_typed HO_5.out) (by decide)) BK819.out (by decide)) (fun k_ hk => ⟨hk.2, hk.1.2⟩))) (fun _ h_ => Or.inl h_)) (Kd.R_mono (Kd.R_tight rfl (Kd.R_mono (ok' := fun k_ => ((fun k_ => k_ ≠ gb819)) k_ ∧ some k_ ≠ (u5 : Value).ownBlock) (Kd.R_types (Kd.R_apart' (HO845.out) (Kd.S_typed HO_5.out) (by decide)) BK819.out (by decide)) (fun k_ hk => ⟨hk.2, hk.1.2⟩))) (fun _ h_ => Or.inr (h_)))); (case aB => exact (bG_ GE819.out)); (case aF => exact (fun k_ hk => Kd.freshB (g := gb819) (o := .cells #[.slice A1_0 l1_0.length c1_0, .bool a1_1, .string a1_2, .int .i64 a1_3, .slice A1_4 l1_4.length c1_4] 59 (0, 0)) (vb_ BK819.out) k_ hk)); (case aO => exact (by (with_reducible repeat (first | apply Kd.S_alloc | apply Kd.S_drewN | apply Kd.S_drew)); exact Kd.S_mono HO_5.out (fun k_ hk => ⟨hk.1.1, fun e_ => e_.elim (fun h_ => hk.1.2 h_) (fun h_ => hk.2 h_)⟩))); (case aS => exact (below_size (bG_ GE819.out))); (case aL => have := LMc15.out; omega); intro v847 w18 ho hb hg hat; rw [← Ny846.out] at ho; replace BK819 := A_ (blk_grown (g := gb819) (o := .cells #[.slice A1_0 l1_0.length c1_0, .bool a1_1, .string a1_2, .int .i64 a1_3, .slice A1_4 l1_4.length c1_4] 59 (0, 0)) (vb_ BK819.out) hg (Kd.S_away HO_5.out (fun _ hk => hk.1.1))); replace HB := A_ (hb); have HO848 := A_ (ho); clear HO_5 HO839 HO845; clear ho hb hg hat)); try go_wp2_with (first | (go_at_call 78; (with_reducible refine (spec_l10Copy.calls _ _ l1_0 a1_1 a1_2 a1_3 _ _ l1_4 t837 t840 t841 t842 t843 _ ?s1 ?s2 ?s3 ?s4 A14.out).mono ?_); (case s1 => exact cC_ (Kd.C_below HR1_0.out HB.out)); (case s2 => exact HC1_0.out); (case s3 => exact cC_ (Kd.C_below HR1_4.out HB.out)); (case s4 => exact HC1_4.out); rintro e w17 ⟨v838, v844, rfl, ho0, ho1, hb⟩; replace HO_5 := A_ (Kd.S_mono (Kd.S_told (Kd.S_told (Kd.S_old (vS_ HO_5.out) hb) (kb_ ho0)) (kb_ ho1)) (fun _ h_ => h_.1)); have HO839 := A_ (Kd.R_lower ho0 (below_size (bG_ GE819.out))); have HO845 := A_ (Kd.R_lower ho1 (below_size (bG_ GE819.out))); replace BK819 := A_ (bw_ BK819.out hb); replace HB := A_ (below_step (bG_ GE819.out) hb); (try clear hb); (try clear ho0); (try clear ho1); obtain ⟨Ao19, co19, eo19⟩ := Kd.R_slice HO839.out; subst eo19; obtain ⟨Ao20, co20, eo20⟩ := Kd.R_slice HO845.out; subst eo20) | ((with_reducible refine gate_builtin (b := .append) (xs := #[.tmp 28, .tmp 31]) rfl ?_); at_builtin; refine Kd.S_append k59 (w0 := w) w.heap.size rfl (.tmp 28) (.tmp 31) 40 59 (.agg #[(.slice none 0 0), (.bool false), (.string ⟨#[]⟩), (.int .i64 0), (.slice none 0 0)]) 80 rfl Try.underlying40 info59 rfl (by decide) (by omega) u5 x5_1 (⟨t837, t840, t841, t842, t843⟩ : S59) [.slice Ao19 t837.length co19, .bool t840, .string t841, .int .i64 t842, .slice Ao20 t843.length co20] (fun k_ => k_ ≠ gb819) (fun k_ => some k_ = (.slice Ao19 t837.length co19 : Value).ownBlock ∨ some k_ = (.slice Ao20 t843.length co20 : Value).ownBlock) rfl rfl ?aP (fun k_ hk_ => hk_.elim (fun h_ => ((Kd.R_mono (ok' := fun k_ => ((fun k_ => k_ ≠ gb819)) k_ ∧ some k_ ≠ (u5 : Value).ownBlock) (Kd.R_types (Kd.R_apart' (HO839.out) (Kd.S_typed HO_5.out) (by decide)) BK819.out (by decide)) (fun k_ hk => ⟨hk.2, hk.1.2⟩))).1 k_ h_.symm) (fun h_ => ((Kd.R_mono (ok' := fun k_ => ((fun k_ => k_ ≠ gb819)) k_ ∧ some k_ ≠ (u5 : Value).ownBlock) (Kd.R_types (Kd.R_apart' (HO845.out) (Kd.S_typed HO_5.out) (by decide)) BK819.out (by decide)) (fun k_ hk => ⟨hk.2, hk.1.2⟩))).1 k_ h_.symm)) ?aF ?aO ?aB ?aS ?aL ?_; (case aP => exact k59_mkM _ _ _ (⟨t837, t840, t841, t842, t843⟩ : S59) (Kd.R_mono (Kd.R_tight rfl (Kd.R_mono (ok' := fun k_ => ((fun k_ => k_ ≠ gb819)) k_ ∧ some k_ ≠ (u5 : Value).ownBlock) (Kd.R_types (Kd.R_apart' (HO839.out) (Kd.S_typed HO_5.out) (by decide)) BK819.out (by decide)) (fun k_ hk => ⟨hk.2, hk.1.2⟩))) (fun _ h_ => Or.inl h_)) (Kd.R_mono (Kd.R_tight rfl (Kd.R_mono (ok' := fun k_ => ((fun k_ => k_ ≠ gb819)) k_ ∧ some k_ ≠ (u5 : Value).ownBlock) (Kd.R_types (Kd.R_apart' (HO845.out) (Kd.S_typed HO_5.out) (by decide)) BK819.out (by decide)) (fun k_ hk => ⟨hk.2, hk.1.2⟩))) (fun _ h_ => Or.inr (h_)))); (case aB => exact (bG_ GE819.out)); (case aF => exact (fun k_ hk => Kd.freshB (g := gb819) (o := .cells #[.slice A1_0 l1_0.length c1_0, .bool a1_1, .string a1_2, .int .i64 a1_3, .slice A1_4 l1_4.length c1_4] 59 (0, 0)) (vb_ BK819.out) k_ hk)); (case aO => exact (by (with_reducible repeat (first | apply Kd.S_alloc | apply Kd.S_drewN | apply Kd.S_drew)); exact Kd.S_mono HO_5.out (fun k_ hk => ⟨hk.1.1, fun e_ => e_.elim (fun h_ => hk.1.2 h_) (fun h_ => hk.2 h_)⟩))); (case aS => exact (below_size (bG_ GE819.out))); (case aL => have := LMc15.out; omega); intro v847 w18 ho hb hg hat; rw [← Ny846.out] at ho; replace BK819 := A_ (blk_grown (g := gb819) (o := .cells #[.slice A1_0 l1_0.length c1_0, .bool a1_1, .string a1_2, .int .i64 a1_3, .slice A1_4 l1_4.length c1_4] 59 (0, 0)) (vb_ BK819.out) hg (Kd.S_away HO_5.out (fun _ hk => hk.1.1))); replace HB := A_ (hb); have HO848 := A_ (ho); clear HO_5 HO839 HO845; clear ho hb hg hat)))
        go_meet
        case rel => exact ⟨_, (y846), (true), rs_, H', ⟨by have := HK1.out; have := HJ6.out; first | omega | exact Nat.le_refl _⟩, ⟨vS_ HO848.out⟩, ⟨vb_ BK819.out⟩, ⟨bG_ GE819.out⟩⟩
      · replace c13 := Bool.eq_false_iff.mpr c13
        subst c13
        rw [if_neg nf_] at H
        have H' := A_ H
        clear H
        go_wp2
        repeat (go_quiet (fail); try go_wp2)
        go_meet
        case rel => exact ⟨_, (x5_1), (x6_1), rs_, H', ⟨by have := HK1.out; have := HJ6.out; first | omega | exact Nat.le_refl _⟩, ⟨vS_ HO_5.out⟩, ⟨vb_ BK819.out⟩, ⟨bG_ GE819.out⟩⟩
     case rest =>
      clear HC12
      try clear c1
      try clear p2
      try clear c6
      try clear c6b0
      try clear c8
      try clear p8
      try clear q8
      try clear hx8
      try clear c9
      try clear c9b0
      try clear c12
      try clear c13
      try clear c15
      try clear hcz11_0
      try clear hcz11_1
      try clear hcz11_2
      try clear hcz11_3
      try clear hcz11_4
      try clear hcz16_0
      try clear hcz16_1
      try clear hcz16_2
      try clear hcz16_3
      try clear hcz16_4
      try clear hfz11_0
      try clear hfz11_1
      try clear hfz11_2
      try clear hfz11_3
      try clear hfz11_4
      try clear hfz16_0
      try clear hfz16_1
      try clear hfz16_2
      try clear hfz16_3
      try clear hfz16_4
      try clear hx835_0
      try clear hx835_1
      try clear hx835_2
      try clear hx835_3
      try clear hx835_4
      try clear p2
      try clear p8
      try clear p835
      try clear q8
      try clear q835
      obtain ⟨kq, x5_11, x6_11, rfl, HA, HJ11, HO_5, BK819, HB⟩ := hcut
      cases kq with
      | zero => exact absurd HA.out (by simp [spec_l11Put.j2])
      | succ kj11 =>
       have H := HA.out
       clear HA
       simp only [spec_l11Put.j2] at H
       by_cases c21 : 0 ≤ x7_1
       rotate_left
       · exact absurd H (by rw [if_neg c21]; simp)
       rw [if_pos c21] at H
       have c21b0 : decide (0 ≤ x7_1) = true := decide_eq_true c21
       clear c21
       by_cases c22 : x7_1 < (l0.length : Int)
       rotate_left
       · exact absurd H (by rw [if_neg c22]; simp)
       rw [if_pos c22] at H
       have c22b0 : decide (x7_1 < (l0.length : Int)) = true := decide_eq_true c22
       clear c22
       obtain ⟨t850, A23, H⟩ := bo_ H
       (try dsimp only at H)
       by_cases c24 : t850 = true
       · subst c24
         rw [if_pos rfl] at H
         have H' := A_ H
         clear H
         have p849 : 0 ≤ (x7_1 : Int) := od_
         have q849 : x7_1 < (l0.length : Int) := od_
         obtain ⟨ad849, A849_0, c849_0, A849_4, c849_4, e849, hx849_0, hx849_1, hx849_2, hx849_3, hx849_4, hl849_0, hi849_0, hl849_4, hi849_4⟩ := at_T59 HR0.out x7_1 p849 q849
         cases e849
         replace hx849_0 := bc_ HB.out hx849_0
         replace hx849_1 := bc_ HB.out hx849_1
         replace hx849_2 := bc_ HB.out hx849_2
         replace hx849_3 := bc_ HB.out hx849_3
         replace hx849_4 := bc_ HB.out hx849_4
         have HR849_0 := A_ hi849_0
         have HC849_0 := A_ hl849_0
         clear hi849_0 hl849_0
         have HR849_4 := A_ hi849_4
         have HC849_4 := A_ hl849_4
         clear hi849_4 hl849_4
         replace p849 := eq_true p849
         replace q849 := eq_true q849
         have hcz25_0 : wc.cell? ⟨gb819, 0, none⟩ = some (.slice A1_0 l1_0.length c1_0) := bl_ BK819.out 0
         have hcz25_1 : wc.cell? ⟨gb819, 1, none⟩ = some (.bool a1_1) := bl_ BK819.out 1
         have hcz25_2 : wc.cell? ⟨gb819, 2, none⟩ = some (.string a1_2) := bl_ BK819.out 2
         have hcz25_3 : wc.cell? ⟨gb819, 3, none⟩ = some (.int .i64 a1_3) := bl_ BK819.out 3
         have hcz25_4 : wc.cell? ⟨gb819, 4, none⟩ = some (.slice A1_4 l1_4.length c1_4) := bl_ BK819.out 4
         have hfz25_0 := blk_frozen BK819.out 0
         have hfz25_1 := blk_frozen BK819.out 1
         have hfz25_2 := blk_frozen BK819.out 2
         have hfz25_3 := blk_frozen BK819.out 3
         have hfz25_4 := blk_frozen BK819.out 4
         go_wp2_with (first | (go_at_call 74; (with_reducible refine (spec_SamePath.calls kj11 _ _ ((rd_T59 l0 x7_1).f0) _ _ l1_0 true _ ?s1 ?s2 ?s3 ?s4 A23.out).mono ?_); (case s1 => exact cC_ (Kd.C_below HR849_0.out HB.out)); (case s2 => exact HC849_0.out); (case s3 => exact cC_ (Kd.C_below HR1_0.out HB.out)); (case s4 => exact HC1_0.out); rintro e w' ⟨rfl, ⟨nd, rfl⟩⟩; (try first | exact ⟨rfl, _, World.drewN_drewN _ _ _⟩ | exact ⟨rfl, _, Eq.trans (World.drewN_drewN _ _ _) (congrArg (World.drewN _) (Nat.add_assoc _ _ _))⟩)))
         repeat (go_quiet (first | (go_at_call 74; (with_reducible refine (spec_SamePath.calls kj11 _ _ ((rd_T59 l0 x7_1).f0) _ _ l1_0 true _ ?s1 ?s2 ?s3 ?s4 A23.out).mono ?_); (case s1 => exact cC_ (Kd.C_below HR849_0.out HB.out)); (case s2 => exact HC849_0.out); (case s3 => exact cC_ (Kd.C_below HR1_0.out HB.out)); (case s4 => exact HC1_0.out); rintro e w' ⟨rfl, ⟨nd, rfl⟩⟩; (try first | exact ⟨rfl, _, World.drewN_drewN _ _ _⟩ | exact ⟨rfl, _, Eq.trans (World.drewN_drewN _ _ _) (congrArg (World.drewN _) (Nat.add_assoc _ _ _))⟩))); try go_wp2_with (first | (go_at_call 74; (with_reducible refine (spec_SamePath.calls kj11 _ _ ((rd_T59 l0 x7_1).f0) _ _ l1_0 true _ ?s1 ?s2 ?s3 ?s4 A23.out).mono ?_); (case s1 => exact cC_ (Kd.C_below HR849_0.out HB.out)); (case s2 => exact HC849_0.out); (case s3 => exact cC_ (Kd.C_below HR1_0.out HB.out)); (case s4 => exact HC1_0.out); rintro e w' ⟨rfl, ⟨nd, rfl⟩⟩; (try first | exact ⟨rfl, _, World.drewN_drewN _ _ _⟩ | exact ⟨rfl, _, Eq.trans (World.drewN_drewN _ _ _) (congrArg (World.drewN _) (Nat.add_assoc _ _ _))⟩))))
         go_roundg kj11
         case measure => have := HK1.out; have := HJ6.out; have := HJ11.out; omega
         case rel => exact ⟨(x5_11), (x6_11), (wrap64 (x7_1 + 1)), rs_, rs_, H', ⟨by have := HK1.out; have := HJ6.out; have := HJ11.out; omega⟩, ⟨vS_ HO_5.out⟩, ⟨vb_ BK819.out⟩, ⟨bG_ GE819.out⟩⟩
       · replace c24 := Bool.eq_false_iff.mpr c24
         subst c24
         rw [if_neg nf_] at H
         obtain ⟨⟨t852, t855, t856, t857, t858⟩, A26, H⟩ := bo_ H
         (try dsimp only at H)
         by_cases c27 : x5_11.length < 1759218604441
         rotate_left
         · exact absurd H (by rw [if_neg c27]; simp)
         rw [if_pos c27] at H
         have LMc27 := A_ c27
         clear c27
         obtain ⟨y861, hy861⟩ : ∃ y_ : List (S59), y_ = (x5_11 ++ [(⟨t852, t855, t856, t857, t858⟩ : S59)]) := ⟨_, rfl⟩
         replace H : (spec_l11Put.l0 kj11 l0 y861 x6_11 (wrap64 (x7_1 + 1)) l1_0 a1_1 a1_2 a1_3 l1_4) = some r := hy_ hy861 H
         have Ny861 := A_ hy861
         clear hy861
         have H' := A_ H
         clear H
         have p849 : 0 ≤ (x7_1 : Int) := od_
         have q849 : x7_1 < (l0.length : Int) := od_
         obtain ⟨ad849, A849_0, c849_0, A849_4, c849_4, e849, hx849_0, hx849_1, hx849_2, hx849_3, hx849_4, hl849_0, hi849_0, hl849_4, hi849_4⟩ := at_T59 HR0.out x7_1 p849 q849
         cases e849
         replace hx849_0 := bc_ HB.out hx849_0
         replace hx849_1 := bc_ HB.out hx849_1
         replace hx849_2 := bc_ HB.out hx849_2
         replace hx849_3 := bc_ HB.out hx849_3
         replace hx849_4 := bc_ HB.out hx849_4
         have HR849_0 := A_ hi849_0
         have HC849_0 := A_ hl849_0
         clear hi849_0 hl849_0
         have HR849_4 := A_ hi849_4
         have HC849_4 := A_ hl849_4
         clear hi849_4 hl849_4
         replace p849 := eq_true p849
         replace q849 := eq_true q849
         have hcz28_0 : wc.cell? ⟨gb819, 0, none⟩ = some (.slice A1_0 l1_0.length c1_0) := bl_ BK819.out 0
         have hcz28_1 : wc.cell? ⟨gb819, 1, none⟩ = some (.bool a1_1) := bl_ BK819.out 1
         have hcz28_2 : wc.cell? ⟨gb819, 2, none⟩ = some (.string a1_2) := bl_ BK819.out 2
         have hcz28_3 : wc.cell? ⟨gb819, 3, none⟩ = some (.int .i64 a1_3) := bl_ BK819.out 3
         have hcz28_4 : wc.cell? ⟨gb819, 4, none⟩ = some (.slice A1_4 l1_4.length c1_4) := bl_ BK819.out 4
         have hfz28_0 := blk_frozen BK819.out 0
         have hfz28_1 := blk_frozen BK819.out 1
         have hfz28_2 := blk_frozen BK819.out 2
         have hfz28_3 := blk_frozen BK819.out 3
         have hfz28_4 := blk_frozen BK819.out 4
         go_wp2_with (first | (go_at_call 74; (with_reducible refine (spec_SamePath.calls kj11 _ _ ((rd_T59 l0 x7_1).f0) _ _ l1_0 false _ ?s1 ?s2 ?s3 ?s4 A23.out).mono ?_); (case s1 => exact cC_ (Kd.C_below HR849_0.out HB.out)); (case s2 => exact HC849_0.out); (case s3 => exact cC_ (Kd.C_below HR1_0.out HB.out)); (case s4 => exact HC1_0.out); rintro e w' ⟨rfl, ⟨nd, rfl⟩⟩; (try first | exact ⟨rfl, _, World.drewN_drewN _ _ _⟩ | exact ⟨rfl, _, Eq.trans (World.drewN_drewN _ _ _) (congrArg (World.drewN _) (Nat.add_assoc _ _ _))⟩); have p851 : 0 ≤ (x7_1 : Int) := od_; have q851 : x7_1 < (l0.length : Int) := od_; obtain ⟨ad851, A851_0, c851_0, A851_4, c851_4, e851, hx851_0, hx851_1, hx851_2, hx851_3, hx851_4, hl851_0, hi851_0, hl851_4, hi851_4⟩ := at_T59 HR0.out x7_1 p851 q851; obtain rfl : ad849 = ad851 := (by injection e851); replace hx851_0 := bc_ HB.out hx851_0; replace hx851_1 := bc_ HB.out hx851_1; replace hx851_2 := bc_ HB.out hx851_2; replace hx851_3 := bc_ HB.out hx851_3; replace hx851_4 := bc_ HB.out hx851_4; have HR851_0 := A_ hi851_0; have HC851_0 := A_ hl851_0; clear hi851_0 hl851_0; have HR851_4 := A_ hi851_4; have HC851_4 := A_ hl851_4; clear hi851_4 hl851_4; replace p851 := eq_true p851; replace q851 := eq_true q851; have ea_ := Option.some.inj (hx849_0.symm.trans hx851_0); injection ea_ with ea_ en_ ec_; subst ea_; subst ec_; clear en_; have ea_ := Option.some.inj (hx849_4.symm.trans hx851_4); injection ea_ with ea_ en_ ec_; subst ea_; subst ec_; clear en_) | (go_at_call 78; (with_reducible refine (spec_l10Copy.calls _ _ ((rd_T59 l0 x7_1).f0) ((rd_T59 l0 x7_1).f1) ((rd_T59 l0 x7_1).f2) ((rd_T59 l0 x7_1).f3) _ _ ((rd_T59 l0 x7_1).f4) t852 t855 t856 t857 t858 _ ?s1 ?s2 ?s3 ?s4 A26.out).mono ?_); (case s1 => exact cC_ (Kd.C_below HR851_0.out (bG_ GE819.out))); (case s2 => exact HC851_0.out); (case s3 => exact cC_ (Kd.C_below HR851_4.out (bG_ GE819.out))); (case s4 => exact HC851_4.out); rintro e w29 ⟨v853, v859, rfl, ho0, ho1, hb⟩; replace HO_5 := A_ (Kd.S_mono (Kd.S_told (Kd.S_told (Kd.S_old (vS_ HO_5.out) hb) (kb_ ho0)) (kb_ ho1)) (fun _ h_ => h_.1)); have HO854 := A_ (Kd.R_lower ho0 (below_size (bG_ GE819.out))); have HO860 := A_ (Kd.R_lower ho1 (below_size (bG_ GE819.out))); replace BK819 := A_ (bw_ BK819.out hb); replace HB := A_ (below_step (bG_ GE819.out) hb); (try clear hb); (try clear ho0); (try clear ho1); obtain ⟨Ao31, co31, eo31⟩ := Kd.R_slice HO854.out; subst eo31; obtain ⟨Ao32, co32, eo32⟩ := Kd.R_slice HO860.out; subst eo32) | ((with_reducible refine gate_builtin (b := .append) (xs := #[.tmp 42, .tmp 48]) rfl ?_); at_builtin; refine Kd.S_append k59 (w0 := w) w.heap.size rfl (.tmp 42) (.tmp 48) 40 59 (.agg #[(.slice none 0 0), (.bool false), (.string ⟨#[]⟩), (.int .i64 0), (.slice none 0 0)]) 80 rfl Try.underlying40 info59 rfl (by decide) (by omega) u5 x5_11 (⟨t852, t855, t856, t857, t858⟩ : S59) [.slice Ao31 t852.length co31, .bool t855, .string t856, .int .i64 t857, .slice Ao32 t858.length co32] (fun k_ => k_ ≠ gb819) (fun k_ => some k_ = (.slice Ao31 t852.length co31 : Value).ownBlock ∨ some k_ = (.slice Ao32 t858.length co32 : Value).ownBlock) rfl rfl ?aP (fun k_ hk_ => hk_.elim (fun h_ => ((Kd.R_mono (ok' := fun k_ => ((fun k_ => k_ ≠ gb819)) k_ ∧ some k_ ≠ (u5 : Value).ownBlock) (Kd.R_types (Kd.R_apart' (HO854.out) (Kd.S_typed HO_5.out) (by decide)) BK819.out (by decide)) (fun k_ hk => ⟨hk.2, hk.1.2⟩))).1 k_ h_.symm) (fun h_ => ((Kd.R_mono (ok' := fun k_ => ((fun k_ => k_ ≠ gb819)) k_ ∧ some k_ ≠ (u5 : Value).ownBlock) (Kd.R_types (Kd.R_apart' (HO860.out) (Kd.S_typed HO_5.out) (by decide)) BK819.out (by decide)) (fun k_ hk => ⟨hk.2, hk.1.2⟩))).1 k_ h_.symm)) ?aF ?aO ?aB ?aS ?aL ?_; (case aP => exact k59_mkM _ _ _ (⟨t852, t855, t856, t857, t858⟩ : S59) (Kd.R_mono (Kd.R_tight rfl (Kd.R_mono (ok' := fun k_ => ((fun k_ => k_ ≠ gb819)) k_ ∧ some k_ ≠ (u5 : Value).ownBlock) (Kd.R_types (Kd.R_apart' (HO854.out) (Kd.S_typed HO_5.out) (by decide)) BK819.out (by decide)) (fun k_ hk => ⟨hk.2, hk.1.2⟩))) (fun _ h_ => Or.inl h_)) (Kd.R_mono (Kd.R_tight rfl (Kd.R_mono (ok' := fun k_ => ((fun k_ => k_ ≠ gb819)) k_ ∧ some k_ ≠ (u5 : Value).ownBlock) (Kd.R_types (Kd.R_apart' (HO860.out) (Kd.S_typed HO_5.out) (by decide)) BK819.out (by decide)) (fun k_ hk => ⟨hk.2, hk.1.2⟩))) (fun _ h_ => Or.inr (h_)))); (case aB => exact (bG_ GE819.out)); (case aF => exact (fun k_ hk => Kd.freshB (g := gb819) (o := .cells #[.slice A1_0 l1_0.length c1_0, .bool a1_1, .string a1_2, .int .i64 a1_3, .slice A1_4 l1_4.length c1_4] 59 (0, 0)) (vb_ BK819.out) k_ hk)); (case aO => exact (by (with_reducible repeat (first | apply Kd.S_alloc | apply Kd.S_drewN | apply Kd.S_drew)); exact Kd.S_mono HO_5.out (fun k_ hk => ⟨hk.1.1, fun e_ => e_.elim (fun h_ => hk.1.2 h_) (fun h_ => hk.2 h_)⟩))); (case aS => exact (below_size (bG_ GE819.out))); (case aL => have := LMc27.out; omega); intro v862 w30 ho hb hg hat; rw [← Ny861.out] at ho; replace BK819 := A_ (blk_grown (g := gb819) (o := .cells #[.slice A1_0 l1_0.length c1_0, .bool a1_1, .string a1_2, .int .i64 a1_3, .slice A1_4 l1_4.length c1_4] 59 (0, 0)) (vb_ BK819.out) hg (Kd.S_away HO_5.out (fun _ hk => hk.1.1))); replace HB := A_ (hb); have HO863 := A_ (ho); clear HO_5 HO854 HO860; clear ho hb hg hat))
         repeat (go_quiet (first | (go_at_call 74; (with_reducible refine (spec_SamePath.calls kj11 _ _ ((rd_T59 l0 x7_1).f0) _ _ l1_0 false _ ?s1 ?s2 ?s3 ?s4 A23.out).mono ?_); (case s1 => exact cC_ (Kd.C_below HR849_0.out HB.out)); (case s2 => exact HC849_0.out); (case s3 => exact cC_ (Kd.C_below HR1_0.out HB.out)); (case s4 => exact HC1_0.out); rintro e w' ⟨rfl, ⟨nd, rfl⟩⟩; (try first | exact ⟨rfl, _, World.drewN_drewN _ _ _⟩ | exact ⟨rfl, _, Eq.trans (World.drewN_drewN _ _ _) (congrArg (World.drewN _) (Nat.add_assoc _ _ _))⟩); have p851 : 0 ≤ (x7_1 : Int) := od_; have q851 : x7_1 < (l0.length : Int) := od_; obtain ⟨ad851, A851_0, c851_0, A851_4, c851_4, e851, hx851_0, hx851_1, hx851_2, hx851_3, hx851_4, hl851_0, hi851_0, hl851_4, hi851_4⟩ := at_T59 HR0.out x7_1 p851 q851; obtain rfl : ad849 = ad851 := (by injection e851); replace hx851_0 := bc_ HB.out hx851_0; replace hx851_1 := bc_ HB.out hx851_1; replace hx851_2 := bc_ HB.out hx851_2; replace hx851_3 := bc_ HB.out hx851_3; replace hx851_4 := bc_ HB.out hx851_4; have HR851_0 := A_ hi851_0; have HC851_0 := A_ hl851_0; clear hi851_0 hl851_0; have HR851_4 := A_ hi851_4; have HC851_4 := A_ hl851_4; clear hi851_4 hl851_4; replace p851 := eq_true p851; replace q851 := eq_true q851; have ea_ := Option.some.inj (hx849_0.symm.trans hx851_0); injection ea_ with ea_ en_ ec_; subst ea_; subst ec_; clear en_; have ea_ := Option.some.inj (hx849_4.symm.trans hx851_4); injection ea_ with ea_ en_ ec_; subst ea_; subst ec_; clear en_) | (go_at_call 78; (with_reducible refine (spec_l10Copy.calls _ _ ((rd_T59 l0 x7_1).f0) ((rd_T59 l0 x7_1).f1) ((rd_T59 l0 x7_1).f2) ((rd_T59 l0 x7_1).f3) _ _ ((rd_T59 l0 x7_1).f4) t852 t855 t856 t857 t858 _ ?s1 ?s2 ?s3 ?s4 A26.out).mono ?_); (case s1 => exact cC_ (Kd.C_below HR851_0.out (bG_ GE819.out))); (case s2 => exact HC851_0.out); (case s3 => exact cC_ (Kd.C_below HR851_4.out (bG_ GE819.out))); (case s4 => exact HC851_4.out); rintro e w29 ⟨v853, v859, rfl, ho0, ho1, hb⟩; replace HO_5 := A_ (Kd.S_mono (Kd.S_told (Kd.S_told (Kd.S_old (vS_ HO_5.out) hb) (kb_ ho0)) (kb_ ho1)) (fun _ h_ => h_.1)); have HO854 := A_ (Kd.R_lower ho0 (below_size (bG_ GE819.out))); have HO860 := A_ (Kd.R_lower ho1 (below_size (bG_ GE819.out))); replace BK819 := A_ (bw_ BK819.out hb); replace HB := A_ (below_step (bG_ GE819.out) hb); (try clear hb); (try clear ho0); (try clear ho1); obtain ⟨Ao31, co31, eo31⟩ := Kd.R_slice HO854.out; subst eo31; obtain ⟨Ao32, co32, eo32⟩ := Kd.R_slice HO860.out; subst eo32) | ((with_reducible refine gate_builtin (b := .append) (xs := #[.tmp 42, .tmp 48]) rfl ?_); at_builtin; refine Kd.S_append k59 (w0 := w) w.heap.size rfl (.tmp 42) (.tmp 48) 40 59 (.agg #[(.slice none 0 0), (.bool false), (.string ⟨#[]⟩), (.int .i64 0), (.slice none 0 0)]) 80 rfl Try.underlying40 info59 rfl (by decide) (by omega) u5 x5_11 (⟨t852, t855, t856, t857, t858⟩ : S59) [.slice Ao31 t852.length co31, .bool t855, .string t856, .int .i64 t857, .slice Ao32 t858.length co32] (fun k_ => k_ ≠ gb819) (fun k_ => some k_ = (.slice Ao31 t852.length co31 : Value).ownBlock ∨ some k_ = (.slice Ao32 t858.length co32 : Value).ownBlock) rfl rfl ?aP (fun k_ hk_ => hk_.elim (fun h_ => ((Kd.R_mono (ok' := fun k_ => ((fun k_ => k_ ≠ gb819)) k_ ∧ some k_ ≠ (u5 : Value).ownBlock) (Kd.R_types (Kd.R_apart' (HO854.out) (Kd.S_typed HO_5.out) (by decide)) BK819.out (by decide)) (fun k_ hk => ⟨hk.2, hk.1.2⟩))).1 k_ h_.symm) (fun h_ => ((Kd.R_mono (ok' := fun k_ => ((fun k_ => k_ ≠ gb819)) k_ ∧ some k_ ≠ (u5 : Value).ownBlock) (Kd.R_types (Kd.R_apart' (HO860.out) (Kd.S_typed HO_5.out) (by decide)) BK819.out (by decide)) (fun k_ hk => ⟨hk.2, hk.1.2⟩))).1 k_ h_.symm)) ?aF ?aO ?aB ?aS ?aL ?_; (case aP => exact k59_mkM _ _ _ (⟨t852, t855, t856, t857, t858⟩ : S59) (Kd.R_mono (Kd.R_tight rfl (Kd.R_mono (ok' := fun k_ => ((fun k_ => k_ ≠ gb819)) k_ ∧ some k_ ≠ (u5 : Value).ownBlock) (Kd.R_types (Kd.R_apart' (HO854.out) (Kd.S_typed HO_5.out) (by decide)) BK819.out (by decide)) (fun k_ hk => ⟨hk.2, hk.1.2⟩))) (fun _ h_ => Or.inl h_)) (Kd.R_mono (Kd.R_tight rfl (Kd.R_mono (ok' := fun k_ => ((fun k_ => k_ ≠ gb819)) k_ ∧ some k_ ≠ (u5 : Value).ownBlock) (Kd.R_types (Kd.R_apart' (HO860.out) (Kd.S_typed HO_5.out) (by decide)) BK819.out (by decide)) (fun k_ hk => ⟨hk.2, hk.1.2⟩))) (fun _ h_ => Or.inr (h_)))); (case aB => exact (bG_ GE819.out)); (case aF => exact (fun k_ hk => Kd.freshB (g := gb819) (o := .cells #[.slice A1_0 l1_0.length c1_0, .bool a1_1, .string a1_2, .int .i64 a1_3, .slice A1_4 l1_4.length c1_4] 59 (0, 0)) (vb_ BK819.out) k_ hk)); (case aO => exact (by (with_reducible repeat (first | apply Kd.S_alloc | apply Kd.S_drewN | apply Kd.S_drew)); exact Kd.S_mono HO_5.out (fun k_ hk => ⟨hk.1.1, fun e_ => e_.elim (fun h_ => hk.1.2 h_) (fun h_ => hk.2 h_)⟩))); (case aS => exact (below_size (bG_ GE819.out))); (case aL => have := LMc27.out; omega); intro v862 w30 ho hb hg hat; rw [← Ny861.out] at ho; replace BK819 := A_ (blk_grown (g := gb819) (o := .cells #[.slice A1_0 l1_0.length c1_0, .bool a1_1, .string a1_2, .int .i64 a1_3, .slice A1_4 l1_4.length c1_4] 59 (0, 0)) (vb_ BK819.out) hg (Kd.S_away HO_5.out (fun _ hk => hk.1.1))); replace HB := A_ (hb); have HO863 := A_ (ho); clear HO_5 HO854 HO860; clear ho hb hg hat)); try go_wp2_with (first | (go_at_call 74; (with_reducible refine (spec_SamePath.calls kj11 _ _ ((rd_T59 l0 x7_1).f0) _ _ l1_0 false _ ?s1 ?s2 ?s3 ?s4 A23.out).mono ?_); (case s1 => exact cC_ (Kd.C_below HR849_0.out HB.out)); (case s2 => exact HC849_0.out); (case s3 => exact cC_ (Kd.C_below HR1_0.out HB.out)); (case s4 => exact HC1_0.out); rintro e w' ⟨rfl, ⟨nd, rfl⟩⟩; (try first | exact ⟨rfl, _, World.drewN_drewN _ _ _⟩ | exact ⟨rfl, _, Eq.trans (World.drewN_drewN _ _ _) (congrArg (World.drewN _) (Nat.add_assoc _ _ _))⟩); have p851 : 0 ≤ (x7_1 : Int) := od_; have q851 : x7_1 < (l0.length : Int) := od_; obtain ⟨ad851, A851_0, c851_0, A851_4, c851_4, e851, hx851_0, hx851_1, hx851_2, hx851_3, hx851_4, hl851_0, hi851_0, hl851_4, hi851_4⟩ := at_T59 HR0.out x7_1 p851 q851; obtain rfl : ad849 = ad851 := (by injection e851); replace hx851_0 := bc_ HB.out hx851_0; replace hx851_1 := bc_ HB.out hx851_1; replace hx851_2 := bc_ HB.out hx851_2; replace hx851_3 := bc_ HB.out hx851_3; replace hx851_4 := bc_ HB.out hx851_4; have HR851_0 := A_ hi851_0; have HC851_0 := A_ hl851_0; clear hi851_0 hl851_0; have HR851_4 := A_ hi851_4; have HC851_4 := A_ hl851_4; clear hi851_4 hl851_4; replace p851 := eq_true p851; replace q851 := eq_true q851; have ea_ := Option.some.inj (hx849_0.symm.trans hx851_0); injection ea_ with ea_ en_ ec_; subst ea_; subst ec_; clear en_; have ea_ := Option.some.inj (hx849_4.symm.trans hx851_4); injection ea_ with ea_ en_ ec_; subst ea_; subst ec_; clear en_) | (go_at_call 78; (with_reducible refine (spec_l10Copy.calls _ _ ((rd_T59 l0 x7_1).f0) ((rd_T59 l0 x7_1).f1) ((rd_T59 l0 x7_1).f2) ((rd_T59 l0 x7_1).f3) _ _ ((rd_T59 l0 x7_1).f4) t852 t855 t856 t857 t858 _ ?s1 ?s2 ?s3 ?s4 A26.out).mono ?_); (case s1 => exact cC_ (Kd.C_below HR851_0.out (bG_ GE819.out))); (case s2 => exact HC851_0.out); (case s3 => exact cC_ (Kd.C_below HR851_4.out (bG_ GE819.out))); (case s4 => exact HC851_4.out); rintro e w29 ⟨v853, v859, rfl, ho0, ho1, hb⟩; replace HO_5 := A_ (Kd.S_mono (Kd.S_told (Kd.S_told (Kd.S_old (vS_ HO_5.out) hb) (kb_ ho0)) (kb_ ho1)) (fun _ h_ => h_.1)); have HO854 := A_ (Kd.R_lower ho0 (below_size (bG_ GE819.out))); have HO860 := A_ (Kd.R_lower ho1 (below_size (bG_ GE819.out))); replace BK819 := A_ (bw_ BK819.out hb); replace HB := A_ (below_step (bG_ GE819.out) hb); (try clear hb); (try clear ho0); (try clear ho1); obtain ⟨Ao31, co31, eo31⟩ := Kd.R_slice HO854.out; subst eo31; obtain ⟨Ao32, co32, eo32⟩ := Kd.R_slice HO860.out; subst eo32) | ((with_reducible refine gate_builtin (b := .append) (xs := #[.tmp 42, .tmp 48]) rfl ?_); at_builtin; refine Kd.S_append k59 (w0 := w) w.heap.size rfl (.tmp 42) (.tmp 48) 40 59 (.agg #[(.slice none 0 0), (.bool false), (.string ⟨#[]⟩), (.int .i64 0), (.slice none 0 0)]) 80 rfl Try.underlying40 info59 rfl (by decide) (by omega) u5 x5_11 (⟨t852, t855, t856, t857, t858⟩ : S59) [.slice Ao31 t852.length co31, .bool t855, .string t856, .int .i64 t857, .slice Ao32 t858.length co32] (fun k_ => k_ ≠ gb819) (fun k_ => some k_ = (.slice Ao31 t852.length co31 : Value).ownBlock ∨ some k_ = (.slice Ao32 t858.length co32 : Value).ownBlock) rfl rfl ?aP (fun k_ hk_ => hk_.elim (fun h_ => ((Kd.R_mono (ok' := fun k_ => ((fun k_ => k_ ≠ gb819)) k_ ∧ some k_ ≠ (u5 : Value).ownBlock) (Kd.R_types (Kd.R_apart' (HO854.out) (Kd.S_typed HO_5.out) (by decide)) BK819.out (by decide)) (fun k_ hk => ⟨hk.2, hk.1.2⟩))).1 k_ h_.symm) (fun h_ => ((Kd.R_mono (ok' := fun k_ => ((fun k_ => k_ ≠ gb819)) k_ ∧ some k_ ≠ (u5 : Value).ownBlock) (Kd.R_types (Kd.R_apart' (HO860.out) (Kd.S_typed HO_5.out) (by decide)) BK819.out (by decide)) (fun k_ hk => ⟨hk.2, hk.1.2⟩))).1 k_ h_.symm)) ?aF ?aO ?aB ?aS ?aL ?_; (case aP => exact k59_mkM _ _ _ (⟨t852, t855, t856, t857, t858⟩ : S59) (Kd.R_mono (Kd.R_tight rfl (Kd.R_mono (ok' := fun k_ => ((fun k_ => k_ ≠ gb819)) k_ ∧ some k_ ≠ (u5 : Value).ownBlock) (Kd.R_types (Kd.R_apart' (HO854.out) (Kd.S_typed HO_5.out) (by decide)) BK819.out (by decide)) (fun k_ hk => ⟨hk.2, hk.1.2⟩))) (fun _ h_ => Or.inl h_)) (Kd.R_mono (Kd.R_tight rfl (Kd.R_mono (ok' := fun k_ => ((fun k_ => k_ ≠ gb819)) k_ ∧ some k_ ≠ (u5 : Value).ownBlock) (Kd.R_types (Kd.R_apart' (HO860.out) (Kd.S_typed HO_5.out) (by decide)) BK819.out (by decide)) (fun k_ hk => ⟨hk.2, hk.1.2⟩))) (fun _ h_ => Or.inr (h_)))); (case aB => exact (bG_ GE819.out)); (case aF => exact (fun k_ hk => Kd.freshB (g := gb819) (o := .cells #[.slice A1_0 l1_0.length c1_0, .bool a1_1, .string a1_2, .int .i64 a1_3, .slice A1_4 l1_4.length c1_4] 59 (0, 0)) (vb_ BK819.out) k_ hk)); (case aO => exact (by (with_reducible repeat (first | apply Kd.S_alloc | apply Kd.S_drewN | apply Kd.S_drew)); exact Kd.S_mono HO_5.out (fun k_ hk => ⟨hk.1.1, fun e_ => e_.elim (fun h_ => hk.1.2 h_) (fun h_ => hk.2 h_)⟩))); (case aS => exact (below_size (bG_ GE819.out))); (case aL => have := LMc27.out; omega); intro v862 w30 ho hb hg hat; rw [← Ny861.out] at ho; replace BK819 := A_ (blk_grown (g := gb819) (o := .cells #[.slice A1_0 l1_0.length c1_0, .bool a1_1, .string a1_2, .int .i64 a1_3, .slice A1_4 l1_4.length c1_4] 59 (0, 0)) (vb_ BK819.out) hg (Kd.S_away HO_5.out (fun _ hk => hk.1.1))); replace HB := A_ (hb); have HO863 := A_ (ho); clear HO_5 HO854 HO860; clear ho hb hg hat)))
         go_roundg kj11
         case measure => have := HK1.out; have := HJ6.out; have := HJ11.out; omega
         case rel => exact ⟨(y861), (x6_11), (wrap64 (x7_1 + 1)), rs_, rs_, H', ⟨by have := HK1.out; have := HJ6.out; have := HJ11.out; omega⟩, ⟨vS_ HO863.out⟩, ⟨vb_ BK819.out⟩, ⟨bG_ GE819.out⟩⟩
mutual
def spec_MakeColl.j1 : Nat → List (S59) → List ByteArray → Int → Int → Option ((List (S59)) × Int)
 | 0, _, _, _, _ => none
 | k + 1, x0, x1, x2, x8 => if x8 = 0 then ((spec_l11Put.f k x0 x1 true (⟨#[]⟩ : ByteArray) x2 ([] : List (S71))).bind fun t870 => (some (t870, 201))) else ((spec_l10CopyAll.f k x0).bind fun t873 => (some (t873, x8)))
def spec_MakeColl.j0 : Nat → List (S59) → List ByteArray → Int → Int → Bool → Option ((List (S59)) × Int)
 | 0, _, _, _, _, _ => none
 | k + 1, x0, x1, x2, x8, x16 => if x16 = true then (spec_MakeColl.j1 k x0 x1 x2 405) else ((spec_Above.f x1).bind fun t866 => ((spec_IsColl.f k x0 t866).bind fun t869 => (if t869 = true then (if (x0.length : Int) ≥ 12 then (spec_MakeColl.j1 k x0 x1 x2 507) else (spec_MakeColl.j1 k x0 x1 x2 x8)) else (spec_MakeColl.j1 k x0 x1 x2 409))))
end
def spec_MakeColl.f (k : Nat) (l0 : List (S59)) (l1 : List ByteArray) (a2 : Int) : Option ((List (S59)) × Int) := (spec_l11May.f k l0 l1 a2).bind fun t864 => (if t864 = 0 then (if (l1.length : Int) = 0 then (spec_MakeColl.j0 k l0 l1 a2 t864 true) else ((spec_FindRes.f k l0 l1).bind fun t865 => (spec_MakeColl.j0 k l0 l1 a2 t864 (decide (t865 ≥ 0))))) else (spec_MakeColl.j1 k l0 l1 a2 t864))
theorem spec_MakeColl.calls (k : Nat) (P0_ : Nat → Prop) (A0 : Option Addr) (c0 : Nat) (l0 : List (S59)) (P1_ : Nat → Prop) (A1 : Option Addr) (c1 : Nat) (l1 : List ByteArray) (a2 : Int) (r1 : List (S59)) (r2 : Int) (w : World) (hs0 : Kd.V k59 59 w w.heap.size (fun k_ => P0_ k_) (.slice A0 l0.length c0) l0) (hs1 : Kd.V Kd.string 9 w w.heap.size (fun k_ => P1_ k_) (.slice A1 l1.length c1) l1) (h : spec_MakeColl.f k l0 l1 a2 = some (r1, r2)) :
 Calls Try.prog 103 #[.slice A0 l0.length c0, .slice A1 l1.length c1, .int .i64 a2] w fun e w' => ∃ v0_ : Value, e = .returned (.tuple #[v0_, .int .i64 r2]) ∧ Kd.S k59 59 w' w.heap.size (fun k_ => (w.heap.size ≤ k_)) v0_ r1 ∧ Below w.heap.size w w' := by
 have hu59 := Try.underlying59
 have HO0 := A_ (show Kd.V k59 59 w w.heap.size (fun k_ => ((P0_ k_ ∨ P1_ k_) ∨ w.heap.size ≤ k_)) (.slice A0 l0.length c0) l0 from Kd.V_mono hs0 (fun k_ hk => .inl (.inl hk)))
 have HO1 := A_ (show Kd.V Kd.string 9 w w.heap.size (fun k_ => ((P0_ k_ ∨ P1_ k_) ∨ w.heap.size ≤ k_)) (.slice A1 l1.length c1) l1 from Kd.V_mono hs1 (fun k_ hk => .inl (.inr hk)))
 have HB := A_ (Below.refl w.heap.size w)
 have H : ((spec_l11May.f k l0 l1 a2).bind fun t864 => (if t864 = 0 then (if (l1.length : Int) = 0 then (spec_MakeColl.j0 k l0 l1 a2 t864 true) else ((spec_FindRes.f k l0 l1).bind fun t865 => (spec_MakeColl.j0 k l0 l1 a2 t864 (decide (t865 ≥ 0))))) else (spec_MakeColl.j1 k l0 l1 a2 t864))) = some (r1, r2) := h
 clear h
 obtain ⟨t864, A4, H⟩ := bo_ H
 (try dsimp only at H)
 have HC5 := A_ H
 clear H
 go_enter Try.func103, Try.ntmps103
 go_upto_block 0 with (first | ((with_reducible refine gc_ (f := 119) rfl ?_); refine gL_ (some 12) Try.func119 #[.slice A0 l0.length c0, .slice A1 l1.length c1, .int .i64 a2] ?_; (with_reducible refine (spec_l11May.calls k _ _ l0 _ _ l1 a2 t864 _ ?s1 ?s2 ?s3 ?s4 A4.out).mono ?_); (case s1 => exact cC_ (Kd.V_reads' HO0.out).2.2); (case s2 => exact (Kd.V_reads' HO0.out).2.1); (case s3 => exact cC_ (Kd.V_reads' HO1.out).2.2); (case s4 => exact (Kd.V_reads' HO1.out).2.1); rintro e w6 ⟨rfl, hb⟩; refine ⟨_, rfl, ?_⟩; replace HO0 := A_ (Kd.V_below (vV_ HO0.out) hb); replace HO1 := A_ (Kd.V_below (vV_ HO1.out) hb); replace HB := A_ (below_step bB_ hb); (try clear hb)))
 (try simp only [Act.put, List.setIfInBounds_toArray, List.set_cons_zero, List.set_cons_succ])
 go_cut [8] (fun v8 wc => ∃ (kq : Nat) (x8_4 : Int), v8 = .int .i64 x8_4 ∧ Aside0 (spec_MakeColl.j1 kq l0 l1 a2 x8_4 = some (r1, r2)) ∧ Aside0 (kq ≤ k) ∧ Aside0 (Kd.V k59 59 wc w.heap.size (fun k_ => ((P0_ k_ ∨ P1_ k_) ∨ w.heap.size ≤ k_)) (.slice A0 l0.length c0) l0) ∧ Aside0 (Kd.V Kd.string 9 wc w.heap.size (fun k_ => ((P0_ k_ ∨ P1_ k_) ∨ w.heap.size ≤ k_)) (.slice A1 l1.length c1) l1) ∧ Aside0 (Below w.heap.size w wc))
 case first =>
  have H := HC5.out
  clear HC5
  by_cases c7 : t864 = 0
  rotate_left
  · rw [if_neg c7] at H
    have c7b0 : (t864 == 0) = false := beq_eq_false_iff_ne.mpr c7
    have c7b1 : (t864 != 0) = true := bne_iff_ne.mpr c7
    (first | rw [c7b0] | (simp only [i64_w, i32_w]; rw [c7b0]) | skip)
    have H' := A_ H
    clear H
    go_wp2
    go_meet
    case rel => exact ⟨_, (t864), rs_, H', ⟨by first | omega | exact Nat.le_refl _⟩, ⟨vV_ HO0.out⟩, ⟨vV_ HO1.out⟩, ⟨bB_⟩⟩
  rw [if_pos c7] at H
  have c7b0 : (t864 == 0) = true := beq_iff_eq.mpr c7
  have c7b1 : (t864 != 0) = false := bne_eq_false_iff_eq.mpr c7
  clear c7
  (first | rw [c7b0] | (simp only [i64_w, i32_w]; rw [c7b0]) | skip)
  have HC8 := A_ H
  clear H
  go_upto_region 3 with (fail)
  go_cut [16] (fun v16 wc => ∃ (kq : Nat) (x16_7 : Bool), v16 = .bool x16_7 ∧ Aside0 (spec_MakeColl.j0 kq l0 l1 a2 t864 x16_7 = some (r1, r2)) ∧ Aside0 (kq ≤ k) ∧ Aside0 (Kd.V k59 59 wc w.heap.size (fun k_ => ((P0_ k_ ∨ P1_ k_) ∨ w.heap.size ≤ k_)) (.slice A0 l0.length c0) l0) ∧ Aside0 (Kd.V Kd.string 9 wc w.heap.size (fun k_ => ((P0_ k_ ∨ P1_ k_) ∨ w.heap.size ≤ k_)) (.slice A1 l1.length c1) l1) ∧ Aside0 (Below w.heap.size w wc))
  case first =>
   have H := HC8.out
   clear HC8
   by_cases c9 : (l1.length : Int) = 0
   · rw [if_pos c9] at H
     have c9b0 : ((l1.length : Int) == 0) = true := beq_iff_eq.mpr c9
     have c9b1 : ((l1.length : Int) != 0) = false := bne_eq_false_iff_eq.mpr c9
     clear c9
     (first | rw [c9b0] | (simp only [i64_w, i32_w]; rw [c9b0]) | skip)
     have H' := A_ H
     clear H
     go_wp2
     go_meet
     case rel => exact ⟨_, (true), rs_, H', ⟨by first | omega | exact Nat.le_refl _⟩, ⟨vV_ HO0.out⟩, ⟨vV_ HO1.out⟩, ⟨bB_⟩⟩
   rw [if_neg c9] at H
   have c9b0 : ((l1.length : Int) == 0) = false := beq_eq_false_iff_ne.mpr c9
   have c9b1 : ((l1.length : Int) != 0) = true := bne_iff_ne.mpr c9
   have c9b2 : ¬ (l1 = []) := fun h_ => c9 (by rw [h_]; rfl)
   (first | rw [c9b0] | (simp only [i64_w, i32_w]; rw [c9b0]) | skip)
   obtain ⟨t865, A10, H⟩ := bo_ H
   (try dsimp only at H)
   have H' := A_ H
   clear H
   go_wp2_with (first | (go_at_call 36; (with_reducible refine (spec_FindRes.calls k _ _ l0 _ _ l1 t865 _ ?s1 ?s2 ?s3 ?s4 A10.out).mono ?_); (case s1 => exact cC_ (Kd.V_reads' HO0.out).2.2); (case s2 => exact (Kd.V_reads' HO0.out).2.1); (case s3 => exact cC_ (Kd.V_reads' HO1.out).2.2); (case s4 => exact (Kd.V_reads' HO1.out).2.1); rintro e w' ⟨rfl, ⟨nd, rfl⟩⟩))
   go_meet
   case rel => exact ⟨_, (decide (t865 ≥ 0)), rs_, H', ⟨by first | omega | exact Nat.le_refl _⟩, ⟨vV_ HO0.out⟩, ⟨vV_ HO1.out⟩, ⟨bB_⟩⟩
  case rest =>
   clear HC8
   try clear c1
   try clear p2
   try clear c7
   try clear c7b0
   try clear c7b1
   try clear c9
   try clear c9b0
   try clear c9b1
   try clear c9b2
   try clear c10
   obtain ⟨kq, x16_7, rfl, HA, HJ7, HO_0, HO_1, HB⟩ := hcut
   cases kq with
   | zero => exact absurd HA.out (by simp [spec_MakeColl.j0])
   | succ kj7 =>
    have H := HA.out
    clear HA
    simp only [spec_MakeColl.j0] at H
    by_cases c11 : x16_7 = true
    · subst c11
      rw [if_pos rfl] at H
      have H' := A_ H
      clear H
      go_wp2
      go_meet
      case rel => exact ⟨_, (405), rs_, H', ⟨by have := HJ7.out; first | omega | exact Nat.le_refl _⟩, ⟨vV_ HO_0.out⟩, ⟨vV_ HO_1.out⟩, ⟨bB_⟩⟩
    · replace c11 := Bool.eq_false_iff.mpr c11
      subst c11
      rw [if_neg nf_] at H
      obtain ⟨t866, A12, H⟩ := bo_ H
      (try dsimp only at H)
      obtain ⟨t869, A13, H⟩ := bo_ H
      (try dsimp only at H)
      by_cases c14 : t869 = true
      · subst c14
        rw [if_pos rfl] at H
        by_cases c15 : (l0.length : Int) ≥ 12
        · rw [if_pos c15] at H
          have c15b0 : decide (12 ≤ (l0.length : Int)) = true := decide_eq_true c15
          have c15b1 : decide (12 ≤ l0.length) = true := decide_eq_true (by omega)
          clear c15
          have H' := A_ H
          clear H
          go_wp2_with (first | ((with_reducible refine gc_ (f := 20) rfl ?_); refine gL_ (some 29) Try.func20 #[.slice A1 l1.length c1] ?_; (with_reducible refine (spec_Above.calls _ _ l1 t866 _ ?s1 ?s2 A12.out).mono ?_); (case s1 => exact cC_ (Kd.V_reads' HO_1.out).2.2); (case s2 => exact (Kd.V_reads' HO_1.out).2.1); rintro e w16 ⟨v867, rfl, ho0, hb⟩; refine ⟨_, rfl, ?_⟩; replace HO_0 := A_ (Kd.V_elder' (vV_ HO_0.out) (kb_ ho0) hb); replace HO_1 := A_ (Kd.V_elder' (vV_ HO_1.out) (kb_ ho0) hb); have HO868 := A_ (Kd.R_lower (Kd.R_newM (M := fun k_ => (w.heap.size ≤ k_)) ho0 (below_size bB_) (fun k_ h_ => h_)) (below_size bB_)); replace HB := A_ (below_step bB_ hb); (try clear hb); (try clear ho0); obtain ⟨Ao17, co17, eo17⟩ := Kd.R_slice HO868.out; subst eo17) | ((with_reducible refine gc_ (f := 38) rfl ?_); refine gL_ (some 30) Try.func38 #[.slice A0 l0.length c0, .slice Ao17 t866.length co17] ?_; (with_reducible refine (spec_IsColl.calls kj7 _ _ l0 _ _ t866 true _ ?s1 ?s2 ?s3 ?s4 A13.out).mono ?_); (case s1 => exact cC_ (Kd.V_reads' HO_0.out).2.2); (case s2 => exact (Kd.V_reads' HO_0.out).2.1); (case s3 => exact cC_ (Kd.R_reads' HO868.out).2.2); (case s4 => exact (Kd.R_reads' HO868.out).2.1); rintro e w' ⟨rfl, ⟨nd, rfl⟩⟩; refine ⟨_, rfl, ?_⟩))
          go_meet
          case rel => exact ⟨_, (507), rs_, H', ⟨by have := HJ7.out; first | omega | exact Nat.le_refl _⟩, ⟨by (with_reducible repeat (first | apply Kd.V_alloc | apply Kd.V_drewN | apply Kd.V_drew)); exact Kd.V_mono HO_0.out (fun _ hk => hk.1)⟩, ⟨by (with_reducible repeat (first | apply Kd.V_alloc | apply Kd.V_drewN | apply Kd.V_drew)); exact Kd.V_mono HO_1.out (fun _ hk => hk.1)⟩, ⟨bB_⟩⟩
        rw [if_neg c15] at H
        have c15b0 : decide (12 ≤ (l0.length : Int)) = false := decide_eq_false c15
        have c15b1 : decide (12 ≤ l0.length) = false := decide_eq_false (by omega)
        clear c15
        have H' := A_ H
        clear H
        go_wp2_with (first | ((with_reducible refine gc_ (f := 20) rfl ?_); refine gL_ (some 29) Try.func20 #[.slice A1 l1.length c1] ?_; (with_reducible refine (spec_Above.calls _ _ l1 t866 _ ?s1 ?s2 A12.out).mono ?_); (case s1 => exact cC_ (Kd.V_reads' HO_1.out).2.2); (case s2 => exact (Kd.V_reads' HO_1.out).2.1); rintro e w18 ⟨v867, rfl, ho0, hb⟩; refine ⟨_, rfl, ?_⟩; replace HO_0 := A_ (Kd.V_elder' (vV_ HO_0.out) (kb_ ho0) hb); replace HO_1 := A_ (Kd.V_elder' (vV_ HO_1.out) (kb_ ho0) hb); have HO868 := A_ (Kd.R_lower (Kd.R_newM (M := fun k_ => (w.heap.size ≤ k_)) ho0 (below_size bB_) (fun k_ h_ => h_)) (below_size bB_)); replace HB := A_ (below_step bB_ hb); (try clear hb); (try clear ho0); obtain ⟨Ao19, co19, eo19⟩ := Kd.R_slice HO868.out; subst eo19) | ((with_reducible refine gc_ (f := 38) rfl ?_); refine gL_ (some 30) Try.func38 #[.slice A0 l0.length c0, .slice Ao19 t866.length co19] ?_; (with_reducible refine (spec_IsColl.calls kj7 _ _ l0 _ _ t866 true _ ?s1 ?s2 ?s3 ?s4 A13.out).mono ?_); (case s1 => exact cC_ (Kd.V_reads' HO_0.out).2.2); (case s2 => exact (Kd.V_reads' HO_0.out).2.1); (case s3 => exact cC_ (Kd.R_reads' HO868.out).2.2); (case s4 => exact (Kd.R_reads' HO868.out).2.1); rintro e w' ⟨rfl, ⟨nd, rfl⟩⟩; refine ⟨_, rfl, ?_⟩))
        go_meet
        case rel => exact ⟨_, (t864), rs_, H', ⟨by have := HJ7.out; first | omega | exact Nat.le_refl _⟩, ⟨by (with_reducible repeat (first | apply Kd.V_alloc | apply Kd.V_drewN | apply Kd.V_drew)); exact Kd.V_mono HO_0.out (fun _ hk => hk.1)⟩, ⟨by (with_reducible repeat (first | apply Kd.V_alloc | apply Kd.V_drewN | apply Kd.V_drew)); exact Kd.V_mono HO_1.out (fun _ hk => hk.1)⟩, ⟨bB_⟩⟩
      · replace c14 := Bool.eq_false_iff.mpr c14
        subst c14
        rw [if_neg nf_] at H
        have H' := A_ H
        clear H
        go_wp2_with (first | ((with_reducible refine gc_ (f := 20) rfl ?_); refine gL_ (some 29) Try.func20 #[.slice A1 l1.length c1] ?_; (with_reducible refine (spec_Above.calls _ _ l1 t866 _ ?s1 ?s2 A12.out).mono ?_); (case s1 => exact cC_ (Kd.V_reads' HO_1.out).2.2); (case s2 => exact (Kd.V_reads' HO_1.out).2.1); rintro e w20 ⟨v867, rfl, ho0, hb⟩; refine ⟨_, rfl, ?_⟩; replace HO_0 := A_ (Kd.V_elder' (vV_ HO_0.out) (kb_ ho0) hb); replace HO_1 := A_ (Kd.V_elder' (vV_ HO_1.out) (kb_ ho0) hb); have HO868 := A_ (Kd.R_lower (Kd.R_newM (M := fun k_ => (w.heap.size ≤ k_)) ho0 (below_size bB_) (fun k_ h_ => h_)) (below_size bB_)); replace HB := A_ (below_step bB_ hb); (try clear hb); (try clear ho0); obtain ⟨Ao21, co21, eo21⟩ := Kd.R_slice HO868.out; subst eo21) | ((with_reducible refine gc_ (f := 38) rfl ?_); refine gL_ (some 30) Try.func38 #[.slice A0 l0.length c0, .slice Ao21 t866.length co21] ?_; (with_reducible refine (spec_IsColl.calls kj7 _ _ l0 _ _ t866 false _ ?s1 ?s2 ?s3 ?s4 A13.out).mono ?_); (case s1 => exact cC_ (Kd.V_reads' HO_0.out).2.2); (case s2 => exact (Kd.V_reads' HO_0.out).2.1); (case s3 => exact cC_ (Kd.R_reads' HO868.out).2.2); (case s4 => exact (Kd.R_reads' HO868.out).2.1); rintro e w' ⟨rfl, ⟨nd, rfl⟩⟩; refine ⟨_, rfl, ?_⟩))
        go_meet
        case rel => exact ⟨_, (409), rs_, H', ⟨by have := HJ7.out; first | omega | exact Nat.le_refl _⟩, ⟨by (with_reducible repeat (first | apply Kd.V_alloc | apply Kd.V_drewN | apply Kd.V_drew)); exact Kd.V_mono HO_0.out (fun _ hk => hk.1)⟩, ⟨by (with_reducible repeat (first | apply Kd.V_alloc | apply Kd.V_drewN | apply Kd.V_drew)); exact Kd.V_mono HO_1.out (fun _ hk => hk.1)⟩, ⟨bB_⟩⟩
 case rest =>
  clear HC5
  try clear c1
  try clear c2
  try clear p2
  try clear c3
  try clear c7
  try clear c7b0
  try clear c7b1
  try clear c9
  try clear c9b0
  try clear c9b1
  try clear c9b2
  try clear c10
  try clear c11
  try clear c14
  try clear c15
  try clear c15b0
  try clear c15b1
  try clear c20
  try clear p2
  obtain ⟨kq, x8_4, rfl, HA, HJ4, HO_0, HO_1, HB⟩ := hcut
  cases kq with
  | zero => exact absurd HA.out (by simp [spec_MakeColl.j1])
  | succ kj4 =>
   have H := HA.out
   clear HA
   simp only [spec_MakeColl.j1] at H
   by_cases c22 : x8_4 = 0
   rotate_left
   · rw [if_neg c22] at H
     have c22b0 : (x8_4 == 0) = false := beq_eq_false_iff_ne.mpr c22
     have c22b1 : (x8_4 != 0) = true := bne_iff_ne.mpr c22
     obtain ⟨t873, A25, H⟩ := bo_ H
     (try dsimp only at H)
     simp only [Option.some.injEq, Prod.mk.injEq] at H
     obtain ⟨rfl, rfl⟩ := H
     go_wp2_with (first | ((with_reducible refine gc_ (f := 120) rfl ?_); refine gL_ (some 39) Try.func120 #[.slice A0 l0.length c0] ?_; (with_reducible refine (spec_l10CopyAll.calls kj4 _ _ l0 t873 _ ?s1 ?s2 A25.out).mono ?_); (case s1 => exact cC_ (Kd.V_reads' HO_0.out).2.2); (case s2 => exact (Kd.V_reads' HO_0.out).2.1); rintro e w26 ⟨v874, rfl, ho0, hb⟩; refine ⟨_, rfl, ?_⟩; replace HO_0 := A_ (Kd.V_elder' (vV_ HO_0.out) (kb_ ho0) hb); replace HO_1 := A_ (Kd.V_elder' (vV_ HO_1.out) (kb_ ho0) hb); have HO875 := A_ (Kd.S_lower (Kd.S_newM (M := fun k_ => (w.heap.size ≤ k_)) ho0 (below_size bB_) (fun k_ h_ => h_)) (below_size bB_)); replace HB := A_ (below_step bB_ hb); (try clear hb); (try clear ho0)))
     go_ret2
     exact ⟨_, rr_, by (with_reducible repeat (first | apply Kd.S_alloc | apply Kd.S_drewN | apply Kd.S_drew)); exact Kd.S_mono HO875.out (fun _ hk => hk.1), bB_⟩
   rw [if_pos c22] at H
   have c22b0 : (x8_4 == 0) = true := beq_iff_eq.mpr c22
   have c22b1 : (x8_4 != 0) = false := bne_eq_false_iff_eq.mpr c22
   clear c22
   obtain ⟨t870, A23, H⟩ := bo_ H
   (try dsimp only at H)
   simp only [Option.some.injEq, Prod.mk.injEq] at H
   obtain ⟨rfl, rfl⟩ := H
   go_wp2_with (first | ((with_reducible refine gc_ (f := 121) rfl ?_); refine gL_ (some 45) Try.func121 #[.slice A0 l0.length c0, .agg #[.slice A1 l1.length c1, .bool true, .string (⟨#[]⟩ : ByteArray), .int .i64 a2, .slice none 0 0]] ?_; (refine (spec_l11Put.calls kj4 _ _ l0 _ _ l1 true (⟨#[]⟩ : ByteArray) a2 _ _ ([] : List (S71)) t870 _ ?s1 ?s2 ?s3 ?s4 ?s5 ?s6 A23.out).mono ?_); (case s1 => exact cC_ (Kd.V_reads' HO_0.out).2.2); (case s2 => exact (Kd.V_reads' HO_0.out).2.1); (case s3 => exact cC_ (Kd.V_reads' HO_1.out).2.2); (case s4 => exact (Kd.V_reads' HO_1.out).2.1); (case s5 => exact Kd.C_nil _ _); (case s6 => exact Nat.le_refl _); rintro e w24 ⟨v871, rfl, ho0, hb⟩; refine ⟨_, rfl, ?_⟩; replace HO_0 := A_ (Kd.V_elder' (vV_ HO_0.out) (kb_ ho0) hb); replace HO_1 := A_ (Kd.V_elder' (vV_ HO_1.out) (kb_ ho0) hb); have HO872 := A_ (Kd.S_lower (Kd.S_newM (M := fun k_ => (w.heap.size ≤ k_)) ho0 (below_size bB_) (fun k_ h_ => h_)) (below_size bB_)); replace HB := A_ (below_step bB_ hb); (try clear hb); (try clear ho0)))
   go_ret2
   exact ⟨_, rr_, by (with_reducible repeat (first | apply Kd.S_alloc | apply Kd.S_drewN | apply Kd.S_drew)); exact Kd.S_mono HO872.out (fun _ hk => hk.1), bB_⟩
end Go.Proofs.Yteabkidfgdmmpaa.Q
