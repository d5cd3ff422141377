-- PRINTED by print.py (a twelfth state) out of the translation. Not trusted: Lean checks it.
import Derived.Test.YtbgggcgjijljkaaVFnShelvesG22
import Derived.Test.YtbgggcgjijljkaaVFnShelvesG24
import Derived.Test.YtbgggcgjijljkaaVFnShelvesG25
import Derived.Test.YtbgggcgjijljkaaVFnShelvesG27
namespace Go.Proofs.Ytbgggcgjijljkaa.Q
open Go.RowKit Go.Proofs.YtbgggcgjijljkaaW.PrintWords Go.Proofs.YtbgggcgjijljkaaW.PrintLast Go.Proofs.YtbgggcgjijljkaaW.PrintMore
attribute [local go_sem] max2_int min2_int max_two min_two max_three min_three max_four min_four   -- for this text's walks alone
set_option linter.unusedVariables false
set_option linter.unusedSimpArgs false
mutual
def spec_l11Put.l0 : Nat → List (S57) → List (S57) → Bool → Int → List ByteArray → Bool → ByteArray → Int → List (S72) → Option ((List (S57)))
 | 0, _, _, _, _, _, _, _, _, _ => none
 | k + 1, x0, x5, x6, x7, x464000, x464001, x464002, x464003, x464004 => if x7 < (x0.length : Int) then (if x6 = true then (spec_l11Put.j1 k x0 x5 x6 x7 false x464000 x464001 x464002 x464003 x464004) else (if 0 ≤ x7 then ((spec_LessPath.f k ((rd_T57 x0 x7).f0) x464000).bind fun t480 => (spec_l11Put.j1 k x0 x5 x6 x7 (!t480) x464000 x464001 x464002 x464003 x464004)) else (none))) else (if x6 = true then (some x5) else ((spec_l10Copy.f x464000 x464001 x464002 x464003 x464004).bind fun bt467 => (if x5.length < 1759218604441 then (some (x5 ++ [(⟨bt467.1, bt467.2.1, bt467.2.2.1, bt467.2.2.2.1, bt467.2.2.2.2⟩ : S57)])) else (none))))
def spec_l11Put.j1 : Nat → List (S57) → List (S57) → Bool → Int → Bool → List ByteArray → Bool → ByteArray → Int → List (S72) → Option ((List (S57)))
 | 0, _, _, _, _, _, _, _, _, _, _ => none
 | k + 1, x0, x5, x6, x7, x27, x464000, x464001, x464002, x464003, x464004 => if x27 = true then ((spec_l10Copy.f x464000 x464001 x464002 x464003 x464004).bind fun bt481 => (if x5.length < 1759218604441 then (spec_l11Put.j2 k x0 (x5 ++ [(⟨bt481.1, bt481.2.1, bt481.2.2.1, bt481.2.2.2.1, bt481.2.2.2.2⟩ : S57)]) true x7 x464000 x464001 x464002 x464003 x464004) else (none))) else (spec_l11Put.j2 k x0 x5 x6 x7 x464000 x464001 x464002 x464003 x464004)
def spec_l11Put.j2 : Nat → List (S57) → List (S57) → Bool → Int → List ByteArray → Bool → ByteArray → Int → List (S72) → Option ((List (S57)))
 | 0, _, _, _, _, _, _, _, _, _ => none
 | k + 1, x0, x5, x6, x7, x464000, x464001, x464002, x464003, x464004 => if 0 ≤ x7 then (if x7 < (x0.length : Int) then ((spec_SamePath.f k ((rd_T57 x0 x7).f0) x464000).bind fun t494 => (if t494 = true then (spec_l11Put.l0 k x0 x5 x6 (wrap64 (x7 + 1)) x464000 x464001 x464002 x464003 x464004) else ((spec_l10Copy.f ((rd_T57 x0 x7).f0) ((rd_T57 x0 x7).f1) ((rd_T57 x0 x7).f2) ((rd_T57 x0 x7).f3) ((rd_T57 x0 x7).f4)).bind fun bt496 => (if x5.length < 1759218604441 then (spec_l11Put.l0 k x0 (x5 ++ [(⟨bt496.1, bt496.2.1, bt496.2.2.1, bt496.2.2.2.1, bt496.2.2.2.2⟩ : S57)]) x6 (wrap64 (x7 + 1)) x464000 x464001 x464002 x464003 x464004) else (none))))) else (none)) else (none)
end
def spec_l11Put.f (k : Nat) (l0 : List (S57)) (l1_0 : List ByteArray) (a1_1 : Bool) (a1_2 : ByteArray) (a1_3 : Int) (l1_4 : List (S72)) : Option ((List (S57))) := spec_l11Put.l0 k l0 (([] : List (S57))) false 0 l1_0 a1_1 a1_2 a1_3 l1_4
set_option maxHeartbeats 8000000 in
set_option maxRecDepth 100000 in
theorem spec_l11Put.calls (k : Nat) (A0 : Option Addr) (c0 : Nat) (l0 : List (S57)) (A1_0 : Option Addr) (c1_0 : Nat) (l1_0 : List ByteArray) (a1_1 : Bool) (a1_2 : ByteArray) (a1_3 : Int) (A1_4 : Option Addr) (c1_4 : Nat) (l1_4 : List (S72)) (r : List (S57)) (w : World) (hr0 : Kd.C k57 w A0 l0.length l0) (hc0 : l0.length ≤ c0) (hr1_0 : Kd.C Kd.string w A1_0 l1_0.length l1_0) (hc1_0 : l1_0.length ≤ c1_0) (hr1_4 : Kd.C k72 w A1_4 l1_4.length l1_4) (hc1_4 : l1_4.length ≤ c1_4) (h : spec_l11Put.f k l0 l1_0 a1_1 a1_2 a1_3 l1_4 = some r) :
 Calls Try.prog 75 #[.slice A0 l0.length c0, .agg #[.slice A1_0 l1_0.length c1_0, .bool a1_1, .string a1_2, .int .i64 a1_3, .slice A1_4 l1_4.length c1_4]] w fun e w' => ∃ v0_ : Value, e = .returned (v0_) ∧ Kd.S k57 57 w' w.heap.size (fun _ => True) v0_ r ∧ Below w.heap.size w w' := by
 have hu57 := Try.underlying57
 have HR0 := Aside0.mk hr0
 have HC0 := Aside0.mk hc0
 clear hr0 hc0
 have HR1_0 := Aside0.mk hr1_0
 have HC1_0 := Aside0.mk hc1_0
 clear hr1_0 hc1_0
 have HR1_4 := Aside0.mk hr1_4
 have HC1_4 := Aside0.mk hc1_4
 clear hr1_4 hc1_4
 have HB := A_ (Below.refl w.heap.size w)
 have H : (spec_l11Put.l0 k l0 (([] : List (S57))) false 0 l1_0 a1_1 a1_2 a1_3 l1_4) = some r := h
 clear h
 obtain ⟨y464, hy464⟩ : ∃ y_ : List (S57), y_ = (([] : List (S57))) := ⟨_, rfl⟩
 replace H : (spec_l11Put.l0 k l0 y464 false 0 l1_0 a1_1 a1_2 a1_3 l1_4) = some r := hy_ hy464 H
 have Ny464 := Aside0.mk hy464
 clear hy464
 have H' := Aside0.mk H
 clear H
 go_enter Try.func75, Try.ntmps75
 go_wp2_with (first | ((with_reducible refine gate_dst (N := 3) rfl ?_); refine bx_ (N := 3) (cs := #[.slice A1_0 l1_0.length c1_0, .bool a1_1, .string a1_2, .int .i64 a1_3, .slice A1_4 l1_4.length c1_4]) (t := 57) ?_; intro gb463 hg w3 hbox hb; have BK463 := A_ (hbox); have GW463 := A_ (ge_ hg bB_ : w.heap.size ≤ gb463); have GE463 := A_ (ge_ hg bB_ : w.heap.size ≤ gb463); replace HB := A_ (below_step bB_ hb); clear hb hbox hg) | ((with_reducible refine gate_dst (N := 8) rfl ?_); refine Kd.S_lit k57 _ 57 ?hg (N := 8) ?hd (xs := ([] : List (S57))) (inner := []) (ok := fun _ => True) (okp := fun _ => True) ?hr ?hp (fun _ hk => hk) trivial (Below.refl _ _) (Nat.le_refl _) (by simp) ?_; (case hd => rfl); (case hg => rfl); (case hr => first | (go_simp; done) | (go_simp; rfl)); (case hp => exact (Reps.none _ _)); intro v465 w4 ho5 hb hg_ hnew_; clear hg_ hnew_; (first | rw [← Ny464.out] at ho5 | (simp only [Int.reduceToNat] at ho5; rw [← Ny464.out] at ho5)); have HO466 := A_ (Kd.S_lower (Kd.S_newB ho5 (g := gb463) (o := .cells #[.slice A1_0 l1_0.length c1_0, .bool a1_1, .string a1_2, .int .i64 a1_3, .slice A1_4 l1_4.length c1_4] 57 (0, 0)) (vb_ BK463.out)) (below_size (bG_ GE463.out))); replace BK463 := A_ (bw_ BK463.out hb); replace HB := A_ (below_step (bG_ GE463.out) hb); clear hb ho5))
 repeat (go_quiet (first | ((with_reducible refine gate_dst (N := 3) rfl ?_); refine bx_ (N := 3) (cs := #[.slice A1_0 l1_0.length c1_0, .bool a1_1, .string a1_2, .int .i64 a1_3, .slice A1_4 l1_4.length c1_4]) (t := 57) ?_; intro gb463 hg w3 hbox hb; have BK463 := A_ (hbox); have GW463 := A_ (ge_ hg bB_ : w.heap.size ≤ gb463); have GE463 := A_ (ge_ hg bB_ : w.heap.size ≤ gb463); replace HB := A_ (below_step bB_ hb); clear hb hbox hg) | ((with_reducible refine gate_dst (N := 8) rfl ?_); refine Kd.S_lit k57 _ 57 ?hg (N := 8) ?hd (xs := ([] : List (S57))) (inner := []) (ok := fun _ => True) (okp := fun _ => True) ?hr ?hp (fun _ hk => hk) trivial (Below.refl _ _) (Nat.le_refl _) (by simp) ?_; (case hd => rfl); (case hg => rfl); (case hr => first | (go_simp; done) | (go_simp; rfl)); (case hp => exact (Reps.none _ _)); intro v465 w4 ho5 hb hg_ hnew_; clear hg_ hnew_; (first | rw [← Ny464.out] at ho5 | (simp only [Int.reduceToNat] at ho5; rw [← Ny464.out] at ho5)); have HO466 := A_ (Kd.S_lower (Kd.S_newB ho5 (g := gb463) (o := .cells #[.slice A1_0 l1_0.length c1_0, .bool a1_1, .string a1_2, .int .i64 a1_3, .slice A1_4 l1_4.length c1_4] 57 (0, 0)) (vb_ BK463.out)) (below_size (bG_ GE463.out))); replace BK463 := A_ (bw_ BK463.out hb); replace HB := A_ (below_step (bG_ GE463.out) hb); clear hb ho5)); try go_wp2_with (first | ((with_reducible refine gate_dst (N := 3) rfl ?_); refine bx_ (N := 3) (cs := #[.slice A1_0 l1_0.length c1_0, .bool a1_1, .string a1_2, .int .i64 a1_3, .slice A1_4 l1_4.length c1_4]) (t := 57) ?_; intro gb463 hg w3 hbox hb; have BK463 := A_ (hbox); have GW463 := A_ (ge_ hg bB_ : w.heap.size ≤ gb463); have GE463 := A_ (ge_ hg bB_ : w.heap.size ≤ gb463); replace HB := A_ (below_step bB_ hb); clear hb hbox hg) | ((with_reducible refine gate_dst (N := 8) rfl ?_); refine Kd.S_lit k57 _ 57 ?hg (N := 8) ?hd (xs := ([] : List (S57))) (inner := []) (ok := fun _ => True) (okp := fun _ => True) ?hr ?hp (fun _ hk => hk) trivial (Below.refl _ _) (Nat.le_refl _) (by simp) ?_; (case hd => rfl); (case hg => rfl); (case hr => first | (go_simp; done) | (go_simp; rfl)); (case hp => exact (Reps.none _ _)); intro v465 w4 ho5 hb hg_ hnew_; clear hg_ hnew_; (first | rw [← Ny464.out] at ho5 | (simp only [Int.reduceToNat] at ho5; rw [← Ny464.out] at ho5)); have HO466 := A_ (Kd.S_lower (Kd.S_newB ho5 (g := gb463) (o := .cells #[.slice A1_0 l1_0.length c1_0, .bool a1_1, .string a1_2, .int .i64 a1_3, .slice A1_4 l1_4.length c1_4] 57 (0, 0)) (vb_ BK463.out)) (below_size (bG_ GE463.out))); replace BK463 := A_ (bw_ BK463.out hb); replace HB := A_ (below_step (bG_ GE463.out) hb); clear hb ho5)))
 go_loopg [5, 6, 7] k (fun kq v5 v6 v7 w' => ∃ (x5_1 : List (S57)) (x6_1 : Bool) (x7_1 : Int), v6 = .bool x6_1 ∧ v7 = .int .i64 x7_1 ∧ Aside0 (spec_l11Put.l0 kq l0 x5_1 x6_1 x7_1 l1_0 a1_1 a1_2 a1_3 l1_4 = some r) ∧ Aside0 (kq ≤ k) ∧ Aside0 (Kd.S k57 57 w' w.heap.size (fun k_ => k_ ≠ gb463) v5 x5_1) ∧ Aside0 (w'.heap[gb463]? = some (.cells #[(.slice A1_0 l1_0.length c1_0), .bool a1_1, .string a1_2, .int .i64 a1_3, (.slice A1_4 l1_4.length c1_4)] 57 (0, 0))) ∧ Aside0 (Below w.heap.size w w'))
 case atStart => exact ⟨(y464), (false), (0), rs_, rs_, H', ⟨Nat.le_refl _⟩, ⟨by (with_reducible repeat (first | apply Kd.S_alloc | apply Kd.S_drewN | apply Kd.S_drew)); exact Kd.S_mono HO466.out (fun _ hk => hk.2)⟩, ⟨vb_ BK463.out⟩, ⟨bG_ GE463.out⟩⟩
 case round =>
  clear H'
  try clear c1
  try clear p2
  obtain ⟨x5_1, x6_1, x7_1, rfl, rfl, HA, HK1, HO_5, BK463, HB⟩ := hrel
  cases gk with
  | zero => exact absurd HA.out (by simp [spec_l11Put.l0])
  | succ k1 =>
   have H := HA.out
   clear HA
   simp only [spec_l11Put.l0] at H
   by_cases c6 : x7_1 < (l0.length : Int)
   rotate_left
   · rw [if_neg c6] at H
     have c6b0 : decide (x7_1 < (l0.length : Int)) = false := decide_eq_false c6
     clear c6
     by_cases c33 : x6_1 = true
     · subst c33
       rw [if_pos rfl] at H
       obtain rfl := Option.some.inj H
       go_wp2
       repeat (go_quiet (fail); try go_wp2)
       go_ret
       exact ⟨_, rr_, by (with_reducible repeat (first | apply Kd.S_alloc | apply Kd.S_drewN | apply Kd.S_drew)); exact Kd.S_mono HO_5.out (fun _ hk => trivial), bG_ GE463.out⟩
     · replace c33 := Bool.eq_false_iff.mpr c33
       subst c33
       rw [if_neg nf_] at H
       obtain ⟨⟨t467, t470, t471, t472, t473⟩, A34, H⟩ := bo_ H
       (try dsimp only at H)
       by_cases c35 : x5_1.length < 1759218604441
       rotate_left
       · exact absurd H (by rw [if_neg c35]; simp)
       rw [if_pos c35] at H
       have LMc35 := Aside0.mk c35
       clear c35
       obtain ⟨y476, hy476⟩ : ∃ y_ : List (S57), y_ = (x5_1 ++ [(⟨t467, t470, t471, t472, t473⟩ : S57)]) := ⟨_, rfl⟩
       replace H : (some y476) = some r := hy_ hy476 H
       have Ny476 := Aside0.mk hy476
       clear hy476
       obtain rfl := Option.some.inj H
       have hcz36_0 : wr.cell? ⟨gb463, 0, none⟩ = some (.slice A1_0 l1_0.length c1_0) := (blk_cell BK463.out 0).trans rfl
       have hcz36_1 : wr.cell? ⟨gb463, 1, none⟩ = some (.bool a1_1) := (blk_cell BK463.out 1).trans rfl
       have hcz36_2 : wr.cell? ⟨gb463, 2, none⟩ = some (.string a1_2) := (blk_cell BK463.out 2).trans rfl
       have hcz36_3 : wr.cell? ⟨gb463, 3, none⟩ = some (.int .i64 a1_3) := (blk_cell BK463.out 3).trans rfl
       have hcz36_4 : wr.cell? ⟨gb463, 4, none⟩ = some (.slice A1_4 l1_4.length c1_4) := (blk_cell BK463.out 4).trans rfl
       have hfz36_0 := blk_frozen BK463.out 0
       have hfz36_1 := blk_frozen BK463.out 1
       have hfz36_2 := blk_frozen BK463.out 2
       have hfz36_3 := blk_frozen BK463.out 3
       have hfz36_4 := blk_frozen BK463.out 4
       go_wp2_with (first | (go_at_call 105; (with_reducible refine (spec_l10Copy.calls _ _ l1_0 a1_1 a1_2 a1_3 _ _ l1_4 t467 t470 t471 t472 t473 _ ?s1 ?s2 ?s3 ?s4 A34.out).mono ?_); (case s1 => exact cC_ (Kd.C_below HR1_0.out HB.out)); (case s2 => exact HC1_0.out); (case s3 => exact cC_ (Kd.C_below HR1_4.out HB.out)); (case s4 => exact HC1_4.out); rintro e w37 ⟨v468, v474, rfl, ho0, ho1, hb⟩; replace HO_5 := A_ (Kd.S_mono (Kd.S_told (Kd.S_told (Kd.S_old (vS_ HO_5.out) hb) (kb_ ho0)) (kb_ ho1)) (fun _ h_ => h_.1)); have HO469 := A_ (Kd.R_lower ho0 (below_size (bG_ GE463.out))); have HO475 := A_ (Kd.R_lower ho1 (below_size (bG_ GE463.out))); replace BK463 := A_ (bw_ BK463.out hb); replace HB := A_ (below_step (bG_ GE463.out) hb); (try clear hb); (try clear ho0); (try clear ho1); obtain ⟨Ao39, co39, eo39⟩ := Kd.R_slice HO469.out; subst eo39; obtain ⟨Ao40, co40, eo40⟩ := Kd.R_slice HO475.out; subst eo40) | ((with_reducible refine gate_builtin (b := .append) (xs := #[.tmp 52, .tmp 55]) rfl ?_); at_builtin; refine Kd.S_append k57 (w0 := w) w.heap.size rfl (.tmp 52) (.tmp 55) 26 57 (.agg #[(.slice none 0 0), (.bool false), (.string ⟨#[]⟩), (.int .i64 0), (.slice none 0 0)]) 80 rfl Try.underlying26 info57 rfl (by decide) (by omega) u5 x5_1 (⟨t467, t470, t471, t472, t473⟩ : S57) [.slice Ao39 t467.length co39, .bool t470, .string t471, .int .i64 t472, .slice Ao40 t473.length co40] (fun k_ => k_ ≠ gb463) (fun k_ => some k_ = (.slice Ao39 t467.length co39 : Value).ownBlock ∨ some k_ = (.slice Ao40 t473.length co40 : Value).ownBlock) rfl rfl ?aP (fun k_ hk_ => hk_.elim (fun h_ => ((Kd.R_mono (ok' := fun k_ => ((fun k_ => k_ ≠ gb463)) k_ ∧ some k_ ≠ (u5 : Value).ownBlock) (Kd.R_types (Kd.R_apart' (HO469.out) (Kd.S_typed HO_5.out) (by decide)) BK463.out (by decide)) (fun k_ hk => ⟨hk.2, hk.1.2⟩))).1 k_ h_.symm) (fun h_ => ((Kd.R_mono (ok' := fun k_ => ((fun k_ => k_ ≠ gb463)) k_ ∧ some k_ ≠ (u5 : Value).ownBlock) (Kd.R_types (Kd.R_apart' (HO475.out) (Kd.S_typed HO_5.out) (by decide)) BK463.out (by decide)) (fun k_ hk => ⟨hk.2, hk.1.2⟩))).1 k_ h_.symm)) ?aF ?aO ?aB ?aS ?aL ?_; (case aP => exact k57_mkM _ _ _ (⟨t467, t470, t471, t472, t473⟩ : S57) (Kd.R_mono (Kd.R_tight rfl (Kd.R_mono (ok' := fun k_ => ((fun k_ => k_ ≠ gb463)) k_ ∧ some k_ ≠ (u5 : Value).ownBlock) (Kd.R_types (Kd.R_apart' (HO469.out) (Kd.S_typed HO_5.out) (by decide)) BK463.out (by decide)) (fun k_ hk => ⟨hk.2, hk.1.2⟩))) (fun _ h_ => Or.inl h_)) (Kd.R_mono (Kd.R_tight rfl (Kd.R_mono (ok' := fun k_ => ((fun k_ => k_ ≠ gb463)) k_ ∧ some k_ ≠ (u5 : Value).ownBlock) (Kd.R_types (Kd.R_apart' (HO475.out) (Kd.S_typed HO_5.out) (by decide)) BK463.out (by decide)) (fun k_ hk => ⟨hk.2, hk.1.2⟩))) (fun _ h_ => Or.inr (h_)))); (case aB => exact (bG_ GE463.out)); (case aF => exact (fun k_ hk => Kd.freshB (g := gb463) (o := .cells #[.slice A1_0 l1_0.length c1_0, .bool a1_1, .string a1_2, .int .i64 a1_3, .slice A1_4 l1_4.length c1_4] 57 (0, 0)) (vb_ BK463.out) k_ hk)); (case aO => exact (by (with_reducible repeat (first | apply Kd.S_alloc | apply Kd.S_drewN | apply Kd.S_drew)); exact Kd.S_mono HO_5.out (fun k_ hk => ⟨hk.1.1, fun e_ => e_.elim (fun h_ => hk.1.2 h_) (fun h_ => hk.2 h_)⟩))); (case aS => exact (below_size (bG_ GE463.out))); (case aL => have := LMc35.out; omega); intro v477 w38 ho hb hg hat; rw [← Ny476.out] at ho; replace BK463 := A_ (blk_grown (g := gb463) (o := .cells #[.slice A1_0 l1_0.length c1_0, .bool a1_1, .string a1_2, .int .i64 a1_3, .slice A1_4 l1_4.length c1_4] 57 (0, 0)) (vb_ BK463.out) hg (Kd.S_away HO_5.out (fun _ hk => hk.1.1))); replace HB := A_ (hb); have HO478 := A_ (ho); clear HO_5 HO469 HO475; clear ho hb hg hat))
       repeat (go_quiet (first | (go_at_call 105; (with_reducible refine (spec_l10Copy.calls _ _ l1_0 a1_1 a1_2 a1_3 _ _ l1_4 t467 t470 t471 t472 t473 _ ?s1 ?s2 ?s3 ?s4 A34.out).mono ?_); (case s1 => exact cC_ (Kd.C_below HR1_0.out HB.out)); (case s2 => exact HC1_0.out); (case s3 => exact cC_ (Kd.C_below HR1_4.out HB.out)); (case s4 => exact HC1_4.out); rintro e w37 ⟨v468, v474, rfl, ho0, ho1, hb⟩; replace HO_5 := A_ (Kd.S_mono (Kd.S_told (Kd.S_told (Kd.S_old (vS_ HO_5.out) hb) (kb_ ho0)) (kb_ ho1)) (fun _ h_ => h_.1)); have HO469 := A_ (Kd.R_lower ho0 (below_size (bG_ GE463.out))); have HO475 := A_ (Kd.R_lower ho1 (below_size (bG_ GE463.out))); replace BK463 := A_ (bw_ BK463.out hb); replace HB := A_ (below_step (bG_ GE463.out) hb); (try clear hb); (try clear ho0); (try clear ho1); obtain ⟨Ao39, co39, eo39⟩ := Kd.R_slice HO469.out; subst eo39; obtain ⟨Ao40, co40, eo40⟩ := Kd.R_slice HO475.out; subst eo40) | ((with_reducible refine gate_builtin (b := .append) (xs := #[.tmp 52, .tmp 55]) rfl ?_); at_builtin; refine Kd.S_append k57 (w0 := w) w.heap.size rfl (.tmp 52) (.tmp 55) 26 57 (.agg #[(.slice none 0 0), (.bool false), (.string ⟨#[]⟩), (.int .i64 0), (.slice none 0 0)]) 80 rfl Try.underlying26 info57 rfl (by decide) (by omega) u5 x5_1 (⟨t467, t470, t471, t472, t473⟩ : S57) [.slice Ao39 t467.length co39, .bool t470, .string t471, .int .i64 t472, .slice Ao40 t473.length co40] (fun k_ => k_ ≠ gb463) (fun k_ => some k_ = (.slice Ao39 t467.length co39 : Value).ownBlock ∨ some k_ = (.slice Ao40 t473.length co40 : Value).ownBlock) rfl rfl ?aP (fun k_ hk_ => hk_.elim (fun h_ => ((Kd.R_mono (ok' := fun k_ => ((fun k_ => k_ ≠ gb463)) k_ ∧ some k_ ≠ (u5 : Value).ownBlock) (Kd.R_types (Kd.R_apart' (HO469.out) (Kd.S_typed HO_5.out) (by decide)) BK463.out (by decide)) (fun k_ hk => ⟨hk.2, hk.1.2⟩))).1 k_ h_.symm) (fun h_ => ((Kd.R_mono (ok' := fun k_ => ((fun k_ => k_ ≠ gb463)) k_ ∧ some k_ ≠ (u5 : Value).ownBlock) (Kd.R_types (Kd.R_apart' (HO475.out) (Kd.S_typed HO_5.out) (by decide)) BK463.out (by decide)) (fun k_ hk => ⟨hk.2, hk.1.2⟩))).1 k_ h_.symm)) ?aF ?aO ?aB ?aS ?aL ?_; (case aP => exact k57_mkM _ _ _ (⟨t467, t470, t471, t472, t473⟩ : S57) (Kd.R_mono (Kd.R_tight rfl (Kd.R_mono (ok' := fun k_ => ((fun k_ => k_ ≠ gb463)) k_ ∧ some k_ ≠ (u5 : Value).ownBlock) (Kd.R_types (Kd.R_apart' (HO469.out) (Kd.S_typed HO_5.out) (by decide)) BK463.out (by decide)) (fun k_ hk => ⟨hk.2, hk.1.2⟩))) (fun _ h_ => Or.inl h_)) (Kd.R_mono (Kd.R_tight rfl (Kd.R_mono (ok' := fun k_ => ((fun k_ => k_ ≠ gb463)) k_ ∧ some k_ ≠ (u5 : Value).ownBlock) (Kd.R_types (Kd.R_apart' (HO475.out) (Kd.S_typed HO_5.out) (by decide)) BK463.out (by decide)) (fun k_ hk => ⟨hk.2, hk.1.2⟩))) (fun _ h_ => Or.inr (h_)))); (case aB => exact (bG_ GE463.out)); (case aF => exact (fun k_ hk => Kd.freshB (g := gb463) (o := .cells #[.slice A1_0 l1_0.length c1_0, .bool a1_1, .string a1_2, .int .i64 a1_3, .slice A1_4 l1_4.length c1_4] 57 (0, 0)) (vb_ BK463.out) k_ hk)); (case aO => exact (by (with_reducible repeat (first | apply Kd.S_alloc | apply Kd.S_drewN | apply Kd.S_drew)); exact Kd.S_mono HO_5.out (fun k_ hk => ⟨hk.1.1, fun e_ => e_.elim (fun h_ => hk.1.2 h_) (fun h_ => hk.2 h_)⟩))); (case aS => exact (below_size (bG_ GE463.out))); (case aL => have := LMc35.out; omega); intro v477 w38 ho hb hg hat; rw [← Ny476.out] at ho; replace BK463 := A_ (blk_grown (g := gb463) (o := .cells #[.slice A1_0 l1_0.length c1_0, .bool a1_1, .string a1_2, .int .i64 a1_3, .slice A1_4 l1_4.length c1_4] 57 (0, 0)) (vb_ BK463.out) hg (Kd.S_away HO_5.out (fun _ hk => hk.1.1))); replace HB := A_ (hb); have HO478 := A_ (ho); clear HO_5 HO469 HO475; clear ho hb hg hat)); try go_wp2_with (first | (go_at_call 105; (with_reducible refine (spec_l10Copy.calls _ _ l1_0 a1_1 a1_2 a1_3 _ _ l1_4 t467 t470 t471 t472 t473 _ ?s1 ?s2 ?s3 ?s4 A34.out).mono ?_); (case s1 => exact cC_ (Kd.C_below HR1_0.out HB.out)); (case s2 => exact HC1_0.out); (case s3 => exact cC_ (Kd.C_below HR1_4.out HB.out)); (case s4 => exact HC1_4.out); rintro e w37 ⟨v468, v474, rfl, ho0, ho1, hb⟩; replace HO_5 := A_ (Kd.S_mono (Kd.S_told (Kd.S_told (Kd.S_old (vS_ HO_5.out) hb) (kb_ ho0)) (kb_ ho1)) (fun _ h_ => h_.1)); have HO469 := A_ (Kd.R_lower ho0 (below_size (bG_ GE463.out))); have HO475 := A_ (Kd.R_lower ho1 (below_size (bG_ GE463.out))); replace BK463 := A_ (bw_ BK463.out hb); replace HB := A_ (below_step (bG_ GE463.out) hb); (try clear hb); (try clear ho0); (try clear ho1); obtain ⟨Ao39, co39, eo39⟩ := Kd.R_slice HO469.out; subst eo39; obtain ⟨Ao40, co40, eo40⟩ := Kd.R_slice HO475.out; subst eo40) | ((with_reducible refine gate_builtin (b := .append) (xs := #[.tmp 52, .tmp 55]) rfl ?_); at_builtin; refine Kd.S_append k57 (w0 := w) w.heap.size rfl (.tmp 52) (.tmp 55) 26 57 (.agg #[(.slice none 0 0), (.bool false), (.string ⟨#[]⟩), (.int .i64 0), (.slice none 0 0)]) 80 rfl Try.underlying26 info57 rfl (by decide) (by omega) u5 x5_1 (⟨t467, t470, t471, t472, t473⟩ : S57) [.slice Ao39 t467.length co39, .bool t470, .string t471, .int .i64 t472, .slice Ao40 t473.length co40] (fun k_ => k_ ≠ gb463) (fun k_ => some k_ = (.slice Ao39 t467.length co39 : Value).ownBlock ∨ some k_ = (.slice Ao40 t473.length co40 : Value).ownBlock) rfl rfl ?aP (fun k_ hk_ => hk_.elim (fun h_ => ((Kd.R_mono (ok' := fun k_ => ((fun k_ => k_ ≠ gb463)) k_ ∧ some k_ ≠ (u5 : Value).ownBlock) (Kd.R_types (Kd.R_apart' (HO469.out) (Kd.S_typed HO_5.out) (by decide)) BK463.out (by decide)) (fun k_ hk => ⟨hk.2, hk.1.2⟩))).1 k_ h_.symm) (fun h_ => ((Kd.R_mono (ok' := fun k_ => ((fun k_ => k_ ≠ gb463)) k_ ∧ some k_ ≠ (u5 : Value).ownBlock) (Kd.R_types (Kd.R_apart' (HO475.out) (Kd.S_typed HO_5.out) (by decide)) BK463.out (by decide)) (fun k_ hk => ⟨hk.2, hk.1.2⟩))).1 k_ h_.symm)) ?aF ?aO ?aB ?aS ?aL ?_; (case aP => exact k57_mkM _ _ _ (⟨t467, t470, t471, t472, t473⟩ : S57) (Kd.R_mono (Kd.R_tight rfl (Kd.R_mono (ok' := fun k_ => ((fun k_ => k_ ≠ gb463)) k_ ∧ some k_ ≠ (u5 : Value).ownBlock) (Kd.R_types (Kd.R_apart' (HO469.out) (Kd.S_typed HO_5.out) (by decide)) BK463.out (by decide)) (fun k_ hk => ⟨hk.2, hk.1.2⟩))) (fun _ h_ => Or.inl h_)) (Kd.R_mono (Kd.R_tight rfl (Kd.R_mono (ok' := fun k_ => ((fun k_ => k_ ≠ gb463)) k_ ∧ some k_ ≠ (u5 : Value).ownBlock) (Kd.R_types (Kd.R_apart' (HO475.out) (Kd.S_typed HO_5.out) (by decide)) BK463.out (by decide)) (fun k_ hk => ⟨hk.2, hk.1.2⟩))) (fun _ h_ => Or.inr (h_)))); (case aB => exact (bG_ GE463.out)); (case aF => exact (fun k_ hk => Kd.freshB (g := gb463) (o := .cells #[.slice A1_0 l1_0.length c1_0, .bool a1_1, .string a1_2, .int .i64 a1_3, .slice A1_4 l1_4.length c1_4] 57 (0, 0)) (vb_ BK463.out) k_ hk)); (case aO => exact (by (with_reducible repeat (first | apply Kd.S_alloc | apply Kd.S_drewN | apply Kd.S_drew)); exact Kd.S_mono HO_5.out (fun k_ hk => ⟨hk.1.1, fun e_ => e_.elim (fun h_ => hk.1.2 h_) (fun h_ => hk.2 h_)⟩))); (case aS => exact (below_size (bG_ GE463.out))); (case aL => have := LMc35.out; omega); intro v477 w38 ho hb hg hat; rw [← Ny476.out] at ho; replace BK463 := A_ (blk_grown (g := gb463) (o := .cells #[.slice A1_0 l1_0.length c1_0, .bool a1_1, .string a1_2, .int .i64 a1_3, .slice A1_4 l1_4.length c1_4] 57 (0, 0)) (vb_ BK463.out) hg (Kd.S_away HO_5.out (fun _ hk => hk.1.1))); replace HB := A_ (hb); have HO478 := A_ (ho); clear HO_5 HO469 HO475; clear ho hb hg hat)))
       go_ret
       exact ⟨_, rr_, by (with_reducible repeat (first | apply Kd.S_alloc | apply Kd.S_drewN | apply Kd.S_drew)); exact Kd.S_mono HO478.out (fun _ hk => trivial), bG_ GE463.out⟩
   rw [if_pos c6] at H
   have c6b0 : decide (x7_1 < (l0.length : Int)) = true := decide_eq_true c6
   clear c6
   have HC7 := Aside0.mk H
   clear H
   go_upto_region 6 with (fail)
   repeat (go_quiet (fail); go_upto_region 6 with (fail))
   go_cut [27] (fun v27 wc => ∃ (kq : Nat) (x27_6 : Bool), v27 = .bool x27_6 ∧ Aside0 (spec_l11Put.j1 kq l0 x5_1 x6_1 x7_1 x27_6 l1_0 a1_1 a1_2 a1_3 l1_4 = some r) ∧ Aside0 (kq ≤ k1) ∧ Aside0 (Kd.S k57 57 wc w.heap.size (fun k_ => k_ ≠ gb463) u5 x5_1) ∧ Aside0 (wc.heap[gb463]? = some (.cells #[(.slice A1_0 l1_0.length c1_0), .bool a1_1, .string a1_2, .int .i64 a1_3, (.slice A1_4 l1_4.length c1_4)] 57 (0, 0))) ∧ Aside0 (Below w.heap.size w wc))
   case first =>
    have H := HC7.out
    clear HC7
    by_cases c8 : x6_1 = true
    · subst c8
      rw [if_pos rfl] at H
      have H' := Aside0.mk H
      clear H
      go_wp2
      repeat (go_quiet (fail); try go_wp2)
      go_meet
      case rel => exact ⟨_, (false), rs_, H', ⟨by have := HK1.out; first | omega | exact Nat.le_refl _⟩, ⟨vS_ HO_5.out⟩, ⟨vb_ BK463.out⟩, ⟨bG_ GE463.out⟩⟩
    · replace c8 := Bool.eq_false_iff.mpr c8
      subst c8
      rw [if_neg nf_] at H
      by_cases c9 : 0 ≤ x7_1
      rotate_left
      · exact absurd H (by rw [if_neg c9]; simp)
      rw [if_pos c9] at H
      have c9b0 : decide (0 ≤ x7_1) = true := decide_eq_true c9
      clear c9
      (first | rw [c9b0] | (simp only [i64_w, i32_w]; rw [c9b0]) | skip)
      obtain ⟨t480, A10, H⟩ := bo_ H
      (try dsimp only at H)
      have H' := Aside0.mk H
      clear H
      have p479 : 0 ≤ (x7_1 : Int) := of_decide_eq_true as_
      have q479 : x7_1 < (l0.length : Int) := of_decide_eq_true as_
      obtain ⟨ad479, A479_0, c479_0, A479_4, c479_4, e479, hx479_0, hx479_1, hx479_2, hx479_3, hx479_4, hl479_0, hi479_0, hl479_4, hi479_4⟩ := at_T57 HR0.out x7_1 p479 q479
      cases e479
      replace hx479_0 := bc_ HB.out hx479_0
      replace hx479_1 := bc_ HB.out hx479_1
      replace hx479_2 := bc_ HB.out hx479_2
      replace hx479_3 := bc_ HB.out hx479_3
      replace hx479_4 := bc_ HB.out hx479_4
      have HR479_0 := Aside0.mk hi479_0
      have HC479_0 := Aside0.mk hl479_0
      clear hi479_0 hl479_0
      have HR479_4 := Aside0.mk hi479_4
      have HC479_4 := Aside0.mk hl479_4
      clear hi479_4 hl479_4
      replace p479 := eq_true p479
      replace q479 := eq_true q479
      have hcz11_0 : wr.cell? ⟨gb463, 0, none⟩ = some (.slice A1_0 l1_0.length c1_0) := (blk_cell BK463.out 0).trans rfl
      have hcz11_1 : wr.cell? ⟨gb463, 1, none⟩ = some (.bool a1_1) := (blk_cell BK463.out 1).trans rfl
      have hcz11_2 : wr.cell? ⟨gb463, 2, none⟩ = some (.string a1_2) := (blk_cell BK463.out 2).trans rfl
      have hcz11_3 : wr.cell? ⟨gb463, 3, none⟩ = some (.int .i64 a1_3) := (blk_cell BK463.out 3).trans rfl
      have hcz11_4 : wr.cell? ⟨gb463, 4, none⟩ = some (.slice A1_4 l1_4.length c1_4) := (blk_cell BK463.out 4).trans rfl
      have hfz11_0 := blk_frozen BK463.out 0
      have hfz11_1 := blk_frozen BK463.out 1
      have hfz11_2 := blk_frozen BK463.out 2
      have hfz11_3 := blk_frozen BK463.out 3
      have hfz11_4 := blk_frozen BK463.out 4
      go_wp2_with (first | (go_at_call 111; (with_reducible refine (spec_LessPath.calls k1 _ _ ((rd_T57 l0 x7_1).f0) _ _ l1_0 t480 _ ?s1 ?s2 ?s3 ?s4 A10.out).mono ?_); (case s1 => exact cC_ (Kd.C_below HR479_0.out HB.out)); (case s2 => exact HC479_0.out); (case s3 => exact cC_ (Kd.C_below HR1_0.out HB.out)); (case s4 => exact HC1_0.out); rintro e w' ⟨rfl, ⟨nd, rfl⟩⟩; (try first | exact ⟨rfl, _, World.drewN_drewN _ _ _⟩ | exact ⟨rfl, _, Eq.trans (World.drewN_drewN _ _ _) (congrArg (World.drewN _) (Nat.add_assoc _ _ _))⟩)))
      repeat (go_quiet (first | (go_at_call 111; (with_reducible refine (spec_LessPath.calls k1 _ _ ((rd_T57 l0 x7_1).f0) _ _ l1_0 t480 _ ?s1 ?s2 ?s3 ?s4 A10.out).mono ?_); (case s1 => exact cC_ (Kd.C_below HR479_0.out HB.out)); (case s2 => exact HC479_0.out); (case s3 => exact cC_ (Kd.C_below HR1_0.out HB.out)); (case s4 => exact HC1_0.out); rintro e w' ⟨rfl, ⟨nd, rfl⟩⟩; (try first | exact ⟨rfl, _, World.drewN_drewN _ _ _⟩ | exact ⟨rfl, _, Eq.trans (World.drewN_drewN _ _ _) (congrArg (World.drewN _) (Nat.add_assoc _ _ _))⟩))); try go_wp2_with (first | (go_at_call 111; (with_reducible refine (spec_LessPath.calls k1 _ _ ((rd_T57 l0 x7_1).f0) _ _ l1_0 t480 _ ?s1 ?s2 ?s3 ?s4 A10.out).mono ?_); (case s1 => exact cC_ (Kd.C_below HR479_0.out HB.out)); (case s2 => exact HC479_0.out); (case s3 => exact cC_ (Kd.C_below HR1_0.out HB.out)); (case s4 => exact HC1_0.out); rintro e w' ⟨rfl, ⟨nd, rfl⟩⟩; (try first | exact ⟨rfl, _, World.drewN_drewN _ _ _⟩ | exact ⟨rfl, _, Eq.trans (World.drewN_drewN _ _ _) (congrArg (World.drewN _) (Nat.add_assoc _ _ _))⟩))))
      go_meet
      case rel => exact ⟨_, (!t480), rs_, H', ⟨by have := HK1.out; first | omega | exact Nat.le_refl _⟩, ⟨vS_ HO_5.out⟩, ⟨vb_ BK463.out⟩, ⟨bG_ GE463.out⟩⟩
   case rest =>
    clear HC7
    try clear c1
    try clear p2
    try clear c4
    try clear p4
    try clear q4
    try clear hx4
    try clear c6
    try clear c6b0
    try clear c7
    try clear c8
    try clear c9
    try clear c9b0
    try clear hcz11_0
    try clear hcz11_1
    try clear hcz11_2
    try clear hcz11_3
    try clear hcz11_4
    try clear hfz11_0
    try clear hfz11_1
    try clear hfz11_2
    try clear hfz11_3
    try clear hfz11_4
    try clear hx479_0
    try clear hx479_1
    try clear hx479_2
    try clear hx479_3
    try clear hx479_4
    try clear p2
    try clear p479
    try clear q479
    obtain ⟨kq, x27_6, rfl, HA, HJ6, HO_5, BK463, HB⟩ := hcut
    cases kq with
    | zero => exact absurd HA.out (by simp [spec_l11Put.j1])
    | succ kj6 =>
     have H := HA.out
     clear HA
     simp only [spec_l11Put.j1] at H
     have HC12 := Aside0.mk H
     clear H
     go_upto_if 27 with (fail)
     repeat (go_quiet (fail); go_upto_if 27 with (fail))
     go_cut [5, 6] (fun v5 v6 wc => ∃ (kq : Nat) (x5_11 : List (S57)) (x6_11 : Bool), v6 = .bool x6_11 ∧ Aside0 (spec_l11Put.j2 kq l0 x5_11 x6_11 x7_1 l1_0 a1_1 a1_2 a1_3 l1_4 = some r) ∧ Aside0 (kq ≤ kj6) ∧ Aside0 (Kd.S k57 57 wc w.heap.size (fun k_ => k_ ≠ gb463) v5 x5_11) ∧ Aside0 (wc.heap[gb463]? = some (.cells #[(.slice A1_0 l1_0.length c1_0), .bool a1_1, .string a1_2, .int .i64 a1_3, (.slice A1_4 l1_4.length c1_4)] 57 (0, 0))) ∧ Aside0 (Below w.heap.size w wc))
     case first =>
      have H := HC12.out
      clear HC12
      by_cases c13 : x27_6 = true
      · subst c13
        rw [if_pos rfl] at H
        obtain ⟨⟨t481, t484, t485, t486, t487⟩, A14, H⟩ := bo_ H
        (try dsimp only at H)
        by_cases c15 : x5_1.length < 1759218604441
        rotate_left
        · exact absurd H (by rw [if_neg c15]; simp)
        rw [if_pos c15] at H
        have LMc15 := Aside0.mk c15
        clear c15
        obtain ⟨y490, hy490⟩ : ∃ y_ : List (S57), y_ = (x5_1 ++ [(⟨t481, t484, t485, t486, t487⟩ : S57)]) := ⟨_, rfl⟩
        replace H : (spec_l11Put.j2 kj6 l0 y490 true x7_1 l1_0 a1_1 a1_2 a1_3 l1_4) = some r := hy_ hy490 H
        have Ny490 := Aside0.mk hy490
        clear hy490
        have H' := Aside0.mk H
        clear H
        have hcz16_0 : wc.cell? ⟨gb463, 0, none⟩ = some (.slice A1_0 l1_0.length c1_0) := (blk_cell BK463.out 0).trans rfl
        have hcz16_1 : wc.cell? ⟨gb463, 1, none⟩ = some (.bool a1_1) := (blk_cell BK463.out 1).trans rfl
        have hcz16_2 : wc.cell? ⟨gb463, 2, none⟩ = some (.string a1_2) := (blk_cell BK463.out 2).trans rfl
        have hcz16_3 : wc.cell? ⟨gb463, 3, none⟩ = some (.int .i64 a1_3) := (blk_cell BK463.out 3).trans rfl
        have hcz16_4 : wc.cell? ⟨gb463, 4, none⟩ = some (.slice A1_4 l1_4.length c1_4) := (blk_cell BK463.out 4).trans rfl
        have hfz16_0 := blk_frozen BK463.out 0
        have hfz16_1 := blk_frozen BK463.out 1
        have hfz16_2 := blk_frozen BK463.out 2
        have hfz16_3 := blk_frozen BK463.out 3
        have hfz16_4 := blk_frozen BK463.out 4
        go_wp2_with (first | (go_at_call 105; (with_reducible refine (spec_l10Copy.calls _ _ l1_0 a1_1 a1_2 a1_3 _ _ l1_4 t481 t484 t485 t486 t487 _ ?s1 ?s2 ?s3 ?s4 A14.out).mono ?_); (case s1 => exact cC_ (Kd.C_below HR1_0.out HB.out)); (case s2 => exact HC1_0.out); (case s3 => exact cC_ (Kd.C_below HR1_4.out HB.out)); (case s4 => exact HC1_4.out); rintro e w17 ⟨v482, v488, rfl, ho0, ho1, hb⟩; replace HO_5 := A_ (Kd.S_mono (Kd.S_told (Kd.S_told (Kd.S_old (vS_ HO_5.out) hb) (kb_ ho0)) (kb_ ho1)) (fun _ h_ => h_.1)); have HO483 := A_ (Kd.R_lower ho0 (below_size (bG_ GE463.out))); have HO489 := A_ (Kd.R_lower ho1 (below_size (bG_ GE463.out))); replace BK463 := A_ (bw_ BK463.out hb); replace HB := A_ (below_step (bG_ GE463.out) hb); (try clear hb); (try clear ho0); (try clear ho1); obtain ⟨Ao19, co19, eo19⟩ := Kd.R_slice HO483.out; subst eo19; obtain ⟨Ao20, co20, eo20⟩ := Kd.R_slice HO489.out; subst eo20) | ((with_reducible refine gate_builtin (b := .append) (xs := #[.tmp 28, .tmp 31]) rfl ?_); at_builtin; refine Kd.S_append k57 (w0 := w) w.heap.size rfl (.tmp 28) (.tmp 31) 26 57 (.agg #[(.slice none 0 0), (.bool false), (.string ⟨#[]⟩), (.int .i64 0), (.slice none 0 0)]) 80 rfl Try.underlying26 info57 rfl (by decide) (by omega) u5 x5_1 (⟨t481, t484, t485, t486, t487⟩ : S57) [.slice Ao19 t481.length co19, .bool t484, .string t485, .int .i64 t486, .slice Ao20 t487.length co20] (fun k_ => k_ ≠ gb463) (fun k_ => some k_ = (.slice Ao19 t481.length co19 : Value).ownBlock ∨ some k_ = (.slice Ao20 t487.length co20 : Value).ownBlock) rfl rfl ?aP (fun k_ hk_ => hk_.elim (fun h_ => ((Kd.R_mono (ok' := fun k_ => ((fun k_ => k_ ≠ gb463)) k_ ∧ some k_ ≠ (u5 : Value).ownBlock) (Kd.R_types (Kd.R_apart' (HO483.out) (Kd.S_typed HO_5.out) (by decide)) BK463.out (by decide)) (fun k_ hk => ⟨hk.2, hk.1.2⟩))).1 k_ h_.symm) (fun h_ => ((Kd.R_mono (ok' := fun k_ => ((fun k_ => k_ ≠ gb463)) k_ ∧ some k_ ≠ (u5 : Value).ownBlock) (Kd.R_types (Kd.R_apart' (HO489.out) (Kd.S_typed HO_5.out) (by decide)) BK463.out (by decide)) (fun k_ hk => ⟨hk.2, hk.1.2⟩))).1 k_ h_.symm)) ?aF ?aO ?aB ?aS ?aL ?_; (case aP => exact k57_mkM _ _ _ (⟨t481, t484, t485, t486, t487⟩ : S57) (Kd.R_mono (Kd.R_tight rfl (Kd.R_mono (ok' := fun k_ => ((fun k_ => k_ ≠ gb463)) k_ ∧ some k_ ≠ (u5 : Value).ownBlock) (Kd.R_types (Kd.R_apart' (HO483.out) (Kd.S_typed HO_5.out) (by decide)) BK463.out (by decide)) (fun k_ hk => ⟨hk.2, hk.1.2⟩))) (fun _ h_ => Or.inl h_)) (Kd.R_mono (Kd.R_tight rfl (Kd.R_mono (ok' := fun k_ => ((fun k_ => k_ ≠ gb463)) k_ ∧ some k_ ≠ (u5 : Value).ownBlock) (Kd.R_types (Kd.R_apart' (HO489.out) (Kd.S_typed HO_5.out) (by decide)) BK463.out (by decide)) (fun k_ hk => ⟨hk.2, hk.1.2⟩))) (fun _ h_ => Or.inr (h_)))); (case aB => exact (bG_ GE463.out)); (case aF => exact (fun k_ hk => Kd.freshB (g := gb463) (o := .cells #[.slice A1_0 l1_0.length c1_0, .bool a1_1, .string a1_2, .int .i64 a1_3, .slice A1_4 l1_4.length c1_4] 57 (0, 0)) (vb_ BK463.out) k_ hk)); (case aO => exact (by (with_reducible repeat (first | apply Kd.S_alloc | apply Kd.S_drewN | apply Kd.S_drew)); exact Kd.S_mono HO_5.out (fun k_ hk => ⟨hk.1.1, fun e_ => e_.elim (fun h_ => hk.1.2 h_) (fun h_ => hk.2 h_)⟩))); (case aS => exact (below_size (bG_ GE463.out))); (case aL => have := LMc15.out; omega); intro v491 w18 ho hb hg hat; rw [← Ny490.out] at ho; replace BK463 := A_ (blk_grown (g := gb463) (o := .cells #[.slice A1_0 l1_0.length c1_0, .bool a1_1, .string a1_2, .int .i64 a1_3, .slice A1_4 l1_4.length c1_4] 57 (0, 0)) (vb_ BK463.out) hg (Kd.S_away HO_5.out (fun _ hk => hk.1.1))); replace HB := A_ (hb); have HO492 := A_ (ho); clear HO_5 HO483 HO489; clear ho hb hg hat))
        repeat (go_quiet (first | (go_at_call 105; (with_reducible refine (spec_l10Copy.calls _ _ l1_0 a1_1 a1_2 a1_3 _ _ l1_4 t481 t484 t485 t486 t487 _ ?s1 ?s2 ?s3 ?s4 A14.out).mono ?_); (case s1 => exact cC_ (Kd.C_below HR1_0.out HB.out)); (case s2 => exact HC1_0.out); (case s3 => exact cC_ (Kd.C_below HR1_4.out HB.out)); (case s4 => exact HC1_4.out); rintro e w17 ⟨v482, v488, rfl, ho0, ho1, hb⟩; replace HO_5 := A_ (Kd.S_mono (Kd.S_told (Kd.S_told (Kd.S_old (vS_ HO_5.out) hb) (kb_ ho0)) (kb_ ho1)) (fun _ h_ => h_.1)); have HO483 := A_ (Kd.R_lower ho0 (below_size (bG_ GE463.out))); have HO489 := A_ (Kd.R_lower ho1 (below_size (bG_ GE463.out))); replace BK463 := A_ (bw_ BK463.out hb); replace HB := A_ (below_step (bG_ GE463.out) hb); (try clear hb); (try clear ho0); (try clear ho1); obtain ⟨Ao19, co19, eo19⟩ := Kd.R_slice HO483.out; subst eo19; obtain ⟨Ao20, co20, eo20⟩ := Kd.R_slice HO489.out; subst eo20) | ((with_reducible refine gate_builtin (b := .append) (xs := #[.tmp 28, .tmp 31]) rfl ?_); at_builtin; refine Kd.S_append k57 (w0 := w) w.heap.size rfl (.tmp 28) (.tmp 31) 26 57 (.agg #[(.slice none 0 0), (.bool false), (.string ⟨#[]⟩), (.int .i64 0), (.slice none 0 0)]) 80 rfl Try.underlying26 info57 rfl (by decide) (by omega) u5 x5_1 (⟨t481, t484, t485, t486, t487⟩ : S57) [.slice Ao19 t481.length co19, .bool t484, .string t485, .int .i64 t486, .slice Ao20 t487.length co20] (fun k_ => k_ ≠ gb463) (fun k_ => some k_ = (.slice Ao19 t481.length co19 : Value).ownBlock ∨ some k_ = (.slice Ao20 t487.length co20 : Value).ownBlock) rfl rfl ?aP (fun k_ hk_ => hk_.elim (fun h_ => ((Kd.R_mono (ok' := fun k_ => ((fun k_ => k_ ≠ gb463)) k_ ∧ some k_ ≠ (u5 : Value).ownBlock) (Kd.R_types (Kd.R_apart' (HO483.out) (Kd.S_typed HO_5.out) (by decide)) BK463.out (by decide)) (fun k_ hk => ⟨hk.2, hk.1.2⟩))).1 k_ h_.symm) (fun h_ => ((Kd.R_mono (ok' := fun k_ => ((fun k_ => k_ ≠ gb463)) k_ ∧ some k_ ≠ (u5 : Value).ownBlock) (Kd.R_types (Kd.R_apart' (HO489.out) (Kd.S_typed HO_5.out) (by decide)) BK463.out (by decide)) (fun k_ hk => ⟨hk.2, hk.1.2⟩))).1 k_ h_.symm)) ?aF ?aO ?aB ?aS ?aL ?_; (case aP => exact k57_mkM _ _ _ (⟨t481, t484, t485, t486, t487⟩ : S57) (Kd.R_mono (Kd.R_tight rfl (Kd.R_mono (ok' := fun k_ => ((fun k_ => k_ ≠ gb463)) k_ ∧ some k_ ≠ (u5 : Value).ownBlock) (Kd.R_types (Kd.R_apart' (HO483.out) (Kd.S_typed HO_5.out) (by decide)) BK463.out (by decide)) (fun k_ hk => ⟨hk.2, hk.1.2⟩))) (fun _ h_ => Or.inl h_)) (Kd.R_mono (Kd.R_tight rfl (Kd.R_mono (ok' := fun k_ => ((fun k_ => k_ ≠ gb463)) k_ ∧ some k_ ≠ (u5 : Value).ownBlock) (Kd.R_types (Kd.R_apart' (HO489.out) (Kd.S_typed HO_5.out) (by decide)) BK463.out (by decide)) (fun k_ hk => ⟨hk.2, hk.1.2⟩))) (fun _ h_ => Or.inr (h_)))); (case aB => exact (bG_ GE463.out)); (case aF => exact (fun k_ hk => Kd.freshB (g := gb463) (o := .cells #[.slice A1_0 l1_0.length c1_0, .bool a1_1, .string a1_2, .int .i64 a1_3, .slice A1_4 l1_4.length c1_4] 57 (0, 0)) (vb_ BK463.out) k_ hk)); (case aO => exact (by (with_reducible repeat (first | apply Kd.S_alloc | apply Kd.S_drewN | apply Kd.S_drew)); exact Kd.S_mono HO_5.out (fun k_ hk => ⟨hk.1.1, fun e_ => e_.elim (fun h_ => hk.1.2 h_) (fun h_ => hk.2 h_)⟩))); (case aS => exact (below_size (bG_ GE463.out))); (case aL => have := LMc15.out; omega); intro v491 w18 ho hb hg hat; rw [← Ny490.out] at ho; replace BK463 := A_ (blk_grown (g := gb463) (o := .cells #[.slice A1_0 l1_0.length c1_0, .bool a1_1, .string a1_2, .int .i64 a1_3, .slice A1_4 l1_4.length c1_4] 57 (0, 0)) (vb_ BK463.out) hg (Kd.S_away HO_5.out (fun _ hk => hk.1.1))); replace HB := A_ (hb); have HO492 := A_ (ho); clear HO_5 HO483 HO489; clear ho hb hg hat)); try go_wp2_with (first | (go_at_call 105; (with_reducible refine (spec_l10Copy.calls _ _ l1_0 a1_1 a1_2 a1_3 _ _ l1_4 t481 t484 t485 t486 t487 _ ?s1 ?s2 ?s3 ?s4 A14.out).mono ?_); (case s1 => exact cC_ (Kd.C_below HR1_0.out HB.out)); (case s2 => exact HC1_0.out); (case s3 => exact cC_ (Kd.C_below HR1_4.out HB.out)); (case s4 => exact HC1_4.out); rintro e w17 ⟨v482, v488, rfl, ho0, ho1, hb⟩; replace HO_5 := A_ (Kd.S_mono (Kd.S_told (Kd.S_told (Kd.S_old (vS_ HO_5.out) hb) (kb_ ho0)) (kb_ ho1)) (fun _ h_ => h_.1)); have HO483 := A_ (Kd.R_lower ho0 (below_size (bG_ GE463.out))); have HO489 := A_ (Kd.R_lower ho1 (below_size (bG_ GE463.out))); replace BK463 := A_ (bw_ BK463.out hb); replace HB := A_ (below_step (bG_ GE463.out) hb); (try clear hb); (try clear ho0); (try clear ho1); obtain ⟨Ao19, co19, eo19⟩ := Kd.R_slice HO483.out; subst eo19; obtain ⟨Ao20, co20, eo20⟩ := Kd.R_slice HO489.out; subst eo20) | ((with_reducible refine gate_builtin (b := .append) (xs := #[.tmp 28, .tmp 31]) rfl ?_); at_builtin; refine Kd.S_append k57 (w0 := w) w.heap.size rfl (.tmp 28) (.tmp 31) 26 57 (.agg #[(.slice none 0 0), (.bool false), (.string ⟨#[]⟩), (.int .i64 0), (.slice none 0 0)]) 80 rfl Try.underlying26 info57 rfl (by decide) (by omega) u5 x5_1 (⟨t481, t484, t485, t486, t487⟩ : S57) [.slice Ao19 t481.length co19, .bool t484, .string t485, .int .i64 t486, .slice Ao20 t487.length co20] (fun k_ => k_ ≠ gb463) (fun k_ => some k_ = (.slice Ao19 t481.length co19 : Value).ownBlock ∨ some k_ = (.slice Ao20 t487.length co20 : Value).ownBlock) rfl rfl ?aP (fun k_ hk_ => hk_.elim (fun h_ => ((Kd.R_mono (ok' := fun k_ => ((fun k_ => k_ ≠ gb463)) k_ ∧ some k_ ≠ (u5 : Value).ownBlock) (Kd.R_types (Kd.R_apart' (HO483.out) (Kd.S_typed HO_5.out) (by decide)) BK463.out (by decide)) (fun k_ hk => ⟨hk.2, hk.1.2⟩))).1 k_ h_.symm) (fun h_ => ((Kd.R_mono (ok' := fun k_ => ((fun k_ => k_ ≠ gb463)) k_ ∧ some k_ ≠ (u5 : Value).ownBlock) (Kd.R_types (Kd.R_apart' (HO489.out) (Kd.S_typed HO_5.out) (by decide)) BK463.out (by decide)) (fun k_ hk => ⟨hk.2, hk.1.2⟩))).1 k_ h_.symm)) ?aF ?aO ?aB ?aS ?aL ?_; (case aP => exact k57_mkM _ _ _ (⟨t481, t484, t485, t486, t487⟩ : S57) (Kd.R_mono (Kd.R_tight rfl (Kd.R_mono (ok' := fun k_ => ((fun k_ => k_ ≠ gb463)) k_ ∧ some k_ ≠ (u5 : Value).ownBlock) (Kd.R_types (Kd.R_apart' (HO483.out) (Kd.S_typed HO_5.out) (by decide)) BK463.out (by decide)) (fun k_ hk => ⟨hk.2, hk.1.2⟩))) (fun _ h_ => Or.inl h_)) (Kd.R_mono (Kd.R_tight rfl (Kd.R_mono (ok' := fun k_ => ((fun k_ => k_ ≠ gb463)) k_ ∧ some k_ ≠ (u5 : Value).ownBlock) (Kd.R_types (Kd.R_apart' (HO489.out) (Kd.S_typed HO_5.out) (by decide)) BK463.out (by decide)) (fun k_ hk => ⟨hk.2, hk.1.2⟩))) (fun _ h_ => Or.inr (h_)))); (case aB => exact (bG_ GE463.out)); (case aF => exact (fun k_ hk => Kd.freshB (g := gb463) (o := .cells #[.slice A1_0 l1_0.length c1_0, .bool a1_1, .string a1_2, .int .i64 a1_3, .slice A1_4 l1_4.length c1_4] 57 (0, 0)) (vb_ BK463.out) k_ hk)); (case aO => exact (by (with_reducible repeat (first | apply Kd.S_alloc | apply Kd.S_drewN | apply Kd.S_drew)); exact Kd.S_mono HO_5.out (fun k_ hk => ⟨hk.1.1, fun e_ => e_.elim (fun h_ => hk.1.2 h_) (fun h_ => hk.2 h_)⟩))); (case aS => exact (below_size (bG_ GE463.out))); (case aL => have := LMc15.out; omega); intro v491 w18 ho hb hg hat; rw [← Ny490.out] at ho; replace BK463 := A_ (blk_grown (g := gb463) (o := .cells #[.slice A1_0 l1_0.length c1_0, .bool a1_1, .string a1_2, .int .i64 a1_3, .slice A1_4 l1_4.length c1_4] 57 (0, 0)) (vb_ BK463.out) hg (Kd.S_away HO_5.out (fun _ hk => hk.1.1))); replace HB := A_ (hb); have HO492 := A_ (ho); clear HO_5 HO483 HO489; clear ho hb hg hat)))
        go_meet
        case rel => exact ⟨_, (y490), (true), rs_, H', ⟨by have := HK1.out; have := HJ6.out; first | omega | exact Nat.le_refl _⟩, ⟨vS_ HO492.out⟩, ⟨vb_ BK463.out⟩, ⟨bG_ GE463.out⟩⟩
      · replace c13 := Bool.eq_false_iff.mpr c13
        subst c13
        rw [if_neg nf_] at H
        have H' := Aside0.mk H
        clear H
        go_wp2
        repeat (go_quiet (fail); try go_wp2)
        go_meet
        case rel => exact ⟨_, (x5_1), (x6_1), rs_, H', ⟨by have := HK1.out; have := HJ6.out; first | omega | exact Nat.le_refl _⟩, ⟨vS_ HO_5.out⟩, ⟨vb_ BK463.out⟩, ⟨bG_ GE463.out⟩⟩
     case rest =>
      clear HC12
      try clear c1
      try clear p2
      try clear c4
      try clear p4
      try clear q4
      try clear hx4
      try clear c6
      try clear c6b0
      try clear c7
      try clear c8
      try clear c9
      try clear c9b0
      try clear c13
      try clear c15
      try clear hcz11_0
      try clear hcz11_1
      try clear hcz11_2
      try clear hcz11_3
      try clear hcz11_4
      try clear hcz16_0
      try clear hcz16_1
      try clear hcz16_2
      try clear hcz16_3
      try clear hcz16_4
      try clear hfz11_0
      try clear hfz11_1
      try clear hfz11_2
      try clear hfz11_3
      try clear hfz11_4
      try clear hfz16_0
      try clear hfz16_1
      try clear hfz16_2
      try clear hfz16_3
      try clear hfz16_4
      try clear hx479_0
      try clear hx479_1
      try clear hx479_2
      try clear hx479_3
      try clear hx479_4
      try clear p2
      try clear p4
      try clear p479
      try clear q4
      try clear q479
      obtain ⟨kq, x5_11, x6_11, rfl, HA, HJ11, HO_5, BK463, HB⟩ := hcut
      cases kq with
      | zero => exact absurd HA.out (by simp [spec_l11Put.j2])
      | succ kj11 =>
       have H := HA.out
       clear HA
       simp only [spec_l11Put.j2] at H
       by_cases c21 : 0 ≤ x7_1
       rotate_left
       · exact absurd H (by rw [if_neg c21]; simp)
       rw [if_pos c21] at H
       have c21b0 : decide (0 ≤ x7_1) = true := decide_eq_true c21
       clear c21
       by_cases c22 : x7_1 < (l0.length : Int)
       rotate_left
       · exact absurd H (by rw [if_neg c22]; simp)
       rw [if_pos c22] at H
       have c22b0 : decide (x7_1 < (l0.length : Int)) = true := decide_eq_true c22
       clear c22
       obtain ⟨t494, A23, H⟩ := bo_ H
       (try dsimp only at H)
       by_cases c24 : t494 = true
       · subst c24
         rw [if_pos rfl] at H
         have H' := Aside0.mk H
         clear H
         have p493 : 0 ≤ (x7_1 : Int) := of_decide_eq_true as_
         have q493 : x7_1 < (l0.length : Int) := of_decide_eq_true as_
         obtain ⟨ad493, A493_0, c493_0, A493_4, c493_4, e493, hx493_0, hx493_1, hx493_2, hx493_3, hx493_4, hl493_0, hi493_0, hl493_4, hi493_4⟩ := at_T57 HR0.out x7_1 p493 q493
         cases e493
         replace hx493_0 := bc_ HB.out hx493_0
         replace hx493_1 := bc_ HB.out hx493_1
         replace hx493_2 := bc_ HB.out hx493_2
         replace hx493_3 := bc_ HB.out hx493_3
         replace hx493_4 := bc_ HB.out hx493_4
         have HR493_0 := Aside0.mk hi493_0
         have HC493_0 := Aside0.mk hl493_0
         clear hi493_0 hl493_0
         have HR493_4 := Aside0.mk hi493_4
         have HC493_4 := Aside0.mk hl493_4
         clear hi493_4 hl493_4
         replace p493 := eq_true p493
         replace q493 := eq_true q493
         have hcz25_0 : wc.cell? ⟨gb463, 0, none⟩ = some (.slice A1_0 l1_0.length c1_0) := (blk_cell BK463.out 0).trans rfl
         have hcz25_1 : wc.cell? ⟨gb463, 1, none⟩ = some (.bool a1_1) := (blk_cell BK463.out 1).trans rfl
         have hcz25_2 : wc.cell? ⟨gb463, 2, none⟩ = some (.string a1_2) := (blk_cell BK463.out 2).trans rfl
         have hcz25_3 : wc.cell? ⟨gb463, 3, none⟩ = some (.int .i64 a1_3) := (blk_cell BK463.out 3).trans rfl
         have hcz25_4 : wc.cell? ⟨gb463, 4, none⟩ = some (.slice A1_4 l1_4.length c1_4) := (blk_cell BK463.out 4).trans rfl
         have hfz25_0 := blk_frozen BK463.out 0
         have hfz25_1 := blk_frozen BK463.out 1
         have hfz25_2 := blk_frozen BK463.out 2
         have hfz25_3 := blk_frozen BK463.out 3
         have hfz25_4 := blk_frozen BK463.out 4
         go_wp2_with (first | (go_at_call 104; (with_reducible refine (spec_SamePath.calls kj11 _ _ ((rd_T57 l0 x7_1).f0) _ _ l1_0 true _ ?s1 ?s2 ?s3 ?s4 A23.out).mono ?_); (case s1 => exact cC_ (Kd.C_below HR493_0.out HB.out)); (case s2 => exact HC493_0.out); (case s3 => exact cC_ (Kd.C_below HR1_0.out HB.out)); (case s4 => exact HC1_0.out); rintro e w' ⟨rfl, ⟨nd, rfl⟩⟩; (try first | exact ⟨rfl, _, World.drewN_drewN _ _ _⟩ | exact ⟨rfl, _, Eq.trans (World.drewN_drewN _ _ _) (congrArg (World.drewN _) (Nat.add_assoc _ _ _))⟩)))
         repeat (go_quiet (first | (go_at_call 104; (with_reducible refine (spec_SamePath.calls kj11 _ _ ((rd_T57 l0 x7_1).f0) _ _ l1_0 true _ ?s1 ?s2 ?s3 ?s4 A23.out).mono ?_); (case s1 => exact cC_ (Kd.C_below HR493_0.out HB.out)); (case s2 => exact HC493_0.out); (case s3 => exact cC_ (Kd.C_below HR1_0.out HB.out)); (case s4 => exact HC1_0.out); rintro e w' ⟨rfl, ⟨nd, rfl⟩⟩; (try first | exact ⟨rfl, _, World.drewN_drewN _ _ _⟩ | exact ⟨rfl, _, Eq.trans (World.drewN_drewN _ _ _) (congrArg (World.drewN _) (Nat.add_assoc _ _ _))⟩))); try go_wp2_with (first | (go_at_call 104; (with_reducible refine (spec_SamePath.calls kj11 _ _ ((rd_T57 l0 x7_1).f0) _ _ l1_0 true _ ?s1 ?s2 ?s3 ?s4 A23.out).mono ?_); (case s1 => exact cC_ (Kd.C_below HR493_0.out HB.out)); (case s2 => exact HC493_0.out); (case s3 => exact cC_ (Kd.C_below HR1_0.out HB.out)); (case s4 => exact HC1_0.out); rintro e w' ⟨rfl, ⟨nd, rfl⟩⟩; (try first | exact ⟨rfl, _, World.drewN_drewN _ _ _⟩ | exact ⟨rfl, _, Eq.trans (World.drewN_drewN _ _ _) (congrArg (World.drewN _) (Nat.add_assoc _ _ _))⟩))))
         go_roundg kj11
         case measure => have := HK1.out; have := HJ6.out; have := HJ11.out; omega
         case rel => exact ⟨(x5_11), (x6_11), (wrap64 (x7_1 + 1)), rs_, rs_, H', ⟨by have := HK1.out; have := HJ6.out; have := HJ11.out; omega⟩, ⟨vS_ HO_5.out⟩, ⟨vb_ BK463.out⟩, ⟨bG_ GE463.out⟩⟩
       · replace c24 := Bool.eq_false_iff.mpr c24
         subst c24
         rw [if_neg nf_] at H
         obtain ⟨⟨t496, t499, t500, t501, t502⟩, A26, H⟩ := bo_ H
         (try dsimp only at H)
         by_cases c27 : x5_11.length < 1759218604441
         rotate_left
         · exact absurd H (by rw [if_neg c27]; simp)
         rw [if_pos c27] at H
         have LMc27 := Aside0.mk c27
         clear c27
         obtain ⟨y505, hy505⟩ : ∃ y_ : List (S57), y_ = (x5_11 ++ [(⟨t496, t499, t500, t501, t502⟩ : S57)]) := ⟨_, rfl⟩
         replace H : (spec_l11Put.l0 kj11 l0 y505 x6_11 (wrap64 (x7_1 + 1)) l1_0 a1_1 a1_2 a1_3 l1_4) = some r := hy_ hy505 H
         have Ny505 := Aside0.mk hy505
         clear hy505
         have H' := Aside0.mk H
         clear H
         have p493 : 0 ≤ (x7_1 : Int) := of_decide_eq_true as_
         have q493 : x7_1 < (l0.length : Int) := of_decide_eq_true as_
         obtain ⟨ad493, A493_0, c493_0, A493_4, c493_4, e493, hx493_0, hx493_1, hx493_2, hx493_3, hx493_4, hl493_0, hi493_0, hl493_4, hi493_4⟩ := at_T57 HR0.out x7_1 p493 q493
         cases e493
         replace hx493_0 := bc_ HB.out hx493_0
         replace hx493_1 := bc_ HB.out hx493_1
         replace hx493_2 := bc_ HB.out hx493_2
         replace hx493_3 := bc_ HB.out hx493_3
         replace hx493_4 := bc_ HB.out hx493_4
         have HR493_0 := Aside0.mk hi493_0
         have HC493_0 := Aside0.mk hl493_0
         clear hi493_0 hl493_0
         have HR493_4 := Aside0.mk hi493_4
         have HC493_4 := Aside0.mk hl493_4
         clear hi493_4 hl493_4
         replace p493 := eq_true p493
         replace q493 := eq_true q493
         have hcz28_0 : wc.cell? ⟨gb463, 0, none⟩ = some (.slice A1_0 l1_0.length c1_0) := (blk_cell BK463.out 0).trans rfl
         have hcz28_1 : wc.cell? ⟨gb463, 1, none⟩ = some (.bool a1_1) := (blk_cell BK463.out 1).trans rfl
         have hcz28_2 : wc.cell? ⟨gb463, 2, none⟩ = some (.string a1_2) := (blk_cell BK463.out 2).trans rfl
         have hcz28_3 : wc.cell? ⟨gb463, 3, none⟩ = some (.int .i64 a1_3) := (blk_cell BK463.out 3).trans rfl
         have hcz28_4 : wc.cell? ⟨gb463, 4, none⟩ = some (.slice A1_4 l1_4.length c1_4) := (blk_cell BK463.out 4).trans rfl
         have hfz28_0 := blk_frozen BK463.out 0
         have hfz28_1 := blk_frozen BK463.out 1
         have hfz28_2 := blk_frozen BK463.out 2
         have hfz28_3 := blk_frozen BK463.out 3
         have hfz28_4 := blk_frozen BK463.out 4
         go_wp2_with (first | (go_at_call 104; (with_reducible refine (spec_SamePath.calls kj11 _ _ ((rd_T57 l0 x7_1).f0) _ _ l1_0 false _ ?s1 ?s2 ?s3 ?s4 A23.out).mono ?_); (case s1 => exact cC_ (Kd.C_below HR493_0.out HB.out)); (case s2 => exact HC493_0.out); (case s3 => exact cC_ (Kd.C_below HR1_0.out HB.out)); (case s4 => exact HC1_0.out); rintro e w' ⟨rfl, ⟨nd, rfl⟩⟩; (try first | exact ⟨rfl, _, World.drewN_drewN _ _ _⟩ | exact ⟨rfl, _, Eq.trans (World.drewN_drewN _ _ _) (congrArg (World.drewN _) (Nat.add_assoc _ _ _))⟩); have p495 : 0 ≤ (x7_1 : Int) := of_decide_eq_true as_; have q495 : x7_1 < (l0.length : Int) := of_decide_eq_true as_; obtain ⟨ad495, A495_0, c495_0, A495_4, c495_4, e495, hx495_0, hx495_1, hx495_2, hx495_3, hx495_4, hl495_0, hi495_0, hl495_4, hi495_4⟩ := at_T57 HR0.out x7_1 p495 q495; obtain rfl : ad493 = ad495 := (by injection e495); replace hx495_0 := bc_ HB.out hx495_0; replace hx495_1 := bc_ HB.out hx495_1; replace hx495_2 := bc_ HB.out hx495_2; replace hx495_3 := bc_ HB.out hx495_3; replace hx495_4 := bc_ HB.out hx495_4; have HR495_0 := Aside0.mk hi495_0; have HC495_0 := Aside0.mk hl495_0; clear hi495_0 hl495_0; have HR495_4 := Aside0.mk hi495_4; have HC495_4 := Aside0.mk hl495_4; clear hi495_4 hl495_4; replace p495 := eq_true p495; replace q495 := eq_true q495; have ea_ := Option.some.inj (hx493_0.symm.trans hx495_0); injection ea_ with ea_ en_ ec_; subst ea_; subst ec_; clear en_; have ea_ := Option.some.inj (hx493_4.symm.trans hx495_4); injection ea_ with ea_ en_ ec_; subst ea_; subst ec_; clear en_) | (go_at_call 105; (with_reducible refine (spec_l10Copy.calls _ _ ((rd_T57 l0 x7_1).f0) ((rd_T57 l0 x7_1).f1) ((rd_T57 l0 x7_1).f2) ((rd_T57 l0 x7_1).f3) _ _ ((rd_T57 l0 x7_1).f4) t496 t499 t500 t501 t502 _ ?s1 ?s2 ?s3 ?s4 A26.out).mono ?_); (case s1 => exact cC_ (Kd.C_below HR495_0.out (bG_ GE463.out))); (case s2 => exact HC495_0.out); (case s3 => exact cC_ (Kd.C_below HR495_4.out (bG_ GE463.out))); (case s4 => exact HC495_4.out); rintro e w29 ⟨v497, v503, rfl, ho0, ho1, hb⟩; replace HO_5 := A_ (Kd.S_mono (Kd.S_told (Kd.S_told (Kd.S_old (vS_ HO_5.out) hb) (kb_ ho0)) (kb_ ho1)) (fun _ h_ => h_.1)); have HO498 := A_ (Kd.R_lower ho0 (below_size (bG_ GE463.out))); have HO504 := A_ (Kd.R_lower ho1 (below_size (bG_ GE463.out))); replace BK463 := A_ (bw_ BK463.out hb); replace HB := A_ (below_step (bG_ GE463.out) hb); (try clear hb); (try clear ho0); (try clear ho1); obtain ⟨Ao31, co31, eo31⟩ := Kd.R_slice HO498.out; subst eo31; obtain ⟨Ao32, co32, eo32⟩ := Kd.R_slice HO504.out; subst eo32) | ((with_reducible refine gate_builtin (b := .append) (xs := #[.tmp 42, .tmp 48]) rfl ?_); at_builtin; refine Kd.S_append k57 (w0 := w) w.heap.size rfl (.tmp 42) (.tmp 48) 26 57 (.agg #[(.slice none 0 0), (.bool false), (.string ⟨#[]⟩), (.int .i64 0), (.slice none 0 0)]) 80 rfl Try.underlying26 info57 rfl (by decide) (by omega) u5 x5_11 (⟨t496, t499, t500, t501, t502⟩ : S57) [.slice Ao31 t496.length co31, .bool t499, .string t500, .int .i64 t501, .slice Ao32 t502.length co32] (fun k_ => k_ ≠ gb463) (fun k_ => some k_ = (.slice Ao31 t496.length co31 : Value).ownBlock ∨ some k_ = (.slice Ao32 t502.length co32 : Value).ownBlock) rfl rfl ?aP (fun k_ hk_ => hk_.elim (fun h_ => ((Kd.R_mono (ok' := fun k_ => ((fun k_ => k_ ≠ gb463)) k_ ∧ some k_ ≠ (u5 : Value).ownBlock) (Kd.R_types (Kd.R_apart' (HO498.out) (Kd.S_typed HO_5.out) (by decide)) BK463.out (by decide)) (fun k_ hk => ⟨hk.2, hk.1.2⟩))).1 k_ h_.symm) (fun h_ => ((Kd.R_mono (ok' := fun k_ => ((fun k_ => k_ ≠ gb463)) k_ ∧ some k_ ≠ (u5 : Value).ownBlock) (Kd.R_types (Kd.R_apart' (HO504.out) (Kd.S_typed HO_5.out) (by decide)) BK463.out (by decide)) (fun k_ hk => ⟨hk.2, hk.1.2⟩))).1 k_ h_.symm)) ?aF ?aO ?aB ?aS ?aL ?_; (case aP => exact k57_mkM _ _ _ (⟨t496, t499, t500, t501, t502⟩ : S57) (Kd.R_mono (Kd.R_tight rfl (Kd.R_mono (ok' := fun k_ => ((fun k_ => k_ ≠ gb463)) k_ ∧ some k_ ≠ (u5 : Value).ownBlock) (Kd.R_types (Kd.R_apart' (HO498.out) (Kd.S_typed HO_5.out) (by decide)) BK463.out (by decide)) (fun k_ hk => ⟨hk.2, hk.1.2⟩))) (fun _ h_ => Or.inl h_)) (Kd.R_mono (Kd.R_tight rfl (Kd.R_mono (ok' := fun k_ => ((fun k_ => k_ ≠ gb463)) k_ ∧ some k_ ≠ (u5 : Value).ownBlock) (Kd.R_types (Kd.R_apart' (HO504.out) (Kd.S_typed HO_5.out) (by decide)) BK463.out (by decide)) (fun k_ hk => ⟨hk.2, hk.1.2⟩))) (fun _ h_ => Or.inr (h_)))); (case aB => exact (bG_ GE463.out)); (case aF => exact (fun k_ hk => Kd.freshB (g := gb463) (o := .cells #[.slice A1_0 l1_0.length c1_0, .bool a1_1, .string a1_2, .int .i64 a1_3, .slice A1_4 l1_4.length c1_4] 57 (0, 0)) (vb_ BK463.out) k_ hk)); (case aO => exact (by (with_reducible repeat (first | apply Kd.S_alloc | apply Kd.S_drewN | apply Kd.S_drew)); exact Kd.S_mono HO_5.out (fun k_ hk => ⟨hk.1.1, fun e_ => e_.elim (fun h_ => hk.1.2 h_) (fun h_ => hk.2 h_)⟩))); (case aS => exact (below_size (bG_ GE463.out))); (case aL => have := LMc27.out; omega); intro v506 w30 ho hb hg hat; rw [← Ny505.out] at ho; replace BK463 := A_ (blk_grown (g := gb463) (o := .cells #[.slice A1_0 l1_0.length c1_0, .bool a1_1, .string a1_2, .int .i64 a1_3, .slice A1_4 l1_4.length c1_4] 57 (0, 0)) (vb_ BK463.out) hg (Kd.S_away HO_5.out (fun _ hk => hk.1.1))); replace HB := A_ (hb); have HO507 := A_ (ho); clear HO_5 HO498 HO504; clear ho hb hg hat))
         repeat (go_quiet (first | (go_at_call 104; (with_reducible refine (spec_SamePath.calls kj11 _ _ ((rd_T57 l0 x7_1).f0) _ _ l1_0 false _ ?s1 ?s2 ?s3 ?s4 A23.out).mono ?_); (case s1 => exact cC_ (Kd.C_below HR493_0.out HB.out)); (case s2 => exact HC493_0.out); (case s3 => exact cC_ (Kd.C_below HR1_0.out HB.out)); (case s4 => exact HC1_0.out); rintro e w' ⟨rfl, ⟨nd, rfl⟩⟩; (try first | exact ⟨rfl, _, World.drewN_drewN _ _ _⟩ | exact ⟨rfl, _, Eq.trans (World.drewN_drewN _ _ _) (congrArg (World.drewN _) (Nat.add_assoc _ _ _))⟩); have p495 : 0 ≤ (x7_1 : Int) := of_decide_eq_true as_; have q495 : x7_1 < (l0.length : Int) := of_decide_eq_true as_; obtain ⟨ad495, A495_0, c495_0, A495_4, c495_4, e495, hx495_0, hx495_1, hx495_2, hx495_3, hx495_4, hl495_0, hi495_0, hl495_4, hi495_4⟩ := at_T57 HR0.out x7_1 p495 q495; obtain rfl : ad493 = ad495 := (by injection e495); replace hx495_0 := bc_ HB.out hx495_0; replace hx495_1 := bc_ HB.out hx495_1; replace hx495_2 := bc_ HB.out hx495_2; replace hx495_3 := bc_ HB.out hx495_3; replace hx495_4 := bc_ HB.out hx495_4; have HR495_0 := Aside0.mk hi495_0; have HC495_0 := Aside0.mk hl495_0; clear hi495_0 hl495_0; have HR495_4 := Aside0.mk hi495_4; have HC495_4 := Aside0.mk hl495_4; clear hi495_4 hl495_4; replace p495 := eq_true p495; replace q495 := eq_true q495; have ea_ := Option.some.inj (hx493_0.symm.trans hx495_0); injection ea_ with ea_ en_ ec_; subst ea_; subst ec_; clear en_; have ea_ := Option.some.inj (hx493_4.symm.trans hx495_4); injection ea_ with ea_ en_ ec_; subst ea_; subst ec_; clear en_) | (go_at_call 105; (with_reducible refine (spec_l10Copy.calls _ _ ((rd_T57 l0 x7_1).f0) ((rd_T57 l0 x7_1).f1) ((rd_T57 l0 x7_1).f2) ((rd_T57 l0 x7_1).f3) _ _ ((rd_T57 l0 x7_1).f4) t496 t499 t500 t501 t502 _ ?s1 ?s2 ?s3 ?s4 A26.out).mono ?_); (case s1 => exact cC_ (Kd.C_below HR495_0.out (bG_ GE463.out))); (case s2 => exact HC495_0.out); (case s3 => exact cC_ (Kd.C_below HR495_4.out (bG_ GE463.out))); (case s4 => exact HC495_4.out); rintro e w29 ⟨v497, v503, rfl, ho0, ho1, hb⟩; replace HO_5 := A_ (Kd.S_mono (Kd.S_told (Kd.S_told (Kd.S_old (vS_ HO_5.out) hb) (kb_ ho0)) (kb_ ho1)) (fun _ h_ => h_.1)); have HO498 := A_ (Kd.R_lower ho0 (below_size (bG_ GE463.out))); have HO504 := A_ (Kd.R_lower ho1 (below_size (bG_ GE463.out))); replace BK463 := A_ (bw_ BK463.out hb); replace HB := A_ (below_step (bG_ GE463.out) hb); (try clear hb); (try clear ho0); (try clear ho1); obtain ⟨Ao31, co31, eo31⟩ := Kd.R_slice HO498.out; subst eo31; obtain ⟨Ao32, co32, eo32⟩ := Kd.R_slice HO504.out; subst eo32) | ((with_reducible refine gate_builtin (b := .append) (xs := #[.tmp 42, .tmp 48]) rfl ?_); at_builtin; refine Kd.S_append k57 (w0 := w) w.heap.size rfl (.tmp 42) (.tmp 48) 26 57 (.agg #[(.slice none 0 0), (.bool false), (.string ⟨#[]⟩), (.int .i64 0), (.slice none 0 0)]) 80 rfl Try.underlying26 info57 rfl (by decide) (by omega) u5 x5_11 (⟨t496, t499, t500, t501, t502⟩ : S57) [.slice Ao31 t496.length co31, .bool t499, .string t500, .int .i64 t501, .slice Ao32 t502.length co32] (fun k_ => k_ ≠ gb463) (fun k_ => some k_ = (.slice Ao31 t496.length co31 : Value).ownBlock ∨ some k_ = (.slice Ao32 t502.length co32 : Value).ownBlock) rfl rfl ?aP (fun k_ hk_ => hk_.elim (fun h_ => ((Kd.R_mono (ok' := fun k_ => ((fun k_ => k_ ≠ gb463)) k_ ∧ some k_ ≠ (u5 : Value).ownBlock) (Kd.R_types (Kd.R_apart' (HO498.out) (Kd.S_typed HO_5.out) (by decide)) BK463.out (by decide)) (fun k_ hk => ⟨hk.2, hk.1.2⟩))).1 k_ h_.symm) (fun h_ => ((Kd.R_mono (ok' := fun k_ => ((fun k_ => k_ ≠ gb463)) k_ ∧ some k_ ≠ (u5 : Value).ownBlock) (Kd.R_types (Kd.R_apart' (HO504.out) (Kd.S_typed HO_5.out) (by decide)) BK463.out (by decide)) (fun k_ hk => ⟨hk.2, hk.1.2⟩))).1 k_ h_.symm)) ?aF ?aO ?aB ?aS ?aL ?_; (case aP => exact k57_mkM _ _ _ (⟨t496, t499, t500, t501, t502⟩ : S57) (Kd.R_mono (Kd.R_tight rfl (Kd.R_mono (ok' := fun k_ => ((fun k_ => k_ ≠ gb463)) k_ ∧ some k_ ≠ (u5 : Value).ownBlock) (Kd.R_types (Kd.R_apart' (HO498.out) (Kd.S_typed HO_5.out) (by decide)) BK463.out (by decide)) (fun k_ hk => ⟨hk.2, hk.1.2⟩))) (fun _ h_ => Or.inl h_)) (Kd.R_mono (Kd.R_tight rfl (Kd.R_mono (ok' := fun k_ => ((fun k_ => k_ ≠ gb463)) k_ ∧ some k_ ≠ (u5 : Value).ownBlock) (Kd.R_types (Kd.R_apart' (HO504.out) (Kd.S_typed HO_5.out) (by decide)) BK463.out (by decide)) (fun k_ hk => ⟨hk.2, hk.1.2⟩))) (fun _ h_ => Or.inr (h_)))); (case aB => exact (bG_ GE463.out)); (case aF => exact (fun k_ hk => Kd.freshB (g := gb463) (o := .cells #[.slice A1_0 l1_0.length c1_0, .bool a1_1, .string a1_2, .int .i64 a1_3, .slice A1_4 l1_4.length c1_4] 57 (0, 0)) (vb_ BK463.out) k_ hk)); (case aO => exact (by (with_reducible repeat (first | apply Kd.S_alloc | apply Kd.S_drewN | apply Kd.S_drew)); exact Kd.S_mono HO_5.out (fun k_ hk => ⟨hk.1.1, fun e_ => e_.elim (fun h_ => hk.1.2 h_) (fun h_ => hk.2 h_)⟩))); (case aS => exact (below_size (bG_ GE463.out))); (case aL => have := LMc27.out; omega); intro v506 w30 ho hb hg hat; rw [← Ny505.out] at ho; replace BK463 := A_ (blk_grown (g := gb463) (o := .cells #[.slice A1_0 l1_0.length c1_0, .bool a1_1, .string a1_2, .int .i64 a1_3, .slice A1_4 l1_4.length c1_4] 57 (0, 0)) (vb_ BK463.out) hg (Kd.S_away HO_5.out (fun _ hk => hk.1.1))); replace HB := A_ (hb); have HO507 := A_ (ho); clear HO_5 HO498 HO504; clear ho hb hg hat)); try go_wp2_with (first | (go_at_call 104; (with_reducible refine (spec_SamePath.calls kj11 _ _ ((rd_T57 l0 x7_1).f0) _ _ l1_0 false _ ?s1 ?s2 ?s3 ?s4 A23.out).mono ?_); (case s1 => exact cC_ (Kd.C_below HR493_0.out HB.out)); (case s2 => exact HC493_0.out); (case s3 => exact cC_ (Kd.C_below HR1_0.out HB.out)); (case s4 => exact HC1_0.out); rintro e w' ⟨rfl, ⟨nd, rfl⟩⟩; (try first | exact ⟨rfl, _, World.drewN_drewN _ _ _⟩ | exact ⟨rfl, _, Eq.trans (World.drewN_drewN _ _ _) (congrArg (World.drewN _) (Nat.add_assoc _ _ _))⟩); have p495 : 0 ≤ (x7_1 : Int) := of_decide_eq_true as_; have q495 : x7_1 < (l0.length : Int) := of_decide_eq_true as_; obtain ⟨ad495, A495_0, c495_0, A495_4, c495_4, e495, hx495_0, hx495_1, hx495_2, hx495_3, hx495_4, hl495_0, hi495_0, hl495_4, hi495_4⟩ := at_T57 HR0.out x7_1 p495 q495; obtain rfl : ad493 = ad495 := (by injection e495); replace hx495_0 := bc_ HB.out hx495_0; replace hx495_1 := bc_ HB.out hx495_1; replace hx495_2 := bc_ HB.out hx495_2; replace hx495_3 := bc_ HB.out hx495_3; replace hx495_4 := bc_ HB.out hx495_4; have HR495_0 := Aside0.mk hi495_0; have HC495_0 := Aside0.mk hl495_0; clear hi495_0 hl495_0; have HR495_4 := Aside0.mk hi495_4; have HC495_4 := Aside0.mk hl495_4; clear hi495_4 hl495_4; replace p495 := eq_true p495; replace q495 := eq_true q495; have ea_ := Option.some.inj (hx493_0.symm.trans hx495_0); injection ea_ with ea_ en_ ec_; subst ea_; subst ec_; clear en_; have ea_ := Option.some.inj (hx493_4.symm.trans hx495_4); injection ea_ with ea_ en_ ec_; subst ea_; subst ec_; clear en_) | (go_at_call 105; (with_reducible refine (spec_l10Copy.calls _ _ ((rd_T57 l0 x7_1).f0) ((rd_T57 l0 x7_1).f1) ((rd_T57 l0 x7_1).f2) ((rd_T57 l0 x7_1).f3) _ _ ((rd_T57 l0 x7_1).f4) t496 t499 t500 t501 t502 _ ?s1 ?s2 ?s3 ?s4 A26.out).mono ?_); (case s1 => exact cC_ (Kd.C_below HR495_0.out (bG_ GE463.out))); (case s2 => exact HC495_0.out); (case s3 => exact cC_ (Kd.C_below HR495_4.out (bG_ GE463.out))); (case s4 => exact HC495_4.out); rintro e w29 ⟨v497, v503, rfl, ho0, ho1, hb⟩; replace HO_5 := A_ (Kd.S_mono (Kd.S_told (Kd.S_told (Kd.S_old (vS_ HO_5.out) hb) (kb_ ho0)) (kb_ ho1)) (fun _ h_ => h_.1)); have HO498 := A_ (Kd.R_lower ho0 (below_size (bG_ GE463.out))); have HO504 := A_ (Kd.R_lower ho1 (below_size (bG_ GE463.out))); replace BK463 := A_ (bw_ BK463.out hb); replace HB := A_ (below_step (bG_ GE463.out) hb); (try clear hb); (try clear ho0); (try clear ho1); obtain ⟨Ao31, co31, eo31⟩ := Kd.R_slice HO498.out; subst eo31; obtain ⟨Ao32, co32, eo32⟩ := Kd.R_slice HO504.out; subst eo32) | ((with_reducible refine gate_builtin (b := .append) (xs := #[.tmp 42, .tmp 48]) rfl ?_); at_builtin; refine Kd.S_append k57 (w0 := w) w.heap.size rfl (.tmp 42) (.tmp 48) 26 57 (.agg #[(.slice none 0 0), (.bool false), (.string ⟨#[]⟩), (.int .i64 0), (.slice none 0 0)]) 80 rfl Try.underlying26 info57 rfl (by decide) (by omega) u5 x5_11 (⟨t496, t499, t500, t501, t502⟩ : S57) [.slice Ao31 t496.length co31, .bool t499, .string t500, .int .i64 t501, .slice Ao32 t502.length co32] (fun k_ => k_ ≠ gb463) (fun k_ => some k_ = (.slice Ao31 t496.length co31 : Value).ownBlock ∨ some k_ = (.slice Ao32 t502.length co32 : Value).ownBlock) rfl rfl ?aP (fun k_ hk_ => hk_.elim (fun h_ => ((Kd.R_mono (ok' := fun k_ => ((fun k_ => k_ ≠ gb463)) k_ ∧ some k_ ≠ (u5 : Value).ownBlock) (Kd.R_types (Kd.R_apart' (HO498.out) (Kd.S_typed HO_5.out) (by decide)) BK463.out (by decide)) (fun k_ hk => ⟨hk.2, hk.1.2⟩))).1 k_ h_.symm) (fun h_ => ((Kd.R_mono (ok' := fun k_ => ((fun k_ => k_ ≠ gb463)) k_ ∧ some k_ ≠ (u5 : Value).ownBlock) (Kd.R_types (Kd.R_apart' (HO504.out) (Kd.S_typed HO_5.out) (by decide)) BK463.out (by decide)) (fun k_ hk => ⟨hk.2, hk.1.2⟩))).1 k_ h_.symm)) ?aF ?aO ?aB ?aS ?aL ?_; (case aP => exact k57_mkM _ _ _ (⟨t496, t499, t500, t501, t502⟩ : S57) (Kd.R_mono (Kd.R_tight rfl (Kd.R_mono (ok' := fun k_ => ((fun k_ => k_ ≠ gb463)) k_ ∧ some k_ ≠ (u5 : Value).ownBlock) (Kd.R_types (Kd.R_apart' (HO498.out) (Kd.S_typed HO_5.out) (by decide)) BK463.out (by decide)) (fun k_ hk => ⟨hk.2, hk.1.2⟩))) (fun _ h_ => Or.inl h_)) (Kd.R_mono (Kd.R_tight rfl (Kd.R_mono (ok' := fun k_ => ((fun k_ => k_ ≠ gb463)) k_ ∧ some k_ ≠ (u5 : Value).ownBlock) (Kd.R_types (Kd.R_apart' (HO504.out) (Kd.S_typed HO_5.out) (by decide)) BK463.out (by decide)) (fun k_ hk => ⟨hk.2, hk.1.2⟩))) (fun _ h_ => Or.inr (h_)))); (case aB => exact (bG_ GE463.out)); (case aF => exact (fun k_ hk => Kd.freshB (g := gb463) (o := .cells #[.slice A1_0 l1_0.length c1_0, .bool a1_1, .string a1_2, .int .i64 a1_3, .slice A1_4 l1_4.length c1_4] 57 (0, 0)) (vb_ BK463.out) k_ hk)); (case aO => exact (by (with_reducible repeat (first | apply Kd.S_alloc | apply Kd.S_drewN | apply Kd.S_drew)); exact Kd.S_mono HO_5.out (fun k_ hk => ⟨hk.1.1, fun e_ => e_.elim (fun h_ => hk.1.2 h_) (fun h_ => hk.2 h_)⟩))); (case aS => exact (below_size (bG_ GE463.out))); (case aL => have := LMc27.out; omega); intro v506 w30 ho hb hg hat; rw [← Ny505.out] at ho; replace BK463 := A_ (blk_grown (g := gb463) (o := .cells #[.slice A1_0 l1_0.length c1_0, .bool a1_1, .string a1_2, .int .i64 a1_3, .slice A1_4 l1_4.length c1_4] 57 (0, 0)) (vb_ BK463.out) hg (Kd.S_away HO_5.out (fun _ hk => hk.1.1))); replace HB := A_ (hb); have HO507 := A_ (ho); clear HO_5 HO498 HO504; clear ho hb hg hat)))
         go_roundg kj11
         case measure => have := HK1.out; have := HJ6.out; have := HJ11.out; omega
         case rel => exact ⟨(y505), (x6_11), (wrap64 (x7_1 + 1)), rs_, rs_, H', ⟨by have := HK1.out; have := HJ6.out; have := HJ11.out; omega⟩, ⟨vS_ HO507.out⟩, ⟨vb_ BK463.out⟩, ⟨bG_ GE463.out⟩⟩
mutual
def spec_MakeColl.j1 : Nat → List (S57) → List ByteArray → Int → Int → Option ((List (S57)) × Int)
 | 0, _, _, _, _ => none
 | k + 1, x0, x1, x2, x8 => if x8 = 0 then ((spec_l11Put.f k x0 x1 true (⟨#[]⟩ : ByteArray) x2 ([] : List (S72))).bind fun t514 => (some (t514, 201))) else ((spec_l10CopyAll.f k x0).bind fun t517 => (some (t517, x8)))
def spec_MakeColl.j0 : Nat → List (S57) → List ByteArray → Int → Int → Bool → Option ((List (S57)) × Int)
 | 0, _, _, _, _, _ => none
 | k + 1, x0, x1, x2, x8, x16 => if x16 = true then (spec_MakeColl.j1 k x0 x1 x2 405) else ((spec_Above.f x1).bind fun t510 => ((spec_IsColl.f k x0 t510).bind fun t513 => (if t513 = true then (if (x0.length : Int) ≥ 12 then (spec_MakeColl.j1 k x0 x1 x2 507) else (spec_MakeColl.j1 k x0 x1 x2 x8)) else (spec_MakeColl.j1 k x0 x1 x2 409))))
end
def spec_MakeColl.f (k : Nat) (l0 : List (S57)) (l1 : List ByteArray) (a2 : Int) : Option ((List (S57)) × Int) := (spec_l11May.f k l0 l1 a2).bind fun t508 => (if t508 = 0 then (if (l1.length : Int) = 0 then (spec_MakeColl.j0 k l0 l1 a2 t508 true) else ((spec_FindRes.f k l0 l1).bind fun t509 => (spec_MakeColl.j0 k l0 l1 a2 t508 (decide (t509 ≥ 0))))) else (spec_MakeColl.j1 k l0 l1 a2 t508))
set_option maxHeartbeats 8000000 in
set_option maxRecDepth 100000 in
theorem spec_MakeColl.calls (k : Nat) (P0_ : Nat → Prop) (A0 : Option Addr) (c0 : Nat) (l0 : List (S57)) (P1_ : Nat → Prop) (A1 : Option Addr) (c1 : Nat) (l1 : List ByteArray) (a2 : Int) (r1 : List (S57)) (r2 : Int) (w : World) (hs0 : Kd.V k57 57 w w.heap.size (fun k_ => P0_ k_) (.slice A0 l0.length c0) l0) (hs1 : Kd.V Kd.string 9 w w.heap.size (fun k_ => P1_ k_) (.slice A1 l1.length c1) l1) (h : spec_MakeColl.f k l0 l1 a2 = some (r1, r2)) :
 Calls Try.prog 24 #[.slice A0 l0.length c0, .slice A1 l1.length c1, .int .i64 a2] w fun e w' => ∃ v0_ : Value, e = .returned (.tuple #[v0_, .int .i64 r2]) ∧ Kd.S k57 57 w' w.heap.size (fun k_ => (w.heap.size ≤ k_)) v0_ r1 ∧ Below w.heap.size w w' := by
 have hu57 := Try.underlying57
 have HO0 := A_ (show Kd.V k57 57 w w.heap.size (fun k_ => ((P0_ k_ ∨ P1_ k_) ∨ w.heap.size ≤ k_)) (.slice A0 l0.length c0) l0 from Kd.V_mono hs0 (fun k_ hk => .inl (.inl hk)))
 have HO1 := A_ (show Kd.V Kd.string 9 w w.heap.size (fun k_ => ((P0_ k_ ∨ P1_ k_) ∨ w.heap.size ≤ k_)) (.slice A1 l1.length c1) l1 from Kd.V_mono hs1 (fun k_ hk => .inl (.inr hk)))
 have HB := A_ (Below.refl w.heap.size w)
 have H : ((spec_l11May.f k l0 l1 a2).bind fun t508 => (if t508 = 0 then (if (l1.length : Int) = 0 then (spec_MakeColl.j0 k l0 l1 a2 t508 true) else ((spec_FindRes.f k l0 l1).bind fun t509 => (spec_MakeColl.j0 k l0 l1 a2 t508 (decide (t509 ≥ 0))))) else (spec_MakeColl.j1 k l0 l1 a2 t508))) = some (r1, r2) := h
 clear h
 obtain ⟨t508, A4, H⟩ := bo_ H
 (try dsimp only at H)
 have HC5 := Aside0.mk H
 clear H
 go_enter Try.func24, Try.ntmps24
 go_upto_block 0 with (first | ((with_reducible refine gate_callee (f := 60) rfl ?_); refine gL_ (some 12) Try.func60 #[.slice A0 l0.length c0, .slice A1 l1.length c1, .int .i64 a2] ?_; (with_reducible refine (spec_l11May.calls k _ _ l0 _ _ l1 a2 t508 _ ?s1 ?s2 ?s3 ?s4 A4.out).mono ?_); (case s1 => exact cC_ (Kd.V_reads' HO0.out).2.2); (case s2 => exact (Kd.V_reads' HO0.out).2.1); (case s3 => exact cC_ (Kd.V_reads' HO1.out).2.2); (case s4 => exact (Kd.V_reads' HO1.out).2.1); rintro e w6 ⟨rfl, hb⟩; refine ⟨_, rfl, ?_⟩; replace HO0 := A_ (Kd.V_below (vV_ HO0.out) hb); replace HO1 := A_ (Kd.V_below (vV_ HO1.out) hb); replace HB := A_ (below_step bB_ hb); (try clear hb)))
 (try simp only [Act.put, List.setIfInBounds_toArray, List.set_cons_zero, List.set_cons_succ])
 go_cut [8] (fun v8 wc => ∃ (kq : Nat) (x8_4 : Int), v8 = .int .i64 x8_4 ∧ Aside0 (spec_MakeColl.j1 kq l0 l1 a2 x8_4 = some (r1, r2)) ∧ Aside0 (kq ≤ k) ∧ Aside0 (Kd.V k57 57 wc w.heap.size (fun k_ => ((P0_ k_ ∨ P1_ k_) ∨ w.heap.size ≤ k_)) (.slice A0 l0.length c0) l0) ∧ Aside0 (Kd.V Kd.string 9 wc w.heap.size (fun k_ => ((P0_ k_ ∨ P1_ k_) ∨ w.heap.size ≤ k_)) (.slice A1 l1.length c1) l1) ∧ Aside0 (Below w.heap.size w wc))
 case first =>
  have H := HC5.out
  clear HC5
  by_cases c7 : t508 = 0
  rotate_left
  · rw [if_neg c7] at H
    have c7b0 : (t508 == 0) = false := beq_eq_false_iff_ne.mpr c7
    have c7b1 : (t508 != 0) = true := bne_iff_ne.mpr c7
    (first | rw [c7b0] | (simp only [i64_w, i32_w]; rw [c7b0]) | skip)
    have H' := Aside0.mk H
    clear H
    go_wp2
    go_meet
    case rel => exact ⟨_, (t508), rs_, H', ⟨by first | omega | exact Nat.le_refl _⟩, ⟨vV_ HO0.out⟩, ⟨vV_ HO1.out⟩, ⟨bB_⟩⟩
  rw [if_pos c7] at H
  have c7b0 : (t508 == 0) = true := beq_iff_eq.mpr c7
  have c7b1 : (t508 != 0) = false := bne_eq_false_iff_eq.mpr c7
  clear c7
  (first | rw [c7b0] | (simp only [i64_w, i32_w]; rw [c7b0]) | skip)
  have HC8 := Aside0.mk H
  clear H
  go_upto_region 3 with (fail)
  go_cut [16] (fun v16 wc => ∃ (kq : Nat) (x16_7 : Bool), v16 = .bool x16_7 ∧ Aside0 (spec_MakeColl.j0 kq l0 l1 a2 t508 x16_7 = some (r1, r2)) ∧ Aside0 (kq ≤ k) ∧ Aside0 (Kd.V k57 57 wc w.heap.size (fun k_ => ((P0_ k_ ∨ P1_ k_) ∨ w.heap.size ≤ k_)) (.slice A0 l0.length c0) l0) ∧ Aside0 (Kd.V Kd.string 9 wc w.heap.size (fun k_ => ((P0_ k_ ∨ P1_ k_) ∨ w.heap.size ≤ k_)) (.slice A1 l1.length c1) l1) ∧ Aside0 (Below w.heap.size w wc))
  case first =>
   have H := HC8.out
   clear HC8
   by_cases c9 : (l1.length : Int) = 0
   · rw [if_pos c9] at H
     have c9b0 : ((l1.length : Int) == 0) = true := beq_iff_eq.mpr c9
     have c9b1 : ((l1.length : Int) != 0) = false := bne_eq_false_iff_eq.mpr c9
     clear c9
     (first | rw [c9b0] | (simp only [i64_w, i32_w]; rw [c9b0]) | skip)
     have H' := Aside0.mk H
     clear H
     go_wp2
     go_meet
     case rel => exact ⟨_, (true), rs_, H', ⟨by first | omega | exact Nat.le_refl _⟩, ⟨vV_ HO0.out⟩, ⟨vV_ HO1.out⟩, ⟨bB_⟩⟩
   rw [if_neg c9] at H
   have c9b0 : ((l1.length : Int) == 0) = false := beq_eq_false_iff_ne.mpr c9
   have c9b1 : ((l1.length : Int) != 0) = true := bne_iff_ne.mpr c9
   have c9b2 : ¬ (l1 = []) := fun h_ => c9 (by rw [h_]; rfl)
   (first | rw [c9b0] | (simp only [i64_w, i32_w]; rw [c9b0]) | skip)
   obtain ⟨t509, A10, H⟩ := bo_ H
   (try dsimp only at H)
   have H' := Aside0.mk H
   clear H
   go_wp2_with (first | (go_at_call 61; (with_reducible refine (spec_FindRes.calls k _ _ l0 _ _ l1 t509 _ ?s1 ?s2 ?s3 ?s4 A10.out).mono ?_); (case s1 => exact cC_ (Kd.V_reads' HO0.out).2.2); (case s2 => exact (Kd.V_reads' HO0.out).2.1); (case s3 => exact cC_ (Kd.V_reads' HO1.out).2.2); (case s4 => exact (Kd.V_reads' HO1.out).2.1); rintro e w' ⟨rfl, ⟨nd, rfl⟩⟩))
   go_meet
   case rel => exact ⟨_, (decide (t509 ≥ 0)), rs_, H', ⟨by first | omega | exact Nat.le_refl _⟩, ⟨vV_ HO0.out⟩, ⟨vV_ HO1.out⟩, ⟨bB_⟩⟩
  case rest =>
   clear HC8
   try clear c1
   try clear c2
   try clear p2
   try clear c6
   try clear c7
   try clear c7b0
   try clear c7b1
   try clear c9
   try clear c9b0
   try clear c9b1
   try clear c9b2
   obtain ⟨kq, x16_7, rfl, HA, HJ7, HO_0, HO_1, HB⟩ := hcut
   cases kq with
   | zero => exact absurd HA.out (by simp [spec_MakeColl.j0])
   | succ kj7 =>
    have H := HA.out
    clear HA
    simp only [spec_MakeColl.j0] at H
    by_cases c11 : x16_7 = true
    · subst c11
      rw [if_pos rfl] at H
      have H' := Aside0.mk H
      clear H
      go_wp2
      go_meet
      case rel => exact ⟨_, (405), rs_, H', ⟨by have := HJ7.out; first | omega | exact Nat.le_refl _⟩, ⟨vV_ HO_0.out⟩, ⟨vV_ HO_1.out⟩, ⟨bB_⟩⟩
    · replace c11 := Bool.eq_false_iff.mpr c11
      subst c11
      rw [if_neg nf_] at H
      obtain ⟨t510, A12, H⟩ := bo_ H
      (try dsimp only at H)
      obtain ⟨t513, A13, H⟩ := bo_ H
      (try dsimp only at H)
      by_cases c14 : t513 = true
      · subst c14
        rw [if_pos rfl] at H
        by_cases c15 : (l0.length : Int) ≥ 12
        · rw [if_pos c15] at H
          have c15b0 : decide (12 ≤ (l0.length : Int)) = true := decide_eq_true c15
          have c15b1 : decide (12 ≤ l0.length) = true := decide_eq_true (by omega)
          clear c15
          have H' := Aside0.mk H
          clear H
          go_wp2_with (first | ((with_reducible refine gate_callee (f := 74) rfl ?_); refine gL_ (some 29) Try.func74 #[.slice A1 l1.length c1] ?_; (with_reducible refine (spec_Above.calls _ _ l1 t510 _ ?s1 ?s2 A12.out).mono ?_); (case s1 => exact cC_ (Kd.V_reads' HO_1.out).2.2); (case s2 => exact (Kd.V_reads' HO_1.out).2.1); rintro e w16 ⟨v511, rfl, ho0, hb⟩; refine ⟨_, rfl, ?_⟩; replace HO_0 := A_ (Kd.V_elder' (vV_ HO_0.out) (kb_ ho0) hb); replace HO_1 := A_ (Kd.V_elder' (vV_ HO_1.out) (kb_ ho0) hb); have HO512 := A_ (Kd.R_lower (Kd.R_newM (M := fun k_ => (w.heap.size ≤ k_)) ho0 (below_size bB_) (fun k_ h_ => h_)) (below_size bB_)); replace HB := A_ (below_step bB_ hb); (try clear hb); (try clear ho0); obtain ⟨Ao17, co17, eo17⟩ := Kd.R_slice HO512.out; subst eo17) | ((with_reducible refine gate_callee (f := 73) rfl ?_); refine gL_ (some 30) Try.func73 #[.slice A0 l0.length c0, .slice Ao17 t510.length co17] ?_; (with_reducible refine (spec_IsColl.calls kj7 _ _ l0 _ _ t510 true _ ?s1 ?s2 ?s3 ?s4 A13.out).mono ?_); (case s1 => exact cC_ (Kd.V_reads' HO_0.out).2.2); (case s2 => exact (Kd.V_reads' HO_0.out).2.1); (case s3 => exact cC_ (Kd.R_reads' HO512.out).2.2); (case s4 => exact (Kd.R_reads' HO512.out).2.1); rintro e w' ⟨rfl, ⟨nd, rfl⟩⟩; refine ⟨_, rfl, ?_⟩))
          go_meet
          case rel => exact ⟨_, (507), rs_, H', ⟨by have := HJ7.out; first | omega | exact Nat.le_refl _⟩, ⟨by (with_reducible repeat (first | apply Kd.V_alloc | apply Kd.V_drewN | apply Kd.V_drew)); exact Kd.V_mono HO_0.out (fun _ hk => hk.1)⟩, ⟨by (with_reducible repeat (first | apply Kd.V_alloc | apply Kd.V_drewN | apply Kd.V_drew)); exact Kd.V_mono HO_1.out (fun _ hk => hk.1)⟩, ⟨bB_⟩⟩
        rw [if_neg c15] at H
        have c15b0 : decide (12 ≤ (l0.length : Int)) = false := decide_eq_false c15
        have c15b1 : decide (12 ≤ l0.length) = false := decide_eq_false (by omega)
        clear c15
        have H' := Aside0.mk H
        clear H
        go_wp2_with (first | ((with_reducible refine gate_callee (f := 74) rfl ?_); refine gL_ (some 29) Try.func74 #[.slice A1 l1.length c1] ?_; (with_reducible refine (spec_Above.calls _ _ l1 t510 _ ?s1 ?s2 A12.out).mono ?_); (case s1 => exact cC_ (Kd.V_reads' HO_1.out).2.2); (case s2 => exact (Kd.V_reads' HO_1.out).2.1); rintro e w18 ⟨v511, rfl, ho0, hb⟩; refine ⟨_, rfl, ?_⟩; replace HO_0 := A_ (Kd.V_elder' (vV_ HO_0.out) (kb_ ho0) hb); replace HO_1 := A_ (Kd.V_elder' (vV_ HO_1.out) (kb_ ho0) hb); have HO512 := A_ (Kd.R_lower (Kd.R_newM (M := fun k_ => (w.heap.size ≤ k_)) ho0 (below_size bB_) (fun k_ h_ => h_)) (below_size bB_)); replace HB := A_ (below_step bB_ hb); (try clear hb); (try clear ho0); obtain ⟨Ao19, co19, eo19⟩ := Kd.R_slice HO512.out; subst eo19) | ((with_reducible refine gate_callee (f := 73) rfl ?_); refine gL_ (some 30) Try.func73 #[.slice A0 l0.length c0, .slice Ao19 t510.length co19] ?_; (with_reducible refine (spec_IsColl.calls kj7 _ _ l0 _ _ t510 true _ ?s1 ?s2 ?s3 ?s4 A13.out).mono ?_); (case s1 => exact cC_ (Kd.V_reads' HO_0.out).2.2); (case s2 => exact (Kd.V_reads' HO_0.out).2.1); (case s3 => exact cC_ (Kd.R_reads' HO512.out).2.2); (case s4 => exact (Kd.R_reads' HO512.out).2.1); rintro e w' ⟨rfl, ⟨nd, rfl⟩⟩; refine ⟨_, rfl, ?_⟩))
        go_meet
        case rel => exact ⟨_, (t508), rs_, H', ⟨by have := HJ7.out; first | omega | exact Nat.le_refl _⟩, ⟨by (with_reducible repeat (first | apply Kd.V_alloc | apply Kd.V_drewN | apply Kd.V_drew)); exact Kd.V_mono HO_0.out (fun _ hk => hk.1)⟩, ⟨by (with_reducible repeat (first | apply Kd.V_alloc | apply Kd.V_drewN | apply Kd.V_drew)); exact Kd.V_mono HO_1.out (fun _ hk => hk.1)⟩, ⟨bB_⟩⟩
      · replace c14 := Bool.eq_false_iff.mpr c14
        subst c14
        rw [if_neg nf_] at H
        have H' := Aside0.mk H
        clear H
        go_wp2_with (first | ((with_reducible refine gate_callee (f := 74) rfl ?_); refine gL_ (some 29) Try.func74 #[.slice A1 l1.length c1] ?_; (with_reducible refine (spec_Above.calls _ _ l1 t510 _ ?s1 ?s2 A12.out).mono ?_); (case s1 => exact cC_ (Kd.V_reads' HO_1.out).2.2); (case s2 => exact (Kd.V_reads' HO_1.out).2.1); rintro e w20 ⟨v511, rfl, ho0, hb⟩; refine ⟨_, rfl, ?_⟩; replace HO_0 := A_ (Kd.V_elder' (vV_ HO_0.out) (kb_ ho0) hb); replace HO_1 := A_ (Kd.V_elder' (vV_ HO_1.out) (kb_ ho0) hb); have HO512 := A_ (Kd.R_lower (Kd.R_newM (M := fun k_ => (w.heap.size ≤ k_)) ho0 (below_size bB_) (fun k_ h_ => h_)) (below_size bB_)); replace HB := A_ (below_step bB_ hb); (try clear hb); (try clear ho0); obtain ⟨Ao21, co21, eo21⟩ := Kd.R_slice HO512.out; subst eo21) | ((with_reducible refine gate_callee (f := 73) rfl ?_); refine gL_ (some 30) Try.func73 #[.slice A0 l0.length c0, .slice Ao21 t510.length co21] ?_; (with_reducible refine (spec_IsColl.calls kj7 _ _ l0 _ _ t510 false _ ?s1 ?s2 ?s3 ?s4 A13.out).mono ?_); (case s1 => exact cC_ (Kd.V_reads' HO_0.out).2.2); (case s2 => exact (Kd.V_reads' HO_0.out).2.1); (case s3 => exact cC_ (Kd.R_reads' HO512.out).2.2); (case s4 => exact (Kd.R_reads' HO512.out).2.1); rintro e w' ⟨rfl, ⟨nd, rfl⟩⟩; refine ⟨_, rfl, ?_⟩))
        go_meet
        case rel => exact ⟨_, (409), rs_, H', ⟨by have := HJ7.out; first | omega | exact Nat.le_refl _⟩, ⟨by (with_reducible repeat (first | apply Kd.V_alloc | apply Kd.V_drewN | apply Kd.V_drew)); exact Kd.V_mono HO_0.out (fun _ hk => hk.1)⟩, ⟨by (with_reducible repeat (first | apply Kd.V_alloc | apply Kd.V_drewN | apply Kd.V_drew)); exact Kd.V_mono HO_1.out (fun _ hk => hk.1)⟩, ⟨bB_⟩⟩
 case rest =>
  clear HC5
  try clear c1
  try clear c2
  try clear p2
  try clear c6
  try clear c7
  try clear c7b0
  try clear c7b1
  try clear c9
  try clear c9b0
  try clear c9b1
  try clear c9b2
  try clear c11
  try clear c14
  try clear c15
  try clear c15b0
  try clear c15b1
  try clear p2
  obtain ⟨kq, x8_4, rfl, HA, HJ4, HO_0, HO_1, HB⟩ := hcut
  cases kq with
  | zero => exact absurd HA.out (by simp [spec_MakeColl.j1])
  | succ kj4 =>
   have H := HA.out
   clear HA
   simp only [spec_MakeColl.j1] at H
   by_cases c22 : x8_4 = 0
   rotate_left
   · rw [if_neg c22] at H
     have c22b0 : (x8_4 == 0) = false := beq_eq_false_iff_ne.mpr c22
     have c22b1 : (x8_4 != 0) = true := bne_iff_ne.mpr c22
     obtain ⟨t517, A25, H⟩ := bo_ H
     (try dsimp only at H)
     simp only [Option.some.injEq, Prod.mk.injEq] at H
     obtain ⟨rfl, rfl⟩ := H
     go_wp2_with (first | ((with_reducible refine gate_callee (f := 62) rfl ?_); refine gL_ (some 39) Try.func62 #[.slice A0 l0.length c0] ?_; (with_reducible refine (spec_l10CopyAll.calls kj4 _ _ l0 t517 _ ?s1 ?s2 A25.out).mono ?_); (case s1 => exact cC_ (Kd.V_reads' HO_0.out).2.2); (case s2 => exact (Kd.V_reads' HO_0.out).2.1); rintro e w26 ⟨v518, rfl, ho0, hb⟩; refine ⟨_, rfl, ?_⟩; replace HO_0 := A_ (Kd.V_elder' (vV_ HO_0.out) (kb_ ho0) hb); replace HO_1 := A_ (Kd.V_elder' (vV_ HO_1.out) (kb_ ho0) hb); have HO519 := A_ (Kd.S_lower (Kd.S_newM (M := fun k_ => (w.heap.size ≤ k_)) ho0 (below_size bB_) (fun k_ h_ => h_)) (below_size bB_)); replace HB := A_ (below_step bB_ hb); (try clear hb); (try clear ho0)))
     go_ret2
     exact ⟨_, rr_, by (with_reducible repeat (first | apply Kd.S_alloc | apply Kd.S_drewN | apply Kd.S_drew)); exact Kd.S_mono HO519.out (fun _ hk => hk.1), bB_⟩
   rw [if_pos c22] at H
   have c22b0 : (x8_4 == 0) = true := beq_iff_eq.mpr c22
   have c22b1 : (x8_4 != 0) = false := bne_eq_false_iff_eq.mpr c22
   clear c22
   obtain ⟨t514, A23, H⟩ := bo_ H
   (try dsimp only at H)
   simp only [Option.some.injEq, Prod.mk.injEq] at H
   obtain ⟨rfl, rfl⟩ := H
   go_wp2_with (first | ((with_reducible refine gate_callee (f := 75) rfl ?_); refine gL_ (some 45) Try.func75 #[.slice A0 l0.length c0, .agg #[.slice A1 l1.length c1, .bool true, .string (⟨#[]⟩ : ByteArray), .int .i64 a2, .slice none 0 0]] ?_; (refine (spec_l11Put.calls kj4 _ _ l0 _ _ l1 true (⟨#[]⟩ : ByteArray) a2 _ _ ([] : List (S72)) t514 _ ?s1 ?s2 ?s3 ?s4 ?s5 ?s6 A23.out).mono ?_); (case s1 => exact cC_ (Kd.V_reads' HO_0.out).2.2); (case s2 => exact (Kd.V_reads' HO_0.out).2.1); (case s3 => exact cC_ (Kd.V_reads' HO_1.out).2.2); (case s4 => exact (Kd.V_reads' HO_1.out).2.1); (case s5 => exact Kd.C_nil _ _); (case s6 => exact Nat.le_refl _); rintro e w24 ⟨v515, rfl, ho0, hb⟩; refine ⟨_, rfl, ?_⟩; replace HO_0 := A_ (Kd.V_elder' (vV_ HO_0.out) (kb_ ho0) hb); replace HO_1 := A_ (Kd.V_elder' (vV_ HO_1.out) (kb_ ho0) hb); have HO516 := A_ (Kd.S_lower (Kd.S_newM (M := fun k_ => (w.heap.size ≤ k_)) ho0 (below_size bB_) (fun k_ h_ => h_)) (below_size bB_)); replace HB := A_ (below_step bB_ hb); (try clear hb); (try clear ho0)))
   go_ret2
   exact ⟨_, rr_, by (with_reducible repeat (first | apply Kd.S_alloc | apply Kd.S_drewN | apply Kd.S_drew)); exact Kd.S_mono HO516.out (fun _ hk => hk.1), bB_⟩
def impl_withRes.l0 : Nat → List (S57) → Int → List ByteArray → Bool → ByteArray → Int → List (S72) → Option ((List (S57)))
  | 0, _, _, _, _, _, _, _ => none
  | k + 1, x0, x5, x521000, x521001, x521002, x521003, x521004 => if x5 < (x0.length : Int) then (if 0 ≤ x5 then ((impl_LessPath.f k ((rd_T57 x0 x5).f0) x521000).bind fun t522 => (if t522 = true then (impl_withRes.l0 k x0 (wrap64 (x5 + 1)) x521000 x521001 x521002 x521003 x521004) else (if x5 ≤ (x0.length : Int) then ((some (x0.take (x5 : Int).toNat : List (S57))).bind fun y523 => (if ([] : List (S57)).length + y523.length < 1759218604441 then ((some (([] : List (S57)) ++ y523 : List (S57))).bind fun y528 => ((some (([(⟨x521000, x521001, x521002, x521003, x521004⟩ : S57)] : List (S57)) : List (S57))).bind fun y531 => (if y528.length + y531.length < 1759218604441 then ((some (y528 ++ y531 : List (S57))).bind fun y534 => ((some (x0.drop (x5 : Int).toNat : List (S57))).bind fun y537 => (if y534.length + y537.length < 1759218604441 then (some (y534 ++ y537)) else (none)))) else (none)))) else (none))) else (none)))) else (none)) else (if 0 ≤ x5 then (if x5 ≤ (x0.length : Int) then ((some (x0.take (x5 : Int).toNat : List (S57))).bind fun y545 => (if ([] : List (S57)).length + y545.length < 1759218604441 then ((some (([] : List (S57)) ++ y545 : List (S57))).bind fun y550 => ((some (([(⟨x521000, x521001, x521002, x521003, x521004⟩ : S57)] : List (S57)) : List (S57))).bind fun y553 => (if y550.length + y553.length < 1759218604441 then ((some (y550 ++ y553 : List (S57))).bind fun y556 => ((some (x0.drop (x5 : Int).toNat : List (S57))).bind fun y559 => (if y556.length + y559.length < 1759218604441 then (some (y556 ++ y559)) else (none)))) else (none)))) else (none))) else (none)) else (none))
def impl_withRes.f (k : Nat) (l0 : List (S57)) (l1_0 : List ByteArray) (a1_1 : Bool) (a1_2 : ByteArray) (a1_3 : Int) (l1_4 : List (S72)) : Option ((List (S57))) := impl_withRes.l0 k l0 0 l1_0 a1_1 a1_2 a1_3 l1_4
def impl_withRes.T2 : Bool × List (List Nat × List Nat) := (true, [([], []), ([], []), ([1], [1]), ([0, 2], [0, 2]), ([3], [3]), ([4], [4]), ([4], [4]), ([5, 6, 4], [4, 5, 6]), ([7, 4], [4, 7]), ([8, 4], [4, 8]), ([4], [4]), ([10, 4], [4, 10]), ([9, 11, 4, 4], [4, 9, 11]), ([4, 12], [4, 12])])
def impl_withRes.B2 : List Nat := [0, 0, 2, 7, 15, 31, 31, 127, 255, 511, 31, 1055, 4095, 8191]
theorem impl_withRes.tab2 : rtab .any (opsOf Try.f76 2) = impl_withRes.T2 := by kernel_rfl
theorem impl_withRes.bits2 : waitsOk impl_withRes.T2.2 impl_withRes.B2 = true := by kernel_rfl
def impl_withRes.T4 : Bool × List (List Nat × List Nat) := (true, [([], []), ([], []), ([0, 1], [0, 1]), ([2], [2]), ([], []), ([4], [4]), ([3, 5, 3], [3, 5]), ([], []), ([], []), ([7, 8], [7, 8]), ([6, 9, 6], [6, 9]), ([10, 10, 0, 1, 2, 3, 4, 5, 6, 7, 8, 9, 10], [10])])
def impl_withRes.B4 : List Nat := [0, 0, 3, 7, 0, 16, 63, 0, 0, 384, 1023, 2047]
theorem impl_withRes.tab4 : rtab .any (opsOf Try.f76 4) = impl_withRes.T4 := by kernel_rfl
theorem impl_withRes.bits4 : waitsOk impl_withRes.T4.2 impl_withRes.B4 = true := by kernel_rfl
def spec_PutFile.j0 : Nat → List (S57) → List ByteArray → ByteArray → Int → Int → Int → Option ((List (S57)) × Int)
 | 0, _, _, _, _, _, _ => none
 | k + 1, x0, x1, x2, x3, x10, x11 => if x10 = 0 then (if x11 < 0 then ((spec_l11Put.f k x0 x1 false x2 x3 ([] : List (S72))).bind fun t627 => (some (t627, 201))) else (if 0 ≤ x11 then (if x11 < (x0.length : Int) then ((spec_l11Put.f k x0 x1 false x2 x3 ((rd_T57 x0 x11).f4)).bind fun t631 => (some (t631, 204))) else (none)) else (none))) else ((spec_l10CopyAll.f k x0).bind fun t623 => (some (t623, x10)))
def spec_PutFile.f (k : Nat) (l0 : List (S57)) (l1 : List ByteArray) (a2 : ByteArray) (a3 : Int) : Option ((List (S57)) × Int) := (spec_l11May.f k l0 l1 a3).bind fun t616 => ((spec_FindRes.f k l0 l1).bind fun t617 => (if t616 = 0 then ((spec_IsColl.f k l0 l1).bind fun t618 => (if t618 = true then (spec_PutFile.j0 k l0 l1 a2 a3 405 t617) else ((spec_Above.f l1).bind fun t619 => ((spec_IsColl.f k l0 t619).bind fun t622 => (if t622 = true then (if (a2.size : Int) > 200 then (spec_PutFile.j0 k l0 l1 a2 a3 413 t617) else (if t617 < 0 then (if (l0.length : Int) ≥ 12 then (spec_PutFile.j0 k l0 l1 a2 a3 507 t617) else (spec_PutFile.j0 k l0 l1 a2 a3 t616 t617)) else (spec_PutFile.j0 k l0 l1 a2 a3 t616 t617))) else (spec_PutFile.j0 k l0 l1 a2 a3 409 t617)))))) else (spec_PutFile.j0 k l0 l1 a2 a3 t616 t617)))
def impl_PutFile.f (k : Nat) (l0 : List (S57)) (l1 : List ByteArray) (a2 : ByteArray) (a3 : Int) : Option ((List (S57)) × Int) := (impl_copyTree.f k l0).bind fun t634 => ((impl_opForm.f k l0 a3 (([l1] : List (List ByteArray)))).bind fun t640 => (if t640 = 0 then ((impl_FindRes.f k l0 l1).bind fun t641 => ((impl_IsColl.f k l0 l1).bind fun t642 => (if t642 = true then (some (t634, 405)) else ((impl_Above.f l1).bind fun t643 => ((impl_IsColl.f k l0 t643).bind fun t646 => (if t646 = true then (if (a2.size : Int) > 200 then (some (t634, 413)) else (if t641 ≥ 0 then (if 0 ≤ t641 then (if t641 < (t634.length : Int) then ((some (t634.set (t641 : Int).toNat (⟨(rd_T57 t634 t641).f0, (rd_T57 t634 t641).f1, a2, (rd_T57 t634 t641).f3, (rd_T57 t634 t641).f4⟩ : S57) : List (S57))).bind fun y647 => (some ((y647.set (t641 : Int).toNat (⟨(rd_T57 y647 t641).f0, (rd_T57 y647 t641).f1, (rd_T57 y647 t641).f2, a3, (rd_T57 y647 t641).f4⟩ : S57)), 204))) else (none)) else (none)) else (if (l0.length : Int) ≥ 12 then (some (t634, 507)) else ((impl_copyPath.f l1).bind fun t649 => ((impl_withRes.f k t634 t649 false a2 a3 ([] : List (S72))).bind fun t652 => (some (t652, 201))))))) else (some (t634, 409)))))))) else (some (t634, t640))))
end Go.Proofs.Ytbgggcgjijljkaa.Q
