import Derived.Test.YtbgggcgjijljkaaVMoveTreeG27
set_option maxHeartbeats 8000000
set_option maxRecDepth 100000
namespace Go.Proofs.Ytbgggcgjijljkaa.Q
open Go.RowKit Go.Proofs.YtbgggcgjijljkaaW.PrintWords Go.Proofs.YtbgggcgjijljkaaW.PrintLast Go.Proofs.YtbgggcgjijljkaaW.PrintMore
attribute [local go_sem] max2_int min2_int max_two min_two max_three min_three max_four min_four
set_option linter.unusedVariables false
set_option linter.unusedSimpArgs false
mutual
def spec_l11Put.l0 : Nat -> List (S57) -> List (S57) -> Bool -> Int -> List ByteArray -> Bool -> ByteArray -> Int -> List (S72) -> Option ((List (S57)))
 | 0, _, _, _, _, _, _, _, _, _ => none
 | k + 1, x0, x5, x6, x7, x464000, x464001, x464002, x464003, x464004 => if x7 < (x0.length : Int) then (if x6 = true then (spec_l11Put.j1 k x0 x5 x6 x7 false x464000 x464001 x464002 x464003 x464004) else (if 0 <= x7 then ((spec_LessPath.f k ((rd_T57 x0 x7).f0) x464000).bind fun t480 => (spec_l11Put.j1 k x0 x5 x6 x7 (!t480) x464000 x464001 x464002 x464003 x464004)) else (none))) else (if x6 = true then (some x5) else ((spec_l10Copy.f x464000 x464001 x464002 x464003 x464004).bind fun bt467 => (if x5.length < 1759218604441 then (some (x5 ++ [(⟨bt467.1, bt467.2.1, bt467.2.2.1, bt467.2.2.2.1, bt467.2.2.2.2⟩ : S57)])) else (none))))
def spec_l11Put.j1 : Nat -> List (S57) -> List (S57) -> Bool -> Int -> Bool -> List ByteArray -> Bool -> ByteArray -> Int -> List (S72) -> Option ((List (S57)))
 | 0, _, _, _, _, _, _, _, _, _, _ => none
 | k + 1, x0, x5, x6, x7, x27, x464000, x464001, x464002, x464003, x464004 => if x27 = true then ((spec_l10Copy.f x464000 x464001 x464002 x464003 x464004).bind fun bt481 => (if x5.length < 1759218604441 then (spec_l11Put.j2 k x0 (x5 ++ [(⟨bt481.1, bt481.2.1, bt481.2.2.1, bt481.2.2.2.1, bt481.2.2.2.2⟩ : S57)]) true x7 x464000 x464001 x464002 x464003 x464004) else (none))) else (spec_l11Put.j2 k x0 x5 x6 x7 x464000 x464001 x464002 x464003 x464004)
def spec_l11Put.j2 : Nat -> List (S57) -> List (S57) -> Bool -> Int -> List ByteArray -> Bool -> ByteArray -> Int -> List (S72) -> Option ((List (S57)))
 | 0, _, _, _, _, _, _, _, _, _ => none
 | k + 1, x0, x5, x6, x7, x464000, x464001, x464002, x464003, x464004 => if 0 <= x7 then (if x7 < (x0.length : Int) then ((spec_SamePath.f k ((rd_T57 x0 x7).f0) x464000).bind fun t494 => (if t494 = true then (spec_l11Put.l0 k x0 x5 x6 (wrap64 (x7 + 1)) x464000 x464001 x464002 x464003 x464004) else ((spec_l10Copy.f ((rd_T57 x0 x7).f0) ((rd_T57 x0 x7).f1) ((rd_T57 x0 x7).f2) ((rd_T57 x0 x7).f3) ((rd_T57 x0 x7).f4)).bind fun bt496 => (if x5.length < 1759218604441 then (spec_l11Put.l0 k x0 (x5 ++ [(⟨bt496.1, bt496.2.1, bt496.2.2.1, bt496.2.2.2.1, bt496.2.2.2.2⟩ : S57)]) x6 (wrap64 (x7 + 1)) x464000 x464001 x464002 x464003 x464004) else (none))))) else (none)) else (none)
end
def spec_l11Put.f (k : Nat) (l0 : List (S57)) (l1_0 : List ByteArray) (a1_1 : Bool) (a1_2 : ByteArray) (a1_3 : Int) (l1_4 : List (S72)) : Option ((List (S57))) := spec_l11Put.l0 k l0 (([] : List (S57))) false 0 l1_0 a1_1 a1_2 a1_3 l1_4
theorem spec_l11Put.calls (k : Nat) (A0 : Option Addr) (c0 : Nat) (l0 : List (S57)) (A1_0 : Option Addr) (c1_0 : Nat) (l1_0 : List ByteArray) (a1_1 : Bool) (a1_2 : ByteArray) (a1_3 : Int) (A1_4 : Option Addr) (c1_4 : Nat) (l1_4 : List (S72)) (r : List (S57)) (w : World) (hr0 : Kd.C k57 w A0 l0.length l0) (hc0 : l0.length <= c0) (hr1_0 : Kd.C Kd.string w A1_0 l1_0.length l1_0) (hc1_0 : l1_0.length <= c1_0) (hr1_4 : Kd.C k72 w A1_4 l1_4.length l1_4) (hc1_4 : l1_4.length <= c1_4) (h : spec_l11Put.f k l0 l1_0 a1_1 a1_2 a1_3 l1_4 = some r) :
 Calls Try.prog 75 #[.slice A0 l0.length c0, .agg #[.slice A1_0 l1_0.length c1_0, .bool a1_1, .string a1_2, .int .i64 a1_3, .slice A1_4 l1_4.length c1_4]] w fun e w' => ∃ v0_ : Value, e = .returned (v0_) /\ Kd.S k57 57 w' w.heap.size (fun _ => True) v0_ r /\ Below w.heap.size w w' := by
 have hu57 := Try.underlying57
 have HR0 := A_ hr0
 clear hr0 hc0
 have HR1_0 := A_ hr1_0
 have HC1_0 := A_ hc1_0
 clear hr1_0 hc1_0
 have HR1_4 := A_ hr1_4
 have HC1_4 := A_ hc1_4
 clear hr1_4 hc1_4
 have HB := A_ (Below.refl w.heap.size w)
 have H : (spec_l11Put.l0 k l0 (([] : List (S57))) false 0 l1_0 a1_1 a1_2 a1_3 l1_4) = some r := h
 clear h
 obtain ⟨y58, hy58⟩ : ∃ y_ : List (S57), y_ = (([] : List (S57))) := ⟨_, rfl⟩
 replace H : (spec_l11Put.l0 k l0 y58 false 0 l1_0 a1_1 a1_2 a1_3 l1_4) = some r := hy_ hy58 H
 have Ny58 := A_ hy58
 clear hy58
 have H' := A_ H
 clear H
 go_enter Try.func75, Try.ntmps75
 go_wp2_with (first | ((with_reducible refine gd_ (N := 3) rfl ?_); refine bx_ (N := 3) (cs := #[.slice A1_0 l1_0.length c1_0, .bool a1_1, .string a1_2, .int .i64 a1_3, .slice A1_4 l1_4.length c1_4]) (t := 57) ?_; intro gb41 hg w3 hbox hb; have BK41 := A_ (hbox); have GW41 := A_ (ge_ hg bB_ : w.heap.size <= gb41); have GE41 := A_ (ge_ hg bB_ : w.heap.size <= gb41); replace HB := A_ (below_step bB_ hb); clear hb hbox hg) | ((with_reducible refine gd_ (N := 8) rfl ?_); refine Kd.S_lit k57 _ 57 ?hg (N := 8) ?hd (xs := ([] : List (S57))) (inner := []) (ok := fun _ => True) (okp := fun _ => True) ?hr ?hp (fun _ hk => hk) trivial (Below.refl _ _) (Nat.le_refl _) (by simp) ?_; (case hd => rfl); (case hg => rfl); (case hr => first | (go_simp; done) | (go_simp; rfl)); (case hp => exact (Reps.none _ _)); intro v78 w4 ho5 hb hg_ hnew_; clear hg_ hnew_; (first | rw [← Ny58.out] at ho5 | (simp only [Int.reduceToNat] at ho5; rw [← Ny58.out] at ho5)); have HO74 := A_ (Kd.S_lower (Kd.S_newB ho5 (g := gb41) (o := .cells #[.slice A1_0 l1_0.length c1_0, .bool a1_1, .string a1_2, .int .i64 a1_3, .slice A1_4 l1_4.length c1_4] 57 (0, 0)) (vb_ BK41.out)) (below_size (bG_ GE41.out))); replace BK41 := A_ (bw_ BK41.out hb); replace HB := A_ (below_step (bG_ GE41.out) hb); clear hb ho5))
 repeat (go_quiet (first | ((with_reducible refine gd_ (N := 3) rfl ?_); refine bx_ (N := 3) (cs := #[.slice A1_0 l1_0.length c1_0, .bool a1_1, .string a1_2, .int .i64 a1_3, .slice A1_4 l1_4.length c1_4]) (t := 57) ?_; intro gb41 hg w3 hbox hb; have BK41 := A_ (hbox); have GW41 := A_ (ge_ hg bB_ : w.heap.size <= gb41); have GE41 := A_ (ge_ hg bB_ : w.heap.size <= gb41); replace HB := A_ (below_step bB_ hb); clear hb hbox hg) | ((with_reducible refine gd_ (N := 8) rfl ?_); refine Kd.S_lit k57 _ 57 ?hg (N := 8) ?hd (xs := ([] : List (S57))) (inner := []) (ok := fun _ => True) (okp := fun _ => True) ?hr ?hp (fun _ hk => hk) trivial (Below.refl _ _) (Nat.le_refl _) (by simp) ?_; (case hd => rfl); (case hg => rfl); (case hr => first | (go_simp; done) | (go_simp; rfl)); (case hp => exact (Reps.none _ _)); intro v78 w4 ho5 hb hg_ hnew_; clear hg_ hnew_; (first | rw [← Ny58.out] at ho5 | (simp only [Int.reduceToNat] at ho5; rw [← Ny58.out] at ho5)); have HO74 := A_ (Kd.S_lower (Kd.S_newB ho5 (g := gb41) (o := .cells #[.slice A1_0 l1_0.length c1_0, .bool a1_1, .string a1_2, .int .i64 a1_3, .slice A1_4 l1_4.length c1_4] 57 (0, 0)) (vb_ BK41.out)) (below_size (bG_ GE41.out))); replace BK41 := A_ (bw_ BK41.out hb); replace HB := A_ (below_step (bG_ GE41.out) hb); clear hb ho5)); try go_wp2_with (first | ((with_reducible refine gd_ (N := 3) rfl ?_); refine bx_ (N := 3) (cs := #[.slice A1_0 l1_0.length c1_0, .bool a1_1, .string a1_2, .int .i64 a1_3, .slice A1_4 l1_4.length c1_4]) (t := 57) ?_; intro gb41 hg w3 hbox hb; have BK41 := A_ (hbox); have GW41 := A_ (ge_ hg bB_ : w.heap.size <= gb41); have GE41 := A_ (ge_ hg bB_ : w.heap.size <= gb41); replace HB := A_ (below_step bB_ hb); clear hb hbox hg) | ((with_reducible refine gd_ (N := 8) rfl ?_); refine Kd.S_lit k57 _ 57 ?hg (N := 8) ?hd (xs := ([] : List (S57))) (inner := []) (ok := fun _ => True) (okp := fun _ => True) ?hr ?hp (fun _ hk => hk) trivial (Below.refl _ _) (Nat.le_refl _) (by simp) ?_; (case hd => rfl); (case hg => rfl); (case hr => first | (go_simp; done) | (go_simp; rfl)); (case hp => exact (Reps.none _ _)); intro v78 w4 ho5 hb hg_ hnew_; clear hg_ hnew_; (first | rw [← Ny58.out] at ho5 | (simp only [Int.reduceToNat] at ho5; rw [← Ny58.out] at ho5)); have HO74 := A_ (Kd.S_lower (Kd.S_newB ho5 (g := gb41) (o := .cells #[.slice A1_0 l1_0.length c1_0, .bool a1_1, .string a1_2, .int .i64 a1_3, .slice A1_4 l1_4.length c1_4] 57 (0, 0)) (vb_ BK41.out)) (below_size (bG_ GE41.out))); replace BK41 := A_ (bw_ BK41.out hb); replace HB := A_ (below_step (bG_ GE41.out) hb); clear hb ho5)))
 go_loopg [5, 6, 7] k (fun kq v5 v6 v7 w' => ∃ (x5_1 : List (S57)) (x6_1 : Bool) (x7_1 : Int), v6 = .bool x6_1 /\ v7 = .int .i64 x7_1 /\ Aside0 (spec_l11Put.l0 kq l0 x5_1 x6_1 x7_1 l1_0 a1_1 a1_2 a1_3 l1_4 = some r) /\ Aside0 (kq <= k) /\ Aside0 (Kd.S k57 57 w' w.heap.size (fun k_ => k_ ≠ gb41) v5 x5_1) /\ Aside0 (w'.heap[gb41]? = some (.cells #[(.slice A1_0 l1_0.length c1_0), .bool a1_1, .string a1_2, .int .i64 a1_3, (.slice A1_4 l1_4.length c1_4)] 57 (0, 0))) /\ Aside0 (Below w.heap.size w w'))
 case atStart => exact ⟨(y58), (false), (0), rs_, rs_, H', ⟨Nat.le_refl _⟩, ⟨by (with_reducible repeat (first | apply Kd.S_alloc | apply Kd.S_drewN | apply Kd.S_drew)); exact Kd.S_mono HO74.out (fun _ hk => hk.2)⟩, ⟨vb_ BK41.out⟩, ⟨bG_ GE41.out⟩⟩
 case round =>
  clear H'
  obtain ⟨x5_1, x6_1, x7_1, rfl, rfl, HA, HK1, HO_5, BK41, HB⟩ := hrel
  cases gk with
  | zero => exact absurd HA.out (by simp [spec_l11Put.l0])
  | succ k1 =>
   have H := HA.out
   clear HA
   simp only [spec_l11Put.l0] at H
   by_cases c6 : x7_1 < (l0.length : Int)
   rotate_left
   . rw [if_neg c6] at H
     have c6b0 := decide_eq_false c6
     clear c6
     by_cases c33 : x6_1 = true
     . subst c33
       rw [if_pos rfl] at H
       obtain rfl := si_ H
       go_wp2
       repeat (go_quiet (fail); try go_wp2)
       go_ret
       exact ⟨_, rr_, by (with_reducible repeat (first | apply Kd.S_alloc | apply Kd.S_drewN | apply Kd.S_drew)); exact Kd.S_mono HO_5.out (fun _ hk => trivial), bG_ GE41.out⟩
     . replace c33 := Bool.eq_false_iff.mpr c33
       subst c33
       rw [if_neg nf_] at H
       obtain ⟨⟨t45, t59, t60, t61, t46⟩, A34, H⟩ := bo_ H
       (try dsimp only at H)
       by_cases c35 : x5_1.length < 1759218604441
       rotate_left
       . exact absurd H (by rw [if_neg c35]; simp)
       rw [if_pos c35] at H
       have LMc35 := A_ c35
       clear c35
       obtain ⟨y71, hy71⟩ : ∃ y_ : List (S57), y_ = (x5_1 ++ [(⟨t45, t59, t60, t61, t46⟩ : S57)]) := ⟨_, rfl⟩
       replace H : (some y71) = some r := hy_ hy71 H
       have Ny71 := A_ hy71
       clear hy71
       obtain rfl := si_ H
       have hcz36_0 : wr.cell? ⟨gb41, 0, none⟩ = some (.slice A1_0 l1_0.length c1_0) := bl_ BK41.out 0
       have hcz36_1 : wr.cell? ⟨gb41, 1, none⟩ = some (.bool a1_1) := bl_ BK41.out 1
       have hcz36_2 : wr.cell? ⟨gb41, 2, none⟩ = some (.string a1_2) := bl_ BK41.out 2
       have hcz36_3 : wr.cell? ⟨gb41, 3, none⟩ = some (.int .i64 a1_3) := bl_ BK41.out 3
       have hcz36_4 : wr.cell? ⟨gb41, 4, none⟩ = some (.slice A1_4 l1_4.length c1_4) := bl_ BK41.out 4
       have hfz36_0 := blk_frozen BK41.out 0
       have hfz36_1 := blk_frozen BK41.out 1
       have hfz36_2 := blk_frozen BK41.out 2
       have hfz36_3 := blk_frozen BK41.out 3
       have hfz36_4 := blk_frozen BK41.out 4
       go_wp2_with (first | (go_at_call 105; (with_reducible refine (spec_l10Copy.calls _ _ l1_0 a1_1 a1_2 a1_3 _ _ l1_4 t45 t59 t60 t61 t46 _ ?s1 ?s2 ?s3 ?s4 A34.out).mono ?_); (case s1 => exact cC_ (Kd.C_below HR1_0.out HB.out)); (case s2 => exact HC1_0.out); (case s3 => exact cC_ (Kd.C_below HR1_4.out HB.out)); (case s4 => exact HC1_4.out); rintro e w37 ⟨v79, v80, rfl, ho0, ho1, hb⟩; replace HO_5 := A_ (Kd.S_mono (Kd.S_told (Kd.S_told (Kd.S_old (vS_ HO_5.out) hb) (kb_ ho0)) (kb_ ho1)) (fun _ h_ => h_.1)); have HO51 := A_ (Kd.R_lower ho0 (below_size (bG_ GE41.out))); have HO52 := A_ (Kd.R_lower ho1 (below_size (bG_ GE41.out))); replace BK41 := A_ (bw_ BK41.out hb); replace HB := A_ (below_step (bG_ GE41.out) hb); clear hb ho0 ho1; obtain ⟨Ao39, co39, eo39⟩ := Kd.R_slice HO51.out; subst eo39; obtain ⟨Ao40, co40, eo40⟩ := Kd.R_slice HO52.out; subst eo40) | ((with_reducible refine gate_builtin (b := .append) (xs := #[.tmp 52, .tmp 55]) rfl ?_); at_builtin; refine Kd.S_append k57 (w0 := w) w.heap.size rfl (.tmp 52) (.tmp 55) 26 57 (.agg #[(.slice none 0 0), (.bool false), (.string ⟨#[]⟩), (.int .i64 0), (.slice none 0 0)]) 80 rfl Try.underlying26 info57 rfl (by decide) (by omega) u5 x5_1 (⟨t45, t59, t60, t61, t46⟩ : S57) [.slice Ao39 t45.length co39, .bool t59, .string t60, .int .i64 t61, .slice Ao40 t46.length co40] (fun k_ => k_ ≠ gb41) (fun k_ => some k_ = (.slice Ao39 t45.length co39 : Value).ownBlock \/ some k_ = (.slice Ao40 t46.length co40 : Value).ownBlock) rfl rfl ?aP (fun k_ hk_ => hk_.elim (fun h_ => ((Kd.R_mono (ok' := fun k_ => ((fun k_ => k_ ≠ gb41)) k_ /\ some k_ ≠ (u5 : Value).ownBlock) (Kd.R_types (Kd.R_apart' (HO51.out) (Kd.S_typed HO_5.out) (by decide)) BK41.out (by decide)) (fun k_ hk => ⟨hk.2, hk.1.2⟩))).1 k_ h_.symm) (fun h_ => ((Kd.R_mono (ok' := fun k_ => ((fun k_ => k_ ≠ gb41)) k_ /\ some k_ ≠ (u5 : Value).ownBlock) (Kd.R_types (Kd.R_apart' (HO52.out) (Kd.S_typed HO_5.out) (by decide)) BK41.out (by decide)) (fun k_ hk => ⟨hk.2, hk.1.2⟩))).1 k_ h_.symm)) ?aF ?aO ?aB ?aS ?aL ?_; (case aP => exact k57_mkM _ _ _ (⟨t45, t59, t60, t61, t46⟩ : S57) (Kd.R_mono (Kd.R_tight rfl (Kd.R_mono (ok' := fun k_ => ((fun k_ => k_ ≠ gb41)) k_ /\ some k_ ≠ (u5 : Value).ownBlock) (Kd.R_types (Kd.R_apart' (HO51.out) (Kd.S_typed HO_5.out) (by decide)) BK41.out (by decide)) (fun k_ hk => ⟨hk.2, hk.1.2⟩))) (fun _ h_ => Or.inl h_)) (Kd.R_mono (Kd.R_tight rfl (Kd.R_mono (ok' := fun k_ => ((fun k_ => k_ ≠ gb41)) k_ /\ some k_ ≠ (u5 : Value).ownBlock) (Kd.R_types (Kd.R_apart' (HO52.out) (Kd.S_typed HO_5.out) (by decide)) BK41.out (by decide)) (fun k_ hk => ⟨hk.2, hk.1.2⟩))) (fun _ h_ => Or.inr (h_)))); (case aB => exact (bG_ GE41.out)); (case aF => exact (fun k_ hk => Kd.freshB (g := gb41) (o := .cells #[.slice A1_0 l1_0.length c1_0, .bool a1_1, .string a1_2, .int .i64 a1_3, .slice A1_4 l1_4.length c1_4] 57 (0, 0)) (vb_ BK41.out) k_ hk)); (case aO => exact (by (with_reducible repeat (first | apply Kd.S_alloc | apply Kd.S_drewN | apply Kd.S_drew)); exact Kd.S_mono HO_5.out (fun k_ hk => ⟨hk.1.1, fun e_ => e_.elim (fun h_ => hk.1.2 h_) (fun h_ => hk.2 h_)⟩))); (case aS => exact (below_size (bG_ GE41.out))); (case aL => have := LMc35.out; omega); intro v81 w38 ho hb hg hat; rw [← Ny71.out] at ho; replace BK41 := A_ (blk_grown (g := gb41) (o := .cells #[.slice A1_0 l1_0.length c1_0, .bool a1_1, .string a1_2, .int .i64 a1_3, .slice A1_4 l1_4.length c1_4] 57 (0, 0)) (vb_ BK41.out) hg (Kd.S_away HO_5.out (fun _ hk => hk.1.1))); replace HB := A_ (hb); have HO75 := A_ (ho); clear HO_5 HO51 HO52; clear ho hb hg hat))
       repeat (go_quiet (first | (go_at_call 105; (with_reducible refine (spec_l10Copy.calls _ _ l1_0 a1_1 a1_2 a1_3 _ _ l1_4 t45 t59 t60 t61 t46 _ ?s1 ?s2 ?s3 ?s4 A34.out).mono ?_); (case s1 => exact cC_ (Kd.C_below HR1_0.out HB.out)); (case s2 => exact HC1_0.out); (case s3 => exact cC_ (Kd.C_below HR1_4.out HB.out)); (case s4 => exact HC1_4.out); rintro e w37 ⟨v79, v80, rfl, ho0, ho1, hb⟩; replace HO_5 := A_ (Kd.S_mono (Kd.S_told (Kd.S_told (Kd.S_old (vS_ HO_5.out) hb) (kb_ ho0)) (kb_ ho1)) (fun _ h_ => h_.1)); have HO51 := A_ (Kd.R_lower ho0 (below_size (bG_ GE41.out))); have HO52 := A_ (Kd.R_lower ho1 (below_size (bG_ GE41.out))); replace BK41 := A_ (bw_ BK41.out hb); replace HB := A_ (below_step (bG_ GE41.out) hb); clear hb ho0 ho1; obtain ⟨Ao39, co39, eo39⟩ := Kd.R_slice HO51.out; subst eo39; obtain ⟨Ao40, co40, eo40⟩ := Kd.R_slice HO52.out; subst eo40) | ((with_reducible refine gate_builtin (b := .append) (xs := #[.tmp 52, .tmp 55]) rfl ?_); at_builtin; refine Kd.S_append k57 (w0 := w) w.heap.size rfl (.tmp 52) (.tmp 55) 26 57 (.agg #[(.slice none 0 0), (.bool false), (.string ⟨#[]⟩), (.int .i64 0), (.slice none 0 0)]) 80 rfl Try.underlying26 info57 rfl (by decide) (by omega) u5 x5_1 (⟨t45, t59, t60, t61, t46⟩ : S57) [.slice Ao39 t45.length co39, .bool t59, .string t60, .int .i64 t61, .slice Ao40 t46.length co40] (fun k_ => k_ ≠ gb41) (fun k_ => some k_ = (.slice Ao39 t45.length co39 : Value).ownBlock \/ some k_ = (.slice Ao40 t46.length co40 : Value).ownBlock) rfl rfl ?aP (fun k_ hk_ => hk_.elim (fun h_ => ((Kd.R_mono (ok' := fun k_ => ((fun k_ => k_ ≠ gb41)) k_ /\ some k_ ≠ (u5 : Value).ownBlock) (Kd.R_types (Kd.R_apart' (HO51.out) (Kd.S_typed HO_5.out) (by decide)) BK41.out (by decide)) (fun k_ hk => ⟨hk.2, hk.1.2⟩))).1 k_ h_.symm) (fun h_ => ((Kd.R_mono (ok' := fun k_ => ((fun k_ => k_ ≠ gb41)) k_ /\ some k_ ≠ (u5 : Value).ownBlock) (Kd.R_types (Kd.R_apart' (HO52.out) (Kd.S_typed HO_5.out) (by decide)) BK41.out (by decide)) (fun k_ hk => ⟨hk.2, hk.1.2⟩))).1 k_ h_.symm)) ?aF ?aO ?aB ?aS ?aL ?_; (case aP => exact k57_mkM _ _ _ (⟨t45, t59, t60, t61, t46⟩ : S57) (Kd.R_mono (Kd.R_tight rfl (Kd.R_mono (ok' := fun k_ => ((fun k_ => k_ ≠ gb41)) k_ /\ some k_ ≠ (u5 : Value).ownBlock) (Kd.R_types (Kd.R_apart' (HO51.out) (Kd.S_typed HO_5.out) (by decide)) BK41.out (by decide)) (fun k_ hk => ⟨hk.2, hk.1.2⟩))) (fun _ h_ => Or.inl h_)) (Kd.R_mono (Kd.R_tight rfl (Kd.R_mono (ok' := fun k_ => ((fun k_ => k_ ≠ gb41)) k_ /\ some k_ ≠ (u5 : Value).ownBlock) (Kd.R_types (Kd.R_apart' (HO52.out) (Kd.S_typed HO_5.out) (by decide)) BK41.out (by decide)) (fun k_ hk => ⟨hk.2, hk.1.2⟩))) (fun _ h_ => Or.inr (h_)))); (case aB => exact (bG_ GE41.out)); (case aF => exact (fun k_ hk => Kd.freshB (g := gb41) (o := .cells #[.slice A1_0 l1_0.length c1_0, .bool a1_1, .string a1_2, .int .i64 a1_3, .slice A1_4 l1_4.length c1_4] 57 (0, 0)) (vb_ BK41.out) k_ hk)); (case aO => exact (by (with_reducible repeat (first | apply Kd.S_alloc | apply Kd.S_drewN | apply Kd.S_drew)); exact Kd.S_mono HO_5.out (fun k_ hk => ⟨hk.1.1, fun e_ => e_.elim (fun h_ => hk.1.2 h_) (fun h_ => hk.2 h_)⟩))); (case aS => exact (below_size (bG_ GE41.out))); (case aL => have := LMc35.out; omega); intro v81 w38 ho hb hg hat; rw [← Ny71.out] at ho; replace BK41 := A_ (blk_grown (g := gb41) (o := .cells #[.slice A1_0 l1_0.length c1_0, .bool a1_1, .string a1_2, .int .i64 a1_3, .slice A1_4 l1_4.length c1_4] 57 (0, 0)) (vb_ BK41.out) hg (Kd.S_away HO_5.out (fun _ hk => hk.1.1))); replace HB := A_ (hb); have HO75 := A_ (ho); clear HO_5 HO51 HO52; clear ho hb hg hat)); try go_wp2_with (first | (go_at_call 105; (with_reducible refine (spec_l10Copy.calls _ _ l1_0 a1_1 a1_2 a1_3 _ _ l1_4 t45 t59 t60 t61 t46 _ ?s1 ?s2 ?s3 ?s4 A34.out).mono ?_); (case s1 => exact cC_ (Kd.C_below HR1_0.out HB.out)); (case s2 => exact HC1_0.out); (case s3 => exact cC_ (Kd.C_below HR1_4.out HB.out)); (case s4 => exact HC1_4.out); rintro e w37 ⟨v79, v80, rfl, ho0, ho1, hb⟩; replace HO_5 := A_ (Kd.S_mono (Kd.S_told (Kd.S_told (Kd.S_old (vS_ HO_5.out) hb) (kb_ ho0)) (kb_ ho1)) (fun _ h_ => h_.1)); have HO51 := A_ (Kd.R_lower ho0 (below_size (bG_ GE41.out))); have HO52 := A_ (Kd.R_lower ho1 (below_size (bG_ GE41.out))); replace BK41 := A_ (bw_ BK41.out hb); replace HB := A_ (below_step (bG_ GE41.out) hb); clear hb ho0 ho1; obtain ⟨Ao39, co39, eo39⟩ := Kd.R_slice HO51.out; subst eo39; obtain ⟨Ao40, co40, eo40⟩ := Kd.R_slice HO52.out; subst eo40) | ((with_reducible refine gate_builtin (b := .append) (xs := #[.tmp 52, .tmp 55]) rfl ?_); at_builtin; refine Kd.S_append k57 (w0 := w) w.heap.size rfl (.tmp 52) (.tmp 55) 26 57 (.agg #[(.slice none 0 0), (.bool false), (.string ⟨#[]⟩), (.int .i64 0), (.slice none 0 0)]) 80 rfl Try.underlying26 info57 rfl (by decide) (by omega) u5 x5_1 (⟨t45, t59, t60, t61, t46⟩ : S57) [.slice Ao39 t45.length co39, .bool t59, .string t60, .int .i64 t61, .slice Ao40 t46.length co40] (fun k_ => k_ ≠ gb41) (fun k_ => some k_ = (.slice Ao39 t45.length co39 : Value).ownBlock \/ some k_ = (.slice Ao40 t46.length co40 : Value).ownBlock) rfl rfl ?aP (fun k_ hk_ => hk_.elim (fun h_ => ((Kd.R_mono (ok' := fun k_ => ((fun k_ => k_ ≠ gb41)) k_ /\ some k_ ≠ (u5 : Value).ownBlock) (Kd.R_types (Kd.R_apart' (HO51.out) (Kd.S_typed HO_5.out) (by decide)) BK41.out (by decide)) (fun k_ hk => ⟨hk.2, hk.1.2⟩))).1 k_ h_.symm) (fun h_ => ((Kd.R_mono (ok' := fun k_ => ((fun k_ => k_ ≠ gb41)) k_ /\ some k_ ≠ (u5 : Value).ownBlock) (Kd.R_types (Kd.R_apart' (HO52.out) (Kd.S_typed HO_5.out) (by decide)) BK41.out (by decide)) (fun k_ hk => ⟨hk.2, hk.1.2⟩))).1 k_ h_.symm)) ?aF ?aO ?aB ?aS ?aL ?_; (case aP => exact k57_mkM _ _ _ (⟨t45, t59, t60, t61, t46⟩ : S57) (Kd.R_mono (Kd.R_tight rfl (Kd.R_mono (ok' := fun k_ => ((fun k_ => k_ ≠ gb41)) k_ /\ some k_ ≠ (u5 : Value).ownBlock) (Kd.R_types (Kd.R_apart' (HO51.out) (Kd.S_typed HO_5.out) (by decide)) BK41.out (by decide)) (fun k_ hk => ⟨hk.2, hk.1.2⟩))) (fun _ h_ => Or.inl h_)) (Kd.R_mono (Kd.R_tight rfl (Kd.R_mono (ok' := fun k_ => ((fun k_ => k_ ≠ gb41)) k_ /\ some k_ ≠ (u5 : Value).ownBlock) (Kd.R_types (Kd.R_apart' (HO52.out) (Kd.S_typed HO_5.out) (by decide)) BK41.out (by decide)) (fun k_ hk => ⟨hk.2, hk.1.2⟩))) (fun _ h_ => Or.inr (h_)))); (case aB => exact (bG_ GE41.out)); (case aF => exact (fun k_ hk => Kd.freshB (g := gb41) (o := .cells #[.slice A1_0 l1_0.length c1_0, .bool a1_1, .string a1_2, .int .i64 a1_3, .slice A1_4 l1_4.length c1_4] 57 (0, 0)) (vb_ BK41.out) k_ hk)); (case aO => exact (by (with_reducible repeat (first | apply Kd.S_alloc | apply Kd.S_drewN | apply Kd.S_drew)); exact Kd.S_mono HO_5.out (fun k_ hk => ⟨hk.1.1, fun e_ => e_.elim (fun h_ => hk.1.2 h_) (fun h_ => hk.2 h_)⟩))); (case aS => exact (below_size (bG_ GE41.out))); (case aL => have := LMc35.out; omega); intro v81 w38 ho hb hg hat; rw [← Ny71.out] at ho; replace HB := A_ (hb); have HO75 := A_ (ho); clear HO_5 HO51 HO52; clear ho hb hg hat)))
       go_ret
       exact ⟨_, rr_, by (with_reducible repeat (first | apply Kd.S_alloc | apply Kd.S_drewN | apply Kd.S_drew)); exact Kd.S_mono HO75.out (fun _ hk => trivial), bG_ GE41.out⟩
   rw [if_pos c6] at H
   have c6b0 := decide_eq_true c6
   clear c6
   have HC7 := A_ H
   clear H
   go_upto_region 6 with (fail)
   repeat (go_quiet (fail); go_upto_region 6 with (fail))
   go_cut [27] (fun v27 wc => ∃ (kq : Nat) (x27_6 : Bool), v27 = .bool x27_6 /\ Aside0 (spec_l11Put.j1 kq l0 x5_1 x6_1 x7_1 x27_6 l1_0 a1_1 a1_2 a1_3 l1_4 = some r) /\ Aside0 (kq <= k1) /\ Aside0 (Kd.S k57 57 wc w.heap.size (fun k_ => k_ ≠ gb41) u5 x5_1) /\ Aside0 (wc.heap[gb41]? = some (.cells #[(.slice A1_0 l1_0.length c1_0), .bool a1_1, .string a1_2, .int .i64 a1_3, (.slice A1_4 l1_4.length c1_4)] 57 (0, 0))) /\ Aside0 (Below w.heap.size w wc))
   case first =>
    have H := HC7.out
    clear HC7
    by_cases c8 : x6_1 = true
    . subst c8
      rw [if_pos rfl] at H
      have H' := A_ H
      clear H
      go_wp2
      repeat (go_quiet (fail); try go_wp2)
      go_meet
      case rel => exact ⟨_, (false), rs_, H', ⟨by have := HK1.out; first | omega | exact Nat.le_refl _⟩, ⟨vS_ HO_5.out⟩, ⟨vb_ BK41.out⟩, ⟨bG_ GE41.out⟩⟩
    . replace c8 := Bool.eq_false_iff.mpr c8
      subst c8
      rw [if_neg nf_] at H
      by_cases c9 : 0 <= x7_1
      rotate_left
      . exact absurd H (by rw [if_neg c9]; simp)
      rw [if_pos c9] at H
      have c9b0 := decide_eq_true c9
      clear c9
      (first | rw [c9b0] | (simp only [i64_w, i32_w]; rw [c9b0]) | skip)
      obtain ⟨t73, A10, H⟩ := bo_ H
      (try dsimp only at H)
      have H' := A_ H
      clear H
      have p44 : 0 <= (x7_1 : Int) := od_
      have q44 : x7_1 < (l0.length : Int) := od_
      obtain ⟨ad44, A44_0, c44_0, A44_4, c44_4, e44, hx44_0, hx44_1, hx44_2, hx44_3, hx44_4, hl44_0, hi44_0, hl44_4, hi44_4⟩ := at_T57 HR0.out x7_1 p44 q44
      cases e44
      replace hx44_0 := bc_ HB.out hx44_0
      replace hx44_1 := bc_ HB.out hx44_1
      replace hx44_2 := bc_ HB.out hx44_2
      replace hx44_3 := bc_ HB.out hx44_3
      replace hx44_4 := bc_ HB.out hx44_4
      have HR44_0 := A_ hi44_0
      have HC44_0 := A_ hl44_0
      clear hi44_0 hl44_0
      clear hi44_4 hl44_4
      replace p44 := eq_true p44
      replace q44 := eq_true q44
      have hcz11_0 : wr.cell? ⟨gb41, 0, none⟩ = some (.slice A1_0 l1_0.length c1_0) := bl_ BK41.out 0
      have hcz11_1 : wr.cell? ⟨gb41, 1, none⟩ = some (.bool a1_1) := bl_ BK41.out 1
      have hcz11_2 : wr.cell? ⟨gb41, 2, none⟩ = some (.string a1_2) := bl_ BK41.out 2
      have hcz11_3 : wr.cell? ⟨gb41, 3, none⟩ = some (.int .i64 a1_3) := bl_ BK41.out 3
      have hcz11_4 : wr.cell? ⟨gb41, 4, none⟩ = some (.slice A1_4 l1_4.length c1_4) := bl_ BK41.out 4
      have hfz11_0 := blk_frozen BK41.out 0
      have hfz11_1 := blk_frozen BK41.out 1
      have hfz11_2 := blk_frozen BK41.out 2
      have hfz11_3 := blk_frozen BK41.out 3
      have hfz11_4 := blk_frozen BK41.out 4
      go_wp2_with (first | (go_at_call 111; (with_reducible refine (spec_LessPath.calls k1 _ _ ((rd_T57 l0 x7_1).f0) _ _ l1_0 t73 _ ?s1 ?s2 ?s3 ?s4 A10.out).mono ?_); (case s1 => exact cC_ (Kd.C_below HR44_0.out HB.out)); (case s2 => exact HC44_0.out); (case s3 => exact cC_ (Kd.C_below HR1_0.out HB.out)); (case s4 => exact HC1_0.out); rintro e w' ⟨rfl, ⟨nd, rfl⟩⟩; (try first | exact ⟨rfl, _, World.drewN_drewN _ _ _⟩ | exact ⟨rfl, _, Eq.trans (World.drewN_drewN _ _ _) (congrArg (World.drewN _) (Nat.add_assoc _ _ _))⟩)))
      repeat (go_quiet (first | (go_at_call 111; (with_reducible refine (spec_LessPath.calls k1 _ _ ((rd_T57 l0 x7_1).f0) _ _ l1_0 t73 _ ?s1 ?s2 ?s3 ?s4 A10.out).mono ?_); (case s1 => exact cC_ (Kd.C_below HR44_0.out HB.out)); (case s2 => exact HC44_0.out); (case s3 => exact cC_ (Kd.C_below HR1_0.out HB.out)); (case s4 => exact HC1_0.out); rintro e w' ⟨rfl, ⟨nd, rfl⟩⟩; (try first | exact ⟨rfl, _, World.drewN_drewN _ _ _⟩ | exact ⟨rfl, _, Eq.trans (World.drewN_drewN _ _ _) (congrArg (World.drewN _) (Nat.add_assoc _ _ _))⟩))); try go_wp2_with (first | (go_at_call 111; (with_reducible refine (spec_LessPath.calls k1 _ _ ((rd_T57 l0 x7_1).f0) _ _ l1_0 t73 _ ?s1 ?s2 ?s3 ?s4 A10.out).mono ?_); (case s1 => exact cC_ (Kd.C_below HR44_0.out HB.out)); (case s2 => exact HC44_0.out); (case s3 => exact cC_ (Kd.C_below HR1_0.out HB.out)); (case s4 => exact HC1_0.out); rintro e w' ⟨rfl, ⟨nd, rfl⟩⟩; (try first | exact ⟨rfl, _, World.drewN_drewN _ _ _⟩ | exact ⟨rfl, _, Eq.trans (World.drewN_drewN _ _ _) (congrArg (World.drewN _) (Nat.add_assoc _ _ _))⟩))))
      go_meet
      case rel => exact ⟨_, (!t73), rs_, H', ⟨by have := HK1.out; first | omega | exact Nat.le_refl _⟩, ⟨vS_ HO_5.out⟩, ⟨vb_ BK41.out⟩, ⟨bG_ GE41.out⟩⟩
   case rest =>
    clear HC7
    try clear c6
    try clear c6b0
    obtain ⟨kq, x27_6, rfl, HA, HJ6, HO_5, BK41, HB⟩ := hcut
    cases kq with
    | zero => exact absurd HA.out (by simp [spec_l11Put.j1])
    | succ kj6 =>
     have H := HA.out
     clear HA
     simp only [spec_l11Put.j1] at H
     have HC12 := A_ H
     clear H
     go_upto_if 27 with (fail)
     repeat (go_quiet (fail); go_upto_if 27 with (fail))
     go_cut [5, 6] (fun v5 v6 wc => ∃ (kq : Nat) (x5_11 : List (S57)) (x6_11 : Bool), v6 = .bool x6_11 /\ Aside0 (spec_l11Put.j2 kq l0 x5_11 x6_11 x7_1 l1_0 a1_1 a1_2 a1_3 l1_4 = some r) /\ Aside0 (kq <= kj6) /\ Aside0 (Kd.S k57 57 wc w.heap.size (fun k_ => k_ ≠ gb41) v5 x5_11) /\ Aside0 (wc.heap[gb41]? = some (.cells #[(.slice A1_0 l1_0.length c1_0), .bool a1_1, .string a1_2, .int .i64 a1_3, (.slice A1_4 l1_4.length c1_4)] 57 (0, 0))) /\ Aside0 (Below w.heap.size w wc))
     case first =>
      have H := HC12.out
      clear HC12
      by_cases c13 : x27_6 = true
      . subst c13
        rw [if_pos rfl] at H
        obtain ⟨⟨t47, t62, t63, t65, t48⟩, A14, H⟩ := bo_ H
        (try dsimp only at H)
        by_cases c15 : x5_1.length < 1759218604441
        rotate_left
        . exact absurd H (by rw [if_neg c15]; simp)
        rw [if_pos c15] at H
        have LMc15 := A_ c15
        clear c15
        obtain ⟨y69, hy69⟩ : ∃ y_ : List (S57), y_ = (x5_1 ++ [(⟨t47, t62, t63, t65, t48⟩ : S57)]) := ⟨_, rfl⟩
        replace H : (spec_l11Put.j2 kj6 l0 y69 true x7_1 l1_0 a1_1 a1_2 a1_3 l1_4) = some r := hy_ hy69 H
        have Ny69 := A_ hy69
        clear hy69
        have H' := A_ H
        clear H
        have hcz16_0 : wc.cell? ⟨gb41, 0, none⟩ = some (.slice A1_0 l1_0.length c1_0) := bl_ BK41.out 0
        have hcz16_1 : wc.cell? ⟨gb41, 1, none⟩ = some (.bool a1_1) := bl_ BK41.out 1
        have hcz16_2 : wc.cell? ⟨gb41, 2, none⟩ = some (.string a1_2) := bl_ BK41.out 2
        have hcz16_3 : wc.cell? ⟨gb41, 3, none⟩ = some (.int .i64 a1_3) := bl_ BK41.out 3
        have hcz16_4 : wc.cell? ⟨gb41, 4, none⟩ = some (.slice A1_4 l1_4.length c1_4) := bl_ BK41.out 4
        have hfz16_0 := blk_frozen BK41.out 0
        have hfz16_1 := blk_frozen BK41.out 1
        have hfz16_2 := blk_frozen BK41.out 2
        have hfz16_3 := blk_frozen BK41.out 3
        have hfz16_4 := blk_frozen BK41.out 4
        go_wp2_with (first | (go_at_call 105; (with_reducible refine (spec_l10Copy.calls _ _ l1_0 a1_1 a1_2 a1_3 _ _ l1_4 t47 t62 t63 t65 t48 _ ?s1 ?s2 ?s3 ?s4 A14.out).mono ?_); (case s1 => exact cC_ (Kd.C_below HR1_0.out HB.out)); (case s2 => exact HC1_0.out); (case s3 => exact cC_ (Kd.C_below HR1_4.out HB.out)); (case s4 => exact HC1_4.out); rintro e w17 ⟨v82, v83, rfl, ho0, ho1, hb⟩; replace HO_5 := A_ (Kd.S_mono (Kd.S_told (Kd.S_told (Kd.S_old (vS_ HO_5.out) hb) (kb_ ho0)) (kb_ ho1)) (fun _ h_ => h_.1)); have HO53 := A_ (Kd.R_lower ho0 (below_size (bG_ GE41.out))); have HO54 := A_ (Kd.R_lower ho1 (below_size (bG_ GE41.out))); replace BK41 := A_ (bw_ BK41.out hb); replace HB := A_ (below_step (bG_ GE41.out) hb); clear hb ho0 ho1; obtain ⟨Ao19, co19, eo19⟩ := Kd.R_slice HO53.out; subst eo19; obtain ⟨Ao20, co20, eo20⟩ := Kd.R_slice HO54.out; subst eo20) | ((with_reducible refine gate_builtin (b := .append) (xs := #[.tmp 28, .tmp 31]) rfl ?_); at_builtin; refine Kd.S_append k57 (w0 := w) w.heap.size rfl (.tmp 28) (.tmp 31) 26 57 (.agg #[(.slice none 0 0), (.bool false), (.string ⟨#[]⟩), (.int .i64 0), (.slice none 0 0)]) 80 rfl Try.underlying26 info57 rfl (by decide) (by omega) u5 x5_1 (⟨t47, t62, t63, t65, t48⟩ : S57) [.slice Ao19 t47.length co19, .bool t62, .string t63, .int .i64 t65, .slice Ao20 t48.length co20] (fun k_ => k_ ≠ gb41) (fun k_ => some k_ = (.slice Ao19 t47.length co19 : Value).ownBlock \/ some k_ = (.slice Ao20 t48.length co20 : Value).ownBlock) rfl rfl ?aP (fun k_ hk_ => hk_.elim (fun h_ => ((Kd.R_mono (ok' := fun k_ => ((fun k_ => k_ ≠ gb41)) k_ /\ some k_ ≠ (u5 : Value).ownBlock) (Kd.R_types (Kd.R_apart' (HO53.out) (Kd.S_typed HO_5.out) (by decide)) BK41.out (by decide)) (fun k_ hk => ⟨hk.2, hk.1.2⟩))).1 k_ h_.symm) (fun h_ => ((Kd.R_mono (ok' := fun k_ => ((fun k_ => k_ ≠ gb41)) k_ /\ some k_ ≠ (u5 : Value).ownBlock) (Kd.R_types (Kd.R_apart' (HO54.out) (Kd.S_typed HO_5.out) (by decide)) BK41.out (by decide)) (fun k_ hk => ⟨hk.2, hk.1.2⟩))).1 k_ h_.symm)) ?aF ?aO ?aB ?aS ?aL ?_; (case aP => exact k57_mkM _ _ _ (⟨t47, t62, t63, t65, t48⟩ : S57) (Kd.R_mono (Kd.R_tight rfl (Kd.R_mono (ok' := fun k_ => ((fun k_ => k_ ≠ gb41)) k_ /\ some k_ ≠ (u5 : Value).ownBlock) (Kd.R_types (Kd.R_apart' (HO53.out) (Kd.S_typed HO_5.out) (by decide)) BK41.out (by decide)) (fun k_ hk => ⟨hk.2, hk.1.2⟩))) (fun _ h_ => Or.inl h_)) (Kd.R_mono (Kd.R_tight rfl (Kd.R_mono (ok' := fun k_ => ((fun k_ => k_ ≠ gb41)) k_ /\ some k_ ≠ (u5 : Value).ownBlock) (Kd.R_types (Kd.R_apart' (HO54.out) (Kd.S_typed HO_5.out) (by decide)) BK41.out (by decide)) (fun k_ hk => ⟨hk.2, hk.1.2⟩))) (fun _ h_ => Or.inr (h_)))); (case aB => exact (bG_ GE41.out)); (case aF => exact (fun k_ hk => Kd.freshB (g := gb41) (o := .cells #[.slice A1_0 l1_0.length c1_0, .bool a1_1, .string a1_2, .int .i64 a1_3, .slice A1_4 l1_4.length c1_4] 57 (0, 0)) (vb_ BK41.out) k_ hk)); (case aO => exact (by (with_reducible repeat (first | apply Kd.S_alloc | apply Kd.S_drewN | apply Kd.S_drew)); exact Kd.S_mono HO_5.out (fun k_ hk => ⟨hk.1.1, fun e_ => e_.elim (fun h_ => hk.1.2 h_) (fun h_ => hk.2 h_)⟩))); (case aS => exact (below_size (bG_ GE41.out))); (case aL => have := LMc15.out; omega); intro v84 w18 ho hb hg hat; rw [← Ny69.out] at ho; replace BK41 := A_ (blk_grown (g := gb41) (o := .cells #[.slice A1_0 l1_0.length c1_0, .bool a1_1, .string a1_2, .int .i64 a1_3, .slice A1_4 l1_4.length c1_4] 57 (0, 0)) (vb_ BK41.out) hg (Kd.S_away HO_5.out (fun _ hk => hk.1.1))); replace HB := A_ (hb); have HO76 := A_ (ho); clear HO_5 HO53 HO54; clear ho hb hg hat))
        repeat (go_quiet (first | (go_at_call 105; (with_reducible refine (spec_l10Copy.calls _ _ l1_0 a1_1 a1_2 a1_3 _ _ l1_4 t47 t62 t63 t65 t48 _ ?s1 ?s2 ?s3 ?s4 A14.out).mono ?_); (case s1 => exact cC_ (Kd.C_below HR1_0.out HB.out)); (case s2 => exact HC1_0.out); (case s3 => exact cC_ (Kd.C_below HR1_4.out HB.out)); (case s4 => exact HC1_4.out); rintro e w17 ⟨v82, v83, rfl, ho0, ho1, hb⟩; replace HO_5 := A_ (Kd.S_mono (Kd.S_told (Kd.S_told (Kd.S_old (vS_ HO_5.out) hb) (kb_ ho0)) (kb_ ho1)) (fun _ h_ => h_.1)); have HO53 := A_ (Kd.R_lower ho0 (below_size (bG_ GE41.out))); have HO54 := A_ (Kd.R_lower ho1 (below_size (bG_ GE41.out))); replace BK41 := A_ (bw_ BK41.out hb); replace HB := A_ (below_step (bG_ GE41.out) hb); clear hb ho0 ho1; obtain ⟨Ao19, co19, eo19⟩ := Kd.R_slice HO53.out; subst eo19; obtain ⟨Ao20, co20, eo20⟩ := Kd.R_slice HO54.out; subst eo20) | ((with_reducible refine gate_builtin (b := .append) (xs := #[.tmp 28, .tmp 31]) rfl ?_); at_builtin; refine Kd.S_append k57 (w0 := w) w.heap.size rfl (.tmp 28) (.tmp 31) 26 57 (.agg #[(.slice none 0 0), (.bool false), (.string ⟨#[]⟩), (.int .i64 0), (.slice none 0 0)]) 80 rfl Try.underlying26 info57 rfl (by decide) (by omega) u5 x5_1 (⟨t47, t62, t63, t65, t48⟩ : S57) [.slice Ao19 t47.length co19, .bool t62, .string t63, .int .i64 t65, .slice Ao20 t48.length co20] (fun k_ => k_ ≠ gb41) (fun k_ => some k_ = (.slice Ao19 t47.length co19 : Value).ownBlock \/ some k_ = (.slice Ao20 t48.length co20 : Value).ownBlock) rfl rfl ?aP (fun k_ hk_ => hk_.elim (fun h_ => ((Kd.R_mono (ok' := fun k_ => ((fun k_ => k_ ≠ gb41)) k_ /\ some k_ ≠ (u5 : Value).ownBlock) (Kd.R_types (Kd.R_apart' (HO53.out) (Kd.S_typed HO_5.out) (by decide)) BK41.out (by decide)) (fun k_ hk => ⟨hk.2, hk.1.2⟩))).1 k_ h_.symm) (fun h_ => ((Kd.R_mono (ok' := fun k_ => ((fun k_ => k_ ≠ gb41)) k_ /\ some k_ ≠ (u5 : Value).ownBlock) (Kd.R_types (Kd.R_apart' (HO54.out) (Kd.S_typed HO_5.out) (by decide)) BK41.out (by decide)) (fun k_ hk => ⟨hk.2, hk.1.2⟩))).1 k_ h_.symm)) ?aF ?aO ?aB ?aS ?aL ?_; (case aP => exact k57_mkM _ _ _ (⟨t47, t62, t63, t65, t48⟩ : S57) (Kd.R_mono (Kd.R_tight rfl (Kd.R_mono (ok' := fun k_ => ((fun k_ => k_ ≠ gb41)) k_ /\ some k_ ≠ (u5 : Value).ownBlock) (Kd.R_types (Kd.R_apart' (HO53.out) (Kd.S_typed HO_5.out) (by decide)) BK41.out (by decide)) (fun k_ hk => ⟨hk.2, hk.1.2⟩))) (fun _ h_ => Or.inl h_)) (Kd.R_mono (Kd.R_tight rfl (Kd.R_mono (ok' := fun k_ => ((fun k_ => k_ ≠ gb41)) k_ /\ some k_ ≠ (u5 : Value).ownBlock) (Kd.R_types (Kd.R_apart' (HO54.out) (Kd.S_typed HO_5.out) (by decide)) BK41.out (by decide)) (fun k_ hk => ⟨hk.2, hk.1.2⟩))) (fun _ h_ => Or.inr (h_)))); (case aB => exact (bG_ GE41.out)); (case aF => exact (fun k_ hk => Kd.freshB (g := gb41) (o := .cells #[.slice A1_0 l1_0.length c1_0, .bool a1_1, .string a1_2, .int .i64 a1_3, .slice A1_4 l1_4.length c1_4] 57 (0, 0)) (vb_ BK41.out) k_ hk)); (case aO => exact (by (with_reducible repeat (first | apply Kd.S_alloc | apply Kd.S_drewN | apply Kd.S_drew)); exact Kd.S_mono HO_5.out (fun k_ hk => ⟨hk.1.1, fun e_ => e_.elim (fun h_ => hk.1.2 h_) (fun h_ => hk.2 h_)⟩))); (case aS => exact (below_size (bG_ GE41.out))); (case aL => have := LMc15.out; omega); intro v84 w18 ho hb hg hat; rw [← Ny69.out] at ho; replace BK41 := A_ (blk_grown (g := gb41) (o := .cells #[.slice A1_0 l1_0.length c1_0, .bool a1_1, .string a1_2, .int .i64 a1_3, .slice A1_4 l1_4.length c1_4] 57 (0, 0)) (vb_ BK41.out) hg (Kd.S_away HO_5.out (fun _ hk => hk.1.1))); replace HB := A_ (hb); have HO76 := A_ (ho); clear HO_5 HO53 HO54; clear ho hb hg hat)); try go_wp2_with (first | (go_at_call 105; (with_reducible refine (spec_l10Copy.calls _ _ l1_0 a1_1 a1_2 a1_3 _ _ l1_4 t47 t62 t63 t65 t48 _ ?s1 ?s2 ?s3 ?s4 A14.out).mono ?_); (case s1 => exact cC_ (Kd.C_below HR1_0.out HB.out)); (case s2 => exact HC1_0.out); (case s3 => exact cC_ (Kd.C_below HR1_4.out HB.out)); (case s4 => exact HC1_4.out); rintro e w17 ⟨v82, v83, rfl, ho0, ho1, hb⟩; replace HO_5 := A_ (Kd.S_mono (Kd.S_told (Kd.S_told (Kd.S_old (vS_ HO_5.out) hb) (kb_ ho0)) (kb_ ho1)) (fun _ h_ => h_.1)); have HO53 := A_ (Kd.R_lower ho0 (below_size (bG_ GE41.out))); have HO54 := A_ (Kd.R_lower ho1 (below_size (bG_ GE41.out))); replace BK41 := A_ (bw_ BK41.out hb); replace HB := A_ (below_step (bG_ GE41.out) hb); clear hb ho0 ho1; obtain ⟨Ao19, co19, eo19⟩ := Kd.R_slice HO53.out; subst eo19; obtain ⟨Ao20, co20, eo20⟩ := Kd.R_slice HO54.out; subst eo20) | ((with_reducible refine gate_builtin (b := .append) (xs := #[.tmp 28, .tmp 31]) rfl ?_); at_builtin; refine Kd.S_append k57 (w0 := w) w.heap.size rfl (.tmp 28) (.tmp 31) 26 57 (.agg #[(.slice none 0 0), (.bool false), (.string ⟨#[]⟩), (.int .i64 0), (.slice none 0 0)]) 80 rfl Try.underlying26 info57 rfl (by decide) (by omega) u5 x5_1 (⟨t47, t62, t63, t65, t48⟩ : S57) [.slice Ao19 t47.length co19, .bool t62, .string t63, .int .i64 t65, .slice Ao20 t48.length co20] (fun k_ => k_ ≠ gb41) (fun k_ => some k_ = (.slice Ao19 t47.length co19 : Value).ownBlock \/ some k_ = (.slice Ao20 t48.length co20 : Value).ownBlock) rfl rfl ?aP (fun k_ hk_ => hk_.elim (fun h_ => ((Kd.R_mono (ok' := fun k_ => ((fun k_ => k_ ≠ gb41)) k_ /\ some k_ ≠ (u5 : Value).ownBlock) (Kd.R_types (Kd.R_apart' (HO53.out) (Kd.S_typed HO_5.out) (by decide)) BK41.out (by decide)) (fun k_ hk => ⟨hk.2, hk.1.2⟩))).1 k_ h_.symm) (fun h_ => ((Kd.R_mono (ok' := fun k_ => ((fun k_ => k_ ≠ gb41)) k_ /\ some k_ ≠ (u5 : Value).ownBlock) (Kd.R_types (Kd.R_apart' (HO54.out) (Kd.S_typed HO_5.out) (by decide)) BK41.out (by decide)) (fun k_ hk => ⟨hk.2, hk.1.2⟩))).1 k_ h_.symm)) ?aF ?aO ?aB ?aS ?aL ?_; (case aP => exact k57_mkM _ _ _ (⟨t47, t62, t63, t65, t48⟩ : S57) (Kd.R_mono (Kd.R_tight rfl (Kd.R_mono (ok' := fun k_ => ((fun k_ => k_ ≠ gb41)) k_ /\ some k_ ≠ (u5 : Value).ownBlock) (Kd.R_types (Kd.R_apart' (HO53.out) (Kd.S_typed HO_5.out) (by decide)) BK41.out (by decide)) (fun k_ hk => ⟨hk.2, hk.1.2⟩))) (fun _ h_ => Or.inl h_)) (Kd.R_mono (Kd.R_tight rfl (Kd.R_mono (ok' := fun k_ => ((fun k_ => k_ ≠ gb41)) k_ /\ some k_ ≠ (u5 : Value).ownBlock) (Kd.R_types (Kd.R_apart' (HO54.out) (Kd.S_typed HO_5.out) (by decide)) BK41.out (by decide)) (fun k_ hk => ⟨hk.2, hk.1.2⟩))) (fun _ h_ => Or.inr (h_)))); (case aB => exact (bG_ GE41.out)); (case aF => exact (fun k_ hk => Kd.freshB (g := gb41) (o := .cells #[.slice A1_0 l1_0.length c1_0, .bool a1_1, .string a1_2, .int .i64 a1_3, .slice A1_4 l1_4.length c1_4] 57 (0, 0)) (vb_ BK41.out) k_ hk)); (case aO => exact (by (with_reducible repeat (first | apply Kd.S_alloc | apply Kd.S_drewN | apply Kd.S_drew)); exact Kd.S_mono HO_5.out (fun k_ hk => ⟨hk.1.1, fun e_ => e_.elim (fun h_ => hk.1.2 h_) (fun h_ => hk.2 h_)⟩))); (case aS => exact (below_size (bG_ GE41.out))); (case aL => have := LMc15.out; omega); intro v84 w18 ho hb hg hat; rw [← Ny69.out] at ho; replace BK41 := A_ (blk_grown (g := gb41) (o := .cells #[.slice A1_0 l1_0.length c1_0, .bool a1_1, .string a1_2, .int .i64 a1_3, .slice A1_4 l1_4.length c1_4] 57 (0, 0)) (vb_ BK41.out) hg (Kd.S_away HO_5.out (fun _ hk => hk.1.1))); replace HB := A_ (hb); have HO76 := A_ (ho); clear HO_5 HO53 HO54; clear ho hb hg hat)))
        go_meet
        case rel => exact ⟨_, (y69), (true), rs_, H', ⟨by have := HK1.out; have := HJ6.out; first | omega | exact Nat.le_refl _⟩, ⟨vS_ HO76.out⟩, ⟨vb_ BK41.out⟩, ⟨bG_ GE41.out⟩⟩
      . replace c13 := Bool.eq_false_iff.mpr c13
        subst c13
        rw [if_neg nf_] at H
        have H' := A_ H
        clear H
        go_wp2
        repeat (go_quiet (fail); try go_wp2)
        go_meet
        case rel => exact ⟨_, (x5_1), (x6_1), rs_, H', ⟨by have := HK1.out; have := HJ6.out; first | omega | exact Nat.le_refl _⟩, ⟨vS_ HO_5.out⟩, ⟨vb_ BK41.out⟩, ⟨bG_ GE41.out⟩⟩
     case rest =>
      clear HC12
      try clear c6
      try clear c6b0
      obtain ⟨kq, x5_11, x6_11, rfl, HA, HJ11, HO_5, BK41, HB⟩ := hcut
      cases kq with
      | zero => exact absurd HA.out (by simp [spec_l11Put.j2])
      | succ kj11 =>
       have H := HA.out
       clear HA
       simp only [spec_l11Put.j2] at H
       by_cases c21 : 0 <= x7_1
       rotate_left
       . exact absurd H (by rw [if_neg c21]; simp)
       rw [if_pos c21] at H
       have c21b0 := decide_eq_true c21
       clear c21
       by_cases c22 : x7_1 < (l0.length : Int)
       rotate_left
       . exact absurd H (by rw [if_neg c22]; simp)
       rw [if_pos c22] at H
       have c22b0 := decide_eq_true c22
       clear c22
       obtain ⟨t88, A23, H⟩ := bo_ H
       (try dsimp only at H)
       by_cases c24 : t88 = true
       . subst c24
         rw [if_pos rfl] at H
         have H' := A_ H
         clear H
         have p43 : 0 <= (x7_1 : Int) := od_
         have q43 : x7_1 < (l0.length : Int) := od_
         obtain ⟨ad43, A43_0, c43_0, A43_4, c43_4, e43, hx43_0, hx43_1, hx43_2, hx43_3, hx43_4, hl43_0, hi43_0, hl43_4, hi43_4⟩ := at_T57 HR0.out x7_1 p43 q43
         cases e43
         replace hx43_0 := bc_ HB.out hx43_0
         replace hx43_1 := bc_ HB.out hx43_1
         replace hx43_2 := bc_ HB.out hx43_2
         replace hx43_3 := bc_ HB.out hx43_3
         replace hx43_4 := bc_ HB.out hx43_4
         have HR43_0 := A_ hi43_0
         have HC43_0 := A_ hl43_0
         clear hi43_0 hl43_0
         clear hi43_4 hl43_4
         replace p43 := eq_true p43
         replace q43 := eq_true q43
         have hcz25_0 : wc.cell? ⟨gb41, 0, none⟩ = some (.slice A1_0 l1_0.length c1_0) := bl_ BK41.out 0
         have hcz25_1 : wc.cell? ⟨gb41, 1, none⟩ = some (.bool a1_1) := bl_ BK41.out 1
         have hcz25_2 : wc.cell? ⟨gb41, 2, none⟩ = some (.string a1_2) := bl_ BK41.out 2
         have hcz25_3 : wc.cell? ⟨gb41, 3, none⟩ = some (.int .i64 a1_3) := bl_ BK41.out 3
         have hcz25_4 : wc.cell? ⟨gb41, 4, none⟩ = some (.slice A1_4 l1_4.length c1_4) := bl_ BK41.out 4
         have hfz25_0 := blk_frozen BK41.out 0
         have hfz25_1 := blk_frozen BK41.out 1
         have hfz25_2 := blk_frozen BK41.out 2
         have hfz25_3 := blk_frozen BK41.out 3
         have hfz25_4 := blk_frozen BK41.out 4
         go_wp2_with (first | (go_at_call 104; (with_reducible refine (spec_SamePath.calls kj11 _ _ ((rd_T57 l0 x7_1).f0) _ _ l1_0 true _ ?s1 ?s2 ?s3 ?s4 A23.out).mono ?_); (case s1 => exact cC_ (Kd.C_below HR43_0.out HB.out)); (case s2 => exact HC43_0.out); (case s3 => exact cC_ (Kd.C_below HR1_0.out HB.out)); (case s4 => exact HC1_0.out); rintro e w' ⟨rfl, ⟨nd, rfl⟩⟩; (try first | exact ⟨rfl, _, World.drewN_drewN _ _ _⟩ | exact ⟨rfl, _, Eq.trans (World.drewN_drewN _ _ _) (congrArg (World.drewN _) (Nat.add_assoc _ _ _))⟩)))
         repeat (go_quiet (first | (go_at_call 104; (with_reducible refine (spec_SamePath.calls kj11 _ _ ((rd_T57 l0 x7_1).f0) _ _ l1_0 true _ ?s1 ?s2 ?s3 ?s4 A23.out).mono ?_); (case s1 => exact cC_ (Kd.C_below HR43_0.out HB.out)); (case s2 => exact HC43_0.out); (case s3 => exact cC_ (Kd.C_below HR1_0.out HB.out)); (case s4 => exact HC1_0.out); rintro e w' ⟨rfl, ⟨nd, rfl⟩⟩; (try first | exact ⟨rfl, _, World.drewN_drewN _ _ _⟩ | exact ⟨rfl, _, Eq.trans (World.drewN_drewN _ _ _) (congrArg (World.drewN _) (Nat.add_assoc _ _ _))⟩))); try go_wp2_with (first | (go_at_call 104; (with_reducible refine (spec_SamePath.calls kj11 _ _ ((rd_T57 l0 x7_1).f0) _ _ l1_0 true _ ?s1 ?s2 ?s3 ?s4 A23.out).mono ?_); (case s1 => exact cC_ (Kd.C_below HR43_0.out HB.out)); (case s2 => exact HC43_0.out); (case s3 => exact cC_ (Kd.C_below HR1_0.out HB.out)); (case s4 => exact HC1_0.out); rintro e w' ⟨rfl, ⟨nd, rfl⟩⟩; (try first | exact ⟨rfl, _, World.drewN_drewN _ _ _⟩ | exact ⟨rfl, _, Eq.trans (World.drewN_drewN _ _ _) (congrArg (World.drewN _) (Nat.add_assoc _ _ _))⟩))))
         go_roundg kj11
         case measure => have := HK1.out; have := HJ6.out; have := HJ11.out; omega
         case rel => exact ⟨(x5_11), (x6_11), (wrap64 (x7_1 + 1)), rs_, rs_, H', ⟨by have := HK1.out; have := HJ6.out; have := HJ11.out; omega⟩, ⟨vS_ HO_5.out⟩, ⟨vb_ BK41.out⟩, ⟨bG_ GE41.out⟩⟩
       . replace c24 := Bool.eq_false_iff.mpr c24
         subst c24
         rw [if_neg nf_] at H
         obtain ⟨⟨t49, t66, t67, t68, t50⟩, A26, H⟩ := bo_ H
         (try dsimp only at H)
         by_cases c27 : x5_11.length < 1759218604441
         rotate_left
         . exact absurd H (by rw [if_neg c27]; simp)
         rw [if_pos c27] at H
         have LMc27 := A_ c27
         clear c27
         obtain ⟨y70, hy70⟩ : ∃ y_ : List (S57), y_ = (x5_11 ++ [(⟨t49, t66, t67, t68, t50⟩ : S57)]) := ⟨_, rfl⟩
         replace H : (spec_l11Put.l0 kj11 l0 y70 x6_11 (wrap64 (x7_1 + 1)) l1_0 a1_1 a1_2 a1_3 l1_4) = some r := hy_ hy70 H
         have Ny70 := A_ hy70
         clear hy70
         have H' := A_ H
         clear H
         have p43 : 0 <= (x7_1 : Int) := od_
         have q43 : x7_1 < (l0.length : Int) := od_
         obtain ⟨ad43, A43_0, c43_0, A43_4, c43_4, e43, hx43_0, hx43_1, hx43_2, hx43_3, hx43_4, hl43_0, hi43_0, hl43_4, hi43_4⟩ := at_T57 HR0.out x7_1 p43 q43
         cases e43
         replace hx43_0 := bc_ HB.out hx43_0
         replace hx43_1 := bc_ HB.out hx43_1
         replace hx43_2 := bc_ HB.out hx43_2
         replace hx43_3 := bc_ HB.out hx43_3
         replace hx43_4 := bc_ HB.out hx43_4
         have HR43_0 := A_ hi43_0
         have HC43_0 := A_ hl43_0
         clear hi43_0 hl43_0
         clear hi43_4 hl43_4
         replace p43 := eq_true p43
         replace q43 := eq_true q43
         have hcz28_0 : wc.cell? ⟨gb41, 0, none⟩ = some (.slice A1_0 l1_0.length c1_0) := bl_ BK41.out 0
         have hcz28_1 : wc.cell? ⟨gb41, 1, none⟩ = some (.bool a1_1) := bl_ BK41.out 1
         have hcz28_2 : wc.cell? ⟨gb41, 2, none⟩ = some (.string a1_2) := bl_ BK41.out 2
         have hcz28_3 : wc.cell? ⟨gb41, 3, none⟩ = some (.int .i64 a1_3) := bl_ BK41.out 3
         have hcz28_4 : wc.cell? ⟨gb41, 4, none⟩ = some (.slice A1_4 l1_4.length c1_4) := bl_ BK41.out 4
         have hfz28_0 := blk_frozen BK41.out 0
         have hfz28_1 := blk_frozen BK41.out 1
         have hfz28_2 := blk_frozen BK41.out 2
         have hfz28_3 := blk_frozen BK41.out 3
         have hfz28_4 := blk_frozen BK41.out 4
         go_wp2_with (first | (go_at_call 104; (with_reducible refine (spec_SamePath.calls kj11 _ _ ((rd_T57 l0 x7_1).f0) _ _ l1_0 false _ ?s1 ?s2 ?s3 ?s4 A23.out).mono ?_); (case s1 => exact cC_ (Kd.C_below HR43_0.out HB.out)); (case s2 => exact HC43_0.out); (case s3 => exact cC_ (Kd.C_below HR1_0.out HB.out)); (case s4 => exact HC1_0.out); rintro e w' ⟨rfl, ⟨nd, rfl⟩⟩; (try first | exact ⟨rfl, _, World.drewN_drewN _ _ _⟩ | exact ⟨rfl, _, Eq.trans (World.drewN_drewN _ _ _) (congrArg (World.drewN _) (Nat.add_assoc _ _ _))⟩); have p42 : 0 <= (x7_1 : Int) := od_; have q42 : x7_1 < (l0.length : Int) := od_; obtain ⟨ad42, A42_0, c42_0, A42_4, c42_4, e42, hx42_0, hx42_1, hx42_2, hx42_3, hx42_4, hl42_0, hi42_0, hl42_4, hi42_4⟩ := at_T57 HR0.out x7_1 p42 q42; obtain rfl : ad43 = ad42 := (by injection e42); replace hx42_0 := bc_ HB.out hx42_0; replace hx42_1 := bc_ HB.out hx42_1; replace hx42_2 := bc_ HB.out hx42_2; replace hx42_3 := bc_ HB.out hx42_3; replace hx42_4 := bc_ HB.out hx42_4; have HR42_0 := A_ hi42_0; have HC42_0 := A_ hl42_0; clear hi42_0 hl42_0; have HR42_4 := A_ hi42_4; have HC42_4 := A_ hl42_4; clear hi42_4 hl42_4; replace p42 := eq_true p42; replace q42 := eq_true q42; have ea_ := Option.some.inj (hx43_0.symm.trans hx42_0); injection ea_ with ea_ en_ ec_; subst ea_; subst ec_; clear en_; have ea_ := Option.some.inj (hx43_4.symm.trans hx42_4); injection ea_ with ea_ en_ ec_; subst ea_; subst ec_; clear en_) | (go_at_call 105; (with_reducible refine (spec_l10Copy.calls _ _ ((rd_T57 l0 x7_1).f0) ((rd_T57 l0 x7_1).f1) ((rd_T57 l0 x7_1).f2) ((rd_T57 l0 x7_1).f3) _ _ ((rd_T57 l0 x7_1).f4) t49 t66 t67 t68 t50 _ ?s1 ?s2 ?s3 ?s4 A26.out).mono ?_); (case s1 => exact cC_ (Kd.C_below HR42_0.out (bG_ GE41.out))); (case s2 => exact HC42_0.out); (case s3 => exact cC_ (Kd.C_below HR42_4.out (bG_ GE41.out))); (case s4 => exact HC42_4.out); rintro e w29 ⟨v85, v86, rfl, ho0, ho1, hb⟩; replace HO_5 := A_ (Kd.S_mono (Kd.S_told (Kd.S_told (Kd.S_old (vS_ HO_5.out) hb) (kb_ ho0)) (kb_ ho1)) (fun _ h_ => h_.1)); have HO55 := A_ (Kd.R_lower ho0 (below_size (bG_ GE41.out))); have HO56 := A_ (Kd.R_lower ho1 (below_size (bG_ GE41.out))); replace BK41 := A_ (bw_ BK41.out hb); replace HB := A_ (below_step (bG_ GE41.out) hb); clear hb ho0 ho1; obtain ⟨Ao31, co31, eo31⟩ := Kd.R_slice HO55.out; subst eo31; obtain ⟨Ao32, co32, eo32⟩ := Kd.R_slice HO56.out; subst eo32) | ((with_reducible refine gate_builtin (b := .append) (xs := #[.tmp 42, .tmp 48]) rfl ?_); at_builtin; refine Kd.S_append k57 (w0 := w) w.heap.size rfl (.tmp 42) (.tmp 48) 26 57 (.agg #[(.slice none 0 0), (.bool false), (.string ⟨#[]⟩), (.int .i64 0), (.slice none 0 0)]) 80 rfl Try.underlying26 info57 rfl (by decide) (by omega) u5 x5_11 (⟨t49, t66, t67, t68, t50⟩ : S57) [.slice Ao31 t49.length co31, .bool t66, .string t67, .int .i64 t68, .slice Ao32 t50.length co32] (fun k_ => k_ ≠ gb41) (fun k_ => some k_ = (.slice Ao31 t49.length co31 : Value).ownBlock \/ some k_ = (.slice Ao32 t50.length co32 : Value).ownBlock) rfl rfl ?aP (fun k_ hk_ => hk_.elim (fun h_ => ((Kd.R_mono (ok' := fun k_ => ((fun k_ => k_ ≠ gb41)) k_ /\ some k_ ≠ (u5 : Value).ownBlock) (Kd.R_types (Kd.R_apart' (HO55.out) (Kd.S_typed HO_5.out) (by decide)) BK41.out (by decide)) (fun k_ hk => ⟨hk.2, hk.1.2⟩))).1 k_ h_.symm) (fun h_ => ((Kd.R_mono (ok' := fun k_ => ((fun k_ => k_ ≠ gb41)) k_ /\ some k_ ≠ (u5 : Value).ownBlock) (Kd.R_types (Kd.R_apart' (HO56.out) (Kd.S_typed HO_5.out) (by decide)) BK41.out (by decide)) (fun k_ hk => ⟨hk.2, hk.1.2⟩))).1 k_ h_.symm)) ?aF ?aO ?aB ?aS ?aL ?_; (case aP => exact k57_mkM _ _ _ (⟨t49, t66, t67, t68, t50⟩ : S57) (Kd.R_mono (Kd.R_tight rfl (Kd.R_mono (ok' := fun k_ => ((fun k_ => k_ ≠ gb41)) k_ /\ some k_ ≠ (u5 : Value).ownBlock) (Kd.R_types (Kd.R_apart' (HO55.out) (Kd.S_typed HO_5.out) (by decide)) BK41.out (by decide)) (fun k_ hk => ⟨hk.2, hk.1.2⟩))) (fun _ h_ => Or.inl h_)) (Kd.R_mono (Kd.R_tight rfl (Kd.R_mono (ok' := fun k_ => ((fun k_ => k_ ≠ gb41)) k_ /\ some k_ ≠ (u5 : Value).ownBlock) (Kd.R_types (Kd.R_apart' (HO56.out) (Kd.S_typed HO_5.out) (by decide)) BK41.out (by decide)) (fun k_ hk => ⟨hk.2, hk.1.2⟩))) (fun _ h_ => Or.inr (h_)))); (case aB => exact (bG_ GE41.out)); (case aF => exact (fun k_ hk => Kd.freshB (g := gb41) (o := .cells #[.slice A1_0 l1_0.length c1_0, .bool a1_1, .string a1_2, .int .i64 a1_3, .slice A1_4 l1_4.length c1_4] 57 (0, 0)) (vb_ BK41.out) k_ hk)); (case aO => exact (by (with_reducible repeat (first | apply Kd.S_alloc | apply Kd.S_drewN | apply Kd.S_drew)); exact Kd.S_mono HO_5.out (fun k_ hk => ⟨hk.1.1, fun e_ => e_.elim (fun h_ => hk.1.2 h_) (fun h_ => hk.2 h_)⟩))); (case aS => exact (below_size (bG_ GE41.out))); (case aL => have := LMc27.out; omega); intro v87 w30 ho hb hg hat; rw [← Ny70.out] at ho; replace BK41 := A_ (blk_grown (g := gb41) (o := .cells #[.slice A1_0 l1_0.length c1_0, .bool a1_1, .string a1_2, .int .i64 a1_3, .slice A1_4 l1_4.length c1_4] 57 (0, 0)) (vb_ BK41.out) hg (Kd.S_away HO_5.out (fun _ hk => hk.1.1))); replace HB := A_ (hb); have HO77 := A_ (ho); clear HO_5 HO55 HO56; clear ho hb hg hat))
         repeat (go_quiet (first | (go_at_call 104; (with_reducible refine (spec_SamePath.calls kj11 _ _ ((rd_T57 l0 x7_1).f0) _ _ l1_0 false _ ?s1 ?s2 ?s3 ?s4 A23.out).mono ?_); (case s1 => exact cC_ (Kd.C_below HR43_0.out HB.out)); (case s2 => exact HC43_0.out); (case s3 => exact cC_ (Kd.C_below HR1_0.out HB.out)); (case s4 => exact HC1_0.out); rintro e w' ⟨rfl, ⟨nd, rfl⟩⟩; (try first | exact ⟨rfl, _, World.drewN_drewN _ _ _⟩ | exact ⟨rfl, _, Eq.trans (World.drewN_drewN _ _ _) (congrArg (World.drewN _) (Nat.add_assoc _ _ _))⟩); have p42 : 0 <= (x7_1 : Int) := od_; have q42 : x7_1 < (l0.length : Int) := od_; obtain ⟨ad42, A42_0, c42_0, A42_4, c42_4, e42, hx42_0, hx42_1, hx42_2, hx42_3, hx42_4, hl42_0, hi42_0, hl42_4, hi42_4⟩ := at_T57 HR0.out x7_1 p42 q42; obtain rfl : ad43 = ad42 := (by injection e42); replace hx42_0 := bc_ HB.out hx42_0; replace hx42_1 := bc_ HB.out hx42_1; replace hx42_2 := bc_ HB.out hx42_2; replace hx42_3 := bc_ HB.out hx42_3; replace hx42_4 := bc_ HB.out hx42_4; have HR42_0 := A_ hi42_0; have HC42_0 := A_ hl42_0; clear hi42_0 hl42_0; have HR42_4 := A_ hi42_4; have HC42_4 := A_ hl42_4; clear hi42_4 hl42_4; replace p42 := eq_true p42; replace q42 := eq_true q42; have ea_ := Option.some.inj (hx43_0.symm.trans hx42_0); injection ea_ with ea_ en_ ec_; subst ea_; subst ec_; clear en_; have ea_ := Option.some.inj (hx43_4.symm.trans hx42_4); injection ea_ with ea_ en_ ec_; subst ea_; subst ec_; clear en_) | (go_at_call 105; (with_reducible refine (spec_l10Copy.calls _ _ ((rd_T57 l0 x7_1).f0) ((rd_T57 l0 x7_1).f1) ((rd_T57 l0 x7_1).f2) ((rd_T57 l0 x7_1).f3) _ _ ((rd_T57 l0 x7_1).f4) t49 t66 t67 t68 t50 _ ?s1 ?s2 ?s3 ?s4 A26.out).mono ?_); (case s1 => exact cC_ (Kd.C_below HR42_0.out (bG_ GE41.out))); (case s2 => exact HC42_0.out); (case s3 => exact cC_ (Kd.C_below HR42_4.out (bG_ GE41.out))); (case s4 => exact HC42_4.out); rintro e w29 ⟨v85, v86, rfl, ho0, ho1, hb⟩; replace HO_5 := A_ (Kd.S_mono (Kd.S_told (Kd.S_told (Kd.S_old (vS_ HO_5.out) hb) (kb_ ho0)) (kb_ ho1)) (fun _ h_ => h_.1)); have HO55 := A_ (Kd.R_lower ho0 (below_size (bG_ GE41.out))); have HO56 := A_ (Kd.R_lower ho1 (below_size (bG_ GE41.out))); replace BK41 := A_ (bw_ BK41.out hb); replace HB := A_ (below_step (bG_ GE41.out) hb); clear hb ho0 ho1; obtain ⟨Ao31, co31, eo31⟩ := Kd.R_slice HO55.out; subst eo31; obtain ⟨Ao32, co32, eo32⟩ := Kd.R_slice HO56.out; subst eo32) | ((with_reducible refine gate_builtin (b := .append) (xs := #[.tmp 42, .tmp 48]) rfl ?_); at_builtin; refine Kd.S_append k57 (w0 := w) w.heap.size rfl (.tmp 42) (.tmp 48) 26 57 (.agg #[(.slice none 0 0), (.bool false), (.string ⟨#[]⟩), (.int .i64 0), (.slice none 0 0)]) 80 rfl Try.underlying26 info57 rfl (by decide) (by omega) u5 x5_11 (⟨t49, t66, t67, t68, t50⟩ : S57) [.slice Ao31 t49.length co31, .bool t66, .string t67, .int .i64 t68, .slice Ao32 t50.length co32] (fun k_ => k_ ≠ gb41) (fun k_ => some k_ = (.slice Ao31 t49.length co31 : Value).ownBlock \/ some k_ = (.slice Ao32 t50.length co32 : Value).ownBlock) rfl rfl ?aP (fun k_ hk_ => hk_.elim (fun h_ => ((Kd.R_mono (ok' := fun k_ => ((fun k_ => k_ ≠ gb41)) k_ /\ some k_ ≠ (u5 : Value).ownBlock) (Kd.R_types (Kd.R_apart' (HO55.out) (Kd.S_typed HO_5.out) (by decide)) BK41.out (by decide)) (fun k_ hk => ⟨hk.2, hk.1.2⟩))).1 k_ h_.symm) (fun h_ => ((Kd.R_mono (ok' := fun k_ => ((fun k_ => k_ ≠ gb41)) k_ /\ some k_ ≠ (u5 : Value).ownBlock) (Kd.R_types (Kd.R_apart' (HO56.out) (Kd.S_typed HO_5.out) (by decide)) BK41.out (by decide)) (fun k_ hk => ⟨hk.2, hk.1.2⟩))).1 k_ h_.symm)) ?aF ?aO ?aB ?aS ?aL ?_; (case aP => exact k57_mkM _ _ _ (⟨t49, t66, t67, t68, t50⟩ : S57) (Kd.R_mono (Kd.R_tight rfl (Kd.R_mono (ok' := fun k_ => ((fun k_ => k_ ≠ gb41)) k_ /\ some k_ ≠ (u5 : Value).ownBlock) (Kd.R_types (Kd.R_apart' (HO55.out) (Kd.S_typed HO_5.out) (by decide)) BK41.out (by decide)) (fun k_ hk => ⟨hk.2, hk.1.2⟩))) (fun _ h_ => Or.inl h_)) (Kd.R_mono (Kd.R_tight rfl (Kd.R_mono (ok' := fun k_ => ((fun k_ => k_ ≠ gb41)) k_ /\ some k_ ≠ (u5 : Value).ownBlock) (Kd.R_types (Kd.R_apart' (HO56.out) (Kd.S_typed HO_5.out) (by decide)) BK41.out (by decide)) (fun k_ hk => ⟨hk.2, hk.1.2⟩))) (fun _ h_ => Or.inr (h_)))); (case aB => exact (bG_ GE41.out)); (case aF => exact (fun k_ hk => Kd.freshB (g := gb41) (o := .cells #[.slice A1_0 l1_0.length c1_0, .bool a1_1, .string a1_2, .int .i64 a1_3, .slice A1_4 l1_4.length c1_4] 57 (0, 0)) (vb_ BK41.out) k_ hk)); (case aO => exact (by (with_reducible repeat (first | apply Kd.S_alloc | apply Kd.S_drewN | apply Kd.S_drew)); exact Kd.S_mono HO_5.out (fun k_ hk => ⟨hk.1.1, fun e_ => e_.elim (fun h_ => hk.1.2 h_) (fun h_ => hk.2 h_)⟩))); (case aS => exact (below_size (bG_ GE41.out))); (case aL => have := LMc27.out; omega); intro v87 w30 ho hb hg hat; rw [← Ny70.out] at ho; replace BK41 := A_ (blk_grown (g := gb41) (o := .cells #[.slice A1_0 l1_0.length c1_0, .bool a1_1, .string a1_2, .int .i64 a1_3, .slice A1_4 l1_4.length c1_4] 57 (0, 0)) (vb_ BK41.out) hg (Kd.S_away HO_5.out (fun _ hk => hk.1.1))); replace HB := A_ (hb); have HO77 := A_ (ho); clear HO_5 HO55 HO56; clear ho hb hg hat)); try go_wp2_with (first | (go_at_call 104; (with_reducible refine (spec_SamePath.calls kj11 _ _ ((rd_T57 l0 x7_1).f0) _ _ l1_0 false _ ?s1 ?s2 ?s3 ?s4 A23.out).mono ?_); (case s1 => exact cC_ (Kd.C_below HR43_0.out HB.out)); (case s2 => exact HC43_0.out); (case s3 => exact cC_ (Kd.C_below HR1_0.out HB.out)); (case s4 => exact HC1_0.out); rintro e w' ⟨rfl, ⟨nd, rfl⟩⟩; (try first | exact ⟨rfl, _, World.drewN_drewN _ _ _⟩ | exact ⟨rfl, _, Eq.trans (World.drewN_drewN _ _ _) (congrArg (World.drewN _) (Nat.add_assoc _ _ _))⟩); have p42 : 0 <= (x7_1 : Int) := od_; have q42 : x7_1 < (l0.length : Int) := od_; obtain ⟨ad42, A42_0, c42_0, A42_4, c42_4, e42, hx42_0, hx42_1, hx42_2, hx42_3, hx42_4, hl42_0, hi42_0, hl42_4, hi42_4⟩ := at_T57 HR0.out x7_1 p42 q42; obtain rfl : ad43 = ad42 := (by injection e42); replace hx42_0 := bc_ HB.out hx42_0; replace hx42_1 := bc_ HB.out hx42_1; replace hx42_2 := bc_ HB.out hx42_2; replace hx42_3 := bc_ HB.out hx42_3; replace hx42_4 := bc_ HB.out hx42_4; have HR42_0 := A_ hi42_0; have HC42_0 := A_ hl42_0; clear hi42_0 hl42_0; have HR42_4 := A_ hi42_4; have HC42_4 := A_ hl42_4; clear hi42_4 hl42_4; replace p42 := eq_true p42; replace q42 := eq_true q42; have ea_ := Option.some.inj (hx43_0.symm.trans hx42_0); injection ea_ with ea_ en_ ec_; subst ea_; subst ec_; clear en_; have ea_ := Option.some.inj (hx43_4.symm.trans hx42_4); injection ea_ with ea_ en_ ec_; subst ea_; subst ec_; clear en_) | (go_at_call 105; (with_reducible refine (spec_l10Copy.calls _ _ ((rd_T57 l0 x7_1).f0) ((rd_T57 l0 x7_1).f1) ((rd_T57 l0 x7_1).f2) ((rd_T57 l0 x7_1).f3) _ _ ((rd_T57 l0 x7_1).f4) t49 t66 t67 t68 t50 _ ?s1 ?s2 ?s3 ?s4 A26.out).mono ?_); (case s1 => exact cC_ (Kd.C_below HR42_0.out (bG_ GE41.out))); (case s2 => exact HC42_0.out); (case s3 => exact cC_ (Kd.C_below HR42_4.out (bG_ GE41.out))); (case s4 => exact HC42_4.out); rintro e w29 ⟨v85, v86, rfl, ho0, ho1, hb⟩; replace HO_5 := A_ (Kd.S_mono (Kd.S_told (Kd.S_told (Kd.S_old (vS_ HO_5.out) hb) (kb_ ho0)) (kb_ ho1)) (fun _ h_ => h_.1)); have HO55 := A_ (Kd.R_lower ho0 (below_size (bG_ GE41.out))); have HO56 := A_ (Kd.R_lower ho1 (below_size (bG_ GE41.out))); replace BK41 := A_ (bw_ BK41.out hb); replace HB := A_ (below_step (bG_ GE41.out) hb); clear hb ho0 ho1; obtain ⟨Ao31, co31, eo31⟩ := Kd.R_slice HO55.out; subst eo31; obtain ⟨Ao32, co32, eo32⟩ := Kd.R_slice HO56.out; subst eo32) | ((with_reducible refine gate_builtin (b := .append) (xs := #[.tmp 42, .tmp 48]) rfl ?_); at_builtin; refine Kd.S_append k57 (w0 := w) w.heap.size rfl (.tmp 42) (.tmp 48) 26 57 (.agg #[(.slice none 0 0), (.bool false), (.string ⟨#[]⟩), (.int .i64 0), (.slice none 0 0)]) 80 rfl Try.underlying26 info57 rfl (by decide) (by omega) u5 x5_11 (⟨t49, t66, t67, t68, t50⟩ : S57) [.slice Ao31 t49.length co31, .bool t66, .string t67, .int .i64 t68, .slice Ao32 t50.length co32] (fun k_ => k_ ≠ gb41) (fun k_ => some k_ = (.slice Ao31 t49.length co31 : Value).ownBlock \/ some k_ = (.slice Ao32 t50.length co32 : Value).ownBlock) rfl rfl ?aP (fun k_ hk_ => hk_.elim (fun h_ => ((Kd.R_mono (ok' := fun k_ => ((fun k_ => k_ ≠ gb41)) k_ /\ some k_ ≠ (u5 : Value).ownBlock) (Kd.R_types (Kd.R_apart' (HO55.out) (Kd.S_typed HO_5.out) (by decide)) BK41.out (by decide)) (fun k_ hk => ⟨hk.2, hk.1.2⟩))).1 k_ h_.symm) (fun h_ => ((Kd.R_mono (ok' := fun k_ => ((fun k_ => k_ ≠ gb41)) k_ /\ some k_ ≠ (u5 : Value).ownBlock) (Kd.R_types (Kd.R_apart' (HO56.out) (Kd.S_typed HO_5.out) (by decide)) BK41.out (by decide)) (fun k_ hk => ⟨hk.2, hk.1.2⟩))).1 k_ h_.symm)) ?aF ?aO ?aB ?aS ?aL ?_; (case aP => exact k57_mkM _ _ _ (⟨t49, t66, t67, t68, t50⟩ : S57) (Kd.R_mono (Kd.R_tight rfl (Kd.R_mono (ok' := fun k_ => ((fun k_ => k_ ≠ gb41)) k_ /\ some k_ ≠ (u5 : Value).ownBlock) (Kd.R_types (Kd.R_apart' (HO55.out) (Kd.S_typed HO_5.out) (by decide)) BK41.out (by decide)) (fun k_ hk => ⟨hk.2, hk.1.2⟩))) (fun _ h_ => Or.inl h_)) (Kd.R_mono (Kd.R_tight rfl (Kd.R_mono (ok' := fun k_ => ((fun k_ => k_ ≠ gb41)) k_ /\ some k_ ≠ (u5 : Value).ownBlock) (Kd.R_types (Kd.R_apart' (HO56.out) (Kd.S_typed HO_5.out) (by decide)) BK41.out (by decide)) (fun k_ hk => ⟨hk.2, hk.1.2⟩))) (fun _ h_ => Or.inr (h_)))); (case aB => exact (bG_ GE41.out)); (case aF => exact (fun k_ hk => Kd.freshB (g := gb41) (o := .cells #[.slice A1_0 l1_0.length c1_0, .bool a1_1, .string a1_2, .int .i64 a1_3, .slice A1_4 l1_4.length c1_4] 57 (0, 0)) (vb_ BK41.out) k_ hk)); (case aO => exact (by (with_reducible repeat (first | apply Kd.S_alloc | apply Kd.S_drewN | apply Kd.S_drew)); exact Kd.S_mono HO_5.out (fun k_ hk => ⟨hk.1.1, fun e_ => e_.elim (fun h_ => hk.1.2 h_) (fun h_ => hk.2 h_)⟩))); (case aS => exact (below_size (bG_ GE41.out))); (case aL => have := LMc27.out; omega); intro v87 w30 ho hb hg hat; rw [← Ny70.out] at ho; replace BK41 := A_ (blk_grown (g := gb41) (o := .cells #[.slice A1_0 l1_0.length c1_0, .bool a1_1, .string a1_2, .int .i64 a1_3, .slice A1_4 l1_4.length c1_4] 57 (0, 0)) (vb_ BK41.out) hg (Kd.S_away HO_5.out (fun _ hk => hk.1.1))); replace HB := A_ (hb); have HO77 := A_ (ho); clear HO_5 HO55 HO56; clear ho hb hg hat)))
         go_roundg kj11
         case measure => have := HK1.out; have := HJ6.out; have := HJ11.out; omega
         case rel => exact ⟨(y70), (x6_11), (wrap64 (x7_1 + 1)), rs_, rs_, H', ⟨by have := HK1.out; have := HJ6.out; have := HJ11.out; omega⟩, ⟨vS_ HO77.out⟩, ⟨vb_ BK41.out⟩, ⟨bG_ GE41.out⟩⟩
set_option maxHeartbeats 8000000
set_option maxRecDepth 100000
def laws_eqStringS.l0 : Nat -> List ByteArray -> List ByteArray -> Int -> Option (Bool)
 | 0, _, _, _ => none
 | k + 1, x0, x1, x5 => if x5 < (x0.length : Int) then (if 0 <= x5 then (if x5 < (x1.length : Int) then (if (rdOf ByteArray.empty x0 x5).toList = (rdOf ByteArray.empty x1 x5).toList then (laws_eqStringS.l0 k x0 x1 (wrap64 (x5 + 1))) else (some false)) else (none)) else (none)) else (some true)
def laws_eqStringS.f (k : Nat) (l0 : List ByteArray) (l1 : List ByteArray) : Option (Bool) := if (l0.length : Int) = (l1.length : Int) then (laws_eqStringS.l0 k l0 l1 0) else (some false)
theorem laws_eqStringS.calls (k : Nat) (A0 : Option Addr) (c0 : Nat) (l0 : List ByteArray) (A1 : Option Addr) (c1 : Nat) (l1 : List ByteArray) (r : Bool) (w : World) (hr0 : Kd.C Kd.string w A0 l0.length l0) (hc0 : l0.length <= c0) (hr1 : Kd.C Kd.string w A1 l1.length l1) (hc1 : l1.length <= c1) (h : laws_eqStringS.f k l0 l1 = some r) :
 Calls Try.prog 20 #[.slice A0 l0.length c0, .slice A1 l1.length c1] w fun e w' => e = .returned (.bool r) /\ Drawn0 w w' := by
 have HR0 := A_ hr0
 clear hr0 hc0
 have HR1 := A_ hr1
 clear hr1 hc1
 have H : (if (l0.length : Int) = (l1.length : Int) then (laws_eqStringS.l0 k l0 l1 0) else (some false)) = some r := h
 clear h
 by_cases c3 : (l0.length : Int) = (l1.length : Int)
 rotate_left
 . rw [if_neg c3] at H
   obtain ⟨c3b0, c3b1⟩ := eF_ c3
   have c3b2 : (l0.length == l1.length) = false := by first | simpa using c3 | (simp at c3 ⊢; omega)
   obtain rfl := si_ H
   go_enter Try.func20, Try.ntmps20
   go_wp2
   repeat (go_quiet (fail); try go_wp2)
   go_ret
   exact ⟨rs_, dr_⟩
 rw [if_pos c3] at H
 obtain ⟨c3b0, c3b1⟩ := eT_ c3
 have c3b2 : (l0.length == l1.length) = true := by first | simpa using c3 | (simp at c3 ⊢; omega)
 clear c3
 have H' := A_ H
 clear H
 go_enter Try.func20, Try.ntmps20
 go_wp2
 repeat (go_quiet (fail); try go_wp2)
 go_loopg [5] k (fun kq v5 w' => ∃ (x5_1 : Int), v5 = .int .i64 x5_1 /\ Aside0 (laws_eqStringS.l0 kq l0 l1 x5_1 = some r) /\ Aside0 (kq <= k) /\ Drawn0 w w')
 case atStart => exact ⟨(0), rs_, H', ⟨Nat.le_refl _⟩, dr_⟩
 case round =>
  clear H'
  try clear c3
  try clear c3b0
  try clear c3b1
  try clear c3b2
  obtain ⟨x5_1, rfl, HA, HK1, ⟨m1, rfl⟩⟩ := hrel
  cases gk with
  | zero => exact absurd HA.out (by simp [laws_eqStringS.l0])
  | succ k1 =>
   have H := HA.out
   clear HA
   simp only [laws_eqStringS.l0] at H
   by_cases c4 : x5_1 < (l0.length : Int)
   rotate_left
   . rw [if_neg c4] at H
     have c4b0 := decide_eq_false c4
     clear c4
     obtain rfl := si_ H
     go_wp2
     repeat (go_quiet (fail); try go_wp2)
     go_ret
     exact ⟨rs_, dr_⟩
   rw [if_pos c4] at H
   have c4b0 := decide_eq_true c4
   clear c4
   by_cases c5 : 0 <= x5_1
   rotate_left
   . exact absurd H (by rw [if_neg c5]; simp)
   rw [if_pos c5] at H
   have c5b0 := decide_eq_true c5
   clear c5
   by_cases c6 : x5_1 < (l1.length : Int)
   rotate_left
   . exact absurd H (by rw [if_neg c6]; simp)
   rw [if_pos c6] at H
   have c6b0 := decide_eq_true c6
   clear c6
   by_cases c7 : (rdOf ByteArray.empty l0 x5_1).toList = (rdOf ByteArray.empty l1 x5_1).toList
   rotate_left
   . rw [if_neg c7] at H
     obtain ⟨c7b0, c7b1⟩ := eF_ c7
     obtain rfl := si_ H
     have p2 : 0 <= (x5_1 : Int) := od_
     have q2 : x5_1 < (l0.length : Int) := od_
     obtain ⟨ad2, e2, hx2_0⟩ := Kd.at_string HR0.out x5_1 p2 q2
     cases e2
     replace p2 := eq_true p2
     replace q2 := eq_true q2
     have p8 : 0 <= (x5_1 : Int) := od_
     have q8 : x5_1 < (l1.length : Int) := od_
     obtain ⟨ad8, e8, hx8_0⟩ := Kd.at_string HR1.out x5_1 p8 q8
     cases e8
     replace p8 := eq_true p8
     replace q8 := eq_true q8
     go_wp2
     repeat (go_quiet (fail); try go_wp2)
     go_ret
     exact ⟨rs_, dr_⟩
   rw [if_pos c7] at H
   obtain ⟨c7b0, c7b1⟩ := eT_ c7
   clear c7
   have H' := A_ H
   clear H
   have p2 : 0 <= (x5_1 : Int) := od_
   have q2 : x5_1 < (l0.length : Int) := od_
   obtain ⟨ad2, e2, hx2_0⟩ := Kd.at_string HR0.out x5_1 p2 q2
   cases e2
   replace p2 := eq_true p2
   replace q2 := eq_true q2
   have p8 : 0 <= (x5_1 : Int) := od_
   have q8 : x5_1 < (l1.length : Int) := od_
   obtain ⟨ad8, e8, hx8_0⟩ := Kd.at_string HR1.out x5_1 p8 q8
   cases e8
   replace p8 := eq_true p8
   replace q8 := eq_true q8
   go_wp2
   repeat (go_quiet (fail); try go_wp2)
   go_roundg k1
   case measure => have := HK1.out; omega
   case rel => exact ⟨(wrap64 (x5_1 + 1)), rs_, H', ⟨by have := HK1.out; omega⟩, dr_⟩
def laws_eqProp.f (a0_0 : ByteArray) (a0_1 : ByteArray) (a0_2 : ByteArray) (a1_0 : ByteArray) (a1_1 : ByteArray) (a1_2 : ByteArray) : Option (Bool) := if a0_0.toList = a1_0.toList then (if a0_1.toList = a1_1.toList then (if a0_2.toList = a1_2.toList then (some true) else (some false)) else (some false)) else (some false)
theorem laws_eqProp.calls (a0_0 : ByteArray) (a0_1 : ByteArray) (a0_2 : ByteArray) (a1_0 : ByteArray) (a1_1 : ByteArray) (a1_2 : ByteArray) (r : Bool) (w : World) (h : laws_eqProp.f a0_0 a0_1 a0_2 a1_0 a1_1 a1_2 = some r) :
 Calls Try.prog 114 #[.agg #[.string a0_0, .string a0_1, .string a0_2], .agg #[.string a1_0, .string a1_1, .string a1_2]] w fun e w' => e = .returned (.bool r) /\ Below w.heap.size w w' := by
 have hu72 := Try.underlying72
 have HB := A_ (Below.refl w.heap.size w)
 have H : (if a0_0.toList = a1_0.toList then (if a0_1.toList = a1_1.toList then (if a0_2.toList = a1_2.toList then (some true) else (some false)) else (some false)) else (some false)) = some r := h
 clear h
 by_cases c3 : a0_0.toList = a1_0.toList
 rotate_left
 . rw [if_neg c3] at H
   obtain ⟨c3b0, c3b1⟩ := eF_ c3
   obtain rfl := si_ H
   go_enter Try.func114, Try.ntmps114
   go_wp2_with (first | ((with_reducible refine gd_ (N := 2) rfl ?_); refine bx_ (N := 2) (cs := #[.string a0_0, .string a0_1, .string a0_2]) (t := 72) ?_; intro gb2 hg w21 hbox hb; have BK2 := A_ (hbox); have GW2 := A_ (ge_ hg bB_ : w.heap.size <= gb2); have GE2 := A_ (ge_ hg bB_ : w.heap.size <= gb2); replace HB := A_ (below_step bB_ hb); clear hb hbox hg) | ((with_reducible refine gd_ (N := 3) rfl ?_); refine bx_ (N := 3) (cs := #[.string a1_0, .string a1_1, .string a1_2]) (t := 72) ?_; intro gb26 hg w22 hbox hb; have BK26 := A_ (hbox); have GW26 := A_ (ge_ hg (bG_ GE2.out) : w.heap.size <= gb26); have GE26 := A_ (ge_ hg (bG_ GE2.out) : w.heap.size <= gb26); replace HB := A_ (below_step (bG_ GE2.out) hb); have NB392_393 := A_ (gm_ hg BK2.out); have NB393_392 := A_ (gn_ hg BK2.out); replace BK2 := A_ (bw_ BK2.out hb); clear hb hbox hg; have hnb23 := NB392_393.out; have hnc23 := NB393_392.out; obtain ⟨hcz24_0, hcz24_1, hcz24_2, hfz24_0, hfz24_1, hfz24_2⟩ := cz3_ BK2.out; obtain ⟨hcz25_0, hcz25_1, hcz25_2, hfz25_0, hfz25_1, hfz25_2⟩ := cz3_ BK26.out))
   go_ret
   exact ⟨rr_, by repeat (first | (with_reducible first | exact HB.out | apply below_alloc | apply pw_below_drewN | apply below_drew1 | refine below_set ?_ GE2.out | refine below_set ?_ GE26.out) | exact HB.out)⟩
 rw [if_pos c3] at H
 obtain ⟨c3b0, c3b1⟩ := eT_ c3
 clear c3
 by_cases c4 : a0_1.toList = a1_1.toList
 rotate_left
 . rw [if_neg c4] at H
   obtain ⟨c4b0, c4b1⟩ := eF_ c4
   obtain rfl := si_ H
   go_enter Try.func114, Try.ntmps114
   go_wp2_with (first | ((with_reducible refine gd_ (N := 2) rfl ?_); refine bx_ (N := 2) (cs := #[.string a0_0, .string a0_1, .string a0_2]) (t := 72) ?_; intro gb2 hg w16 hbox hb; have BK2 := A_ (hbox); have GW2 := A_ (ge_ hg bB_ : w.heap.size <= gb2); have GE2 := A_ (ge_ hg bB_ : w.heap.size <= gb2); replace HB := A_ (below_step bB_ hb); clear hb hbox hg) | ((with_reducible refine gd_ (N := 3) rfl ?_); refine bx_ (N := 3) (cs := #[.string a1_0, .string a1_1, .string a1_2]) (t := 72) ?_; intro gb26 hg w17 hbox hb; have BK26 := A_ (hbox); have GW26 := A_ (ge_ hg (bG_ GE2.out) : w.heap.size <= gb26); have GE26 := A_ (ge_ hg (bG_ GE2.out) : w.heap.size <= gb26); replace HB := A_ (below_step (bG_ GE2.out) hb); have NB392_393 := A_ (gm_ hg BK2.out); have NB393_392 := A_ (gn_ hg BK2.out); replace BK2 := A_ (bw_ BK2.out hb); clear hb hbox hg; have hnb18 := NB392_393.out; have hnc18 := NB393_392.out; obtain ⟨hcz19_0, hcz19_1, hcz19_2, hfz19_0, hfz19_1, hfz19_2⟩ := cz3_ BK2.out; obtain ⟨hcz20_0, hcz20_1, hcz20_2, hfz20_0, hfz20_1, hfz20_2⟩ := cz3_ BK26.out))
   go_ret
   exact ⟨rr_, by repeat (first | (with_reducible first | exact HB.out | apply below_alloc | apply pw_below_drewN | apply below_drew1 | refine below_set ?_ GE2.out | refine below_set ?_ GE26.out) | exact HB.out)⟩
 rw [if_pos c4] at H
 obtain ⟨c4b0, c4b1⟩ := eT_ c4
 clear c4
 by_cases c5 : a0_2.toList = a1_2.toList
 rotate_left
 . rw [if_neg c5] at H
   obtain ⟨c5b0, c5b1⟩ := eF_ c5
   obtain rfl := si_ H
   go_enter Try.func114, Try.ntmps114
   go_wp2_with (first | ((with_reducible refine gd_ (N := 2) rfl ?_); refine bx_ (N := 2) (cs := #[.string a0_0, .string a0_1, .string a0_2]) (t := 72) ?_; intro gb2 hg w11 hbox hb; have BK2 := A_ (hbox); have GW2 := A_ (ge_ hg bB_ : w.heap.size <= gb2); have GE2 := A_ (ge_ hg bB_ : w.heap.size <= gb2); replace HB := A_ (below_step bB_ hb); clear hb hbox hg) | ((with_reducible refine gd_ (N := 3) rfl ?_); refine bx_ (N := 3) (cs := #[.string a1_0, .string a1_1, .string a1_2]) (t := 72) ?_; intro gb26 hg w12 hbox hb; have BK26 := A_ (hbox); have GW26 := A_ (ge_ hg (bG_ GE2.out) : w.heap.size <= gb26); have GE26 := A_ (ge_ hg (bG_ GE2.out) : w.heap.size <= gb26); replace HB := A_ (below_step (bG_ GE2.out) hb); have NB392_393 := A_ (gm_ hg BK2.out); have NB393_392 := A_ (gn_ hg BK2.out); replace BK2 := A_ (bw_ BK2.out hb); clear hb hbox hg; have hnb13 := NB392_393.out; have hnc13 := NB393_392.out; obtain ⟨hcz14_0, hcz14_1, hcz14_2, hfz14_0, hfz14_1, hfz14_2⟩ := cz3_ BK2.out; obtain ⟨hcz15_0, hcz15_1, hcz15_2, hfz15_0, hfz15_1, hfz15_2⟩ := cz3_ BK26.out))
   go_ret
   exact ⟨rr_, by repeat (first | (with_reducible first | exact HB.out | apply below_alloc | apply pw_below_drewN | apply below_drew1 | refine below_set ?_ GE2.out | refine below_set ?_ GE26.out) | exact HB.out)⟩
 rw [if_pos c5] at H
 obtain ⟨c5b0, c5b1⟩ := eT_ c5
 clear c5
 obtain rfl := si_ H
 go_enter Try.func114, Try.ntmps114
 go_wp2_with (first | ((with_reducible refine gd_ (N := 2) rfl ?_); refine bx_ (N := 2) (cs := #[.string a0_0, .string a0_1, .string a0_2]) (t := 72) ?_; intro gb2 hg w6 hbox hb; have BK2 := A_ (hbox); have GW2 := A_ (ge_ hg bB_ : w.heap.size <= gb2); have GE2 := A_ (ge_ hg bB_ : w.heap.size <= gb2); replace HB := A_ (below_step bB_ hb); clear hb hbox hg) | ((with_reducible refine gd_ (N := 3) rfl ?_); refine bx_ (N := 3) (cs := #[.string a1_0, .string a1_1, .string a1_2]) (t := 72) ?_; intro gb26 hg w7 hbox hb; have BK26 := A_ (hbox); have GW26 := A_ (ge_ hg (bG_ GE2.out) : w.heap.size <= gb26); have GE26 := A_ (ge_ hg (bG_ GE2.out) : w.heap.size <= gb26); replace HB := A_ (below_step (bG_ GE2.out) hb); have NB392_393 := A_ (gm_ hg BK2.out); have NB393_392 := A_ (gn_ hg BK2.out); replace BK2 := A_ (bw_ BK2.out hb); clear hb hbox hg; have hnb8 := NB392_393.out; have hnc8 := NB393_392.out; obtain ⟨hcz9_0, hcz9_1, hcz9_2, hfz9_0, hfz9_1, hfz9_2⟩ := cz3_ BK2.out; obtain ⟨hcz10_0, hcz10_1, hcz10_2, hfz10_0, hfz10_1, hfz10_2⟩ := cz3_ BK26.out))
 go_ret
 exact ⟨rr_, by repeat (first | (with_reducible first | exact HB.out | apply below_alloc | apply pw_below_drewN | apply below_drew1 | refine below_set ?_ GE2.out | refine below_set ?_ GE26.out) | exact HB.out)⟩
def laws_eqPropS.l0 : Nat -> List (S72) -> List (S72) -> Int -> Option (Bool)
 | 0, _, _, _ => none
 | k + 1, x0, x1, x5 => if x5 < (x0.length : Int) then (if 0 <= x5 then (if x5 < (x1.length : Int) then ((laws_eqProp.f ((rd_T72 x0 x5).f0) ((rd_T72 x0 x5).f1) ((rd_T72 x0 x5).f2) ((rd_T72 x1 x5).f0) ((rd_T72 x1 x5).f1) ((rd_T72 x1 x5).f2)).bind fun t396 => (if t396 = true then (laws_eqPropS.l0 k x0 x1 (wrap64 (x5 + 1))) else (some false))) else (none)) else (none)) else (some true)
def laws_eqPropS.f (k : Nat) (l0 : List (S72)) (l1 : List (S72)) : Option (Bool) := if (l0.length : Int) = (l1.length : Int) then (laws_eqPropS.l0 k l0 l1 0) else (some false)
def laws_eqPropS.T6 : Bool × List (List Nat × List Nat) := (true, [([], []), ([], []), ([0, 1], [0, 1]), ([2], [2]), ([], []), ([], []), ([4, 5], [4, 5]), ([6], [6]), ([3, 7], [3, 7]), ([8], [8])])
def laws_eqPropS.B6 : List Nat := [0, 0, 3, 7, 0, 0, 48, 112, 255, 511]
theorem laws_eqPropS.tab6 : rtab .any (opsOf Try.f110 6) = laws_eqPropS.T6 := by kernel_rfl
theorem laws_eqPropS.bits6 : waitsOk laws_eqPropS.T6.2 laws_eqPropS.B6 = true := by kernel_rfl
theorem laws_eqPropS.calls (k : Nat) (A0 : Option Addr) (c0 : Nat) (l0 : List (S72)) (A1 : Option Addr) (c1 : Nat) (l1 : List (S72)) (r : Bool) (w : World) (hr0 : Kd.C k72 w A0 l0.length l0) (hc0 : l0.length <= c0) (hr1 : Kd.C k72 w A1 l1.length l1) (hc1 : l1.length <= c1) (h : laws_eqPropS.f k l0 l1 = some r) :
 Calls Try.prog 110 #[.slice A0 l0.length c0, .slice A1 l1.length c1] w fun e w' => e = .returned (.bool r) /\ Below w.heap.size w w' := by
 have hu72 := Try.underlying72
 have HR0 := A_ hr0
 clear hr0 hc0
 have HR1 := A_ hr1
 clear hr1 hc1
 have HB := A_ (Below.refl w.heap.size w)
 have H : (if (l0.length : Int) = (l1.length : Int) then (laws_eqPropS.l0 k l0 l1 0) else (some false)) = some r := h
 clear h
 by_cases c3 : (l0.length : Int) = (l1.length : Int)
 rotate_left
 . rw [if_neg c3] at H
   obtain ⟨c3b0, c3b1⟩ := eF_ c3
   have c3b2 : (l0.length == l1.length) = false := by first | simpa using c3 | (simp at c3 ⊢; omega)
   obtain rfl := si_ H
   go_enter Try.func110, Try.ntmps110
   go_wp2
   go_ret
   exact ⟨rr_, bB_⟩
 rw [if_pos c3] at H
 obtain ⟨c3b0, c3b1⟩ := eT_ c3
 have c3b2 : (l0.length == l1.length) = true := by first | simpa using c3 | (simp at c3 ⊢; omega)
 clear c3
 have H' := A_ H
 clear H
 go_enter Try.func110, Try.ntmps110
 go_wp2
 go_loopg [5] k (fun kq v5 w' => ∃ (x5_1 : Int), v5 = .int .i64 x5_1 /\ Aside0 (laws_eqPropS.l0 kq l0 l1 x5_1 = some r) /\ Aside0 (kq <= k) /\ Aside0 (Below w.heap.size w w'))
 case atStart => exact ⟨(0), rs_, H', ⟨Nat.le_refl _⟩, ⟨bB_⟩⟩
 case round =>
  clear H'
  try clear c3
  try clear c3b0
  try clear c3b1
  try clear c3b2
  obtain ⟨x5_1, rfl, HA, HK1, HB⟩ := hrel
  cases gk with
  | zero => exact absurd HA.out (by simp [laws_eqPropS.l0])
  | succ k1 =>
   have H := HA.out
   clear HA
   simp only [laws_eqPropS.l0] at H
   by_cases c4 : x5_1 < (l0.length : Int)
   rotate_left
   . rw [if_neg c4] at H
     have c4b0 := decide_eq_false c4
     clear c4
     obtain rfl := si_ H
     go_wp2
     go_ret
     exact ⟨rr_, bB_⟩
   rw [if_pos c4] at H
   have c4b0 := decide_eq_true c4
   clear c4
   by_cases c5 : 0 <= x5_1
   rotate_left
   . exact absurd H (by rw [if_neg c5]; simp)
   rw [if_pos c5] at H
   have c5b0 := decide_eq_true c5
   clear c5
   by_cases c6 : x5_1 < (l1.length : Int)
   rotate_left
   . exact absurd H (by rw [if_neg c6]; simp)
   rw [if_pos c6] at H
   have c6b0 := decide_eq_true c6
   clear c6
   obtain ⟨t14, A7, H⟩ := bo_ H
   (try dsimp only at H)
   by_cases c8 : t14 = true
   . subst c8
     rw [if_pos rfl] at H
     have H' := A_ H
     clear H
     try go_wp2
     replace HB := A_ (below_drew1 HB.out)
     have p2 : 0 <= (x5_1 : Int) := od_
     have q2 : x5_1 < (l0.length : Int) := od_
     obtain ⟨ad2, e2, hx2_0, hx2_1, hx2_2⟩ := at_T72 HR0.out x5_1 p2 q2
     have hw2_2 := hx2_2
     have hw2_1 := hx2_1
     have hw2_0 := hx2_0
     cases e2
     replace hx2_0 := bc_ HB.out hx2_0
     replace hx2_1 := bc_ HB.out hx2_1
     replace hx2_2 := bc_ HB.out hx2_2
     replace p2 := eq_true p2
     replace q2 := eq_true q2
     have p13 : 0 <= (x5_1 : Int) := od_
     have q13 : x5_1 < (l1.length : Int) := od_
     obtain ⟨ad13, e13, hx13_0, hx13_1, hx13_2⟩ := at_T72 HR1.out x5_1 p13 q13
     have hw13_2 := hx13_2
     have hw13_1 := hx13_1
     have hw13_0 := hx13_0
     cases e13
     replace hx13_0 := bc_ HB.out hx13_0
     replace hx13_1 := bc_ HB.out hx13_1
     replace hx13_2 := bc_ HB.out hx13_2
     replace p13 := eq_true p13
     replace q13 := eq_true q13
     refine st6_ (n := 10) (ds := []) (be_ hw2_0) (be_ hw2_1) (be_ hw2_2) (be_ hw13_0) (be_ hw13_1) (be_ hw13_2) (fun hHeld => ?_); refine with_tabW laws_eqPropS.tab6 laws_eqPropS.bits6 (fun HT_ HW_ => ?_)
     generalize wr.drew = w9 at HB hx2_0 hx2_1 hx2_2 hx13_0 hx13_1 hx13_2 hHeld ⊢
     refine pu_ (i := 0) (N := some 17) ?_
     refine pu_ (i := 1) (N := some 18) ?_
     refine pu_ (i := 2) (N := some 19) ?_
     refine pu_ (i := 4) (N := some 21) ?_
     refine pu_ (i := 5) (N := some 22) ?_
     refine pu_ (i := 6) (N := some 23) ?_
     refine tk_ (i := 3) (N := some 20) hHeld ?_
     refine tk_ (i := 7) (N := some 24) hHeld ?_
     refine on_ (i := 8) (N := some 25) (fun K hK => ?_)
     refine goes_ Try.func114 (by kernel_rfl) rfl #[.agg #[.string ((rd_T72 l0 x5_1).f0), .string ((rd_T72 l0 x5_1).f1), .string ((rd_T72 l0 x5_1).f2)], .agg #[.string ((rd_T72 l1 x5_1).f0), .string ((rd_T72 l1 x5_1).f1), .string ((rd_T72 l1 x5_1).f2)]] (by rfl) rfl rfl ml_ ?_
     with_reducible refine (laws_eqProp.calls ((rd_T72 l0 x5_1).f0) ((rd_T72 l0 x5_1).f1) ((rd_T72 l0 x5_1).f2) ((rd_T72 l1 x5_1).f0) ((rd_T72 l1 x5_1).f1) ((rd_T72 l1 x5_1).f2) true _ A7.out).mono ?_
     rintro e w10 ⟨rfl, hb⟩
     refine ⟨_, rfl, ?_⟩
     replace HB := A_ (below_step bB_ hb)
     clear hb
     refine hK.out _ _ ⟨(be_ hw2_0), (be_ hw2_1), (be_ hw2_2), (be_ hw13_0), (be_ hw13_1), (be_ hw13_2)⟩ (fun hHeld => ?_)
     clear hK K
     refine no_ (some 25) ?_
     refine pu_ (i := 9) (N := some 26) ?_
     refine done_ (done_of HT_.out (by kernel_rfl)) ?_
     (try clear hHeld)
     try go_wp2
     go_roundg k1
     case measure => have := HK1.out; omega
     case rel => exact ⟨(wrap64 (x5_1 + 1)), rs_, H', ⟨by have := HK1.out; omega⟩, ⟨bB_⟩⟩
   . replace c8 := Bool.eq_false_iff.mpr c8
     subst c8
     rw [if_neg nf_] at H
     obtain rfl := si_ H
     try go_wp2
     replace HB := A_ (below_drew1 HB.out)
     have p2 : 0 <= (x5_1 : Int) := od_
     have q2 : x5_1 < (l0.length : Int) := od_
     obtain ⟨ad2, e2, hx2_0, hx2_1, hx2_2⟩ := at_T72 HR0.out x5_1 p2 q2
     have hw2_2 := hx2_2
     have hw2_1 := hx2_1
     have hw2_0 := hx2_0
     cases e2
     replace hx2_0 := bc_ HB.out hx2_0
     replace hx2_1 := bc_ HB.out hx2_1
     replace hx2_2 := bc_ HB.out hx2_2
     replace p2 := eq_true p2
     replace q2 := eq_true q2
     have p13 : 0 <= (x5_1 : Int) := od_
     have q13 : x5_1 < (l1.length : Int) := od_
     obtain ⟨ad13, e13, hx13_0, hx13_1, hx13_2⟩ := at_T72 HR1.out x5_1 p13 q13
     have hw13_2 := hx13_2
     have hw13_1 := hx13_1
     have hw13_0 := hx13_0
     cases e13
     replace hx13_0 := bc_ HB.out hx13_0
     replace hx13_1 := bc_ HB.out hx13_1
     replace hx13_2 := bc_ HB.out hx13_2
     replace p13 := eq_true p13
     replace q13 := eq_true q13
     refine st6_ (n := 10) (ds := []) (be_ hw2_0) (be_ hw2_1) (be_ hw2_2) (be_ hw13_0) (be_ hw13_1) (be_ hw13_2) (fun hHeld => ?_); refine with_tabW laws_eqPropS.tab6 laws_eqPropS.bits6 (fun HT_ HW_ => ?_)
     generalize wr.drew = w11 at HB hx2_0 hx2_1 hx2_2 hx13_0 hx13_1 hx13_2 hHeld ⊢
     refine pu_ (i := 0) (N := some 17) ?_
     refine pu_ (i := 1) (N := some 18) ?_
     refine pu_ (i := 2) (N := some 19) ?_
     refine pu_ (i := 4) (N := some 21) ?_
     refine pu_ (i := 5) (N := some 22) ?_
     refine pu_ (i := 6) (N := some 23) ?_
     refine tk_ (i := 3) (N := some 20) hHeld ?_
     refine tk_ (i := 7) (N := some 24) hHeld ?_
     refine on_ (i := 8) (N := some 25) (fun K hK => ?_)
     refine goes_ Try.func114 (by kernel_rfl) rfl #[.agg #[.string ((rd_T72 l0 x5_1).f0), .string ((rd_T72 l0 x5_1).f1), .string ((rd_T72 l0 x5_1).f2)], .agg #[.string ((rd_T72 l1 x5_1).f0), .string ((rd_T72 l1 x5_1).f1), .string ((rd_T72 l1 x5_1).f2)]] (by rfl) rfl rfl ml_ ?_
     with_reducible refine (laws_eqProp.calls ((rd_T72 l0 x5_1).f0) ((rd_T72 l0 x5_1).f1) ((rd_T72 l0 x5_1).f2) ((rd_T72 l1 x5_1).f0) ((rd_T72 l1 x5_1).f1) ((rd_T72 l1 x5_1).f2) false _ A7.out).mono ?_
     rintro e w12 ⟨rfl, hb⟩
     refine ⟨_, rfl, ?_⟩
     replace HB := A_ (below_step bB_ hb)
     clear hb
     refine hK.out _ _ ⟨(be_ hw2_0), (be_ hw2_1), (be_ hw2_2), (be_ hw13_0), (be_ hw13_1), (be_ hw13_2)⟩ (fun hHeld => ?_)
     clear hK K
     refine no_ (some 25) ?_
     refine pu_ (i := 9) (N := some 26) ?_
     refine done_ (done_of HT_.out (by kernel_rfl)) ?_
     (try clear hHeld)
     try go_wp2
     go_ret
     exact ⟨rr_, bB_⟩
def laws_eqRes.f (k : Nat) (l0_0 : List ByteArray) (a0_1 : Bool) (a0_2 : ByteArray) (a0_3 : Int) (l0_4 : List (S72)) (l1_0 : List ByteArray) (a1_1 : Bool) (a1_2 : ByteArray) (a1_3 : Int) (l1_4 : List (S72)) : Option (Bool) := (laws_eqStringS.f k l0_0 l1_0).bind fun t399 => (if t399 = true then (if (a0_1 != a1_1) = true then (some false) else (if a0_2.toList = a1_2.toList then (if a0_3 = a1_3 then ((laws_eqPropS.f k l0_4 l1_4).bind fun t400 => (if t400 = true then (some true) else (some false))) else (some false)) else (some false))) else (some false))
theorem laws_eqRes.calls (k : Nat) (A0_0 : Option Addr) (c0_0 : Nat) (l0_0 : List ByteArray) (a0_1 : Bool) (a0_2 : ByteArray) (a0_3 : Int) (A0_4 : Option Addr) (c0_4 : Nat) (l0_4 : List (S72)) (A1_0 : Option Addr) (c1_0 : Nat) (l1_0 : List ByteArray) (a1_1 : Bool) (a1_2 : ByteArray) (a1_3 : Int) (A1_4 : Option Addr) (c1_4 : Nat) (l1_4 : List (S72)) (r : Bool) (w : World) (hr0_0 : Kd.C Kd.string w A0_0 l0_0.length l0_0) (hc0_0 : l0_0.length <= c0_0) (hr0_4 : Kd.C k72 w A0_4 l0_4.length l0_4) (hc0_4 : l0_4.length <= c0_4) (hr1_0 : Kd.C Kd.string w A1_0 l1_0.length l1_0) (hc1_0 : l1_0.length <= c1_0) (hr1_4 : Kd.C k72 w A1_4 l1_4.length l1_4) (hc1_4 : l1_4.length <= c1_4) (h : laws_eqRes.f k l0_0 a0_1 a0_2 a0_3 l0_4 l1_0 a1_1 a1_2 a1_3 l1_4 = some r) :
 Calls Try.prog 68 #[.agg #[.slice A0_0 l0_0.length c0_0, .bool a0_1, .string a0_2, .int .i64 a0_3, .slice A0_4 l0_4.length c0_4], .agg #[.slice A1_0 l1_0.length c1_0, .bool a1_1, .string a1_2, .int .i64 a1_3, .slice A1_4 l1_4.length c1_4]] w fun e w' => e = .returned (.bool r) /\ Below w.heap.size w w' := by
 have hu57 := Try.underlying57
 have HR0_0 := A_ hr0_0
 have HC0_0 := A_ hc0_0
 clear hr0_0 hc0_0
 have HR0_4 := A_ hr0_4
 have HC0_4 := A_ hc0_4
 clear hr0_4 hc0_4
 have HR1_0 := A_ hr1_0
 have HC1_0 := A_ hc1_0
 clear hr1_0 hc1_0
 have HR1_4 := A_ hr1_4
 have HC1_4 := A_ hc1_4
 clear hr1_4 hc1_4
 have HB := A_ (Below.refl w.heap.size w)
 have H : ((laws_eqStringS.f k l0_0 l1_0).bind fun t44 => (if t44 = true then (if (a0_1 != a1_1) = true then (some false) else (if a0_2.toList = a1_2.toList then (if a0_3 = a1_3 then ((laws_eqPropS.f k l0_4 l1_4).bind fun t45 => (if t45 = true then (some true) else (some false))) else (some false)) else (some false))) else (some false))) = some r := h
 clear h
 obtain ⟨t44, A3, H⟩ := bo_ H
 (try dsimp only at H)
 by_cases c4 : t44 = true
 . subst c4
   rw [if_pos rfl] at H
   by_cases c5 : (a0_1 != a1_1) = true
   . rw [if_pos c5] at H
     have c5b0 : (a0_1 != a1_1) = true := c5
     (try (have c5b1 : decide (a0_1 = a1_1) = false := by simpa using c5))
     (try (have c5b2 : (a0_1 == a1_1) = false := by simpa using c5))
     (try (have c5b3 : ¬ (a0_1 = a1_1) := by simpa using c5))
     clear c5
     obtain rfl := si_ H
     go_enter Try.func68, Try.ntmps68
     go_wp2_with (first | ((with_reducible refine gd_ (N := 2) rfl ?_); refine bx_ (N := 2) (cs := #[.slice A0_0 l0_0.length c0_0, .bool a0_1, .string a0_2, .int .i64 a0_3, .slice A0_4 l0_4.length c0_4]) (t := 57) ?_; intro gb42 hg w6 hbox hb; have BK42 := A_ (hbox); have GW42 := A_ (ge_ hg bB_ : w.heap.size <= gb42); have GE42 := A_ (ge_ hg bB_ : w.heap.size <= gb42); replace HB := A_ (below_step bB_ hb); clear hb hbox hg) | ((with_reducible refine gd_ (N := 3) rfl ?_); refine bx_ (N := 3) (cs := #[.slice A1_0 l1_0.length c1_0, .bool a1_1, .string a1_2, .int .i64 a1_3, .slice A1_4 l1_4.length c1_4]) (t := 57) ?_; intro gb43 hg w7 hbox hb; have BK43 := A_ (hbox); have GW43 := A_ (ge_ hg (bG_ GE42.out) : w.heap.size <= gb43); have GE43 := A_ (ge_ hg (bG_ GE42.out) : w.heap.size <= gb43); replace HB := A_ (below_step (bG_ GE42.out) hb); have NB397_398 := A_ (gm_ hg BK42.out); have NB398_397 := A_ (gn_ hg BK42.out); replace BK42 := A_ (bw_ BK42.out hb); clear hb hbox hg; have hnb8 := NB397_398.out; have hnc8 := NB398_397.out; obtain ⟨hcz9_0, hcz9_1, hcz9_2, hcz9_3, hcz9_4, hfz9_0, hfz9_1, hfz9_2, hfz9_3, hfz9_4⟩ := cz5_ BK42.out; obtain ⟨hcz10_0, hcz10_1, hcz10_2, hcz10_3, hcz10_4, hfz10_0, hfz10_1, hfz10_2, hfz10_3, hfz10_4⟩ := cz5_ BK43.out) | ((with_reducible refine gc_ (f := 20) rfl ?_); refine gL_ (some 9) Try.func20 #[.slice A0_0 l0_0.length c0_0, .slice A1_0 l1_0.length c1_0] ?_; (with_reducible refine (laws_eqStringS.calls k _ _ l0_0 _ _ l1_0 true _ ?s1 ?s2 ?s3 ?s4 A3.out).mono ?_); (case s1 => exact cC_ (Kd.C_below HR0_0.out HB.out)); (case s2 => exact HC0_0.out); (case s3 => exact cC_ (Kd.C_below HR1_0.out HB.out)); (case s4 => exact HC1_0.out); rintro e w' ⟨rfl, ⟨nd, rfl⟩⟩; refine ⟨_, rfl, ?_⟩))
     go_ret
     exact ⟨rr_, by repeat (first | (with_reducible first | exact HB.out | apply below_alloc | apply pw_below_drewN | apply below_drew1 | refine below_set ?_ GE42.out | refine below_set ?_ GE43.out) | exact HB.out)⟩
   rw [if_neg c5] at H
   have c5b0 : (a0_1 != a1_1) = false := by simpa using c5
   (try (have c5b1 : decide (a0_1 = a1_1) = true := by simpa using c5))
   (try (have c5b2 : (a0_1 == a1_1) = true := by simpa using c5))
   clear c5
   by_cases c11 : a0_2.toList = a1_2.toList
   rotate_left
   . rw [if_neg c11] at H
     obtain ⟨c11b0, c11b1⟩ := eF_ c11
     obtain rfl := si_ H
     go_enter Try.func68, Try.ntmps68
     go_wp2_with (first | ((with_reducible refine gd_ (N := 2) rfl ?_); refine bx_ (N := 2) (cs := #[.slice A0_0 l0_0.length c0_0, .bool a0_1, .string a0_2, .int .i64 a0_3, .slice A0_4 l0_4.length c0_4]) (t := 57) ?_; intro gb42 hg w32 hbox hb; have BK42 := A_ (hbox); have GW42 := A_ (ge_ hg bB_ : w.heap.size <= gb42); have GE42 := A_ (ge_ hg bB_ : w.heap.size <= gb42); replace HB := A_ (below_step bB_ hb); clear hb hbox hg) | ((with_reducible refine gd_ (N := 3) rfl ?_); refine bx_ (N := 3) (cs := #[.slice A1_0 l1_0.length c1_0, .bool a1_1, .string a1_2, .int .i64 a1_3, .slice A1_4 l1_4.length c1_4]) (t := 57) ?_; intro gb43 hg w33 hbox hb; have BK43 := A_ (hbox); have GW43 := A_ (ge_ hg (bG_ GE42.out) : w.heap.size <= gb43); have GE43 := A_ (ge_ hg (bG_ GE42.out) : w.heap.size <= gb43); replace HB := A_ (below_step (bG_ GE42.out) hb); have NB397_398 := A_ (gm_ hg BK42.out); have NB398_397 := A_ (gn_ hg BK42.out); replace BK42 := A_ (bw_ BK42.out hb); clear hb hbox hg; have hnb34 := NB397_398.out; have hnc34 := NB398_397.out; obtain ⟨hcz35_0, hcz35_1, hcz35_2, hcz35_3, hcz35_4, hfz35_0, hfz35_1, hfz35_2, hfz35_3, hfz35_4⟩ := cz5_ BK42.out; obtain ⟨hcz36_0, hcz36_1, hcz36_2, hcz36_3, hcz36_4, hfz36_0, hfz36_1, hfz36_2, hfz36_3, hfz36_4⟩ := cz5_ BK43.out) | ((with_reducible refine gc_ (f := 20) rfl ?_); refine gL_ (some 9) Try.func20 #[.slice A0_0 l0_0.length c0_0, .slice A1_0 l1_0.length c1_0] ?_; (with_reducible refine (laws_eqStringS.calls k _ _ l0_0 _ _ l1_0 true _ ?s1 ?s2 ?s3 ?s4 A3.out).mono ?_); (case s1 => exact cC_ (Kd.C_below HR0_0.out HB.out)); (case s2 => exact HC0_0.out); (case s3 => exact cC_ (Kd.C_below HR1_0.out HB.out)); (case s4 => exact HC1_0.out); rintro e w' ⟨rfl, ⟨nd, rfl⟩⟩; refine ⟨_, rfl, ?_⟩))
     go_ret
     exact ⟨rr_, by repeat (first | (with_reducible first | exact HB.out | apply below_alloc | apply pw_below_drewN | apply below_drew1 | refine below_set ?_ GE42.out | refine below_set ?_ GE43.out) | exact HB.out)⟩
   rw [if_pos c11] at H
   obtain ⟨c11b0, c11b1⟩ := eT_ c11
   clear c11
   by_cases c12 : a0_3 = a1_3
   rotate_left
   . rw [if_neg c12] at H
     obtain ⟨c12b0, c12b1⟩ := eF_ c12
     obtain rfl := si_ H
     go_enter Try.func68, Try.ntmps68
     go_wp2_with (first | ((with_reducible refine gd_ (N := 2) rfl ?_); refine bx_ (N := 2) (cs := #[.slice A0_0 l0_0.length c0_0, .bool a0_1, .string a0_2, .int .i64 a0_3, .slice A0_4 l0_4.length c0_4]) (t := 57) ?_; intro gb42 hg w27 hbox hb; have BK42 := A_ (hbox); have GW42 := A_ (ge_ hg bB_ : w.heap.size <= gb42); have GE42 := A_ (ge_ hg bB_ : w.heap.size <= gb42); replace HB := A_ (below_step bB_ hb); clear hb hbox hg) | ((with_reducible refine gd_ (N := 3) rfl ?_); refine bx_ (N := 3) (cs := #[.slice A1_0 l1_0.length c1_0, .bool a1_1, .string a1_2, .int .i64 a1_3, .slice A1_4 l1_4.length c1_4]) (t := 57) ?_; intro gb43 hg w28 hbox hb; have BK43 := A_ (hbox); have GW43 := A_ (ge_ hg (bG_ GE42.out) : w.heap.size <= gb43); have GE43 := A_ (ge_ hg (bG_ GE42.out) : w.heap.size <= gb43); replace HB := A_ (below_step (bG_ GE42.out) hb); have NB397_398 := A_ (gm_ hg BK42.out); have NB398_397 := A_ (gn_ hg BK42.out); replace BK42 := A_ (bw_ BK42.out hb); clear hb hbox hg; have hnb29 := NB397_398.out; have hnc29 := NB398_397.out; obtain ⟨hcz30_0, hcz30_1, hcz30_2, hcz30_3, hcz30_4, hfz30_0, hfz30_1, hfz30_2, hfz30_3, hfz30_4⟩ := cz5_ BK42.out; obtain ⟨hcz31_0, hcz31_1, hcz31_2, hcz31_3, hcz31_4, hfz31_0, hfz31_1, hfz31_2, hfz31_3, hfz31_4⟩ := cz5_ BK43.out) | ((with_reducible refine gc_ (f := 20) rfl ?_); refine gL_ (some 9) Try.func20 #[.slice A0_0 l0_0.length c0_0, .slice A1_0 l1_0.length c1_0] ?_; (with_reducible refine (laws_eqStringS.calls k _ _ l0_0 _ _ l1_0 true _ ?s1 ?s2 ?s3 ?s4 A3.out).mono ?_); (case s1 => exact cC_ (Kd.C_below HR0_0.out HB.out)); (case s2 => exact HC0_0.out); (case s3 => exact cC_ (Kd.C_below HR1_0.out HB.out)); (case s4 => exact HC1_0.out); rintro e w' ⟨rfl, ⟨nd, rfl⟩⟩; refine ⟨_, rfl, ?_⟩))
     go_ret
     exact ⟨rr_, by repeat (first | (with_reducible first | exact HB.out | apply below_alloc | apply pw_below_drewN | apply below_drew1 | refine below_set ?_ GE42.out | refine below_set ?_ GE43.out) | exact HB.out)⟩
   rw [if_pos c12] at H
   obtain ⟨c12b0, c12b1⟩ := eT_ c12
   clear c12
   obtain ⟨t45, A13, H⟩ := bo_ H
   (try dsimp only at H)
   by_cases c14 : t45 = true
   . subst c14
     rw [if_pos rfl] at H
     obtain rfl := si_ H
     go_enter Try.func68, Try.ntmps68
     go_wp2_with (first | ((with_reducible refine gd_ (N := 2) rfl ?_); refine bx_ (N := 2) (cs := #[.slice A0_0 l0_0.length c0_0, .bool a0_1, .string a0_2, .int .i64 a0_3, .slice A0_4 l0_4.length c0_4]) (t := 57) ?_; intro gb42 hg w15 hbox hb; have BK42 := A_ (hbox); have GW42 := A_ (ge_ hg bB_ : w.heap.size <= gb42); have GE42 := A_ (ge_ hg bB_ : w.heap.size <= gb42); replace HB := A_ (below_step bB_ hb); clear hb hbox hg) | ((with_reducible refine gd_ (N := 3) rfl ?_); refine bx_ (N := 3) (cs := #[.slice A1_0 l1_0.length c1_0, .bool a1_1, .string a1_2, .int .i64 a1_3, .slice A1_4 l1_4.length c1_4]) (t := 57) ?_; intro gb43 hg w16 hbox hb; have BK43 := A_ (hbox); have GW43 := A_ (ge_ hg (bG_ GE42.out) : w.heap.size <= gb43); have GE43 := A_ (ge_ hg (bG_ GE42.out) : w.heap.size <= gb43); replace HB := A_ (below_step (bG_ GE42.out) hb); have NB397_398 := A_ (gm_ hg BK42.out); have NB398_397 := A_ (gn_ hg BK42.out); replace BK42 := A_ (bw_ BK42.out hb); clear hb hbox hg; have hnb17 := NB397_398.out; have hnc17 := NB398_397.out; obtain ⟨hcz18_0, hcz18_1, hcz18_2, hcz18_3, hcz18_4, hfz18_0, hfz18_1, hfz18_2, hfz18_3, hfz18_4⟩ := cz5_ BK42.out; obtain ⟨hcz19_0, hcz19_1, hcz19_2, hcz19_3, hcz19_4, hfz19_0, hfz19_1, hfz19_2, hfz19_3, hfz19_4⟩ := cz5_ BK43.out) | ((with_reducible refine gc_ (f := 20) rfl ?_); refine gL_ (some 9) Try.func20 #[.slice A0_0 l0_0.length c0_0, .slice A1_0 l1_0.length c1_0] ?_; (with_reducible refine (laws_eqStringS.calls k _ _ l0_0 _ _ l1_0 true _ ?s1 ?s2 ?s3 ?s4 A3.out).mono ?_); (case s1 => exact cC_ (Kd.C_below HR0_0.out HB.out)); (case s2 => exact HC0_0.out); (case s3 => exact cC_ (Kd.C_below HR1_0.out HB.out)); (case s4 => exact HC1_0.out); rintro e w' ⟨rfl, ⟨nd, rfl⟩⟩; refine ⟨_, rfl, ?_⟩) | ((with_reducible refine gc_ (f := 110) rfl ?_); refine gL_ (some 30) Try.func110 #[.slice A0_4 l0_4.length c0_4, .slice A1_4 l1_4.length c1_4] ?_; (with_reducible refine (laws_eqPropS.calls k _ _ l0_4 _ _ l1_4 true _ ?s1 ?s2 ?s3 ?s4 A13.out).mono ?_); (case s1 => repeat (first | exact (Kd.C_below HR0_4.out (by repeat (first | (with_reducible first | exact HB.out | apply below_alloc | apply pw_below_drewN | apply below_drew1 | refine below_set ?_ GE42.out | refine below_set ?_ GE43.out) | exact HB.out))) | (with_reducible refine Kd.C_alloc ?_ _) | (with_reducible refine Kd.C_drewN ?_ _) | (with_reducible refine Kd.C_drew ?_))); (case s2 => exact HC0_4.out); (case s3 => repeat (first | exact (Kd.C_below HR1_4.out (by repeat (first | (with_reducible first | exact HB.out | apply below_alloc | apply pw_below_drewN | apply below_drew1 | refine below_set ?_ GE42.out | refine below_set ?_ GE43.out) | exact HB.out))) | (with_reducible refine Kd.C_alloc ?_ _) | (with_reducible refine Kd.C_drewN ?_ _) | (with_reducible refine Kd.C_drew ?_))); (case s4 => exact HC1_4.out); rintro e w20 ⟨rfl, hb⟩; refine ⟨_, rfl, ?_⟩; replace HB := A_ (below_step (by repeat (first | (with_reducible first | exact HB.out | apply below_alloc | apply pw_below_drewN | apply below_drew1 | refine below_set ?_ GE42.out | refine below_set ?_ GE43.out) | exact HB.out)) hb); clear hb))
     go_ret
     exact ⟨rr_, by repeat (first | (with_reducible first | exact HB.out | apply below_alloc | apply pw_below_drewN | apply below_drew1 | refine below_set ?_ GE42.out | refine below_set ?_ GE43.out) | exact HB.out)⟩
   . replace c14 := Bool.eq_false_iff.mpr c14
     subst c14
     rw [if_neg nf_] at H
     obtain rfl := si_ H
     go_enter Try.func68, Try.ntmps68
     go_wp2_with (first | ((with_reducible refine gd_ (N := 2) rfl ?_); refine bx_ (N := 2) (cs := #[.slice A0_0 l0_0.length c0_0, .bool a0_1, .string a0_2, .int .i64 a0_3, .slice A0_4 l0_4.length c0_4]) (t := 57) ?_; intro gb42 hg w21 hbox hb; have BK42 := A_ (hbox); have GW42 := A_ (ge_ hg bB_ : w.heap.size <= gb42); have GE42 := A_ (ge_ hg bB_ : w.heap.size <= gb42); replace HB := A_ (below_step bB_ hb); clear hb hbox hg) | ((with_reducible refine gd_ (N := 3) rfl ?_); refine bx_ (N := 3) (cs := #[.slice A1_0 l1_0.length c1_0, .bool a1_1, .string a1_2, .int .i64 a1_3, .slice A1_4 l1_4.length c1_4]) (t := 57) ?_; intro gb43 hg w22 hbox hb; have BK43 := A_ (hbox); have GW43 := A_ (ge_ hg (bG_ GE42.out) : w.heap.size <= gb43); have GE43 := A_ (ge_ hg (bG_ GE42.out) : w.heap.size <= gb43); replace HB := A_ (below_step (bG_ GE42.out) hb); have NB397_398 := A_ (gm_ hg BK42.out); have NB398_397 := A_ (gn_ hg BK42.out); replace BK42 := A_ (bw_ BK42.out hb); clear hb hbox hg; have hnb23 := NB397_398.out; have hnc23 := NB398_397.out; obtain ⟨hcz24_0, hcz24_1, hcz24_2, hcz24_3, hcz24_4, hfz24_0, hfz24_1, hfz24_2, hfz24_3, hfz24_4⟩ := cz5_ BK42.out; obtain ⟨hcz25_0, hcz25_1, hcz25_2, hcz25_3, hcz25_4, hfz25_0, hfz25_1, hfz25_2, hfz25_3, hfz25_4⟩ := cz5_ BK43.out) | ((with_reducible refine gc_ (f := 20) rfl ?_); refine gL_ (some 9) Try.func20 #[.slice A0_0 l0_0.length c0_0, .slice A1_0 l1_0.length c1_0] ?_; (with_reducible refine (laws_eqStringS.calls k _ _ l0_0 _ _ l1_0 true _ ?s1 ?s2 ?s3 ?s4 A3.out).mono ?_); (case s1 => exact cC_ (Kd.C_below HR0_0.out HB.out)); (case s2 => exact HC0_0.out); (case s3 => exact cC_ (Kd.C_below HR1_0.out HB.out)); (case s4 => exact HC1_0.out); rintro e w' ⟨rfl, ⟨nd, rfl⟩⟩; refine ⟨_, rfl, ?_⟩) | ((with_reducible refine gc_ (f := 110) rfl ?_); refine gL_ (some 30) Try.func110 #[.slice A0_4 l0_4.length c0_4, .slice A1_4 l1_4.length c1_4] ?_; (with_reducible refine (laws_eqPropS.calls k _ _ l0_4 _ _ l1_4 false _ ?s1 ?s2 ?s3 ?s4 A13.out).mono ?_); (case s1 => repeat (first | exact (Kd.C_below HR0_4.out (by repeat (first | (with_reducible first | exact HB.out | apply below_alloc | apply pw_below_drewN | apply below_drew1 | refine below_set ?_ GE42.out | refine below_set ?_ GE43.out) | exact HB.out))) | (with_reducible refine Kd.C_alloc ?_ _) | (with_reducible refine Kd.C_drewN ?_ _) | (with_reducible refine Kd.C_drew ?_))); (case s2 => exact HC0_4.out); (case s3 => repeat (first | exact (Kd.C_below HR1_4.out (by repeat (first | (with_reducible first | exact HB.out | apply below_alloc | apply pw_below_drewN | apply below_drew1 | refine below_set ?_ GE42.out | refine below_set ?_ GE43.out) | exact HB.out))) | (with_reducible refine Kd.C_alloc ?_ _) | (with_reducible refine Kd.C_drewN ?_ _) | (with_reducible refine Kd.C_drew ?_))); (case s4 => exact HC1_4.out); rintro e w26 ⟨rfl, hb⟩; refine ⟨_, rfl, ?_⟩; replace HB := A_ (below_step (by repeat (first | (with_reducible first | exact HB.out | apply below_alloc | apply pw_below_drewN | apply below_drew1 | refine below_set ?_ GE42.out | refine below_set ?_ GE43.out) | exact HB.out)) hb); clear hb))
     go_ret
     exact ⟨rr_, by repeat (first | (with_reducible first | exact HB.out | apply below_alloc | apply pw_below_drewN | apply below_drew1 | refine below_set ?_ GE42.out | refine below_set ?_ GE43.out) | exact HB.out)⟩
 . replace c4 := Bool.eq_false_iff.mpr c4
   subst c4
   rw [if_neg nf_] at H
   obtain rfl := si_ H
   go_enter Try.func68, Try.ntmps68
   go_wp2_with (first | ((with_reducible refine gd_ (N := 2) rfl ?_); refine bx_ (N := 2) (cs := #[.slice A0_0 l0_0.length c0_0, .bool a0_1, .string a0_2, .int .i64 a0_3, .slice A0_4 l0_4.length c0_4]) (t := 57) ?_; intro gb42 hg w37 hbox hb; have BK42 := A_ (hbox); have GW42 := A_ (ge_ hg bB_ : w.heap.size <= gb42); have GE42 := A_ (ge_ hg bB_ : w.heap.size <= gb42); replace HB := A_ (below_step bB_ hb); clear hb hbox hg) | ((with_reducible refine gd_ (N := 3) rfl ?_); refine bx_ (N := 3) (cs := #[.slice A1_0 l1_0.length c1_0, .bool a1_1, .string a1_2, .int .i64 a1_3, .slice A1_4 l1_4.length c1_4]) (t := 57) ?_; intro gb43 hg w38 hbox hb; have BK43 := A_ (hbox); have GW43 := A_ (ge_ hg (bG_ GE42.out) : w.heap.size <= gb43); have GE43 := A_ (ge_ hg (bG_ GE42.out) : w.heap.size <= gb43); replace HB := A_ (below_step (bG_ GE42.out) hb); have NB397_398 := A_ (gm_ hg BK42.out); have NB398_397 := A_ (gn_ hg BK42.out); replace BK42 := A_ (bw_ BK42.out hb); clear hb hbox hg; have hnb39 := NB397_398.out; have hnc39 := NB398_397.out; obtain ⟨hcz40_0, hcz40_1, hcz40_2, hcz40_3, hcz40_4, hfz40_0, hfz40_1, hfz40_2, hfz40_3, hfz40_4⟩ := cz5_ BK42.out; obtain ⟨hcz41_0, hcz41_1, hcz41_2, hcz41_3, hcz41_4, hfz41_0, hfz41_1, hfz41_2, hfz41_3, hfz41_4⟩ := cz5_ BK43.out) | ((with_reducible refine gc_ (f := 20) rfl ?_); refine gL_ (some 9) Try.func20 #[.slice A0_0 l0_0.length c0_0, .slice A1_0 l1_0.length c1_0] ?_; (with_reducible refine (laws_eqStringS.calls k _ _ l0_0 _ _ l1_0 false _ ?s1 ?s2 ?s3 ?s4 A3.out).mono ?_); (case s1 => exact cC_ (Kd.C_below HR0_0.out HB.out)); (case s2 => exact HC0_0.out); (case s3 => exact cC_ (Kd.C_below HR1_0.out HB.out)); (case s4 => exact HC1_0.out); rintro e w' ⟨rfl, ⟨nd, rfl⟩⟩; refine ⟨_, rfl, ?_⟩))
   go_ret
   exact ⟨rr_, by repeat (first | (with_reducible first | exact HB.out | apply below_alloc | apply pw_below_drewN | apply below_drew1 | refine below_set ?_ GE42.out | refine below_set ?_ GE43.out) | exact HB.out)⟩
end Go.Proofs.Ytbgggcgjijljkaa.Q
