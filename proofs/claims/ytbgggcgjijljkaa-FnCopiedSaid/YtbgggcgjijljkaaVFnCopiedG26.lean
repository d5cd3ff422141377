import Derived.Test.YtbgggcgjijljkaaVFnCopiedG25
set_option maxHeartbeats 8000000
set_option maxRecDepth 100000
namespace Go.Proofs.Ytbgggcgjijljkaa.Q
open Go.RowKit Go.Proofs.YtbgggcgjijljkaaW.PrintWords Go.Proofs.YtbgggcgjijljkaaW.PrintLast Go.Proofs.YtbgggcgjijljkaaW.PrintMore
attribute [local go_sem] max2_int min2_int max_two min_two max_three min_three max_four min_four
set_option linter.unusedVariables false
set_option linter.unusedSimpArgs false
def impl_DeepOf.l0 : Nat -> List ByteArray -> List (S57) -> List (S57) -> Int -> Int -> Option ((List (S57)))
 | 0, _, _, _, _, _ => none
 | k + 1, x1, x5, x8, x9, x10 => if x10 < x9 then (if 0 <= x10 then (if x10 < (x8.length : Int) then ((impl_isAt.f k ((rd_T57 x8 x10).f0) x1).bind fun t962 => (if t962 = true then ((impl_copyRes.f ((rd_T57 x8 x10).f0) ((rd_T57 x8 x10).f1) ((rd_T57 x8 x10).f2) ((rd_T57 x8 x10).f3) ((rd_T57 x8 x10).f4)).bind fun bt963 => (if x5.length < 1759218604441 then (impl_DeepOf.l0 k x1 (x5 ++ [(⟨bt963.1, bt963.2.1, bt963.2.2.1, bt963.2.2.2.1, bt963.2.2.2.2⟩ : S57)]) x8 x9 (wrap64 (x10 + 1))) else (none))) else (impl_DeepOf.l0 k x1 x5 x8 x9 (wrap64 (x10 + 1))))) else (none)) else (none)) else (some x5)
def impl_DeepOf.f (k : Nat) (l0 : List (S57)) (l1 : List ByteArray) : Option ((List (S57))) := impl_DeepOf.l0 k l1 ([] : List (S57)) l0 (l0.length : Int) 0
theorem impl_DeepOf.calls (k : Nat) (A0 : Option Addr) (c0 : Nat) (l0 : List (S57)) (A1 : Option Addr) (c1 : Nat) (l1 : List ByteArray) (r : List (S57)) (w : World) (hr0 : Kd.C k57 w A0 l0.length l0) (hc0 : l0.length <= c0) (hr1 : Kd.C Kd.string w A1 l1.length l1) (hc1 : l1.length <= c1) (h : impl_DeepOf.f k l0 l1 = some r) :
 Calls Try.prog 49 #[.slice A0 l0.length c0, .slice A1 l1.length c1] w fun e w' => ∃ v0_ : Value, e = .returned (v0_) /\ Kd.S k57 57 w' w.heap.size (fun _ => True) v0_ r /\ Below w.heap.size w w' := by
 have hu57 := Try.underlying57
 have HR0 := A_ hr0
 clear hr0 hc0
 have HR1 := A_ hr1
 have HC1 := A_ hc1
 clear hr1 hc1
 have HB := A_ (Below.refl w.heap.size w)
 have H : (impl_DeepOf.l0 k l1 ([] : List (S57)) l0 (l0.length : Int) 0) = some r := h
 clear h
 have H' := A_ H
 clear H
 go_enter Try.func49, Try.ntmps49
 go_wp2
 go_loopg [5, 10] k (fun kq v5 v10 w' => ∃ (x5_1 : List (S57)) (x10_1 : Int), v10 = .int .i64 x10_1 /\ Aside0 (impl_DeepOf.l0 kq l1 x5_1 l0 (l0.length : Int) x10_1 = some r) /\ Aside0 (kq <= k) /\ Aside0 (Kd.S k57 57 w' w.heap.size (fun _ => True) v5 x5_1) /\ Aside0 (Below w.heap.size w w'))
 case atStart => exact ⟨(([] : List (S57))), (0), rs_, H', ⟨Nat.le_refl _⟩, ⟨by first | exact Kd.S_nil _ _ _ _ _ | exact Kd.N_nil _ _ _ _ _ | exact Kd.V_nil _ _ _ _ _ | exact Kd.Q_nil _ _ _ _ _ | exact Kd.R_nil _ _ _ _ _⟩, ⟨bB_⟩⟩
 case round =>
  clear H'
  obtain ⟨x5_1, x10_1, rfl, HA, HK1, HO_5, HB⟩ := hrel
  cases gk with
  | zero => exact absurd HA.out (by simp [impl_DeepOf.l0])
  | succ k1 =>
   have H := HA.out
   clear HA
   simp only [impl_DeepOf.l0] at H
   by_cases c3 : x10_1 < (l0.length : Int)
   rotate_left
   . rw [if_neg c3] at H
     have c3b0 := decide_eq_false c3
     clear c3
     obtain rfl := si_ H
     go_wp2
     go_ret
     exact ⟨_, rr_, vS_ HO_5.out, bB_⟩
   rw [if_pos c3] at H
   have c3b0 := decide_eq_true c3
   clear c3
   by_cases c4 : 0 <= x10_1
   rotate_left
   . exact absurd H (by rw [if_neg c4]; simp)
   rw [if_pos c4] at H
   have c4b0 := decide_eq_true c4
   clear c4
   by_cases c5 : x10_1 < (l0.length : Int)
   rotate_left
   . exact absurd H (by rw [if_neg c5]; simp)
   rw [if_pos c5] at H
   have c5b0 := decide_eq_true c5
   clear c5
   obtain ⟨t28, A6, H⟩ := bo_ H
   (try dsimp only at H)
   by_cases c7 : t28 = true
   . subst c7
     rw [if_pos rfl] at H
     obtain ⟨⟨t21, t23, t24, t25, t22⟩, A8, H⟩ := bo_ H
     (try dsimp only at H)
     by_cases c9 : x5_1.length < 1759218604441
     rotate_left
     . exact absurd H (by rw [if_neg c9]; simp)
     rw [if_pos c9] at H
     have LMc9 := A_ c9
     clear c9
     obtain ⟨y20, hy20⟩ : ∃ y_ : List (S57), y_ = (x5_1 ++ [(⟨t21, t23, t24, t25, t22⟩ : S57)]) := ⟨_, rfl⟩
     replace H : (impl_DeepOf.l0 k1 l1 y20 l0 (l0.length : Int) (wrap64 (x10_1 + 1))) = some r := hy_ hy20 H
     have Ny20 := A_ hy20
     clear hy20
     have H' := A_ H
     clear H
     have p18 : 0 <= (x10_1 : Int) := od_
     have q18 : x10_1 < (l0.length : Int) := od_
     obtain ⟨ad18, A18_0, c18_0, A18_4, c18_4, e18, hx18_0, hx18_1, hx18_2, hx18_3, hx18_4, hl18_0, hi18_0, hl18_4, hi18_4⟩ := at_T57 HR0.out x10_1 p18 q18
     cases e18
     replace hx18_0 := bc_ HB.out hx18_0
     replace hx18_1 := bc_ HB.out hx18_1
     replace hx18_2 := bc_ HB.out hx18_2
     replace hx18_3 := bc_ HB.out hx18_3
     replace hx18_4 := bc_ HB.out hx18_4
     have HR18_0 := A_ hi18_0
     have HC18_0 := A_ hl18_0
     clear hi18_0 hl18_0
     have HR18_4 := A_ hi18_4
     have HC18_4 := A_ hl18_4
     clear hi18_4 hl18_4
     replace p18 := eq_true p18
     replace q18 := eq_true q18
     go_wp2_with (first | ((with_reducible refine gd_ (N := 7) rfl ?_); refine bx_ (N := 7) (cs := #[.slice none 0 0, .bool false, .string (⟨#[]⟩ : ByteArray), .int .i64 0, .slice none 0 0]) (t := 57) ?_; intro gb19 hg w10 hbox hb; replace HO_5 := A_ (Kd.S_below (Kd.S_elderB (vS_ HO_5.out) gb19 (Nat.le_of_eq hg.symm)) hb); have BK19 := A_ (hbox); have GW19 := A_ (ge_ hg bB_ : w.heap.size <= gb19); have GE19 := A_ (ge_ hg bB_ : w.heap.size <= gb19); replace HB := A_ (below_step bB_ hb); clear hb hbox hg; obtain ⟨hcz11_0, hcz11_1, hcz11_2, hcz11_3, hcz11_4, hfz11_0, hfz11_1, hfz11_2, hfz11_3, hfz11_4⟩ := cz5_ BK19.out) | ((with_reducible refine gc_ (f := 89) rfl ?_); refine gL_ (some 17) Try.func89 #[.slice A18_0 ((rd_T57 l0 x10_1).f0).length c18_0, .slice A1 l1.length c1] ?_; (with_reducible refine (impl_isAt.calls k1 _ _ ((rd_T57 l0 x10_1).f0) _ _ l1 true _ ?s1 ?s2 ?s3 ?s4 A6.out).mono ?_); (case s1 => exact Kd.C_below HR18_0.out (bG_ GE19.out)); (case s2 => exact HC18_0.out); (case s3 => exact Kd.C_below HR1.out (bG_ GE19.out)); (case s4 => exact HC1.out); rintro e w' ⟨rfl, ⟨nd, rfl⟩⟩; refine ⟨_, rfl, ?_⟩) | ((with_reducible refine gc_ (f := 90) rfl ?_); refine gL_ (some 20) Try.func90 #[.agg #[.slice A18_0 ((rd_T57 l0 x10_1).f0).length c18_0, .bool ((rd_T57 l0 x10_1).f1), .string ((rd_T57 l0 x10_1).f2), .int .i64 ((rd_T57 l0 x10_1).f3), .slice A18_4 ((rd_T57 l0 x10_1).f4).length c18_4]] ?_; (with_reducible refine (impl_copyRes.calls _ _ ((rd_T57 l0 x10_1).f0) ((rd_T57 l0 x10_1).f1) ((rd_T57 l0 x10_1).f2) ((rd_T57 l0 x10_1).f3) _ _ ((rd_T57 l0 x10_1).f4) t21 t23 t24 t25 t22 _ ?s1 ?s2 ?s3 ?s4 A8.out).mono ?_); (case s1 => exact Kd.C_below HR18_0.out (bG_ GE19.out)); (case s2 => exact HC18_0.out); (case s3 => exact Kd.C_below HR18_4.out (bG_ GE19.out)); (case s4 => exact HC18_4.out); rintro e w12 ⟨v30, v31, rfl, ho0, ho1, hb⟩; refine ⟨_, rfl, ?_⟩; replace HO_5 := A_ (Kd.S_mono (Kd.S_told (Kd.S_told (Kd.S_old (by (with_reducible repeat (first | apply Kd.S_alloc | apply Kd.S_drewN | apply Kd.S_drew)); exact (Kd.S_mono (Kd.S_far (p := ⟨gb19, 4, none⟩) (Kd.S_far (p := ⟨gb19, 3, none⟩) (Kd.S_far (p := ⟨gb19, 2, none⟩) (Kd.S_far (p := ⟨gb19, 1, none⟩) (Kd.S_far (p := ⟨gb19, 0, none⟩) (Kd.S_mono HO_5.out (fun k_ hk => (⟨hk, hk.2⟩ : _ /\ k_ ≠ gb19))) (fun _ hk => hk.2) (.slice A18_0 ((rd_T57 l0 x10_1).f0).length c18_0)) (fun _ hk => hk.2) (.bool ((rd_T57 l0 x10_1).f1))) (fun _ hk => hk.2) (.string ((rd_T57 l0 x10_1).f2))) (fun _ hk => hk.2) (.int .i64 ((rd_T57 l0 x10_1).f3))) (fun _ hk => hk.2) (.slice A18_4 ((rd_T57 l0 x10_1).f4).length c18_4)) (fun _ h_ => h_.1))) hb) (kb_ ho0)) (kb_ ho1)) (fun _ h_ => h_.1)); have HO26 := A_ (Kd.R_lower ho0 (below_size (bG_ GE19.out))); have HO27 := A_ (Kd.R_lower ho1 (below_size (bG_ GE19.out))); replace BK19 := A_ (blk_below (g := gb19) (o := .cells #[.slice A18_0 ((rd_T57 l0 x10_1).f0).length c18_0, .bool ((rd_T57 l0 x10_1).f1), .string ((rd_T57 l0 x10_1).f2), .int .i64 ((rd_T57 l0 x10_1).f3), .slice A18_4 ((rd_T57 l0 x10_1).f4).length c18_4] 57 (0, 0)) (by (with_reducible repeat (first | refine blk_drewN ?_ _ | refine blk_drew ?_ | refine blk_alloc ?_ _)); with_reducible exact p5_01234_ (vb_ BK19.out)) hb); replace HB := A_ (below_step (bG_ GE19.out) hb); (try clear hb); (try clear hk); (try clear ho0); (try clear ho1); obtain ⟨Ao14, co14, eo14⟩ := Kd.R_slice HO26.out; subst eo14; obtain ⟨Ao15, co15, eo15⟩ := Kd.R_slice HO27.out; subst eo15) | ((with_reducible refine gate_builtin (b := .append) (xs := #[.tmp 18, .tmp 21]) rfl ?_); at_builtin; refine Kd.S_append k57 (w0 := w) w.heap.size rfl (.tmp 18) (.tmp 21) 26 57 (.agg #[(.slice none 0 0), (.bool false), (.string ⟨#[]⟩), (.int .i64 0), (.slice none 0 0)]) 80 rfl Try.underlying26 info57 rfl (by decide) (by omega) u5 x5_1 (⟨t21, t23, t24, t25, t22⟩ : S57) [.slice Ao14 t21.length co14, .bool t23, .string t24, .int .i64 t25, .slice Ao15 t22.length co15] (fun k_ => k_ ≠ gb19) (fun k_ => some k_ = (.slice Ao14 t21.length co14 : Value).ownBlock \/ some k_ = (.slice Ao15 t22.length co15 : Value).ownBlock) rfl rfl ?aP (fun k_ hk_ => hk_.elim (fun h_ => ((Kd.R_mono (ok' := fun k_ => ((fun k_ => k_ ≠ gb19)) k_ /\ some k_ ≠ (u5 : Value).ownBlock) (Kd.R_types (Kd.R_apart' (HO26.out) (Kd.S_typed HO_5.out) (by decide)) BK19.out (by decide)) (fun k_ hk => ⟨hk.2, hk.1.2⟩))).1 k_ h_.symm) (fun h_ => ((Kd.R_mono (ok' := fun k_ => ((fun k_ => k_ ≠ gb19)) k_ /\ some k_ ≠ (u5 : Value).ownBlock) (Kd.R_types (Kd.R_apart' (HO27.out) (Kd.S_typed HO_5.out) (by decide)) BK19.out (by decide)) (fun k_ hk => ⟨hk.2, hk.1.2⟩))).1 k_ h_.symm)) ?aF ?aO ?aB ?aS ?aL ?_; (case aP => exact k57_mkM _ _ _ (⟨t21, t23, t24, t25, t22⟩ : S57) (Kd.R_mono (Kd.R_tight rfl (Kd.R_mono (ok' := fun k_ => ((fun k_ => k_ ≠ gb19)) k_ /\ some k_ ≠ (u5 : Value).ownBlock) (Kd.R_types (Kd.R_apart' (HO26.out) (Kd.S_typed HO_5.out) (by decide)) BK19.out (by decide)) (fun k_ hk => ⟨hk.2, hk.1.2⟩))) (fun _ h_ => Or.inl h_)) (Kd.R_mono (Kd.R_tight rfl (Kd.R_mono (ok' := fun k_ => ((fun k_ => k_ ≠ gb19)) k_ /\ some k_ ≠ (u5 : Value).ownBlock) (Kd.R_types (Kd.R_apart' (HO27.out) (Kd.S_typed HO_5.out) (by decide)) BK19.out (by decide)) (fun k_ hk => ⟨hk.2, hk.1.2⟩))) (fun _ h_ => Or.inr (h_)))); (case aB => exact (bG_ GE19.out)); (case aF => exact (fun k_ hk => Kd.freshB (g := gb19) (o := .cells #[.slice A18_0 ((rd_T57 l0 x10_1).f0).length c18_0, .bool ((rd_T57 l0 x10_1).f1), .string ((rd_T57 l0 x10_1).f2), .int .i64 ((rd_T57 l0 x10_1).f3), .slice A18_4 ((rd_T57 l0 x10_1).f4).length c18_4] 57 (0, 0)) (vb_ BK19.out) k_ hk)); (case aO => exact (by (with_reducible repeat (first | apply Kd.S_alloc | apply Kd.S_drewN | apply Kd.S_drew)); exact Kd.S_mono HO_5.out (fun k_ hk => ⟨hk.1.1.2, fun e_ => e_.elim (fun h_ => hk.1.2 h_) (fun h_ => hk.2 h_)⟩))); (case aS => exact (below_size (bG_ GE19.out))); (case aL => have := LMc9.out; omega); intro v32 w13 ho hb hg hat; rw [← Ny20.out] at ho; replace HB := A_ (hb); have HO29 := A_ (ho); clear HO_5 HO26 HO27; clear ho hb hg hat))
     go_roundg k1
     case measure => have := HK1.out; omega
     case rel => exact ⟨(y20), (wrap64 (x10_1 + 1)), rs_, H', ⟨by have := HK1.out; omega⟩, ⟨by (with_reducible repeat (first | apply Kd.S_alloc | apply Kd.S_drewN | apply Kd.S_drew)); exact Kd.S_mono HO29.out (fun _ hk => trivial)⟩, ⟨bG_ GE19.out⟩⟩
   . replace c7 := Bool.eq_false_iff.mpr c7
     subst c7
     rw [if_neg nf_] at H
     have H' := A_ H
     clear H
     have p18 : 0 <= (x10_1 : Int) := od_
     have q18 : x10_1 < (l0.length : Int) := od_
     obtain ⟨ad18, A18_0, c18_0, A18_4, c18_4, e18, hx18_0, hx18_1, hx18_2, hx18_3, hx18_4, hl18_0, hi18_0, hl18_4, hi18_4⟩ := at_T57 HR0.out x10_1 p18 q18
     cases e18
     replace hx18_0 := bc_ HB.out hx18_0
     replace hx18_1 := bc_ HB.out hx18_1
     replace hx18_2 := bc_ HB.out hx18_2
     replace hx18_3 := bc_ HB.out hx18_3
     replace hx18_4 := bc_ HB.out hx18_4
     have HR18_0 := A_ hi18_0
     have HC18_0 := A_ hl18_0
     clear hi18_0 hl18_0
     clear hi18_4 hl18_4
     replace p18 := eq_true p18
     replace q18 := eq_true q18
     go_wp2_with (first | ((with_reducible refine gd_ (N := 7) rfl ?_); refine bx_ (N := 7) (cs := #[.slice none 0 0, .bool false, .string (⟨#[]⟩ : ByteArray), .int .i64 0, .slice none 0 0]) (t := 57) ?_; intro gb19 hg w16 hbox hb; replace HO_5 := A_ (Kd.S_below (Kd.S_elderB (vS_ HO_5.out) gb19 (Nat.le_of_eq hg.symm)) hb); have BK19 := A_ (hbox); have GW19 := A_ (ge_ hg bB_ : w.heap.size <= gb19); have GE19 := A_ (ge_ hg bB_ : w.heap.size <= gb19); replace HB := A_ (below_step bB_ hb); clear hb hbox hg; obtain ⟨hcz17_0, hcz17_1, hcz17_2, hcz17_3, hcz17_4, hfz17_0, hfz17_1, hfz17_2, hfz17_3, hfz17_4⟩ := cz5_ BK19.out) | ((with_reducible refine gc_ (f := 89) rfl ?_); refine gL_ (some 17) Try.func89 #[.slice A18_0 ((rd_T57 l0 x10_1).f0).length c18_0, .slice A1 l1.length c1] ?_; (with_reducible refine (impl_isAt.calls k1 _ _ ((rd_T57 l0 x10_1).f0) _ _ l1 false _ ?s1 ?s2 ?s3 ?s4 A6.out).mono ?_); (case s1 => exact Kd.C_below HR18_0.out (bG_ GE19.out)); (case s2 => exact HC18_0.out); (case s3 => exact Kd.C_below HR1.out (bG_ GE19.out)); (case s4 => exact HC1.out); rintro e w' ⟨rfl, ⟨nd, rfl⟩⟩; refine ⟨_, rfl, ?_⟩))
     go_roundg k1
     case measure => have := HK1.out; omega
     case rel => exact ⟨(x5_1), (wrap64 (x10_1 + 1)), rs_, H', ⟨by have := HK1.out; omega⟩, ⟨by (with_reducible repeat (first | apply Kd.S_alloc | apply Kd.S_drewN | apply Kd.S_drew)); exact Kd.S_mono (Kd.S_far (p := ⟨gb19, 4, none⟩) (Kd.S_far (p := ⟨gb19, 3, none⟩) (Kd.S_far (p := ⟨gb19, 2, none⟩) (Kd.S_far (p := ⟨gb19, 1, none⟩) (Kd.S_far (p := ⟨gb19, 0, none⟩) (Kd.S_mono HO_5.out (fun k_ hk => (⟨hk, hk.2⟩ : _ /\ k_ ≠ gb19))) (fun _ hk => hk.2) (.slice A18_0 ((rd_T57 l0 x10_1).f0).length c18_0)) (fun _ hk => hk.2) (.bool ((rd_T57 l0 x10_1).f1))) (fun _ hk => hk.2) (.string ((rd_T57 l0 x10_1).f2))) (fun _ hk => hk.2) (.int .i64 ((rd_T57 l0 x10_1).f3))) (fun _ hk => hk.2) (.slice A18_4 ((rd_T57 l0 x10_1).f4).length c18_4)) (fun _ hk => trivial)⟩, ⟨bG_ GE19.out⟩⟩
set_option maxHeartbeats 8000000
set_option maxRecDepth 100000
mutual
def spec_l11Put.l0 : Nat -> List (S57) -> List (S57) -> Bool -> Int -> List ByteArray -> Bool -> ByteArray -> Int -> List (S72) -> Option ((List (S57)))
 | 0, _, _, _, _, _, _, _, _, _ => none
 | k + 1, x0, x5, x6, x7, x464000, x464001, x464002, x464003, x464004 => if x7 < (x0.length : Int) then (if x6 = true then (spec_l11Put.j1 k x0 x5 x6 x7 false x464000 x464001 x464002 x464003 x464004) else (if 0 <= x7 then ((spec_LessPath.f k ((rd_T57 x0 x7).f0) x464000).bind fun t480 => (spec_l11Put.j1 k x0 x5 x6 x7 (!t480) x464000 x464001 x464002 x464003 x464004)) else (none))) else (if x6 = true then (some x5) else ((spec_l10Copy.f x464000 x464001 x464002 x464003 x464004).bind fun bt467 => (if x5.length < 1759218604441 then (some (x5 ++ [(⟨bt467.1, bt467.2.1, bt467.2.2.1, bt467.2.2.2.1, bt467.2.2.2.2⟩ : S57)])) else (none))))
def spec_l11Put.j1 : Nat -> List (S57) -> List (S57) -> Bool -> Int -> Bool -> List ByteArray -> Bool -> ByteArray -> Int -> List (S72) -> Option ((List (S57)))
 | 0, _, _, _, _, _, _, _, _, _, _ => none
 | k + 1, x0, x5, x6, x7, x27, x464000, x464001, x464002, x464003, x464004 => if x27 = true then ((spec_l10Copy.f x464000 x464001 x464002 x464003 x464004).bind fun bt481 => (if x5.length < 1759218604441 then (spec_l11Put.j2 k x0 (x5 ++ [(⟨bt481.1, bt481.2.1, bt481.2.2.1, bt481.2.2.2.1, bt481.2.2.2.2⟩ : S57)]) true x7 x464000 x464001 x464002 x464003 x464004) else (none))) else (spec_l11Put.j2 k x0 x5 x6 x7 x464000 x464001 x464002 x464003 x464004)
def spec_l11Put.j2 : Nat -> List (S57) -> List (S57) -> Bool -> Int -> List ByteArray -> Bool -> ByteArray -> Int -> List (S72) -> Option ((List (S57)))
 | 0, _, _, _, _, _, _, _, _, _ => none
 | k + 1, x0, x5, x6, x7, x464000, x464001, x464002, x464003, x464004 => if 0 <= x7 then (if x7 < (x0.length : Int) then ((spec_SamePath.f k ((rd_T57 x0 x7).f0) x464000).bind fun t494 => (if t494 = true then (spec_l11Put.l0 k x0 x5 x6 (wrap64 (x7 + 1)) x464000 x464001 x464002 x464003 x464004) else ((spec_l10Copy.f ((rd_T57 x0 x7).f0) ((rd_T57 x0 x7).f1) ((rd_T57 x0 x7).f2) ((rd_T57 x0 x7).f3) ((rd_T57 x0 x7).f4)).bind fun bt496 => (if x5.length < 1759218604441 then (spec_l11Put.l0 k x0 (x5 ++ [(⟨bt496.1, bt496.2.1, bt496.2.2.1, bt496.2.2.2.1, bt496.2.2.2.2⟩ : S57)]) x6 (wrap64 (x7 + 1)) x464000 x464001 x464002 x464003 x464004) else (none))))) else (none)) else (none)
end
def spec_l11Put.f (k : Nat) (l0 : List (S57)) (l1_0 : List ByteArray) (a1_1 : Bool) (a1_2 : ByteArray) (a1_3 : Int) (l1_4 : List (S72)) : Option ((List (S57))) := spec_l11Put.l0 k l0 (([] : List (S57))) false 0 l1_0 a1_1 a1_2 a1_3 l1_4
theorem spec_l11Put.calls (k : Nat) (A0 : Option Addr) (c0 : Nat) (l0 : List (S57)) (A1_0 : Option Addr) (c1_0 : Nat) (l1_0 : List ByteArray) (a1_1 : Bool) (a1_2 : ByteArray) (a1_3 : Int) (A1_4 : Option Addr) (c1_4 : Nat) (l1_4 : List (S72)) (r : List (S57)) (w : World) (hr0 : Kd.C k57 w A0 l0.length l0) (hc0 : l0.length <= c0) (hr1_0 : Kd.C Kd.string w A1_0 l1_0.length l1_0) (hc1_0 : l1_0.length <= c1_0) (hr1_4 : Kd.C k72 w A1_4 l1_4.length l1_4) (hc1_4 : l1_4.length <= c1_4) (h : spec_l11Put.f k l0 l1_0 a1_1 a1_2 a1_3 l1_4 = some r) :
 Calls Try.prog 75 #[.slice A0 l0.length c0, .agg #[.slice A1_0 l1_0.length c1_0, .bool a1_1, .string a1_2, .int .i64 a1_3, .slice A1_4 l1_4.length c1_4]] w fun e w' => ∃ v0_ : Value, e = .returned (v0_) /\ Kd.S k57 57 w' w.heap.size (fun _ => True) v0_ r /\ Below w.heap.size w w' := by
 have hu57 := Try.underlying57
 have HR0 := A_ hr0
 clear hr0 hc0
 have HR1_0 := A_ hr1_0
 have HC1_0 := A_ hc1_0
 clear hr1_0 hc1_0
 have HR1_4 := A_ hr1_4
 have HC1_4 := A_ hc1_4
 clear hr1_4 hc1_4
 have HB := A_ (Below.refl w.heap.size w)
 have H : (spec_l11Put.l0 k l0 (([] : List (S57))) false 0 l1_0 a1_1 a1_2 a1_3 l1_4) = some r := h
 clear h
 obtain ⟨y58, hy58⟩ : ∃ y_ : List (S57), y_ = (([] : List (S57))) := ⟨_, rfl⟩
 replace H : (spec_l11Put.l0 k l0 y58 false 0 l1_0 a1_1 a1_2 a1_3 l1_4) = some r := hy_ hy58 H
 have Ny58 := A_ hy58
 clear hy58
 have H' := A_ H
 clear H
 go_enter Try.func75, Try.ntmps75
 go_wp2_with (first | ((with_reducible refine gd_ (N := 3) rfl ?_); refine bx_ (N := 3) (cs := #[.slice A1_0 l1_0.length c1_0, .bool a1_1, .string a1_2, .int .i64 a1_3, .slice A1_4 l1_4.length c1_4]) (t := 57) ?_; intro gb41 hg w3 hbox hb; have BK41 := A_ (hbox); have GW41 := A_ (ge_ hg bB_ : w.heap.size <= gb41); have GE41 := A_ (ge_ hg bB_ : w.heap.size <= gb41); replace HB := A_ (below_step bB_ hb); clear hb hbox hg) | ((with_reducible refine gd_ (N := 8) rfl ?_); refine Kd.S_lit k57 _ 57 ?hg (N := 8) ?hd (xs := ([] : List (S57))) (inner := []) (ok := fun _ => True) (okp := fun _ => True) ?hr ?hp (fun _ hk => hk) trivial (Below.refl _ _) (Nat.le_refl _) (by simp) ?_; (case hd => rfl); (case hg => rfl); (case hr => first | (go_simp; done) | (go_simp; rfl)); (case hp => exact (Reps.none _ _)); intro v78 w4 ho5 hb hg_ hnew_; clear hg_ hnew_; (first | rw [← Ny58.out] at ho5 | (simp only [Int.reduceToNat] at ho5; rw [← Ny58.out] at ho5)); have HO74 := A_ (Kd.S_lower (Kd.S_newB ho5 (g := gb41) (o := .cells #[.slice A1_0 l1_0.length c1_0, .bool a1_1, .string a1_2, .int .i64 a1_3, .slice A1_4 l1_4.length c1_4] 57 (0, 0)) (vb_ BK41.out)) (below_size (bG_ GE41.out))); replace BK41 := A_ (bw_ BK41.out hb); replace HB := A_ (below_step (bG_ GE41.out) hb); clear hb ho5))
 repeat (go_quiet (first | ((with_reducible refine gd_ (N := 3) rfl ?_); refine bx_ (N := 3) (cs := #[.slice A1_0 l1_0.length c1_0, .bool a1_1, .string a1_2, .int .i64 a1_3, .slice A1_4 l1_4.length c1_4]) (t := 57) ?_; intro gb41 hg w3 hbox hb; have BK41 := A_ (hbox); have GW41 := A_ (ge_ hg bB_ : w.heap.size <= gb41); have GE41 := A_ (ge_ hg bB_ : w.heap.size <= gb41); replace HB := A_ (below_step bB_ hb); clear hb hbox hg) | ((with_reducible refine gd_ (N := 8) rfl ?_); refine Kd.S_lit k57 _ 57 ?hg (N := 8) ?hd (xs := ([] : List (S57))) (inner := []) (ok := fun _ => True) (okp := fun _ => True) ?hr ?hp (fun _ hk => hk) trivial (Below.refl _ _) (Nat.le_refl _) (by simp) ?_; (case hd => rfl); (case hg => rfl); (case hr => first | (go_simp; done) | (go_simp; rfl)); (case hp => exact (Reps.none _ _)); intro v78 w4 ho5 hb hg_ hnew_; clear hg_ hnew_; (first | rw [← Ny58.out] at ho5 | (simp only [Int.reduceToNat] at ho5; rw [← Ny58.out] at ho5)); have HO74 := A_ (Kd.S_lower (Kd.S_newB ho5 (g := gb41) (o := .cells #[.slice A1_0 l1_0.length c1_0, .bool a1_1, .string a1_2, .int .i64 a1_3, .slice A1_4 l1_4.length c1_4] 57 (0, 0)) (vb_ BK41.out)) (below_size (bG_ GE41.out))); replace BK41 := A_ (bw_ BK41.out hb); replace HB := A_ (below_step (bG_ GE41.out) hb); clear hb ho5)); try go_wp2_with (first | ((with_reducible refine gd_ (N := 3) rfl ?_); refine bx_ (N := 3) (cs := #[.slice A1_0 l1_0.length c1_0, .bool a1_1, .string a1_2, .int .i64 a1_3, .slice A1_4 l1_4.length c1_4]) (t := 57) ?_; intro gb41 hg w3 hbox hb; have BK41 := A_ (hbox); have GW41 := A_ (ge_ hg bB_ : w.heap.size <= gb41); have GE41 := A_ (ge_ hg bB_ : w.heap.size <= gb41); replace HB := A_ (below_step bB_ hb); clear hb hbox hg) | ((with_reducible refine gd_ (N := 8) rfl ?_); refine Kd.S_lit k57 _ 57 ?hg (N := 8) ?hd (xs := ([] : List (S57))) (inner := []) (ok := fun _ => True) (okp := fun _ => True) ?hr ?hp (fun _ hk => hk) trivial (Below.refl _ _) (Nat.le_refl _) (by simp) ?_; (case hd => rfl); (case hg => rfl); (case hr => first | (go_simp; done) | (go_simp; rfl)); (case hp => exact (Reps.none _ _)); intro v78 w4 ho5 hb hg_ hnew_; clear hg_ hnew_; (first | rw [← Ny58.out] at ho5 | (simp only [Int.reduceToNat] at ho5; rw [← Ny58.out] at ho5)); have HO74 := A_ (Kd.S_lower (Kd.S_newB ho5 (g := gb41) (o := .cells #[.slice A1_0 l1_0.length c1_0, .bool a1_1, .string a1_2, .int .i64 a1_3, .slice A1_4 l1_4.length c1_4] 57 (0, 0)) (vb_ BK41.out)) (below_size (bG_ GE41.out))); replace BK41 := A_ (bw_ BK41.out hb); replace HB := A_ (below_step (bG_ GE41.out) hb); clear hb ho5)))
 go_loopg [5, 6, 7] k (fun kq v5 v6 v7 w' => ∃ (x5_1 : List (S57)) (x6_1 : Bool) (x7_1 : Int), v6 = .bool x6_1 /\ v7 = .int .i64 x7_1 /\ Aside0 (spec_l11Put.l0 kq l0 x5_1 x6_1 x7_1 l1_0 a1_1 a1_2 a1_3 l1_4 = some r) /\ Aside0 (kq <= k) /\ Aside0 (Kd.S k57 57 w' w.heap.size (fun k_ => k_ ≠ gb41) v5 x5_1) /\ Aside0 (w'.heap[gb41]? = some (.cells #[(.slice A1_0 l1_0.length c1_0), .bool a1_1, .string a1_2, .int .i64 a1_3, (.slice A1_4 l1_4.length c1_4)] 57 (0, 0))) /\ Aside0 (Below w.heap.size w w'))
 case atStart => exact ⟨(y58), (false), (0), rs_, rs_, H', ⟨Nat.le_refl _⟩, ⟨by (with_reducible repeat (first | apply Kd.S_alloc | apply Kd.S_drewN | apply Kd.S_drew)); exact Kd.S_mono HO74.out (fun _ hk => hk.2)⟩, ⟨vb_ BK41.out⟩, ⟨bG_ GE41.out⟩⟩
 case round =>
  clear H'
  obtain ⟨x5_1, x6_1, x7_1, rfl, rfl, HA, HK1, HO_5, BK41, HB⟩ := hrel
  cases gk with
  | zero => exact absurd HA.out (by simp [spec_l11Put.l0])
  | succ k1 =>
   have H := HA.out
   clear HA
   simp only [spec_l11Put.l0] at H
   by_cases c6 : x7_1 < (l0.length : Int)
   rotate_left
   . rw [if_neg c6] at H
     have c6b0 := decide_eq_false c6
     clear c6
     by_cases c33 : x6_1 = true
     . subst c33
       rw [if_pos rfl] at H
       obtain rfl := si_ H
       go_wp2
       repeat (go_quiet (fail); try go_wp2)
       go_ret
       exact ⟨_, rr_, by (with_reducible repeat (first | apply Kd.S_alloc | apply Kd.S_drewN | apply Kd.S_drew)); exact Kd.S_mono HO_5.out (fun _ hk => trivial), bG_ GE41.out⟩
     . replace c33 := Bool.eq_false_iff.mpr c33
       subst c33
       rw [if_neg nf_] at H
       obtain ⟨⟨t45, t59, t60, t61, t46⟩, A34, H⟩ := bo_ H
       (try dsimp only at H)
       by_cases c35 : x5_1.length < 1759218604441
       rotate_left
       . exact absurd H (by rw [if_neg c35]; simp)
       rw [if_pos c35] at H
       have LMc35 := A_ c35
       clear c35
       obtain ⟨y71, hy71⟩ : ∃ y_ : List (S57), y_ = (x5_1 ++ [(⟨t45, t59, t60, t61, t46⟩ : S57)]) := ⟨_, rfl⟩
       replace H : (some y71) = some r := hy_ hy71 H
       have Ny71 := A_ hy71
       clear hy71
       obtain rfl := si_ H
       have hcz36_0 : wr.cell? ⟨gb41, 0, none⟩ = some (.slice A1_0 l1_0.length c1_0) := bl_ BK41.out 0
       have hcz36_1 : wr.cell? ⟨gb41, 1, none⟩ = some (.bool a1_1) := bl_ BK41.out 1
       have hcz36_2 : wr.cell? ⟨gb41, 2, none⟩ = some (.string a1_2) := bl_ BK41.out 2
       have hcz36_3 : wr.cell? ⟨gb41, 3, none⟩ = some (.int .i64 a1_3) := bl_ BK41.out 3
       have hcz36_4 : wr.cell? ⟨gb41, 4, none⟩ = some (.slice A1_4 l1_4.length c1_4) := bl_ BK41.out 4
       have hfz36_0 := blk_frozen BK41.out 0
       have hfz36_1 := blk_frozen BK41.out 1
       have hfz36_2 := blk_frozen BK41.out 2
       have hfz36_3 := blk_frozen BK41.out 3
       have hfz36_4 := blk_frozen BK41.out 4
       go_wp2_with (first | (go_at_call 105; (with_reducible refine (spec_l10Copy.calls _ _ l1_0 a1_1 a1_2 a1_3 _ _ l1_4 t45 t59 t60 t61 t46 _ ?s1 ?s2 ?s3 ?s4 A34.out).mono ?_); (case s1 => exact cC_ (Kd.C_below HR1_0.out HB.out)); (case s2 => exact HC1_0.out); (case s3 => exact cC_ (Kd.C_below HR1_4.out HB.out)); (case s4 => exact HC1_4.out); rintro e w37 ⟨v79, v80, rfl, ho0, ho1, hb⟩; replace HO_5 := A_ (Kd.S_mono (Kd.S_told (Kd.S_told (Kd.S_old (vS_ HO_5.out) hb) (kb_ ho0)) (kb_ ho1)) (fun _ h_ => h_.1)); have HO51 := A_ (Kd.R_lower ho0 (below_size (bG_ GE41.out))); have HO52 := A_ (Kd.R_lower ho1 (below_size (bG_ GE41.out))); replace BK41 := A_ (bw_ BK41.out hb); replace HB := A_ (below_step (bG_ GE41.out) hb); clear hb ho0 ho1; obtain ⟨Ao39, co39, eo39⟩ := Kd.R_slice HO51.out; subst eo39; obtain ⟨Ao40, co40, eo40⟩ := Kd.R_slice HO52.out; subst eo40) | ((with_reducible refine gate_builtin (b := .append) (xs := #[.tmp 52, .tmp 55]) rfl ?_); at_builtin; refine Kd.S_append k57 (w0 := w) w.heap.size rfl (.tmp 52) (.tmp 55) 26 57 (.agg #[(.slice none 0 0), (.bool false), (.string ⟨#[]⟩), (.int .i64 0), (.slice none 0 0)]) 80 rfl Try.underlying26 info57 rfl (by decide) (by omega) u5 x5_1 (⟨t45, t59, t60, t61, t46⟩ : S57) [.slice Ao39 t45.length co39, .bool t59, .string t60, .int .i64 t61, .slice Ao40 t46.length co40] (fun k_ => k_ ≠ gb41) (fun k_ => some k_ = (.slice Ao39 t45.length co39 : Value).ownBlock \/ some k_ = (.slice Ao40 t46.length co40 : Value).ownBlock) rfl rfl ?aP (fun k_ hk_ => hk_.elim (fun h_ => ((Kd.R_mono (ok' := fun k_ => ((fun k_ => k_ ≠ gb41)) k_ /\ some k_ ≠ (u5 : Value).ownBlock) (Kd.R_types (Kd.R_apart' (HO51.out) (Kd.S_typed HO_5.out) (by decide)) BK41.out (by decide)) (fun k_ hk => ⟨hk.2, hk.1.2⟩))).1 k_ h_.symm) (fun h_ => ((Kd.R_mono (ok' := fun k_ => ((fun k_ => k_ ≠ gb41)) k_ /\ some k_ ≠ (u5 : Value).ownBlock) (Kd.R_types (Kd.R_apart' (HO52.out) (Kd.S_typed HO_5.out) (by decide)) BK41.out (by decide)) (fun k_ hk => ⟨hk.2, hk.1.2⟩))).1 k_ h_.symm)) ?aF ?aO ?aB ?aS ?aL ?_; (case aP => exact k57_mkM _ _ _ (⟨t45, t59, t60, t61, t46⟩ : S57) (Kd.R_mono (Kd.R_tight rfl (Kd.R_mono (ok' := fun k_ => ((fun k_ => k_ ≠ gb41)) k_ /\ some k_ ≠ (u5 : Value).ownBlock) (Kd.R_types (Kd.R_apart' (HO51.out) (Kd.S_typed HO_5.out) (by decide)) BK41.out (by decide)) (fun k_ hk => ⟨hk.2, hk.1.2⟩))) (fun _ h_ => Or.inl h_)) (Kd.R_mono (Kd.R_tight rfl (Kd.R_mono (ok' := fun k_ => ((fun k_ => k_ ≠ gb41)) k_ /\ some k_ ≠ (u5 : Value).ownBlock) (Kd.R_types (Kd.R_apart' (HO52.out) (Kd.S_typed HO_5.out) (by decide)) BK41.out (by decide)) (fun k_ hk => ⟨hk.2, hk.1.2⟩))) (fun _ h_ => Or.inr (h_)))); (case aB => exact (bG_ GE41.out)); (case aF => exact (fun k_ hk => Kd.freshB (g := gb41) (o := .cells #[.slice A1_0 l1_0.length c1_0, .bool a1_1, .string a1_2, .int .i64 a1_3, .slice A1_4 l1_4.length c1_4] 57 (0, 0)) (vb_ BK41.out) k_ hk)); (case aO => exact (by (with_reducible repeat (first | apply Kd.S_alloc | apply Kd.S_drewN | apply Kd.S_drew)); exact Kd.S_mono HO_5.out (fun k_ hk => ⟨hk.1.1, fun e_ => e_.elim (fun h_ => hk.1.2 h_) (fun h_ => hk.2 h_)⟩))); (case aS => exact (below_size (bG_ GE41.out))); (case aL => have := LMc35.out; omega); intro v81 w38 ho hb hg hat; rw [← Ny71.out] at ho; replace BK41 := A_ (blk_grown (g := gb41) (o := .cells #[.slice A1_0 l1_0.length c1_0, .bool a1_1, .string a1_2, .int .i64 a1_3, .slice A1_4 l1_4.length c1_4] 57 (0, 0)) (vb_ BK41.out) hg (Kd.S_away HO_5.out (fun _ hk => hk.1.1))); replace HB := A_ (hb); have HO75 := A_ (ho); clear HO_5 HO51 HO52; clear ho hb hg hat))
       repeat (go_quiet (first | (go_at_call 105; (with_reducible refine (spec_l10Copy.calls _ _ l1_0 a1_1 a1_2 a1_3 _ _ l1_4 t45 t59 t60 t61 t46 _ ?s1 ?s2 ?s3 ?s4 A34.out).mono ?_); (case s1 => exact cC_ (Kd.C_below HR1_0.out HB.out)); (case s2 => exact HC1_0.out); (case s3 => exact cC_ (Kd.C_below HR1_4.out HB.out)); (case s4 => exact HC1_4.out); rintro e w37 ⟨v79, v80, rfl, ho0, ho1, hb⟩; replace HO_5 := A_ (Kd.S_mono (Kd.S_told (Kd.S_told (Kd.S_old (vS_ HO_5.out) hb) (kb_ ho0)) (kb_ ho1)) (fun _ h_ => h_.1)); have HO51 := A_ (Kd.R_lower ho0 (below_size (bG_ GE41.out))); have HO52 := A_ (Kd.R_lower ho1 (below_size (bG_ GE41.out))); replace BK41 := A_ (bw_ BK41.out hb); replace HB := A_ (below_step (bG_ GE41.out) hb); clear hb ho0 ho1; obtain ⟨Ao39, co39, eo39⟩ := Kd.R_slice HO51.out; subst eo39; obtain ⟨Ao40, co40, eo40⟩ := Kd.R_slice HO52.out; subst eo40) | ((with_reducible refine gate_builtin (b := .append) (xs := #[.tmp 52, .tmp 55]) rfl ?_); at_builtin; refine Kd.S_append k57 (w0 := w) w.heap.size rfl (.tmp 52) (.tmp 55) 26 57 (.agg #[(.slice none 0 0), (.bool false), (.string ⟨#[]⟩), (.int .i64 0), (.slice none 0 0)]) 80 rfl Try.underlying26 info57 rfl (by decide) (by omega) u5 x5_1 (⟨t45, t59, t60, t61, t46⟩ : S57) [.slice Ao39 t45.length co39, .bool t59, .string t60, .int .i64 t61, .slice Ao40 t46.length co40] (fun k_ => k_ ≠ gb41) (fun k_ => some k_ = (.slice Ao39 t45.length co39 : Value).ownBlock \/ some k_ = (.slice Ao40 t46.length co40 : Value).ownBlock) rfl rfl ?aP (fun k_ hk_ => hk_.elim (fun h_ => ((Kd.R_mono (ok' := fun k_ => ((fun k_ => k_ ≠ gb41)) k_ /\ some k_ ≠ (u5 : Value).ownBlock) (Kd.R_types (Kd.R_apart' (HO51.out) (Kd.S_typed HO_5.out) (by decide)) BK41.out (by decide)) (fun k_ hk => ⟨hk.2, hk.1.2⟩))).1 k_ h_.symm) (fun h_ => ((Kd.R_mono (ok' := fun k_ => ((fun k_ => k_ ≠ gb41)) k_ /\ some k_ ≠ (u5 : Value).ownBlock) (Kd.R_types (Kd.R_apart' (HO52.out) (Kd.S_typed HO_5.out) (by decide)) BK41.out (by decide)) (fun k_ hk => ⟨hk.2, hk.1.2⟩))).1 k_ h_.symm)) ?aF ?aO ?aB ?aS ?aL ?_; (case aP => exact k57_mkM _ _ _ (⟨t45, t59, t60, t61, t46⟩ : S57) (Kd.R_mono (Kd.R_tight rfl (Kd.R_mono (ok' := fun k_ => ((fun k_ => k_ ≠ gb41)) k_ /\ some k_ ≠ (u5 : Value).ownBlock) (Kd.R_types (Kd.R_apart' (HO51.out) (Kd.S_typed HO_5.out) (by decide)) BK41.out (by decide)) (fun k_ hk => ⟨hk.2, hk.1.2⟩))) (fun _ h_ => Or.inl h_)) (Kd.R_mono (Kd.R_tight rfl (Kd.R_mono (ok' := fun k_ => ((fun k_ => k_ ≠ gb41)) k_ /\ some k_ ≠ (u5 : Value).ownBlock) (Kd.R_types (Kd.R_apart' (HO52.out) (Kd.S_typed HO_5.out) (by decide)) BK41.out (by decide)) (fun k_ hk => ⟨hk.2, hk.1.2⟩))) (fun _ h_ => Or.inr (h_)))); (case aB => exact (bG_ GE41.out)); (case aF => exact (fun k_ hk => Kd.freshB (g := gb41) (o := .cells #[.slice A1_0 l1_0.length c1_0, .bool a1_1, .string a1_2, .int .i64 a1_3, .slice A1_4 l1_4.length c1_4] 57 (0, 0)) (vb_ BK41.out) k_ hk)); (case aO => exact (by (with_reducible repeat (first | apply Kd.S_alloc | apply Kd.S_drewN | apply Kd.S_drew)); exact Kd.S_mono HO_5.out (fun k_ hk => ⟨hk.1.1, fun e_ => e_.elim (fun h_ => hk.1.2 h_) (fun h_ => hk.2 h_)⟩))); (case aS => exact (below_size (bG_ GE41.out))); (case aL => have := LMc35.out; omega); intro v81 w38 ho hb hg hat; rw [← Ny71.out] at ho; replace BK41 := A_ (blk_grown (g := gb41) (o := .cells #[.slice A1_0 l1_0.length c1_0, .bool a1_1, .string a1_2, .int .i64 a1_3, .slice A1_4 l1_4.length c1_4] 57 (0, 0)) (vb_ BK41.out) hg (Kd.S_away HO_5.out (fun _ hk => hk.1.1))); replace HB := A_ (hb); have HO75 := A_ (ho); clear HO_5 HO51 HO52; clear ho hb hg hat)); try go_wp2_with (first | (go_at_call 105; (with_reducible refine (spec_l10Copy.calls _ _ l1_0 a1_1 a1_2 a1_3 _ _ l1_4 t45 t59 t60 t61 t46 _ ?s1 ?s2 ?s3 ?s4 A34.out).mono ?_); (case s1 => exact cC_ (Kd.C_below HR1_0.out HB.out)); (case s2 => exact HC1_0.out); (case s3 => exact cC_ (Kd.C_below HR1_4.out HB.out)); (case s4 => exact HC1_4.out); rintro e w37 ⟨v79, v80, rfl, ho0, ho1, hb⟩; replace HO_5 := A_ (Kd.S_mono (Kd.S_told (Kd.S_told (Kd.S_old (vS_ HO_5.out) hb) (kb_ ho0)) (kb_ ho1)) (fun _ h_ => h_.1)); have HO51 := A_ (Kd.R_lower ho0 (below_size (bG_ GE41.out))); have HO52 := A_ (Kd.R_lower ho1 (below_size (bG_ GE41.out))); replace BK41 := A_ (bw_ BK41.out hb); replace HB := A_ (below_step (bG_ GE41.out) hb); clear hb ho0 ho1; obtain ⟨Ao39, co39, eo39⟩ := Kd.R_slice HO51.out; subst eo39; obtain ⟨Ao40, co40, eo40⟩ := Kd.R_slice HO52.out; subst eo40) | ((with_reducible refine gate_builtin (b := .append) (xs := #[.tmp 52, .tmp 55]) rfl ?_); at_builtin; refine Kd.S_append k57 (w0 := w) w.heap.size rfl (.tmp 52) (.tmp 55) 26 57 (.agg #[(.slice none 0 0), (.bool false), (.string ⟨#[]⟩), (.int .i64 0), (.slice none 0 0)]) 80 rfl Try.underlying26 info57 rfl (by decide) (by omega) u5 x5_1 (⟨t45, t59, t60, t61, t46⟩ : S57) [.slice Ao39 t45.length co39, .bool t59, .string t60, .int .i64 t61, .slice Ao40 t46.length co40] (fun k_ => k_ ≠ gb41) (fun k_ => some k_ = (.slice Ao39 t45.length co39 : Value).ownBlock \/ some k_ = (.slice Ao40 t46.length co40 : Value).ownBlock) rfl rfl ?aP (fun k_ hk_ => hk_.elim (fun h_ => ((Kd.R_mono (ok' := fun k_ => ((fun k_ => k_ ≠ gb41)) k_ /\ some k_ ≠ (u5 : Value).ownBlock) (Kd.R_types (Kd.R_apart' (HO51.out) (Kd.S_typed HO_5.out) (by decide)) BK41.out (by decide)) (fun k_ hk => ⟨hk.2, hk.1.2⟩))).1 k_ h_.symm) (fun h_ => ((Kd.R_mono (ok' := fun k_ => ((fun k_ => k_ ≠ gb41)) k_ /\ some k_ ≠ (u5 : Value).ownBlock) (Kd.R_types (Kd.R_apart' (HO52.out) (Kd.S_typed HO_5.out) (by decide)) BK41.out (by decide)) (fun k_ hk => ⟨hk.2, hk.1.2⟩))).1 k_ h_.symm)) ?aF ?aO ?aB ?aS ?aL ?_; (case aP => exact k57_mkM _ _ _ (⟨t45, t59, t60, t61, t46⟩ : S57) (Kd.R_mono (Kd.R_tight rfl (Kd.R_mono (ok' := fun k_ => ((fun k_ => k_ ≠ gb41)) k_ /\ some k_ ≠ (u5 : Value).ownBlock) (Kd.R_types (Kd.R_apart' (HO51.out) (Kd.S_typed HO_5.out) (by decide)) BK41.out (by decide)) (fun k_ hk => ⟨hk.2, hk.1.2⟩))) (fun _ h_ => Or.inl h_)) (Kd.R_mono (Kd.R_tight rfl (Kd.R_mono (ok' := fun k_ => ((fun k_ => k_ ≠ gb41)) k_ /\ some k_ ≠ (u5 : Value).ownBlock) (Kd.R_types (Kd.R_apart' (HO52.out) (Kd.S_typed HO_5.out) (by decide)) BK41.out (by decide)) (fun k_ hk => ⟨hk.2, hk.1.2⟩))) (fun _ h_ => Or.inr (h_)))); (case aB => exact (bG_ GE41.out)); (case aF => exact (fun k_ hk => Kd.freshB (g := gb41) (o := .cells #[.slice A1_0 l1_0.length c1_0, .bool a1_1, .string a1_2, .int .i64 a1_3, .slice A1_4 l1_4.length c1_4] 57 (0, 0)) (vb_ BK41.out) k_ hk)); (case aO => exact (by (with_reducible repeat (first | apply Kd.S_alloc | apply Kd.S_drewN | apply Kd.S_drew)); exact Kd.S_mono HO_5.out (fun k_ hk => ⟨hk.1.1, fun e_ => e_.elim (fun h_ => hk.1.2 h_) (fun h_ => hk.2 h_)⟩))); (case aS => exact (below_size (bG_ GE41.out))); (case aL => have := LMc35.out; omega); intro v81 w38 ho hb hg hat; rw [← Ny71.out] at ho; replace HB := A_ (hb); have HO75 := A_ (ho); clear HO_5 HO51 HO52; clear ho hb hg hat)))
       go_ret
       exact ⟨_, rr_, by (with_reducible repeat (first | apply Kd.S_alloc | apply Kd.S_drewN | apply Kd.S_drew)); exact Kd.S_mono HO75.out (fun _ hk => trivial), bG_ GE41.out⟩
   rw [if_pos c6] at H
   have c6b0 := decide_eq_true c6
   clear c6
   have HC7 := A_ H
   clear H
   go_upto_region 6 with (fail)
   repeat (go_quiet (fail); go_upto_region 6 with (fail))
   go_cut [27] (fun v27 wc => ∃ (kq : Nat) (x27_6 : Bool), v27 = .bool x27_6 /\ Aside0 (spec_l11Put.j1 kq l0 x5_1 x6_1 x7_1 x27_6 l1_0 a1_1 a1_2 a1_3 l1_4 = some r) /\ Aside0 (kq <= k1) /\ Aside0 (Kd.S k57 57 wc w.heap.size (fun k_ => k_ ≠ gb41) u5 x5_1) /\ Aside0 (wc.heap[gb41]? = some (.cells #[(.slice A1_0 l1_0.length c1_0), .bool a1_1, .string a1_2, .int .i64 a1_3, (.slice A1_4 l1_4.length c1_4)] 57 (0, 0))) /\ Aside0 (Below w.heap.size w wc))
   case first =>
    have H := HC7.out
    clear HC7
    by_cases c8 : x6_1 = true
    . subst c8
      rw [if_pos rfl] at H
      have H' := A_ H
      clear H
      go_wp2
      repeat (go_quiet (fail); try go_wp2)
      go_meet
      case rel => exact ⟨_, (false), rs_, H', ⟨by have := HK1.out; first | omega | exact Nat.le_refl _⟩, ⟨vS_ HO_5.out⟩, ⟨vb_ BK41.out⟩, ⟨bG_ GE41.out⟩⟩
    . replace c8 := Bool.eq_false_iff.mpr c8
      subst c8
      rw [if_neg nf_] at H
      by_cases c9 : 0 <= x7_1
      rotate_left
      . exact absurd H (by rw [if_neg c9]; simp)
      rw [if_pos c9] at H
      have c9b0 := decide_eq_true c9
      clear c9
      (first | rw [c9b0] | (simp only [i64_w, i32_w]; rw [c9b0]) | skip)
      obtain ⟨t73, A10, H⟩ := bo_ H
      (try dsimp only at H)
      have H' := A_ H
      clear H
      have p44 : 0 <= (x7_1 : Int) := od_
      have q44 : x7_1 < (l0.length : Int) := od_
      obtain ⟨ad44, A44_0, c44_0, A44_4, c44_4, e44, hx44_0, hx44_1, hx44_2, hx44_3, hx44_4, hl44_0, hi44_0, hl44_4, hi44_4⟩ := at_T57 HR0.out x7_1 p44 q44
      cases e44
      replace hx44_0 := bc_ HB.out hx44_0
      replace hx44_1 := bc_ HB.out hx44_1
      replace hx44_2 := bc_ HB.out hx44_2
      replace hx44_3 := bc_ HB.out hx44_3
      replace hx44_4 := bc_ HB.out hx44_4
      have HR44_0 := A_ hi44_0
      have HC44_0 := A_ hl44_0
      clear hi44_0 hl44_0
      clear hi44_4 hl44_4
      replace p44 := eq_true p44
      replace q44 := eq_true q44
      have hcz11_0 : wr.cell? ⟨gb41, 0, none⟩ = some (.slice A1_0 l1_0.length c1_0) := bl_ BK41.out 0
      have hcz11_1 : wr.cell? ⟨gb41, 1, none⟩ = some (.bool a1_1) := bl_ BK41.out 1
      have hcz11_2 : wr.cell? ⟨gb41, 2, none⟩ = some (.string a1_2) := bl_ BK41.out 2
      have hcz11_3 : wr.cell? ⟨gb41, 3, none⟩ = some (.int .i64 a1_3) := bl_ BK41.out 3
      have hcz11_4 : wr.cell? ⟨gb41, 4, none⟩ = some (.slice A1_4 l1_4.length c1_4) := bl_ BK41.out 4
      have hfz11_0 := blk_frozen BK41.out 0
      have hfz11_1 := blk_frozen BK41.out 1
      have hfz11_2 := blk_frozen BK41.out 2
      have hfz11_3 := blk_frozen BK41.out 3
      have hfz11_4 := blk_frozen BK41.out 4
      go_wp2_with (first | (go_at_call 111; (with_reducible refine (spec_LessPath.calls k1 _ _ ((rd_T57 l0 x7_1).f0) _ _ l1_0 t73 _ ?s1 ?s2 ?s3 ?s4 A10.out).mono ?_); (case s1 => exact cC_ (Kd.C_below HR44_0.out HB.out)); (case s2 => exact HC44_0.out); (case s3 => exact cC_ (Kd.C_below HR1_0.out HB.out)); (case s4 => exact HC1_0.out); rintro e w' ⟨rfl, ⟨nd, rfl⟩⟩; (try first | exact ⟨rfl, _, World.drewN_drewN _ _ _⟩ | exact ⟨rfl, _, Eq.trans (World.drewN_drewN _ _ _) (congrArg (World.drewN _) (Nat.add_assoc _ _ _))⟩)))
      repeat (go_quiet (first | (go_at_call 111; (with_reducible refine (spec_LessPath.calls k1 _ _ ((rd_T57 l0 x7_1).f0) _ _ l1_0 t73 _ ?s1 ?s2 ?s3 ?s4 A10.out).mono ?_); (case s1 => exact cC_ (Kd.C_below HR44_0.out HB.out)); (case s2 => exact HC44_0.out); (case s3 => exact cC_ (Kd.C_below HR1_0.out HB.out)); (case s4 => exact HC1_0.out); rintro e w' ⟨rfl, ⟨nd, rfl⟩⟩; (try first | exact ⟨rfl, _, World.drewN_drewN _ _ _⟩ | exact ⟨rfl, _, Eq.trans (World.drewN_drewN _ _ _) (congrArg (World.drewN _) (Nat.add_assoc _ _ _))⟩))); try go_wp2_with (first | (go_at_call 111; (with_reducible refine (spec_LessPath.calls k1 _ _ ((rd_T57 l0 x7_1).f0) _ _ l1_0 t73 _ ?s1 ?s2 ?s3 ?s4 A10.out).mono ?_); (case s1 => exact cC_ (Kd.C_below HR44_0.out HB.out)); (case s2 => exact HC44_0.out); (case s3 => exact cC_ (Kd.C_below HR1_0.out HB.out)); (case s4 => exact HC1_0.out); rintro e w' ⟨rfl, ⟨nd, rfl⟩⟩; (try first | exact ⟨rfl, _, World.drewN_drewN _ _ _⟩ | exact ⟨rfl, _, Eq.trans (World.drewN_drewN _ _ _) (congrArg (World.drewN _) (Nat.add_assoc _ _ _))⟩))))
      go_meet
      case rel => exact ⟨_, (!t73), rs_, H', ⟨by have := HK1.out; first | omega | exact Nat.le_refl _⟩, ⟨vS_ HO_5.out⟩, ⟨vb_ BK41.out⟩, ⟨bG_ GE41.out⟩⟩
   case rest =>
    clear HC7
    try clear c6
    try clear c6b0
    obtain ⟨kq, x27_6, rfl, HA, HJ6, HO_5, BK41, HB⟩ := hcut
    cases kq with
    | zero => exact absurd HA.out (by simp [spec_l11Put.j1])
    | succ kj6 =>
     have H := HA.out
     clear HA
     simp only [spec_l11Put.j1] at H
     have HC12 := A_ H
     clear H
     go_upto_if 27 with (fail)
     repeat (go_quiet (fail); go_upto_if 27 with (fail))
     go_cut [5, 6] (fun v5 v6 wc => ∃ (kq : Nat) (x5_11 : List (S57)) (x6_11 : Bool), v6 = .bool x6_11 /\ Aside0 (spec_l11Put.j2 kq l0 x5_11 x6_11 x7_1 l1_0 a1_1 a1_2 a1_3 l1_4 = some r) /\ Aside0 (kq <= kj6) /\ Aside0 (Kd.S k57 57 wc w.heap.size (fun k_ => k_ ≠ gb41) v5 x5_11) /\ Aside0 (wc.heap[gb41]? = some (.cells #[(.slice A1_0 l1_0.length c1_0), .bool a1_1, .string a1_2, .int .i64 a1_3, (.slice A1_4 l1_4.length c1_4)] 57 (0, 0))) /\ Aside0 (Below w.heap.size w wc))
     case first =>
      have H := HC12.out
      clear HC12
      by_cases c13 : x27_6 = true
      . subst c13
        rw [if_pos rfl] at H
        obtain ⟨⟨t47, t62, t63, t65, t48⟩, A14, H⟩ := bo_ H
        (try dsimp only at H)
        by_cases c15 : x5_1.length < 1759218604441
        rotate_left
        . exact absurd H (by rw [if_neg c15]; simp)
        rw [if_pos c15] at H
        have LMc15 := A_ c15
        clear c15
        obtain ⟨y69, hy69⟩ : ∃ y_ : List (S57), y_ = (x5_1 ++ [(⟨t47, t62, t63, t65, t48⟩ : S57)]) := ⟨_, rfl⟩
        replace H : (spec_l11Put.j2 kj6 l0 y69 true x7_1 l1_0 a1_1 a1_2 a1_3 l1_4) = some r := hy_ hy69 H
        have Ny69 := A_ hy69
        clear hy69
        have H' := A_ H
        clear H
        have hcz16_0 : wc.cell? ⟨gb41, 0, none⟩ = some (.slice A1_0 l1_0.length c1_0) := bl_ BK41.out 0
        have hcz16_1 : wc.cell? ⟨gb41, 1, none⟩ = some (.bool a1_1) := bl_ BK41.out 1
        have hcz16_2 : wc.cell? ⟨gb41, 2, none⟩ = some (.string a1_2) := bl_ BK41.out 2
        have hcz16_3 : wc.cell? ⟨gb41, 3, none⟩ = some (.int .i64 a1_3) := bl_ BK41.out 3
        have hcz16_4 : wc.cell? ⟨gb41, 4, none⟩ = some (.slice A1_4 l1_4.length c1_4) := bl_ BK41.out 4
        have hfz16_0 := blk_frozen BK41.out 0
        have hfz16_1 := blk_frozen BK41.out 1
        have hfz16_2 := blk_frozen BK41.out 2
        have hfz16_3 := blk_frozen BK41.out 3
        have hfz16_4 := blk_frozen BK41.out 4
        go_wp2_with (first | (go_at_call 105; (with_reducible refine (spec_l10Copy.calls _ _ l1_0 a1_1 a1_2 a1_3 _ _ l1_4 t47 t62 t63 t65 t48 _ ?s1 ?s2 ?s3 ?s4 A14.out).mono ?_); (case s1 => exact cC_ (Kd.C_below HR1_0.out HB.out)); (case s2 => exact HC1_0.out); (case s3 => exact cC_ (Kd.C_below HR1_4.out HB.out)); (case s4 => exact HC1_4.out); rintro e w17 ⟨v82, v83, rfl, ho0, ho1, hb⟩; replace HO_5 := A_ (Kd.S_mono (Kd.S_told (Kd.S_told (Kd.S_old (vS_ HO_5.out) hb) (kb_ ho0)) (kb_ ho1)) (fun _ h_ => h_.1)); have HO53 := A_ (Kd.R_lower ho0 (below_size (bG_ GE41.out))); have HO54 := A_ (Kd.R_lower ho1 (below_size (bG_ GE41.out))); replace BK41 := A_ (bw_ BK41.out hb); replace HB := A_ (below_step (bG_ GE41.out) hb); clear hb ho0 ho1; obtain ⟨Ao19, co19, eo19⟩ := Kd.R_slice HO53.out; subst eo19; obtain ⟨Ao20, co20, eo20⟩ := Kd.R_slice HO54.out; subst eo20) | ((with_reducible refine gate_builtin (b := .append) (xs := #[.tmp 28, .tmp 31]) rfl ?_); at_builtin; refine Kd.S_append k57 (w0 := w) w.heap.size rfl (.tmp 28) (.tmp 31) 26 57 (.agg #[(.slice none 0 0), (.bool false), (.string ⟨#[]⟩), (.int .i64 0), (.slice none 0 0)]) 80 rfl Try.underlying26 info57 rfl (by decide) (by omega) u5 x5_1 (⟨t47, t62, t63, t65, t48⟩ : S57) [.slice Ao19 t47.length co19, .bool t62, .string t63, .int .i64 t65, .slice Ao20 t48.length co20] (fun k_ => k_ ≠ gb41) (fun k_ => some k_ = (.slice Ao19 t47.length co19 : Value).ownBlock \/ some k_ = (.slice Ao20 t48.length co20 : Value).ownBlock) rfl rfl ?aP (fun k_ hk_ => hk_.elim (fun h_ => ((Kd.R_mono (ok' := fun k_ => ((fun k_ => k_ ≠ gb41)) k_ /\ some k_ ≠ (u5 : Value).ownBlock) (Kd.R_types (Kd.R_apart' (HO53.out) (Kd.S_typed HO_5.out) (by decide)) BK41.out (by decide)) (fun k_ hk => ⟨hk.2, hk.1.2⟩))).1 k_ h_.symm) (fun h_ => ((Kd.R_mono (ok' := fun k_ => ((fun k_ => k_ ≠ gb41)) k_ /\ some k_ ≠ (u5 : Value).ownBlock) (Kd.R_types (Kd.R_apart' (HO54.out) (Kd.S_typed HO_5.out) (by decide)) BK41.out (by decide)) (fun k_ hk => ⟨hk.2, hk.1.2⟩))).1 k_ h_.symm)) ?aF ?aO ?aB ?aS ?aL ?_; (case aP => exact k57_mkM _ _ _ (⟨t47, t62, t63, t65, t48⟩ : S57) (Kd.R_mono (Kd.R_tight rfl (Kd.R_mono (ok' := fun k_ => ((fun k_ => k_ ≠ gb41)) k_ /\ some k_ ≠ (u5 : Value).ownBlock) (Kd.R_types (Kd.R_apart' (HO53.out) (Kd.S_typed HO_5.out) (by decide)) BK41.out (by decide)) (fun k_ hk => ⟨hk.2, hk.1.2⟩))) (fun _ h_ => Or.inl h_)) (Kd.R_mono (Kd.R_tight rfl (Kd.R_mono (ok' := fun k_ => ((fun k_ => k_ ≠ gb41)) k_ /\ some k_ ≠ (u5 : Value).ownBlock) (Kd.R_types (Kd.R_apart' (HO54.out) (Kd.S_typed HO_5.out) (by decide)) BK41.out (by decide)) (fun k_ hk => ⟨hk.2, hk.1.2⟩))) (fun _ h_ => Or.inr (h_)))); (case aB => exact (bG_ GE41.out)); (case aF => exact (fun k_ hk => Kd.freshB (g := gb41) (o := .cells #[.slice A1_0 l1_0.length c1_0, .bool a1_1, .string a1_2, .int .i64 a1_3, .slice A1_4 l1_4.length c1_4] 57 (0, 0)) (vb_ BK41.out) k_ hk)); (case aO => exact (by (with_reducible repeat (first | apply Kd.S_alloc | apply Kd.S_drewN | apply Kd.S_drew)); exact Kd.S_mono HO_5.out (fun k_ hk => ⟨hk.1.1, fun e_ => e_.elim (fun h_ => hk.1.2 h_) (fun h_ => hk.2 h_)⟩))); (case aS => exact (below_size (bG_ GE41.out))); (case aL => have := LMc15.out; omega); intro v84 w18 ho hb hg hat; rw [← Ny69.out] at ho; replace BK41 := A_ (blk_grown (g := gb41) (o := .cells #[.slice A1_0 l1_0.length c1_0, .bool a1_1, .string a1_2, .int .i64 a1_3, .slice A1_4 l1_4.length c1_4] 57 (0, 0)) (vb_ BK41.out) hg (Kd.S_away HO_5.out (fun _ hk => hk.1.1))); replace HB := A_ (hb); have HO76 := A_ (ho); clear HO_5 HO53 HO54; clear ho hb hg hat))
        repeat (go_quiet (first | (go_at_call 105; (with_reducible refine (spec_l10Copy.calls _ _ l1_0 a1_1 a1_2 a1_3 _ _ l1_4 t47 t62 t63 t65 t48 _ ?s1 ?s2 ?s3 ?s4 A14.out).mono ?_); (case s1 => exact cC_ (Kd.C_below HR1_0.out HB.out)); (case s2 => exact HC1_0.out); (case s3 => exact cC_ (Kd.C_below HR1_4.out HB.out)); (case s4 => exact HC1_4.out); rintro e w17 ⟨v82, v83, rfl, ho0, ho1, hb⟩; replace HO_5 := A_ (Kd.S_mono (Kd.S_told (Kd.S_told (Kd.S_old (vS_ HO_5.out) hb) (kb_ ho0)) (kb_ ho1)) (fun _ h_ => h_.1)); have HO53 := A_ (Kd.R_lower ho0 (below_size (bG_ GE41.out))); have HO54 := A_ (Kd.R_lower ho1 (below_size (bG_ GE41.out))); replace BK41 := A_ (bw_ BK41.out hb); replace HB := A_ (below_step (bG_ GE41.out) hb); clear hb ho0 ho1; obtain ⟨Ao19, co19, eo19⟩ := Kd.R_slice HO53.out; subst eo19; obtain ⟨Ao20, co20, eo20⟩ := Kd.R_slice HO54.out; subst eo20) | ((with_reducible refine gate_builtin (b := .append) (xs := #[.tmp 28, .tmp 31]) rfl ?_); at_builtin; refine Kd.S_append k57 (w0 := w) w.heap.size rfl (.tmp 28) (.tmp 31) 26 57 (.agg #[(.slice none 0 0), (.bool false), (.string ⟨#[]⟩), (.int .i64 0), (.slice none 0 0)]) 80 rfl Try.underlying26 info57 rfl (by decide) (by omega) u5 x5_1 (⟨t47, t62, t63, t65, t48⟩ : S57) [.slice Ao19 t47.length co19, .bool t62, .string t63, .int .i64 t65, .slice Ao20 t48.length co20] (fun k_ => k_ ≠ gb41) (fun k_ => some k_ = (.slice Ao19 t47.length co19 : Value).ownBlock \/ some k_ = (.slice Ao20 t48.length co20 : Value).ownBlock) rfl rfl ?aP (fun k_ hk_ => hk_.elim (fun h_ => ((Kd.R_mono (ok' := fun k_ => ((fun k_ => k_ ≠ gb41)) k_ /\ some k_ ≠ (u5 : Value).ownBlock) (Kd.R_types (Kd.R_apart' (HO53.out) (Kd.S_typed HO_5.out) (by decide)) BK41.out (by decide)) (fun k_ hk => ⟨hk.2, hk.1.2⟩))).1 k_ h_.symm) (fun h_ => ((Kd.R_mono (ok' := fun k_ => ((fun k_ => k_ ≠ gb41)) k_ /\ some k_ ≠ (u5 : Value).ownBlock) (Kd.R_types (Kd.R_apart' (HO54.out) (Kd.S_typed HO_5.out) (by decide)) BK41.out (by decide)) (fun k_ hk => ⟨hk.2, hk.1.2⟩))).1 k_ h_.symm)) ?aF ?aO ?aB ?aS ?aL ?_; (case aP => exact k57_mkM _ _ _ (⟨t47, t62, t63, t65, t48⟩ : S57) (Kd.R_mono (Kd.R_tight rfl (Kd.R_mono (ok' := fun k_ => ((fun k_ => k_ ≠ gb41)) k_ /\ some k_ ≠ (u5 : Value).ownBlock) (Kd.R_types (Kd.R_apart' (HO53.out) (Kd.S_typed HO_5.out) (by decide)) BK41.out (by decide)) (fun k_ hk => ⟨hk.2, hk.1.2⟩))) (fun _ h_ => Or.inl h_)) (Kd.R_mono (Kd.R_tight rfl (Kd.R_mono (ok' := fun k_ => ((fun k_ => k_ ≠ gb41)) k_ /\ some k_ ≠ (u5 : Value).ownBlock) (Kd.R_types (Kd.R_apart' (HO54.out) (Kd.S_typed HO_5.out) (by decide)) BK41.out (by decide)) (fun k_ hk => ⟨hk.2, hk.1.2⟩))) (fun _ h_ => Or.inr (h_)))); (case aB => exact (bG_ GE41.out)); (case aF => exact (fun k_ hk => Kd.freshB (g := gb41) (o := .cells #[.slice A1_0 l1_0.length c1_0, .bool a1_1, .string a1_2, .int .i64 a1_3, .slice A1_4 l1_4.length c1_4] 57 (0, 0)) (vb_ BK41.out) k_ hk)); (case aO => exact (by (with_reducible repeat (first | apply Kd.S_alloc | apply Kd.S_drewN | apply Kd.S_drew)); exact Kd.S_mono HO_5.out (fun k_ hk => ⟨hk.1.1, fun e_ => e_.elim (fun h_ => hk.1.2 h_) (fun h_ => hk.2 h_)⟩))); (case aS => exact (below_size (bG_ GE41.out))); (case aL => have := LMc15.out; omega); intro v84 w18 ho hb hg hat; rw [← Ny69.out] at ho; replace BK41 := A_ (blk_grown (g := gb41) (o := .cells #[.slice A1_0 l1_0.length c1_0, .bool a1_1, .string a1_2, .int .i64 a1_3, .slice A1_4 l1_4.length c1_4] 57 (0, 0)) (vb_ BK41.out) hg (Kd.S_away HO_5.out (fun _ hk => hk.1.1))); replace HB := A_ (hb); have HO76 := A_ (ho); clear HO_5 HO53 HO54; clear ho hb hg hat)); try go_wp2_with (first | (go_at_call 105; (with_reducible refine (spec_l10Copy.calls _ _ l1_0 a1_1 a1_2 a1_3 _ _ l1_4 t47 t62 t63 t65 t48 _ ?s1 ?s2 ?s3 ?s4 A14.out).mono ?_); (case s1 => exact cC_ (Kd.C_below HR1_0.out HB.out)); (case s2 => exact HC1_0.out); (case s3 => exact cC_ (Kd.C_below HR1_4.out HB.out)); (case s4 => exact HC1_4.out); rintro e w17 ⟨v82, v83, rfl, ho0, ho1, hb⟩; replace HO_5 := A_ (Kd.S_mono (Kd.S_told (Kd.S_told (Kd.S_old (vS_ HO_5.out) hb) (kb_ ho0)) (kb_ ho1)) (fun _ h_ => h_.1)); have HO53 := A_ (Kd.R_lower ho0 (below_size (bG_ GE41.out))); have HO54 := A_ (Kd.R_lower ho1 (below_size (bG_ GE41.out))); replace BK41 := A_ (bw_ BK41.out hb); replace HB := A_ (below_step (bG_ GE41.out) hb); clear hb ho0 ho1; obtain ⟨Ao19, co19, eo19⟩ := Kd.R_slice HO53.out; subst eo19; obtain ⟨Ao20, co20, eo20⟩ := Kd.R_slice HO54.out; subst eo20) | ((with_reducible refine gate_builtin (b := .append) (xs := #[.tmp 28, .tmp 31]) rfl ?_); at_builtin; refine Kd.S_append k57 (w0 := w) w.heap.size rfl (.tmp 28) (.tmp 31) 26 57 (.agg #[(.slice none 0 0), (.bool false), (.string ⟨#[]⟩), (.int .i64 0), (.slice none 0 0)]) 80 rfl Try.underlying26 info57 rfl (by decide) (by omega) u5 x5_1 (⟨t47, t62, t63, t65, t48⟩ : S57) [.slice Ao19 t47.length co19, .bool t62, .string t63, .int .i64 t65, .slice Ao20 t48.length co20] (fun k_ => k_ ≠ gb41) (fun k_ => some k_ = (.slice Ao19 t47.length co19 : Value).ownBlock \/ some k_ = (.slice Ao20 t48.length co20 : Value).ownBlock) rfl rfl ?aP (fun k_ hk_ => hk_.elim (fun h_ => ((Kd.R_mono (ok' := fun k_ => ((fun k_ => k_ ≠ gb41)) k_ /\ some k_ ≠ (u5 : Value).ownBlock) (Kd.R_types (Kd.R_apart' (HO53.out) (Kd.S_typed HO_5.out) (by decide)) BK41.out (by decide)) (fun k_ hk => ⟨hk.2, hk.1.2⟩))).1 k_ h_.symm) (fun h_ => ((Kd.R_mono (ok' := fun k_ => ((fun k_ => k_ ≠ gb41)) k_ /\ some k_ ≠ (u5 : Value).ownBlock) (Kd.R_types (Kd.R_apart' (HO54.out) (Kd.S_typed HO_5.out) (by decide)) BK41.out (by decide)) (fun k_ hk => ⟨hk.2, hk.1.2⟩))).1 k_ h_.symm)) ?aF ?aO ?aB ?aS ?aL ?_; (case aP => exact k57_mkM _ _ _ (⟨t47, t62, t63, t65, t48⟩ : S57) (Kd.R_mono (Kd.R_tight rfl (Kd.R_mono (ok' := fun k_ => ((fun k_ => k_ ≠ gb41)) k_ /\ some k_ ≠ (u5 : Value).ownBlock) (Kd.R_types (Kd.R_apart' (HO53.out) (Kd.S_typed HO_5.out) (by decide)) BK41.out (by decide)) (fun k_ hk => ⟨hk.2, hk.1.2⟩))) (fun _ h_ => Or.inl h_)) (Kd.R_mono (Kd.R_tight rfl (Kd.R_mono (ok' := fun k_ => ((fun k_ => k_ ≠ gb41)) k_ /\ some k_ ≠ (u5 : Value).ownBlock) (Kd.R_types (Kd.R_apart' (HO54.out) (Kd.S_typed HO_5.out) (by decide)) BK41.out (by decide)) (fun k_ hk => ⟨hk.2, hk.1.2⟩))) (fun _ h_ => Or.inr (h_)))); (case aB => exact (bG_ GE41.out)); (case aF => exact (fun k_ hk => Kd.freshB (g := gb41) (o := .cells #[.slice A1_0 l1_0.length c1_0, .bool a1_1, .string a1_2, .int .i64 a1_3, .slice A1_4 l1_4.length c1_4] 57 (0, 0)) (vb_ BK41.out) k_ hk)); (case aO => exact (by (with_reducible repeat (first | apply Kd.S_alloc | apply Kd.S_drewN | apply Kd.S_drew)); exact Kd.S_mono HO_5.out (fun k_ hk => ⟨hk.1.1, fun e_ => e_.elim (fun h_ => hk.1.2 h_) (fun h_ => hk.2 h_)⟩))); (case aS => exact (below_size (bG_ GE41.out))); (case aL => have := LMc15.out; omega); intro v84 w18 ho hb hg hat; rw [← Ny69.out] at ho; replace BK41 := A_ (blk_grown (g := gb41) (o := .cells #[.slice A1_0 l1_0.length c1_0, .bool a1_1, .string a1_2, .int .i64 a1_3, .slice A1_4 l1_4.length c1_4] 57 (0, 0)) (vb_ BK41.out) hg (Kd.S_away HO_5.out (fun _ hk => hk.1.1))); replace HB := A_ (hb); have HO76 := A_ (ho); clear HO_5 HO53 HO54; clear ho hb hg hat)))
        go_meet
        case rel => exact ⟨_, (y69), (true), rs_, H', ⟨by have := HK1.out; have := HJ6.out; first | omega | exact Nat.le_refl _⟩, ⟨vS_ HO76.out⟩, ⟨vb_ BK41.out⟩, ⟨bG_ GE41.out⟩⟩
      . replace c13 := Bool.eq_false_iff.mpr c13
        subst c13
        rw [if_neg nf_] at H
        have H' := A_ H
        clear H
        go_wp2
        repeat (go_quiet (fail); try go_wp2)
        go_meet
        case rel => exact ⟨_, (x5_1), (x6_1), rs_, H', ⟨by have := HK1.out; have := HJ6.out; first | omega | exact Nat.le_refl _⟩, ⟨vS_ HO_5.out⟩, ⟨vb_ BK41.out⟩, ⟨bG_ GE41.out⟩⟩
     case rest =>
      clear HC12
      try clear c6
      try clear c6b0
      obtain ⟨kq, x5_11, x6_11, rfl, HA, HJ11, HO_5, BK41, HB⟩ := hcut
      cases kq with
      | zero => exact absurd HA.out (by simp [spec_l11Put.j2])
      | succ kj11 =>
       have H := HA.out
       clear HA
       simp only [spec_l11Put.j2] at H
       by_cases c21 : 0 <= x7_1
       rotate_left
       . exact absurd H (by rw [if_neg c21]; simp)
       rw [if_pos c21] at H
       have c21b0 := decide_eq_true c21
       clear c21
       by_cases c22 : x7_1 < (l0.length : Int)
       rotate_left
       . exact absurd H (by rw [if_neg c22]; simp)
       rw [if_pos c22] at H
       have c22b0 := decide_eq_true c22
       clear c22
       obtain ⟨t88, A23, H⟩ := bo_ H
       (try dsimp only at H)
       by_cases c24 : t88 = true
       . subst c24
         rw [if_pos rfl] at H
         have H' := A_ H
         clear H
         have p43 : 0 <= (x7_1 : Int) := od_
         have q43 : x7_1 < (l0.length : Int) := od_
         obtain ⟨ad43, A43_0, c43_0, A43_4, c43_4, e43, hx43_0, hx43_1, hx43_2, hx43_3, hx43_4, hl43_0, hi43_0, hl43_4, hi43_4⟩ := at_T57 HR0.out x7_1 p43 q43
         cases e43
         replace hx43_0 := bc_ HB.out hx43_0
         replace hx43_1 := bc_ HB.out hx43_1
         replace hx43_2 := bc_ HB.out hx43_2
         replace hx43_3 := bc_ HB.out hx43_3
         replace hx43_4 := bc_ HB.out hx43_4
         have HR43_0 := A_ hi43_0
         have HC43_0 := A_ hl43_0
         clear hi43_0 hl43_0
         clear hi43_4 hl43_4
         replace p43 := eq_true p43
         replace q43 := eq_true q43
         have hcz25_0 : wc.cell? ⟨gb41, 0, none⟩ = some (.slice A1_0 l1_0.length c1_0) := bl_ BK41.out 0
         have hcz25_1 : wc.cell? ⟨gb41, 1, none⟩ = some (.bool a1_1) := bl_ BK41.out 1
         have hcz25_2 : wc.cell? ⟨gb41, 2, none⟩ = some (.string a1_2) := bl_ BK41.out 2
         have hcz25_3 : wc.cell? ⟨gb41, 3, none⟩ = some (.int .i64 a1_3) := bl_ BK41.out 3
         have hcz25_4 : wc.cell? ⟨gb41, 4, none⟩ = some (.slice A1_4 l1_4.length c1_4) := bl_ BK41.out 4
         have hfz25_0 := blk_frozen BK41.out 0
         have hfz25_1 := blk_frozen BK41.out 1
         have hfz25_2 := blk_frozen BK41.out 2
         have hfz25_3 := blk_frozen BK41.out 3
         have hfz25_4 := blk_frozen BK41.out 4
         go_wp2_with (first | (go_at_call 104; (with_reducible refine (spec_SamePath.calls kj11 _ _ ((rd_T57 l0 x7_1).f0) _ _ l1_0 true _ ?s1 ?s2 ?s3 ?s4 A23.out).mono ?_); (case s1 => exact cC_ (Kd.C_below HR43_0.out HB.out)); (case s2 => exact HC43_0.out); (case s3 => exact cC_ (Kd.C_below HR1_0.out HB.out)); (case s4 => exact HC1_0.out); rintro e w' ⟨rfl, ⟨nd, rfl⟩⟩; (try first | exact ⟨rfl, _, World.drewN_drewN _ _ _⟩ | exact ⟨rfl, _, Eq.trans (World.drewN_drewN _ _ _) (congrArg (World.drewN _) (Nat.add_assoc _ _ _))⟩)))
         repeat (go_quiet (first | (go_at_call 104; (with_reducible refine (spec_SamePath.calls kj11 _ _ ((rd_T57 l0 x7_1).f0) _ _ l1_0 true _ ?s1 ?s2 ?s3 ?s4 A23.out).mono ?_); (case s1 => exact cC_ (Kd.C_below HR43_0.out HB.out)); (case s2 => exact HC43_0.out); (case s3 => exact cC_ (Kd.C_below HR1_0.out HB.out)); (case s4 => exact HC1_0.out); rintro e w' ⟨rfl, ⟨nd, rfl⟩⟩; (try first | exact ⟨rfl, _, World.drewN_drewN _ _ _⟩ | exact ⟨rfl, _, Eq.trans (World.drewN_drewN _ _ _) (congrArg (World.drewN _) (Nat.add_assoc _ _ _))⟩))); try go_wp2_with (first | (go_at_call 104; (with_reducible refine (spec_SamePath.calls kj11 _ _ ((rd_T57 l0 x7_1).f0) _ _ l1_0 true _ ?s1 ?s2 ?s3 ?s4 A23.out).mono ?_); (case s1 => exact cC_ (Kd.C_below HR43_0.out HB.out)); (case s2 => exact HC43_0.out); (case s3 => exact cC_ (Kd.C_below HR1_0.out HB.out)); (case s4 => exact HC1_0.out); rintro e w' ⟨rfl, ⟨nd, rfl⟩⟩; (try first | exact ⟨rfl, _, World.drewN_drewN _ _ _⟩ | exact ⟨rfl, _, Eq.trans (World.drewN_drewN _ _ _) (congrArg (World.drewN _) (Nat.add_assoc _ _ _))⟩))))
         go_roundg kj11
         case measure => have := HK1.out; have := HJ6.out; have := HJ11.out; omega
         case rel => exact ⟨(x5_11), (x6_11), (wrap64 (x7_1 + 1)), rs_, rs_, H', ⟨by have := HK1.out; have := HJ6.out; have := HJ11.out; omega⟩, ⟨vS_ HO_5.out⟩, ⟨vb_ BK41.out⟩, ⟨bG_ GE41.out⟩⟩
       . replace c24 := Bool.eq_false_iff.mpr c24
         subst c24
         rw [if_neg nf_] at H
         obtain ⟨⟨t49, t66, t67, t68, t50⟩, A26, H⟩ := bo_ H
         (try dsimp only at H)
         by_cases c27 : x5_11.length < 1759218604441
         rotate_left
         . exact absurd H (by rw [if_neg c27]; simp)
         rw [if_pos c27] at H
         have LMc27 := A_ c27
         clear c27
         obtain ⟨y70, hy70⟩ : ∃ y_ : List (S57), y_ = (x5_11 ++ [(⟨t49, t66, t67, t68, t50⟩ : S57)]) := ⟨_, rfl⟩
         replace H : (spec_l11Put.l0 kj11 l0 y70 x6_11 (wrap64 (x7_1 + 1)) l1_0 a1_1 a1_2 a1_3 l1_4) = some r := hy_ hy70 H
         have Ny70 := A_ hy70
         clear hy70
         have H' := A_ H
         clear H
         have p43 : 0 <= (x7_1 : Int) := od_
         have q43 : x7_1 < (l0.length : Int) := od_
         obtain ⟨ad43, A43_0, c43_0, A43_4, c43_4, e43, hx43_0, hx43_1, hx43_2, hx43_3, hx43_4, hl43_0, hi43_0, hl43_4, hi43_4⟩ := at_T57 HR0.out x7_1 p43 q43
         cases e43
         replace hx43_0 := bc_ HB.out hx43_0
         replace hx43_1 := bc_ HB.out hx43_1
         replace hx43_2 := bc_ HB.out hx43_2
         replace hx43_3 := bc_ HB.out hx43_3
         replace hx43_4 := bc_ HB.out hx43_4
         have HR43_0 := A_ hi43_0
         have HC43_0 := A_ hl43_0
         clear hi43_0 hl43_0
         clear hi43_4 hl43_4
         replace p43 := eq_true p43
         replace q43 := eq_true q43
         have hcz28_0 : wc.cell? ⟨gb41, 0, none⟩ = some (.slice A1_0 l1_0.length c1_0) := bl_ BK41.out 0
         have hcz28_1 : wc.cell? ⟨gb41, 1, none⟩ = some (.bool a1_1) := bl_ BK41.out 1
         have hcz28_2 : wc.cell? ⟨gb41, 2, none⟩ = some (.string a1_2) := bl_ BK41.out 2
         have hcz28_3 : wc.cell? ⟨gb41, 3, none⟩ = some (.int .i64 a1_3) := bl_ BK41.out 3
         have hcz28_4 : wc.cell? ⟨gb41, 4, none⟩ = some (.slice A1_4 l1_4.length c1_4) := bl_ BK41.out 4
         have hfz28_0 := blk_frozen BK41.out 0
         have hfz28_1 := blk_frozen BK41.out 1
         have hfz28_2 := blk_frozen BK41.out 2
         have hfz28_3 := blk_frozen BK41.out 3
         have hfz28_4 := blk_frozen BK41.out 4
         go_wp2_with (first | (go_at_call 104; (with_reducible refine (spec_SamePath.calls kj11 _ _ ((rd_T57 l0 x7_1).f0) _ _ l1_0 false _ ?s1 ?s2 ?s3 ?s4 A23.out).mono ?_); (case s1 => exact cC_ (Kd.C_below HR43_0.out HB.out)); (case s2 => exact HC43_0.out); (case s3 => exact cC_ (Kd.C_below HR1_0.out HB.out)); (case s4 => exact HC1_0.out); rintro e w' ⟨rfl, ⟨nd, rfl⟩⟩; (try first | exact ⟨rfl, _, World.drewN_drewN _ _ _⟩ | exact ⟨rfl, _, Eq.trans (World.drewN_drewN _ _ _) (congrArg (World.drewN _) (Nat.add_assoc _ _ _))⟩); have p42 : 0 <= (x7_1 : Int) := od_; have q42 : x7_1 < (l0.length : Int) := od_; obtain ⟨ad42, A42_0, c42_0, A42_4, c42_4, e42, hx42_0, hx42_1, hx42_2, hx42_3, hx42_4, hl42_0, hi42_0, hl42_4, hi42_4⟩ := at_T57 HR0.out x7_1 p42 q42; obtain rfl : ad43 = ad42 := (by injection e42); replace hx42_0 := bc_ HB.out hx42_0; replace hx42_1 := bc_ HB.out hx42_1; replace hx42_2 := bc_ HB.out hx42_2; replace hx42_3 := bc_ HB.out hx42_3; replace hx42_4 := bc_ HB.out hx42_4; have HR42_0 := A_ hi42_0; have HC42_0 := A_ hl42_0; clear hi42_0 hl42_0; have HR42_4 := A_ hi42_4; have HC42_4 := A_ hl42_4; clear hi42_4 hl42_4; replace p42 := eq_true p42; replace q42 := eq_true q42; have ea_ := Option.some.inj (hx43_0.symm.trans hx42_0); injection ea_ with ea_ en_ ec_; subst ea_; subst ec_; clear en_; have ea_ := Option.some.inj (hx43_4.symm.trans hx42_4); injection ea_ with ea_ en_ ec_; subst ea_; subst ec_; clear en_) | (go_at_call 105; (with_reducible refine (spec_l10Copy.calls _ _ ((rd_T57 l0 x7_1).f0) ((rd_T57 l0 x7_1).f1) ((rd_T57 l0 x7_1).f2) ((rd_T57 l0 x7_1).f3) _ _ ((rd_T57 l0 x7_1).f4) t49 t66 t67 t68 t50 _ ?s1 ?s2 ?s3 ?s4 A26.out).mono ?_); (case s1 => exact cC_ (Kd.C_below HR42_0.out (bG_ GE41.out))); (case s2 => exact HC42_0.out); (case s3 => exact cC_ (Kd.C_below HR42_4.out (bG_ GE41.out))); (case s4 => exact HC42_4.out); rintro e w29 ⟨v85, v86, rfl, ho0, ho1, hb⟩; replace HO_5 := A_ (Kd.S_mono (Kd.S_told (Kd.S_told (Kd.S_old (vS_ HO_5.out) hb) (kb_ ho0)) (kb_ ho1)) (fun _ h_ => h_.1)); have HO55 := A_ (Kd.R_lower ho0 (below_size (bG_ GE41.out))); have HO56 := A_ (Kd.R_lower ho1 (below_size (bG_ GE41.out))); replace BK41 := A_ (bw_ BK41.out hb); replace HB := A_ (below_step (bG_ GE41.out) hb); clear hb ho0 ho1; obtain ⟨Ao31, co31, eo31⟩ := Kd.R_slice HO55.out; subst eo31; obtain ⟨Ao32, co32, eo32⟩ := Kd.R_slice HO56.out; subst eo32) | ((with_reducible refine gate_builtin (b := .append) (xs := #[.tmp 42, .tmp 48]) rfl ?_); at_builtin; refine Kd.S_append k57 (w0 := w) w.heap.size rfl (.tmp 42) (.tmp 48) 26 57 (.agg #[(.slice none 0 0), (.bool false), (.string ⟨#[]⟩), (.int .i64 0), (.slice none 0 0)]) 80 rfl Try.underlying26 info57 rfl (by decide) (by omega) u5 x5_11 (⟨t49, t66, t67, t68, t50⟩ : S57) [.slice Ao31 t49.length co31, .bool t66, .string t67, .int .i64 t68, .slice Ao32 t50.length co32] (fun k_ => k_ ≠ gb41) (fun k_ => some k_ = (.slice Ao31 t49.length co31 : Value).ownBlock \/ some k_ = (.slice Ao32 t50.length co32 : Value).ownBlock) rfl rfl ?aP (fun k_ hk_ => hk_.elim (fun h_ => ((Kd.R_mono (ok' := fun k_ => ((fun k_ => k_ ≠ gb41)) k_ /\ some k_ ≠ (u5 : Value).ownBlock) (Kd.R_types (Kd.R_apart' (HO55.out) (Kd.S_typed HO_5.out) (by decide)) BK41.out (by decide)) (fun k_ hk => ⟨hk.2, hk.1.2⟩))).1 k_ h_.symm) (fun h_ => ((Kd.R_mono (ok' := fun k_ => ((fun k_ => k_ ≠ gb41)) k_ /\ some k_ ≠ (u5 : Value).ownBlock) (Kd.R_types (Kd.R_apart' (HO56.out) (Kd.S_typed HO_5.out) (by decide)) BK41.out (by decide)) (fun k_ hk => ⟨hk.2, hk.1.2⟩))).1 k_ h_.symm)) ?aF ?aO ?aB ?aS ?aL ?_; (case aP => exact k57_mkM _ _ _ (⟨t49, t66, t67, t68, t50⟩ : S57) (Kd.R_mono (Kd.R_tight rfl (Kd.R_mono (ok' := fun k_ => ((fun k_ => k_ ≠ gb41)) k_ /\ some k_ ≠ (u5 : Value).ownBlock) (Kd.R_types (Kd.R_apart' (HO55.out) (Kd.S_typed HO_5.out) (by decide)) BK41.out (by decide)) (fun k_ hk => ⟨hk.2, hk.1.2⟩))) (fun _ h_ => Or.inl h_)) (Kd.R_mono (Kd.R_tight rfl (Kd.R_mono (ok' := fun k_ => ((fun k_ => k_ ≠ gb41)) k_ /\ some k_ ≠ (u5 : Value).ownBlock) (Kd.R_types (Kd.R_apart' (HO56.out) (Kd.S_typed HO_5.out) (by decide)) BK41.out (by decide)) (fun k_ hk => ⟨hk.2, hk.1.2⟩))) (fun _ h_ => Or.inr (h_)))); (case aB => exact (bG_ GE41.out)); (case aF => exact (fun k_ hk => Kd.freshB (g := gb41) (o := .cells #[.slice A1_0 l1_0.length c1_0, .bool a1_1, .string a1_2, .int .i64 a1_3, .slice A1_4 l1_4.length c1_4] 57 (0, 0)) (vb_ BK41.out) k_ hk)); (case aO => exact (by (with_reducible repeat (first | apply Kd.S_alloc | apply Kd.S_drewN | apply Kd.S_drew)); exact Kd.S_mono HO_5.out (fun k_ hk => ⟨hk.1.1, fun e_ => e_.elim (fun h_ => hk.1.2 h_) (fun h_ => hk.2 h_)⟩))); (case aS => exact (below_size (bG_ GE41.out))); (case aL => have := LMc27.out; omega); intro v87 w30 ho hb hg hat; rw [← Ny70.out] at ho; replace BK41 := A_ (blk_grown (g := gb41) (o := .cells #[.slice A1_0 l1_0.length c1_0, .bool a1_1, .string a1_2, .int .i64 a1_3, .slice A1_4 l1_4.length c1_4] 57 (0, 0)) (vb_ BK41.out) hg (Kd.S_away HO_5.out (fun _ hk => hk.1.1))); replace HB := A_ (hb); have HO77 := A_ (ho); clear HO_5 HO55 HO56; clear ho hb hg hat))
         repeat (go_quiet (first | (go_at_call 104; (with_reducible refine (spec_SamePath.calls kj11 _ _ ((rd_T57 l0 x7_1).f0) _ _ l1_0 false _ ?s1 ?s2 ?s3 ?s4 A23.out).mono ?_); (case s1 => exact cC_ (Kd.C_below HR43_0.out HB.out)); (case s2 => exact HC43_0.out); (case s3 => exact cC_ (Kd.C_below HR1_0.out HB.out)); (case s4 => exact HC1_0.out); rintro e w' ⟨rfl, ⟨nd, rfl⟩⟩; (try first | exact ⟨rfl, _, World.drewN_drewN _ _ _⟩ | exact ⟨rfl, _, Eq.trans (World.drewN_drewN _ _ _) (congrArg (World.drewN _) (Nat.add_assoc _ _ _))⟩); have p42 : 0 <= (x7_1 : Int) := od_; have q42 : x7_1 < (l0.length : Int) := od_; obtain ⟨ad42, A42_0, c42_0, A42_4, c42_4, e42, hx42_0, hx42_1, hx42_2, hx42_3, hx42_4, hl42_0, hi42_0, hl42_4, hi42_4⟩ := at_T57 HR0.out x7_1 p42 q42; obtain rfl : ad43 = ad42 := (by injection e42); replace hx42_0 := bc_ HB.out hx42_0; replace hx42_1 := bc_ HB.out hx42_1; replace hx42_2 := bc_ HB.out hx42_2; replace hx42_3 := bc_ HB.out hx42_3; replace hx42_4 := bc_ HB.out hx42_4; have HR42_0 := A_ hi42_0; have HC42_0 := A_ hl42_0; clear hi42_0 hl42_0; have HR42_4 := A_ hi42_4; have HC42_4 := A_ hl42_4; clear hi42_4 hl42_4; replace p42 := eq_true p42; replace q42 := eq_true q42; have ea_ := Option.some.inj (hx43_0.symm.trans hx42_0); injection ea_ with ea_ en_ ec_; subst ea_; subst ec_; clear en_; have ea_ := Option.some.inj (hx43_4.symm.trans hx42_4); injection ea_ with ea_ en_ ec_; subst ea_; subst ec_; clear en_) | (go_at_call 105; (with_reducible refine (spec_l10Copy.calls _ _ ((rd_T57 l0 x7_1).f0) ((rd_T57 l0 x7_1).f1) ((rd_T57 l0 x7_1).f2) ((rd_T57 l0 x7_1).f3) _ _ ((rd_T57 l0 x7_1).f4) t49 t66 t67 t68 t50 _ ?s1 ?s2 ?s3 ?s4 A26.out).mono ?_); (case s1 => exact cC_ (Kd.C_below HR42_0.out (bG_ GE41.out))); (case s2 => exact HC42_0.out); (case s3 => exact cC_ (Kd.C_below HR42_4.out (bG_ GE41.out))); (case s4 => exact HC42_4.out); rintro e w29 ⟨v85, v86, rfl, ho0, ho1, hb⟩; replace HO_5 := A_ (Kd.S_mono (Kd.S_told (Kd.S_told (Kd.S_old (vS_ HO_5.out) hb) (kb_ ho0)) (kb_ ho1)) (fun _ h_ => h_.1)); have HO55 := A_ (Kd.R_lower ho0 (below_size (bG_ GE41.out))); have HO56 := A_ (Kd.R_lower ho1 (below_size (bG_ GE41.out))); replace BK41 := A_ (bw_ BK41.out hb); replace HB := A_ (below_step (bG_ GE41.out) hb); clear hb ho0 ho1; obtain ⟨Ao31, co31, eo31⟩ := Kd.R_slice HO55.out; subst eo31; obtain ⟨Ao32, co32, eo32⟩ := Kd.R_slice HO56.out; subst eo32) | ((with_reducible refine gate_builtin (b := .append) (xs := #[.tmp 42, .tmp 48]) rfl ?_); at_builtin; refine Kd.S_append k57 (w0 := w) w.heap.size rfl (.tmp 42) (.tmp 48) 26 57 (.agg #[(.slice none 0 0), (.bool false), (.string ⟨#[]⟩), (.int .i64 0), (.slice none 0 0)]) 80 rfl Try.underlying26 info57 rfl (by decide) (by omega) u5 x5_11 (⟨t49, t66, t67, t68, t50⟩ : S57) [.slice Ao31 t49.length co31, .bool t66, .string t67, .int .i64 t68, .slice Ao32 t50.length co32] (fun k_ => k_ ≠ gb41) (fun k_ => some k_ = (.slice Ao31 t49.length co31 : Value).ownBlock \/ some k_ = (.slice Ao32 t50.length co32 : Value).ownBlock) rfl rfl ?aP (fun k_ hk_ => hk_.elim (fun h_ => ((Kd.R_mono (ok' := fun k_ => ((fun k_ => k_ ≠ gb41)) k_ /\ some k_ ≠ (u5 : Value).ownBlock) (Kd.R_types (Kd.R_apart' (HO55.out) (Kd.S_typed HO_5.out) (by decide)) BK41.out (by decide)) (fun k_ hk => ⟨hk.2, hk.1.2⟩))).1 k_ h_.symm) (fun h_ => ((Kd.R_mono (ok' := fun k_ => ((fun k_ => k_ ≠ gb41)) k_ /\ some k_ ≠ (u5 : Value).ownBlock) (Kd.R_types (Kd.R_apart' (HO56.out) (Kd.S_typed HO_5.out) (by decide)) BK41.out (by decide)) (fun k_ hk => ⟨hk.2, hk.1.2⟩))).1 k_ h_.symm)) ?aF ?aO ?aB ?aS ?aL ?_; (case aP => exact k57_mkM _ _ _ (⟨t49, t66, t67, t68, t50⟩ : S57) (Kd.R_mono (Kd.R_tight rfl (Kd.R_mono (ok' := fun k_ => ((fun k_ => k_ ≠ gb41)) k_ /\ some k_ ≠ (u5 : Value).ownBlock) (Kd.R_types (Kd.R_apart' (HO55.out) (Kd.S_typed HO_5.out) (by decide)) BK41.out (by decide)) (fun k_ hk => ⟨hk.2, hk.1.2⟩))) (fun _ h_ => Or.inl h_)) (Kd.R_mono (Kd.R_tight rfl (Kd.R_mono (ok' := fun k_ => ((fun k_ => k_ ≠ gb41)) k_ /\ some k_ ≠ (u5 : Value).ownBlock) (Kd.R_types (Kd.R_apart' (HO56.out) (Kd.S_typed HO_5.out) (by decide)) BK41.out (by decide)) (fun k_ hk => ⟨hk.2, hk.1.2⟩))) (fun _ h_ => Or.inr (h_)))); (case aB => exact (bG_ GE41.out)); (case aF => exact (fun k_ hk => Kd.freshB (g := gb41) (o := .cells #[.slice A1_0 l1_0.length c1_0, .bool a1_1, .string a1_2, .int .i64 a1_3, .slice A1_4 l1_4.length c1_4] 57 (0, 0)) (vb_ BK41.out) k_ hk)); (case aO => exact (by (with_reducible repeat (first | apply Kd.S_alloc | apply Kd.S_drewN | apply Kd.S_drew)); exact Kd.S_mono HO_5.out (fun k_ hk => ⟨hk.1.1, fun e_ => e_.elim (fun h_ => hk.1.2 h_) (fun h_ => hk.2 h_)⟩))); (case aS => exact (below_size (bG_ GE41.out))); (case aL => have := LMc27.out; omega); intro v87 w30 ho hb hg hat; rw [← Ny70.out] at ho; replace BK41 := A_ (blk_grown (g := gb41) (o := .cells #[.slice A1_0 l1_0.length c1_0, .bool a1_1, .string a1_2, .int .i64 a1_3, .slice A1_4 l1_4.length c1_4] 57 (0, 0)) (vb_ BK41.out) hg (Kd.S_away HO_5.out (fun _ hk => hk.1.1))); replace HB := A_ (hb); have HO77 := A_ (ho); clear HO_5 HO55 HO56; clear ho hb hg hat)); try go_wp2_with (first | (go_at_call 104; (with_reducible refine (spec_SamePath.calls kj11 _ _ ((rd_T57 l0 x7_1).f0) _ _ l1_0 false _ ?s1 ?s2 ?s3 ?s4 A23.out).mono ?_); (case s1 => exact cC_ (Kd.C_below HR43_0.out HB.out)); (case s2 => exact HC43_0.out); (case s3 => exact cC_ (Kd.C_below HR1_0.out HB.out)); (case s4 => exact HC1_0.out); rintro e w' ⟨rfl, ⟨nd, rfl⟩⟩; (try first | exact ⟨rfl, _, World.drewN_drewN _ _ _⟩ | exact ⟨rfl, _, Eq.trans (World.drewN_drewN _ _ _) (congrArg (World.drewN _) (Nat.add_assoc _ _ _))⟩); have p42 : 0 <= (x7_1 : Int) := od_; have q42 : x7_1 < (l0.length : Int) := od_; obtain ⟨ad42, A42_0, c42_0, A42_4, c42_4, e42, hx42_0, hx42_1, hx42_2, hx42_3, hx42_4, hl42_0, hi42_0, hl42_4, hi42_4⟩ := at_T57 HR0.out x7_1 p42 q42; obtain rfl : ad43 = ad42 := (by injection e42); replace hx42_0 := bc_ HB.out hx42_0; replace hx42_1 := bc_ HB.out hx42_1; replace hx42_2 := bc_ HB.out hx42_2; replace hx42_3 := bc_ HB.out hx42_3; replace hx42_4 := bc_ HB.out hx42_4; have HR42_0 := A_ hi42_0; have HC42_0 := A_ hl42_0; clear hi42_0 hl42_0; have HR42_4 := A_ hi42_4; have HC42_4 := A_ hl42_4; clear hi42_4 hl42_4; replace p42 := eq_true p42; replace q42 := eq_true q42; have ea_ := Option.some.inj (hx43_0.symm.trans hx42_0); injection ea_ with ea_ en_ ec_; subst ea_; subst ec_; clear en_; have ea_ := Option.some.inj (hx43_4.symm.trans hx42_4); injection ea_ with ea_ en_ ec_; subst ea_; subst ec_; clear en_) | (go_at_call 105; (with_reducible refine (spec_l10Copy.calls _ _ ((rd_T57 l0 x7_1).f0) ((rd_T57 l0 x7_1).f1) ((rd_T57 l0 x7_1).f2) ((rd_T57 l0 x7_1).f3) _ _ ((rd_T57 l0 x7_1).f4) t49 t66 t67 t68 t50 _ ?s1 ?s2 ?s3 ?s4 A26.out).mono ?_); (case s1 => exact cC_ (Kd.C_below HR42_0.out (bG_ GE41.out))); (case s2 => exact HC42_0.out); (case s3 => exact cC_ (Kd.C_below HR42_4.out (bG_ GE41.out))); (case s4 => exact HC42_4.out); rintro e w29 ⟨v85, v86, rfl, ho0, ho1, hb⟩; replace HO_5 := A_ (Kd.S_mono (Kd.S_told (Kd.S_told (Kd.S_old (vS_ HO_5.out) hb) (kb_ ho0)) (kb_ ho1)) (fun _ h_ => h_.1)); have HO55 := A_ (Kd.R_lower ho0 (below_size (bG_ GE41.out))); have HO56 := A_ (Kd.R_lower ho1 (below_size (bG_ GE41.out))); replace BK41 := A_ (bw_ BK41.out hb); replace HB := A_ (below_step (bG_ GE41.out) hb); clear hb ho0 ho1; obtain ⟨Ao31, co31, eo31⟩ := Kd.R_slice HO55.out; subst eo31; obtain ⟨Ao32, co32, eo32⟩ := Kd.R_slice HO56.out; subst eo32) | ((with_reducible refine gate_builtin (b := .append) (xs := #[.tmp 42, .tmp 48]) rfl ?_); at_builtin; refine Kd.S_append k57 (w0 := w) w.heap.size rfl (.tmp 42) (.tmp 48) 26 57 (.agg #[(.slice none 0 0), (.bool false), (.string ⟨#[]⟩), (.int .i64 0), (.slice none 0 0)]) 80 rfl Try.underlying26 info57 rfl (by decide) (by omega) u5 x5_11 (⟨t49, t66, t67, t68, t50⟩ : S57) [.slice Ao31 t49.length co31, .bool t66, .string t67, .int .i64 t68, .slice Ao32 t50.length co32] (fun k_ => k_ ≠ gb41) (fun k_ => some k_ = (.slice Ao31 t49.length co31 : Value).ownBlock \/ some k_ = (.slice Ao32 t50.length co32 : Value).ownBlock) rfl rfl ?aP (fun k_ hk_ => hk_.elim (fun h_ => ((Kd.R_mono (ok' := fun k_ => ((fun k_ => k_ ≠ gb41)) k_ /\ some k_ ≠ (u5 : Value).ownBlock) (Kd.R_types (Kd.R_apart' (HO55.out) (Kd.S_typed HO_5.out) (by decide)) BK41.out (by decide)) (fun k_ hk => ⟨hk.2, hk.1.2⟩))).1 k_ h_.symm) (fun h_ => ((Kd.R_mono (ok' := fun k_ => ((fun k_ => k_ ≠ gb41)) k_ /\ some k_ ≠ (u5 : Value).ownBlock) (Kd.R_types (Kd.R_apart' (HO56.out) (Kd.S_typed HO_5.out) (by decide)) BK41.out (by decide)) (fun k_ hk => ⟨hk.2, hk.1.2⟩))).1 k_ h_.symm)) ?aF ?aO ?aB ?aS ?aL ?_; (case aP => exact k57_mkM _ _ _ (⟨t49, t66, t67, t68, t50⟩ : S57) (Kd.R_mono (Kd.R_tight rfl (Kd.R_mono (ok' := fun k_ => ((fun k_ => k_ ≠ gb41)) k_ /\ some k_ ≠ (u5 : Value).ownBlock) (Kd.R_types (Kd.R_apart' (HO55.out) (Kd.S_typed HO_5.out) (by decide)) BK41.out (by decide)) (fun k_ hk => ⟨hk.2, hk.1.2⟩))) (fun _ h_ => Or.inl h_)) (Kd.R_mono (Kd.R_tight rfl (Kd.R_mono (ok' := fun k_ => ((fun k_ => k_ ≠ gb41)) k_ /\ some k_ ≠ (u5 : Value).ownBlock) (Kd.R_types (Kd.R_apart' (HO56.out) (Kd.S_typed HO_5.out) (by decide)) BK41.out (by decide)) (fun k_ hk => ⟨hk.2, hk.1.2⟩))) (fun _ h_ => Or.inr (h_)))); (case aB => exact (bG_ GE41.out)); (case aF => exact (fun k_ hk => Kd.freshB (g := gb41) (o := .cells #[.slice A1_0 l1_0.length c1_0, .bool a1_1, .string a1_2, .int .i64 a1_3, .slice A1_4 l1_4.length c1_4] 57 (0, 0)) (vb_ BK41.out) k_ hk)); (case aO => exact (by (with_reducible repeat (first | apply Kd.S_alloc | apply Kd.S_drewN | apply Kd.S_drew)); exact Kd.S_mono HO_5.out (fun k_ hk => ⟨hk.1.1, fun e_ => e_.elim (fun h_ => hk.1.2 h_) (fun h_ => hk.2 h_)⟩))); (case aS => exact (below_size (bG_ GE41.out))); (case aL => have := LMc27.out; omega); intro v87 w30 ho hb hg hat; rw [← Ny70.out] at ho; replace BK41 := A_ (blk_grown (g := gb41) (o := .cells #[.slice A1_0 l1_0.length c1_0, .bool a1_1, .string a1_2, .int .i64 a1_3, .slice A1_4 l1_4.length c1_4] 57 (0, 0)) (vb_ BK41.out) hg (Kd.S_away HO_5.out (fun _ hk => hk.1.1))); replace HB := A_ (hb); have HO77 := A_ (ho); clear HO_5 HO55 HO56; clear ho hb hg hat)))
         go_roundg kj11
         case measure => have := HK1.out; have := HJ6.out; have := HJ11.out; omega
         case rel => exact ⟨(y70), (x6_11), (wrap64 (x7_1 + 1)), rs_, rs_, H', ⟨by have := HK1.out; have := HJ6.out; have := HJ11.out; omega⟩, ⟨vS_ HO77.out⟩, ⟨vb_ BK41.out⟩, ⟨bG_ GE41.out⟩⟩
mutual
def spec_MakeColl.j1 : Nat -> List (S57) -> List ByteArray -> Int -> Int -> Option ((List (S57)) × Int)
 | 0, _, _, _, _ => none
 | k + 1, x0, x1, x2, x8 => if x8 = 0 then ((spec_l11Put.f k x0 x1 true (⟨#[]⟩ : ByteArray) x2 ([] : List (S72))).bind fun t514 => (some (t514, 201))) else ((spec_l10CopyAll.f k x0).bind fun t517 => (some (t517, x8)))
def spec_MakeColl.j0 : Nat -> List (S57) -> List ByteArray -> Int -> Int -> Bool -> Option ((List (S57)) × Int)
 | 0, _, _, _, _, _ => none
 | k + 1, x0, x1, x2, x8, x16 => if x16 = true then (spec_MakeColl.j1 k x0 x1 x2 405) else ((spec_Above.f x1).bind fun t510 => ((spec_IsColl.f k x0 t510).bind fun t513 => (if t513 = true then (if (x0.length : Int) >= 12 then (spec_MakeColl.j1 k x0 x1 x2 507) else (spec_MakeColl.j1 k x0 x1 x2 x8)) else (spec_MakeColl.j1 k x0 x1 x2 409))))
end
def spec_MakeColl.f (k : Nat) (l0 : List (S57)) (l1 : List ByteArray) (a2 : Int) : Option ((List (S57)) × Int) := (spec_l11May.f k l0 l1 a2).bind fun t508 => (if t508 = 0 then (if (l1.length : Int) = 0 then (spec_MakeColl.j0 k l0 l1 a2 t508 true) else ((spec_FindRes.f k l0 l1).bind fun t509 => (spec_MakeColl.j0 k l0 l1 a2 t508 (decide (t509 >= 0))))) else (spec_MakeColl.j1 k l0 l1 a2 t508))
theorem spec_MakeColl.calls (k : Nat) (P0_ : Nat -> Prop) (A0 : Option Addr) (c0 : Nat) (l0 : List (S57)) (P1_ : Nat -> Prop) (A1 : Option Addr) (c1 : Nat) (l1 : List ByteArray) (a2 : Int) (r1 : List (S57)) (r2 : Int) (w : World) (hs0 : Kd.V k57 57 w w.heap.size (fun k_ => P0_ k_) (.slice A0 l0.length c0) l0) (hs1 : Kd.V Kd.string 9 w w.heap.size (fun k_ => P1_ k_) (.slice A1 l1.length c1) l1) (h : spec_MakeColl.f k l0 l1 a2 = some (r1, r2)) :
 Calls Try.prog 24 #[.slice A0 l0.length c0, .slice A1 l1.length c1, .int .i64 a2] w fun e w' => ∃ v0_ : Value, e = .returned (.tuple #[v0_, .int .i64 r2]) /\ Kd.S k57 57 w' w.heap.size (fun k_ => (w.heap.size <= k_)) v0_ r1 /\ Below w.heap.size w w' := by
 have hu57 := Try.underlying57
 have HO0 := A_ (show Kd.V k57 57 w w.heap.size (fun k_ => ((P0_ k_ \/ P1_ k_) \/ w.heap.size <= k_)) (.slice A0 l0.length c0) l0 from Kd.V_mono hs0 (fun k_ hk => .inl (.inl hk)))
 have HO1 := A_ (show Kd.V Kd.string 9 w w.heap.size (fun k_ => ((P0_ k_ \/ P1_ k_) \/ w.heap.size <= k_)) (.slice A1 l1.length c1) l1 from Kd.V_mono hs1 (fun k_ hk => .inl (.inr hk)))
 have HB := A_ (Below.refl w.heap.size w)
 have H : ((spec_l11May.f k l0 l1 a2).bind fun t28 => (if t28 = 0 then (if (l1.length : Int) = 0 then (spec_MakeColl.j0 k l0 l1 a2 t28 true) else ((spec_FindRes.f k l0 l1).bind fun t30 => (spec_MakeColl.j0 k l0 l1 a2 t28 (decide (t30 >= 0))))) else (spec_MakeColl.j1 k l0 l1 a2 t28))) = some (r1, r2) := h
 clear h
 obtain ⟨t28, A4, H⟩ := bo_ H
 (try dsimp only at H)
 have HC5 := A_ H
 clear H
 go_enter Try.func24, Try.ntmps24
 go_upto_block 0 with (first | ((with_reducible refine gc_ (f := 60) rfl ?_); refine gL_ (some 12) Try.func60 #[.slice A0 l0.length c0, .slice A1 l1.length c1, .int .i64 a2] ?_; (with_reducible refine (spec_l11May.calls k _ _ l0 _ _ l1 a2 t28 _ ?s1 ?s2 ?s3 ?s4 A4.out).mono ?_); (case s1 => exact cC_ (Kd.V_reads' HO0.out).2.2); (case s2 => exact (Kd.V_reads' HO0.out).2.1); (case s3 => exact cC_ (Kd.V_reads' HO1.out).2.2); (case s4 => exact (Kd.V_reads' HO1.out).2.1); rintro e w6 ⟨rfl, hb⟩; refine ⟨_, rfl, ?_⟩; replace HO0 := A_ (Kd.V_below (vV_ HO0.out) hb); replace HO1 := A_ (Kd.V_below (vV_ HO1.out) hb); replace HB := A_ (below_step bB_ hb); clear hb))
 (try simp only [Act.put, List.setIfInBounds_toArray, List.set_cons_zero, List.set_cons_succ])
 go_cut [8] (fun v8 wc => ∃ (kq : Nat) (x8_4 : Int), v8 = .int .i64 x8_4 /\ Aside0 (spec_MakeColl.j1 kq l0 l1 a2 x8_4 = some (r1, r2)) /\ Aside0 (kq <= k) /\ Aside0 (Kd.V k57 57 wc w.heap.size (fun k_ => ((P0_ k_ \/ P1_ k_) \/ w.heap.size <= k_)) (.slice A0 l0.length c0) l0) /\ Aside0 (Kd.V Kd.string 9 wc w.heap.size (fun k_ => ((P0_ k_ \/ P1_ k_) \/ w.heap.size <= k_)) (.slice A1 l1.length c1) l1) /\ Aside0 (Below w.heap.size w wc))
 case first =>
  have H := HC5.out
  clear HC5
  by_cases c7 : t28 = 0
  rotate_left
  . rw [if_neg c7] at H
    obtain ⟨c7b0, c7b1⟩ := eF_ c7
    (first | rw [c7b0] | (simp only [i64_w, i32_w]; rw [c7b0]) | skip)
    have H' := A_ H
    clear H
    go_wp2
    go_meet
    case rel => exact ⟨_, (t28), rs_, H', ⟨by first | omega | exact Nat.le_refl _⟩, ⟨vV_ HO0.out⟩, ⟨vV_ HO1.out⟩, ⟨bB_⟩⟩
  rw [if_pos c7] at H
  obtain ⟨c7b0, c7b1⟩ := eT_ c7
  clear c7
  (first | rw [c7b0] | (simp only [i64_w, i32_w]; rw [c7b0]) | skip)
  have HC8 := A_ H
  clear H
  go_upto_region 3 with (fail)
  go_cut [16] (fun v16 wc => ∃ (kq : Nat) (x16_7 : Bool), v16 = .bool x16_7 /\ Aside0 (spec_MakeColl.j0 kq l0 l1 a2 t28 x16_7 = some (r1, r2)) /\ Aside0 (kq <= k) /\ Aside0 (Kd.V k57 57 wc w.heap.size (fun k_ => ((P0_ k_ \/ P1_ k_) \/ w.heap.size <= k_)) (.slice A0 l0.length c0) l0) /\ Aside0 (Kd.V Kd.string 9 wc w.heap.size (fun k_ => ((P0_ k_ \/ P1_ k_) \/ w.heap.size <= k_)) (.slice A1 l1.length c1) l1) /\ Aside0 (Below w.heap.size w wc))
  case first =>
   have H := HC8.out
   clear HC8
   by_cases c9 : (l1.length : Int) = 0
   . rw [if_pos c9] at H
     obtain ⟨c9b0, c9b1⟩ := eT_ c9
     clear c9
     (first | rw [c9b0] | (simp only [i64_w, i32_w]; rw [c9b0]) | skip)
     have H' := A_ H
     clear H
     go_wp2
     go_meet
     case rel => exact ⟨_, (true), rs_, H', ⟨by first | omega | exact Nat.le_refl _⟩, ⟨vV_ HO0.out⟩, ⟨vV_ HO1.out⟩, ⟨bB_⟩⟩
   rw [if_neg c9] at H
   obtain ⟨c9b0, c9b1⟩ := eF_ c9
   have c9b2 : ¬ (l1 = []) := fun h_ => c9 (by rw [h_]; rfl)
   (first | rw [c9b0] | (simp only [i64_w, i32_w]; rw [c9b0]) | skip)
   obtain ⟨t30, A10, H⟩ := bo_ H
   (try dsimp only at H)
   have H' := A_ H
   clear H
   go_wp2_with (first | (go_at_call 61; (with_reducible refine (spec_FindRes.calls k _ _ l0 _ _ l1 t30 _ ?s1 ?s2 ?s3 ?s4 A10.out).mono ?_); (case s1 => exact cC_ (Kd.V_reads' HO0.out).2.2); (case s2 => exact (Kd.V_reads' HO0.out).2.1); (case s3 => exact cC_ (Kd.V_reads' HO1.out).2.2); (case s4 => exact (Kd.V_reads' HO1.out).2.1); rintro e w' ⟨rfl, ⟨nd, rfl⟩⟩))
   go_meet
   case rel => exact ⟨_, (decide (t30 >= 0)), rs_, H', ⟨by first | omega | exact Nat.le_refl _⟩, ⟨vV_ HO0.out⟩, ⟨vV_ HO1.out⟩, ⟨bB_⟩⟩
  case rest =>
   clear HC8
   try clear c1
   try clear c7
   try clear c7b0
   try clear c7b1
   obtain ⟨kq, x16_7, rfl, HA, HJ7, HO_0, HO_1, HB⟩ := hcut
   cases kq with
   | zero => exact absurd HA.out (by simp [spec_MakeColl.j0])
   | succ kj7 =>
    have H := HA.out
    clear HA
    simp only [spec_MakeColl.j0] at H
    by_cases c11 : x16_7 = true
    . subst c11
      rw [if_pos rfl] at H
      have H' := A_ H
      clear H
      go_wp2
      go_meet
      case rel => exact ⟨_, (405), rs_, H', ⟨by have := HJ7.out; first | omega | exact Nat.le_refl _⟩, ⟨vV_ HO_0.out⟩, ⟨vV_ HO_1.out⟩, ⟨bB_⟩⟩
    . replace c11 := Bool.eq_false_iff.mpr c11
      subst c11
      rw [if_neg nf_] at H
      obtain ⟨t29, A12, H⟩ := bo_ H
      (try dsimp only at H)
      obtain ⟨t33, A13, H⟩ := bo_ H
      (try dsimp only at H)
      by_cases c14 : t33 = true
      . subst c14
        rw [if_pos rfl] at H
        by_cases c15 : (l0.length : Int) >= 12
        . rw [if_pos c15] at H
          have c15b0 : decide (12 <= (l0.length : Int)) = true := decide_eq_true c15
          have c15b1 : decide (12 <= l0.length) = true := decide_eq_true (by omega)
          clear c15
          have H' := A_ H
          clear H
          go_wp2_with (first | ((with_reducible refine gc_ (f := 74) rfl ?_); refine gL_ (some 29) Try.func74 #[.slice A1 l1.length c1] ?_; (with_reducible refine (spec_Above.calls _ _ l1 t29 _ ?s1 ?s2 A12.out).mono ?_); (case s1 => exact cC_ (Kd.V_reads' HO_1.out).2.2); (case s2 => exact (Kd.V_reads' HO_1.out).2.1); rintro e w16 ⟨v31, rfl, ho0, hb⟩; refine ⟨_, rfl, ?_⟩; replace HO_0 := A_ (Kd.V_elder' (vV_ HO_0.out) (kb_ ho0) hb); replace HO_1 := A_ (Kd.V_elder' (vV_ HO_1.out) (kb_ ho0) hb); have HO27 := A_ (Kd.R_lower (Kd.R_newM (M := fun k_ => (w.heap.size <= k_)) ho0 (below_size bB_) (fun k_ h_ => h_)) (below_size bB_)); replace HB := A_ (below_step bB_ hb); clear hb ho0; obtain ⟨Ao17, co17, eo17⟩ := Kd.R_slice HO27.out; subst eo17) | ((with_reducible refine gc_ (f := 73) rfl ?_); refine gL_ (some 30) Try.func73 #[.slice A0 l0.length c0, .slice Ao17 t29.length co17] ?_; (with_reducible refine (spec_IsColl.calls kj7 _ _ l0 _ _ t29 true _ ?s1 ?s2 ?s3 ?s4 A13.out).mono ?_); (case s1 => exact cC_ (Kd.V_reads' HO_0.out).2.2); (case s2 => exact (Kd.V_reads' HO_0.out).2.1); (case s3 => exact cC_ (Kd.R_reads' HO27.out).2.2); (case s4 => exact (Kd.R_reads' HO27.out).2.1); rintro e w' ⟨rfl, ⟨nd, rfl⟩⟩; refine ⟨_, rfl, ?_⟩))
          go_meet
          case rel => exact ⟨_, (507), rs_, H', ⟨by have := HJ7.out; first | omega | exact Nat.le_refl _⟩, ⟨by (with_reducible repeat (first | apply Kd.V_alloc | apply Kd.V_drewN | apply Kd.V_drew)); exact Kd.V_mono HO_0.out (fun _ hk => hk.1)⟩, ⟨by (with_reducible repeat (first | apply Kd.V_alloc | apply Kd.V_drewN | apply Kd.V_drew)); exact Kd.V_mono HO_1.out (fun _ hk => hk.1)⟩, ⟨bB_⟩⟩
        rw [if_neg c15] at H
        have c15b0 : decide (12 <= (l0.length : Int)) = false := decide_eq_false c15
        have c15b1 : decide (12 <= l0.length) = false := decide_eq_false (by omega)
        clear c15
        have H' := A_ H
        clear H
        go_wp2_with (first | ((with_reducible refine gc_ (f := 74) rfl ?_); refine gL_ (some 29) Try.func74 #[.slice A1 l1.length c1] ?_; (with_reducible refine (spec_Above.calls _ _ l1 t29 _ ?s1 ?s2 A12.out).mono ?_); (case s1 => exact cC_ (Kd.V_reads' HO_1.out).2.2); (case s2 => exact (Kd.V_reads' HO_1.out).2.1); rintro e w18 ⟨v31, rfl, ho0, hb⟩; refine ⟨_, rfl, ?_⟩; replace HO_0 := A_ (Kd.V_elder' (vV_ HO_0.out) (kb_ ho0) hb); replace HO_1 := A_ (Kd.V_elder' (vV_ HO_1.out) (kb_ ho0) hb); have HO27 := A_ (Kd.R_lower (Kd.R_newM (M := fun k_ => (w.heap.size <= k_)) ho0 (below_size bB_) (fun k_ h_ => h_)) (below_size bB_)); replace HB := A_ (below_step bB_ hb); clear hb ho0; obtain ⟨Ao19, co19, eo19⟩ := Kd.R_slice HO27.out; subst eo19) | ((with_reducible refine gc_ (f := 73) rfl ?_); refine gL_ (some 30) Try.func73 #[.slice A0 l0.length c0, .slice Ao19 t29.length co19] ?_; (with_reducible refine (spec_IsColl.calls kj7 _ _ l0 _ _ t29 true _ ?s1 ?s2 ?s3 ?s4 A13.out).mono ?_); (case s1 => exact cC_ (Kd.V_reads' HO_0.out).2.2); (case s2 => exact (Kd.V_reads' HO_0.out).2.1); (case s3 => exact cC_ (Kd.R_reads' HO27.out).2.2); (case s4 => exact (Kd.R_reads' HO27.out).2.1); rintro e w' ⟨rfl, ⟨nd, rfl⟩⟩; refine ⟨_, rfl, ?_⟩))
        go_meet
        case rel => exact ⟨_, (t28), rs_, H', ⟨by have := HJ7.out; first | omega | exact Nat.le_refl _⟩, ⟨by (with_reducible repeat (first | apply Kd.V_alloc | apply Kd.V_drewN | apply Kd.V_drew)); exact Kd.V_mono HO_0.out (fun _ hk => hk.1)⟩, ⟨by (with_reducible repeat (first | apply Kd.V_alloc | apply Kd.V_drewN | apply Kd.V_drew)); exact Kd.V_mono HO_1.out (fun _ hk => hk.1)⟩, ⟨bB_⟩⟩
      . replace c14 := Bool.eq_false_iff.mpr c14
        subst c14
        rw [if_neg nf_] at H
        have H' := A_ H
        clear H
        go_wp2_with (first | ((with_reducible refine gc_ (f := 74) rfl ?_); refine gL_ (some 29) Try.func74 #[.slice A1 l1.length c1] ?_; (with_reducible refine (spec_Above.calls _ _ l1 t29 _ ?s1 ?s2 A12.out).mono ?_); (case s1 => exact cC_ (Kd.V_reads' HO_1.out).2.2); (case s2 => exact (Kd.V_reads' HO_1.out).2.1); rintro e w20 ⟨v31, rfl, ho0, hb⟩; refine ⟨_, rfl, ?_⟩; replace HO_0 := A_ (Kd.V_elder' (vV_ HO_0.out) (kb_ ho0) hb); replace HO_1 := A_ (Kd.V_elder' (vV_ HO_1.out) (kb_ ho0) hb); have HO27 := A_ (Kd.R_lower (Kd.R_newM (M := fun k_ => (w.heap.size <= k_)) ho0 (below_size bB_) (fun k_ h_ => h_)) (below_size bB_)); replace HB := A_ (below_step bB_ hb); clear hb ho0; obtain ⟨Ao21, co21, eo21⟩ := Kd.R_slice HO27.out; subst eo21) | ((with_reducible refine gc_ (f := 73) rfl ?_); refine gL_ (some 30) Try.func73 #[.slice A0 l0.length c0, .slice Ao21 t29.length co21] ?_; (with_reducible refine (spec_IsColl.calls kj7 _ _ l0 _ _ t29 false _ ?s1 ?s2 ?s3 ?s4 A13.out).mono ?_); (case s1 => exact cC_ (Kd.V_reads' HO_0.out).2.2); (case s2 => exact (Kd.V_reads' HO_0.out).2.1); (case s3 => exact cC_ (Kd.R_reads' HO27.out).2.2); (case s4 => exact (Kd.R_reads' HO27.out).2.1); rintro e w' ⟨rfl, ⟨nd, rfl⟩⟩; refine ⟨_, rfl, ?_⟩))
        go_meet
        case rel => exact ⟨_, (409), rs_, H', ⟨by have := HJ7.out; first | omega | exact Nat.le_refl _⟩, ⟨by (with_reducible repeat (first | apply Kd.V_alloc | apply Kd.V_drewN | apply Kd.V_drew)); exact Kd.V_mono HO_0.out (fun _ hk => hk.1)⟩, ⟨by (with_reducible repeat (first | apply Kd.V_alloc | apply Kd.V_drewN | apply Kd.V_drew)); exact Kd.V_mono HO_1.out (fun _ hk => hk.1)⟩, ⟨bB_⟩⟩
 case rest =>
  clear HC5
  try clear c1
  obtain ⟨kq, x8_4, rfl, HA, HJ4, HO_0, HO_1, HB⟩ := hcut
  cases kq with
  | zero => exact absurd HA.out (by simp [spec_MakeColl.j1])
  | succ kj4 =>
   have H := HA.out
   clear HA
   simp only [spec_MakeColl.j1] at H
   by_cases c22 : x8_4 = 0
   rotate_left
   . rw [if_neg c22] at H
     obtain ⟨c22b0, c22b1⟩ := eF_ c22
     obtain ⟨t34, A25, H⟩ := bo_ H
     (try dsimp only at H)
     simp only [Option.some.injEq, Prod.mk.injEq] at H
     obtain ⟨rfl, rfl⟩ := H
     go_wp2_with (first | ((with_reducible refine gc_ (f := 62) rfl ?_); refine gL_ (some 39) Try.func62 #[.slice A0 l0.length c0] ?_; (with_reducible refine (spec_l10CopyAll.calls kj4 _ _ l0 t34 _ ?s1 ?s2 A25.out).mono ?_); (case s1 => exact cC_ (Kd.V_reads' HO_0.out).2.2); (case s2 => exact (Kd.V_reads' HO_0.out).2.1); rintro e w26 ⟨v38, rfl, ho0, hb⟩; refine ⟨_, rfl, ?_⟩; have HO35 := A_ (Kd.S_lower (Kd.S_newM (M := fun k_ => (w.heap.size <= k_)) ho0 (below_size bB_) (fun k_ h_ => h_)) (below_size bB_)); replace HB := A_ (below_step bB_ hb); clear hb ho0))
     go_ret2
     exact ⟨_, rr_, by (with_reducible repeat (first | apply Kd.S_alloc | apply Kd.S_drewN | apply Kd.S_drew)); exact Kd.S_mono HO35.out (fun _ hk => hk.1), bB_⟩
   rw [if_pos c22] at H
   obtain ⟨c22b0, c22b1⟩ := eT_ c22
   clear c22
   obtain ⟨t36, A23, H⟩ := bo_ H
   (try dsimp only at H)
   simp only [Option.some.injEq, Prod.mk.injEq] at H
   obtain ⟨rfl, rfl⟩ := H
   go_wp2_with (first | ((with_reducible refine gc_ (f := 75) rfl ?_); refine gL_ (some 45) Try.func75 #[.slice A0 l0.length c0, .agg #[.slice A1 l1.length c1, .bool true, .string (⟨#[]⟩ : ByteArray), .int .i64 a2, .slice none 0 0]] ?_; (refine (spec_l11Put.calls kj4 _ _ l0 _ _ l1 true (⟨#[]⟩ : ByteArray) a2 _ _ ([] : List (S72)) t36 _ ?s1 ?s2 ?s3 ?s4 ?s5 ?s6 A23.out).mono ?_); (case s1 => exact cC_ (Kd.V_reads' HO_0.out).2.2); (case s2 => exact (Kd.V_reads' HO_0.out).2.1); (case s3 => exact cC_ (Kd.V_reads' HO_1.out).2.2); (case s4 => exact (Kd.V_reads' HO_1.out).2.1); (case s5 => exact Kd.C_nil _ _); (case s6 => exact Nat.le_refl _); rintro e w24 ⟨v39, rfl, ho0, hb⟩; refine ⟨_, rfl, ?_⟩; have HO37 := A_ (Kd.S_lower (Kd.S_newM (M := fun k_ => (w.heap.size <= k_)) ho0 (below_size bB_) (fun k_ h_ => h_)) (below_size bB_)); replace HB := A_ (below_step bB_ hb); clear hb ho0))
   go_ret2
   exact ⟨_, rr_, by (with_reducible repeat (first | apply Kd.S_alloc | apply Kd.S_drewN | apply Kd.S_drew)); exact Kd.S_mono HO37.out (fun _ hk => hk.1), bB_⟩
set_option maxHeartbeats 8000000
set_option maxRecDepth 100000
def spec_PutFile.j0 : Nat -> List (S57) -> List ByteArray -> ByteArray -> Int -> Int -> Int -> Option ((List (S57)) × Int)
 | 0, _, _, _, _, _, _ => none
 | k + 1, x0, x1, x2, x3, x10, x11 => if x10 = 0 then (if x11 < 0 then ((spec_l11Put.f k x0 x1 false x2 x3 ([] : List (S72))).bind fun t627 => (some (t627, 201))) else (if 0 <= x11 then (if x11 < (x0.length : Int) then ((spec_l11Put.f k x0 x1 false x2 x3 ((rd_T57 x0 x11).f4)).bind fun t631 => (some (t631, 204))) else (none)) else (none))) else ((spec_l10CopyAll.f k x0).bind fun t623 => (some (t623, x10)))
def spec_PutFile.f (k : Nat) (l0 : List (S57)) (l1 : List ByteArray) (a2 : ByteArray) (a3 : Int) : Option ((List (S57)) × Int) := (spec_l11May.f k l0 l1 a3).bind fun t616 => ((spec_FindRes.f k l0 l1).bind fun t617 => (if t616 = 0 then ((spec_IsColl.f k l0 l1).bind fun t618 => (if t618 = true then (spec_PutFile.j0 k l0 l1 a2 a3 405 t617) else ((spec_Above.f l1).bind fun t619 => ((spec_IsColl.f k l0 t619).bind fun t622 => (if t622 = true then (if (a2.size : Int) > 200 then (spec_PutFile.j0 k l0 l1 a2 a3 413 t617) else (if t617 < 0 then (if (l0.length : Int) >= 12 then (spec_PutFile.j0 k l0 l1 a2 a3 507 t617) else (spec_PutFile.j0 k l0 l1 a2 a3 t616 t617)) else (spec_PutFile.j0 k l0 l1 a2 a3 t616 t617))) else (spec_PutFile.j0 k l0 l1 a2 a3 409 t617)))))) else (spec_PutFile.j0 k l0 l1 a2 a3 t616 t617)))
end Go.Proofs.Ytbgggcgjijljkaa.Q

/- Rows whose elements' rows lie apart (S): their tags told anew; one appended to the other, or a part of one. No condition. -/
set_option linter.unusedSimpArgs false
set_option linter.unusedVariables false
namespace Go.Proofs.Ytbgggcgjijljkaa.Q
open Go.RowKit Go.Proofs.YtbgggcgjijljkaaW.PrintWords Go.Proofs.YtbgggcgjijljkaaW.PrintLast
namespace SR
section
variable {α : Type} {d : Kd α} {e n c base : Nat} {ok okp : Nat -> Prop} {w W : World} {v : Value} {A : Option Addr} {f : Nat -> Nat}
open Classical in
theorem S_of_tags {zs : List (α × Nat)} (h : (Kd.tag f d).R e w base ok v zs) (hn : ∀ (i j : Nat) (x y : α × Nat), zs[i]? = some x -> zs[j]? = some y -> x.2 = y.2 -> i = j) : Kd.S d e w base ok v (zs.map Prod.fst) := by
  obtain ⟨h0, inner, ho, hr⟩ := h
  refine ⟨fun k => if h : ∃ (j : Nat) (x : α × Nat), zs[j]? = some x /\ x.2 = f k then h.choose else 0, h0, inner, by rw [List.length_zipIdx, List.length_map]; exact ho, by rw [List.length_zipIdx, List.length_map]; exact hr.1, fun j p hj => ?_⟩
  rw [List.getElem?_zipIdx, Nat.zero_add, List.getElem?_map] at hj
  obtain ⟨x, hx, rfl⟩ := Option.map_eq_some_iff.1 hj
  obtain ⟨z, hz, rfl⟩ := Option.map_eq_some_iff.1 hx
  refine d.M_mono (fun k hk => ⟨hk.1, ?_⟩) (hr.2 j z hz)
  have h : ∃ (j : Nat) (x : α × Nat), zs[j]? = some x /\ x.2 = f k := ⟨j, z, hz, hk.2.symm⟩
  obtain ⟨x, h1, h2⟩ := h.choose_spec
  exact (dif_pos h).trans (hn _ _ x z h1 hz (h2.trans hk.2))
end
section
variable {P : Program} {ops : Array Oper} {rest : List Oper} {o : Oper} {a : Act} {Q : Exit -> Act -> World -> Prop} {Kc : Act -> World -> Prop} {α : Type}
end
def fixT {α : Type} (f : Nat -> Nat) (w : World) (base : Nat) (okM : Nat -> Prop) (d : Kd α) : Kd (α × Nat) where
  sz := d.sz
  E := []
  K := fun W x cs => d.K W x.1 cs /\ (Kd.tag f d).M w base okM x cs
  M := fun _ _ _ _ _ => False
  K_len := fun h => d.K_len h.1
  K_one := fun h => d.K_one h.1
  K_below := fun hb h => ⟨d.K_below hb h.1, h.2⟩
  K_of_M := fun h => h.elim
  M_mono := fun _ h => h
  M_bound := fun h => h
  M_move := fun _ h => h
  M_lower := fun _ h => h
section
variable {α : Type} {d : Kd α} {e n c base base' : Nat} {ok okM : Nat -> Prop} {w W : World} {v : Value} {A : Option Addr} {f : Nat -> Nat}
theorem F_fix {zs : List (α × Nat)} (h : (Kd.tag f d).R e w base ok (.slice A n c) zs) (hM : ∀ k, ok k -> some k ≠ (Value.slice A n c).ownBlock -> okM k) (hlt : ∀ k, ok k -> k < w.heap.size) : Kd.F (fixT f w base okM d) w ok A n zs := by
  intro W' hW
  obtain ⟨h0, inner, ho, hr⟩ := h
  have hm : ∀ k, ok k -> W'.heap[k]? = w.heap[k]? := fun k hk => hW k hk (hlt k hk)
  have h2 : OwnRow (fun x cs => d.K W' x.1 cs /\ (Kd.tag f d).M w base okM x cs) e d.sz W' base (.slice A n c) zs :=
    ⟨inner, own_move ho (fun k hk => hm k (h0 k hk)), hr.1, fun j p hj => ⟨d.K_of_M (d.M_move (fun k hk => hm k hk.1.1) (hr.2 j p hj)), d.M_mono (fun k hk => ⟨hM k hk.1.1 hk.1.2, hk.2⟩) (hr.2 j p hj)⟩⟩
  obtain ⟨A', c', he, hl, hr2⟩ := OwnRow.reads h2
  injection he with h1 h2 h3
  subst h1 h2 h3
  exact hr2
theorem S_of_fix {zs : List (α × Nat)} (h : Kd.N (fixT f w base okM d) e W base' ok v zs) (hb : Below w.heap.size w W) (h1 : base <= base') (h2 : w.heap.size <= base') (hlt : ∀ k, okM k -> k < w.heap.size) (hn : ∀ (i j : Nat) (x y : α × Nat), zs[i]? = some x -> zs[j]? = some y -> x.2 = y.2 -> i = j) :
    Kd.S d e W base (fun k => okM k \/ w.heap.size <= k) v (zs.map Prod.fst) := by
  obtain ⟨_, rows, hl, ⟨h0, inner, ho, hr⟩, hf⟩ := h
  have hbase : ∀ k, v.ownBlock = some k -> base' <= k := fun k hk => own_base ho k hk
  refine S_of_tags (f := f) (zs := zs) ⟨fun k hk => .inr (Nat.le_trans h2 (hbase k hk)), inner, by rw [← hl]; exact own_weaken ho h1, by rw [← hl]; exact hr.1, fun j z hj => ?_⟩ hn
  have hjl : j < rows.length := by have := (List.getElem?_eq_some_iff.1 hj).1; omega
  have hc := hr.2 j _ (List.getElem?_eq_getElem hjl)
  have hk := (Kd.FK_now (hf j z _ hj (List.getElem?_eq_getElem hjl))).2
  rw [← hc.1] at hk
  refine d.M_mono (fun k hk => ⟨⟨.inl hk.1, fun e_ => ?_⟩, hk.2⟩) (Kd.M_below (d := d) (d.M_mono (fun k hk => hk) hk) hb)
  have := hbase k e_.symm
  have := hlt k hk.1
  omega
theorem FK_fix {ok' : Nat -> Prop} {x : α} {m : Nat} {cs : List Value} (h : Kd.FK d W ok' x cs) (hM : (Kd.tag f d).M w base okM (x, m) cs) : Kd.FK (fixT f w base okM d) W ok' (x, m) cs := fun W' hW => ⟨h W' hW, hM⟩
theorem put_tags {α : Type} (l : List α) (x : α) (n : Nat) : ∀ (i j : Nat) (a b : α × Nat), (([] ++ l.zipIdx.take n) ++ [(x, l.length)] ++ l.zipIdx.drop n)[i]? = some a -> (([] ++ l.zipIdx.take n) ++ [(x, l.length)] ++ l.zipIdx.drop n)[j]? = some b -> a.2 = b.2 -> i = j := by
  have hn : ((([] ++ l.zipIdx.take n) ++ [(x, l.length)] ++ l.zipIdx.drop n).map Prod.snd).Nodup := by
    have h0 : (l.zipIdx.map Prod.snd) = List.range l.length := by
      apply List.ext_getElem?
      intro i
      rw [List.getElem?_map, List.getElem?_zipIdx]
      by_cases h : i < l.length
      . rw [List.getElem?_eq_getElem h]; simp [h]
      . rw [List.getElem?_eq_none (by omega)]; simp [h]
    simp only [List.nil_append, List.map_append, List.map_take, List.map_drop, List.map_cons, List.map_nil, h0]
    rw [List.append_assoc, List.singleton_append]
    have hp : ((List.range l.length).take n ++ l.length :: (List.range l.length).drop n).Perm (l.length :: List.range l.length) := by
      refine List.perm_middle.trans ?_
      rw [List.take_append_drop]
    refine hp.nodup_iff.2 (List.nodup_cons.2 ⟨by simp, List.nodup_range⟩)
  intro i j a b ha hb hab
  have h1 : ((([] ++ l.zipIdx.take n) ++ [(x, l.length)] ++ l.zipIdx.drop n).map Prod.snd)[i]? = some a.2 := by rw [List.getElem?_map, ha]; rfl
  have h2 : ((([] ++ l.zipIdx.take n) ++ [(x, l.length)] ++ l.zipIdx.drop n).map Prod.snd)[j]? = some a.2 := by rw [List.getElem?_map, hb, hab]; rfl
  have hi : i < ((([] ++ l.zipIdx.take n) ++ [(x, l.length)] ++ l.zipIdx.drop n).map Prod.snd).length := (List.getElem?_eq_some_iff.1 h1).1
  exact (List.getElem?_inj hi hn).1 (h1.trans h2.symm)
theorem put_list {α : Type} (l : List α) (x : α) (n : Nat) : ((([] ++ l.zipIdx.take n) ++ [(x, l.length)] ++ l.zipIdx.drop n).map Prod.fst) = (([] ++ l.take n) ++ [x]) ++ l.drop n := by
  have h0 : l.zipIdx.map Prod.fst = l := by
    apply List.ext_getElem?
    intro i
    rw [List.getElem?_map, List.getElem?_zipIdx]
    cases l[i]? <;> rfl
  simp only [List.nil_append, List.map_append, List.map_take, List.map_drop, h0, List.map_cons, List.map_nil]
end
end SR
end Go.Proofs.Ytbgggcgjijljkaa.Q
