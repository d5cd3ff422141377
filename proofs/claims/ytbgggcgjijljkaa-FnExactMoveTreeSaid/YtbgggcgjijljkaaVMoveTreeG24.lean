import Derived.Test.YtbgggcgjijljkaaVMoveTreeG23
set_option maxHeartbeats 8000000
set_option maxRecDepth 100000
namespace Go.Proofs.Ytbgggcgjijljkaa.Q
open Go.RowKit Go.Proofs.YtbgggcgjijljkaaW.PrintWords Go.Proofs.YtbgggcgjijljkaaW.PrintLast Go.Proofs.YtbgggcgjijljkaaW.PrintMore
attribute [local go_sem] max2_int min2_int max_two min_two max_three min_three max_four min_four
set_option linter.unusedVariables false
set_option linter.unusedSimpArgs false
def spec_l11May.f (k : Nat) (l0 : List (S57)) (l1 : List ByteArray) (a2 : Int) : Option (Int) := (spec_TreeOk.f k l0).bind fun t168 => (if t168 = true then ((spec_PathOk.f k l1).bind fun t169 => (if t169 = true then ((spec_l1In.f a2 0 99999).bind fun t170 => (if t170 = true then (some 0) else (some 507))) else (some 400))) else (some 500))
theorem spec_l11May.calls (k : Nat) (A0 : Option Addr) (c0 : Nat) (l0 : List (S57)) (A1 : Option Addr) (c1 : Nat) (l1 : List ByteArray) (a2 : Int) (r : Int) (w : World) (hr0 : Kd.C k57 w A0 l0.length l0) (hc0 : l0.length <= c0) (hr1 : Kd.C Kd.string w A1 l1.length l1) (hc1 : l1.length <= c1) (h : spec_l11May.f k l0 l1 a2 = some r) :
 Calls Try.prog 60 #[.slice A0 l0.length c0, .slice A1 l1.length c1, .int .i64 a2] w fun e w' => e = .returned (.int .i64 r) /\ Below w.heap.size w w' := by
 have HR0 := A_ hr0
 have HC0 := A_ hc0
 clear hr0 hc0
 have HR1 := A_ hr1
 have HC1 := A_ hc1
 clear hr1 hc1
 have HB := A_ (Below.refl w.heap.size w)
 have H : ((spec_TreeOk.f k l0).bind fun t3 => (if t3 = true then ((spec_PathOk.f k l1).bind fun t14 => (if t14 = true then ((spec_l1In.f a2 0 99999).bind fun t15 => (if t15 = true then (some 0) else (some 507))) else (some 400))) else (some 500))) = some r := h
 clear h
 obtain ⟨t3, A4, H⟩ := bo_ H
 (try dsimp only at H)
 by_cases c5 : t3 = true
 . subst c5
   rw [if_pos rfl] at H
   obtain ⟨t14, A6, H⟩ := bo_ H
   (try dsimp only at H)
   by_cases c7 : t14 = true
   . subst c7
     rw [if_pos rfl] at H
     obtain ⟨t15, A8, H⟩ := bo_ H
     (try dsimp only at H)
     by_cases c9 : t15 = true
     . subst c9
       rw [if_pos rfl] at H
       obtain rfl := si_ H
       go_enter Try.func60, Try.ntmps60
       go_wp2_with (first | ((with_reducible refine gc_ (f := 79) rfl ?_); refine gL_ (some 9) Try.func79 #[.slice A0 l0.length c0] ?_; (with_reducible refine (spec_TreeOk.calls k _ _ l0 true _ ?s1 ?s2 A4.out).mono ?_); (case s1 => exact cC_ HR0.out); (case s2 => exact HC0.out); rintro e w10 ⟨rfl, hb⟩; refine ⟨_, rfl, ?_⟩; replace HB := A_ (below_step bB_ hb); clear hb) | ((with_reducible refine gc_ (f := 102) rfl ?_); refine gL_ (some 13) Try.func102 #[.slice A1 l1.length c1] ?_; (with_reducible refine (spec_PathOk.calls k _ _ l1 true _ ?s1 ?s2 A6.out).mono ?_); (case s1 => exact cC_ (Kd.C_below HR1.out HB.out)); (case s2 => exact HC1.out); rintro e w' ⟨rfl, ⟨nd, rfl⟩⟩; refine ⟨_, rfl, ?_⟩) | ((with_reducible refine gc_ (f := 103) rfl ?_); refine gL_ (some 17) Try.func103 #[.int .i64 a2, .int .i64 0, .int .i64 99999] ?_; (with_reducible refine (spec_l1In.calls a2 0 99999 true _ A8.out).mono ?_); rintro e w' ⟨rfl, ⟨nd, rfl⟩⟩; refine ⟨_, rfl, ?_⟩))
       go_ret
       exact ⟨rr_, bB_⟩
     . replace c9 := Bool.eq_false_iff.mpr c9
       subst c9
       rw [if_neg nf_] at H
       obtain rfl := si_ H
       go_enter Try.func60, Try.ntmps60
       go_wp2_with (first | ((with_reducible refine gc_ (f := 79) rfl ?_); refine gL_ (some 9) Try.func79 #[.slice A0 l0.length c0] ?_; (with_reducible refine (spec_TreeOk.calls k _ _ l0 true _ ?s1 ?s2 A4.out).mono ?_); (case s1 => exact cC_ HR0.out); (case s2 => exact HC0.out); rintro e w11 ⟨rfl, hb⟩; refine ⟨_, rfl, ?_⟩; replace HB := A_ (below_step bB_ hb); clear hb) | ((with_reducible refine gc_ (f := 102) rfl ?_); refine gL_ (some 13) Try.func102 #[.slice A1 l1.length c1] ?_; (with_reducible refine (spec_PathOk.calls k _ _ l1 true _ ?s1 ?s2 A6.out).mono ?_); (case s1 => exact cC_ (Kd.C_below HR1.out HB.out)); (case s2 => exact HC1.out); rintro e w' ⟨rfl, ⟨nd, rfl⟩⟩; refine ⟨_, rfl, ?_⟩) | ((with_reducible refine gc_ (f := 103) rfl ?_); refine gL_ (some 17) Try.func103 #[.int .i64 a2, .int .i64 0, .int .i64 99999] ?_; (with_reducible refine (spec_l1In.calls a2 0 99999 false _ A8.out).mono ?_); rintro e w' ⟨rfl, ⟨nd, rfl⟩⟩; refine ⟨_, rfl, ?_⟩))
       go_ret
       exact ⟨rr_, bB_⟩
   . replace c7 := Bool.eq_false_iff.mpr c7
     subst c7
     rw [if_neg nf_] at H
     obtain rfl := si_ H
     go_enter Try.func60, Try.ntmps60
     go_wp2_with (first | ((with_reducible refine gc_ (f := 79) rfl ?_); refine gL_ (some 9) Try.func79 #[.slice A0 l0.length c0] ?_; (with_reducible refine (spec_TreeOk.calls k _ _ l0 true _ ?s1 ?s2 A4.out).mono ?_); (case s1 => exact cC_ HR0.out); (case s2 => exact HC0.out); rintro e w12 ⟨rfl, hb⟩; refine ⟨_, rfl, ?_⟩; replace HB := A_ (below_step bB_ hb); clear hb) | ((with_reducible refine gc_ (f := 102) rfl ?_); refine gL_ (some 13) Try.func102 #[.slice A1 l1.length c1] ?_; (with_reducible refine (spec_PathOk.calls k _ _ l1 false _ ?s1 ?s2 A6.out).mono ?_); (case s1 => exact cC_ (Kd.C_below HR1.out HB.out)); (case s2 => exact HC1.out); rintro e w' ⟨rfl, ⟨nd, rfl⟩⟩; refine ⟨_, rfl, ?_⟩))
     go_ret
     exact ⟨rr_, bB_⟩
 . replace c5 := Bool.eq_false_iff.mpr c5
   subst c5
   rw [if_neg nf_] at H
   obtain rfl := si_ H
   go_enter Try.func60, Try.ntmps60
   go_wp2_with (first | ((with_reducible refine gc_ (f := 79) rfl ?_); refine gL_ (some 9) Try.func79 #[.slice A0 l0.length c0] ?_; (with_reducible refine (spec_TreeOk.calls k _ _ l0 false _ ?s1 ?s2 A4.out).mono ?_); (case s1 => exact cC_ HR0.out); (case s2 => exact HC0.out); rintro e w13 ⟨rfl, hb⟩; refine ⟨_, rfl, ?_⟩; replace HB := A_ (below_step bB_ hb); clear hb))
   go_ret
   exact ⟨rr_, bB_⟩
def spec_l10Copy.f (l0_0 : List ByteArray) (a0_1 : Bool) (a0_2 : ByteArray) (a0_3 : Int) (l0_4 : List (S72)) : Option (List ByteArray × Bool × ByteArray × Int × (List (S72))) := (some (([] : List ByteArray) : List ByteArray)).bind fun y174 => (if y174.length + l0_0.length < 8796093022208 then ((some (([] : List (S72)) : List (S72))).bind fun y180 => (if y180.length + l0_4.length < 2932031007402 then (some ((y174 ++ l0_0), a0_1, a0_2, a0_3, (y180 ++ l0_4))) else (none))) else (none))
theorem spec_l10Copy.calls (A0_0 : Option Addr) (c0_0 : Nat) (l0_0 : List ByteArray) (a0_1 : Bool) (a0_2 : ByteArray) (a0_3 : Int) (A0_4 : Option Addr) (c0_4 : Nat) (l0_4 : List (S72)) (r1 : List ByteArray) (r2 : Bool) (r3 : ByteArray) (r4 : Int) (r5 : List (S72)) (w : World) (hr0_0 : Kd.C Kd.string w A0_0 l0_0.length l0_0) (hc0_0 : l0_0.length <= c0_0) (hr0_4 : Kd.C k72 w A0_4 l0_4.length l0_4) (hc0_4 : l0_4.length <= c0_4) (h : spec_l10Copy.f l0_0 a0_1 a0_2 a0_3 l0_4 = some (r1, r2, r3, r4, r5)) :
 Calls Try.prog 105 #[.agg #[.slice A0_0 l0_0.length c0_0, .bool a0_1, .string a0_2, .int .i64 a0_3, .slice A0_4 l0_4.length c0_4]] w fun e w' => ∃ v0_ v4_ : Value, e = .returned (.agg #[v0_, .bool r2, .string r3, .int .i64 r4, v4_]) /\ Kd.R Kd.string 9 w' w.heap.size (fun _ => True) v0_ r1 /\ Kd.R k72 72 w' w.heap.size (fun _ => True) v4_ r5 /\ Below w.heap.size w w' := by
 have hu57 := Try.underlying57
 have HR0_0 := A_ hr0_0
 clear hr0_0 hc0_0
 have HR0_4 := A_ hr0_4
 clear hr0_4 hc0_4
 have HB := A_ (Below.refl w.heap.size w)
 have H : ((some (([] : List ByteArray) : List ByteArray)).bind fun y30 => (if y30.length + l0_0.length < 8796093022208 then ((some (([] : List (S72)) : List (S72))).bind fun y28 => (if y28.length + l0_4.length < 2932031007402 then (some ((y30 ++ l0_0), a0_1, a0_2, a0_3, (y28 ++ l0_4))) else (none))) else (none))) = some (r1, r2, r3, r4, r5) := h
 clear h
 obtain ⟨y30, hy30⟩ : ∃ y_ : List ByteArray, y_ = (([] : List ByteArray)) := ⟨_, rfl⟩
 replace H : (if y30.length + l0_0.length < 8796093022208 then ((some (([] : List (S72)) : List (S72))).bind fun y28 => (if y28.length + l0_4.length < 2932031007402 then (some ((y30 ++ l0_0), a0_1, a0_2, a0_3, (y28 ++ l0_4))) else (none))) else (none)) = some (r1, r2, r3, r4, r5) := hy_ hy30 H
 have Ny30 := A_ hy30
 clear hy30
 by_cases c2 : y30.length + l0_0.length < 8796093022208
 rotate_left
 . exact absurd H (by rw [if_neg c2]; simp)
 rw [if_pos c2] at H
 have LMc2 := A_ c2
 clear c2
 obtain ⟨y29, hy29⟩ : ∃ y_ : List ByteArray, y_ = (y30 ++ l0_0) := ⟨_, rfl⟩
 replace H : ((some (([] : List (S72)) : List (S72))).bind fun y28 => (if y28.length + l0_4.length < 2932031007402 then (some (y29, a0_1, a0_2, a0_3, (y28 ++ l0_4))) else (none))) = some (r1, r2, r3, r4, r5) := hy_ hy29 H
 have Ny29 := A_ hy29
 clear hy29
 obtain ⟨y28, hy28⟩ : ∃ y_ : List (S72), y_ = (([] : List (S72))) := ⟨_, rfl⟩
 replace H : (if y28.length + l0_4.length < 2932031007402 then (some (y29, a0_1, a0_2, a0_3, (y28 ++ l0_4))) else (none)) = some (r1, r2, r3, r4, r5) := hy_ hy28 H
 have Ny28 := A_ hy28
 clear hy28
 by_cases c3 : y28.length + l0_4.length < 2932031007402
 rotate_left
 . exact absurd H (by rw [if_neg c3]; simp)
 rw [if_pos c3] at H
 have LMc3 := A_ c3
 clear c3
 obtain ⟨y31, hy31⟩ : ∃ y_ : List (S72), y_ = (y28 ++ l0_4) := ⟨_, rfl⟩
 replace H : (some (y29, a0_1, a0_2, a0_3, y31)) = some (r1, r2, r3, r4, r5) := hy_ hy31 H
 have Ny31 := A_ hy31
 clear hy31
 simp only [Option.some.injEq, Prod.mk.injEq] at H
 obtain ⟨rfl, rfl, rfl, rfl, rfl⟩ := H
 go_enter Try.func105, Try.ntmps105
 go_wp2_with (first | ((with_reducible refine gd_ (N := 1) rfl ?_); refine bx_ (N := 1) (cs := #[.slice A0_0 l0_0.length c0_0, .bool a0_1, .string a0_2, .int .i64 a0_3, .slice A0_4 l0_4.length c0_4]) (t := 57) ?_; intro gb26 hg w4 hbox hb; have BK26 := A_ (hbox); have GW26 := A_ (ge_ hg bB_ : w.heap.size <= gb26); have GE26 := A_ (ge_ hg bB_ : w.heap.size <= gb26); replace HB := A_ (below_step bB_ hb); clear hb hbox hg) | ((with_reducible refine gd_ (N := 2) rfl ?_); refine bx_ (N := 2) (cs := #[.slice none 0 0, .bool false, .string (⟨#[]⟩ : ByteArray), .int .i64 0, .slice none 0 0]) (t := 57) ?_; intro gb25 hg w5 hbox hb; have BK25 := A_ (hbox); have GW25 := A_ (ge_ hg (bG_ GE26.out) : w.heap.size <= gb25); have GE25 := A_ (ge_ hg (bG_ GE26.out) : w.heap.size <= gb25); replace HB := A_ (below_step (bG_ GE26.out) hb); have NB171_172 := A_ (gm_ hg BK26.out); have NB172_171 := A_ (gn_ hg BK26.out); replace BK26 := A_ (bw_ BK26.out hb); clear hb hbox hg; have hnb6 := NB171_172.out; have hnc6 := NB172_171.out; obtain ⟨hcz7_0, hcz7_1, hcz7_2, hcz7_3, hcz7_4, hfz7_0, hfz7_1, hfz7_2, hfz7_3, hfz7_4⟩ := cz5_ BK26.out) | ((with_reducible refine gd_ (N := 3) rfl ?_); refine bx_ (N := 3) (cs := #[.slice none 0 0, .bool false, .string (⟨#[]⟩ : ByteArray), .int .i64 0, .slice none 0 0]) (t := 57) ?_; intro gb27 hg w8 hbox hb; have BK27 := A_ (hbox); have GW27 := A_ ((by rw [hg]; exact (below_size (by repeat (first | (with_reducible first | exact HB.out | apply below_alloc | apply pw_below_drewN | apply below_drew1 | refine below_set ?_ GE26.out | refine below_set ?_ GE25.out) | exact HB.out))) : w.heap.size <= gb27)); have GE27 := A_ ((by rw [hg]; exact (below_size (by repeat (first | (with_reducible first | exact HB.out | apply below_alloc | apply pw_below_drewN | apply below_drew1 | refine below_set ?_ GE26.out | refine below_set ?_ GE25.out) | exact HB.out))) : w.heap.size <= gb27)); replace HB := A_ (below_step (by repeat (first | (with_reducible first | exact HB.out | apply below_alloc | apply pw_below_drewN | apply below_drew1 | refine below_set ?_ GE26.out | refine below_set ?_ GE25.out) | exact HB.out)) hb); have NB171_173 := A_ (gm_ hg BK26.out); have NB173_171 := A_ (gn_ hg BK26.out); replace BK26 := A_ (bw_ BK26.out hb); have NB172_173 := A_ (gm_ hg BK25.out); have NB173_172 := A_ (gn_ hg BK25.out); replace BK25 := A_ (bw_ BK25.out hb); clear hb hbox hg; have hnb9 := NB173_171.out; have hnc9 := NB171_173.out; have hnb10 := NB173_172.out; have hnc10 := NB172_173.out; obtain ⟨hcz11_0, hcz11_1, hcz11_2, hcz11_3, hcz11_4, hfz11_0, hfz11_1, hfz11_2, hfz11_3, hfz11_4⟩ := cz5_ BK27.out) | ((with_reducible refine gd_ (N := 5) rfl ?_); refine Kd.R_lit Kd.string _ 9 ?hg (N := 5) ?hd (xs := ([] : List ByteArray)) (inner := []) (ok := fun _ => True) (okp := fun _ => True) ?hr ?hp (fun _ hk => hk) trivial (Below.refl _ _) (Nat.le_refl _) (by simp) ?_; (case hd => rfl); (case hg => rfl); (case hr => first | (go_simp; done) | (go_simp; rfl)); (case hp => exact (Reps.none _ _)); intro v36 w12 ho13 hb hg_ hnew_; clear hg_ hnew_; (first | rw [← Ny30.out] at ho13 | (simp only [Int.reduceToNat] at ho13; rw [← Ny30.out] at ho13)); have HO33 := A_ (Kd.R_lower ho13 (below_size (by repeat (first | (with_reducible first | exact HB.out | apply below_alloc | apply pw_below_drewN | apply below_drew1 | refine below_set ?_ GE26.out | refine below_set ?_ GE25.out | refine below_set ?_ GE27.out) | exact HB.out)))); replace BK26 := A_ (blk_below (g := gb26) (o := .cells #[.slice A0_0 l0_0.length c0_0, .bool a0_1, .string a0_2, .int .i64 a0_3, .slice A0_4 l0_4.length c0_4] 57 (0, 0)) (by (with_reducible repeat (first | refine blk_drewN ?_ _ | refine blk_drew ?_ | refine blk_alloc ?_ _)); refine blk_far ?_ NB171_173.out _; (with_reducible repeat (first | refine blk_drewN ?_ _ | refine blk_drew ?_ | refine blk_alloc ?_ _)); refine blk_far ?_ NB171_173.out _; (with_reducible repeat (first | refine blk_drewN ?_ _ | refine blk_drew ?_ | refine blk_alloc ?_ _)); refine blk_far ?_ NB171_173.out _; (with_reducible repeat (first | refine blk_drewN ?_ _ | refine blk_drew ?_ | refine blk_alloc ?_ _)); refine blk_far ?_ NB171_173.out _; (with_reducible repeat (first | refine blk_drewN ?_ _ | refine blk_drew ?_ | refine blk_alloc ?_ _)); refine blk_far ?_ NB171_173.out _; (with_reducible repeat (first | refine blk_drewN ?_ _ | refine blk_drew ?_ | refine blk_alloc ?_ _)); exact BK26.out) hb); replace BK25 := A_ (blk_below (g := gb25) (o := .cells #[.slice none 0 0, .bool false, .string (⟨#[]⟩ : ByteArray), .int .i64 0, .slice none 0 0] 57 (0, 0)) (by (with_reducible repeat (first | refine blk_drewN ?_ _ | refine blk_drew ?_ | refine blk_alloc ?_ _)); refine blk_far ?_ NB172_173.out _; (with_reducible repeat (first | refine blk_drewN ?_ _ | refine blk_drew ?_ | refine blk_alloc ?_ _)); refine blk_far ?_ NB172_173.out _; (with_reducible repeat (first | refine blk_drewN ?_ _ | refine blk_drew ?_ | refine blk_alloc ?_ _)); refine blk_far ?_ NB172_173.out _; (with_reducible repeat (first | refine blk_drewN ?_ _ | refine blk_drew ?_ | refine blk_alloc ?_ _)); refine blk_far ?_ NB172_173.out _; (with_reducible repeat (first | refine blk_drewN ?_ _ | refine blk_drew ?_ | refine blk_alloc ?_ _)); refine blk_far ?_ NB172_173.out _; (with_reducible repeat (first | refine blk_drewN ?_ _ | refine blk_drew ?_ | refine blk_alloc ?_ _)); exact BK25.out) hb); replace BK27 := A_ (blk_below (g := gb27) (o := .cells #[.slice A0_0 l0_0.length c0_0, .bool a0_1, .string a0_2, .int .i64 a0_3, .slice A0_4 l0_4.length c0_4] 57 (0, 0)) (by (with_reducible repeat (first | refine blk_drewN ?_ _ | refine blk_drew ?_ | refine blk_alloc ?_ _)); with_reducible exact p5_01234_ (vb_ BK27.out)) hb); replace HB := A_ (below_step (by repeat (first | (with_reducible first | exact HB.out | apply below_alloc | apply pw_below_drewN | apply below_drew1 | refine below_set ?_ GE26.out | refine below_set ?_ GE25.out | refine below_set ?_ GE27.out) | exact HB.out)) hb); clear hb ho13; obtain ⟨hcz14_0, hcz14_1, hcz14_2, hcz14_3, hcz14_4, hfz14_0, hfz14_1, hfz14_2, hfz14_3, hfz14_4⟩ := cz5_ BK26.out) | ((with_reducible refine gate_builtin (b := .append) (xs := #[.tmp 5, .tmp 7]) rfl ?_); at_builtin; refine Kd.R_append_rows Kd.string (w0 := w) w.heap.size rfl (.tmp 5) (.tmp 7) 23 9 (.string ⟨#[]⟩) 16 rfl Try.underlying23 info9 rfl (by decide) (by omega) v36 y30 l0_0 _ _ _ (fun _ => True) (fun _ => False) rfl rfl ?aO ?aR (fun _ _ h => h) (fun _ h => h.elim) ?aF ?aB ?aS ?aL ?_; (case aR => exact cC_ (Kd.C_below HR0_0.out HB.out)); (case aB => exact (by repeat (first | (with_reducible first | exact HB.out | apply below_alloc | apply pw_below_drewN | apply below_drew1 | refine below_set ?_ GE26.out | refine below_set ?_ GE25.out | refine below_set ?_ GE27.out) | exact HB.out))); (case aF => exact (fun _ _ => trivial)); (case aO => exact (vR_ HO33.out)); (case aS => exact (below_size (by repeat (first | (with_reducible first | exact HB.out | apply below_alloc | apply pw_below_drewN | apply below_drew1 | refine below_set ?_ GE26.out | refine below_set ?_ GE25.out | refine below_set ?_ GE27.out) | exact HB.out)))); (case aL => have := LMc2.out; omega); intro v38 w15 ho hb hg hat; rw [← Ny29.out] at ho; replace BK26 := A_ (blk_grown (g := gb26) (o := .cells #[.slice A0_0 l0_0.length c0_0, .bool a0_1, .string a0_2, .int .i64 a0_3, .slice A0_4 l0_4.length c0_4] 57 (0, 0)) (vb_ BK26.out) hg (Kd.R_ne HO33.out BK26.out (by decide))); replace BK25 := A_ (blk_grown (g := gb25) (o := .cells #[.slice none 0 0, .bool false, .string (⟨#[]⟩ : ByteArray), .int .i64 0, .slice none 0 0] 57 (0, 0)) (vb_ BK25.out) hg (Kd.R_ne HO33.out BK25.out (by decide))); replace BK27 := A_ (blk_grown (g := gb27) (o := .cells #[.slice A0_0 l0_0.length c0_0, .bool a0_1, .string a0_2, .int .i64 a0_3, .slice A0_4 l0_4.length c0_4] 57 (0, 0)) (vb_ BK27.out) hg (Kd.R_ne HO33.out BK27.out (by decide))); replace HB := A_ (hb); have HO32 := A_ (ho); clear HO33; clear ho hb hg hat; obtain ⟨Ao16, co16, eo16⟩ := Kd.R_slice HO32.out; subst eo16; obtain ⟨hcz17_0, hcz17_1, hcz17_2, hcz17_3, hcz17_4, hfz17_0, hfz17_1, hfz17_2, hfz17_3, hfz17_4⟩ := cz5_ BK27.out) | ((with_reducible refine gd_ (N := 10) rfl ?_); refine Kd.R_lit k72 _ 72 ?hg (N := 10) ?hd (xs := ([] : List (S72))) (inner := []) (ok := fun _ => True) (okp := fun _ => True) ?hr ?hp (fun _ hk => hk) trivial (Below.refl _ _) (Nat.le_refl _) (by simp) ?_; (case hd => rfl); (case hg => rfl); (case hr => first | (go_simp; done) | (go_simp; rfl)); (case hp => exact (Reps.none _ _)); intro v37 w18 ho19 hb hg_ hnew_; clear hg_ hnew_; (first | rw [← Ny28.out] at ho19 | (simp only [Int.reduceToNat] at ho19; rw [← Ny28.out] at ho19)); replace HO32 := A_ (Kd.R_below (by (with_reducible repeat (first | apply Kd.R_alloc | apply Kd.R_drewN | apply Kd.R_drew)); exact (Kd.R_mono (Kd.R_far (p := ⟨gb27, 0, none⟩) (Kd.R_types HO32.out BK27.out (by decide)) (fun _ hk => hk.2) (.slice Ao16 y29.length co16)) (fun _ h_ => h_.1))) hb); have HO34 := A_ (Kd.R_lower ho19 (below_size (by repeat (first | (with_reducible first | exact HB.out | apply below_alloc | apply pw_below_drewN | apply below_drew1 | refine below_set ?_ GE26.out | refine below_set ?_ GE25.out | refine below_set ?_ GE27.out) | exact HB.out)))); replace BK26 := A_ (blk_below (g := gb26) (o := .cells #[.slice A0_0 l0_0.length c0_0, .bool a0_1, .string a0_2, .int .i64 a0_3, .slice A0_4 l0_4.length c0_4] 57 (0, 0)) (by (with_reducible repeat (first | refine blk_drewN ?_ _ | refine blk_drew ?_ | refine blk_alloc ?_ _)); refine blk_far ?_ NB171_173.out _; (with_reducible repeat (first | refine blk_drewN ?_ _ | refine blk_drew ?_ | refine blk_alloc ?_ _)); exact BK26.out) hb); replace BK25 := A_ (blk_below (g := gb25) (o := .cells #[.slice none 0 0, .bool false, .string (⟨#[]⟩ : ByteArray), .int .i64 0, .slice none 0 0] 57 (0, 0)) (by (with_reducible repeat (first | refine blk_drewN ?_ _ | refine blk_drew ?_ | refine blk_alloc ?_ _)); refine blk_far ?_ NB172_173.out _; (with_reducible repeat (first | refine blk_drewN ?_ _ | refine blk_drew ?_ | refine blk_alloc ?_ _)); exact BK25.out) hb); replace BK27 := A_ (blk_below (g := gb27) (o := .cells #[.slice Ao16 y29.length co16, .bool a0_1, .string a0_2, .int .i64 a0_3, .slice A0_4 l0_4.length c0_4] 57 (0, 0)) (by (with_reducible repeat (first | refine blk_drewN ?_ _ | refine blk_drew ?_ | refine blk_alloc ?_ _)); with_reducible exact p5_0_ (vb_ BK27.out)) hb); replace HB := A_ (below_step (by repeat (first | (with_reducible first | exact HB.out | apply below_alloc | apply pw_below_drewN | apply below_drew1 | refine below_set ?_ GE26.out | refine below_set ?_ GE25.out | refine below_set ?_ GE27.out) | exact HB.out)) hb); clear hb ho19; obtain ⟨hcz20_0, hcz20_1, hcz20_2, hcz20_3, hcz20_4, hfz20_0, hfz20_1, hfz20_2, hfz20_3, hfz20_4⟩ := cz5_ BK26.out) | ((with_reducible refine gate_builtin (b := .append) (xs := #[.tmp 10, .tmp 12]) rfl ?_); at_builtin; refine Kd.R_append_rows k72 (w0 := w) w.heap.size rfl (.tmp 10) (.tmp 12) 55 72 (.agg #[(.string ⟨#[]⟩), (.string ⟨#[]⟩), (.string ⟨#[]⟩)]) 48 rfl Try.underlying55 info72 rfl (by decide) (by omega) v37 y28 l0_4 _ _ _ (fun _ => True) (fun _ => False) rfl rfl ?aO ?aR (fun _ _ h => h) (fun _ h => h.elim) ?aF ?aB ?aS ?aL ?_; (case aR => exact cC_ (Kd.C_below HR0_4.out HB.out)); (case aB => exact (by repeat (first | (with_reducible first | exact HB.out | apply below_alloc | apply pw_below_drewN | apply below_drew1 | refine below_set ?_ GE26.out | refine below_set ?_ GE25.out | refine below_set ?_ GE27.out) | exact HB.out))); (case aF => exact (fun _ _ => trivial)); (case aO => exact (vR_ HO34.out)); (case aS => exact (below_size (by repeat (first | (with_reducible first | exact HB.out | apply below_alloc | apply pw_below_drewN | apply below_drew1 | refine below_set ?_ GE26.out | refine below_set ?_ GE25.out | refine below_set ?_ GE27.out) | exact HB.out)))); (case aL => have := LMc3.out; omega); intro v39 w21 ho hb hg hat; rw [← Ny31.out] at ho; replace BK25 := A_ (blk_grown (g := gb25) (o := .cells #[.slice none 0 0, .bool false, .string (⟨#[]⟩ : ByteArray), .int .i64 0, .slice none 0 0] 57 (0, 0)) (vb_ BK25.out) hg (Kd.R_ne HO34.out BK25.out (by decide))); replace BK27 := A_ (blk_grown (g := gb27) (o := .cells #[.slice Ao16 y29.length co16, .bool a0_1, .string a0_2, .int .i64 a0_3, .slice A0_4 l0_4.length c0_4] 57 (0, 0)) (vb_ BK27.out) hg (Kd.R_ne HO34.out BK27.out (by decide))); replace HO32 := A_ (Kd.R_over' (vR_ HO32.out) (Kd.R_typed (vR_ HO34.out)) (by decide) hg); replace HB := A_ (hb); have HO35 := A_ (ho); clear HO34; clear ho hb hg hat; obtain ⟨Ao22, co22, eo22⟩ := Kd.R_slice HO35.out; subst eo22; obtain ⟨hcz23_0, hcz23_1, hcz23_2, hcz23_3, hcz23_4, hfz23_0, hfz23_1, hfz23_2, hfz23_3, hfz23_4⟩ := cz5_ BK27.out; obtain ⟨hcz24_0, hcz24_1, hcz24_2, hcz24_3, hcz24_4, hfz24_0, hfz24_1, hfz24_2, hfz24_3, hfz24_4⟩ := cz5_ BK25.out))
 refine bodyPost_ret (results_cell_row rfl _ _ gb25 57 #[.slice Ao16 y29.length co16, .bool a0_1, .string a0_2, .int .i64 a0_3, .slice Ao22 y31.length co22] (0, 0) _ rfl (by (with_reducible repeat (first | refine blk_drewN ?_ _ | refine blk_drew ?_ | refine blk_alloc ?_ _)); refine blk_put (cs := #[.slice Ao16 y29.length co16, .bool a0_1, .string a0_2, .int .i64 a0_3, .slice none 0 0]) ?_ 4 _ rfl; (with_reducible repeat (first | refine blk_drewN ?_ _ | refine blk_drew ?_ | refine blk_alloc ?_ _)); refine blk_put (cs := #[.slice Ao16 y29.length co16, .bool a0_1, .string a0_2, .int .i64 0, .slice none 0 0]) ?_ 3 _ rfl; (with_reducible repeat (first | refine blk_drewN ?_ _ | refine blk_drew ?_ | refine blk_alloc ?_ _)); refine blk_put (cs := #[.slice Ao16 y29.length co16, .bool a0_1, .string (⟨#[]⟩ : ByteArray), .int .i64 0, .slice none 0 0]) ?_ 2 _ rfl; (with_reducible repeat (first | refine blk_drewN ?_ _ | refine blk_drew ?_ | refine blk_alloc ?_ _)); refine blk_put (cs := #[.slice Ao16 y29.length co16, .bool false, .string (⟨#[]⟩ : ByteArray), .int .i64 0, .slice none 0 0]) ?_ 1 _ rfl; (with_reducible repeat (first | refine blk_drewN ?_ _ | refine blk_drew ?_ | refine blk_alloc ?_ _)); refine blk_put (cs := #[.slice none 0 0, .bool false, .string (⟨#[]⟩ : ByteArray), .int .i64 0, .slice none 0 0]) ?_ 0 _ rfl; (with_reducible repeat (first | refine blk_drewN ?_ _ | refine blk_drew ?_ | refine blk_alloc ?_ _)); refine blk_far ?_ NB172_173.out _; (with_reducible repeat (first | refine blk_drewN ?_ _ | refine blk_drew ?_ | refine blk_alloc ?_ _)); exact BK25.out) Try.underlying57 rfl (by kernel_rfl)) rfl ?_
 exact ⟨_, _, rr_, by (with_reducible repeat (first | apply Kd.R_alloc | apply Kd.R_drewN | apply Kd.R_drew)); exact Kd.R_mono (Kd.R_far (p := ⟨gb25, 4, none⟩) (Kd.R_far (p := ⟨gb25, 3, none⟩) (Kd.R_far (p := ⟨gb25, 2, none⟩) (Kd.R_far (p := ⟨gb25, 1, none⟩) (Kd.R_far (p := ⟨gb25, 0, none⟩) (Kd.R_far (p := ⟨gb27, 4, none⟩) (Kd.R_types (Kd.R_types HO32.out BK27.out (by decide)) BK25.out (by decide)) (fun _ hk => hk.1.2) (.slice Ao22 y31.length co22)) (fun _ hk => hk.2) (.slice Ao16 y29.length co16)) (fun _ hk => hk.2) (.bool a0_1)) (fun _ hk => hk.2) (.string a0_2)) (fun _ hk => hk.2) (.int .i64 a0_3)) (fun _ hk => hk.2) (.slice Ao22 y31.length co22)) (fun _ hk => trivial), by (with_reducible repeat (first | apply Kd.R_alloc | apply Kd.R_drewN | apply Kd.R_drew)); exact Kd.R_mono (Kd.R_far (p := ⟨gb25, 4, none⟩) (Kd.R_far (p := ⟨gb25, 3, none⟩) (Kd.R_far (p := ⟨gb25, 2, none⟩) (Kd.R_far (p := ⟨gb25, 1, none⟩) (Kd.R_far (p := ⟨gb25, 0, none⟩) (Kd.R_far (p := ⟨gb27, 4, none⟩) (Kd.R_types (Kd.R_types HO35.out BK27.out (by decide)) BK25.out (by decide)) (fun _ hk => hk.1.2) (.slice Ao22 y31.length co22)) (fun _ hk => hk.2) (.slice Ao16 y29.length co16)) (fun _ hk => hk.2) (.bool a0_1)) (fun _ hk => hk.2) (.string a0_2)) (fun _ hk => hk.2) (.int .i64 a0_3)) (fun _ hk => hk.2) (.slice Ao22 y31.length co22)) (fun _ hk => trivial), by repeat (first | (with_reducible first | exact HB.out | apply below_alloc | apply pw_below_drewN | apply below_drew1 | refine below_set ?_ GE26.out | refine below_set ?_ GE25.out | refine below_set ?_ GE27.out) | exact HB.out)⟩
def spec_l10CopyAll.l0 : Nat -> List (S57) -> List (S57) -> Int -> Option ((List (S57)))
 | 0, _, _, _ => none
 | k + 1, x0, x3, x4 => if x4 < (x0.length : Int) then (if 0 <= x4 then ((spec_l10Copy.f ((rd_T57 x0 x4).f0) ((rd_T57 x0 x4).f1) ((rd_T57 x0 x4).f2) ((rd_T57 x0 x4).f3) ((rd_T57 x0 x4).f4)).bind fun bt190 => (if x3.length < 1759218604441 then (spec_l10CopyAll.l0 k x0 (x3 ++ [(⟨bt190.1, bt190.2.1, bt190.2.2.1, bt190.2.2.2.1, bt190.2.2.2.2⟩ : S57)]) (wrap64 (x4 + 1))) else (none))) else (none)) else (some x3)
def spec_l10CopyAll.f (k : Nat) (l0 : List (S57)) : Option ((List (S57))) := spec_l10CopyAll.l0 k l0 (([] : List (S57))) 0
theorem spec_l10CopyAll.calls (k : Nat) (A0 : Option Addr) (c0 : Nat) (l0 : List (S57)) (r : List (S57)) (w : World) (hr0 : Kd.C k57 w A0 l0.length l0) (hc0 : l0.length <= c0) (h : spec_l10CopyAll.f k l0 = some r) :
 Calls Try.prog 62 #[.slice A0 l0.length c0] w fun e w' => ∃ v0_ : Value, e = .returned (v0_) /\ Kd.S k57 57 w' w.heap.size (fun _ => True) v0_ r /\ Below w.heap.size w w' := by
 have hu57 := Try.underlying57
 have HR0 := A_ hr0
 clear hr0 hc0
 have HB := A_ (Below.refl w.heap.size w)
 have H : (spec_l10CopyAll.l0 k l0 (([] : List (S57))) 0) = some r := h
 clear h
 obtain ⟨y13, hy13⟩ : ∃ y_ : List (S57), y_ = (([] : List (S57))) := ⟨_, rfl⟩
 replace H : (spec_l10CopyAll.l0 k l0 y13 0) = some r := hy_ hy13 H
 have Ny13 := A_ hy13
 clear hy13
 have H' := A_ H
 clear H
 go_enter Try.func62, Try.ntmps62
 go_wp2_with (first | ((with_reducible refine gd_ (N := 5) rfl ?_); refine Kd.S_lit k57 _ 57 ?hg (N := 5) ?hd (xs := ([] : List (S57))) (inner := []) (ok := fun _ => True) (okp := fun _ => True) ?hr ?hp (fun _ hk => hk) trivial (Below.refl _ _) (Nat.le_refl _) (by simp) ?_; (case hd => rfl); (case hg => rfl); (case hr => first | (go_simp; done) | (go_simp; rfl)); (case hp => exact (Reps.none _ _)); intro v24 w2 ho3 hb hg_ hnew_; clear hg_ hnew_; (first | rw [← Ny13.out] at ho3 | (simp only [Int.reduceToNat] at ho3; rw [← Ny13.out] at ho3)); have HO22 := A_ (Kd.S_lower ho3 (below_size bB_)); replace HB := A_ (below_step bB_ hb); clear hb ho3))
 go_loopg [3, 4] k (fun kq v3 v4 w' => ∃ (x3_1 : List (S57)) (x4_1 : Int), v4 = .int .i64 x4_1 /\ Aside0 (spec_l10CopyAll.l0 kq l0 x3_1 x4_1 = some r) /\ Aside0 (kq <= k) /\ Aside0 (Kd.S k57 57 w' w.heap.size (fun _ => True) v3 x3_1) /\ Aside0 (Below w.heap.size w w'))
 case atStart => exact ⟨(y13), (0), rs_, H', ⟨Nat.le_refl _⟩, ⟨vS_ HO22.out⟩, ⟨bB_⟩⟩
 case round =>
  clear H'
  obtain ⟨x3_1, x4_1, rfl, HA, HK1, HO_3, HB⟩ := hrel
  cases gk with
  | zero => exact absurd HA.out (by simp [spec_l10CopyAll.l0])
  | succ k1 =>
   have H := HA.out
   clear HA
   simp only [spec_l10CopyAll.l0] at H
   by_cases c4 : x4_1 < (l0.length : Int)
   rotate_left
   . rw [if_neg c4] at H
     have c4b0 := decide_eq_false c4
     clear c4
     obtain rfl := si_ H
     go_wp2
     go_ret
     exact ⟨_, rr_, vS_ HO_3.out, bB_⟩
   rw [if_pos c4] at H
   have c4b0 := decide_eq_true c4
   clear c4
   by_cases c5 : 0 <= x4_1
   rotate_left
   . exact absurd H (by rw [if_neg c5]; simp)
   rw [if_pos c5] at H
   have c5b0 := decide_eq_true c5
   clear c5
   obtain ⟨⟨t15, t17, t18, t19, t16⟩, A6, H⟩ := bo_ H
   (try dsimp only at H)
   by_cases c7 : x3_1.length < 1759218604441
   rotate_left
   . exact absurd H (by rw [if_neg c7]; simp)
   rw [if_pos c7] at H
   have LMc7 := A_ c7
   clear c7
   obtain ⟨y14, hy14⟩ : ∃ y_ : List (S57), y_ = (x3_1 ++ [(⟨t15, t17, t18, t19, t16⟩ : S57)]) := ⟨_, rfl⟩
   replace H : (spec_l10CopyAll.l0 k1 l0 y14 (wrap64 (x4_1 + 1))) = some r := hy_ hy14 H
   have Ny14 := A_ hy14
   clear hy14
   have H' := A_ H
   clear H
   have p12 : 0 <= (x4_1 : Int) := od_
   have q12 : x4_1 < (l0.length : Int) := od_
   obtain ⟨ad12, A12_0, c12_0, A12_4, c12_4, e12, hx12_0, hx12_1, hx12_2, hx12_3, hx12_4, hl12_0, hi12_0, hl12_4, hi12_4⟩ := at_T57 HR0.out x4_1 p12 q12
   cases e12
   replace hx12_0 := bc_ HB.out hx12_0
   replace hx12_1 := bc_ HB.out hx12_1
   replace hx12_2 := bc_ HB.out hx12_2
   replace hx12_3 := bc_ HB.out hx12_3
   replace hx12_4 := bc_ HB.out hx12_4
   have HR12_0 := A_ hi12_0
   have HC12_0 := A_ hl12_0
   clear hi12_0 hl12_0
   have HR12_4 := A_ hi12_4
   have HC12_4 := A_ hl12_4
   clear hi12_4 hl12_4
   replace p12 := eq_true p12
   replace q12 := eq_true q12
   go_wp2_with (first | ((with_reducible refine gc_ (f := 105) rfl ?_); refine gL_ (some 17) Try.func105 #[.agg #[.slice A12_0 ((rd_T57 l0 x4_1).f0).length c12_0, .bool ((rd_T57 l0 x4_1).f1), .string ((rd_T57 l0 x4_1).f2), .int .i64 ((rd_T57 l0 x4_1).f3), .slice A12_4 ((rd_T57 l0 x4_1).f4).length c12_4]] ?_; (with_reducible refine (spec_l10Copy.calls _ _ ((rd_T57 l0 x4_1).f0) ((rd_T57 l0 x4_1).f1) ((rd_T57 l0 x4_1).f2) ((rd_T57 l0 x4_1).f3) _ _ ((rd_T57 l0 x4_1).f4) t15 t17 t18 t19 t16 _ ?s1 ?s2 ?s3 ?s4 A6.out).mono ?_); (case s1 => exact cC_ (Kd.C_below HR12_0.out HB.out)); (case s2 => exact HC12_0.out); (case s3 => exact cC_ (Kd.C_below HR12_4.out HB.out)); (case s4 => exact HC12_4.out); rintro e w8 ⟨v25, v26, rfl, ho0, ho1, hb⟩; refine ⟨_, rfl, ?_⟩; replace HO_3 := A_ (Kd.S_mono (Kd.S_told (Kd.S_told (Kd.S_old (vS_ HO_3.out) hb) (kb_ ho0)) (kb_ ho1)) (fun _ h_ => h_.1)); have HO20 := A_ (Kd.R_lower ho0 (below_size bB_)); have HO21 := A_ (Kd.R_lower ho1 (below_size bB_)); replace HB := A_ (below_step bB_ hb); clear hb ho0 ho1; obtain ⟨Ao10, co10, eo10⟩ := Kd.R_slice HO20.out; subst eo10; obtain ⟨Ao11, co11, eo11⟩ := Kd.R_slice HO21.out; subst eo11) | ((with_reducible refine gate_builtin (b := .append) (xs := #[.tmp 12, .tmp 18]) rfl ?_); at_builtin; refine Kd.S_append k57 (w0 := w) w.heap.size rfl (.tmp 12) (.tmp 18) 26 57 (.agg #[(.slice none 0 0), (.bool false), (.string ⟨#[]⟩), (.int .i64 0), (.slice none 0 0)]) 80 rfl Try.underlying26 info57 rfl (by decide) (by omega) u3 x3_1 (⟨t15, t17, t18, t19, t16⟩ : S57) [.slice Ao10 t15.length co10, .bool t17, .string t18, .int .i64 t19, .slice Ao11 t16.length co11] (fun _ => True) (fun k_ => some k_ = (.slice Ao10 t15.length co10 : Value).ownBlock \/ some k_ = (.slice Ao11 t16.length co11 : Value).ownBlock) rfl rfl ?aP (fun k_ hk_ => hk_.elim (fun h_ => ((Kd.R_mono (ok' := fun k_ => ((fun _ => True)) k_ /\ some k_ ≠ (u3 : Value).ownBlock) (Kd.R_apart' (HO20.out) (Kd.S_typed HO_3.out) (by decide)) (fun k_ hk => ⟨trivial, hk.2⟩))).1 k_ h_.symm) (fun h_ => ((Kd.R_mono (ok' := fun k_ => ((fun _ => True)) k_ /\ some k_ ≠ (u3 : Value).ownBlock) (Kd.R_apart' (HO21.out) (Kd.S_typed HO_3.out) (by decide)) (fun k_ hk => ⟨trivial, hk.2⟩))).1 k_ h_.symm)) ?aF ?aO ?aB ?aS ?aL ?_; (case aP => exact k57_mkM _ _ _ (⟨t15, t17, t18, t19, t16⟩ : S57) (Kd.R_mono (Kd.R_tight rfl (Kd.R_mono (ok' := fun k_ => ((fun _ => True)) k_ /\ some k_ ≠ (u3 : Value).ownBlock) (Kd.R_apart' (HO20.out) (Kd.S_typed HO_3.out) (by decide)) (fun k_ hk => ⟨trivial, hk.2⟩))) (fun _ h_ => Or.inl h_)) (Kd.R_mono (Kd.R_tight rfl (Kd.R_mono (ok' := fun k_ => ((fun _ => True)) k_ /\ some k_ ≠ (u3 : Value).ownBlock) (Kd.R_apart' (HO21.out) (Kd.S_typed HO_3.out) (by decide)) (fun k_ hk => ⟨trivial, hk.2⟩))) (fun _ h_ => Or.inr (h_)))); (case aB => exact bB_); (case aF => exact (fun _ _ => trivial)); (case aO => exact (by (with_reducible repeat (first | apply Kd.S_alloc | apply Kd.S_drewN | apply Kd.S_drew)); exact Kd.S_mono HO_3.out (fun k_ hk => ⟨trivial, fun e_ => e_.elim (fun h_ => hk.1.2 h_) (fun h_ => hk.2 h_)⟩))); (case aS => exact (below_size bB_)); (case aL => have := LMc7.out; omega); intro v27 w9 ho hb hg hat; rw [← Ny14.out] at ho; replace HB := A_ (hb); have HO23 := A_ (ho); clear HO_3 HO20 HO21; clear ho hb hg hat))
   go_roundg k1
   case measure => have := HK1.out; omega
   case rel => exact ⟨(y14), (wrap64 (x4_1 + 1)), rs_, H', ⟨by have := HK1.out; omega⟩, ⟨vS_ HO23.out⟩, ⟨bB_⟩⟩
def spec_Under.f (k : Nat) (l0 : List ByteArray) (l1 : List ByteArray) : Option (Bool) := if (l0.length : Int) > (l1.length : Int) then (if 0 <= (l1.length : Int) then (if (l1.length : Int) <= (l0.length : Int) then ((spec_SamePath.f k (l0.take ((l1.length : Int) : Int).toNat) l1).bind fun t203 => (some t203)) else (none)) else (none)) else (some false)
theorem spec_Under.calls (k : Nat) (A0 : Option Addr) (c0 : Nat) (l0 : List ByteArray) (A1 : Option Addr) (c1 : Nat) (l1 : List ByteArray) (r : Bool) (w : World) (hr0 : Kd.C Kd.string w A0 l0.length l0) (hc0 : l0.length <= c0) (hr1 : Kd.C Kd.string w A1 l1.length l1) (hc1 : l1.length <= c1) (h : spec_Under.f k l0 l1 = some r) :
 Calls Try.prog 106 #[.slice A0 l0.length c0, .slice A1 l1.length c1] w fun e w' => e = .returned (.bool r) /\ Drawn0 w w' := by
 have HR0 := A_ hr0
 have HC0 := A_ hc0
 clear hr0 hc0
 have HR1 := A_ hr1
 have HC1 := A_ hc1
 clear hr1 hc1
 have H : (if (l0.length : Int) > (l1.length : Int) then (if 0 <= (l1.length : Int) then (if (l1.length : Int) <= (l0.length : Int) then ((spec_SamePath.f k (l0.take ((l1.length : Int) : Int).toNat) l1).bind fun t8 => (some t8)) else (none)) else (none)) else (some false)) = some r := h
 clear h
 by_cases c3 : (l0.length : Int) > (l1.length : Int)
 rotate_left
 . rw [if_neg c3] at H
   have c3b0 : decide ((l1.length : Int) < (l0.length : Int)) = false := decide_eq_false c3
   have c3b1 : decide (l1.length < l0.length) = false := decide_eq_false (fun h => c3 (Int.ofNat_lt.mpr h))
   clear c3
   obtain rfl := si_ H
   go_enter Try.func106, Try.ntmps106
   go_wp2
   go_ret
   exact ⟨rs_, dr_⟩
 rw [if_pos c3] at H
 have c3b0 : decide ((l1.length : Int) < (l0.length : Int)) = true := decide_eq_true c3
 have c3b1 : decide (l1.length < l0.length) = true := decide_eq_true (Int.ofNat_lt.mp c3)
 clear c3
 by_cases c4 : 0 <= (l1.length : Int)
 rotate_left
 . exact absurd H (by rw [if_neg c4]; simp)
 rw [if_pos c4] at H
 have c4b0 := eq_true c4
 have c4b1 := decide_eq_true c4
 clear c4
 by_cases c5 : (l1.length : Int) <= (l0.length : Int)
 rotate_left
 . exact absurd H (by rw [if_neg c5]; simp)
 rw [if_pos c5] at H
 have c5b0 := eq_true c5
 have c5b1 := decide_eq_true c5
 clear c5
 obtain ⟨t8, A6, H⟩ := bo_ H
 (try dsimp only at H)
 obtain rfl := si_ H
 obtain ⟨i07, hi07, _, hsz7, _⟩ := info_parts info9
 obtain ⟨hcut7, hA7, hC7⟩ := print_take_of (P := Try.prog) Value.string (⟨#[]⟩ : ByteArray) 23 9 .i64 Try.underlying23 hi07 hsz7 A0 c0 l0 (l1.length : Int) od_ od_ HC0.out
 have HR10 := A_ (Kd.C_of_reads (h1 := fun _ => rfl) (hA7 _ (Kd.reads_of_C HR0.out)))
 have HC10 := A_ hC7
 clear hA7 hC7 hi07 hsz7
 go_enter Try.func106, Try.ntmps106
 go_wp2_with (first | (go_at_call 104; refine calls_of_args (args' := #[.slice A0 (l0.take ((l1.length : Int) : Int).toNat).length c0, .slice A1 l1.length c1]) (by first | (simp only [List.length_take, List.length_drop, Int.toNat_natCast]; done) | (rw [show (l0.take ((l1.length : Int) : Int).toNat).length = (l1.length : Int).toNat from (by rw [List.length_take]; have h_ : ((l1.length : Int) : Int) <= (l0.length : Int) := od_; omega)] <;> rfl) | rfl) ?_; (with_reducible refine (spec_SamePath.calls k _ _ (l0.take ((l1.length : Int) : Int).toNat) _ _ l1 t8 _ ?s1 ?s2 ?s3 ?s4 A6.out).mono ?_); (case s1 => exact cC_ HR10.out); (case s2 => exact HC10.out); (case s3 => exact cC_ HR1.out); (case s4 => exact HC1.out); rintro e w' ⟨rfl, ⟨nd, rfl⟩⟩))
 go_ret
 exact ⟨rs_, dr_⟩
def spec_l11Without.l0 : Nat -> List (S57) -> List ByteArray -> List (S57) -> Int -> Option ((List (S57)))
 | 0, _, _, _, _ => none
 | k + 1, x0, x1, x5, x6 => if x6 < (x0.length : Int) then (if 0 <= x6 then ((spec_SamePath.f k ((rd_T57 x0 x6).f0) x1).bind fun t208 => (if t208 = true then (spec_l11Without.l0 k x0 x1 x5 (wrap64 (x6 + 1))) else ((spec_Under.f k ((rd_T57 x0 x6).f0) x1).bind fun t210 => (if t210 = true then (spec_l11Without.l0 k x0 x1 x5 (wrap64 (x6 + 1))) else ((spec_l10Copy.f ((rd_T57 x0 x6).f0) ((rd_T57 x0 x6).f1) ((rd_T57 x0 x6).f2) ((rd_T57 x0 x6).f3) ((rd_T57 x0 x6).f4)).bind fun bt212 => (if x5.length < 1759218604441 then (spec_l11Without.l0 k x0 x1 (x5 ++ [(⟨bt212.1, bt212.2.1, bt212.2.2.1, bt212.2.2.2.1, bt212.2.2.2.2⟩ : S57)]) (wrap64 (x6 + 1))) else (none))))))) else (none)) else (some x5)
def spec_l11Without.f (k : Nat) (l0 : List (S57)) (l1 : List ByteArray) : Option ((List (S57))) := spec_l11Without.l0 k l0 l1 (([] : List (S57))) 0
theorem spec_l11Without.calls (k : Nat) (A0 : Option Addr) (c0 : Nat) (l0 : List (S57)) (A1 : Option Addr) (c1 : Nat) (l1 : List ByteArray) (r : List (S57)) (w : World) (hr0 : Kd.C k57 w A0 l0.length l0) (hc0 : l0.length <= c0) (hr1 : Kd.C Kd.string w A1 l1.length l1) (hc1 : l1.length <= c1) (h : spec_l11Without.f k l0 l1 = some r) :
 Calls Try.prog 63 #[.slice A0 l0.length c0, .slice A1 l1.length c1] w fun e w' => ∃ v0_ : Value, e = .returned (v0_) /\ Kd.S k57 57 w' w.heap.size (fun _ => True) v0_ r /\ Below w.heap.size w w' := by
 have hu57 := Try.underlying57
 have HR0 := A_ hr0
 clear hr0 hc0
 have HR1 := A_ hr1
 have HC1 := A_ hc1
 clear hr1 hc1
 have HB := A_ (Below.refl w.heap.size w)
 have H : (spec_l11Without.l0 k l0 l1 (([] : List (S57))) 0) = some r := h
 clear h
 obtain ⟨y20, hy20⟩ : ∃ y_ : List (S57), y_ = (([] : List (S57))) := ⟨_, rfl⟩
 replace H : (spec_l11Without.l0 k l0 l1 y20 0) = some r := hy_ hy20 H
 have Ny20 := A_ hy20
 clear hy20
 have H' := A_ H
 clear H
 go_enter Try.func63, Try.ntmps63
 go_wp2_with (first | ((with_reducible refine gd_ (N := 7) rfl ?_); refine Kd.S_lit k57 _ 57 ?hg (N := 7) ?hd (xs := ([] : List (S57))) (inner := []) (ok := fun _ => True) (okp := fun _ => True) ?hr ?hp (fun _ hk => hk) trivial (Below.refl _ _) (Nat.le_refl _) (by simp) ?_; (case hd => rfl); (case hg => rfl); (case hr => first | (go_simp; done) | (go_simp; rfl)); (case hp => exact (Reps.none _ _)); intro v33 w3 ho4 hb hg_ hnew_; clear hg_ hnew_; (first | rw [← Ny20.out] at ho4 | (simp only [Int.reduceToNat] at ho4; rw [← Ny20.out] at ho4)); have HO29 := A_ (Kd.S_lower ho4 (below_size bB_)); replace HB := A_ (below_step bB_ hb); clear hb ho4))
 go_loopg [5, 6] k (fun kq v5 v6 w' => ∃ (x5_1 : List (S57)) (x6_1 : Int), v6 = .int .i64 x6_1 /\ Aside0 (spec_l11Without.l0 kq l0 l1 x5_1 x6_1 = some r) /\ Aside0 (kq <= k) /\ Aside0 (Kd.S k57 57 w' w.heap.size (fun _ => True) v5 x5_1) /\ Aside0 (Below w.heap.size w w'))
 case atStart => exact ⟨(y20), (0), rs_, H', ⟨Nat.le_refl _⟩, ⟨vS_ HO29.out⟩, ⟨bB_⟩⟩
 case round =>
  clear H'
  obtain ⟨x5_1, x6_1, rfl, HA, HK1, HO_5, HB⟩ := hrel
  cases gk with
  | zero => exact absurd HA.out (by simp [spec_l11Without.l0])
  | succ k1 =>
   have H := HA.out
   clear HA
   simp only [spec_l11Without.l0] at H
   by_cases c5 : x6_1 < (l0.length : Int)
   rotate_left
   . rw [if_neg c5] at H
     have c5b0 := decide_eq_false c5
     clear c5
     obtain rfl := si_ H
     go_wp2
     go_ret
     exact ⟨_, rr_, vS_ HO_5.out, bB_⟩
   rw [if_pos c5] at H
   have c5b0 := decide_eq_true c5
   clear c5
   by_cases c6 : 0 <= x6_1
   rotate_left
   . exact absurd H (by rw [if_neg c6]; simp)
   rw [if_pos c6] at H
   have c6b0 := decide_eq_true c6
   clear c6
   obtain ⟨t30, A7, H⟩ := bo_ H
   (try dsimp only at H)
   by_cases c8 : t30 = true
   . subst c8
     rw [if_pos rfl] at H
     have H' := A_ H
     clear H
     have p17 : 0 <= (x6_1 : Int) := od_
     have q17 : x6_1 < (l0.length : Int) := od_
     obtain ⟨ad17, A17_0, c17_0, A17_4, c17_4, e17, hx17_0, hx17_1, hx17_2, hx17_3, hx17_4, hl17_0, hi17_0, hl17_4, hi17_4⟩ := at_T57 HR0.out x6_1 p17 q17
     cases e17
     replace hx17_0 := bc_ HB.out hx17_0
     replace hx17_1 := bc_ HB.out hx17_1
     replace hx17_2 := bc_ HB.out hx17_2
     replace hx17_3 := bc_ HB.out hx17_3
     replace hx17_4 := bc_ HB.out hx17_4
     have HR17_0 := A_ hi17_0
     have HC17_0 := A_ hl17_0
     clear hi17_0 hl17_0
     clear hi17_4 hl17_4
     replace p17 := eq_true p17
     replace q17 := eq_true q17
     go_wp2_with (first | ((with_reducible refine gc_ (f := 104) rfl ?_); refine gL_ (some 20) Try.func104 #[.slice A17_0 ((rd_T57 l0 x6_1).f0).length c17_0, .slice A1 l1.length c1] ?_; (with_reducible refine (spec_SamePath.calls k1 _ _ ((rd_T57 l0 x6_1).f0) _ _ l1 true _ ?s1 ?s2 ?s3 ?s4 A7.out).mono ?_); (case s1 => exact cC_ (Kd.C_below HR17_0.out HB.out)); (case s2 => exact HC17_0.out); (case s3 => exact cC_ (Kd.C_below HR1.out HB.out)); (case s4 => exact HC1.out); rintro e w' ⟨rfl, ⟨nd, rfl⟩⟩; refine ⟨_, rfl, ?_⟩))
     go_roundg k1
     case measure => have := HK1.out; omega
     case rel => exact ⟨(x5_1), (wrap64 (x6_1 + 1)), rs_, H', ⟨by have := HK1.out; omega⟩, ⟨vS_ HO_5.out⟩, ⟨bB_⟩⟩
   . replace c8 := Bool.eq_false_iff.mpr c8
     subst c8
     rw [if_neg nf_] at H
     obtain ⟨t31, A9, H⟩ := bo_ H
     (try dsimp only at H)
     by_cases c10 : t31 = true
     . subst c10
       rw [if_pos rfl] at H
       have H' := A_ H
       clear H
       have p17 : 0 <= (x6_1 : Int) := od_
       have q17 : x6_1 < (l0.length : Int) := od_
       obtain ⟨ad17, A17_0, c17_0, A17_4, c17_4, e17, hx17_0, hx17_1, hx17_2, hx17_3, hx17_4, hl17_0, hi17_0, hl17_4, hi17_4⟩ := at_T57 HR0.out x6_1 p17 q17
       cases e17
       replace hx17_0 := bc_ HB.out hx17_0
       replace hx17_1 := bc_ HB.out hx17_1
       replace hx17_2 := bc_ HB.out hx17_2
       replace hx17_3 := bc_ HB.out hx17_3
       replace hx17_4 := bc_ HB.out hx17_4
       have HR17_0 := A_ hi17_0
       have HC17_0 := A_ hl17_0
       clear hi17_0 hl17_0
       clear hi17_4 hl17_4
       replace p17 := eq_true p17
       replace q17 := eq_true q17
       go_wp2_with (first | ((with_reducible refine gc_ (f := 104) rfl ?_); refine gL_ (some 20) Try.func104 #[.slice A17_0 ((rd_T57 l0 x6_1).f0).length c17_0, .slice A1 l1.length c1] ?_; (with_reducible refine (spec_SamePath.calls k1 _ _ ((rd_T57 l0 x6_1).f0) _ _ l1 false _ ?s1 ?s2 ?s3 ?s4 A7.out).mono ?_); (case s1 => exact cC_ (Kd.C_below HR17_0.out HB.out)); (case s2 => exact HC17_0.out); (case s3 => exact cC_ (Kd.C_below HR1.out HB.out)); (case s4 => exact HC1.out); rintro e w' ⟨rfl, ⟨nd, rfl⟩⟩; refine ⟨_, rfl, ?_⟩; have p18 : 0 <= (x6_1 : Int) := od_; have q18 : x6_1 < (l0.length : Int) := od_; obtain ⟨ad18, A18_0, c18_0, A18_4, c18_4, e18, hx18_0, hx18_1, hx18_2, hx18_3, hx18_4, hl18_0, hi18_0, hl18_4, hi18_4⟩ := at_T57 HR0.out x6_1 p18 q18; obtain rfl : ad17 = ad18 := (by injection e18); replace hx18_0 := bc_ HB.out hx18_0; replace hx18_1 := bc_ HB.out hx18_1; replace hx18_2 := bc_ HB.out hx18_2; replace hx18_3 := bc_ HB.out hx18_3; replace hx18_4 := bc_ HB.out hx18_4; have HR18_0 := A_ hi18_0; have HC18_0 := A_ hl18_0; clear hi18_0 hl18_0; clear hi18_4 hl18_4; replace p18 := eq_true p18; replace q18 := eq_true q18; have ea_ := Option.some.inj (hx17_0.symm.trans hx18_0); injection ea_ with ea_ en_ ec_; subst ea_; subst ec_; clear en_; have ea_ := Option.some.inj (hx17_4.symm.trans hx18_4); injection ea_ with ea_ en_ ec_; subst ea_; subst ec_; clear en_) | (go_at_call 106; (with_reducible refine (spec_Under.calls k1 _ _ ((rd_T57 l0 x6_1).f0) _ _ l1 true _ ?s1 ?s2 ?s3 ?s4 A9.out).mono ?_); (case s1 => exact cC_ (Kd.C_below HR18_0.out bB_)); (case s2 => exact HC18_0.out); (case s3 => exact cC_ (Kd.C_below HR1.out bB_)); (case s4 => exact HC1.out); rintro e w' ⟨rfl, ⟨nd, rfl⟩⟩))
       go_roundg k1
       case measure => have := HK1.out; omega
       case rel => exact ⟨(x5_1), (wrap64 (x6_1 + 1)), rs_, H', ⟨by have := HK1.out; omega⟩, ⟨vS_ HO_5.out⟩, ⟨bB_⟩⟩
     . replace c10 := Bool.eq_false_iff.mpr c10
       subst c10
       rw [if_neg nf_] at H
       obtain ⟨⟨t22, t24, t25, t26, t23⟩, A11, H⟩ := bo_ H
       (try dsimp only at H)
       by_cases c12 : x5_1.length < 1759218604441
       rotate_left
       . exact absurd H (by rw [if_neg c12]; simp)
       rw [if_pos c12] at H
       have LMc12 := A_ c12
       clear c12
       obtain ⟨y21, hy21⟩ : ∃ y_ : List (S57), y_ = (x5_1 ++ [(⟨t22, t24, t25, t26, t23⟩ : S57)]) := ⟨_, rfl⟩
       replace H : (spec_l11Without.l0 k1 l0 l1 y21 (wrap64 (x6_1 + 1))) = some r := hy_ hy21 H
       have Ny21 := A_ hy21
       clear hy21
       have H' := A_ H
       clear H
       have p17 : 0 <= (x6_1 : Int) := od_
       have q17 : x6_1 < (l0.length : Int) := od_
       obtain ⟨ad17, A17_0, c17_0, A17_4, c17_4, e17, hx17_0, hx17_1, hx17_2, hx17_3, hx17_4, hl17_0, hi17_0, hl17_4, hi17_4⟩ := at_T57 HR0.out x6_1 p17 q17
       cases e17
       replace hx17_0 := bc_ HB.out hx17_0
       replace hx17_1 := bc_ HB.out hx17_1
       replace hx17_2 := bc_ HB.out hx17_2
       replace hx17_3 := bc_ HB.out hx17_3
       replace hx17_4 := bc_ HB.out hx17_4
       have HR17_0 := A_ hi17_0
       have HC17_0 := A_ hl17_0
       clear hi17_0 hl17_0
       clear hi17_4 hl17_4
       replace p17 := eq_true p17
       replace q17 := eq_true q17
       go_wp2_with (first | ((with_reducible refine gc_ (f := 104) rfl ?_); refine gL_ (some 20) Try.func104 #[.slice A17_0 ((rd_T57 l0 x6_1).f0).length c17_0, .slice A1 l1.length c1] ?_; (with_reducible refine (spec_SamePath.calls k1 _ _ ((rd_T57 l0 x6_1).f0) _ _ l1 false _ ?s1 ?s2 ?s3 ?s4 A7.out).mono ?_); (case s1 => exact cC_ (Kd.C_below HR17_0.out HB.out)); (case s2 => exact HC17_0.out); (case s3 => exact cC_ (Kd.C_below HR1.out HB.out)); (case s4 => exact HC1.out); rintro e w' ⟨rfl, ⟨nd, rfl⟩⟩; refine ⟨_, rfl, ?_⟩; have p18 : 0 <= (x6_1 : Int) := od_; have q18 : x6_1 < (l0.length : Int) := od_; obtain ⟨ad18, A18_0, c18_0, A18_4, c18_4, e18, hx18_0, hx18_1, hx18_2, hx18_3, hx18_4, hl18_0, hi18_0, hl18_4, hi18_4⟩ := at_T57 HR0.out x6_1 p18 q18; obtain rfl : ad17 = ad18 := (by injection e18); replace hx18_0 := bc_ HB.out hx18_0; replace hx18_1 := bc_ HB.out hx18_1; replace hx18_2 := bc_ HB.out hx18_2; replace hx18_3 := bc_ HB.out hx18_3; replace hx18_4 := bc_ HB.out hx18_4; have HR18_0 := A_ hi18_0; have HC18_0 := A_ hl18_0; clear hi18_0 hl18_0; clear hi18_4 hl18_4; replace p18 := eq_true p18; replace q18 := eq_true q18; have ea_ := Option.some.inj (hx17_0.symm.trans hx18_0); injection ea_ with ea_ en_ ec_; subst ea_; subst ec_; clear en_; have ea_ := Option.some.inj (hx17_4.symm.trans hx18_4); injection ea_ with ea_ en_ ec_; subst ea_; subst ec_; clear en_) | (go_at_call 106; (with_reducible refine (spec_Under.calls k1 _ _ ((rd_T57 l0 x6_1).f0) _ _ l1 false _ ?s1 ?s2 ?s3 ?s4 A9.out).mono ?_); (case s1 => exact cC_ (Kd.C_below HR18_0.out bB_)); (case s2 => exact HC18_0.out); (case s3 => exact cC_ (Kd.C_below HR1.out bB_)); (case s4 => exact HC1.out); rintro e w' ⟨rfl, ⟨nd, rfl⟩⟩; have p19 : 0 <= (x6_1 : Int) := od_; have q19 : x6_1 < (l0.length : Int) := od_; obtain ⟨ad19, A19_0, c19_0, A19_4, c19_4, e19, hx19_0, hx19_1, hx19_2, hx19_3, hx19_4, hl19_0, hi19_0, hl19_4, hi19_4⟩ := at_T57 HR0.out x6_1 p19 q19; obtain rfl : ad17 = ad19 := (by injection e19); replace hx19_0 := bc_ HB.out hx19_0; replace hx19_1 := bc_ HB.out hx19_1; replace hx19_2 := bc_ HB.out hx19_2; replace hx19_3 := bc_ HB.out hx19_3; replace hx19_4 := bc_ HB.out hx19_4; have HR19_0 := A_ hi19_0; have HC19_0 := A_ hl19_0; clear hi19_0 hl19_0; have HR19_4 := A_ hi19_4; have HC19_4 := A_ hl19_4; clear hi19_4 hl19_4; replace p19 := eq_true p19; replace q19 := eq_true q19; have ea_ := Option.some.inj (hx17_0.symm.trans hx19_0); injection ea_ with ea_ en_ ec_; subst ea_; subst ec_; clear en_; have ea_ := Option.some.inj (hx17_4.symm.trans hx19_4); injection ea_ with ea_ en_ ec_; subst ea_; subst ec_; clear en_) | ((with_reducible refine gc_ (f := 105) rfl ?_); refine gL_ (some 37) Try.func105 #[.agg #[.slice A17_0 ((rd_T57 l0 x6_1).f0).length c17_0, .bool ((rd_T57 l0 x6_1).f1), .string ((rd_T57 l0 x6_1).f2), .int .i64 ((rd_T57 l0 x6_1).f3), .slice A17_4 ((rd_T57 l0 x6_1).f4).length c17_4]] ?_; (with_reducible refine (spec_l10Copy.calls _ _ ((rd_T57 l0 x6_1).f0) ((rd_T57 l0 x6_1).f1) ((rd_T57 l0 x6_1).f2) ((rd_T57 l0 x6_1).f3) _ _ ((rd_T57 l0 x6_1).f4) t22 t24 t25 t26 t23 _ ?s1 ?s2 ?s3 ?s4 A11.out).mono ?_); (case s1 => exact cC_ (Kd.C_below HR19_0.out bB_)); (case s2 => exact HC19_0.out); (case s3 => exact cC_ (Kd.C_below HR19_4.out bB_)); (case s4 => exact HC19_4.out); rintro e w13 ⟨v34, v35, rfl, ho0, ho1, hb⟩; refine ⟨_, rfl, ?_⟩; replace HO_5 := A_ (Kd.S_mono (Kd.S_told (Kd.S_told (Kd.S_old (vS_ HO_5.out) hb) (kb_ ho0)) (kb_ ho1)) (fun _ h_ => h_.1)); have HO27 := A_ (Kd.R_lower ho0 (below_size bB_)); have HO28 := A_ (Kd.R_lower ho1 (below_size bB_)); replace HB := A_ (below_step bB_ hb); clear hb ho0 ho1; obtain ⟨Ao15, co15, eo15⟩ := Kd.R_slice HO27.out; subst eo15; obtain ⟨Ao16, co16, eo16⟩ := Kd.R_slice HO28.out; subst eo16) | ((with_reducible refine gate_builtin (b := .append) (xs := #[.tmp 32, .tmp 38]) rfl ?_); at_builtin; refine Kd.S_append k57 (w0 := w) w.heap.size rfl (.tmp 32) (.tmp 38) 26 57 (.agg #[(.slice none 0 0), (.bool false), (.string ⟨#[]⟩), (.int .i64 0), (.slice none 0 0)]) 80 rfl Try.underlying26 info57 rfl (by decide) (by omega) u5 x5_1 (⟨t22, t24, t25, t26, t23⟩ : S57) [.slice Ao15 t22.length co15, .bool t24, .string t25, .int .i64 t26, .slice Ao16 t23.length co16] (fun _ => True) (fun k_ => some k_ = (.slice Ao15 t22.length co15 : Value).ownBlock \/ some k_ = (.slice Ao16 t23.length co16 : Value).ownBlock) rfl rfl ?aP (fun k_ hk_ => hk_.elim (fun h_ => ((Kd.R_mono (ok' := fun k_ => ((fun _ => True)) k_ /\ some k_ ≠ (u5 : Value).ownBlock) (Kd.R_apart' (HO27.out) (Kd.S_typed HO_5.out) (by decide)) (fun k_ hk => ⟨trivial, hk.2⟩))).1 k_ h_.symm) (fun h_ => ((Kd.R_mono (ok' := fun k_ => ((fun _ => True)) k_ /\ some k_ ≠ (u5 : Value).ownBlock) (Kd.R_apart' (HO28.out) (Kd.S_typed HO_5.out) (by decide)) (fun k_ hk => ⟨trivial, hk.2⟩))).1 k_ h_.symm)) ?aF ?aO ?aB ?aS ?aL ?_; (case aP => exact k57_mkM _ _ _ (⟨t22, t24, t25, t26, t23⟩ : S57) (Kd.R_mono (Kd.R_tight rfl (Kd.R_mono (ok' := fun k_ => ((fun _ => True)) k_ /\ some k_ ≠ (u5 : Value).ownBlock) (Kd.R_apart' (HO27.out) (Kd.S_typed HO_5.out) (by decide)) (fun k_ hk => ⟨trivial, hk.2⟩))) (fun _ h_ => Or.inl h_)) (Kd.R_mono (Kd.R_tight rfl (Kd.R_mono (ok' := fun k_ => ((fun _ => True)) k_ /\ some k_ ≠ (u5 : Value).ownBlock) (Kd.R_apart' (HO28.out) (Kd.S_typed HO_5.out) (by decide)) (fun k_ hk => ⟨trivial, hk.2⟩))) (fun _ h_ => Or.inr (h_)))); (case aB => exact bB_); (case aF => exact (fun _ _ => trivial)); (case aO => exact (by (with_reducible repeat (first | apply Kd.S_alloc | apply Kd.S_drewN | apply Kd.S_drew)); exact Kd.S_mono HO_5.out (fun k_ hk => ⟨trivial, fun e_ => e_.elim (fun h_ => hk.1.2 h_) (fun h_ => hk.2 h_)⟩))); (case aS => exact (below_size bB_)); (case aL => have := LMc12.out; omega); intro v36 w14 ho hb hg hat; rw [← Ny21.out] at ho; replace HB := A_ (hb); have HO32 := A_ (ho); clear HO_5 HO27 HO28; clear ho hb hg hat))
       go_roundg k1
       case measure => have := HK1.out; omega
       case rel => exact ⟨(y21), (wrap64 (x6_1 + 1)), rs_, H', ⟨by have := HK1.out; omega⟩, ⟨vS_ HO32.out⟩, ⟨bB_⟩⟩
def laws_toStringS.l0 : Nat -> List ByteArray -> List ByteArray -> Int -> Option (List ByteArray)
 | 0, _, _, _ => none
 | k + 1, x0, x3, x4 => if x4 < (x0.length : Int) then (if 0 <= x4 then (if x4 < (x3.length : Int) then (laws_toStringS.l0 k x0 (x3.set (x4 : Int).toNat (rdOf ByteArray.empty x0 x4)) (wrap64 (x4 + 1))) else (none)) else (none)) else (some x3)
def laws_toStringS.f (k : Nat) (l0 : List ByteArray) : Option (List ByteArray) := if 0 <= (l0.length : Int) then (if ((l0.length : Int) : Int).toNat <= 17592186044416 then (laws_toStringS.l0 k l0 (List.replicate ((l0.length : Int) : Int).toNat (⟨#[]⟩ : ByteArray)) 0) else (none)) else (none)
theorem laws_toStringS.calls (k : Nat) (A0 : Option Addr) (c0 : Nat) (l0 : List ByteArray) (r : List ByteArray) (w : World) (hr0 : Kd.C Kd.string w A0 l0.length l0) (hc0 : l0.length <= c0) (h : laws_toStringS.f k l0 = some r) :
 Calls Try.prog 17 #[.slice A0 l0.length c0] w fun e w' => ∃ v0_ : Value, e = .returned (v0_) /\ Kd.R Kd.string 9 w' w.heap.size (fun _ => True) v0_ r /\ Below w.heap.size w w' := by
 have HR0 := A_ hr0
 clear hr0 hc0
 have HB := A_ (Below.refl w.heap.size w)
 have H : (if 0 <= (l0.length : Int) then (if ((l0.length : Int) : Int).toNat <= 17592186044416 then (laws_toStringS.l0 k l0 (List.replicate ((l0.length : Int) : Int).toNat (⟨#[]⟩ : ByteArray)) 0) else (none)) else (none)) = some r := h
 clear h
 by_cases c2 : 0 <= (l0.length : Int)
 rotate_left
 . exact absurd H (by rw [if_neg c2]; simp)
 rw [if_pos c2] at H
 have c2b0 := eq_true c2
 have c2b1 := decide_eq_true c2
 clear c2
 by_cases c3 : ((l0.length : Int) : Int).toNat <= 17592186044416
 rotate_left
 . exact absurd H (by rw [if_neg c3]; simp)
 rw [if_pos c3] at H
 have c3b0 := eq_true c3
 have c3b1 := decide_eq_true c3
 clear c3
 obtain ⟨y13, hy13⟩ : ∃ y_ : List ByteArray, y_ = (List.replicate ((l0.length : Int) : Int).toNat (⟨#[]⟩ : ByteArray)) := ⟨_, rfl⟩
 replace H : (laws_toStringS.l0 k l0 y13 0) = some r := hy_ hy13 H
 have Ny13 := A_ hy13
 clear hy13
 have H' := A_ H
 clear H
 go_enter Try.func17, Try.ntmps17
 go_wp2_with (first | ((with_reducible refine gd_ (N := 7) rfl ?_); refine Kd.R_make Kd.string _ 9 rfl (N := 7) rfl 23 _ _ rfl (l0.length : Int) rfl rfl Try.underlying23 (.string ⟨#[]⟩) 16 info9 rfl (by decide) (by omega) (⟨#[]⟩ : ByteArray) (ok := fun _ => True) (okp := fun _ => True) rfl (fun _ hk => hk) trivial od_ (Nat.le_trans (Nat.mul_le_mul_right _ (od_ : (l0.length : Int).toNat <= 17592186044416)) (by omega)) (Below.refl _ _) (Nat.le_refl _) ?_; intro v15 w4 ho5 hb hg_ hnew_; clear hg_ hnew_; (first | rw [← Ny13.out] at ho5 | (simp only [Int.reduceToNat] at ho5; rw [← Ny13.out] at ho5)); have HO16 := A_ (Kd.R_lower ho5 (below_size bB_)); replace HB := A_ (below_step bB_ hb); clear hb ho5))
 go_loopg [4] k (fun kq v4 w' => ∃ (x3_1 : List ByteArray) (x4_1 : Int), v4 = .int .i64 x4_1 /\ Aside0 (laws_toStringS.l0 kq l0 x3_1 x4_1 = some r) /\ Aside0 (kq <= k) /\ Aside0 (Kd.R Kd.string 9 w' w.heap.size (fun _ => True) v15 x3_1) /\ Aside0 (Below w.heap.size w w'))
 case atStart => exact ⟨(y13), (0), rs_, H', ⟨Nat.le_refl _⟩, ⟨vR_ HO16.out⟩, ⟨bB_⟩⟩
 case round =>
  clear H'
  try clear c2
  try clear c2b0
  try clear c2b1
  try clear c3
  try clear c3b0
  try clear c3b1
  obtain ⟨x3_1, x4_1, rfl, HA, HK1, HO_3, HB⟩ := hrel
  cases gk with
  | zero => exact absurd HA.out (by simp [laws_toStringS.l0])
  | succ k1 =>
   have H := HA.out
   clear HA
   simp only [laws_toStringS.l0] at H
   by_cases c6 : x4_1 < (l0.length : Int)
   rotate_left
   . rw [if_neg c6] at H
     have c6b0 := decide_eq_false c6
     clear c6
     obtain rfl := si_ H
     go_wp2
     go_ret
     exact ⟨_, rr_, vR_ HO_3.out, bB_⟩
   rw [if_pos c6] at H
   have c6b0 := decide_eq_true c6
   clear c6
   by_cases c7 : 0 <= x4_1
   rotate_left
   . exact absurd H (by rw [if_neg c7]; simp)
   rw [if_pos c7] at H
   have c7b0 := decide_eq_true c7
   clear c7
   by_cases c8 : x4_1 < (x3_1.length : Int)
   rotate_left
   . exact absurd H (by rw [if_neg c8]; simp)
   rw [if_pos c8] at H
   have c8b0 := decide_eq_true c8
   clear c8
   obtain ⟨y14, hy14⟩ : ∃ y_ : List ByteArray, y_ = (x3_1.set (x4_1 : Int).toNat (rdOf ByteArray.empty l0 x4_1)) := ⟨_, rfl⟩
   replace H : (laws_toStringS.l0 k1 l0 y14 (wrap64 (x4_1 + 1))) = some r := hy_ hy14 H
   have Ny14 := A_ hy14
   clear hy14
   have H' := A_ H
   clear H
   have p12 : 0 <= (x4_1 : Int) := od_
   have q12 : x4_1 < (l0.length : Int) := od_
   obtain ⟨ad12, e12, hx12_0⟩ := Kd.at_string HR0.out x4_1 p12 q12
   cases e12
   replace hx12_0 := bc_ HB.out hx12_0
   replace p12 := eq_true p12
   replace q12 := eq_true q12
   have p9 : 0 <= (x4_1 : Int) := od_
   have q9 : (x4_1 : Int) < ((x3_1.length : Int) : Int) := od_
   obtain ⟨go9, co9, eo9, gb9, gl9, cl9, HG9⟩ := Kd.R_form HO_3.out (by omega)
   (first | cases eo9 | (injection eo9 with ea_ en_ ec_; (first | subst ea_ | (injection ea_ with ea_; subst ea_)); subst ec_; clear en_))
   have GB9 := A_ gb9
   have GG9 := A_ HG9
   clear gb9 gl9 HG9
   obtain ⟨hx9_0, hf9_0⟩ := Kd.R_celln (⟨#[]⟩ : ByteArray) HO_3.out (x4_1 : Int) p9 q9
   replace p9 := eq_true p9
   replace q9 := eq_true q9
   have HP10 := Kd.R_putg HO_3.out (x4_1 : Int) (rdOf ByteArray.empty l0 x4_1)
   go_wp2_with (first | ((with_reducible refine gate_store (t := 9) (p := 20) rfl ?_); refine store_event (t := 9) (p := 20) (v := ?vo_w11) (w1 := (wr.setCell ⟨go9, (x4_1 : Int).toNat, none⟩ (.string (rdOf ByteArray.empty l0 x4_1)))) ?hg ?ho ?hn ?hr ?_; (case ho => rfl); (case hg => rfl); (case hn => rfl); (case hr => first | (go_simp; done) | (go_simp; rfl)); intro w11 hw; have hg : wr.grownBy w11 (some go9) := (by rw [hw]; exact HP10.2); have hp_ : Kd.R Kd.string 9 w11 w.heap.size (fun _ => True) (.slice (some ⟨go9, 0, none⟩) x3_1.length co9) y14 := (by rw [hw, Ny14.out]; exact HP10.1); clear HP10; replace HO_3 := A_ (hp_); replace HB := A_ ((by rw [hw]; exact below_set (HB.out) GB9.out : Below w.heap.size w w11)); clear hg hw hp_))
   go_roundg k1
   case measure => have := HK1.out; omega
   case rel => exact ⟨(y14), (wrap64 (x4_1 + 1)), rs_, H', ⟨by have := HK1.out; omega⟩, ⟨vR_ HO_3.out⟩, ⟨bB_⟩⟩
def laws_toProp.f (a0_0 : ByteArray) (a0_1 : ByteArray) (a0_2 : ByteArray) : Option (ByteArray × ByteArray × ByteArray) := some (a0_0, a0_1, a0_2)
theorem laws_toProp.calls (a0_0 : ByteArray) (a0_1 : ByteArray) (a0_2 : ByteArray) (r1 : ByteArray) (r2 : ByteArray) (r3 : ByteArray) (w : World) (h : laws_toProp.f a0_0 a0_1 a0_2 = some (r1, r2, r3)) :
 Calls Try.prog 113 #[.agg #[.string a0_0, .string a0_1, .string a0_2]] w fun e w' => e = .returned (.agg #[.string r1, .string r2, .string r3]) /\ Below w.heap.size w w' := by
 have hu88 := Try.underlying88
 have hu72 := Try.underlying72
 have HB := A_ (Below.refl w.heap.size w)
 have H : (some (a0_0, a0_1, a0_2)) = some (r1, r2, r3) := h
 clear h
 simp only [Option.some.injEq, Prod.mk.injEq] at H
 obtain ⟨rfl, rfl, rfl⟩ := H
 go_enter Try.func113, Try.ntmps113
 go_wp2_with (first | ((with_reducible refine gd_ (N := 1) rfl ?_); refine bx_ (N := 1) (cs := #[.string a0_0, .string a0_1, .string a0_2]) (t := 88) ?_; intro gb11 hg w2 hbox hb; have BK11 := A_ (hbox); have GW11 := A_ (ge_ hg bB_ : w.heap.size <= gb11); have GE11 := A_ (ge_ hg bB_ : w.heap.size <= gb11); replace HB := A_ (below_step bB_ hb); clear hb hbox hg) | ((with_reducible refine gd_ (N := 2) rfl ?_); refine bx_ (N := 2) (cs := #[.string (⟨#[]⟩ : ByteArray), .string (⟨#[]⟩ : ByteArray), .string (⟨#[]⟩ : ByteArray)]) (t := 72) ?_; intro gb12 hg w3 hbox hb; have BK12 := A_ (hbox); have GW12 := A_ (ge_ hg (bG_ GE11.out) : w.heap.size <= gb12); have GE12 := A_ (ge_ hg (bG_ GE11.out) : w.heap.size <= gb12); replace HB := A_ (below_step (bG_ GE11.out) hb); have NB237_238 := A_ (gm_ hg BK11.out); have NB238_237 := A_ (gn_ hg BK11.out); replace BK11 := A_ (bw_ BK11.out hb); clear hb hbox hg) | ((with_reducible refine gd_ (N := 3) rfl ?_); refine bx_ (N := 3) (cs := #[.string (⟨#[]⟩ : ByteArray), .string (⟨#[]⟩ : ByteArray), .string (⟨#[]⟩ : ByteArray)]) (t := 72) ?_; intro gb13 hg w4 hbox hb; have BK13 := A_ (hbox); have GW13 := A_ ((by rw [hg]; exact (below_size (by repeat (first | (with_reducible first | exact HB.out | apply below_alloc | apply pw_below_drewN | apply below_drew1 | refine below_set ?_ GE11.out | refine below_set ?_ GE12.out) | exact HB.out))) : w.heap.size <= gb13)); have GE13 := A_ ((by rw [hg]; exact (below_size (by repeat (first | (with_reducible first | exact HB.out | apply below_alloc | apply pw_below_drewN | apply below_drew1 | refine below_set ?_ GE11.out | refine below_set ?_ GE12.out) | exact HB.out))) : w.heap.size <= gb13)); replace HB := A_ (below_step (by repeat (first | (with_reducible first | exact HB.out | apply below_alloc | apply pw_below_drewN | apply below_drew1 | refine below_set ?_ GE11.out | refine below_set ?_ GE12.out) | exact HB.out)) hb); have NB237_239 := A_ (gm_ hg BK11.out); have NB239_237 := A_ (gn_ hg BK11.out); replace BK11 := A_ (bw_ BK11.out hb); have NB238_239 := A_ (gm_ hg BK12.out); have NB239_238 := A_ (gn_ hg BK12.out); replace BK12 := A_ (bw_ BK12.out hb); clear hb hbox hg; have hnb5 := NB237_238.out; have hnc5 := NB238_237.out; have hnb6 := NB237_239.out; have hnc6 := NB239_237.out; obtain ⟨hcz7_0, hcz7_1, hcz7_2, hfz7_0, hfz7_1, hfz7_2⟩ := cz3_ BK11.out; have hnb8 := NB239_238.out; have hnc8 := NB238_239.out; obtain ⟨hcz9_0, hcz9_1, hcz9_2, hfz9_0, hfz9_1, hfz9_2⟩ := cz3_ BK13.out; obtain ⟨hcz10_0, hcz10_1, hcz10_2, hfz10_0, hfz10_1, hfz10_2⟩ := cz3_ BK12.out))
 refine bodyPost_ret (results_cell_row rfl _ _ gb12 72 #[.string a0_0, .string a0_1, .string a0_2] (0, 0) _ rfl (by (with_reducible repeat (first | refine blk_drewN ?_ _ | refine blk_drew ?_ | refine blk_alloc ?_ _)); refine blk_put (cs := #[.string a0_0, .string a0_1, .string (⟨#[]⟩ : ByteArray)]) ?_ 2 _ rfl; (with_reducible repeat (first | refine blk_drewN ?_ _ | refine blk_drew ?_ | refine blk_alloc ?_ _)); refine blk_put (cs := #[.string a0_0, .string (⟨#[]⟩ : ByteArray), .string (⟨#[]⟩ : ByteArray)]) ?_ 1 _ rfl; (with_reducible repeat (first | refine blk_drewN ?_ _ | refine blk_drew ?_ | refine blk_alloc ?_ _)); refine blk_put (cs := #[.string (⟨#[]⟩ : ByteArray), .string (⟨#[]⟩ : ByteArray), .string (⟨#[]⟩ : ByteArray)]) ?_ 0 _ rfl; (with_reducible repeat (first | refine blk_drewN ?_ _ | refine blk_drew ?_ | refine blk_alloc ?_ _)); refine blk_far ?_ NB238_239.out _; (with_reducible repeat (first | refine blk_drewN ?_ _ | refine blk_drew ?_ | refine blk_alloc ?_ _)); refine blk_far ?_ NB238_239.out _; (with_reducible repeat (first | refine blk_drewN ?_ _ | refine blk_drew ?_ | refine blk_alloc ?_ _)); refine blk_far ?_ NB238_239.out _; (with_reducible repeat (first | refine blk_drewN ?_ _ | refine blk_drew ?_ | refine blk_alloc ?_ _)); exact BK12.out) Try.underlying72 rfl (by kernel_rfl)) rfl ?_
 exact ⟨rr_, by repeat (first | (with_reducible first | exact HB.out | apply below_alloc | apply pw_below_drewN | apply below_drew1 | refine below_set ?_ GE11.out | refine below_set ?_ GE12.out | refine below_set ?_ GE13.out) | exact HB.out)⟩
end Go.Proofs.Ytbgggcgjijljkaa.Q
