-- PRINTED by print.py (a twelfth state) out of the translation. Not trusted: Lean checks it.
import Derived.Test.YtbgggcgjijljkaaVFnShelvesG22
import Derived.Test.YtbgggcgjijljkaaVFnShelvesG24
import Derived.Test.YtbgggcgjijljkaaVFnShelvesG25
import Derived.Test.YtbgggcgjijljkaaVFnShelvesG26
namespace Go.Proofs.Ytbgggcgjijljkaa.Q
open Go.RowKit Go.Proofs.YtbgggcgjijljkaaW.PrintWords Go.Proofs.YtbgggcgjijljkaaW.PrintLast Go.Proofs.YtbgggcgjijljkaaW.PrintMore
attribute [local go_sem] max2_int min2_int max_two min_two max_three min_three max_four min_four   -- for this text's walks alone
set_option linter.unusedVariables false
set_option linter.unusedSimpArgs false
def impl_opForm.l0 : Nat → Int → List (List ByteArray) → Int → Int → Option (Int)
 | 0, _, _, _, _ => none
 | k + 1, x1, x12, x13, x14 => if x14 < x13 then (if 0 ≤ x14 then (if x14 < (x12.length : Int) then ((impl_PathOk.f k (rd_L2 x12 x14)).bind fun t330 => (if t330 = true then (impl_opForm.l0 k x1 x12 x13 (wrap64 (x14 + 1))) else (some 400))) else (none)) else (none)) else ((impl_in.f x1 0 99999).bind fun t331 => (if t331 = true then (some 0) else (some 507)))
def impl_opForm.f (k : Nat) (l0 : List (S57)) (a1 : Int) (l2 : List (List ByteArray)) : Option (Int) := (impl_TreeOk.f k l0).bind fun t328 => (if t328 = true then (impl_opForm.l0 k a1 l2 (l2.length : Int) 0) else (some 500))
set_option maxHeartbeats 8000000 in
set_option maxRecDepth 100000 in
theorem impl_opForm.calls (k : Nat) (A0 : Option Addr) (c0 : Nat) (l0 : List (S57)) (a1 : Int) (A2 : Option Addr) (c2 : Nat) (l2 : List (List ByteArray)) (r : Int) (w : World) (hr0 : Kd.C k57 w A0 l0.length l0) (hc0 : l0.length ≤ c0) (hr2 : Kd.C (Kd.slice 9 Kd.string) w A2 l2.length l2) (hc2 : l2.length ≤ c2) (h : impl_opForm.f k l0 a1 l2 = some r) :
 Calls Try.prog 65 #[.slice A0 l0.length c0, .int .i64 a1, .slice A2 l2.length c2] w fun e w' => e = .returned (.int .i64 r) ∧ Below w.heap.size w w' := by
 have HR0 := Aside0.mk hr0
 have HC0 := Aside0.mk hc0
 clear hr0 hc0
 have HR2 := Aside0.mk hr2
 have HC2 := Aside0.mk hc2
 clear hr2 hc2
 have HB := A_ (Below.refl w.heap.size w)
 have H : ((impl_TreeOk.f k l0).bind fun t328 => (if t328 = true then (impl_opForm.l0 k a1 l2 (l2.length : Int) 0) else (some 500))) = some r := h
 clear h
 obtain ⟨t328, A4, H⟩ := bo_ H
 (try dsimp only at H)
 by_cases c5 : t328 = true
 · subst c5
   rw [if_pos rfl] at H
   have H' := Aside0.mk H
   clear H
   go_enter Try.func65, Try.ntmps65
   go_wp2_with (first | ((with_reducible refine gate_callee (f := 40) rfl ?_); refine gL_ (some 10) Try.func40 #[.slice A0 l0.length c0] ?_; (with_reducible refine (impl_TreeOk.calls k _ _ l0 true _ ?s1 ?s2 A4.out).mono ?_); (case s1 => exact cC_ HR0.out); (case s2 => exact HC0.out); rintro e w6 ⟨rfl, hb⟩; refine ⟨_, rfl, ?_⟩; replace HB := A_ (below_step bB_ hb); (try clear hb)))
   go_loopg [14] k (fun kq v14 w' => ∃ (x14_1 : Int), v14 = .int .i64 x14_1 ∧ Aside0 (impl_opForm.l0 kq a1 l2 (l2.length : Int) x14_1 = some r) ∧ Aside0 (kq ≤ k) ∧ Aside0 (Below w.heap.size w w'))
   case atStart => exact ⟨(0), rs_, H', ⟨Nat.le_refl _⟩, ⟨bB_⟩⟩
   case round =>
    clear H'
    try clear c2
    try clear p2
    try clear c4
    try clear c5
    try clear c6
    obtain ⟨x14_1, rfl, HA, HK1, HB⟩ := hrel
    cases gk with
    | zero => exact absurd HA.out (by simp [impl_opForm.l0])
    | succ k1 =>
     have H := HA.out
     clear HA
     simp only [impl_opForm.l0] at H
     by_cases c7 : x14_1 < (l2.length : Int)
     rotate_left
     · rw [if_neg c7] at H
       have c7b0 : decide (x14_1 < (l2.length : Int)) = false := decide_eq_false c7
       clear c7
       obtain ⟨t331, A12, H⟩ := bo_ H
       (try dsimp only at H)
       by_cases c13 : t331 = true
       · subst c13
         rw [if_pos rfl] at H
         obtain rfl := Option.some.inj H
         go_wp2_with (first | ((with_reducible refine gate_callee (f := 109) rfl ?_); refine gL_ (some 23) Try.func109 #[.int .i64 a1, .int .i64 0, .int .i64 99999] ?_; (with_reducible refine (impl_in.calls a1 0 99999 true _ A12.out).mono ?_); rintro e w' ⟨rfl, ⟨nd, rfl⟩⟩; refine ⟨_, rfl, ?_⟩))
         go_ret
         exact ⟨rr_, bB_⟩
       · replace c13 := Bool.eq_false_iff.mpr c13
         subst c13
         rw [if_neg nf_] at H
         obtain rfl := Option.some.inj H
         go_wp2_with (first | ((with_reducible refine gate_callee (f := 109) rfl ?_); refine gL_ (some 23) Try.func109 #[.int .i64 a1, .int .i64 0, .int .i64 99999] ?_; (with_reducible refine (impl_in.calls a1 0 99999 false _ A12.out).mono ?_); rintro e w' ⟨rfl, ⟨nd, rfl⟩⟩; refine ⟨_, rfl, ?_⟩))
         go_ret
         exact ⟨rr_, bB_⟩
     rw [if_pos c7] at H
     have c7b0 : decide (x14_1 < (l2.length : Int)) = true := decide_eq_true c7
     clear c7
     by_cases c8 : 0 ≤ x14_1
     rotate_left
     · exact absurd H (by rw [if_neg c8]; simp)
     rw [if_pos c8] at H
     have c8b0 : decide (0 ≤ x14_1) = true := decide_eq_true c8
     clear c8
     by_cases c9 : x14_1 < (l2.length : Int)
     rotate_left
     · exact absurd H (by rw [if_neg c9]; simp)
     rw [if_pos c9] at H
     have c9b0 : decide (x14_1 < (l2.length : Int)) = true := decide_eq_true c9
     clear c9
     obtain ⟨t330, A10, H⟩ := bo_ H
     (try dsimp only at H)
     by_cases c11 : t330 = true
     · subst c11
       rw [if_pos rfl] at H
       have H' := Aside0.mk H
       clear H
       have p329 : 0 ≤ (x14_1 : Int) := of_decide_eq_true as_
       have q329 : x14_1 < (l2.length : Int) := of_decide_eq_true as_
       obtain ⟨ad329, A329_0, c329_0, e329, hx329_0, hl329_0, hi329_0⟩ := at_L2 HR2.out x14_1 p329 q329
       cases e329
       replace hx329_0 := bc_ HB.out hx329_0
       have HR329_0 := Aside0.mk hi329_0
       have HC329_0 := Aside0.mk hl329_0
       clear hi329_0 hl329_0
       replace p329 := eq_true p329
       replace q329 := eq_true q329
       go_wp2_with (first | ((with_reducible refine gate_callee (f := 108) rfl ?_); refine gL_ (some 19) Try.func108 #[.slice A329_0 (rd_L2 l2 x14_1).length c329_0] ?_; (with_reducible refine (impl_PathOk.calls k1 _ _ (rd_L2 l2 x14_1) true _ ?s1 ?s2 A10.out).mono ?_); (case s1 => exact cC_ (Kd.C_below HR329_0.out HB.out)); (case s2 => exact HC329_0.out); rintro e w' ⟨rfl, ⟨nd, rfl⟩⟩; refine ⟨_, rfl, ?_⟩))
       go_roundg k1
       case measure => have := HK1.out; omega
       case rel => exact ⟨(wrap64 (x14_1 + 1)), rs_, H', ⟨by have := HK1.out; omega⟩, ⟨bB_⟩⟩
     · replace c11 := Bool.eq_false_iff.mpr c11
       subst c11
       rw [if_neg nf_] at H
       obtain rfl := Option.some.inj H
       have p329 : 0 ≤ (x14_1 : Int) := of_decide_eq_true as_
       have q329 : x14_1 < (l2.length : Int) := of_decide_eq_true as_
       obtain ⟨ad329, A329_0, c329_0, e329, hx329_0, hl329_0, hi329_0⟩ := at_L2 HR2.out x14_1 p329 q329
       cases e329
       replace hx329_0 := bc_ HB.out hx329_0
       have HR329_0 := Aside0.mk hi329_0
       have HC329_0 := Aside0.mk hl329_0
       clear hi329_0 hl329_0
       replace p329 := eq_true p329
       replace q329 := eq_true q329
       go_wp2_with (first | ((with_reducible refine gate_callee (f := 108) rfl ?_); refine gL_ (some 19) Try.func108 #[.slice A329_0 (rd_L2 l2 x14_1).length c329_0] ?_; (with_reducible refine (impl_PathOk.calls k1 _ _ (rd_L2 l2 x14_1) false _ ?s1 ?s2 A10.out).mono ?_); (case s1 => exact cC_ (Kd.C_below HR329_0.out HB.out)); (case s2 => exact HC329_0.out); rintro e w' ⟨rfl, ⟨nd, rfl⟩⟩; refine ⟨_, rfl, ?_⟩))
       go_ret
       exact ⟨rr_, bB_⟩
 · replace c5 := Bool.eq_false_iff.mpr c5
   subst c5
   rw [if_neg nf_] at H
   obtain rfl := Option.some.inj H
   go_enter Try.func65, Try.ntmps65
   go_wp2_with (first | ((with_reducible refine gate_callee (f := 40) rfl ?_); refine gL_ (some 10) Try.func40 #[.slice A0 l0.length c0] ?_; (with_reducible refine (impl_TreeOk.calls k _ _ l0 false _ ?s1 ?s2 A4.out).mono ?_); (case s1 => exact cC_ HR0.out); (case s2 => exact HC0.out); rintro e w14 ⟨rfl, hb⟩; refine ⟨_, rfl, ?_⟩; replace HB := A_ (below_step bB_ hb); (try clear hb)))
   go_ret
   exact ⟨rr_, bB_⟩
def impl_copyRes.f (l0_0 : List ByteArray) (a0_1 : Bool) (a0_2 : ByteArray) (a0_3 : Int) (l0_4 : List (S72)) : Option (List ByteArray × Bool × ByteArray × Int × (List (S72))) := (impl_copyPath.f l0_0).bind fun t334 => (if ([] : List (S72)).length + l0_4.length < 2932031007402 then (some (t334, a0_1, a0_2, a0_3, (([] : List (S72)) ++ l0_4))) else (none))
def impl_copyRes.T1 : Bool × List (List Nat × List Nat) := (true, [([], []), ([0], [0]), ([1], [1]), ([], []), ([3], [3]), ([4, 2], [4]), ([0, 1, 2, 3, 4], []), ([6, 2, 5, 0, 1, 2, 3, 4], [2, 6]), ([0, 1, 2, 3, 4, 5, 6, 7], []), ([8, 5, 7, 0, 1, 2, 3, 4, 5, 6, 7], [5, 8])])
def impl_copyRes.B1 : List Nat := [0, 1, 3, 0, 8, 31, 31, 127, 255, 511]
theorem impl_copyRes.tab1 : rtab .any (opsOf Try.f90 1) = impl_copyRes.T1 := by kernel_rfl
theorem impl_copyRes.bits1 : waitsOk impl_copyRes.T1.2 impl_copyRes.B1 = true := by kernel_rfl
set_option maxHeartbeats 8000000 in
set_option maxRecDepth 100000 in
theorem impl_copyRes.calls (A0_0 : Option Addr) (c0_0 : Nat) (l0_0 : List ByteArray) (a0_1 : Bool) (a0_2 : ByteArray) (a0_3 : Int) (A0_4 : Option Addr) (c0_4 : Nat) (l0_4 : List (S72)) (r1 : List ByteArray) (r2 : Bool) (r3 : ByteArray) (r4 : Int) (r5 : List (S72)) (w : World) (hr0_0 : Kd.C Kd.string w A0_0 l0_0.length l0_0) (hc0_0 : l0_0.length ≤ c0_0) (hr0_4 : Kd.C k72 w A0_4 l0_4.length l0_4) (hc0_4 : l0_4.length ≤ c0_4) (h : impl_copyRes.f l0_0 a0_1 a0_2 a0_3 l0_4 = some (r1, r2, r3, r4, r5)) :
 Calls Try.prog 90 #[.agg #[.slice A0_0 l0_0.length c0_0, .bool a0_1, .string a0_2, .int .i64 a0_3, .slice A0_4 l0_4.length c0_4]] w fun e w' => ∃ v0_ v4_ : Value, e = .returned (.agg #[v0_, .bool r2, .string r3, .int .i64 r4, v4_]) ∧ Kd.R Kd.string 9 w' w.heap.size (fun _ => True) v0_ r1 ∧ Kd.R k72 72 w' w.heap.size (fun _ => True) v4_ r5 ∧ Below w.heap.size w w' := by
 have hu57 := Try.underlying57
 have HR0_0 := Aside0.mk hr0_0
 have HC0_0 := Aside0.mk hc0_0
 clear hr0_0 hc0_0
 have HR0_4 := Aside0.mk hr0_4
 have HC0_4 := Aside0.mk hc0_4
 clear hr0_4 hc0_4
 have HB := A_ (Below.refl w.heap.size w)
 have H : ((impl_copyPath.f l0_0).bind fun t334 => (if ([] : List (S72)).length + l0_4.length < 2932031007402 then (some (t334, a0_1, a0_2, a0_3, (([] : List (S72)) ++ l0_4))) else (none))) = some (r1, r2, r3, r4, r5) := h
 clear h
 obtain ⟨t334, A2, H⟩ := bo_ H
 (try dsimp only at H)
 by_cases c3 : ([] : List (S72)).length + l0_4.length < 2932031007402
 rotate_left
 · exact absurd H (by rw [if_neg c3]; simp)
 rw [if_pos c3] at H
 have LMc3 := Aside0.mk c3
 clear c3
 obtain ⟨y337, hy337⟩ : ∃ y_ : List (S72), y_ = (([] : List (S72)) ++ l0_4) := ⟨_, rfl⟩
 replace H : (some (t334, a0_1, a0_2, a0_3, y337)) = some (r1, r2, r3, r4, r5) := hy_ hy337 H
 have Ny337 := Aside0.mk hy337
 clear hy337
 simp only [Option.some.injEq, Prod.mk.injEq] at H
 obtain ⟨rfl, rfl, rfl, rfl, rfl⟩ := H
 go_enter Try.func90, Try.ntmps90
 try go_wp2_with (first | ((with_reducible refine gate_dst (N := 1) rfl ?_); refine bx_ (N := 1) (cs := #[.slice A0_0 l0_0.length c0_0, .bool a0_1, .string a0_2, .int .i64 a0_3, .slice A0_4 l0_4.length c0_4]) (t := 57) ?_; intro gb332 hg w4 hbox hb; have BK332 := A_ (hbox); have GW332 := A_ (ge_ hg bB_ : w.heap.size ≤ gb332); have GE332 := A_ (ge_ hg bB_ : w.heap.size ≤ gb332); replace HB := A_ (below_step bB_ hb); clear hb hbox hg) | ((with_reducible refine gate_dst (N := 2) rfl ?_); refine bx_ (N := 2) (cs := #[.slice none 0 0, .bool false, .string (⟨#[]⟩ : ByteArray), .int .i64 0, .slice none 0 0]) (t := 57) ?_; intro gb333 hg w5 hbox hb; have BK333 := A_ (hbox); have GW333 := A_ (ge_ hg (bG_ GE332.out) : w.heap.size ≤ gb333); have GE333 := A_ (ge_ hg (bG_ GE332.out) : w.heap.size ≤ gb333); replace HB := A_ (below_step (bG_ GE332.out) hb); have NB332_333 := A_ (gm_ hg BK332.out); have NB333_332 := A_ (gn_ hg BK332.out); replace BK332 := A_ (bw_ BK332.out hb); clear hb hbox hg))
 replace BK332 := A_ (blk_drew BK332.out)
 replace BK333 := A_ (blk_drew BK333.out)
 replace HB := A_ (below_drew1 HB.out)
 refine start_ (n := 10) (S := fun w' => w'.cell? ⟨gb332, 0, none⟩ = some (.slice A0_0 l0_0.length c0_0) ∧ w'.cell? ⟨gb332, 1, none⟩ = some (.bool a0_1) ∧ w'.cell? ⟨gb332, 2, none⟩ = some (.string a0_2) ∧ w'.cell? ⟨gb332, 3, none⟩ = some (.int .i64 a0_3) ∧ w'.cell? ⟨gb332, 4, none⟩ = some (.slice A0_4 l0_4.length c0_4)) (ds := [7, 9]) #[false, false, false, false, false, false, false, false, false, false] (by kernel_rfl) rfl rfl (hl_ BK332.out) (fun hHeld => ?_); refine with_tabW impl_copyRes.tab1 impl_copyRes.bits1 (fun HT_ HW_ => ?_)
 generalize w5.drew = w6 at BK332 BK333 HB hHeld ⊢
 refine pu_ (i := 0) (N := some 3) ?_
 refine pu_ (i := 3) (N := some 6) ?_
 refine tk_ (i := 1) (N := some 4) hHeld ?_
 refine tk_ (i := 4) (N := some 7) hHeld ?_
 refine on_ (i := 2) (N := some 5) (fun K hK => ?_)
 refine goes_ Try.func77 (by kernel_rfl) rfl #[.slice A0_0 l0_0.length c0_0] (by rfl) rfl rfl ml_ ?_
 with_reducible refine (impl_copyPath.calls _ _ l0_0 t334 _ ?s1 ?s2 A2.out).mono ?_
 (case s1 => exact cC_ (Kd.C_below HR0_0.out HB.out))
 (case s2 => exact HC0_0.out)
 rintro e w7 ⟨v335, rfl, ho0, hb⟩
 refine ⟨_, rfl, ?_⟩
 have HO336 := A_ (Kd.R_lower ho0 (below_size (by repeat (first | (with_reducible first | exact HB.out | apply below_alloc | apply pw_below_drewN | apply below_drew1 | refine below_set ?_ GE332.out | refine below_set ?_ GE333.out) | exact HB.out))))
 replace BK332 := A_ (bw_ BK332.out hb)
 replace BK333 := A_ (bw_ BK333.out hb)
 replace HB := A_ (below_step (by repeat (first | (with_reducible first | exact HB.out | apply below_alloc | apply pw_below_drewN | apply below_drew1 | refine below_set ?_ GE332.out | refine below_set ?_ GE333.out) | exact HB.out)) hb)
 (try clear hb)
 (try clear hb2)
 (try clear hk)
 (try clear hi)
 (try clear ho0)
 refine hK.out _ _ (hl_ BK332.out) (fun hHeld => ?_)
 clear hK K
 refine no_ (some 5) ?_
 refine pu_ (i := 6) (N := some 9) ?_
 refine on_ (i := 5) (N := some 8) (fun K hK => ?_)
 refine Kd.R_append_rows_step k72 (w0 := w) w.heap.size rfl (.const (.slice none 0 0)) (.tmp 7) 55 72 (.agg #[(.string ⟨#[]⟩), (.string ⟨#[]⟩), (.string ⟨#[]⟩)]) 48 rfl Try.underlying55 info72 rfl (by decide) (by omega) (.slice none 0 0) ([] : List (S72)) l0_4 _ _ _ (fun _ => True) (fun _ => False) rfl rfl ?aO ?aR (fun _ _ h => h) (fun _ h => h.elim) ?aF ?aB ?aS ?aL ?_
 (case aR => exact cC_ (Kd.C_below HR0_4.out HB.out))
 (case aB => exact (by repeat (first | (with_reducible first | exact HB.out | apply below_alloc | apply pw_below_drewN | apply below_drew1 | refine below_set ?_ GE332.out | refine below_set ?_ GE333.out) | exact HB.out)))
 (case aF => exact (fun _ _ => trivial))
 (case aO => exact ((Kd.R_nil _ _ _ _ (fun _ => True))))
 (case aS => exact (below_size (by repeat (first | (with_reducible first | exact HB.out | apply below_alloc | apply pw_below_drewN | apply below_drew1 | refine below_set ?_ GE332.out | refine below_set ?_ GE333.out) | exact HB.out))))
 (case aL => have := LMc3.out; omega)
 intro v338 w8 ho hb hg hat
 rw [← Ny337.out] at ho
 replace BK332 := A_ (blk_grown (g := gb332) (o := .cells #[.slice A0_0 l0_0.length c0_0, .bool a0_1, .string a0_2, .int .i64 a0_3, .slice A0_4 l0_4.length c0_4] 57 (0, 0)) (vb_ BK332.out) hg (by simp [Value.ownBlock]))
 replace BK333 := A_ (blk_grown (g := gb333) (o := .cells #[.slice none 0 0, .bool false, .string (⟨#[]⟩ : ByteArray), .int .i64 0, .slice none 0 0] 57 (0, 0)) (vb_ BK333.out) hg (by simp [Value.ownBlock]))
 replace HO336 := A_ (Kd.R_grown (vR_ HO336.out) hg (fun _ _ => by simp [Value.ownBlock]))
 replace HB := A_ (hb)
 have HO339 := A_ (ho)
 clear ho hb hg hat
 obtain ⟨Ao9, co9, eo9⟩ := Kd.R_slice HO336.out
 (first | subst eo9 | (injection eo9 with f1_ f2_ f3_; have f4_ := f1_.symm; have f5_ := f3_.symm; clear f1_ f2_ f3_; subst f4_; subst f5_))
 obtain ⟨Ao11, co11, eo11⟩ := Kd.R_slice HO339.out
 (first | subst eo11 | (injection eo11 with f1_ f2_ f3_; have f4_ := f1_.symm; have f5_ := f3_.symm; clear f1_ f2_ f3_; subst f4_; subst f5_))
 refine hK.out _ _ (hl_ BK332.out) (fun hHeld => ?_)
 clear hK K
 refine no_ (some 8) ?_
 refine last_ (i := 7) (N := none) #[true, true, true, true, true, true, true, true, false, false] rfl rfl (one_of HT_.out (by kernel_rfl)) (by decide) (fun K hK => ?_)
 have hs10 : w8.cell? ⟨gb332, 0, none⟩ = some (.slice A0_0 l0_0.length c0_0) := (blk_cell BK332.out 0).trans rfl
 have hfs10 := blk_frozen BK332.out 0
 have hns10_1 := NB333_332.out
 have hms10_1 := NB332_333.out
 refine skip_ (w1 := ?_) (by rfl) rfl ?_ ?_
 rotate_left
 · go_simp
   rfl
 refine hK.out _ _ ?_
 clear hK K
 refine pu_ (i := 8) (N := some 10) ?_
 refine last_ (i := 9) (N := none) #[true, true, true, true, true, true, true, true, true, true] rfl rfl (one_of HT_.out (by kernel_rfl)) (by decide) (fun K hK => ?_)
 have hs12 : w8.cell? ⟨gb332, 4, none⟩ = some (.slice A0_4 l0_4.length c0_4) := (blk_cell BK332.out 4).trans rfl
 have hfs12 := blk_frozen BK332.out 4
 have hns12_1 := NB333_332.out
 have hms12_1 := NB332_333.out
 refine skip_ (w1 := ?_) (by rfl) rfl ?_ ?_
 rotate_left
 · go_simp
   rfl
 refine hK.out _ _ ?_
 clear hK K
 refine done_ (done_of HT_.out (by kernel_rfl)) ?_
 (try clear hHeld)
 have hnb13 := NB332_333.out
 have hnc13 := NB333_332.out
 obtain ⟨hcz14_0, hcz14_1, hcz14_2, hcz14_3, hcz14_4, hfz14_0, hfz14_1, hfz14_2, hfz14_3, hfz14_4⟩ := cz5_ BK332.out
 obtain ⟨hcz15_0, hcz15_1, hcz15_2, hcz15_3, hcz15_4, hfz15_0, hfz15_1, hfz15_2, hfz15_3, hfz15_4⟩ := cz5_ BK333.out
 try go_wp2
 refine bodyPost_ret (results_cell_row rfl _ _ gb333 57 #[.slice Ao9 t334.length co9, .bool a0_1, .string a0_2, .int .i64 a0_3, .slice Ao11 y337.length co11] (0, 0) _ rfl (by (with_reducible repeat (first | refine blk_drewN ?_ _ | refine blk_drew ?_ | refine blk_alloc ?_ _)); refine blk_put (cs := #[.slice Ao9 t334.length co9, .bool a0_1, .string a0_2, .int .i64 a0_3, .slice none 0 0]) ?_ 4 _ rfl; (with_reducible repeat (first | refine blk_drewN ?_ _ | refine blk_drew ?_ | refine blk_alloc ?_ _)); refine blk_put (cs := #[.slice Ao9 t334.length co9, .bool a0_1, .string a0_2, .int .i64 0, .slice none 0 0]) ?_ 3 _ rfl; (with_reducible repeat (first | refine blk_drewN ?_ _ | refine blk_drew ?_ | refine blk_alloc ?_ _)); refine blk_put (cs := #[.slice Ao9 t334.length co9, .bool a0_1, .string (⟨#[]⟩ : ByteArray), .int .i64 0, .slice none 0 0]) ?_ 2 _ rfl; (with_reducible repeat (first | refine blk_drewN ?_ _ | refine blk_drew ?_ | refine blk_alloc ?_ _)); refine blk_put (cs := #[.slice Ao9 t334.length co9, .bool false, .string (⟨#[]⟩ : ByteArray), .int .i64 0, .slice none 0 0]) ?_ 1 _ rfl; (with_reducible repeat (first | refine blk_drewN ?_ _ | refine blk_drew ?_ | refine blk_alloc ?_ _)); refine blk_put (cs := #[.slice none 0 0, .bool false, .string (⟨#[]⟩ : ByteArray), .int .i64 0, .slice none 0 0]) ?_ 0 _ rfl; (with_reducible repeat (first | refine blk_drewN ?_ _ | refine blk_drew ?_ | refine blk_alloc ?_ _)); refine blk_far ?_ NB333_332.out _; (with_reducible repeat (first | refine blk_drewN ?_ _ | refine blk_drew ?_ | refine blk_alloc ?_ _)); refine blk_far ?_ NB333_332.out _; (with_reducible repeat (first | refine blk_drewN ?_ _ | refine blk_drew ?_ | refine blk_alloc ?_ _)); exact BK333.out) Try.underlying57 rfl (by kernel_rfl)) rfl ?_
 exact ⟨_, _, rr_, by (with_reducible repeat (first | apply Kd.R_alloc | apply Kd.R_drewN | apply Kd.R_drew)); exact Kd.R_mono (Kd.R_far (p := ⟨gb333, 4, none⟩) (Kd.R_far (p := ⟨gb333, 3, none⟩) (Kd.R_far (p := ⟨gb333, 2, none⟩) (Kd.R_far (p := ⟨gb333, 1, none⟩) (Kd.R_far (p := ⟨gb333, 0, none⟩) (Kd.R_far (p := ⟨gb332, 4, none⟩) (Kd.R_far (p := ⟨gb332, 0, none⟩) (Kd.R_types (Kd.R_types HO336.out BK332.out (by decide)) BK333.out (by decide)) (fun _ hk => hk.1.2) (.slice Ao9 t334.length co9)) (fun _ hk => hk.1.2) (.slice Ao11 y337.length co11)) (fun _ hk => hk.2) (.slice Ao9 t334.length co9)) (fun _ hk => hk.2) (.bool a0_1)) (fun _ hk => hk.2) (.string a0_2)) (fun _ hk => hk.2) (.int .i64 a0_3)) (fun _ hk => hk.2) (.slice Ao11 y337.length co11)) (fun _ hk => trivial), by (with_reducible repeat (first | apply Kd.R_alloc | apply Kd.R_drewN | apply Kd.R_drew)); exact Kd.R_mono (Kd.R_far (p := ⟨gb333, 4, none⟩) (Kd.R_far (p := ⟨gb333, 3, none⟩) (Kd.R_far (p := ⟨gb333, 2, none⟩) (Kd.R_far (p := ⟨gb333, 1, none⟩) (Kd.R_far (p := ⟨gb333, 0, none⟩) (Kd.R_far (p := ⟨gb332, 4, none⟩) (Kd.R_far (p := ⟨gb332, 0, none⟩) (Kd.R_types (Kd.R_types HO339.out BK332.out (by decide)) BK333.out (by decide)) (fun _ hk => hk.1.2) (.slice Ao9 t334.length co9)) (fun _ hk => hk.1.2) (.slice Ao11 y337.length co11)) (fun _ hk => hk.2) (.slice Ao9 t334.length co9)) (fun _ hk => hk.2) (.bool a0_1)) (fun _ hk => hk.2) (.string a0_2)) (fun _ hk => hk.2) (.int .i64 a0_3)) (fun _ hk => hk.2) (.slice Ao11 y337.length co11)) (fun _ hk => trivial), by repeat (first | (with_reducible first | exact HB.out | apply below_alloc | apply pw_below_drewN | apply below_drew1 | refine below_set ?_ GE332.out | refine below_set ?_ GE333.out) | exact HB.out)⟩
def impl_copyTree.l0 : Nat → List (S57) → List (S57) → Int → Int → Option ((List (S57)))
 | 0, _, _, _, _ => none
 | k + 1, x3, x6, x7, x8 => if x8 < x7 then (if 0 ≤ x8 then (if x8 < (x6.length : Int) then ((impl_copyRes.f ((rd_T57 x6 x8).f0) ((rd_T57 x6 x8).f1) ((rd_T57 x6 x8).f2) ((rd_T57 x6 x8).f3) ((rd_T57 x6 x8).f4)).bind fun bt342 => (if x3.length < 1759218604441 then (impl_copyTree.l0 k (x3 ++ [(⟨bt342.1, bt342.2.1, bt342.2.2.1, bt342.2.2.2.1, bt342.2.2.2.2⟩ : S57)]) x6 x7 (wrap64 (x8 + 1))) else (none))) else (none)) else (none)) else (some x3)
def impl_copyTree.f (k : Nat) (l0 : List (S57)) : Option ((List (S57))) := impl_copyTree.l0 k ([] : List (S57)) l0 (l0.length : Int) 0
set_option maxHeartbeats 8000000 in
set_option maxRecDepth 100000 in
theorem impl_copyTree.calls (k : Nat) (A0 : Option Addr) (c0 : Nat) (l0 : List (S57)) (r : List (S57)) (w : World) (hr0 : Kd.C k57 w A0 l0.length l0) (hc0 : l0.length ≤ c0) (h : impl_copyTree.f k l0 = some r) :
 Calls Try.prog 66 #[.slice A0 l0.length c0] w fun e w' => ∃ v0_ : Value, e = .returned (v0_) ∧ Kd.S k57 57 w' w.heap.size (fun _ => True) v0_ r ∧ Below w.heap.size w w' := by
 have hu57 := Try.underlying57
 have HR0 := Aside0.mk hr0
 have HC0 := Aside0.mk hc0
 clear hr0 hc0
 have HB := A_ (Below.refl w.heap.size w)
 have H : (impl_copyTree.l0 k ([] : List (S57)) l0 (l0.length : Int) 0) = some r := h
 clear h
 have H' := Aside0.mk H
 clear H
 go_enter Try.func66, Try.ntmps66
 go_wp2
 go_loopg [3, 8] k (fun kq v3 v8 w' => ∃ (x3_1 : List (S57)) (x8_1 : Int), v8 = .int .i64 x8_1 ∧ Aside0 (impl_copyTree.l0 kq x3_1 l0 (l0.length : Int) x8_1 = some r) ∧ Aside0 (kq ≤ k) ∧ Aside0 (Kd.S k57 57 w' w.heap.size (fun _ => True) v3 x3_1) ∧ Aside0 (Below w.heap.size w w'))
 case atStart => exact ⟨(([] : List (S57))), (0), rs_, H', ⟨Nat.le_refl _⟩, ⟨by first | exact Kd.S_nil _ _ _ _ _ | exact Kd.N_nil _ _ _ _ _ | exact Kd.V_nil _ _ _ _ _ | exact Kd.Q_nil _ _ _ _ _ | exact Kd.R_nil _ _ _ _ _⟩, ⟨bB_⟩⟩
 case round =>
  clear H'
  obtain ⟨x3_1, x8_1, rfl, HA, HK1, HO_3, HB⟩ := hrel
  cases gk with
  | zero => exact absurd HA.out (by simp [impl_copyTree.l0])
  | succ k1 =>
   have H := HA.out
   clear HA
   simp only [impl_copyTree.l0] at H
   by_cases c2 : x8_1 < (l0.length : Int)
   rotate_left
   · rw [if_neg c2] at H
     have c2b0 : decide (x8_1 < (l0.length : Int)) = false := decide_eq_false c2
     clear c2
     obtain rfl := Option.some.inj H
     go_wp2
     go_ret
     exact ⟨_, rr_, by (with_reducible repeat (first | apply Kd.S_alloc | apply Kd.S_drewN | apply Kd.S_drew)); exact HO_3.out, bB_⟩
   rw [if_pos c2] at H
   have c2b0 : decide (x8_1 < (l0.length : Int)) = true := decide_eq_true c2
   clear c2
   by_cases c3 : 0 ≤ x8_1
   rotate_left
   · exact absurd H (by rw [if_neg c3]; simp)
   rw [if_pos c3] at H
   have c3b0 : decide (0 ≤ x8_1) = true := decide_eq_true c3
   clear c3
   by_cases c4 : x8_1 < (l0.length : Int)
   rotate_left
   · exact absurd H (by rw [if_neg c4]; simp)
   rw [if_pos c4] at H
   have c4b0 : decide (x8_1 < (l0.length : Int)) = true := decide_eq_true c4
   clear c4
   obtain ⟨⟨t342, t345, t346, t347, t348⟩, A5, H⟩ := bo_ H
   (try dsimp only at H)
   by_cases c6 : x3_1.length < 1759218604441
   rotate_left
   · exact absurd H (by rw [if_neg c6]; simp)
   rw [if_pos c6] at H
   have LMc6 := Aside0.mk c6
   clear c6
   obtain ⟨y351, hy351⟩ : ∃ y_ : List (S57), y_ = (x3_1 ++ [(⟨t342, t345, t346, t347, t348⟩ : S57)]) := ⟨_, rfl⟩
   replace H : (impl_copyTree.l0 k1 y351 l0 (l0.length : Int) (wrap64 (x8_1 + 1))) = some r := hy_ hy351 H
   have Ny351 := Aside0.mk hy351
   clear hy351
   have H' := Aside0.mk H
   clear H
   have p340 : 0 ≤ (x8_1 : Int) := of_decide_eq_true as_
   have q340 : x8_1 < (l0.length : Int) := of_decide_eq_true as_
   obtain ⟨ad340, A340_0, c340_0, A340_4, c340_4, e340, hx340_0, hx340_1, hx340_2, hx340_3, hx340_4, hl340_0, hi340_0, hl340_4, hi340_4⟩ := at_T57 HR0.out x8_1 p340 q340
   cases e340
   replace hx340_0 := bc_ HB.out hx340_0
   replace hx340_1 := bc_ HB.out hx340_1
   replace hx340_2 := bc_ HB.out hx340_2
   replace hx340_3 := bc_ HB.out hx340_3
   replace hx340_4 := bc_ HB.out hx340_4
   have HR340_0 := Aside0.mk hi340_0
   have HC340_0 := Aside0.mk hl340_0
   clear hi340_0 hl340_0
   have HR340_4 := Aside0.mk hi340_4
   have HC340_4 := Aside0.mk hl340_4
   clear hi340_4 hl340_4
   replace p340 := eq_true p340
   replace q340 := eq_true q340
   go_wp2_with (first | ((with_reducible refine gate_dst (N := 5) rfl ?_); refine bx_ (N := 5) (cs := #[.slice none 0 0, .bool false, .string (⟨#[]⟩ : ByteArray), .int .i64 0, .slice none 0 0]) (t := 57) ?_; intro gb341 hg w7 hbox hb; replace HO_3 := A_ (Kd.S_below (Kd.S_elderB (vS_ HO_3.out) gb341 (Nat.le_of_eq hg.symm)) hb); have BK341 := A_ (hbox); have GW341 := A_ (ge_ hg bB_ : w.heap.size ≤ gb341); have GE341 := A_ (ge_ hg bB_ : w.heap.size ≤ gb341); replace HB := A_ (below_step bB_ hb); clear hb hbox hg; obtain ⟨hcz8_0, hcz8_1, hcz8_2, hcz8_3, hcz8_4, hfz8_0, hfz8_1, hfz8_2, hfz8_3, hfz8_4⟩ := cz5_ BK341.out) | ((with_reducible refine gate_callee (f := 90) rfl ?_); refine gL_ (some 14) Try.func90 #[.agg #[.slice A340_0 ((rd_T57 l0 x8_1).f0).length c340_0, .bool ((rd_T57 l0 x8_1).f1), .string ((rd_T57 l0 x8_1).f2), .int .i64 ((rd_T57 l0 x8_1).f3), .slice A340_4 ((rd_T57 l0 x8_1).f4).length c340_4]] ?_; (with_reducible refine (impl_copyRes.calls _ _ ((rd_T57 l0 x8_1).f0) ((rd_T57 l0 x8_1).f1) ((rd_T57 l0 x8_1).f2) ((rd_T57 l0 x8_1).f3) _ _ ((rd_T57 l0 x8_1).f4) t342 t345 t346 t347 t348 _ ?s1 ?s2 ?s3 ?s4 A5.out).mono ?_); (case s1 => exact Kd.C_below HR340_0.out (bG_ GE341.out)); (case s2 => exact HC340_0.out); (case s3 => exact Kd.C_below HR340_4.out (bG_ GE341.out)); (case s4 => exact HC340_4.out); rintro e w9 ⟨v343, v349, rfl, ho0, ho1, hb⟩; refine ⟨_, rfl, ?_⟩; replace HO_3 := A_ (Kd.S_mono (Kd.S_told (Kd.S_told (Kd.S_old (by (with_reducible repeat (first | apply Kd.S_alloc | apply Kd.S_drewN | apply Kd.S_drew)); exact (Kd.S_mono (Kd.S_far (p := ⟨gb341, 4, none⟩) (Kd.S_far (p := ⟨gb341, 3, none⟩) (Kd.S_far (p := ⟨gb341, 2, none⟩) (Kd.S_far (p := ⟨gb341, 1, none⟩) (Kd.S_far (p := ⟨gb341, 0, none⟩) (Kd.S_mono HO_3.out (fun k_ hk => (⟨hk, hk.2⟩ : _ ∧ k_ ≠ gb341))) (fun _ hk => hk.2) (.slice A340_0 ((rd_T57 l0 x8_1).f0).length c340_0)) (fun _ hk => hk.2) (.bool ((rd_T57 l0 x8_1).f1))) (fun _ hk => hk.2) (.string ((rd_T57 l0 x8_1).f2))) (fun _ hk => hk.2) (.int .i64 ((rd_T57 l0 x8_1).f3))) (fun _ hk => hk.2) (.slice A340_4 ((rd_T57 l0 x8_1).f4).length c340_4)) (fun _ h_ => h_.1))) hb) (kb_ ho0)) (kb_ ho1)) (fun _ h_ => h_.1)); have HO344 := A_ (Kd.R_lower ho0 (below_size (bG_ GE341.out))); have HO350 := A_ (Kd.R_lower ho1 (below_size (bG_ GE341.out))); replace BK341 := A_ (blk_below (g := gb341) (o := .cells #[.slice A340_0 ((rd_T57 l0 x8_1).f0).length c340_0, .bool ((rd_T57 l0 x8_1).f1), .string ((rd_T57 l0 x8_1).f2), .int .i64 ((rd_T57 l0 x8_1).f3), .slice A340_4 ((rd_T57 l0 x8_1).f4).length c340_4] 57 (0, 0)) (by (with_reducible repeat (first | refine blk_drewN ?_ _ | refine blk_drew ?_ | refine blk_alloc ?_ _)); refine blk_put (cs := #[.slice A340_0 ((rd_T57 l0 x8_1).f0).length c340_0, .bool ((rd_T57 l0 x8_1).f1), .string ((rd_T57 l0 x8_1).f2), .int .i64 ((rd_T57 l0 x8_1).f3), .slice none 0 0]) ?_ 4 _ rfl; (with_reducible repeat (first | refine blk_drewN ?_ _ | refine blk_drew ?_ | refine blk_alloc ?_ _)); refine blk_put (cs := #[.slice A340_0 ((rd_T57 l0 x8_1).f0).length c340_0, .bool ((rd_T57 l0 x8_1).f1), .string ((rd_T57 l0 x8_1).f2), .int .i64 0, .slice none 0 0]) ?_ 3 _ rfl; (with_reducible repeat (first | refine blk_drewN ?_ _ | refine blk_drew ?_ | refine blk_alloc ?_ _)); refine blk_put (cs := #[.slice A340_0 ((rd_T57 l0 x8_1).f0).length c340_0, .bool ((rd_T57 l0 x8_1).f1), .string (⟨#[]⟩ : ByteArray), .int .i64 0, .slice none 0 0]) ?_ 2 _ rfl; (with_reducible repeat (first | refine blk_drewN ?_ _ | refine blk_drew ?_ | refine blk_alloc ?_ _)); refine blk_put (cs := #[.slice A340_0 ((rd_T57 l0 x8_1).f0).length c340_0, .bool false, .string (⟨#[]⟩ : ByteArray), .int .i64 0, .slice none 0 0]) ?_ 1 _ rfl; (with_reducible repeat (first | refine blk_drewN ?_ _ | refine blk_drew ?_ | refine blk_alloc ?_ _)); refine blk_put (cs := #[.slice none 0 0, .bool false, .string (⟨#[]⟩ : ByteArray), .int .i64 0, .slice none 0 0]) ?_ 0 _ rfl; (with_reducible repeat (first | refine blk_drewN ?_ _ | refine blk_drew ?_ | refine blk_alloc ?_ _)); exact BK341.out) hb); replace HB := A_ (below_step (bG_ GE341.out) hb); (try clear hb); (try clear hk); (try clear ho0); (try clear ho1); obtain ⟨Ao11, co11, eo11⟩ := Kd.R_slice HO344.out; subst eo11; obtain ⟨Ao12, co12, eo12⟩ := Kd.R_slice HO350.out; subst eo12) | ((with_reducible refine gate_builtin (b := .append) (xs := #[.tmp 12, .tmp 15]) rfl ?_); at_builtin; refine Kd.S_append k57 (w0 := w) w.heap.size rfl (.tmp 12) (.tmp 15) 26 57 (.agg #[(.slice none 0 0), (.bool false), (.string ⟨#[]⟩), (.int .i64 0), (.slice none 0 0)]) 80 rfl Try.underlying26 info57 rfl (by decide) (by omega) u3 x3_1 (⟨t342, t345, t346, t347, t348⟩ : S57) [.slice Ao11 t342.length co11, .bool t345, .string t346, .int .i64 t347, .slice Ao12 t348.length co12] (fun k_ => k_ ≠ gb341) (fun k_ => some k_ = (.slice Ao11 t342.length co11 : Value).ownBlock ∨ some k_ = (.slice Ao12 t348.length co12 : Value).ownBlock) rfl rfl ?aP (fun k_ hk_ => hk_.elim (fun h_ => ((Kd.R_mono (ok' := fun k_ => ((fun k_ => k_ ≠ gb341)) k_ ∧ some k_ ≠ (u3 : Value).ownBlock) (Kd.R_types (Kd.R_apart' (HO344.out) (Kd.S_typed HO_3.out) (by decide)) BK341.out (by decide)) (fun k_ hk => ⟨hk.2, hk.1.2⟩))).1 k_ h_.symm) (fun h_ => ((Kd.R_mono (ok' := fun k_ => ((fun k_ => k_ ≠ gb341)) k_ ∧ some k_ ≠ (u3 : Value).ownBlock) (Kd.R_types (Kd.R_apart' (HO350.out) (Kd.S_typed HO_3.out) (by decide)) BK341.out (by decide)) (fun k_ hk => ⟨hk.2, hk.1.2⟩))).1 k_ h_.symm)) ?aF ?aO ?aB ?aS ?aL ?_; (case aP => exact k57_mkM _ _ _ (⟨t342, t345, t346, t347, t348⟩ : S57) (Kd.R_mono (Kd.R_tight rfl (Kd.R_mono (ok' := fun k_ => ((fun k_ => k_ ≠ gb341)) k_ ∧ some k_ ≠ (u3 : Value).ownBlock) (Kd.R_types (Kd.R_apart' (HO344.out) (Kd.S_typed HO_3.out) (by decide)) BK341.out (by decide)) (fun k_ hk => ⟨hk.2, hk.1.2⟩))) (fun _ h_ => Or.inl h_)) (Kd.R_mono (Kd.R_tight rfl (Kd.R_mono (ok' := fun k_ => ((fun k_ => k_ ≠ gb341)) k_ ∧ some k_ ≠ (u3 : Value).ownBlock) (Kd.R_types (Kd.R_apart' (HO350.out) (Kd.S_typed HO_3.out) (by decide)) BK341.out (by decide)) (fun k_ hk => ⟨hk.2, hk.1.2⟩))) (fun _ h_ => Or.inr (h_)))); (case aB => exact (bG_ GE341.out)); (case aF => exact (fun k_ hk => Kd.freshB (g := gb341) (o := .cells #[.slice A340_0 ((rd_T57 l0 x8_1).f0).length c340_0, .bool ((rd_T57 l0 x8_1).f1), .string ((rd_T57 l0 x8_1).f2), .int .i64 ((rd_T57 l0 x8_1).f3), .slice A340_4 ((rd_T57 l0 x8_1).f4).length c340_4] 57 (0, 0)) (vb_ BK341.out) k_ hk)); (case aO => exact (by (with_reducible repeat (first | apply Kd.S_alloc | apply Kd.S_drewN | apply Kd.S_drew)); exact Kd.S_mono HO_3.out (fun k_ hk => ⟨hk.1.1.2, fun e_ => e_.elim (fun h_ => hk.1.2 h_) (fun h_ => hk.2 h_)⟩))); (case aS => exact (below_size (bG_ GE341.out))); (case aL => have := LMc6.out; omega); intro v352 w10 ho hb hg hat; rw [← Ny351.out] at ho; replace BK341 := A_ (blk_grown (g := gb341) (o := .cells #[.slice A340_0 ((rd_T57 l0 x8_1).f0).length c340_0, .bool ((rd_T57 l0 x8_1).f1), .string ((rd_T57 l0 x8_1).f2), .int .i64 ((rd_T57 l0 x8_1).f3), .slice A340_4 ((rd_T57 l0 x8_1).f4).length c340_4] 57 (0, 0)) (vb_ BK341.out) hg (Kd.S_away HO_3.out (fun _ hk => hk.1.1.2))); replace HB := A_ (hb); have HO353 := A_ (ho); clear HO_3 HO344 HO350; clear ho hb hg hat))
   go_roundg k1
   case measure => have := HK1.out; omega
   case rel => exact ⟨(y351), (wrap64 (x8_1 + 1)), rs_, H', ⟨by have := HK1.out; omega⟩, ⟨by (with_reducible repeat (first | apply Kd.S_alloc | apply Kd.S_drewN | apply Kd.S_drew)); exact Kd.S_mono HO353.out (fun _ hk => trivial)⟩, ⟨bG_ GE341.out⟩⟩
end Go.Proofs.Ytbgggcgjijljkaa.Q
