-- PRINTED by print.py (a twelfth state) out of the translation. Not trusted: Lean checks it.
import Derived.Test.YteabkidfgdmmpaaVFnTreesBentG24
set_option maxHeartbeats 8000000
set_option maxRecDepth 100000
namespace Go.Proofs.Yteabkidfgdmmpaa.Q
open Go.RowKit Go.Proofs.YteabkidfgdmmpaaW.PrintWords Go.Proofs.YteabkidfgdmmpaaW.PrintLast Go.Proofs.YteabkidfgdmmpaaW.PrintMore
attribute [local go_sem] max2_int min2_int max_two min_two max_three min_three max_four min_four   -- for this text's walks alone
set_option linter.unusedVariables false
set_option linter.unusedSimpArgs false
def spec_l10Copy.f (l0_0 : List ByteArray) (a0_1 : Bool) (a0_2 : ByteArray) (a0_3 : Int) (l0_4 : List (S71)) : Option (List ByteArray × Bool × ByteArray × Int × (List (S71))) := (some (([] : List ByteArray) : List ByteArray)).bind fun y467 => (if y467.length + l0_0.length < 8796093022208 then ((some (([] : List (S71)) : List (S71))).bind fun y473 => (if y473.length + l0_4.length < 2932031007402 then (some ((y467 ++ l0_0), a0_1, a0_2, a0_3, (y473 ++ l0_4))) else (none))) else (none))
theorem spec_l10Copy.calls (A0_0 : Option Addr) (c0_0 : Nat) (l0_0 : List ByteArray) (a0_1 : Bool) (a0_2 : ByteArray) (a0_3 : Int) (A0_4 : Option Addr) (c0_4 : Nat) (l0_4 : List (S71)) (r1 : List ByteArray) (r2 : Bool) (r3 : ByteArray) (r4 : Int) (r5 : List (S71)) (w : World) (hr0_0 : Kd.C Kd.string w A0_0 l0_0.length l0_0) (hc0_0 : l0_0.length ≤ c0_0) (hr0_4 : Kd.C k71 w A0_4 l0_4.length l0_4) (hc0_4 : l0_4.length ≤ c0_4) (h : spec_l10Copy.f l0_0 a0_1 a0_2 a0_3 l0_4 = some (r1, r2, r3, r4, r5)) :
 Calls Try.prog 78 #[.agg #[.slice A0_0 l0_0.length c0_0, .bool a0_1, .string a0_2, .int .i64 a0_3, .slice A0_4 l0_4.length c0_4]] w fun e w' => ∃ v0_ v4_ : Value, e = .returned (.agg #[v0_, .bool r2, .string r3, .int .i64 r4, v4_]) ∧ Kd.R Kd.string 9 w' w.heap.size (fun _ => True) v0_ r1 ∧ Kd.R k71 71 w' w.heap.size (fun _ => True) v4_ r5 ∧ Below w.heap.size w w' := by
 have hu59 := Try.underlying59
 have HR0_0 := A_ hr0_0
 have HC0_0 := A_ hc0_0
 clear hr0_0 hc0_0
 have HR0_4 := A_ hr0_4
 have HC0_4 := A_ hc0_4
 clear hr0_4 hc0_4
 have HB := A_ (Below.refl w.heap.size w)
 have H : ((some (([] : List ByteArray) : List ByteArray)).bind fun y467 => (if y467.length + l0_0.length < 8796093022208 then ((some (([] : List (S71)) : List (S71))).bind fun y473 => (if y473.length + l0_4.length < 2932031007402 then (some ((y467 ++ l0_0), a0_1, a0_2, a0_3, (y473 ++ l0_4))) else (none))) else (none))) = some (r1, r2, r3, r4, r5) := h
 clear h
 obtain ⟨y467, hy467⟩ : ∃ y_ : List ByteArray, y_ = (([] : List ByteArray)) := ⟨_, rfl⟩
 replace H : (if y467.length + l0_0.length < 8796093022208 then ((some (([] : List (S71)) : List (S71))).bind fun y473 => (if y473.length + l0_4.length < 2932031007402 then (some ((y467 ++ l0_0), a0_1, a0_2, a0_3, (y473 ++ l0_4))) else (none))) else (none)) = some (r1, r2, r3, r4, r5) := hy_ hy467 H
 have Ny467 := A_ hy467
 clear hy467
 by_cases c2 : y467.length + l0_0.length < 8796093022208
 rotate_left
 · exact absurd H (by rw [if_neg c2]; simp)
 rw [if_pos c2] at H
 have LMc2 := A_ c2
 clear c2
 obtain ⟨y470, hy470⟩ : ∃ y_ : List ByteArray, y_ = (y467 ++ l0_0) := ⟨_, rfl⟩
 replace H : ((some (([] : List (S71)) : List (S71))).bind fun y473 => (if y473.length + l0_4.length < 2932031007402 then (some (y470, a0_1, a0_2, a0_3, (y473 ++ l0_4))) else (none))) = some (r1, r2, r3, r4, r5) := hy_ hy470 H
 have Ny470 := A_ hy470
 clear hy470
 obtain ⟨y473, hy473⟩ : ∃ y_ : List (S71), y_ = (([] : List (S71))) := ⟨_, rfl⟩
 replace H : (if y473.length + l0_4.length < 2932031007402 then (some (y470, a0_1, a0_2, a0_3, (y473 ++ l0_4))) else (none)) = some (r1, r2, r3, r4, r5) := hy_ hy473 H
 have Ny473 := A_ hy473
 clear hy473
 by_cases c3 : y473.length + l0_4.length < 2932031007402
 rotate_left
 · exact absurd H (by rw [if_neg c3]; simp)
 rw [if_pos c3] at H
 have LMc3 := A_ c3
 clear c3
 obtain ⟨y476, hy476⟩ : ∃ y_ : List (S71), y_ = (y473 ++ l0_4) := ⟨_, rfl⟩
 replace H : (some (y470, a0_1, a0_2, a0_3, y476)) = some (r1, r2, r3, r4, r5) := hy_ hy476 H
 have Ny476 := A_ hy476
 clear hy476
 simp only [Option.some.injEq, Prod.mk.injEq] at H
 obtain ⟨rfl, rfl, rfl, rfl, rfl⟩ := H
 go_enter Try.func78, Try.ntmps78
 go_wp2_with (first | ((with_reducible refine gd_ (N := 1) rfl ?_); refine bx_ (N := 1) (cs := #[.slice A0_0 l0_0.length c0_0, .bool a0_1, .string a0_2, .int .i64 a0_3, .slice A0_4 l0_4.length c0_4]) (t := 59) ?_; intro gb464 hg w4 hbox hb; have BK464 := A_ (hbox); have GW464 := A_ (ge_ hg bB_ : w.heap.size ≤ gb464); have GE464 := A_ (ge_ hg bB_ : w.heap.size ≤ gb464); replace HB := A_ (below_step bB_ hb); clear hb hbox hg) | ((with_reducible refine gd_ (N := 2) rfl ?_); refine bx_ (N := 2) (cs := #[.slice none 0 0, .bool false, .string (⟨#[]⟩ : ByteArray), .int .i64 0, .slice none 0 0]) (t := 59) ?_; intro gb465 hg w5 hbox hb; have BK465 := A_ (hbox); have GW465 := A_ (ge_ hg (bG_ GE464.out) : w.heap.size ≤ gb465); have GE465 := A_ (ge_ hg (bG_ GE464.out) : w.heap.size ≤ gb465); replace HB := A_ (below_step (bG_ GE464.out) hb); have NB464_465 := A_ (gm_ hg BK464.out); have NB465_464 := A_ (gn_ hg BK464.out); replace BK464 := A_ (bw_ BK464.out hb); clear hb hbox hg; have hnb6 := NB464_465.out; have hnc6 := NB465_464.out; obtain ⟨hcz7_0, hcz7_1, hcz7_2, hcz7_3, hcz7_4, hfz7_0, hfz7_1, hfz7_2, hfz7_3, hfz7_4⟩ := cz5_ BK464.out) | ((with_reducible refine gd_ (N := 3) rfl ?_); refine bx_ (N := 3) (cs := #[.slice none 0 0, .bool false, .string (⟨#[]⟩ : ByteArray), .int .i64 0, .slice none 0 0]) (t := 59) ?_; intro gb466 hg w8 hbox hb; have BK466 := A_ (hbox); have GW466 := A_ ((by rw [hg]; exact (below_size (by repeat (first | (with_reducible first | exact HB.out | apply below_alloc | apply pw_below_drewN | apply below_drew1 | refine below_set ?_ GE464.out | refine below_set ?_ GE465.out) | exact HB.out))) : w.heap.size ≤ gb466)); have GE466 := A_ ((by rw [hg]; exact (below_size (by repeat (first | (with_reducible first | exact HB.out | apply below_alloc | apply pw_below_drewN | apply below_drew1 | refine below_set ?_ GE464.out | refine below_set ?_ GE465.out) | exact HB.out))) : w.heap.size ≤ gb466)); replace HB := A_ (below_step (by repeat (first | (with_reducible first | exact HB.out | apply below_alloc | apply pw_below_drewN | apply below_drew1 | refine below_set ?_ GE464.out | refine below_set ?_ GE465.out) | exact HB.out)) hb); have NB464_466 := A_ (gm_ hg BK464.out); have NB466_464 := A_ (gn_ hg BK464.out); replace BK464 := A_ (bw_ BK464.out hb); have NB465_466 := A_ (gm_ hg BK465.out); have NB466_465 := A_ (gn_ hg BK465.out); replace BK465 := A_ (bw_ BK465.out hb); clear hb hbox hg; have hnb9 := NB466_464.out; have hnc9 := NB464_466.out; have hnb10 := NB466_465.out; have hnc10 := NB465_466.out; obtain ⟨hcz11_0, hcz11_1, hcz11_2, hcz11_3, hcz11_4, hfz11_0, hfz11_1, hfz11_2, hfz11_3, hfz11_4⟩ := cz5_ BK466.out) | ((with_reducible refine gd_ (N := 5) rfl ?_); refine Kd.R_lit Kd.string _ 9 ?hg (N := 5) ?hd (xs := ([] : List ByteArray)) (inner := []) (ok := fun _ => True) (okp := fun _ => True) ?hr ?hp (fun _ hk => hk) trivial (Below.refl _ _) (Nat.le_refl _) (by simp) ?_; (case hd => rfl); (case hg => rfl); (case hr => first | (go_simp; done) | (go_simp; rfl)); (case hp => exact (Reps.none _ _)); intro v468 w12 ho13 hb hg_ hnew_; clear hg_ hnew_; (first | rw [← Ny467.out] at ho13 | (simp only [Int.reduceToNat] at ho13; rw [← Ny467.out] at ho13)); have HO469 := A_ (Kd.R_lower ho13 (below_size (by repeat (first | (with_reducible first | exact HB.out | apply below_alloc | apply pw_below_drewN | apply below_drew1 | refine below_set ?_ GE464.out | refine below_set ?_ GE465.out | refine below_set ?_ GE466.out) | exact HB.out)))); replace BK464 := A_ (blk_below (g := gb464) (o := .cells #[.slice A0_0 l0_0.length c0_0, .bool a0_1, .string a0_2, .int .i64 a0_3, .slice A0_4 l0_4.length c0_4] 59 (0, 0)) (by (with_reducible repeat (first | refine blk_drewN ?_ _ | refine blk_drew ?_ | refine blk_alloc ?_ _)); refine blk_far ?_ NB464_466.out _; (with_reducible repeat (first | refine blk_drewN ?_ _ | refine blk_drew ?_ | refine blk_alloc ?_ _)); refine blk_far ?_ NB464_466.out _; (with_reducible repeat (first | refine blk_drewN ?_ _ | refine blk_drew ?_ | refine blk_alloc ?_ _)); refine blk_far ?_ NB464_466.out _; (with_reducible repeat (first | refine blk_drewN ?_ _ | refine blk_drew ?_ | refine blk_alloc ?_ _)); refine blk_far ?_ NB464_466.out _; (with_reducible repeat (first | refine blk_drewN ?_ _ | refine blk_drew ?_ | refine blk_alloc ?_ _)); refine blk_far ?_ NB464_466.out _; (with_reducible repeat (first | refine blk_drewN ?_ _ | refine blk_drew ?_ | refine blk_alloc ?_ _)); exact BK464.out) hb); replace BK465 := A_ (blk_below (g := gb465) (o := .cells #[.slice none 0 0, .bool false, .string (⟨#[]⟩ : ByteArray), .int .i64 0, .slice none 0 0] 59 (0, 0)) (by (with_reducible repeat (first | refine blk_drewN ?_ _ | refine blk_drew ?_ | refine blk_alloc ?_ _)); refine blk_far ?_ NB465_466.out _; (with_reducible repeat (first | refine blk_drewN ?_ _ | refine blk_drew ?_ | refine blk_alloc ?_ _)); refine blk_far ?_ NB465_466.out _; (with_reducible repeat (first | refine blk_drewN ?_ _ | refine blk_drew ?_ | refine blk_alloc ?_ _)); refine blk_far ?_ NB465_466.out _; (with_reducible repeat (first | refine blk_drewN ?_ _ | refine blk_drew ?_ | refine blk_alloc ?_ _)); refine blk_far ?_ NB465_466.out _; (with_reducible repeat (first | refine blk_drewN ?_ _ | refine blk_drew ?_ | refine blk_alloc ?_ _)); refine blk_far ?_ NB465_466.out _; (with_reducible repeat (first | refine blk_drewN ?_ _ | refine blk_drew ?_ | refine blk_alloc ?_ _)); exact BK465.out) hb); replace BK466 := A_ (blk_below (g := gb466) (o := .cells #[.slice A0_0 l0_0.length c0_0, .bool a0_1, .string a0_2, .int .i64 a0_3, .slice A0_4 l0_4.length c0_4] 59 (0, 0)) (by (with_reducible repeat (first | refine blk_drewN ?_ _ | refine blk_drew ?_ | refine blk_alloc ?_ _)); refine blk_put (cs := #[.slice A0_0 l0_0.length c0_0, .bool a0_1, .string a0_2, .int .i64 a0_3, .slice none 0 0]) ?_ 4 _ rfl; (with_reducible repeat (first | refine blk_drewN ?_ _ | refine blk_drew ?_ | refine blk_alloc ?_ _)); refine blk_put (cs := #[.slice A0_0 l0_0.length c0_0, .bool a0_1, .string a0_2, .int .i64 0, .slice none 0 0]) ?_ 3 _ rfl; (with_reducible repeat (first | refine blk_drewN ?_ _ | refine blk_drew ?_ | refine blk_alloc ?_ _)); refine blk_put (cs := #[.slice A0_0 l0_0.length c0_0, .bool a0_1, .string (⟨#[]⟩ : ByteArray), .int .i64 0, .slice none 0 0]) ?_ 2 _ rfl; (with_reducible repeat (first | refine blk_drewN ?_ _ | refine blk_drew ?_ | refine blk_alloc ?_ _)); refine blk_put (cs := #[.slice A0_0 l0_0.length c0_0, .bool false, .string (⟨#[]⟩ : ByteArray), .int .i64 0, .slice none 0 0]) ?_ 1 _ rfl; (with_reducible repeat (first | refine blk_drewN ?_ _ | refine blk_drew ?_ | refine blk_alloc ?_ _)); refine blk_put (cs := #[.slice none 0 0, .bool false, .string (⟨#[]⟩ : ByteArray), .int .i64 0, .slice none 0 0]) ?_ 0 _ rfl; (with_reducible repeat (first | refine blk_drewN ?_ _ | refine blk_drew ?_ | refine blk_alloc ?_ _)); exact BK466.out) hb); replace HB := A_ (below_step (by repeat (first | (with_reducible first | exact HB.out | apply below_alloc | apply pw_below_drewN | apply below_drew1 | refine below_set ?_ GE464.out | refine below_set ?_ GE465.out | refine below_set ?_ GE466.out) | exact HB.out)) hb); clear hb ho13; obtain ⟨hcz14_0, hcz14_1, hcz14_2, hcz14_3, hcz14_4, hfz14_0, hfz14_1, hfz14_2, hfz14_3, hfz14_4⟩ := cz5_ BK464.out) | ((with_reducible refine gate_builtin (b := .append) (xs := #[.tmp 5, .tmp 7]) rfl ?_); at_builtin; refine Kd.R_append_rows Kd.string (w0 := w) w.heap.size rfl (.tmp 5) (.tmp 7) 22 9 (.string ⟨#[]⟩) 16 rfl Try.underlying22 info9 rfl (by decide) (by omega) v468 y467 l0_0 _ _ _ (fun _ => True) (fun _ => False) rfl rfl ?aO ?aR (fun _ _ h => h) (fun _ h => h.elim) ?aF ?aB ?aS ?aL ?_; (case aR => exact cC_ (Kd.C_below HR0_0.out HB.out)); (case aB => exact (by repeat (first | (with_reducible first | exact HB.out | apply below_alloc | apply pw_below_drewN | apply below_drew1 | refine below_set ?_ GE464.out | refine below_set ?_ GE465.out | refine below_set ?_ GE466.out) | exact HB.out))); (case aF => exact (fun _ _ => trivial)); (case aO => exact (vR_ HO469.out)); (case aS => exact (below_size (by repeat (first | (with_reducible first | exact HB.out | apply below_alloc | apply pw_below_drewN | apply below_drew1 | refine below_set ?_ GE464.out | refine below_set ?_ GE465.out | refine below_set ?_ GE466.out) | exact HB.out)))); (case aL => have := LMc2.out; omega); intro v471 w15 ho hb hg hat; rw [← Ny470.out] at ho; replace BK464 := A_ (blk_grown (g := gb464) (o := .cells #[.slice A0_0 l0_0.length c0_0, .bool a0_1, .string a0_2, .int .i64 a0_3, .slice A0_4 l0_4.length c0_4] 59 (0, 0)) (vb_ BK464.out) hg (Kd.R_ne HO469.out BK464.out (by decide))); replace BK465 := A_ (blk_grown (g := gb465) (o := .cells #[.slice none 0 0, .bool false, .string (⟨#[]⟩ : ByteArray), .int .i64 0, .slice none 0 0] 59 (0, 0)) (vb_ BK465.out) hg (Kd.R_ne HO469.out BK465.out (by decide))); replace BK466 := A_ (blk_grown (g := gb466) (o := .cells #[.slice A0_0 l0_0.length c0_0, .bool a0_1, .string a0_2, .int .i64 a0_3, .slice A0_4 l0_4.length c0_4] 59 (0, 0)) (vb_ BK466.out) hg (Kd.R_ne HO469.out BK466.out (by decide))); replace HB := A_ (hb); have HO472 := A_ (ho); clear HO469; clear ho hb hg hat; obtain ⟨Ao16, co16, eo16⟩ := Kd.R_slice HO472.out; subst eo16; obtain ⟨hcz17_0, hcz17_1, hcz17_2, hcz17_3, hcz17_4, hfz17_0, hfz17_1, hfz17_2, hfz17_3, hfz17_4⟩ := cz5_ BK466.out) | ((with_reducible refine gd_ (N := 10) rfl ?_); refine Kd.R_lit k71 _ 71 ?hg (N := 10) ?hd (xs := ([] : List (S71))) (inner := []) (ok := fun _ => True) (okp := fun _ => True) ?hr ?hp (fun _ hk => hk) trivial (Below.refl _ _) (Nat.le_refl _) (by simp) ?_; (case hd => rfl); (case hg => rfl); (case hr => first | (go_simp; done) | (go_simp; rfl)); (case hp => exact (Reps.none _ _)); intro v474 w18 ho19 hb hg_ hnew_; clear hg_ hnew_; (first | rw [← Ny473.out] at ho19 | (simp only [Int.reduceToNat] at ho19; rw [← Ny473.out] at ho19)); replace HO472 := A_ (Kd.R_below (by (with_reducible repeat (first | apply Kd.R_alloc | apply Kd.R_drewN | apply Kd.R_drew)); exact (Kd.R_mono (Kd.R_far (p := ⟨gb466, 0, none⟩) (Kd.R_types HO472.out BK466.out (by decide)) (fun _ hk => hk.2) (.slice Ao16 y470.length co16)) (fun _ h_ => h_.1))) hb); have HO475 := A_ (Kd.R_lower ho19 (below_size (by repeat (first | (with_reducible first | exact HB.out | apply below_alloc | apply pw_below_drewN | apply below_drew1 | refine below_set ?_ GE464.out | refine below_set ?_ GE465.out | refine below_set ?_ GE466.out) | exact HB.out)))); replace BK464 := A_ (blk_below (g := gb464) (o := .cells #[.slice A0_0 l0_0.length c0_0, .bool a0_1, .string a0_2, .int .i64 a0_3, .slice A0_4 l0_4.length c0_4] 59 (0, 0)) (by (with_reducible repeat (first | refine blk_drewN ?_ _ | refine blk_drew ?_ | refine blk_alloc ?_ _)); refine blk_far ?_ NB464_466.out _; (with_reducible repeat (first | refine blk_drewN ?_ _ | refine blk_drew ?_ | refine blk_alloc ?_ _)); exact BK464.out) hb); replace BK465 := A_ (blk_below (g := gb465) (o := .cells #[.slice none 0 0, .bool false, .string (⟨#[]⟩ : ByteArray), .int .i64 0, .slice none 0 0] 59 (0, 0)) (by (with_reducible repeat (first | refine blk_drewN ?_ _ | refine blk_drew ?_ | refine blk_alloc ?_ _)); refine blk_far ?_ NB465_466.out _; (with_reducible repeat (first | refine blk_drewN ?_ _ | refine blk_drew ?_ | refine blk_alloc ?_ _)); exact BK465.out) hb); replace BK466 := A_ (blk_below (g := gb466) (o := .cells #[.slice Ao16 y470.length co16, .bool a0_1, .string a0_2, .int .i64 a0_3, .slice A0_4 l0_4.length c0_4] 59 (0, 0)) (by (with_reducible repeat (first | refine blk_drewN ?_ _ | refine blk_drew ?_ | refine blk_alloc ?_ _)); refine blk_put (cs := #[.slice A0_0 l0_0.length c0_0, .bool a0_1, .string a0_2, .int .i64 a0_3, .slice A0_4 l0_4.length c0_4]) ?_ 0 _ rfl; (with_reducible repeat (first | refine blk_drewN ?_ _ | refine blk_drew ?_ | refine blk_alloc ?_ _)); exact BK466.out) hb); replace HB := A_ (below_step (by repeat (first | (with_reducible first | exact HB.out | apply below_alloc | apply pw_below_drewN | apply below_drew1 | refine below_set ?_ GE464.out | refine below_set ?_ GE465.out | refine below_set ?_ GE466.out) | exact HB.out)) hb); clear hb ho19; obtain ⟨hcz20_0, hcz20_1, hcz20_2, hcz20_3, hcz20_4, hfz20_0, hfz20_1, hfz20_2, hfz20_3, hfz20_4⟩ := cz5_ BK464.out) | ((with_reducible refine gate_builtin (b := .append) (xs := #[.tmp 10, .tmp 12]) rfl ?_); at_builtin; refine Kd.R_append_rows k71 (w0 := w) w.heap.size rfl (.tmp 10) (.tmp 12) 31 71 (.agg #[(.string ⟨#[]⟩), (.string ⟨#[]⟩), (.string ⟨#[]⟩)]) 48 rfl Try.underlying31 info71 rfl (by decide) (by omega) v474 y473 l0_4 _ _ _ (fun _ => True) (fun _ => False) rfl rfl ?aO ?aR (fun _ _ h => h) (fun _ h => h.elim) ?aF ?aB ?aS ?aL ?_; (case aR => exact cC_ (Kd.C_below HR0_4.out HB.out)); (case aB => exact (by repeat (first | (with_reducible first | exact HB.out | apply below_alloc | apply pw_below_drewN | apply below_drew1 | refine below_set ?_ GE464.out | refine below_set ?_ GE465.out | refine below_set ?_ GE466.out) | exact HB.out))); (case aF => exact (fun _ _ => trivial)); (case aO => exact (vR_ HO475.out)); (case aS => exact (below_size (by repeat (first | (with_reducible first | exact HB.out | apply below_alloc | apply pw_below_drewN | apply below_drew1 | refine below_set ?_ GE464.out | refine below_set ?_ GE465.out | refine below_set ?_ GE466.out) | exact HB.out)))); (case aL => have := LMc3.out; omega); intro v477 w21 ho hb hg hat; rw [← Ny476.out] at ho; replace BK464 := A_ (blk_grown (g := gb464) (o := .cells #[.slice A0_0 l0_0.length c0_0, .bool a0_1, .string a0_2, .int .i64 a0_3, .slice A0_4 l0_4.length c0_4] 59 (0, 0)) (vb_ BK464.out) hg (Kd.R_ne HO475.out BK464.out (by decide))); replace BK465 := A_ (blk_grown (g := gb465) (o := .cells #[.slice none 0 0, .bool false, .string (⟨#[]⟩ : ByteArray), .int .i64 0, .slice none 0 0] 59 (0, 0)) (vb_ BK465.out) hg (Kd.R_ne HO475.out BK465.out (by decide))); replace BK466 := A_ (blk_grown (g := gb466) (o := .cells #[.slice Ao16 y470.length co16, .bool a0_1, .string a0_2, .int .i64 a0_3, .slice A0_4 l0_4.length c0_4] 59 (0, 0)) (vb_ BK466.out) hg (Kd.R_ne HO475.out BK466.out (by decide))); replace HO472 := A_ (Kd.R_over' (vR_ HO472.out) (Kd.R_typed (vR_ HO475.out)) (by decide) hg); replace HB := A_ (hb); have HO478 := A_ (ho); clear HO475; clear ho hb hg hat; obtain ⟨Ao22, co22, eo22⟩ := Kd.R_slice HO478.out; subst eo22; obtain ⟨hcz23_0, hcz23_1, hcz23_2, hcz23_3, hcz23_4, hfz23_0, hfz23_1, hfz23_2, hfz23_3, hfz23_4⟩ := cz5_ BK466.out; obtain ⟨hcz24_0, hcz24_1, hcz24_2, hcz24_3, hcz24_4, hfz24_0, hfz24_1, hfz24_2, hfz24_3, hfz24_4⟩ := cz5_ BK465.out))
 refine bodyPost_ret (results_cell_row rfl _ _ gb465 59 #[.slice Ao16 y470.length co16, .bool a0_1, .string a0_2, .int .i64 a0_3, .slice Ao22 y476.length co22] (0, 0) _ rfl (by (with_reducible repeat (first | refine blk_drewN ?_ _ | refine blk_drew ?_ | refine blk_alloc ?_ _)); refine blk_put (cs := #[.slice Ao16 y470.length co16, .bool a0_1, .string a0_2, .int .i64 a0_3, .slice none 0 0]) ?_ 4 _ rfl; (with_reducible repeat (first | refine blk_drewN ?_ _ | refine blk_drew ?_ | refine blk_alloc ?_ _)); refine blk_put (cs := #[.slice Ao16 y470.length co16, .bool a0_1, .string a0_2, .int .i64 0, .slice none 0 0]) ?_ 3 _ rfl; (with_reducible repeat (first | refine blk_drewN ?_ _ | refine blk_drew ?_ | refine blk_alloc ?_ _)); refine blk_put (cs := #[.slice Ao16 y470.length co16, .bool a0_1, .string (⟨#[]⟩ : ByteArray), .int .i64 0, .slice none 0 0]) ?_ 2 _ rfl; (with_reducible repeat (first | refine blk_drewN ?_ _ | refine blk_drew ?_ | refine blk_alloc ?_ _)); refine blk_put (cs := #[.slice Ao16 y470.length co16, .bool false, .string (⟨#[]⟩ : ByteArray), .int .i64 0, .slice none 0 0]) ?_ 1 _ rfl; (with_reducible repeat (first | refine blk_drewN ?_ _ | refine blk_drew ?_ | refine blk_alloc ?_ _)); refine blk_put (cs := #[.slice none 0 0, .bool false, .string (⟨#[]⟩ : ByteArray), .int .i64 0, .slice none 0 0]) ?_ 0 _ rfl; (with_reducible repeat (first | refine blk_drewN ?_ _ | refine blk_drew ?_ | refine blk_alloc ?_ _)); refine blk_far ?_ NB465_466.out _; (with_reducible repeat (first | refine blk_drewN ?_ _ | refine blk_drew ?_ | refine blk_alloc ?_ _)); exact BK465.out) Try.underlying59 rfl (by kernel_rfl)) rfl ?_
 exact ⟨_, _, rr_, by (with_reducible repeat (first | apply Kd.R_alloc | apply Kd.R_drewN | apply Kd.R_drew)); exact Kd.R_mono (Kd.R_far (p := ⟨gb465, 4, none⟩) (Kd.R_far (p := ⟨gb465, 3, none⟩) (Kd.R_far (p := ⟨gb465, 2, none⟩) (Kd.R_far (p := ⟨gb465, 1, none⟩) (Kd.R_far (p := ⟨gb465, 0, none⟩) (Kd.R_far (p := ⟨gb466, 4, none⟩) (Kd.R_types (Kd.R_types HO472.out BK466.out (by decide)) BK465.out (by decide)) (fun _ hk => hk.1.2) (.slice Ao22 y476.length co22)) (fun _ hk => hk.2) (.slice Ao16 y470.length co16)) (fun _ hk => hk.2) (.bool a0_1)) (fun _ hk => hk.2) (.string a0_2)) (fun _ hk => hk.2) (.int .i64 a0_3)) (fun _ hk => hk.2) (.slice Ao22 y476.length co22)) (fun _ hk => trivial), by (with_reducible repeat (first | apply Kd.R_alloc | apply Kd.R_drewN | apply Kd.R_drew)); exact Kd.R_mono (Kd.R_far (p := ⟨gb465, 4, none⟩) (Kd.R_far (p := ⟨gb465, 3, none⟩) (Kd.R_far (p := ⟨gb465, 2, none⟩) (Kd.R_far (p := ⟨gb465, 1, none⟩) (Kd.R_far (p := ⟨gb465, 0, none⟩) (Kd.R_far (p := ⟨gb466, 4, none⟩) (Kd.R_types (Kd.R_types HO478.out BK466.out (by decide)) BK465.out (by decide)) (fun _ hk => hk.1.2) (.slice Ao22 y476.length co22)) (fun _ hk => hk.2) (.slice Ao16 y470.length co16)) (fun _ hk => hk.2) (.bool a0_1)) (fun _ hk => hk.2) (.string a0_2)) (fun _ hk => hk.2) (.int .i64 a0_3)) (fun _ hk => hk.2) (.slice Ao22 y476.length co22)) (fun _ hk => trivial), by repeat (first | (with_reducible first | exact HB.out | apply below_alloc | apply pw_below_drewN | apply below_drew1 | refine below_set ?_ GE464.out | refine below_set ?_ GE465.out | refine below_set ?_ GE466.out) | exact HB.out)⟩
def spec_DeepOf.l0 : Nat → List (S59) → List ByteArray → List (S59) → Int → Option ((List (S59)))
 | 0, _, _, _, _ => none
 | k + 1, x0, x1, x5, x6 => if x6 < (x0.length : Int) then (if 0 ≤ x6 then ((spec_SamePath.f k ((rd_T59 x0 x6).f0) x1).bind fun t483 => (if t483 = true then ((spec_l10Copy.f ((rd_T59 x0 x6).f0) ((rd_T59 x0 x6).f1) ((rd_T59 x0 x6).f2) ((rd_T59 x0 x6).f3) ((rd_T59 x0 x6).f4)).bind fun bt485 => (if x5.length < 1759218604441 then (spec_DeepOf.l0 k x0 x1 (x5 ++ [(⟨bt485.1, bt485.2.1, bt485.2.2.1, bt485.2.2.2.1, bt485.2.2.2.2⟩ : S59)]) (wrap64 (x6 + 1))) else (none))) else ((spec_Under.f k ((rd_T59 x0 x6).f0) x1).bind fun t498 => (if t498 = true then ((spec_l10Copy.f ((rd_T59 x0 x6).f0) ((rd_T59 x0 x6).f1) ((rd_T59 x0 x6).f2) ((rd_T59 x0 x6).f3) ((rd_T59 x0 x6).f4)).bind fun bt500 => (if x5.length < 1759218604441 then (spec_DeepOf.l0 k x0 x1 (x5 ++ [(⟨bt500.1, bt500.2.1, bt500.2.2.1, bt500.2.2.2.1, bt500.2.2.2.2⟩ : S59)]) (wrap64 (x6 + 1))) else (none))) else (spec_DeepOf.l0 k x0 x1 x5 (wrap64 (x6 + 1))))))) else (none)) else (some x5)
def spec_DeepOf.f (k : Nat) (l0 : List (S59)) (l1 : List ByteArray) : Option ((List (S59))) := spec_DeepOf.l0 k l0 l1 (([] : List (S59))) 0
theorem spec_DeepOf.calls (k : Nat) (A0 : Option Addr) (c0 : Nat) (l0 : List (S59)) (A1 : Option Addr) (c1 : Nat) (l1 : List ByteArray) (r : List (S59)) (w : World) (hr0 : Kd.C k59 w A0 l0.length l0) (hc0 : l0.length ≤ c0) (hr1 : Kd.C Kd.string w A1 l1.length l1) (hc1 : l1.length ≤ c1) (h : spec_DeepOf.f k l0 l1 = some r) :
 Calls Try.prog 46 #[.slice A0 l0.length c0, .slice A1 l1.length c1] w fun e w' => ∃ v0_ : Value, e = .returned (v0_) ∧ Kd.S k59 59 w' w.heap.size (fun _ => True) v0_ r ∧ Below w.heap.size w w' := by
 have hu59 := Try.underlying59
 have HR0 := A_ hr0
 have HC0 := A_ hc0
 clear hr0 hc0
 have HR1 := A_ hr1
 have HC1 := A_ hc1
 clear hr1 hc1
 have HB := A_ (Below.refl w.heap.size w)
 have H : (spec_DeepOf.l0 k l0 l1 (([] : List (S59))) 0) = some r := h
 clear h
 obtain ⟨y479, hy479⟩ : ∃ y_ : List (S59), y_ = (([] : List (S59))) := ⟨_, rfl⟩
 replace H : (spec_DeepOf.l0 k l0 l1 y479 0) = some r := hy_ hy479 H
 have Ny479 := A_ hy479
 clear hy479
 have H' := A_ H
 clear H
 go_enter Try.func46, Try.ntmps46
 go_wp2_with (first | ((with_reducible refine gd_ (N := 7) rfl ?_); refine Kd.S_lit k59 _ 59 ?hg (N := 7) ?hd (xs := ([] : List (S59))) (inner := []) (ok := fun _ => True) (okp := fun _ => True) ?hr ?hp (fun _ hk => hk) trivial (Below.refl _ _) (Nat.le_refl _) (by simp) ?_; (case hd => rfl); (case hg => rfl); (case hr => first | (go_simp; done) | (go_simp; rfl)); (case hp => exact (Reps.none _ _)); intro v480 w3 ho4 hb hg_ hnew_; clear hg_ hnew_; (first | rw [← Ny479.out] at ho4 | (simp only [Int.reduceToNat] at ho4; rw [← Ny479.out] at ho4)); have HO481 := A_ (Kd.S_lower ho4 (below_size bB_)); replace HB := A_ (below_step bB_ hb); clear hb ho4))
 go_loopg [5, 6] k (fun kq v5 v6 w' => ∃ (x5_1 : List (S59)) (x6_1 : Int), v6 = .int .i64 x6_1 ∧ Aside0 (spec_DeepOf.l0 kq l0 l1 x5_1 x6_1 = some r) ∧ Aside0 (kq ≤ k) ∧ Aside0 (Kd.S k59 59 w' w.heap.size (fun _ => True) v5 x5_1) ∧ Aside0 (Below w.heap.size w w'))
 case atStart => exact ⟨(y479), (0), rs_, H', ⟨Nat.le_refl _⟩, ⟨vS_ HO481.out⟩, ⟨bB_⟩⟩
 case round =>
  clear H'
  try clear c1
  try clear p2
  try clear c4
  obtain ⟨x5_1, x6_1, rfl, HA, HK1, HO_5, HB⟩ := hrel
  cases gk with
  | zero => exact absurd HA.out (by simp [spec_DeepOf.l0])
  | succ k1 =>
   have H := HA.out
   clear HA
   simp only [spec_DeepOf.l0] at H
   by_cases c5 : x6_1 < (l0.length : Int)
   rotate_left
   · rw [if_neg c5] at H
     have c5b0 : decide (x6_1 < (l0.length : Int)) = false := decide_eq_false c5
     clear c5
     obtain rfl := si_ H
     go_wp2
     go_ret
     exact ⟨_, rr_, by (with_reducible repeat (first | apply Kd.S_alloc | apply Kd.S_drewN | apply Kd.S_drew)); exact HO_5.out, bB_⟩
   rw [if_pos c5] at H
   have c5b0 : decide (x6_1 < (l0.length : Int)) = true := decide_eq_true c5
   clear c5
   by_cases c6 : 0 ≤ x6_1
   rotate_left
   · exact absurd H (by rw [if_neg c6]; simp)
   rw [if_pos c6] at H
   have c6b0 : decide (0 ≤ x6_1) = true := decide_eq_true c6
   clear c6
   obtain ⟨t483, A7, H⟩ := bo_ H
   (try dsimp only at H)
   by_cases c8 : t483 = true
   · subst c8
     rw [if_pos rfl] at H
     obtain ⟨⟨t485, t488, t489, t490, t491⟩, A9, H⟩ := bo_ H
     (try dsimp only at H)
     by_cases c10 : x5_1.length < 1759218604441
     rotate_left
     · exact absurd H (by rw [if_neg c10]; simp)
     rw [if_pos c10] at H
     have LMc10 := A_ c10
     clear c10
     obtain ⟨y494, hy494⟩ : ∃ y_ : List (S59), y_ = (x5_1 ++ [(⟨t485, t488, t489, t490, t491⟩ : S59)]) := ⟨_, rfl⟩
     replace H : (spec_DeepOf.l0 k1 l0 l1 y494 (wrap64 (x6_1 + 1))) = some r := hy_ hy494 H
     have Ny494 := A_ hy494
     clear hy494
     have H' := A_ H
     clear H
     have p482 : 0 ≤ (x6_1 : Int) := od_
     have q482 : x6_1 < (l0.length : Int) := od_
     obtain ⟨ad482, A482_0, c482_0, A482_4, c482_4, e482, hx482_0, hx482_1, hx482_2, hx482_3, hx482_4, hl482_0, hi482_0, hl482_4, hi482_4⟩ := at_T59 HR0.out x6_1 p482 q482
     cases e482
     replace hx482_0 := bc_ HB.out hx482_0
     replace hx482_1 := bc_ HB.out hx482_1
     replace hx482_2 := bc_ HB.out hx482_2
     replace hx482_3 := bc_ HB.out hx482_3
     replace hx482_4 := bc_ HB.out hx482_4
     have HR482_0 := A_ hi482_0
     have HC482_0 := A_ hl482_0
     clear hi482_0 hl482_0
     have HR482_4 := A_ hi482_4
     have HC482_4 := A_ hl482_4
     clear hi482_4 hl482_4
     replace p482 := eq_true p482
     replace q482 := eq_true q482
     go_wp2_with (first | ((with_reducible refine gc_ (f := 74) rfl ?_); refine gL_ (some 20) Try.func74 #[.slice A482_0 ((rd_T59 l0 x6_1).f0).length c482_0, .slice A1 l1.length c1] ?_; (with_reducible refine (spec_SamePath.calls k1 _ _ ((rd_T59 l0 x6_1).f0) _ _ l1 true _ ?s1 ?s2 ?s3 ?s4 A7.out).mono ?_); (case s1 => exact cC_ (Kd.C_below HR482_0.out HB.out)); (case s2 => exact HC482_0.out); (case s3 => exact cC_ (Kd.C_below HR1.out HB.out)); (case s4 => exact HC1.out); rintro e w' ⟨rfl, ⟨nd, rfl⟩⟩; refine ⟨_, rfl, ?_⟩; have p484 : 0 ≤ (x6_1 : Int) := od_; have q484 : x6_1 < (l0.length : Int) := od_; obtain ⟨ad484, A484_0, c484_0, A484_4, c484_4, e484, hx484_0, hx484_1, hx484_2, hx484_3, hx484_4, hl484_0, hi484_0, hl484_4, hi484_4⟩ := at_T59 HR0.out x6_1 p484 q484; obtain rfl : ad482 = ad484 := (by injection e484); replace hx484_0 := bc_ HB.out hx484_0; replace hx484_1 := bc_ HB.out hx484_1; replace hx484_2 := bc_ HB.out hx484_2; replace hx484_3 := bc_ HB.out hx484_3; replace hx484_4 := bc_ HB.out hx484_4; have HR484_0 := A_ hi484_0; have HC484_0 := A_ hl484_0; clear hi484_0 hl484_0; have HR484_4 := A_ hi484_4; have HC484_4 := A_ hl484_4; clear hi484_4 hl484_4; replace p484 := eq_true p484; replace q484 := eq_true q484; have ea_ := Option.some.inj (hx482_0.symm.trans hx484_0); injection ea_ with ea_ en_ ec_; subst ea_; subst ec_; clear en_; have ea_ := Option.some.inj (hx482_4.symm.trans hx484_4); injection ea_ with ea_ en_ ec_; subst ea_; subst ec_; clear en_) | ((with_reducible refine gc_ (f := 78) rfl ?_); refine gL_ (some 35) Try.func78 #[.agg #[.slice A482_0 ((rd_T59 l0 x6_1).f0).length c482_0, .bool ((rd_T59 l0 x6_1).f1), .string ((rd_T59 l0 x6_1).f2), .int .i64 ((rd_T59 l0 x6_1).f3), .slice A482_4 ((rd_T59 l0 x6_1).f4).length c482_4]] ?_; (with_reducible refine (spec_l10Copy.calls _ _ ((rd_T59 l0 x6_1).f0) ((rd_T59 l0 x6_1).f1) ((rd_T59 l0 x6_1).f2) ((rd_T59 l0 x6_1).f3) _ _ ((rd_T59 l0 x6_1).f4) t485 t488 t489 t490 t491 _ ?s1 ?s2 ?s3 ?s4 A9.out).mono ?_); (case s1 => exact cC_ (Kd.C_below HR484_0.out bB_)); (case s2 => exact HC484_0.out); (case s3 => exact cC_ (Kd.C_below HR484_4.out bB_)); (case s4 => exact HC484_4.out); rintro e w11 ⟨v486, v492, rfl, ho0, ho1, hb⟩; refine ⟨_, rfl, ?_⟩; replace HO_5 := A_ (Kd.S_mono (Kd.S_told (Kd.S_told (Kd.S_old (vS_ HO_5.out) hb) (kb_ ho0)) (kb_ ho1)) (fun _ h_ => h_.1)); have HO487 := A_ (Kd.R_lower ho0 (below_size bB_)); have HO493 := A_ (Kd.R_lower ho1 (below_size bB_)); replace HB := A_ (below_step bB_ hb); (try clear hb); (try clear ho0); (try clear ho1); obtain ⟨Ao13, co13, eo13⟩ := Kd.R_slice HO487.out; subst eo13; obtain ⟨Ao14, co14, eo14⟩ := Kd.R_slice HO493.out; subst eo14) | ((with_reducible refine gate_builtin (b := .append) (xs := #[.tmp 30, .tmp 36]) rfl ?_); at_builtin; refine Kd.S_append k59 (w0 := w) w.heap.size rfl (.tmp 30) (.tmp 36) 40 59 (.agg #[(.slice none 0 0), (.bool false), (.string ⟨#[]⟩), (.int .i64 0), (.slice none 0 0)]) 80 rfl Try.underlying40 info59 rfl (by decide) (by omega) u5 x5_1 (⟨t485, t488, t489, t490, t491⟩ : S59) [.slice Ao13 t485.length co13, .bool t488, .string t489, .int .i64 t490, .slice Ao14 t491.length co14] (fun _ => True) (fun k_ => some k_ = (.slice Ao13 t485.length co13 : Value).ownBlock ∨ some k_ = (.slice Ao14 t491.length co14 : Value).ownBlock) rfl rfl ?aP (fun k_ hk_ => hk_.elim (fun h_ => ((Kd.R_mono (ok' := fun k_ => ((fun _ => True)) k_ ∧ some k_ ≠ (u5 : Value).ownBlock) (Kd.R_apart' (HO487.out) (Kd.S_typed HO_5.out) (by decide)) (fun k_ hk => ⟨trivial, hk.2⟩))).1 k_ h_.symm) (fun h_ => ((Kd.R_mono (ok' := fun k_ => ((fun _ => True)) k_ ∧ some k_ ≠ (u5 : Value).ownBlock) (Kd.R_apart' (HO493.out) (Kd.S_typed HO_5.out) (by decide)) (fun k_ hk => ⟨trivial, hk.2⟩))).1 k_ h_.symm)) ?aF ?aO ?aB ?aS ?aL ?_; (case aP => exact k59_mkM _ _ _ (⟨t485, t488, t489, t490, t491⟩ : S59) (Kd.R_mono (Kd.R_tight rfl (Kd.R_mono (ok' := fun k_ => ((fun _ => True)) k_ ∧ some k_ ≠ (u5 : Value).ownBlock) (Kd.R_apart' (HO487.out) (Kd.S_typed HO_5.out) (by decide)) (fun k_ hk => ⟨trivial, hk.2⟩))) (fun _ h_ => Or.inl h_)) (Kd.R_mono (Kd.R_tight rfl (Kd.R_mono (ok' := fun k_ => ((fun _ => True)) k_ ∧ some k_ ≠ (u5 : Value).ownBlock) (Kd.R_apart' (HO493.out) (Kd.S_typed HO_5.out) (by decide)) (fun k_ hk => ⟨trivial, hk.2⟩))) (fun _ h_ => Or.inr (h_)))); (case aB => exact bB_); (case aF => exact (fun _ _ => trivial)); (case aO => exact (by (with_reducible repeat (first | apply Kd.S_alloc | apply Kd.S_drewN | apply Kd.S_drew)); exact Kd.S_mono HO_5.out (fun k_ hk => ⟨trivial, fun e_ => e_.elim (fun h_ => hk.1.2 h_) (fun h_ => hk.2 h_)⟩))); (case aS => exact (below_size bB_)); (case aL => have := LMc10.out; omega); intro v495 w12 ho hb hg hat; rw [← Ny494.out] at ho; replace HB := A_ (hb); have HO496 := A_ (ho); clear HO_5 HO487 HO493; clear ho hb hg hat))
     go_roundg k1
     case measure => have := HK1.out; omega
     case rel => exact ⟨(y494), (wrap64 (x6_1 + 1)), rs_, H', ⟨by have := HK1.out; omega⟩, ⟨vS_ HO496.out⟩, ⟨bB_⟩⟩
   · replace c8 := Bool.eq_false_iff.mpr c8
     subst c8
     rw [if_neg nf_] at H
     obtain ⟨t498, A15, H⟩ := bo_ H
     (try dsimp only at H)
     by_cases c16 : t498 = true
     · subst c16
       rw [if_pos rfl] at H
       obtain ⟨⟨t500, t503, t504, t505, t506⟩, A17, H⟩ := bo_ H
       (try dsimp only at H)
       by_cases c18 : x5_1.length < 1759218604441
       rotate_left
       · exact absurd H (by rw [if_neg c18]; simp)
       rw [if_pos c18] at H
       have LMc18 := A_ c18
       clear c18
       obtain ⟨y509, hy509⟩ : ∃ y_ : List (S59), y_ = (x5_1 ++ [(⟨t500, t503, t504, t505, t506⟩ : S59)]) := ⟨_, rfl⟩
       replace H : (spec_DeepOf.l0 k1 l0 l1 y509 (wrap64 (x6_1 + 1))) = some r := hy_ hy509 H
       have Ny509 := A_ hy509
       clear hy509
       have H' := A_ H
       clear H
       have p482 : 0 ≤ (x6_1 : Int) := od_
       have q482 : x6_1 < (l0.length : Int) := od_
       obtain ⟨ad482, A482_0, c482_0, A482_4, c482_4, e482, hx482_0, hx482_1, hx482_2, hx482_3, hx482_4, hl482_0, hi482_0, hl482_4, hi482_4⟩ := at_T59 HR0.out x6_1 p482 q482
       cases e482
       replace hx482_0 := bc_ HB.out hx482_0
       replace hx482_1 := bc_ HB.out hx482_1
       replace hx482_2 := bc_ HB.out hx482_2
       replace hx482_3 := bc_ HB.out hx482_3
       replace hx482_4 := bc_ HB.out hx482_4
       have HR482_0 := A_ hi482_0
       have HC482_0 := A_ hl482_0
       clear hi482_0 hl482_0
       have HR482_4 := A_ hi482_4
       have HC482_4 := A_ hl482_4
       clear hi482_4 hl482_4
       replace p482 := eq_true p482
       replace q482 := eq_true q482
       go_wp2_with (first | ((with_reducible refine gc_ (f := 74) rfl ?_); refine gL_ (some 20) Try.func74 #[.slice A482_0 ((rd_T59 l0 x6_1).f0).length c482_0, .slice A1 l1.length c1] ?_; (with_reducible refine (spec_SamePath.calls k1 _ _ ((rd_T59 l0 x6_1).f0) _ _ l1 false _ ?s1 ?s2 ?s3 ?s4 A7.out).mono ?_); (case s1 => exact cC_ (Kd.C_below HR482_0.out HB.out)); (case s2 => exact HC482_0.out); (case s3 => exact cC_ (Kd.C_below HR1.out HB.out)); (case s4 => exact HC1.out); rintro e w' ⟨rfl, ⟨nd, rfl⟩⟩; refine ⟨_, rfl, ?_⟩; have p497 : 0 ≤ (x6_1 : Int) := od_; have q497 : x6_1 < (l0.length : Int) := od_; obtain ⟨ad497, A497_0, c497_0, A497_4, c497_4, e497, hx497_0, hx497_1, hx497_2, hx497_3, hx497_4, hl497_0, hi497_0, hl497_4, hi497_4⟩ := at_T59 HR0.out x6_1 p497 q497; obtain rfl : ad482 = ad497 := (by injection e497); replace hx497_0 := bc_ HB.out hx497_0; replace hx497_1 := bc_ HB.out hx497_1; replace hx497_2 := bc_ HB.out hx497_2; replace hx497_3 := bc_ HB.out hx497_3; replace hx497_4 := bc_ HB.out hx497_4; have HR497_0 := A_ hi497_0; have HC497_0 := A_ hl497_0; clear hi497_0 hl497_0; have HR497_4 := A_ hi497_4; have HC497_4 := A_ hl497_4; clear hi497_4 hl497_4; replace p497 := eq_true p497; replace q497 := eq_true q497; have ea_ := Option.some.inj (hx482_0.symm.trans hx497_0); injection ea_ with ea_ en_ ec_; subst ea_; subst ec_; clear en_; have ea_ := Option.some.inj (hx482_4.symm.trans hx497_4); injection ea_ with ea_ en_ ec_; subst ea_; subst ec_; clear en_) | (go_at_call 75; (with_reducible refine (spec_Under.calls k1 _ _ ((rd_T59 l0 x6_1).f0) _ _ l1 true _ ?s1 ?s2 ?s3 ?s4 A15.out).mono ?_); (case s1 => exact cC_ (Kd.C_below HR497_0.out bB_)); (case s2 => exact HC497_0.out); (case s3 => exact cC_ (Kd.C_below HR1.out bB_)); (case s4 => exact HC1.out); rintro e w' ⟨rfl, ⟨nd, rfl⟩⟩; have p499 : 0 ≤ (x6_1 : Int) := od_; have q499 : x6_1 < (l0.length : Int) := od_; obtain ⟨ad499, A499_0, c499_0, A499_4, c499_4, e499, hx499_0, hx499_1, hx499_2, hx499_3, hx499_4, hl499_0, hi499_0, hl499_4, hi499_4⟩ := at_T59 HR0.out x6_1 p499 q499; obtain rfl : ad482 = ad499 := (by injection e499); replace hx499_0 := bc_ HB.out hx499_0; replace hx499_1 := bc_ HB.out hx499_1; replace hx499_2 := bc_ HB.out hx499_2; replace hx499_3 := bc_ HB.out hx499_3; replace hx499_4 := bc_ HB.out hx499_4; have HR499_0 := A_ hi499_0; have HC499_0 := A_ hl499_0; clear hi499_0 hl499_0; have HR499_4 := A_ hi499_4; have HC499_4 := A_ hl499_4; clear hi499_4 hl499_4; replace p499 := eq_true p499; replace q499 := eq_true q499; have ea_ := Option.some.inj (hx482_0.symm.trans hx499_0); injection ea_ with ea_ en_ ec_; subst ea_; subst ec_; clear en_; have ea_ := Option.some.inj (hx482_4.symm.trans hx499_4); injection ea_ with ea_ en_ ec_; subst ea_; subst ec_; clear en_) | ((with_reducible refine gc_ (f := 78) rfl ?_); refine gL_ (some 35) Try.func78 #[.agg #[.slice A482_0 ((rd_T59 l0 x6_1).f0).length c482_0, .bool ((rd_T59 l0 x6_1).f1), .string ((rd_T59 l0 x6_1).f2), .int .i64 ((rd_T59 l0 x6_1).f3), .slice A482_4 ((rd_T59 l0 x6_1).f4).length c482_4]] ?_; (with_reducible refine (spec_l10Copy.calls _ _ ((rd_T59 l0 x6_1).f0) ((rd_T59 l0 x6_1).f1) ((rd_T59 l0 x6_1).f2) ((rd_T59 l0 x6_1).f3) _ _ ((rd_T59 l0 x6_1).f4) t500 t503 t504 t505 t506 _ ?s1 ?s2 ?s3 ?s4 A17.out).mono ?_); (case s1 => exact cC_ (Kd.C_below HR499_0.out bB_)); (case s2 => exact HC499_0.out); (case s3 => exact cC_ (Kd.C_below HR499_4.out bB_)); (case s4 => exact HC499_4.out); rintro e w19 ⟨v501, v507, rfl, ho0, ho1, hb⟩; refine ⟨_, rfl, ?_⟩; replace HO_5 := A_ (Kd.S_mono (Kd.S_told (Kd.S_told (Kd.S_old (vS_ HO_5.out) hb) (kb_ ho0)) (kb_ ho1)) (fun _ h_ => h_.1)); have HO502 := A_ (Kd.R_lower ho0 (below_size bB_)); have HO508 := A_ (Kd.R_lower ho1 (below_size bB_)); replace HB := A_ (below_step bB_ hb); (try clear hb); (try clear ho0); (try clear ho1); obtain ⟨Ao21, co21, eo21⟩ := Kd.R_slice HO502.out; subst eo21; obtain ⟨Ao22, co22, eo22⟩ := Kd.R_slice HO508.out; subst eo22) | ((with_reducible refine gate_builtin (b := .append) (xs := #[.tmp 30, .tmp 36]) rfl ?_); at_builtin; refine Kd.S_append k59 (w0 := w) w.heap.size rfl (.tmp 30) (.tmp 36) 40 59 (.agg #[(.slice none 0 0), (.bool false), (.string ⟨#[]⟩), (.int .i64 0), (.slice none 0 0)]) 80 rfl Try.underlying40 info59 rfl (by decide) (by omega) u5 x5_1 (⟨t500, t503, t504, t505, t506⟩ : S59) [.slice Ao21 t500.length co21, .bool t503, .string t504, .int .i64 t505, .slice Ao22 t506.length co22] (fun _ => True) (fun k_ => some k_ = (.slice Ao21 t500.length co21 : Value).ownBlock ∨ some k_ = (.slice Ao22 t506.length co22 : Value).ownBlock) rfl rfl ?aP (fun k_ hk_ => hk_.elim (fun h_ => ((Kd.R_mono (ok' := fun k_ => ((fun _ => True)) k_ ∧ some k_ ≠ (u5 : Value).ownBlock) (Kd.R_apart' (HO502.out) (Kd.S_typed HO_5.out) (by decide)) (fun k_ hk => ⟨trivial, hk.2⟩))).1 k_ h_.symm) (fun h_ => ((Kd.R_mono (ok' := fun k_ => ((fun _ => True)) k_ ∧ some k_ ≠ (u5 : Value).ownBlock) (Kd.R_apart' (HO508.out) (Kd.S_typed HO_5.out) (by decide)) (fun k_ hk => ⟨trivial, hk.2⟩))).1 k_ h_.symm)) ?aF ?aO ?aB ?aS ?aL ?_; (case aP => exact k59_mkM _ _ _ (⟨t500, t503, t504, t505, t506⟩ : S59) (Kd.R_mono (Kd.R_tight rfl (Kd.R_mono (ok' := fun k_ => ((fun _ => True)) k_ ∧ some k_ ≠ (u5 : Value).ownBlock) (Kd.R_apart' (HO502.out) (Kd.S_typed HO_5.out) (by decide)) (fun k_ hk => ⟨trivial, hk.2⟩))) (fun _ h_ => Or.inl h_)) (Kd.R_mono (Kd.R_tight rfl (Kd.R_mono (ok' := fun k_ => ((fun _ => True)) k_ ∧ some k_ ≠ (u5 : Value).ownBlock) (Kd.R_apart' (HO508.out) (Kd.S_typed HO_5.out) (by decide)) (fun k_ hk => ⟨trivial, hk.2⟩))) (fun _ h_ => Or.inr (h_)))); (case aB => exact bB_); (case aF => exact (fun _ _ => trivial)); (case aO => exact (by (with_reducible repeat (first | apply Kd.S_alloc | apply Kd.S_drewN | apply Kd.S_drew)); exact Kd.S_mono HO_5.out (fun k_ hk => ⟨trivial, fun e_ => e_.elim (fun h_ => hk.1.2 h_) (fun h_ => hk.2 h_)⟩))); (case aS => exact (below_size bB_)); (case aL => have := LMc18.out; omega); intro v510 w20 ho hb hg hat; rw [← Ny509.out] at ho; replace HB := A_ (hb); have HO511 := A_ (ho); clear HO_5 HO502 HO508; clear ho hb hg hat))
       go_roundg k1
       case measure => have := HK1.out; omega
       case rel => exact ⟨(y509), (wrap64 (x6_1 + 1)), rs_, H', ⟨by have := HK1.out; omega⟩, ⟨vS_ HO511.out⟩, ⟨bB_⟩⟩
     · replace c16 := Bool.eq_false_iff.mpr c16
       subst c16
       rw [if_neg nf_] at H
       have H' := A_ H
       clear H
       have p482 : 0 ≤ (x6_1 : Int) := od_
       have q482 : x6_1 < (l0.length : Int) := od_
       obtain ⟨ad482, A482_0, c482_0, A482_4, c482_4, e482, hx482_0, hx482_1, hx482_2, hx482_3, hx482_4, hl482_0, hi482_0, hl482_4, hi482_4⟩ := at_T59 HR0.out x6_1 p482 q482
       cases e482
       replace hx482_0 := bc_ HB.out hx482_0
       replace hx482_1 := bc_ HB.out hx482_1
       replace hx482_2 := bc_ HB.out hx482_2
       replace hx482_3 := bc_ HB.out hx482_3
       replace hx482_4 := bc_ HB.out hx482_4
       have HR482_0 := A_ hi482_0
       have HC482_0 := A_ hl482_0
       clear hi482_0 hl482_0
       have HR482_4 := A_ hi482_4
       have HC482_4 := A_ hl482_4
       clear hi482_4 hl482_4
       replace p482 := eq_true p482
       replace q482 := eq_true q482
       go_wp2_with (first | ((with_reducible refine gc_ (f := 74) rfl ?_); refine gL_ (some 20) Try.func74 #[.slice A482_0 ((rd_T59 l0 x6_1).f0).length c482_0, .slice A1 l1.length c1] ?_; (with_reducible refine (spec_SamePath.calls k1 _ _ ((rd_T59 l0 x6_1).f0) _ _ l1 false _ ?s1 ?s2 ?s3 ?s4 A7.out).mono ?_); (case s1 => exact cC_ (Kd.C_below HR482_0.out HB.out)); (case s2 => exact HC482_0.out); (case s3 => exact cC_ (Kd.C_below HR1.out HB.out)); (case s4 => exact HC1.out); rintro e w' ⟨rfl, ⟨nd, rfl⟩⟩; refine ⟨_, rfl, ?_⟩; have p497 : 0 ≤ (x6_1 : Int) := od_; have q497 : x6_1 < (l0.length : Int) := od_; obtain ⟨ad497, A497_0, c497_0, A497_4, c497_4, e497, hx497_0, hx497_1, hx497_2, hx497_3, hx497_4, hl497_0, hi497_0, hl497_4, hi497_4⟩ := at_T59 HR0.out x6_1 p497 q497; obtain rfl : ad482 = ad497 := (by injection e497); replace hx497_0 := bc_ HB.out hx497_0; replace hx497_1 := bc_ HB.out hx497_1; replace hx497_2 := bc_ HB.out hx497_2; replace hx497_3 := bc_ HB.out hx497_3; replace hx497_4 := bc_ HB.out hx497_4; have HR497_0 := A_ hi497_0; have HC497_0 := A_ hl497_0; clear hi497_0 hl497_0; have HR497_4 := A_ hi497_4; have HC497_4 := A_ hl497_4; clear hi497_4 hl497_4; replace p497 := eq_true p497; replace q497 := eq_true q497; have ea_ := Option.some.inj (hx482_0.symm.trans hx497_0); injection ea_ with ea_ en_ ec_; subst ea_; subst ec_; clear en_; have ea_ := Option.some.inj (hx482_4.symm.trans hx497_4); injection ea_ with ea_ en_ ec_; subst ea_; subst ec_; clear en_) | (go_at_call 75; (with_reducible refine (spec_Under.calls k1 _ _ ((rd_T59 l0 x6_1).f0) _ _ l1 false _ ?s1 ?s2 ?s3 ?s4 A15.out).mono ?_); (case s1 => exact cC_ (Kd.C_below HR497_0.out bB_)); (case s2 => exact HC497_0.out); (case s3 => exact cC_ (Kd.C_below HR1.out bB_)); (case s4 => exact HC1.out); rintro e w' ⟨rfl, ⟨nd, rfl⟩⟩))
       go_roundg k1
       case measure => have := HK1.out; omega
       case rel => exact ⟨(x5_1), (wrap64 (x6_1 + 1)), rs_, H', ⟨by have := HK1.out; omega⟩, ⟨vS_ HO_5.out⟩, ⟨bB_⟩⟩
def impl_isAt.f (k : Nat) (l0 : List ByteArray) (l1 : List ByteArray) : Option (Bool) := (impl_SamePath.f k l0 l1).bind fun t512 => (if t512 = true then (some true) else ((impl_Under.f k l0 l1).bind fun t513 => (some t513)))
theorem impl_isAt.calls (k : Nat) (A0 : Option Addr) (c0 : Nat) (l0 : List ByteArray) (A1 : Option Addr) (c1 : Nat) (l1 : List ByteArray) (r : Bool) (w : World) (hr0 : Kd.C Kd.string w A0 l0.length l0) (hc0 : l0.length ≤ c0) (hr1 : Kd.C Kd.string w A1 l1.length l1) (hc1 : l1.length ≤ c1) (h : impl_isAt.f k l0 l1 = some r) :
 Calls Try.prog 79 #[.slice A0 l0.length c0, .slice A1 l1.length c1] w fun e w' => e = .returned (.bool r) ∧ Drawn0 w w' := by
 have HR0 := A_ hr0
 have HC0 := A_ hc0
 clear hr0 hc0
 have HR1 := A_ hr1
 have HC1 := A_ hc1
 clear hr1 hc1
 have H : ((impl_SamePath.f k l0 l1).bind fun t512 => (if t512 = true then (some true) else ((impl_Under.f k l0 l1).bind fun t513 => (some t513)))) = some r := h
 clear h
 obtain ⟨t512, A3, H⟩ := bo_ H
 (try dsimp only at H)
 by_cases c4 : t512 = true
 · subst c4
   rw [if_pos rfl] at H
   obtain rfl := si_ H
   go_enter Try.func79, Try.ntmps79
   go_wp2_with (first | ((with_reducible refine gc_ (f := 53) rfl ?_); refine gL_ (some 7) Try.func53 #[.slice A0 l0.length c0, .slice A1 l1.length c1] ?_; (with_reducible refine (impl_SamePath.calls k _ _ l0 _ _ l1 true _ ?s1 ?s2 ?s3 ?s4 A3.out).mono ?_); (case s1 => exact cC_ HR0.out); (case s2 => exact HC0.out); (case s3 => exact cC_ HR1.out); (case s4 => exact HC1.out); rintro e w' ⟨rfl, ⟨nd, rfl⟩⟩; refine ⟨_, rfl, ?_⟩))
   go_ret
   exact ⟨rs_, dr_⟩
 · replace c4 := Bool.eq_false_iff.mpr c4
   subst c4
   rw [if_neg nf_] at H
   obtain ⟨t513, A5, H⟩ := bo_ H
   (try dsimp only at H)
   obtain rfl := si_ H
   go_enter Try.func79, Try.ntmps79
   go_wp2_with (first | ((with_reducible refine gc_ (f := 53) rfl ?_); refine gL_ (some 7) Try.func53 #[.slice A0 l0.length c0, .slice A1 l1.length c1] ?_; (with_reducible refine (impl_SamePath.calls k _ _ l0 _ _ l1 false _ ?s1 ?s2 ?s3 ?s4 A3.out).mono ?_); (case s1 => exact cC_ HR0.out); (case s2 => exact HC0.out); (case s3 => exact cC_ HR1.out); (case s4 => exact HC1.out); rintro e w' ⟨rfl, ⟨nd, rfl⟩⟩; refine ⟨_, rfl, ?_⟩) | (go_at_call 76; (with_reducible refine (impl_Under.calls k _ _ l0 _ _ l1 t513 _ ?s1 ?s2 ?s3 ?s4 A5.out).mono ?_); (case s1 => exact cC_ HR0.out); (case s2 => exact HC0.out); (case s3 => exact cC_ HR1.out); (case s4 => exact HC1.out); rintro e w' ⟨rfl, ⟨nd, rfl⟩⟩))
   go_ret
   exact ⟨rs_, dr_⟩
def impl_copyRes.f (l0_0 : List ByteArray) (a0_1 : Bool) (a0_2 : ByteArray) (a0_3 : Int) (l0_4 : List (S71)) : Option (List ByteArray × Bool × ByteArray × Int × (List (S71))) := (impl_copyPath.f l0_0).bind fun t516 => (if ([] : List (S71)).length + l0_4.length < 2932031007402 then (some (t516, a0_1, a0_2, a0_3, (([] : List (S71)) ++ l0_4))) else (none))
def impl_copyRes.T1 : Bool × List (List Nat × List Nat) := (true, [([], []), ([0], [0]), ([1], [1]), ([], []), ([3], [3]), ([4, 2], [4]), ([0, 1, 2, 3, 4], []), ([6, 2, 5, 0, 1, 2, 3, 4], [2, 6]), ([0, 1, 2, 3, 4, 5, 6, 7], []), ([8, 5, 7, 0, 1, 2, 3, 4, 5, 6, 7], [5, 8])])
def impl_copyRes.B1 : List Nat := [0, 1, 3, 0, 8, 31, 31, 127, 255, 511]
theorem impl_copyRes.tab1 : rtab .any (opsOf Try.f80 1) = impl_copyRes.T1 := by kernel_rfl
theorem impl_copyRes.bits1 : waitsOk impl_copyRes.T1.2 impl_copyRes.B1 = true := by kernel_rfl
theorem impl_copyRes.calls (A0_0 : Option Addr) (c0_0 : Nat) (l0_0 : List ByteArray) (a0_1 : Bool) (a0_2 : ByteArray) (a0_3 : Int) (A0_4 : Option Addr) (c0_4 : Nat) (l0_4 : List (S71)) (r1 : List ByteArray) (r2 : Bool) (r3 : ByteArray) (r4 : Int) (r5 : List (S71)) (w : World) (hr0_0 : Kd.C Kd.string w A0_0 l0_0.length l0_0) (hc0_0 : l0_0.length ≤ c0_0) (hr0_4 : Kd.C k71 w A0_4 l0_4.length l0_4) (hc0_4 : l0_4.length ≤ c0_4) (h : impl_copyRes.f l0_0 a0_1 a0_2 a0_3 l0_4 = some (r1, r2, r3, r4, r5)) :
 Calls Try.prog 80 #[.agg #[.slice A0_0 l0_0.length c0_0, .bool a0_1, .string a0_2, .int .i64 a0_3, .slice A0_4 l0_4.length c0_4]] w fun e w' => ∃ v0_ v4_ : Value, e = .returned (.agg #[v0_, .bool r2, .string r3, .int .i64 r4, v4_]) ∧ Kd.R Kd.string 9 w' w.heap.size (fun _ => True) v0_ r1 ∧ Kd.R k71 71 w' w.heap.size (fun _ => True) v4_ r5 ∧ Below w.heap.size w w' := by
 have hu59 := Try.underlying59
 have HR0_0 := A_ hr0_0
 have HC0_0 := A_ hc0_0
 clear hr0_0 hc0_0
 have HR0_4 := A_ hr0_4
 have HC0_4 := A_ hc0_4
 clear hr0_4 hc0_4
 have HB := A_ (Below.refl w.heap.size w)
 have H : ((impl_copyPath.f l0_0).bind fun t516 => (if ([] : List (S71)).length + l0_4.length < 2932031007402 then (some (t516, a0_1, a0_2, a0_3, (([] : List (S71)) ++ l0_4))) else (none))) = some (r1, r2, r3, r4, r5) := h
 clear h
 obtain ⟨t516, A2, H⟩ := bo_ H
 (try dsimp only at H)
 by_cases c3 : ([] : List (S71)).length + l0_4.length < 2932031007402
 rotate_left
 · exact absurd H (by rw [if_neg c3]; simp)
 rw [if_pos c3] at H
 have LMc3 := A_ c3
 clear c3
 obtain ⟨y519, hy519⟩ : ∃ y_ : List (S71), y_ = (([] : List (S71)) ++ l0_4) := ⟨_, rfl⟩
 replace H : (some (t516, a0_1, a0_2, a0_3, y519)) = some (r1, r2, r3, r4, r5) := hy_ hy519 H
 have Ny519 := A_ hy519
 clear hy519
 simp only [Option.some.injEq, Prod.mk.injEq] at H
 obtain ⟨rfl, rfl, rfl, rfl, rfl⟩ := H
 go_enter Try.func80, Try.ntmps80
 try go_wp2_with (first | ((with_reducible refine gd_ (N := 1) rfl ?_); refine bx_ (N := 1) (cs := #[.slice A0_0 l0_0.length c0_0, .bool a0_1, .string a0_2, .int .i64 a0_3, .slice A0_4 l0_4.length c0_4]) (t := 59) ?_; intro gb514 hg w4 hbox hb; have BK514 := A_ (hbox); have GW514 := A_ (ge_ hg bB_ : w.heap.size ≤ gb514); have GE514 := A_ (ge_ hg bB_ : w.heap.size ≤ gb514); replace HB := A_ (below_step bB_ hb); clear hb hbox hg) | ((with_reducible refine gd_ (N := 2) rfl ?_); refine bx_ (N := 2) (cs := #[.slice none 0 0, .bool false, .string (⟨#[]⟩ : ByteArray), .int .i64 0, .slice none 0 0]) (t := 59) ?_; intro gb515 hg w5 hbox hb; have BK515 := A_ (hbox); have GW515 := A_ (ge_ hg (bG_ GE514.out) : w.heap.size ≤ gb515); have GE515 := A_ (ge_ hg (bG_ GE514.out) : w.heap.size ≤ gb515); replace HB := A_ (below_step (bG_ GE514.out) hb); have NB514_515 := A_ (gm_ hg BK514.out); have NB515_514 := A_ (gn_ hg BK514.out); replace BK514 := A_ (bw_ BK514.out hb); clear hb hbox hg))
 replace BK514 := A_ (blk_drew BK514.out)
 replace BK515 := A_ (blk_drew BK515.out)
 replace HB := A_ (below_drew1 HB.out)
 refine start_ (n := 10) (S := fun w' => w'.cell? ⟨gb514, 0, none⟩ = some (.slice A0_0 l0_0.length c0_0) ∧ w'.cell? ⟨gb514, 1, none⟩ = some (.bool a0_1) ∧ w'.cell? ⟨gb514, 2, none⟩ = some (.string a0_2) ∧ w'.cell? ⟨gb514, 3, none⟩ = some (.int .i64 a0_3) ∧ w'.cell? ⟨gb514, 4, none⟩ = some (.slice A0_4 l0_4.length c0_4)) (ds := [7, 9]) #[false, false, false, false, false, false, false, false, false, false] (by kernel_rfl) rfl rfl (hl_ BK514.out) (fun hHeld => ?_); refine with_tabW impl_copyRes.tab1 impl_copyRes.bits1 (fun HT_ HW_ => ?_)
 generalize w5.drew = w6 at BK514 BK515 HB hHeld ⊢
 refine pu_ (i := 0) (N := some 3) ?_
 refine pu_ (i := 3) (N := some 6) ?_
 refine tk_ (i := 1) (N := some 4) hHeld ?_
 refine tk_ (i := 4) (N := some 7) hHeld ?_
 refine on_ (i := 2) (N := some 5) (fun K hK => ?_)
 refine goes_ Try.func62 (by kernel_rfl) rfl #[.slice A0_0 l0_0.length c0_0] (by rfl) rfl rfl ml_ ?_
 with_reducible refine (impl_copyPath.calls _ _ l0_0 t516 _ ?s1 ?s2 A2.out).mono ?_
 (case s1 => exact cC_ (Kd.C_below HR0_0.out HB.out))
 (case s2 => exact HC0_0.out)
 rintro e w7 ⟨v517, rfl, ho0, hb⟩
 refine ⟨_, rfl, ?_⟩
 have HO518 := A_ (Kd.R_lower ho0 (below_size (by repeat (first | (with_reducible first | exact HB.out | apply below_alloc | apply pw_below_drewN | apply below_drew1 | refine below_set ?_ GE514.out | refine below_set ?_ GE515.out) | exact HB.out))))
 replace BK514 := A_ (bw_ BK514.out hb)
 replace BK515 := A_ (bw_ BK515.out hb)
 replace HB := A_ (below_step (by repeat (first | (with_reducible first | exact HB.out | apply below_alloc | apply pw_below_drewN | apply below_drew1 | refine below_set ?_ GE514.out | refine below_set ?_ GE515.out) | exact HB.out)) hb)
 (try clear hb)
 (try clear hb2)
 (try clear hk)
 (try clear hi)
 (try clear ho0)
 refine hK.out _ _ (hl_ BK514.out) (fun hHeld => ?_)
 clear hK K
 refine no_ (some 5) ?_
 refine pu_ (i := 6) (N := some 9) ?_
 refine on_ (i := 5) (N := some 8) (fun K hK => ?_)
 refine Kd.R_append_rows_step k71 (w0 := w) w.heap.size rfl (.const (.slice none 0 0)) (.tmp 7) 31 71 (.agg #[(.string ⟨#[]⟩), (.string ⟨#[]⟩), (.string ⟨#[]⟩)]) 48 rfl Try.underlying31 info71 rfl (by decide) (by omega) (.slice none 0 0) ([] : List (S71)) l0_4 _ _ _ (fun _ => True) (fun _ => False) rfl rfl ?aO ?aR (fun _ _ h => h) (fun _ h => h.elim) ?aF ?aB ?aS ?aL ?_
 (case aR => exact cC_ (Kd.C_below HR0_4.out HB.out))
 (case aB => exact (by repeat (first | (with_reducible first | exact HB.out | apply below_alloc | apply pw_below_drewN | apply below_drew1 | refine below_set ?_ GE514.out | refine below_set ?_ GE515.out) | exact HB.out)))
 (case aF => exact (fun _ _ => trivial))
 (case aO => exact ((Kd.R_nil _ _ _ _ (fun _ => True))))
 (case aS => exact (below_size (by repeat (first | (with_reducible first | exact HB.out | apply below_alloc | apply pw_below_drewN | apply below_drew1 | refine below_set ?_ GE514.out | refine below_set ?_ GE515.out) | exact HB.out))))
 (case aL => have := LMc3.out; omega)
 intro v520 w8 ho hb hg hat
 rw [← Ny519.out] at ho
 replace BK514 := A_ (blk_grown (g := gb514) (o := .cells #[.slice A0_0 l0_0.length c0_0, .bool a0_1, .string a0_2, .int .i64 a0_3, .slice A0_4 l0_4.length c0_4] 59 (0, 0)) (vb_ BK514.out) hg (by simp [Value.ownBlock]))
 replace BK515 := A_ (blk_grown (g := gb515) (o := .cells #[.slice none 0 0, .bool false, .string (⟨#[]⟩ : ByteArray), .int .i64 0, .slice none 0 0] 59 (0, 0)) (vb_ BK515.out) hg (by simp [Value.ownBlock]))
 replace HO518 := A_ (Kd.R_grown (vR_ HO518.out) hg (fun _ _ => by simp [Value.ownBlock]))
 replace HB := A_ (hb)
 have HO521 := A_ (ho)
 clear ho hb hg hat
 obtain ⟨Ao9, co9, eo9⟩ := Kd.R_slice HO518.out
 (first | subst eo9 | (injection eo9 with f1_ f2_ f3_; have f4_ := f1_.symm; have f5_ := f3_.symm; clear f1_ f2_ f3_; subst f4_; subst f5_))
 obtain ⟨Ao11, co11, eo11⟩ := Kd.R_slice HO521.out
 (first | subst eo11 | (injection eo11 with f1_ f2_ f3_; have f4_ := f1_.symm; have f5_ := f3_.symm; clear f1_ f2_ f3_; subst f4_; subst f5_))
 refine hK.out _ _ (hl_ BK514.out) (fun hHeld => ?_)
 clear hK K
 refine no_ (some 8) ?_
 refine last_ (i := 7) (N := none) #[true, true, true, true, true, true, true, true, false, false] rfl rfl (one_of HT_.out (by kernel_rfl)) (by decide) (fun K hK => ?_)
 have hs10 : w8.cell? ⟨gb514, 0, none⟩ = some (.slice A0_0 l0_0.length c0_0) := bl_ BK514.out 0
 have hfs10 := blk_frozen BK514.out 0
 have hns10_1 := NB515_514.out
 have hms10_1 := NB514_515.out
 refine skip_ (w1 := ?_) (by rfl) rfl ?_ ?_
 rotate_left
 · go_simp
   rfl
 refine hK.out _ _ ?_
 clear hK K
 refine pu_ (i := 8) (N := some 10) ?_
 refine last_ (i := 9) (N := none) #[true, true, true, true, true, true, true, true, true, true] rfl rfl (one_of HT_.out (by kernel_rfl)) (by decide) (fun K hK => ?_)
 have hs12 : w8.cell? ⟨gb514, 4, none⟩ = some (.slice A0_4 l0_4.length c0_4) := bl_ BK514.out 4
 have hfs12 := blk_frozen BK514.out 4
 have hns12_1 := NB515_514.out
 have hms12_1 := NB514_515.out
 refine skip_ (w1 := ?_) (by rfl) rfl ?_ ?_
 rotate_left
 · go_simp
   rfl
 refine hK.out _ _ ?_
 clear hK K
 refine done_ (done_of HT_.out (by kernel_rfl)) ?_
 (try clear hHeld)
 have hnb13 := NB514_515.out
 have hnc13 := NB515_514.out
 obtain ⟨hcz14_0, hcz14_1, hcz14_2, hcz14_3, hcz14_4, hfz14_0, hfz14_1, hfz14_2, hfz14_3, hfz14_4⟩ := cz5_ BK514.out
 obtain ⟨hcz15_0, hcz15_1, hcz15_2, hcz15_3, hcz15_4, hfz15_0, hfz15_1, hfz15_2, hfz15_3, hfz15_4⟩ := cz5_ BK515.out
 try go_wp2
 refine bodyPost_ret (results_cell_row rfl _ _ gb515 59 #[.slice Ao9 t516.length co9, .bool a0_1, .string a0_2, .int .i64 a0_3, .slice Ao11 y519.length co11] (0, 0) _ rfl (by (with_reducible repeat (first | refine blk_drewN ?_ _ | refine blk_drew ?_ | refine blk_alloc ?_ _)); refine blk_put (cs := #[.slice Ao9 t516.length co9, .bool a0_1, .string a0_2, .int .i64 a0_3, .slice none 0 0]) ?_ 4 _ rfl; (with_reducible repeat (first | refine blk_drewN ?_ _ | refine blk_drew ?_ | refine blk_alloc ?_ _)); refine blk_put (cs := #[.slice Ao9 t516.length co9, .bool a0_1, .string a0_2, .int .i64 0, .slice none 0 0]) ?_ 3 _ rfl; (with_reducible repeat (first | refine blk_drewN ?_ _ | refine blk_drew ?_ | refine blk_alloc ?_ _)); refine blk_put (cs := #[.slice Ao9 t516.length co9, .bool a0_1, .string (⟨#[]⟩ : ByteArray), .int .i64 0, .slice none 0 0]) ?_ 2 _ rfl; (with_reducible repeat (first | refine blk_drewN ?_ _ | refine blk_drew ?_ | refine blk_alloc ?_ _)); refine blk_put (cs := #[.slice Ao9 t516.length co9, .bool false, .string (⟨#[]⟩ : ByteArray), .int .i64 0, .slice none 0 0]) ?_ 1 _ rfl; (with_reducible repeat (first | refine blk_drewN ?_ _ | refine blk_drew ?_ | refine blk_alloc ?_ _)); refine blk_put (cs := #[.slice none 0 0, .bool false, .string (⟨#[]⟩ : ByteArray), .int .i64 0, .slice none 0 0]) ?_ 0 _ rfl; (with_reducible repeat (first | refine blk_drewN ?_ _ | refine blk_drew ?_ | refine blk_alloc ?_ _)); refine blk_far ?_ NB515_514.out _; (with_reducible repeat (first | refine blk_drewN ?_ _ | refine blk_drew ?_ | refine blk_alloc ?_ _)); refine blk_far ?_ NB515_514.out _; (with_reducible repeat (first | refine blk_drewN ?_ _ | refine blk_drew ?_ | refine blk_alloc ?_ _)); exact BK515.out) Try.underlying59 rfl (by kernel_rfl)) rfl ?_
 exact ⟨_, _, rr_, by (with_reducible repeat (first | apply Kd.R_alloc | apply Kd.R_drewN | apply Kd.R_drew)); exact Kd.R_mono (Kd.R_far (p := ⟨gb515, 4, none⟩) (Kd.R_far (p := ⟨gb515, 3, none⟩) (Kd.R_far (p := ⟨gb515, 2, none⟩) (Kd.R_far (p := ⟨gb515, 1, none⟩) (Kd.R_far (p := ⟨gb515, 0, none⟩) (Kd.R_far (p := ⟨gb514, 4, none⟩) (Kd.R_far (p := ⟨gb514, 0, none⟩) (Kd.R_types (Kd.R_types HO518.out BK514.out (by decide)) BK515.out (by decide)) (fun _ hk => hk.1.2) (.slice Ao9 t516.length co9)) (fun _ hk => hk.1.2) (.slice Ao11 y519.length co11)) (fun _ hk => hk.2) (.slice Ao9 t516.length co9)) (fun _ hk => hk.2) (.bool a0_1)) (fun _ hk => hk.2) (.string a0_2)) (fun _ hk => hk.2) (.int .i64 a0_3)) (fun _ hk => hk.2) (.slice Ao11 y519.length co11)) (fun _ hk => trivial), by (with_reducible repeat (first | apply Kd.R_alloc | apply Kd.R_drewN | apply Kd.R_drew)); exact Kd.R_mono (Kd.R_far (p := ⟨gb515, 4, none⟩) (Kd.R_far (p := ⟨gb515, 3, none⟩) (Kd.R_far (p := ⟨gb515, 2, none⟩) (Kd.R_far (p := ⟨gb515, 1, none⟩) (Kd.R_far (p := ⟨gb515, 0, none⟩) (Kd.R_far (p := ⟨gb514, 4, none⟩) (Kd.R_far (p := ⟨gb514, 0, none⟩) (Kd.R_types (Kd.R_types HO521.out BK514.out (by decide)) BK515.out (by decide)) (fun _ hk => hk.1.2) (.slice Ao9 t516.length co9)) (fun _ hk => hk.1.2) (.slice Ao11 y519.length co11)) (fun _ hk => hk.2) (.slice Ao9 t516.length co9)) (fun _ hk => hk.2) (.bool a0_1)) (fun _ hk => hk.2) (.string a0_2)) (fun _ hk => hk.2) (.int .i64 a0_3)) (fun _ hk => hk.2) (.slice Ao11 y519.length co11)) (fun _ hk => trivial), by repeat (first | (with_reducible first | exact HB.out | apply below_alloc | apply pw_below_drewN | apply below_drew1 | refine below_set ?_ GE514.out | refine below_set ?_ GE515.out) | exact HB.out)⟩
def impl_DeepOf.l0 : Nat → List ByteArray → List (S59) → List (S59) → Int → Int → Option ((List (S59)))
 | 0, _, _, _, _, _ => none
 | k + 1, x1, x5, x8, x9, x10 => if x10 < x9 then (if 0 ≤ x10 then (if x10 < (x8.length : Int) then ((impl_isAt.f k ((rd_T59 x8 x10).f0) x1).bind fun t524 => (if t524 = true then ((impl_copyRes.f ((rd_T59 x8 x10).f0) ((rd_T59 x8 x10).f1) ((rd_T59 x8 x10).f2) ((rd_T59 x8 x10).f3) ((rd_T59 x8 x10).f4)).bind fun bt525 => (if x5.length < 1759218604441 then (impl_DeepOf.l0 k x1 (x5 ++ [(⟨bt525.1, bt525.2.1, bt525.2.2.1, bt525.2.2.2.1, bt525.2.2.2.2⟩ : S59)]) x8 x9 (wrap64 (x10 + 1))) else (none))) else (impl_DeepOf.l0 k x1 x5 x8 x9 (wrap64 (x10 + 1))))) else (none)) else (none)) else (some x5)
def impl_DeepOf.f (k : Nat) (l0 : List (S59)) (l1 : List ByteArray) : Option ((List (S59))) := impl_DeepOf.l0 k l1 ([] : List (S59)) l0 (l0.length : Int) 0
theorem impl_DeepOf.calls (k : Nat) (A0 : Option Addr) (c0 : Nat) (l0 : List (S59)) (A1 : Option Addr) (c1 : Nat) (l1 : List ByteArray) (r : List (S59)) (w : World) (hr0 : Kd.C k59 w A0 l0.length l0) (hc0 : l0.length ≤ c0) (hr1 : Kd.C Kd.string w A1 l1.length l1) (hc1 : l1.length ≤ c1) (h : impl_DeepOf.f k l0 l1 = some r) :
 Calls Try.prog 47 #[.slice A0 l0.length c0, .slice A1 l1.length c1] w fun e w' => ∃ v0_ : Value, e = .returned (v0_) ∧ Kd.S k59 59 w' w.heap.size (fun _ => True) v0_ r ∧ Below w.heap.size w w' := by
 have hu59 := Try.underlying59
 have HR0 := A_ hr0
 have HC0 := A_ hc0
 clear hr0 hc0
 have HR1 := A_ hr1
 have HC1 := A_ hc1
 clear hr1 hc1
 have HB := A_ (Below.refl w.heap.size w)
 have H : (impl_DeepOf.l0 k l1 ([] : List (S59)) l0 (l0.length : Int) 0) = some r := h
 clear h
 have H' := A_ H
 clear H
 go_enter Try.func47, Try.ntmps47
 go_wp2
 go_loopg [5, 10] k (fun kq v5 v10 w' => ∃ (x5_1 : List (S59)) (x10_1 : Int), v10 = .int .i64 x10_1 ∧ Aside0 (impl_DeepOf.l0 kq l1 x5_1 l0 (l0.length : Int) x10_1 = some r) ∧ Aside0 (kq ≤ k) ∧ Aside0 (Kd.S k59 59 w' w.heap.size (fun _ => True) v5 x5_1) ∧ Aside0 (Below w.heap.size w w'))
 case atStart => exact ⟨(([] : List (S59))), (0), rs_, H', ⟨Nat.le_refl _⟩, ⟨by first | exact Kd.S_nil _ _ _ _ _ | exact Kd.N_nil _ _ _ _ _ | exact Kd.V_nil _ _ _ _ _ | exact Kd.Q_nil _ _ _ _ _ | exact Kd.R_nil _ _ _ _ _⟩, ⟨bB_⟩⟩
 case round =>
  clear H'
  try clear c1
  try clear p2
  obtain ⟨x5_1, x10_1, rfl, HA, HK1, HO_5, HB⟩ := hrel
  cases gk with
  | zero => exact absurd HA.out (by simp [impl_DeepOf.l0])
  | succ k1 =>
   have H := HA.out
   clear HA
   simp only [impl_DeepOf.l0] at H
   by_cases c3 : x10_1 < (l0.length : Int)
   rotate_left
   · rw [if_neg c3] at H
     have c3b0 : decide (x10_1 < (l0.length : Int)) = false := decide_eq_false c3
     clear c3
     obtain rfl := si_ H
     go_wp2
     go_ret
     exact ⟨_, rr_, by (with_reducible repeat (first | apply Kd.S_alloc | apply Kd.S_drewN | apply Kd.S_drew)); exact HO_5.out, bB_⟩
   rw [if_pos c3] at H
   have c3b0 : decide (x10_1 < (l0.length : Int)) = true := decide_eq_true c3
   clear c3
   by_cases c4 : 0 ≤ x10_1
   rotate_left
   · exact absurd H (by rw [if_neg c4]; simp)
   rw [if_pos c4] at H
   have c4b0 : decide (0 ≤ x10_1) = true := decide_eq_true c4
   clear c4
   by_cases c5 : x10_1 < (l0.length : Int)
   rotate_left
   · exact absurd H (by rw [if_neg c5]; simp)
   rw [if_pos c5] at H
   have c5b0 : decide (x10_1 < (l0.length : Int)) = true := decide_eq_true c5
   clear c5
   obtain ⟨t524, A6, H⟩ := bo_ H
   (try dsimp only at H)
   by_cases c7 : t524 = true
   · subst c7
     rw [if_pos rfl] at H
     obtain ⟨⟨t525, t528, t529, t530, t531⟩, A8, H⟩ := bo_ H
     (try dsimp only at H)
     by_cases c9 : x5_1.length < 1759218604441
     rotate_left
     · exact absurd H (by rw [if_neg c9]; simp)
     rw [if_pos c9] at H
     have LMc9 := A_ c9
     clear c9
     obtain ⟨y534, hy534⟩ : ∃ y_ : List (S59), y_ = (x5_1 ++ [(⟨t525, t528, t529, t530, t531⟩ : S59)]) := ⟨_, rfl⟩
     replace H : (impl_DeepOf.l0 k1 l1 y534 l0 (l0.length : Int) (wrap64 (x10_1 + 1))) = some r := hy_ hy534 H
     have Ny534 := A_ hy534
     clear hy534
     have H' := A_ H
     clear H
     have p522 : 0 ≤ (x10_1 : Int) := od_
     have q522 : x10_1 < (l0.length : Int) := od_
     obtain ⟨ad522, A522_0, c522_0, A522_4, c522_4, e522, hx522_0, hx522_1, hx522_2, hx522_3, hx522_4, hl522_0, hi522_0, hl522_4, hi522_4⟩ := at_T59 HR0.out x10_1 p522 q522
     cases e522
     replace hx522_0 := bc_ HB.out hx522_0
     replace hx522_1 := bc_ HB.out hx522_1
     replace hx522_2 := bc_ HB.out hx522_2
     replace hx522_3 := bc_ HB.out hx522_3
     replace hx522_4 := bc_ HB.out hx522_4
     have HR522_0 := A_ hi522_0
     have HC522_0 := A_ hl522_0
     clear hi522_0 hl522_0
     have HR522_4 := A_ hi522_4
     have HC522_4 := A_ hl522_4
     clear hi522_4 hl522_4
     replace p522 := eq_true p522
     replace q522 := eq_true q522
     go_wp2_with (first | ((with_reducible refine gd_ (N := 7) rfl ?_); refine bx_ (N := 7) (cs := #[.slice none 0 0, .bool false, .string (⟨#[]⟩ : ByteArray), .int .i64 0, .slice none 0 0]) (t := 59) ?_; intro gb523 hg w10 hbox hb; replace HO_5 := A_ (Kd.S_below (Kd.S_elderB (vS_ HO_5.out) gb523 (Nat.le_of_eq hg.symm)) hb); have BK523 := A_ (hbox); have GW523 := A_ (ge_ hg bB_ : w.heap.size ≤ gb523); have GE523 := A_ (ge_ hg bB_ : w.heap.size ≤ gb523); replace HB := A_ (below_step bB_ hb); clear hb hbox hg; obtain ⟨hcz11_0, hcz11_1, hcz11_2, hcz11_3, hcz11_4, hfz11_0, hfz11_1, hfz11_2, hfz11_3, hfz11_4⟩ := cz5_ BK523.out) | ((with_reducible refine gc_ (f := 79) rfl ?_); refine gL_ (some 17) Try.func79 #[.slice A522_0 ((rd_T59 l0 x10_1).f0).length c522_0, .slice A1 l1.length c1] ?_; (with_reducible refine (impl_isAt.calls k1 _ _ ((rd_T59 l0 x10_1).f0) _ _ l1 true _ ?s1 ?s2 ?s3 ?s4 A6.out).mono ?_); (case s1 => exact Kd.C_below HR522_0.out (bG_ GE523.out)); (case s2 => exact HC522_0.out); (case s3 => exact Kd.C_below HR1.out (bG_ GE523.out)); (case s4 => exact HC1.out); rintro e w' ⟨rfl, ⟨nd, rfl⟩⟩; refine ⟨_, rfl, ?_⟩) | ((with_reducible refine gc_ (f := 80) rfl ?_); refine gL_ (some 20) Try.func80 #[.agg #[.slice A522_0 ((rd_T59 l0 x10_1).f0).length c522_0, .bool ((rd_T59 l0 x10_1).f1), .string ((rd_T59 l0 x10_1).f2), .int .i64 ((rd_T59 l0 x10_1).f3), .slice A522_4 ((rd_T59 l0 x10_1).f4).length c522_4]] ?_; (with_reducible refine (impl_copyRes.calls _ _ ((rd_T59 l0 x10_1).f0) ((rd_T59 l0 x10_1).f1) ((rd_T59 l0 x10_1).f2) ((rd_T59 l0 x10_1).f3) _ _ ((rd_T59 l0 x10_1).f4) t525 t528 t529 t530 t531 _ ?s1 ?s2 ?s3 ?s4 A8.out).mono ?_); (case s1 => exact Kd.C_below HR522_0.out (bG_ GE523.out)); (case s2 => exact HC522_0.out); (case s3 => exact Kd.C_below HR522_4.out (bG_ GE523.out)); (case s4 => exact HC522_4.out); rintro e w12 ⟨v526, v532, rfl, ho0, ho1, hb⟩; refine ⟨_, rfl, ?_⟩; replace HO_5 := A_ (Kd.S_mono (Kd.S_told (Kd.S_told (Kd.S_old (by (with_reducible repeat (first | apply Kd.S_alloc | apply Kd.S_drewN | apply Kd.S_drew)); exact (Kd.S_mono (Kd.S_far (p := ⟨gb523, 4, none⟩) (Kd.S_far (p := ⟨gb523, 3, none⟩) (Kd.S_far (p := ⟨gb523, 2, none⟩) (Kd.S_far (p := ⟨gb523, 1, none⟩) (Kd.S_far (p := ⟨gb523, 0, none⟩) (Kd.S_mono HO_5.out (fun k_ hk => (⟨hk, hk.2⟩ : _ ∧ k_ ≠ gb523))) (fun _ hk => hk.2) (.slice A522_0 ((rd_T59 l0 x10_1).f0).length c522_0)) (fun _ hk => hk.2) (.bool ((rd_T59 l0 x10_1).f1))) (fun _ hk => hk.2) (.string ((rd_T59 l0 x10_1).f2))) (fun _ hk => hk.2) (.int .i64 ((rd_T59 l0 x10_1).f3))) (fun _ hk => hk.2) (.slice A522_4 ((rd_T59 l0 x10_1).f4).length c522_4)) (fun _ h_ => h_.1))) hb) (kb_ ho0)) (kb_ ho1)) (fun _ h_ => h_.1)); have HO527 := A_ (Kd.R_lower ho0 (below_size (bG_ GE523.out))); have HO533 := A_ (Kd.R_lower ho1 (below_size (bG_ GE523.out))); replace BK523 := A_ (blk_below (g := gb523) (o := .cells #[.slice A522_0 ((rd_T59 l0 x10_1).f0).length c522_0, .bool ((rd_T59 l0 x10_1).f1), .string ((rd_T59 l0 x10_1).f2), .int .i64 ((rd_T59 l0 x10_1).f3), .slice A522_4 ((rd_T59 l0 x10_1).f4).length c522_4] 59 (0, 0)) (by (with_reducible repeat (first | refine blk_drewN ?_ _ | refine blk_drew ?_ | refine blk_alloc ?_ _)); refine blk_put (cs := #[.slice A522_0 ((rd_T59 l0 x10_1).f0).length c522_0, .bool ((rd_T59 l0 x10_1).f1), .string ((rd_T59 l0 x10_1).f2), .int .i64 ((rd_T59 l0 x10_1).f3), .slice none 0 0]) ?_ 4 _ rfl; (with_reducible repeat (first | refine blk_drewN ?_ _ | refine blk_drew ?_ | refine blk_alloc ?_ _)); refine blk_put (cs := #[.slice A522_0 ((rd_T59 l0 x10_1).f0).length c522_0, .bool ((rd_T59 l0 x10_1).f1), .string ((rd_T59 l0 x10_1).f2), .int .i64 0, .slice none 0 0]) ?_ 3 _ rfl; (with_reducible repeat (first | refine blk_drewN ?_ _ | refine blk_drew ?_ | refine blk_alloc ?_ _)); refine blk_put (cs := #[.slice A522_0 ((rd_T59 l0 x10_1).f0).length c522_0, .bool ((rd_T59 l0 x10_1).f1), .string (⟨#[]⟩ : ByteArray), .int .i64 0, .slice none 0 0]) ?_ 2 _ rfl; (with_reducible repeat (first | refine blk_drewN ?_ _ | refine blk_drew ?_ | refine blk_alloc ?_ _)); refine blk_put (cs := #[.slice A522_0 ((rd_T59 l0 x10_1).f0).length c522_0, .bool false, .string (⟨#[]⟩ : ByteArray), .int .i64 0, .slice none 0 0]) ?_ 1 _ rfl; (with_reducible repeat (first | refine blk_drewN ?_ _ | refine blk_drew ?_ | refine blk_alloc ?_ _)); refine blk_put (cs := #[.slice none 0 0, .bool false, .string (⟨#[]⟩ : ByteArray), .int .i64 0, .slice none 0 0]) ?_ 0 _ rfl; (with_reducible repeat (first | refine blk_drewN ?_ _ | refine blk_drew ?_ | refine blk_alloc ?_ _)); exact BK523.out) hb); replace HB := A_ (below_step (bG_ GE523.out) hb); (try clear hb); (try clear hk); (try clear ho0); (try clear ho1); obtain ⟨Ao14, co14, eo14⟩ := Kd.R_slice HO527.out; subst eo14; obtain ⟨Ao15, co15, eo15⟩ := Kd.R_slice HO533.out; subst eo15) | ((with_reducible refine gate_builtin (b := .append) (xs := #[.tmp 18, .tmp 21]) rfl ?_); at_builtin; refine Kd.S_append k59 (w0 := w) w.heap.size rfl (.tmp 18) (.tmp 21) 40 59 (.agg #[(.slice none 0 0), (.bool false), (.string ⟨#[]⟩), (.int .i64 0), (.slice none 0 0)]) 80 rfl Try.underlying40 info59 rfl (by decide) (by omega) u5 x5_1 (⟨t525, t528, t529, t530, t531⟩ : S59) [.slice Ao14 t525.length co14, .bool t528, .string t529, .int .i64 t530, .slice Ao15 t531.length co15] (fun k_ => k_ ≠ gb523) (fun k_ => some k_ = (.slice Ao14 t525.length co14 : Value).ownBlock ∨ some k_ = (.slice Ao15 t531.length co15 : Value).ownBlock) rfl rfl ?aP (fun k_ hk_ => hk_.elim (fun h_ => ((Kd.R_mono (ok' := fun k_ => ((fun k_ => k_ ≠ gb523)) k_ ∧ some k_ ≠ (u5 : Value).ownBlock) (Kd.R_types (Kd.R_apart' (HO527.out) (Kd.S_typed HO_5.out) (by decide)) BK523.out (by decide)) (fun k_ hk => ⟨hk.2, hk.1.2⟩))).1 k_ h_.symm) (fun h_ => ((Kd.R_mono (ok' := fun k_ => ((fun k_ => k_ ≠ gb523)) k_ ∧ some k_ ≠ (u5 : Value).ownBlock) (Kd.R_types (Kd.R_apart' (HO533.out) (Kd.S_typed HO_5.out) (by decide)) BK523.out (by decide)) (fun k_ hk => ⟨hk.2, hk.1.2⟩))).1 k_ h_.symm)) ?aF ?aO ?aB ?aS ?aL ?_; (case aP => exact k59_mkM _ _ _ (⟨t525, t528, t529, t530, t531⟩ : S59) (Kd.R_mono (Kd.R_tight rfl (Kd.R_mono (ok' := fun k_ => ((fun k_ => k_ ≠ gb523)) k_ ∧ some k_ ≠ (u5 : Value).ownBlock) (Kd.R_types (Kd.R_apart' (HO527.out) (Kd.S_typed HO_5.out) (by decide)) BK523.out (by decide)) (fun k_ hk => ⟨hk.2, hk.1.2⟩))) (fun _ h_ => Or.inl h_)) (Kd.R_mono (Kd.R_tight rfl (Kd.R_mono (ok' := fun k_ => ((fun k_ => k_ ≠ gb523)) k_ ∧ some k_ ≠ (u5 : Value).ownBlock) (Kd.R_types (Kd.R_apart' (HO533.out) (Kd.S_typed HO_5.out) (by decide)) BK523.out (by decide)) (fun k_ hk => ⟨hk.2, hk.1.2⟩))) (fun _ h_ => Or.inr (h_)))); (case aB => exact (bG_ GE523.out)); (case aF => exact (fun k_ hk => Kd.freshB (g := gb523) (o := .cells #[.slice A522_0 ((rd_T59 l0 x10_1).f0).length c522_0, .bool ((rd_T59 l0 x10_1).f1), .string ((rd_T59 l0 x10_1).f2), .int .i64 ((rd_T59 l0 x10_1).f3), .slice A522_4 ((rd_T59 l0 x10_1).f4).length c522_4] 59 (0, 0)) (vb_ BK523.out) k_ hk)); (case aO => exact (by (with_reducible repeat (first | apply Kd.S_alloc | apply Kd.S_drewN | apply Kd.S_drew)); exact Kd.S_mono HO_5.out (fun k_ hk => ⟨hk.1.1.2, fun e_ => e_.elim (fun h_ => hk.1.2 h_) (fun h_ => hk.2 h_)⟩))); (case aS => exact (below_size (bG_ GE523.out))); (case aL => have := LMc9.out; omega); intro v535 w13 ho hb hg hat; rw [← Ny534.out] at ho; replace BK523 := A_ (blk_grown (g := gb523) (o := .cells #[.slice A522_0 ((rd_T59 l0 x10_1).f0).length c522_0, .bool ((rd_T59 l0 x10_1).f1), .string ((rd_T59 l0 x10_1).f2), .int .i64 ((rd_T59 l0 x10_1).f3), .slice A522_4 ((rd_T59 l0 x10_1).f4).length c522_4] 59 (0, 0)) (vb_ BK523.out) hg (Kd.S_away HO_5.out (fun _ hk => hk.1.1.2))); replace HB := A_ (hb); have HO536 := A_ (ho); clear HO_5 HO527 HO533; clear ho hb hg hat))
     go_roundg k1
     case measure => have := HK1.out; omega
     case rel => exact ⟨(y534), (wrap64 (x10_1 + 1)), rs_, H', ⟨by have := HK1.out; omega⟩, ⟨by (with_reducible repeat (first | apply Kd.S_alloc | apply Kd.S_drewN | apply Kd.S_drew)); exact Kd.S_mono HO536.out (fun _ hk => trivial)⟩, ⟨bG_ GE523.out⟩⟩
   · replace c7 := Bool.eq_false_iff.mpr c7
     subst c7
     rw [if_neg nf_] at H
     have H' := A_ H
     clear H
     have p522 : 0 ≤ (x10_1 : Int) := od_
     have q522 : x10_1 < (l0.length : Int) := od_
     obtain ⟨ad522, A522_0, c522_0, A522_4, c522_4, e522, hx522_0, hx522_1, hx522_2, hx522_3, hx522_4, hl522_0, hi522_0, hl522_4, hi522_4⟩ := at_T59 HR0.out x10_1 p522 q522
     cases e522
     replace hx522_0 := bc_ HB.out hx522_0
     replace hx522_1 := bc_ HB.out hx522_1
     replace hx522_2 := bc_ HB.out hx522_2
     replace hx522_3 := bc_ HB.out hx522_3
     replace hx522_4 := bc_ HB.out hx522_4
     have HR522_0 := A_ hi522_0
     have HC522_0 := A_ hl522_0
     clear hi522_0 hl522_0
     have HR522_4 := A_ hi522_4
     have HC522_4 := A_ hl522_4
     clear hi522_4 hl522_4
     replace p522 := eq_true p522
     replace q522 := eq_true q522
     go_wp2_with (first | ((with_reducible refine gd_ (N := 7) rfl ?_); refine bx_ (N := 7) (cs := #[.slice none 0 0, .bool false, .string (⟨#[]⟩ : ByteArray), .int .i64 0, .slice none 0 0]) (t := 59) ?_; intro gb523 hg w16 hbox hb; replace HO_5 := A_ (Kd.S_below (Kd.S_elderB (vS_ HO_5.out) gb523 (Nat.le_of_eq hg.symm)) hb); have BK523 := A_ (hbox); have GW523 := A_ (ge_ hg bB_ : w.heap.size ≤ gb523); have GE523 := A_ (ge_ hg bB_ : w.heap.size ≤ gb523); replace HB := A_ (below_step bB_ hb); clear hb hbox hg; obtain ⟨hcz17_0, hcz17_1, hcz17_2, hcz17_3, hcz17_4, hfz17_0, hfz17_1, hfz17_2, hfz17_3, hfz17_4⟩ := cz5_ BK523.out) | ((with_reducible refine gc_ (f := 79) rfl ?_); refine gL_ (some 17) Try.func79 #[.slice A522_0 ((rd_T59 l0 x10_1).f0).length c522_0, .slice A1 l1.length c1] ?_; (with_reducible refine (impl_isAt.calls k1 _ _ ((rd_T59 l0 x10_1).f0) _ _ l1 false _ ?s1 ?s2 ?s3 ?s4 A6.out).mono ?_); (case s1 => exact Kd.C_below HR522_0.out (bG_ GE523.out)); (case s2 => exact HC522_0.out); (case s3 => exact Kd.C_below HR1.out (bG_ GE523.out)); (case s4 => exact HC1.out); rintro e w' ⟨rfl, ⟨nd, rfl⟩⟩; refine ⟨_, rfl, ?_⟩))
     go_roundg k1
     case measure => have := HK1.out; omega
     case rel => exact ⟨(x5_1), (wrap64 (x10_1 + 1)), rs_, H', ⟨by have := HK1.out; omega⟩, ⟨by (with_reducible repeat (first | apply Kd.S_alloc | apply Kd.S_drewN | apply Kd.S_drew)); exact Kd.S_mono (Kd.S_far (p := ⟨gb523, 4, none⟩) (Kd.S_far (p := ⟨gb523, 3, none⟩) (Kd.S_far (p := ⟨gb523, 2, none⟩) (Kd.S_far (p := ⟨gb523, 1, none⟩) (Kd.S_far (p := ⟨gb523, 0, none⟩) (Kd.S_mono HO_5.out (fun k_ hk => (⟨hk, hk.2⟩ : _ ∧ k_ ≠ gb523))) (fun _ hk => hk.2) (.slice A522_0 ((rd_T59 l0 x10_1).f0).length c522_0)) (fun _ hk => hk.2) (.bool ((rd_T59 l0 x10_1).f1))) (fun _ hk => hk.2) (.string ((rd_T59 l0 x10_1).f2))) (fun _ hk => hk.2) (.int .i64 ((rd_T59 l0 x10_1).f3))) (fun _ hk => hk.2) (.slice A522_4 ((rd_T59 l0 x10_1).f4).length c522_4)) (fun _ hk => trivial)⟩, ⟨bG_ GE523.out⟩⟩
set_option maxHeartbeats 8000000
set_option maxRecDepth 100000
def spec_NameOk.l0 : Nat → ByteArray → Int → Option (Bool)
 | 0, _, _ => none
 | k + 1, x0, x3 => if x3 < (x0.size : Int) then (if 0 ≤ x3 then (if (bt x0 x3) = 47 then (some false) else (spec_NameOk.l0 k x0 (wrap64 (x3 + 1)))) else (none)) else ((spec_l1In.f (x0.size : Int) 1 8).bind fun t580 => (if t580 = true then ((spec_Plain.f k x0).bind fun t581 => (if t581 = true then (if x0.toList = ([46] : List UInt8) then (some false) else (some (x0.toList != ([46, 46] : List UInt8)))) else (some false))) else (some false)))
def spec_NameOk.f (k : Nat) (a0 : ByteArray) : Option (Bool) := spec_NameOk.l0 k a0 0
theorem spec_NameOk.calls (k : Nat) (a0 : ByteArray) (r : Bool) (w : World) (h : spec_NameOk.f k a0 = some r) :
 Calls Try.prog 99 #[.string a0] w fun e w' => e = .returned (.bool r) ∧ Drawn0 w w' := by
 have H : (spec_NameOk.l0 k a0 0) = some r := h
 clear h
 have H' := A_ H
 clear H
 go_enter Try.func99, Try.ntmps99
 go_wp2
 go_loopg [3] k (fun kq v3 w' => ∃ (x3_1 : Int), v3 = .int .i64 x3_1 ∧ Aside0 (spec_NameOk.l0 kq a0 x3_1 = some r) ∧ Aside0 (kq ≤ k) ∧ Drawn0 w w')
 case atStart => exact ⟨(0), rs_, H', ⟨Nat.le_refl _⟩, dr_⟩
 case round =>
  clear H'
  obtain ⟨x3_1, rfl, HA, HK1, ⟨m1, rfl⟩⟩ := hrel
  cases gk with
  | zero => exact absurd HA.out (by simp [spec_NameOk.l0])
  | succ k1 =>
   have H := HA.out
   clear HA
   simp only [spec_NameOk.l0] at H
   by_cases c2 : x3_1 < (a0.size : Int)
   · rw [if_pos c2] at H
     have c2b0 : decide (x3_1 < (a0.size : Int)) = true := decide_eq_true c2
     clear c2
     by_cases c3 : 0 ≤ x3_1
     rotate_left
     · exact absurd H (by rw [if_neg c3]; simp)
     rw [if_pos c3] at H
     have c3b0 : decide (0 ≤ x3_1) = true := decide_eq_true c3
     clear c3
     by_cases c5 : (bt a0 x3_1) = 47
     · rw [if_pos c5] at H
       have c5b0 : ((bt a0 x3_1) == 47) = true := beq_iff_eq.mpr c5
       have c5b1 : ((bt a0 x3_1) != 47) = false := bne_eq_false_iff_eq.mpr c5
       clear c5
       obtain rfl := si_ H
       have p4 : 0 ≤ (x3_1 : Int) := od_
       have q4 : x3_1 < (a0.size : Int) := od_
       have hx4 := bt_at a0 x3_1
       replace p4 := eq_true p4
       replace q4 := eq_true q4
       go_wp2
       go_ret
       exact ⟨rs_, dr_⟩
     rw [if_neg c5] at H
     have c5b0 : ((bt a0 x3_1) == 47) = false := beq_eq_false_iff_ne.mpr c5
     have c5b1 : ((bt a0 x3_1) != 47) = true := bne_iff_ne.mpr c5
     have H' := A_ H
     clear H
     have p4 : 0 ≤ (x3_1 : Int) := od_
     have q4 : x3_1 < (a0.size : Int) := od_
     have hx4 := bt_at a0 x3_1
     replace p4 := eq_true p4
     replace q4 := eq_true q4
     go_wp2
     go_roundg k1
     case measure => have := HK1.out; omega
     case rel => exact ⟨(wrap64 (x3_1 + 1)), rs_, H', ⟨by have := HK1.out; omega⟩, dr_⟩
   rw [if_neg c2] at H
   have c2b0 : decide (x3_1 < (a0.size : Int)) = false := decide_eq_false c2
   clear c2
   obtain ⟨t580, A6, H⟩ := bo_ H
   (try dsimp only at H)
   by_cases c7 : t580 = true
   · subst c7
     rw [if_pos rfl] at H
     obtain ⟨t581, A8, H⟩ := bo_ H
     (try dsimp only at H)
     by_cases c9 : t581 = true
     · subst c9
       rw [if_pos rfl] at H
       by_cases c10 : a0.toList = ([46] : List UInt8)
       rotate_left
       · rw [if_neg c10] at H
         have c10b0 : (a0.toList == ([46] : List UInt8)) = false := beq_eq_false_iff_ne.mpr c10
         have c10b1 : (a0.toList != ([46] : List UInt8)) = true := bne_iff_ne.mpr c10
         obtain rfl := si_ H
         go_wp2_with (first | ((with_reducible refine gc_ (f := 83) rfl ?_); refine gL_ (some 16) Try.func83 #[.int .i64 (a0.size : Int), .int .i64 1, .int .i64 8] ?_; (with_reducible refine (spec_l1In.calls (a0.size : Int) 1 8 true _ A6.out).mono ?_); rintro e w' ⟨rfl, ⟨nd, rfl⟩⟩; refine ⟨_, rfl, ?_⟩) | (go_at_call 95; (with_reducible refine (spec_Plain.calls k1 a0 true _ A8.out).mono ?_); rintro e w' ⟨rfl, ⟨nd, rfl⟩⟩))
         go_ret
         exact ⟨rs_, dr_⟩
       rw [if_pos c10] at H
       have c10b0 : (a0.toList == ([46] : List UInt8)) = true := beq_iff_eq.mpr c10
       have c10b1 : (a0.toList != ([46] : List UInt8)) = false := bne_eq_false_iff_eq.mpr c10
       clear c10
       obtain rfl := si_ H
       go_wp2_with (first | ((with_reducible refine gc_ (f := 83) rfl ?_); refine gL_ (some 16) Try.func83 #[.int .i64 (a0.size : Int), .int .i64 1, .int .i64 8] ?_; (with_reducible refine (spec_l1In.calls (a0.size : Int) 1 8 true _ A6.out).mono ?_); rintro e w' ⟨rfl, ⟨nd, rfl⟩⟩; refine ⟨_, rfl, ?_⟩) | (go_at_call 95; (with_reducible refine (spec_Plain.calls k1 a0 true _ A8.out).mono ?_); rintro e w' ⟨rfl, ⟨nd, rfl⟩⟩))
       go_ret
       exact ⟨rs_, dr_⟩
     · replace c9 := Bool.eq_false_iff.mpr c9
       subst c9
       rw [if_neg nf_] at H
       obtain rfl := si_ H
       go_wp2_with (first | ((with_reducible refine gc_ (f := 83) rfl ?_); refine gL_ (some 16) Try.func83 #[.int .i64 (a0.size : Int), .int .i64 1, .int .i64 8] ?_; (with_reducible refine (spec_l1In.calls (a0.size : Int) 1 8 true _ A6.out).mono ?_); rintro e w' ⟨rfl, ⟨nd, rfl⟩⟩; refine ⟨_, rfl, ?_⟩) | (go_at_call 95; (with_reducible refine (spec_Plain.calls k1 a0 false _ A8.out).mono ?_); rintro e w' ⟨rfl, ⟨nd, rfl⟩⟩))
       go_ret
       exact ⟨rs_, dr_⟩
   · replace c7 := Bool.eq_false_iff.mpr c7
     subst c7
     rw [if_neg nf_] at H
     obtain rfl := si_ H
     go_wp2_with (first | ((with_reducible refine gc_ (f := 83) rfl ?_); refine gL_ (some 16) Try.func83 #[.int .i64 (a0.size : Int), .int .i64 1, .int .i64 8] ?_; (with_reducible refine (spec_l1In.calls (a0.size : Int) 1 8 false _ A6.out).mono ?_); rintro e w' ⟨rfl, ⟨nd, rfl⟩⟩; refine ⟨_, rfl, ?_⟩))
     go_ret
     exact ⟨rs_, dr_⟩
def spec_PathOk.l0 : Nat → List ByteArray → Int → Option (Bool)
 | 0, _, _ => none
 | k + 1, x0, x3 => if x3 < (x0.length : Int) then (if 0 ≤ x3 then ((spec_NameOk.f k (rdOf ByteArray.empty x0 x3)).bind fun t583 => (if t583 = true then (spec_PathOk.l0 k x0 (wrap64 (x3 + 1))) else (some false))) else (none)) else (some (decide ((x0.length : Int) ≤ 4)))
def spec_PathOk.f (k : Nat) (l0 : List ByteArray) : Option (Bool) := spec_PathOk.l0 k l0 0
theorem spec_PathOk.calls (k : Nat) (A0 : Option Addr) (c0 : Nat) (l0 : List ByteArray) (r : Bool) (w : World) (hr0 : Kd.C Kd.string w A0 l0.length l0) (hc0 : l0.length ≤ c0) (h : spec_PathOk.f k l0 = some r) :
 Calls Try.prog 82 #[.slice A0 l0.length c0] w fun e w' => e = .returned (.bool r) ∧ Drawn0 w w' := by
 have HR0 := A_ hr0
 have HC0 := A_ hc0
 clear hr0 hc0
 have H : (spec_PathOk.l0 k l0 0) = some r := h
 clear h
 have H' := A_ H
 clear H
 go_enter Try.func82, Try.ntmps82
 go_wp2
 go_loopg [3] k (fun kq v3 w' => ∃ (x3_1 : Int), v3 = .int .i64 x3_1 ∧ Aside0 (spec_PathOk.l0 kq l0 x3_1 = some r) ∧ Aside0 (kq ≤ k) ∧ Drawn0 w w')
 case atStart => exact ⟨(0), rs_, H', ⟨Nat.le_refl _⟩, dr_⟩
 case round =>
  clear H'
  obtain ⟨x3_1, rfl, HA, HK1, ⟨m1, rfl⟩⟩ := hrel
  cases gk with
  | zero => exact absurd HA.out (by simp [spec_PathOk.l0])
  | succ k1 =>
   have H := HA.out
   clear HA
   simp only [spec_PathOk.l0] at H
   by_cases c2 : x3_1 < (l0.length : Int)
   rotate_left
   · rw [if_neg c2] at H
     have c2b0 : decide (x3_1 < (l0.length : Int)) = false := decide_eq_false c2
     clear c2
     obtain rfl := si_ H
     go_wp2
     go_ret
     exact ⟨rs_, dr_⟩
   rw [if_pos c2] at H
   have c2b0 : decide (x3_1 < (l0.length : Int)) = true := decide_eq_true c2
   clear c2
   by_cases c3 : 0 ≤ x3_1
   rotate_left
   · exact absurd H (by rw [if_neg c3]; simp)
   rw [if_pos c3] at H
   have c3b0 : decide (0 ≤ x3_1) = true := decide_eq_true c3
   clear c3
   obtain ⟨t583, A4, H⟩ := bo_ H
   (try dsimp only at H)
   by_cases c5 : t583 = true
   · subst c5
     rw [if_pos rfl] at H
     have H' := A_ H
     clear H
     have p582 : 0 ≤ (x3_1 : Int) := od_
     have q582 : x3_1 < (l0.length : Int) := od_
     obtain ⟨ad582, e582, hx582_0⟩ := Kd.at_string HR0.out x3_1 p582 q582
     cases e582
     replace p582 := eq_true p582
     replace q582 := eq_true q582
     go_wp2_with (first | ((with_reducible refine gc_ (f := 99) rfl ?_); refine gL_ (some 14) Try.func99 #[.string (rdOf ByteArray.empty l0 x3_1)] ?_; (with_reducible refine (spec_NameOk.calls k1 (rdOf ByteArray.empty l0 x3_1) true _ A4.out).mono ?_); rintro e w' ⟨rfl, ⟨nd, rfl⟩⟩; refine ⟨_, rfl, ?_⟩))
     go_roundg k1
     case measure => have := HK1.out; omega
     case rel => exact ⟨(wrap64 (x3_1 + 1)), rs_, H', ⟨by have := HK1.out; omega⟩, dr_⟩
   · replace c5 := Bool.eq_false_iff.mpr c5
     subst c5
     rw [if_neg nf_] at H
     obtain rfl := si_ H
     have p582 : 0 ≤ (x3_1 : Int) := od_
     have q582 : x3_1 < (l0.length : Int) := od_
     obtain ⟨ad582, e582, hx582_0⟩ := Kd.at_string HR0.out x3_1 p582 q582
     cases e582
     replace p582 := eq_true p582
     replace q582 := eq_true q582
     go_wp2_with (first | ((with_reducible refine gc_ (f := 99) rfl ?_); refine gL_ (some 14) Try.func99 #[.string (rdOf ByteArray.empty l0 x3_1)] ?_; (with_reducible refine (spec_NameOk.calls k1 (rdOf ByteArray.empty l0 x3_1) false _ A4.out).mono ?_); rintro e w' ⟨rfl, ⟨nd, rfl⟩⟩; refine ⟨_, rfl, ?_⟩))
     go_ret
     exact ⟨rs_, dr_⟩
end Go.Proofs.Yteabkidfgdmmpaa.Q
