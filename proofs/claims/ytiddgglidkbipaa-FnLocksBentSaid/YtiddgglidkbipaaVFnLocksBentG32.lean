-- PRINTED by print.py (a twelfth state) out of the translation. Not trusted: Lean checks it.
import Derived.Test.YtiddgglidkbipaaVFnLocksBentG12
import Derived.Test.YtiddgglidkbipaaVFnLocksBentG22
import Derived.Test.YtiddgglidkbipaaVFnLocksBentG26
import Derived.Test.YtiddgglidkbipaaVFnLocksBentG28
import Derived.Test.YtiddgglidkbipaaVFnLocksBentG29
namespace Go.Proofs.Ytiddgglidkbipaa.Q
open Go.RowKit Go.Proofs.YtiddgglidkbipaaW.PrintWords Go.Proofs.YtiddgglidkbipaaW.PrintLast Go.Proofs.YtiddgglidkbipaaW.PrintMore
attribute [local go_sem] max2_int min2_int max_two min_two max_three min_three max_four min_four   -- for this text's walks alone
set_option linter.unusedVariables false
set_option linter.unusedSimpArgs false
theorem bIQx231_ {P : Prop} (h : P := by repeat (first | (with_reducible first | exact HI0.out | apply IsS93.alloc | apply IsS93.drewN | apply IsS93.drew | apply IsS93.set_1 | apply IsS93.set_2) | exact HI0.out)) : P := h
theorem bIQx232_ {P : Prop} (h : P := by repeat (first | (with_reducible first | exact HB.out | apply below_alloc | apply pw_below_drewN | apply below_drew1 | refine below_set ?_ (IsS93.ge HI0.out)) | exact HB.out)) : P := h
def spec_l13Tokens.l0 : Nat → List Int → Int → List Int → Int → Int → Option (List Int × Int × Int)
 | 0, _, _, _, _, _ => none
 | k + 1, x3, x4, x1000, x1001, x1002 => if x4 > 0 then ((spec_l1Below.f x1000 x1001 x1002 9).bind fun bt1055 => (if x3.length < 17592186044416 then (spec_l13Tokens.l0 k (x3 ++ [wrap64 (1 + bt1055.1)]) (wrap64 (x4 - 1)) x1000 bt1055.2.1 bt1055.2.2) else (none))) else (some (x3, x1001, x1002))
def spec_l13Tokens.f (k : Nat) (s0_0 : List Int) (s0_1 : Int) (s0_2 : Int) : Option (List Int × Int × Int) := (spec_l1Below.f s0_0 s0_1 s0_2 6).bind fun bt1052 => (spec_l13Tokens.l0 k (([] : List Int)) bt1052.1 s0_0 bt1052.2.1 bt1052.2.2)
set_option maxHeartbeats 8000000 in
set_option maxRecDepth 100000 in
theorem spec_l13Tokens.calls (k : Nat) (g : Nat) (s0_0 : List Int) (s0_1 : Int) (s0_2 : Int) (r1 : List Int) (r2 : Int) (r3 : Int) (w0 w : World) (hI : IsS93 w0 w g s0_0 s0_1 s0_2) (hB : Below w0.heap.size w0 w) (h : spec_l13Tokens.f k s0_0 s0_1 s0_2 = some (r1, r2, r3)) :
 Calls Try.prog 87 #[.pointer (some ⟨g, 0, none⟩)] w fun e w' => ∃ v0_ : Value, e = .returned (v0_) ∧ Kd.R (Kd.int .i64) 3 w' w.heap.size (fun _ => True) v0_ r1 ∧ IsS93 w0 w' g s0_0 r2 r3 ∧ Below w0.heap.size w0 w' ∧ KeepBut w w' g none := by
 have HI0 := Aside0.mk hI
 have HK := A_ (KeepBut.refl w g none)
 have HL := Aside0.mk hB.size
 clear hI
 have HW0 := Aside0.mk hB.size
 have HB := Aside0.mk hB
 clear hB
 have H : ((spec_l1Below.f s0_0 s0_1 s0_2 6).bind fun bt1052 => (spec_l13Tokens.l0 k (([] : List Int)) bt1052.1 s0_0 bt1052.2.1 bt1052.2.2)) = some (r1, r2, r3) := h
 clear h
 obtain ⟨y1049, hy1049⟩ : ∃ y_ : List Int, y_ = (([] : List Int)) := ⟨_, rfl⟩
 replace H : ((spec_l1Below.f s0_0 s0_1 s0_2 6).bind fun bt1052 => (spec_l13Tokens.l0 k y1049 bt1052.1 s0_0 bt1052.2.1 bt1052.2.2)) = some (r1, r2, r3) := hy_ hy1049 H
 have Ny1049 := Aside0.mk hy1049
 clear hy1049
 obtain ⟨⟨t1052, t1053, t1054⟩, A2, H⟩ := bo_ H
 (try dsimp only at H)
 have H' := Aside0.mk H
 clear H
 go_enter Try.func87, Try.ntmps87
 go_wp2_with (first | ((with_reducible refine gate_dst (N := 5) rfl ?_); refine Kd.R_lit (Kd.int .i64) _ 3 ?hg (N := 5) ?hd (xs := ([] : List Int)) (inner := []) (ok := fun _ => True) (okp := fun _ => True) ?hr ?hp (fun _ hk => hk) trivial (Below.refl _ _) (Nat.le_refl _) (by simp) ?_; (case hd => rfl); (case hg => rfl); (case hr => first | (go_simp; done) | (go_simp; rfl)); (case hp => exact (Reps.none _ _)); intro v1050 w3 ho4 hb hg_ hnew_; clear hg_ hnew_; (first | rw [← Ny1049.out] at ho4 | (simp only [Int.reduceToNat] at ho4; rw [← Ny1049.out] at ho4)); have HO1051 := A_ (Kd.R_lower ho4 (keep_size (w := w) (g := g) (row := none) bK_)); replace HK := A_ (KeepBut.trans bK_ (KeepBut.of_below hb g none) (.inl rfl)); replace HB := A_ (below_step bIQx232_ hb); replace HI0 := A_ (IsS93.below bIQx231_ hb); clear hb ho4) | ((with_reducible refine gate_callee (f := 83) rfl ?_); refine gL_ (some 7) Try.func83 #[.pointer (some ⟨g, 0, none⟩), .int .i64 6] ?_; (with_reducible refine (spec_l1Below.calls g s0_0 s0_1 s0_2 6 t1052 t1053 t1054 w0 _ ?s1 ?s2 A2.out).mono ?_); (case s1 => exact bIQx231_); (case s2 => exact bIQx232_); rintro e w5 ⟨rfl, hi, hb, hk⟩; refine ⟨_, rfl, ?_⟩; replace HO1051 := A_ (Kd.R_mono (Kd.R_keep (IsS93.apart (show IsS93 w0 _ g s0_0 s0_1 s0_2 from bIQx231_) (vR_ HO1051.out) (by decide)) hk (fun _ h => h.2)) (fun _ h => h.1)); replace HK := A_ (KeepBut.trans bK_ hk (.inl rfl)); replace HB := A_ (hb); replace HI0 := A_ (hi); (try clear hb); (try clear hk); (try clear hi)))
 go_loopg [3, 4] k (fun kq v3 v4 w' => ∃ (x3_1 : List Int) (x4_1 : Int) (x1001_1 : Int) (x1002_1 : Int), v4 = .int .i64 x4_1 ∧ Aside0 (spec_l13Tokens.l0 kq x3_1 x4_1 s0_0 x1001_1 x1002_1 = some (r1, r2, r3)) ∧ Aside0 (kq ≤ k) ∧ Aside0 (Kd.R (Kd.int .i64) 3 w' w.heap.size (fun _ => True) v3 x3_1) ∧ Aside0 (IsS93 w0 w' g s0_0 x1001_1 x1002_1) ∧ Aside0 (KeepBut w w' g none) ∧ Aside0 (Below w0.heap.size w0 w'))
 case atStart => exact ⟨(y1049), (t1052), (t1053), (t1054), rs_, H', ⟨Nat.le_refl _⟩, ⟨vR_ HO1051.out⟩, ⟨bIQx231_⟩, ⟨bK_⟩, ⟨bIQx232_⟩⟩
 case round =>
  clear H'
  try clear p2
  obtain ⟨x3_1, x4_1, x1001_1, x1002_1, rfl, HA, HK1, HO_3, HI0, HK, HB⟩ := hrel
  cases gk with
  | zero => exact absurd HA.out (by simp [spec_l13Tokens.l0])
  | succ k1 =>
   have H := HA.out
   clear HA
   simp only [spec_l13Tokens.l0] at H
   by_cases c6 : x4_1 > 0
   rotate_left
   · rw [if_neg c6] at H
     have c6b0 : decide (0 < x4_1) = false := decide_eq_false c6
     clear c6
     simp only [Option.some.injEq, Prod.mk.injEq] at H
     obtain ⟨rfl, rfl, rfl⟩ := H
     go_wp2
     go_ret
     exact ⟨_, rr_, by (with_reducible repeat (first | apply Kd.R_alloc | apply Kd.R_drewN | apply Kd.R_drew)); exact HO_3.out, bIQx231_, bIQx232_, bK_⟩
   rw [if_pos c6] at H
   have c6b0 : decide (0 < x4_1) = true := decide_eq_true c6
   clear c6
   obtain ⟨⟨t1055, t1056, t1057⟩, A7, H⟩ := bo_ H
   (try dsimp only at H)
   by_cases c8 : x3_1.length < 17592186044416
   rotate_left
   · exact absurd H (by rw [if_neg c8]; simp)
   rw [if_pos c8] at H
   have LMc8 := Aside0.mk c8
   clear c8
   obtain ⟨y1058, hy1058⟩ : ∃ y_ : List Int, y_ = (x3_1 ++ [wrap64 (1 + t1055)]) := ⟨_, rfl⟩
   replace H : (spec_l13Tokens.l0 k1 y1058 (wrap64 (x4_1 - 1)) s0_0 t1056 t1057) = some (r1, r2, r3) := hy_ hy1058 H
   have Ny1058 := Aside0.mk hy1058
   clear hy1058
   have H' := Aside0.mk H
   clear H
   go_wp2_with (first | ((with_reducible refine gate_callee (f := 83) rfl ?_); refine gL_ (some 14) Try.func83 #[.pointer (some ⟨g, 0, none⟩), .int .i64 9] ?_; (with_reducible refine (spec_l1Below.calls g s0_0 x1001_1 x1002_1 9 t1055 t1056 t1057 w0 _ ?s1 ?s2 A7.out).mono ?_); (case s1 => exact bIQx231_); (case s2 => exact bIQx232_); rintro e w9 ⟨rfl, hi, hb, hk⟩; refine ⟨_, rfl, ?_⟩; replace HO_3 := A_ (Kd.R_mono (Kd.R_keep (IsS93.apart (show IsS93 w0 _ g s0_0 x1001_1 x1002_1 from bIQx231_) (vR_ HO_3.out) (by decide)) hk (fun _ h => h.2)) (fun _ h => h.1)); replace HK := A_ (KeepBut.trans bK_ hk (.inl rfl)); replace HB := A_ (hb); replace HI0 := A_ (hi); (try clear hb); (try clear hk); (try clear hi)) | ((with_reducible refine gate_builtin (b := .append) (xs := #[.tmp 12, .tmp 16]) rfl ?_); at_builtin; refine Kd.R_append (Kd.int .i64) w.heap.size rfl (.tmp 12) (.tmp 16) 36 3 (.int .i64 0) 8 rfl Try.underlying36 info3 rfl (by decide) (by omega) u3 x3_1 (wrap64 (1 + t1055)) [.int .i64 (wrap64 (1 + t1055))] (fun _ => True) (fun _ => False) rfl rfl ?aP (fun _ hk => hk.elim) ?aF ?aO (Below.refl _ _) ?aS ?aL ?_; (case aP => exact rfl); (case aF => exact (fun _ _ => trivial)); (case aO => exact (vR_ HO_3.out)); (case aS => exact (keep_size (w := w) (g := g) (row := none) bK_)); (case aL => have := LMc8.out; omega); intro v1059 w10 ho hb hg hat; rw [← Ny1058.out] at ho; replace HB := A_ (below_weaken bIQx232_ HL.out hb); replace HI0 := A_ (IsS93.grown bIQx231_ hg (IsS93.own_ne HI0.out HO_3.out (by decide))); replace HK := A_ (KeepBut.trans bK_ (KeepBut.of_grown hg g) (Kd.R_base2 HO_3.out)); have HO1060 := A_ (ho); clear HO_3; clear ho hb hg hat))
   go_roundg k1
   case measure => have := HK1.out; omega
   case rel => exact ⟨(y1058), (wrap64 (x4_1 - 1)), (t1056), (t1057), rs_, H', ⟨by have := HK1.out; omega⟩, ⟨vR_ HO1060.out⟩, ⟨bIQx231_⟩, ⟨bK_⟩, ⟨bIQx232_⟩⟩
def spec_DrawMayTurn.f (k : Nat) (l0 : List Int) : Option ((List (S28)) × List ByteArray × Bool × List Int) := (spec_l1New.f k l0).bind fun bt1061 => ((spec_l13Any.f k bt1061.1 bt1061.2.1 bt1061.2.2).bind fun bt1065 => ((spec_l2Draw.f k bt1061.1 bt1065.2.1 bt1065.2.2).bind fun bt1070 => ((spec_l1Once.f bt1061.1 bt1070.2.1 bt1070.2.2 2).bind fun bt1075 => ((spec_l13Tokens.f k bt1061.1 bt1075.2.1 bt1075.2.2).bind fun bt1078 => (some (bt1065.1, bt1070.1, bt1075.1, bt1078.1))))))
set_option maxHeartbeats 8000000 in
set_option maxRecDepth 100000 in
theorem spec_DrawMayTurn.calls (k : Nat) (A0 : Option Addr) (c0 : Nat) (l0 : List Int) (r1 : List (S28)) (r2 : List ByteArray) (r3 : Bool) (r4 : List Int) (w : World) (hr0 : Kd.C (Kd.int .u8) w A0 l0.length l0) (hc0 : l0.length ≤ c0) (h : spec_DrawMayTurn.f k l0 = some (r1, r2, r3, r4)) :
 Calls Try.prog 60 #[.slice A0 l0.length c0] w fun e w' => ∃ v0_ v1_ v3_ : Value, e = .returned (.tuple #[v0_, v1_, .bool r3, v3_]) ∧ Kd.S k28 28 w' w.heap.size (fun k_ => some k_ ≠ (v1_ : Value).ownBlock) v0_ r1 ∧ Kd.R Kd.string 9 w' w.heap.size (fun _ => True) v1_ r2 ∧ Kd.R (Kd.int .i64) 3 w' w.heap.size (fun _ => True) v3_ r4 ∧ Below w.heap.size w w' := by
 have HR0 := Aside0.mk hr0
 have HC0 := Aside0.mk hc0
 clear hr0 hc0
 have HB := A_ (Below.refl w.heap.size w)
 have H : ((spec_l1New.f k l0).bind fun bt1061 => ((spec_l13Any.f k bt1061.1 bt1061.2.1 bt1061.2.2).bind fun bt1065 => ((spec_l2Draw.f k bt1061.1 bt1065.2.1 bt1065.2.2).bind fun bt1070 => ((spec_l1Once.f bt1061.1 bt1070.2.1 bt1070.2.2 2).bind fun bt1075 => ((spec_l13Tokens.f k bt1061.1 bt1075.2.1 bt1075.2.2).bind fun bt1078 => (some (bt1065.1, bt1070.1, bt1075.1, bt1078.1))))))) = some (r1, r2, r3, r4) := h
 clear h
 obtain ⟨⟨t1061, t1062, t1063⟩, A2, H⟩ := bo_ H
 (try dsimp only at H)
 obtain ⟨⟨t1065, t1068, t1069⟩, A3, H⟩ := bo_ H
 (try dsimp only at H)
 obtain ⟨⟨t1070, t1073, t1074⟩, A4, H⟩ := bo_ H
 (try dsimp only at H)
 obtain ⟨⟨t1075, t1076, t1077⟩, A5, H⟩ := bo_ H
 (try dsimp only at H)
 obtain ⟨⟨t1078, t1081, t1082⟩, A6, H⟩ := bo_ H
 (try dsimp only at H)
 simp only [Option.some.injEq, Prod.mk.injEq] at H
 obtain ⟨rfl, rfl, rfl, rfl⟩ := H
 go_enter Try.func60, Try.ntmps60
 go_wp2_with (first | ((with_reducible refine gate_callee (f := 78) rfl ?_); refine gL_ (some 10) Try.func78 #[.slice A0 l0.length c0] ?_; (with_reducible refine (spec_l1New.calls k _ _ l0 t1061 t1062 t1063 w _ ?s1 ?s2 ?s3 A2.out).mono ?_); (case s1 => repeat (first | (with_reducible first | exact HB.out | apply below_alloc | apply pw_below_drewN | apply below_drew1) | exact HB.out)); (case s2 => exact HR0.out); (case s3 => exact HC0.out); rintro e w7 ⟨g1064, rfl, hi, hb, hb2⟩; refine ⟨_, rfl, ?_⟩; replace HB := A_ (hb); have HI1064 := A_ (hi); (try clear hb); (try clear hb2); (try clear hk); (try clear hi)) | ((with_reducible refine gate_callee (f := 79) rfl ?_); refine gL_ (some 12) Try.func79 #[.pointer (some ⟨g1064, 0, none⟩)] ?_; (with_reducible refine (spec_l13Any.calls k g1064 t1061 t1062 t1063 t1065 t1068 t1069 w _ ?s1 ?s2 A3.out).mono ?_); (case s1 => repeat (first | (with_reducible first | exact HI1064.out | apply IsS93.alloc | apply IsS93.drewN | apply IsS93.drew | apply IsS93.set_1 | apply IsS93.set_2) | exact HI1064.out)); (case s2 => repeat (first | (with_reducible first | exact HB.out | apply below_alloc | apply pw_below_drewN | apply below_drew1 | refine below_set ?_ (IsS93.ge HI1064.out)) | exact HB.out)); rintro e w8 ⟨v1066, rfl, ho0, hi, hb, hk⟩; refine ⟨_, rfl, ?_⟩; have HO1067 := A_ (Kd.S_lower ho0 (below_size (by repeat (first | (with_reducible first | exact HB.out | apply below_alloc | apply pw_below_drewN | apply below_drew1 | refine below_set ?_ (IsS93.ge HI1064.out)) | exact HB.out)))); replace HB := A_ (hb); replace HI1064 := A_ (hi); (try clear hb); (try clear hb2); (try clear hk); (try clear hi); (try clear ho0)) | ((with_reducible refine gate_callee (f := 80) rfl ?_); refine gL_ (some 14) Try.func80 #[.pointer (some ⟨g1064, 0, none⟩)] ?_; (with_reducible refine (spec_l2Draw.calls k g1064 t1061 t1068 t1069 t1070 t1073 t1074 w _ ?s1 ?s2 A4.out).mono ?_); (case s1 => repeat (first | (with_reducible first | exact HI1064.out | apply IsS93.alloc | apply IsS93.drewN | apply IsS93.drew | apply IsS93.set_1 | apply IsS93.set_2) | exact HI1064.out)); (case s2 => repeat (first | (with_reducible first | exact HB.out | apply below_alloc | apply pw_below_drewN | apply below_drew1 | refine below_set ?_ (IsS93.ge HI1064.out)) | exact HB.out)); rintro e w9 ⟨v1071, rfl, ho0, hi, hb, hk⟩; refine ⟨_, rfl, ?_⟩; replace HO1067 := A_ (Kd.S_mono (Kd.S_told (Kd.S_oldK (IsS93.apartS (show IsS93 w _ g1064 t1061 t1068 t1069 from by repeat (first | (with_reducible first | exact HI1064.out | apply IsS93.alloc | apply IsS93.drewN | apply IsS93.drew | apply IsS93.set_1 | apply IsS93.set_2) | exact HI1064.out)) (vS_ HO1067.out) (by decide)) hk) (kb_ ho0)) (fun _ h_ => h_.1)); have HO1072 := A_ (Kd.R_lower ho0 (below_size (by repeat (first | (with_reducible first | exact HB.out | apply below_alloc | apply pw_below_drewN | apply below_drew1 | refine below_set ?_ (IsS93.ge HI1064.out)) | exact HB.out)))); replace HB := A_ (hb); replace HI1064 := A_ (hi); (try clear hb); (try clear hb2); (try clear hk); (try clear hi); (try clear ho0)) | ((with_reducible refine gate_callee (f := 84) rfl ?_); refine gL_ (some 18) Try.func84 #[.pointer (some ⟨g1064, 0, none⟩), .int .i64 2] ?_; (with_reducible refine (spec_l1Once.calls g1064 t1061 t1073 t1074 2 t1075 t1076 t1077 w _ ?s1 ?s2 A5.out).mono ?_); (case s1 => repeat (first | (with_reducible first | exact HI1064.out | apply IsS93.alloc | apply IsS93.drewN | apply IsS93.drew | apply IsS93.set_1 | apply IsS93.set_2) | exact HI1064.out)); (case s2 => repeat (first | (with_reducible first | exact HB.out | apply below_alloc | apply pw_below_drewN | apply below_drew1 | refine below_set ?_ (IsS93.ge HI1064.out)) | exact HB.out)); rintro e w10 ⟨rfl, hi, hb, hk⟩; refine ⟨_, rfl, ?_⟩; replace HO1067 := A_ (Kd.S_mono (Kd.S_keep (IsS93.apartS (show IsS93 w _ g1064 t1061 t1073 t1074 from by repeat (first | (with_reducible first | exact HI1064.out | apply IsS93.alloc | apply IsS93.drewN | apply IsS93.drew | apply IsS93.set_1 | apply IsS93.set_2) | exact HI1064.out)) (vS_ HO1067.out) (by decide)) hk (fun _ h => h.2)) (fun _ h => h.1)); replace HO1072 := A_ (Kd.R_mono (Kd.R_keep (IsS93.apart (show IsS93 w _ g1064 t1061 t1073 t1074 from by repeat (first | (with_reducible first | exact HI1064.out | apply IsS93.alloc | apply IsS93.drewN | apply IsS93.drew | apply IsS93.set_1 | apply IsS93.set_2) | exact HI1064.out)) (vR_ HO1072.out) (by decide)) hk (fun _ h => h.2)) (fun _ h => h.1)); replace HB := A_ (hb); replace HI1064 := A_ (hi); (try clear hb); (try clear hb2); (try clear hk); (try clear hi)) | ((with_reducible refine gate_callee (f := 87) rfl ?_); refine gL_ (some 20) Try.func87 #[.pointer (some ⟨g1064, 0, none⟩)] ?_; (with_reducible refine (spec_l13Tokens.calls k g1064 t1061 t1076 t1077 t1078 t1081 t1082 w _ ?s1 ?s2 A6.out).mono ?_); (case s1 => repeat (first | (with_reducible first | exact HI1064.out | apply IsS93.alloc | apply IsS93.drewN | apply IsS93.drew | apply IsS93.set_1 | apply IsS93.set_2) | exact HI1064.out)); (case s2 => repeat (first | (with_reducible first | exact HB.out | apply below_alloc | apply pw_below_drewN | apply below_drew1 | refine below_set ?_ (IsS93.ge HI1064.out)) | exact HB.out)); rintro e w11 ⟨v1079, rfl, ho0, hi, hb, hk⟩; refine ⟨_, rfl, ?_⟩; replace HO1067 := A_ (Kd.S_mono (Kd.S_keep (IsS93.apartS (show IsS93 w _ g1064 t1061 t1076 t1077 from by repeat (first | (with_reducible first | exact HI1064.out | apply IsS93.alloc | apply IsS93.drewN | apply IsS93.drew | apply IsS93.set_1 | apply IsS93.set_2) | exact HI1064.out)) (vS_ HO1067.out) (by decide)) hk (fun _ h => h.2)) (fun _ h => h.1)); replace HO1072 := A_ (Kd.R_mono (Kd.R_keep (IsS93.apart (show IsS93 w _ g1064 t1061 t1076 t1077 from by repeat (first | (with_reducible first | exact HI1064.out | apply IsS93.alloc | apply IsS93.drewN | apply IsS93.drew | apply IsS93.set_1 | apply IsS93.set_2) | exact HI1064.out)) (vR_ HO1072.out) (by decide)) hk (fun _ h => h.2)) (fun _ h => h.1)); have HO1080 := A_ (Kd.R_lower ho0 (below_size (by repeat (first | (with_reducible first | exact HB.out | apply below_alloc | apply pw_below_drewN | apply below_drew1 | refine below_set ?_ (IsS93.ge HI1064.out)) | exact HB.out)))); replace HB := A_ (hb); replace HI1064 := A_ (hi); (try clear hb); (try clear hb2); (try clear hk); (try clear hi); (try clear ho0)))
 refine bodyPost_ret (results_list (rs := [.tmp 2, .tmp 3, .tmp 4, .tmp 5]) rfl (by simp) (.tmp (.tmp (.tmp (.tmp .nil))))) rfl ?_
 exact ⟨_, _, _, rr_, by (with_reducible repeat (first | apply Kd.S_alloc | apply Kd.S_drewN | apply Kd.S_drew)); exact Kd.S_mono HO1067.out (fun _ hk => hk.2), by (with_reducible repeat (first | apply Kd.R_alloc | apply Kd.R_drewN | apply Kd.R_drew)); exact HO1072.out, by (with_reducible repeat (first | apply Kd.R_alloc | apply Kd.R_drewN | apply Kd.R_drew)); exact HO1080.out, by repeat (first | (with_reducible first | exact HB.out | apply below_alloc | apply pw_below_drewN | apply below_drew1 | refine below_set ?_ (IsS93.ge HI1064.out)) | exact HB.out)⟩
def laws_sameInts.l0 : Nat → List Int → List Int → Int → Option (Bool)
 | 0, _, _, _ => none
 | k + 1, x0, x1, x5 => if x5 < (x0.length : Int) then (if 0 ≤ x5 then (if x5 < (x1.length : Int) then (if (rd x0 x5) = (rd x1 x5) then (laws_sameInts.l0 k x0 x1 (wrap64 (x5 + 1))) else (some false)) else (none)) else (none)) else (some true)
def laws_sameInts.f (k : Nat) (l0 : List Int) (l1 : List Int) : Option (Bool) := if (l0.length : Int) = (l1.length : Int) then (laws_sameInts.l0 k l0 l1 0) else (some false)
set_option maxHeartbeats 8000000 in
set_option maxRecDepth 100000 in
theorem laws_sameInts.calls (k : Nat) (A0 : Option Addr) (c0 : Nat) (l0 : List Int) (A1 : Option Addr) (c1 : Nat) (l1 : List Int) (r : Bool) (w : World) (hr0 : Kd.C (Kd.int .i64) w A0 l0.length l0) (hc0 : l0.length ≤ c0) (hr1 : Kd.C (Kd.int .i64) w A1 l1.length l1) (hc1 : l1.length ≤ c1) (h : laws_sameInts.f k l0 l1 = some r) :
 Calls Try.prog 61 #[.slice A0 l0.length c0, .slice A1 l1.length c1] w fun e w' => e = .returned (.bool r) ∧ Drawn0 w w' := by
 have HR0 := Aside0.mk hr0
 have HC0 := Aside0.mk hc0
 clear hr0 hc0
 have HR1 := Aside0.mk hr1
 have HC1 := Aside0.mk hc1
 clear hr1 hc1
 have H : (if (l0.length : Int) = (l1.length : Int) then (laws_sameInts.l0 k l0 l1 0) else (some false)) = some r := h
 clear h
 by_cases c3 : (l0.length : Int) = (l1.length : Int)
 rotate_left
 · rw [if_neg c3] at H
   have c3b0 : ((l0.length : Int) == (l1.length : Int)) = false := beq_eq_false_iff_ne.mpr c3
   have c3b1 : ((l0.length : Int) != (l1.length : Int)) = true := bne_iff_ne.mpr c3
   have c3b2 : (l0.length == l1.length) = false := by first | simpa using c3 | (simp at c3 ⊢; omega)
   obtain rfl := Option.some.inj H
   go_enter Try.func61, Try.ntmps61
   go_wp2
   repeat (go_quiet (fail); try go_wp2)
   go_ret
   exact ⟨rs_, dr_⟩
 rw [if_pos c3] at H
 have c3b0 : ((l0.length : Int) == (l1.length : Int)) = true := beq_iff_eq.mpr c3
 have c3b1 : ((l0.length : Int) != (l1.length : Int)) = false := bne_eq_false_iff_eq.mpr c3
 have c3b2 : (l0.length == l1.length) = true := by first | simpa using c3 | (simp at c3 ⊢; omega)
 clear c3
 have H' := Aside0.mk H
 clear H
 go_enter Try.func61, Try.ntmps61
 go_wp2
 repeat (go_quiet (fail); try go_wp2)
 go_loopg [5] k (fun kq v5 w' => ∃ (x5_1 : Int), v5 = .int .i64 x5_1 ∧ Aside0 (laws_sameInts.l0 kq l0 l1 x5_1 = some r) ∧ Aside0 (kq ≤ k) ∧ Drawn0 w w')
 case atStart => exact ⟨(0), rs_, H', ⟨Nat.le_refl _⟩, dr_⟩
 case round =>
  clear H'
  try clear c1
  try clear p2
  try clear c3
  try clear c3b0
  try clear c3b1
  try clear c3b2
  obtain ⟨x5_1, rfl, HA, HK1, ⟨m1, rfl⟩⟩ := hrel
  cases gk with
  | zero => exact absurd HA.out (by simp [laws_sameInts.l0])
  | succ k1 =>
   have H := HA.out
   clear HA
   simp only [laws_sameInts.l0] at H
   by_cases c4 : x5_1 < (l0.length : Int)
   rotate_left
   · rw [if_neg c4] at H
     have c4b0 : decide (x5_1 < (l0.length : Int)) = false := decide_eq_false c4
     clear c4
     obtain rfl := Option.some.inj H
     go_wp2
     repeat (go_quiet (fail); try go_wp2)
     go_ret
     exact ⟨rs_, dr_⟩
   rw [if_pos c4] at H
   have c4b0 : decide (x5_1 < (l0.length : Int)) = true := decide_eq_true c4
   clear c4
   by_cases c5 : 0 ≤ x5_1
   rotate_left
   · exact absurd H (by rw [if_neg c5]; simp)
   rw [if_pos c5] at H
   have c5b0 : decide (0 ≤ x5_1) = true := decide_eq_true c5
   clear c5
   by_cases c6 : x5_1 < (l1.length : Int)
   rotate_left
   · exact absurd H (by rw [if_neg c6]; simp)
   rw [if_pos c6] at H
   have c6b0 : decide (x5_1 < (l1.length : Int)) = true := decide_eq_true c6
   clear c6
   by_cases c7 : (rd l0 x5_1) = (rd l1 x5_1)
   rotate_left
   · rw [if_neg c7] at H
     have c7b0 : ((rd l0 x5_1) == (rd l1 x5_1)) = false := beq_eq_false_iff_ne.mpr c7
     have c7b1 : ((rd l0 x5_1) != (rd l1 x5_1)) = true := bne_iff_ne.mpr c7
     obtain rfl := Option.some.inj H
     have p1083 : 0 ≤ (x5_1 : Int) := of_decide_eq_true as_
     have q1083 : x5_1 < (l0.length : Int) := of_decide_eq_true as_
     obtain ⟨ad1083, e1083, hx1083_0⟩ := Kd.at_int HR0.out x5_1 p1083 q1083
     cases e1083
     replace p1083 := eq_true p1083
     replace q1083 := eq_true q1083
     have p1084 : 0 ≤ (x5_1 : Int) := of_decide_eq_true as_
     have q1084 : x5_1 < (l1.length : Int) := of_decide_eq_true as_
     obtain ⟨ad1084, e1084, hx1084_0⟩ := Kd.at_int HR1.out x5_1 p1084 q1084
     cases e1084
     replace p1084 := eq_true p1084
     replace q1084 := eq_true q1084
     go_wp2
     repeat (go_quiet (fail); try go_wp2)
     go_ret
     exact ⟨rs_, dr_⟩
   rw [if_pos c7] at H
   have c7b0 : ((rd l0 x5_1) == (rd l1 x5_1)) = true := beq_iff_eq.mpr c7
   have c7b1 : ((rd l0 x5_1) != (rd l1 x5_1)) = false := bne_eq_false_iff_eq.mpr c7
   clear c7
   have H' := Aside0.mk H
   clear H
   have p1083 : 0 ≤ (x5_1 : Int) := of_decide_eq_true as_
   have q1083 : x5_1 < (l0.length : Int) := of_decide_eq_true as_
   obtain ⟨ad1083, e1083, hx1083_0⟩ := Kd.at_int HR0.out x5_1 p1083 q1083
   cases e1083
   replace p1083 := eq_true p1083
   replace q1083 := eq_true q1083
   have p1084 : 0 ≤ (x5_1 : Int) := of_decide_eq_true as_
   have q1084 : x5_1 < (l1.length : Int) := of_decide_eq_true as_
   obtain ⟨ad1084, e1084, hx1084_0⟩ := Kd.at_int HR1.out x5_1 p1084 q1084
   cases e1084
   replace p1084 := eq_true p1084
   replace q1084 := eq_true q1084
   go_wp2
   repeat (go_quiet (fail); try go_wp2)
   go_roundg k1
   case measure => have := HK1.out; omega
   case rel => exact ⟨(wrap64 (x5_1 + 1)), rs_, H', ⟨by have := HK1.out; omega⟩, dr_⟩
end Go.Proofs.Ytiddgglidkbipaa.Q
