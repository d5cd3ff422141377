-- PRINTED by print.py (a twelfth state) out of the translation. Not trusted: Lean checks it.
import Derived.Test.YtigoeooelfeopaaGreatDoorVFnIfsG22
namespace Go.Proofs.YtigoeooelfeopaaGreatDoor.Q
open Go.RowKit Go.Proofs.YtigoeooelfeopaaGreatDoorW.PrintWords Go.Proofs.YtigoeooelfeopaaGreatDoorW.PrintLast Go.Proofs.YtigoeooelfeopaaGreatDoorW.PrintMore
attribute [local go_sem] max2_int min2_int max_two min_two max_three min_three max_four min_four   -- for this text's walks alone
set_option linter.unusedVariables false
set_option linter.unusedSimpArgs false
theorem bIQx30_ {P : Prop} (h : P := by repeat (first | (with_reducible first | exact HI0.out | apply IsS60.alloc | apply IsS60.drewN | apply IsS60.drew | apply IsS60.set_1 | apply IsS60.set_2) | exact HI0.out)) : P := h
theorem bIQx31_ {P : Prop} (h : P := by repeat (first | (with_reducible first | exact HB.out | apply below_alloc | apply pw_below_drewN | apply below_drew1 | refine below_set ?_ (IsS60.ge HI0.out)) | exact HB.out)) : P := h
def spec_l14Any.l0 : Nat → List (List (S43)) → List Int → Int → Int → Option ((List (List (S43))) × Int × Int)
 | 0, _, _, _, _ => none
 | k + 1, x3, x1000, x1001, x1002 => (spec_l1Below.f x1000 x1001 x1002 2).bind fun bt201 => (if (x3.length : Int) < (wrap64 (4 + bt201.1)) then (if x3.length < 5864062014805 then (spec_l14Any.l0 k (x3 ++ [(([(⟨false, 1, (⟨#[]⟩ : ByteArray)⟩ : S43)] : List (S43)))]) x1000 bt201.2.1 bt201.2.2) else (none)) else (some (x3, bt201.2.1, bt201.2.2)))
def spec_l14Any.f (k : Nat) (s0_0 : List Int) (s0_1 : Int) (s0_2 : Int) : Option ((List (List (S43))) × Int × Int) := (spec_l14Draw.f k s0_0 s0_1 s0_2).bind fun bt170 => ((spec_l1Below.f s0_0 bt170.2.1 bt170.2.2 8).bind fun bt175 => (if bt175.1 = 0 then (if bt170.1.length < 5864062014805 then (some ((bt170.1 ++ [(([] : List (S43)))]), bt175.2.1, bt175.2.2)) else (none)) else (if bt175.1 = 1 then (if 0 < (bt170.1.length : Int) then ((spec_l1Int.f s0_0 bt175.2.1 bt175.2.2 (([0, 10000, (-1), 5] : List Int))).bind fun bt188 => ((spec_l1Str.f s0_0 bt188.2.1 bt188.2.2 (([(⟨#[]⟩ : ByteArray), (⟨#[118, 49]⟩ : ByteArray), (⟨#[34, 97, 34]⟩ : ByteArray)] : List ByteArray))).bind fun bt194 => (if (rd_L5 bt170.1 0).length < 4398046511104 then (some ((bt170.1.set (0 : Int).toNat ((rd_L5 bt170.1 0) ++ [(⟨false, bt188.1, bt194.1⟩ : S43)])), bt194.2.1, bt194.2.2)) else (none)))) else (none)) else (if bt175.1 = 2 then (spec_l14Any.l0 k bt170.1 s0_0 bt175.2.1 bt175.2.2) else (some (bt170.1, bt175.2.1, bt175.2.2))))))
def spec_l14Any.T6 : Bool × List (List Nat × List Nat) := (true, [([], []), ([], []), ([1], [1]), ([2], [2]), ([], []), ([], []), ([4, 5], [4, 5]), ([], []), ([], []), ([7, 8, 6], [7, 8]), ([6, 9], [6, 9]), ([10], [10]), ([3, 11, 9], [3, 11]), ([0, 0, 1, 2, 3, 4, 5, 6, 7, 8, 9, 10, 11, 12], [0]), ([13, 12, 12, 0, 1, 2, 3, 4, 5, 6, 7, 8, 9, 10, 11, 12], [12, 13])])
def spec_l14Any.B6 : List Nat := [0, 0, 2, 6, 0, 0, 48, 0, 0, 496, 1008, 2032, 4094, 8191, 16383]
theorem spec_l14Any.tab6 : rtab .any (opsOf Tryz.f20 6) = spec_l14Any.T6 := by kernel_rfl
theorem spec_l14Any.bits6 : waitsOk spec_l14Any.T6.2 spec_l14Any.B6 = true := by kernel_rfl
set_option maxHeartbeats 8000000 in
set_option maxRecDepth 100000 in
theorem spec_l14Any.calls (k : Nat) (g : Nat) (s0_0 : List Int) (s0_1 : Int) (s0_2 : Int) (r1 : List (List (S43))) (r2 : Int) (r3 : Int) (w0 w : World) (hI : IsS60 w0 w g s0_0 s0_1 s0_2) (hB : Below w0.heap.size w0 w) (h : spec_l14Any.f k s0_0 s0_1 s0_2 = some (r1, r2, r3)) :
 Calls Tryz.prog 20 #[.pointer (some ⟨g, 0, none⟩)] w fun e w' => ∃ v0_ : Value, e = .returned (v0_) ∧ Kd.S (Kd.slice 43 k43) 41 w' w.heap.size (fun _ => True) v0_ r1 ∧ IsS60 w0 w' g s0_0 r2 r3 ∧ Below w0.heap.size w0 w' ∧ KeepBut w w' g none := by
 have hu43 := Tryz.underlying43
 have HI0 := A_ hI
 have HK := A_ (KeepBut.refl w g none)
 have HL := A_ hB.size
 clear hI
 have HW0 := A_ hB.size
 have HB := A_ hB
 clear hB
 have H : ((spec_l14Draw.f k s0_0 s0_1 s0_2).bind fun bt170 => ((spec_l1Below.f s0_0 bt170.2.1 bt170.2.2 8).bind fun bt175 => (if bt175.1 = 0 then (if bt170.1.length < 5864062014805 then (some ((bt170.1 ++ [(([] : List (S43)))]), bt175.2.1, bt175.2.2)) else (none)) else (if bt175.1 = 1 then (if 0 < (bt170.1.length : Int) then ((spec_l1Int.f s0_0 bt175.2.1 bt175.2.2 (([0, 10000, (-1), 5] : List Int))).bind fun bt188 => ((spec_l1Str.f s0_0 bt188.2.1 bt188.2.2 (([(⟨#[]⟩ : ByteArray), (⟨#[118, 49]⟩ : ByteArray), (⟨#[34, 97, 34]⟩ : ByteArray)] : List ByteArray))).bind fun bt194 => (if (rd_L5 bt170.1 0).length < 4398046511104 then (some ((bt170.1.set (0 : Int).toNat ((rd_L5 bt170.1 0) ++ [(⟨false, bt188.1, bt194.1⟩ : S43)])), bt194.2.1, bt194.2.2)) else (none)))) else (none)) else (if bt175.1 = 2 then (spec_l14Any.l0 k bt170.1 s0_0 bt175.2.1 bt175.2.2) else (some (bt170.1, bt175.2.1, bt175.2.2))))))) = some (r1, r2, r3) := h
 clear h
 obtain ⟨⟨t170, t173, t174⟩, A2, H⟩ := bo_ H
 (try dsimp only at H)
 obtain ⟨⟨t175, t176, t177⟩, A3, H⟩ := bo_ H
 (try dsimp only at H)
 by_cases c4 : t175 = 0
 · rw [if_pos c4] at H
   have c4b0 : (t175 == 0) = true := beq_iff_eq.mpr c4
   have c4b1 : (t175 != 0) = false := bne_eq_false_iff_eq.mpr c4
   clear c4
   obtain ⟨y178, hy178⟩ : ∃ y_ : List (S43), y_ = (([] : List (S43))) := ⟨_, rfl⟩
   replace H : (if t170.length < 5864062014805 then (some ((t170 ++ [y178]), t176, t177)) else (none)) = some (r1, r2, r3) := hy_ hy178 H
   have Ny178 := A_ hy178
   clear hy178
   by_cases c5 : t170.length < 5864062014805
   rotate_left
   · exact absurd H (by rw [if_neg c5]; simp)
   rw [if_pos c5] at H
   have LMc5 := A_ c5
   clear c5
   obtain ⟨y181, hy181⟩ : ∃ y_ : List (List (S43)), y_ = (t170 ++ [y178]) := ⟨_, rfl⟩
   replace H : (some (y181, t176, t177)) = some (r1, r2, r3) := hy_ hy181 H
   have Ny181 := A_ hy181
   clear hy181
   simp only [Option.some.injEq, Prod.mk.injEq] at H
   obtain ⟨rfl, rfl, rfl⟩ := H
   go_enter Tryz.func20, Tryz.ntmps20
   go_wp2_with (first | ((with_reducible refine gc_ (f := 24) rfl ?_); refine gL_ (some 5) Tryz.func24 #[.pointer (some ⟨g, 0, none⟩)] ?_; (with_reducible refine (spec_l14Draw.calls k g s0_0 s0_1 s0_2 t170 t173 t174 w0 _ ?s1 ?s2 A2.out).mono ?_); (case s1 => exact bIQx30_); (case s2 => exact bIQx31_); rintro e w6 ⟨v171, rfl, ho0, hi, hb, hk⟩; refine ⟨_, rfl, ?_⟩; have HO172 := A_ (Kd.S_lower ho0 (keep_size (w := w) (g := g) (row := none) bK_)); replace HK := A_ (KeepBut.trans bK_ hk (.inl rfl)); replace HB := A_ (hb); replace HI0 := A_ (hi); (try clear hb); (try clear hk); (try clear hi); (try clear ho0)) | ((with_reducible refine gc_ (f := 25) rfl ?_); refine gL_ (some 7) Tryz.func25 #[.pointer (some ⟨g, 0, none⟩), .int .i64 8] ?_; (with_reducible refine (spec_l1Below.calls g s0_0 t173 t174 8 t175 t176 t177 w0 _ ?s1 ?s2 A3.out).mono ?_); (case s1 => exact bIQx30_); (case s2 => exact bIQx31_); rintro e w7 ⟨rfl, hi, hb, hk⟩; refine ⟨_, rfl, ?_⟩; replace HO172 := A_ (Kd.S_mono (Kd.S_keep (IsS60.apartS (show IsS60 w0 _ g s0_0 t173 t174 from bIQx30_) (vS_ HO172.out) (by decide)) hk (fun _ h => h.2)) (fun _ h => h.1)); replace HK := A_ (KeepBut.trans bK_ hk (.inl rfl)); replace HB := A_ (hb); replace HI0 := A_ (hi); (try clear hb); (try clear hk); (try clear hi)) | ((with_reducible refine gd_ (N := 11) rfl ?_); refine Kd.R_lit k43 _ 43 ?hg (N := 11) ?hd (xs := ([] : List (S43))) (inner := []) (ok := fun _ => True) (okp := fun _ => True) ?hr ?hp (fun _ hk => hk) trivial (Below.refl _ _) (Nat.le_refl _) (by simp) ?_; (case hd => rfl); (case hg => rfl); (case hr => first | (go_simp; done) | (go_simp; rfl)); (case hp => exact (Reps.none _ _)); intro v179 w8 ho9 hb hg_ hnew_; clear hg_ hnew_; (first | rw [← Ny178.out] at ho9 | (simp only [Int.reduceToNat] at ho9; rw [← Ny178.out] at ho9)); replace HO172 := A_ (Kd.S_elder' (vS_ HO172.out) (kb_ ho9) hb); have HO180 := A_ (Kd.R_lower ho9 (keep_size (w := w) (g := g) (row := none) bK_)); replace HK := A_ (KeepBut.trans bK_ (KeepBut.of_below hb g none) (.inl rfl)); replace HB := A_ (below_step bIQx31_ hb); replace HI0 := A_ (IsS60.below bIQx30_ hb); clear hb ho9; obtain ⟨Ao11, co11, eo11⟩ := Kd.R_slice HO180.out; subst eo11) | ((with_reducible refine gate_builtin (b := .append) (xs := #[.tmp 10, .tmp 12]) rfl ?_); at_builtin; refine Kd.S_append (Kd.slice 43 k43) w.heap.size rfl (.tmp 10) (.tmp 12) 24 41 (.slice none 0 0) 24 rfl Tryz.underlying24 info41 rfl (by decide) (by omega) v171 t170 y178 [.slice Ao11 y178.length co11] (fun _ => True) (fun k_ => some k_ = (.slice Ao11 y178.length co11 : Value).ownBlock) rfl rfl ?aP (fun k_ hk_ => ((Kd.R_mono (ok' := fun k_ => ((fun _ => True)) k_ ∧ some k_ ≠ (v171 : Value).ownBlock) (Kd.R_apart' (HO180.out) (Kd.S_typed HO172.out) (by decide)) (fun k_ hk => ⟨trivial, hk.2⟩))).1 k_ hk_.symm) ?aF ?aO (Below.refl _ _) ?aS ?aL ?_; (case aP => exact Kd.M_row (Kd.R_mono (Kd.R_tight rfl (Kd.R_mono (ok' := fun k_ => ((fun _ => True)) k_ ∧ some k_ ≠ (v171 : Value).ownBlock) (Kd.R_apart' (HO180.out) (Kd.S_typed HO172.out) (by decide)) (fun k_ hk => ⟨trivial, hk.2⟩))) (fun _ h_ => h_))); (case aF => exact (fun _ _ => trivial)); (case aO => exact (by (with_reducible repeat (first | apply Kd.S_alloc | apply Kd.S_drewN | apply Kd.S_drew)); exact Kd.S_mono HO172.out (fun k_ hk => ⟨trivial, fun e_ => hk.2 e_⟩))); (case aS => exact (keep_size (w := w) (g := g) (row := none) bK_)); (case aL => have := LMc5.out; omega); intro v182 w10 ho hb hg hat; rw [← Ny181.out] at ho; replace HB := A_ (below_weaken bIQx31_ HL.out hb); replace HI0 := A_ (IsS60.grown bIQx30_ hg (IsS60.own_neS HI0.out HO172.out (by decide))); replace HK := A_ (KeepBut.trans bK_ (KeepBut.of_grown hg g) (Kd.S_base2 HO172.out)); have HO183 := A_ (ho); clear HO172 HO180; clear ho hb hg hat))
   go_ret
   exact ⟨_, rr_, by (with_reducible repeat (first | apply Kd.S_alloc | apply Kd.S_drewN | apply Kd.S_drew)); exact HO183.out, bIQx30_, bIQx31_, bK_⟩
 rw [if_neg c4] at H
 have c4b0 : (t175 == 0) = false := beq_eq_false_iff_ne.mpr c4
 have c4b1 : (t175 != 0) = true := bne_iff_ne.mpr c4
 by_cases c12 : t175 = 1
 rotate_left
 · rw [if_neg c12] at H
   have c12b0 : (t175 == 1) = false := beq_eq_false_iff_ne.mpr c12
   have c12b1 : (t175 != 1) = true := bne_iff_ne.mpr c12
   by_cases c36 : t175 = 2
   rotate_left
   · rw [if_neg c36] at H
     have c36b0 : (t175 == 2) = false := beq_eq_false_iff_ne.mpr c36
     have c36b1 : (t175 != 2) = true := bne_iff_ne.mpr c36
     simp only [Option.some.injEq, Prod.mk.injEq] at H
     obtain ⟨rfl, rfl, rfl⟩ := H
     go_enter Tryz.func20, Tryz.ntmps20
     go_wp2_with (first | ((with_reducible refine gc_ (f := 24) rfl ?_); refine gL_ (some 5) Tryz.func24 #[.pointer (some ⟨g, 0, none⟩)] ?_; (with_reducible refine (spec_l14Draw.calls k g s0_0 s0_1 s0_2 t170 t173 t174 w0 _ ?s1 ?s2 A2.out).mono ?_); (case s1 => exact bIQx30_); (case s2 => exact bIQx31_); rintro e w50 ⟨v171, rfl, ho0, hi, hb, hk⟩; refine ⟨_, rfl, ?_⟩; have HO172 := A_ (Kd.S_lower ho0 (keep_size (w := w) (g := g) (row := none) bK_)); replace HK := A_ (KeepBut.trans bK_ hk (.inl rfl)); replace HB := A_ (hb); replace HI0 := A_ (hi); (try clear hb); (try clear hk); (try clear hi); (try clear ho0)) | ((with_reducible refine gc_ (f := 25) rfl ?_); refine gL_ (some 7) Tryz.func25 #[.pointer (some ⟨g, 0, none⟩), .int .i64 8] ?_; (with_reducible refine (spec_l1Below.calls g s0_0 t173 t174 8 t175 t176 t177 w0 _ ?s1 ?s2 A3.out).mono ?_); (case s1 => exact bIQx30_); (case s2 => exact bIQx31_); rintro e w51 ⟨rfl, hi, hb, hk⟩; refine ⟨_, rfl, ?_⟩; replace HO172 := A_ (Kd.S_mono (Kd.S_keep (IsS60.apartS (show IsS60 w0 _ g s0_0 t173 t174 from bIQx30_) (vS_ HO172.out) (by decide)) hk (fun _ h => h.2)) (fun _ h => h.1)); replace HK := A_ (KeepBut.trans bK_ hk (.inl rfl)); replace HB := A_ (hb); replace HI0 := A_ (hi); (try clear hb); (try clear hk); (try clear hi)))
     go_ret
     exact ⟨_, rr_, by (with_reducible repeat (first | apply Kd.S_alloc | apply Kd.S_drewN | apply Kd.S_drew)); exact HO172.out, bIQx30_, bIQx31_, bK_⟩
   rw [if_pos c36] at H
   have c36b0 : (t175 == 2) = true := beq_iff_eq.mpr c36
   have c36b1 : (t175 != 2) = false := bne_eq_false_iff_eq.mpr c36
   clear c36
   have H' := A_ H
   clear H
   go_enter Tryz.func20, Tryz.ntmps20
   go_wp2_with (first | ((with_reducible refine gc_ (f := 24) rfl ?_); refine gL_ (some 5) Tryz.func24 #[.pointer (some ⟨g, 0, none⟩)] ?_; (with_reducible refine (spec_l14Draw.calls k g s0_0 s0_1 s0_2 t170 t173 t174 w0 _ ?s1 ?s2 A2.out).mono ?_); (case s1 => exact bIQx30_); (case s2 => exact bIQx31_); rintro e w37 ⟨v171, rfl, ho0, hi, hb, hk⟩; refine ⟨_, rfl, ?_⟩; have HO172 := A_ (Kd.S_lower ho0 (keep_size (w := w) (g := g) (row := none) bK_)); replace HK := A_ (KeepBut.trans bK_ hk (.inl rfl)); replace HB := A_ (hb); replace HI0 := A_ (hi); (try clear hb); (try clear hk); (try clear hi); (try clear ho0)) | ((with_reducible refine gc_ (f := 25) rfl ?_); refine gL_ (some 7) Tryz.func25 #[.pointer (some ⟨g, 0, none⟩), .int .i64 8] ?_; (with_reducible refine (spec_l1Below.calls g s0_0 t173 t174 8 t175 t176 t177 w0 _ ?s1 ?s2 A3.out).mono ?_); (case s1 => exact bIQx30_); (case s2 => exact bIQx31_); rintro e w38 ⟨rfl, hi, hb, hk⟩; refine ⟨_, rfl, ?_⟩; replace HO172 := A_ (Kd.S_mono (Kd.S_keep (IsS60.apartS (show IsS60 w0 _ g s0_0 t173 t174 from bIQx30_) (vS_ HO172.out) (by decide)) hk (fun _ h => h.2)) (fun _ h => h.1)); replace HK := A_ (KeepBut.trans bK_ hk (.inl rfl)); replace HB := A_ (hb); replace HI0 := A_ (hi); (try clear hb); (try clear hk); (try clear hi)))
   go_loopg [3] k (fun kq v3 w' => ∃ (x3_1 : List (List (S43))) (x1001_1 : Int) (x1002_1 : Int), Aside0 (spec_l14Any.l0 kq x3_1 s0_0 x1001_1 x1002_1 = some (r1, r2, r3)) ∧ Aside0 (kq ≤ k) ∧ Aside0 (Kd.S (Kd.slice 43 k43) 41 w' w.heap.size (fun _ => True) v3 x3_1) ∧ Aside0 (IsS60 w0 w' g s0_0 x1001_1 x1002_1) ∧ Aside0 (KeepBut w w' g none) ∧ Aside0 (Below w0.heap.size w0 w'))
   case atStart => exact ⟨(t170), (t176), (t177), H', ⟨Nat.le_refl _⟩, ⟨vS_ HO172.out⟩, ⟨bIQx30_⟩, ⟨bK_⟩, ⟨bIQx31_⟩⟩
   case round =>
    clear H'
    try clear c1
    try clear p1
    try clear q1
    try clear hx1
    try clear c2
    try clear p2
    try clear c3
    try clear hx3
    try clear hf3
    try clear c12
    try clear c12b0
    try clear c12b1
    try clear c13
    try clear c16
    try clear p17
    try clear q17
    try clear c18
    try clear hx18
    try clear c20
    try clear c24
    try clear c25
    try clear c26
    try clear c31
    try clear c33
    try clear hx33
    try clear hf33
    try clear c36
    try clear c36b0
    try clear c36b1
    try clear hx184_0
    try clear hx33_0
    try clear p17
    try clear q17
    obtain ⟨x3_1, x1001_1, x1002_1, HA, HK1, HO_3, HI0, HK, HB⟩ := hrel
    cases gk with
    | zero => exact absurd HA.out (by simp [spec_l14Any.l0])
    | succ k1 =>
     have H := HA.out
     clear HA
     simp only [spec_l14Any.l0] at H
     obtain ⟨⟨t201, t202, t203⟩, A39, H⟩ := bo_ H
     (try dsimp only at H)
     by_cases c40 : (x3_1.length : Int) < (wrap64 (4 + t201))
     rotate_left
     · rw [if_neg c40] at H
       have c40b0 : decide ((x3_1.length : Int) < (wrap64 (4 + t201))) = false := decide_eq_false c40
       clear c40
       simp only [Option.some.injEq, Prod.mk.injEq] at H
       obtain ⟨rfl, rfl, rfl⟩ := H
       obtain ⟨Ao48, co48, eo48⟩ := Kd.S_slice HO_3.out
       subst eo48
       go_wp2_with (first | ((with_reducible refine gc_ (f := 25) rfl ?_); refine gL_ (some 35) Tryz.func25 #[.pointer (some ⟨g, 0, none⟩), .int .i64 2] ?_; (with_reducible refine (spec_l1Below.calls g s0_0 x1001_1 x1002_1 2 t201 t202 t203 w0 _ ?s1 ?s2 A39.out).mono ?_); (case s1 => exact bIQx30_); (case s2 => exact bIQx31_); rintro e w49 ⟨rfl, hi, hb, hk⟩; refine ⟨_, rfl, ?_⟩; replace HO_3 := A_ (Kd.S_mono (Kd.S_keep (IsS60.apartS (show IsS60 w0 _ g s0_0 x1001_1 x1002_1 from bIQx30_) (vS_ HO_3.out) (by decide)) hk (fun _ h => h.2)) (fun _ h => h.1)); replace HK := A_ (KeepBut.trans bK_ hk (.inl rfl)); replace HB := A_ (hb); replace HI0 := A_ (hi); (try clear hb); (try clear hk); (try clear hi)))
       go_ret
       exact ⟨_, rr_, by (with_reducible repeat (first | apply Kd.S_alloc | apply Kd.S_drewN | apply Kd.S_drew)); exact HO_3.out, bIQx30_, bIQx31_, bK_⟩
     rw [if_pos c40] at H
     have c40b0 : decide ((x3_1.length : Int) < (wrap64 (4 + t201))) = true := decide_eq_true c40
     clear c40
     obtain ⟨y204, hy204⟩ : ∃ y_ : List (S43), y_ = (([(⟨false, 1, (⟨#[]⟩ : ByteArray)⟩ : S43)] : List (S43))) := ⟨_, rfl⟩
     replace H : (if x3_1.length < 5864062014805 then (spec_l14Any.l0 k1 (x3_1 ++ [y204]) s0_0 t202 t203) else (none)) = some (r1, r2, r3) := hy_ hy204 H
     have Ny204 := A_ hy204
     clear hy204
     by_cases c41 : x3_1.length < 5864062014805
     rotate_left
     · exact absurd H (by rw [if_neg c41]; simp)
     rw [if_pos c41] at H
     have LMc41 := A_ c41
     clear c41
     obtain ⟨y207, hy207⟩ : ∃ y_ : List (List (S43)), y_ = (x3_1 ++ [y204]) := ⟨_, rfl⟩
     replace H : (spec_l14Any.l0 k1 y207 s0_0 t202 t203) = some (r1, r2, r3) := hy_ hy207 H
     have Ny207 := A_ hy207
     clear hy207
     have H' := A_ H
     clear H
     obtain ⟨Ao42, co42, eo42⟩ := Kd.S_slice HO_3.out
     subst eo42
     go_wp2_with (first | ((with_reducible refine gc_ (f := 25) rfl ?_); refine gL_ (some 35) Tryz.func25 #[.pointer (some ⟨g, 0, none⟩), .int .i64 2] ?_; (with_reducible refine (spec_l1Below.calls g s0_0 x1001_1 x1002_1 2 t201 t202 t203 w0 _ ?s1 ?s2 A39.out).mono ?_); (case s1 => exact bIQx30_); (case s2 => exact bIQx31_); rintro e w43 ⟨rfl, hi, hb, hk⟩; refine ⟨_, rfl, ?_⟩; replace HO_3 := A_ (Kd.S_mono (Kd.S_keep (IsS60.apartS (show IsS60 w0 _ g s0_0 x1001_1 x1002_1 from bIQx30_) (vS_ HO_3.out) (by decide)) hk (fun _ h => h.2)) (fun _ h => h.1)); replace HK := A_ (KeepBut.trans bK_ hk (.inl rfl)); replace HB := A_ (hb); replace HI0 := A_ (hi); (try clear hb); (try clear hk); (try clear hi)) | ((with_reducible refine gd_ (N := 40) rfl ?_); refine Kd.R_lit k43 _ 43 ?hg (N := 40) ?hd (xs := ([(⟨false, 1, (⟨#[]⟩ : ByteArray)⟩ : S43)] : List (S43))) (inner := [.bool false, .int .i64 1, .string (⟨#[]⟩ : ByteArray)]) (ok := fun _ => True) (okp := fun _ => True) ?hr ?hp (fun _ hk => hk) trivial (Below.refl _ _) (Nat.le_refl _) (by simp) ?_; (case hd => rfl); (case hg => rfl); (case hr => first | (go_simp; done) | (go_simp; rfl)); (case hp => exact (Reps.c3 (show Kd.M k43 _ _ _ (⟨false, 1, (⟨#[]⟩ : ByteArray)⟩ : S43) [.bool false, .int .i64 1, .string (⟨#[]⟩ : ByteArray)] from (k43_mkM _ _ _ (⟨false, 1, (⟨#[]⟩ : ByteArray)⟩ : S43) )) (Reps.none _ _))); intro v205 w44 ho45 hb hg_ hnew_; clear hg_ hnew_; (first | rw [← Ny204.out] at ho45 | (simp only [Int.reduceToNat] at ho45; rw [← Ny204.out] at ho45)); replace HO_3 := A_ (Kd.S_elder' (vS_ HO_3.out) (kb_ ho45) hb); have HO206 := A_ (Kd.R_lower ho45 (keep_size (w := w) (g := g) (row := none) bK_)); replace HK := A_ (KeepBut.trans bK_ (KeepBut.of_below hb g none) (.inl rfl)); replace HB := A_ (below_step bIQx31_ hb); replace HI0 := A_ (IsS60.below bIQx30_ hb); clear hb ho45; obtain ⟨Ao47, co47, eo47⟩ := Kd.R_slice HO206.out; subst eo47) | ((with_reducible refine gate_builtin (b := .append) (xs := #[.tmp 38, .tmp 41]) rfl ?_); at_builtin; refine Kd.S_append (Kd.slice 43 k43) w.heap.size rfl (.tmp 38) (.tmp 41) 24 41 (.slice none 0 0) 24 rfl Tryz.underlying24 info41 rfl (by decide) (by omega) (.slice Ao42 x3_1.length co42) x3_1 y204 [.slice Ao47 y204.length co47] (fun _ => True) (fun k_ => some k_ = (.slice Ao47 y204.length co47 : Value).ownBlock) rfl rfl ?aP (fun k_ hk_ => ((Kd.R_mono (ok' := fun k_ => ((fun _ => True)) k_ ∧ some k_ ≠ (.slice Ao42 x3_1.length co42 : Value).ownBlock) (Kd.R_apart' (HO206.out) (Kd.S_typed HO_3.out) (by decide)) (fun k_ hk => ⟨trivial, hk.2⟩))).1 k_ hk_.symm) ?aF ?aO (Below.refl _ _) ?aS ?aL ?_; (case aP => exact Kd.M_row (Kd.R_mono (Kd.R_tight rfl (Kd.R_mono (ok' := fun k_ => ((fun _ => True)) k_ ∧ some k_ ≠ (.slice Ao42 x3_1.length co42 : Value).ownBlock) (Kd.R_apart' (HO206.out) (Kd.S_typed HO_3.out) (by decide)) (fun k_ hk => ⟨trivial, hk.2⟩))) (fun _ h_ => h_))); (case aF => exact (fun _ _ => trivial)); (case aO => exact (by (with_reducible repeat (first | apply Kd.S_alloc | apply Kd.S_drewN | apply Kd.S_drew)); exact Kd.S_mono HO_3.out (fun k_ hk => ⟨trivial, fun e_ => hk.2 e_⟩))); (case aS => exact (keep_size (w := w) (g := g) (row := none) bK_)); (case aL => have := LMc41.out; omega); intro v208 w46 ho hb hg hat; rw [← Ny207.out] at ho; replace HB := A_ (below_weaken bIQx31_ HL.out hb); replace HI0 := A_ (IsS60.grown bIQx30_ hg (IsS60.own_neS HI0.out HO_3.out (by decide))); replace HK := A_ (KeepBut.trans bK_ (KeepBut.of_grown hg g) (Kd.S_base2 HO_3.out)); have HO209 := A_ (ho); clear HO_3 HO206; clear ho hb hg hat))
     go_roundg k1
     case measure => have := HK1.out; omega
     case rel => exact ⟨(y207), (t202), (t203), H', ⟨by have := HK1.out; omega⟩, ⟨vS_ HO209.out⟩, ⟨bIQx30_⟩, ⟨bK_⟩, ⟨bIQx31_⟩⟩
 rw [if_pos c12] at H
 have c12b0 : (t175 == 1) = true := beq_iff_eq.mpr c12
 have c12b1 : (t175 != 1) = false := bne_eq_false_iff_eq.mpr c12
 clear c12
 by_cases c13 : 0 < (t170.length : Int)
 rotate_left
 · exact absurd H (by rw [if_neg c13]; simp)
 rw [if_pos c13] at H
 have c13b0 : decide (0 < (t170.length : Int)) = true := decide_eq_true c13
 have c13b1 : decide (0 < t170.length) = true := decide_eq_true (by omega)
 clear c13
 obtain ⟨y185, hy185⟩ : ∃ y_ : List Int, y_ = (([0, 10000, (-1), 5] : List Int)) := ⟨_, rfl⟩
 replace H : ((spec_l1Int.f s0_0 t176 t177 y185).bind fun bt188 => ((spec_l1Str.f s0_0 bt188.2.1 bt188.2.2 (([(⟨#[]⟩ : ByteArray), (⟨#[118, 49]⟩ : ByteArray), (⟨#[34, 97, 34]⟩ : ByteArray)] : List ByteArray))).bind fun bt194 => (if (rd_L5 t170 0).length < 4398046511104 then (some ((t170.set (0 : Int).toNat ((rd_L5 t170 0) ++ [(⟨false, bt188.1, bt194.1⟩ : S43)])), bt194.2.1, bt194.2.2)) else (none)))) = some (r1, r2, r3) := hy_ hy185 H
 have Ny185 := A_ hy185
 clear hy185
 obtain ⟨⟨t188, t189, t190⟩, A14, H⟩ := bo_ H
 (try dsimp only at H)
 obtain ⟨y191, hy191⟩ : ∃ y_ : List ByteArray, y_ = (([(⟨#[]⟩ : ByteArray), (⟨#[118, 49]⟩ : ByteArray), (⟨#[34, 97, 34]⟩ : ByteArray)] : List ByteArray)) := ⟨_, rfl⟩
 replace H : ((spec_l1Str.f s0_0 t189 t190 y191).bind fun bt194 => (if (rd_L5 t170 0).length < 4398046511104 then (some ((t170.set (0 : Int).toNat ((rd_L5 t170 0) ++ [(⟨false, t188, bt194.1⟩ : S43)])), bt194.2.1, bt194.2.2)) else (none))) = some (r1, r2, r3) := hy_ hy191 H
 have Ny191 := A_ hy191
 clear hy191
 obtain ⟨⟨t194, t195, t196⟩, A15, H⟩ := bo_ H
 (try dsimp only at H)
 by_cases c16 : (rd_L5 t170 0).length < 4398046511104
 rotate_left
 · exact absurd H (by rw [if_neg c16]; simp)
 rw [if_pos c16] at H
 have LMc16 := A_ c16
 clear c16
 obtain ⟨y197, hy197⟩ : ∃ y_ : List (S43), y_ = ((rd_L5 t170 0) ++ [(⟨false, t188, t194⟩ : S43)]) := ⟨_, rfl⟩
 replace H : (some ((t170.set (0 : Int).toNat y197), t195, t196)) = some (r1, r2, r3) := hy_ hy197 H
 have Ny197 := A_ hy197
 clear hy197
 obtain ⟨y200, hy200⟩ : ∃ y_ : List (List (S43)), y_ = (t170.set (0 : Int).toNat y197) := ⟨_, rfl⟩
 replace H : (some (y200, t195, t196)) = some (r1, r2, r3) := hy_ hy200 H
 have Ny200 := A_ hy200
 clear hy200
 simp only [Option.some.injEq, Prod.mk.injEq] at H
 obtain ⟨rfl, rfl, rfl⟩ := H
 go_enter Tryz.func20, Tryz.ntmps20
 try go_wp2_with (first | ((with_reducible refine gc_ (f := 24) rfl ?_); refine gL_ (some 5) Tryz.func24 #[.pointer (some ⟨g, 0, none⟩)] ?_; (with_reducible refine (spec_l14Draw.calls k g s0_0 s0_1 s0_2 t170 t173 t174 w0 _ ?s1 ?s2 A2.out).mono ?_); (case s1 => exact bIQx30_); (case s2 => exact bIQx31_); rintro e w18 ⟨v171, rfl, ho0, hi, hb, hk⟩; refine ⟨_, rfl, ?_⟩; have HO172 := A_ (Kd.S_lower ho0 (keep_size (w := w) (g := g) (row := none) bK_)); replace HK := A_ (KeepBut.trans bK_ hk (.inl rfl)); replace HB := A_ (hb); replace HI0 := A_ (hi); (try clear hb); (try clear hk); (try clear hi); (try clear ho0)) | ((with_reducible refine gc_ (f := 25) rfl ?_); refine gL_ (some 7) Tryz.func25 #[.pointer (some ⟨g, 0, none⟩), .int .i64 8] ?_; (with_reducible refine (spec_l1Below.calls g s0_0 t173 t174 8 t175 t176 t177 w0 _ ?s1 ?s2 A3.out).mono ?_); (case s1 => exact bIQx30_); (case s2 => exact bIQx31_); rintro e w19 ⟨rfl, hi, hb, hk⟩; refine ⟨_, rfl, ?_⟩; replace HO172 := A_ (Kd.S_mono (Kd.S_keep (IsS60.apartS (show IsS60 w0 _ g s0_0 t173 t174 from bIQx30_) (vS_ HO172.out) (by decide)) hk (fun _ h => h.2)) (fun _ h => h.1)); replace HK := A_ (KeepBut.trans bK_ hk (.inl rfl)); replace HB := A_ (hb); replace HI0 := A_ (hi); (try clear hb); (try clear hk); (try clear hi)))
 replace HO172 := A_ (Kd.S_drew HO172.out)
 replace HI0 := A_ (IsS60.drew HI0.out)
 replace HK := A_ (keep_drew HK.out)
 replace HB := A_ (below_drew1 HB.out)
 obtain ⟨Ao21, co21, eo21⟩ := Kd.S_slice HO172.out
 (first | subst eo21 | (injection eo21 with f1_ f2_ f3_; have f4_ := f1_.symm; have f5_ := f3_.symm; clear f1_ f2_ f3_; subst f4_; subst f5_))
 have p184 : 0 ≤ (0 : Int) := (by omega)
 have q184 : 0 < (t170.length : Int) := od_
 obtain ⟨ad184, A184_0, c184_0, e184, hx184_0, hl184_0, hi184_0⟩ := at_L5 (Kd.S_reads' HO172.out).2.2 0 p184 q184
 cases e184
 obtain ⟨ce184, hce184, hMe184, hcc184⟩ := Kd.S_get HO172.out [] 0 p184 (by first | exact q184 | exact od_ | (have e_ := (Kd.S_reads' HO172.out).1; omega))
 obtain ⟨ve184_0, rfl, ge184_0⟩ := hMe184
 have hv184_0 := hcc184 0 _ rfl
 rw [Nat.add_zero, show ((Kd.slice 43 k43)).sz = 1 from rfl, Nat.mul_one] at hv184_0
 replace hv184_0 := Option.some.inj (hv184_0.symm.trans hx184_0)
 rw [hv184_0] at ge184_0
 have HL184_0 := A_ (show Kd.R k43 43 _ _ _ _ (rd_L5 t170 0) from ge184_0)
 clear hv184_0 ge184_0
 have HX184_0 := A_ hx184_0
 clear hcc184 hce184
 have qi184 : (0 < t170.length) = True := eq_true (by omega)
 (try rw [show ((0 : Int)).toNat = 0 from rfl] at hx184_0)
 (try rw [Addr.add_zero'] at hx184_0)
 have HR184_0 := A_ hi184_0
 have HC184_0 := A_ hl184_0
 clear hi184_0 hl184_0
 replace p184 := eq_true p184
 replace q184 := eq_true q184
 refine start_ (n := 15) (S := fun w' => w'.cell? ad184 = some (.slice A184_0 (rd_L5 t170 0).length c184_0)) (ds := [14]) #[false, false, false, false, false, false, false, false, false, false, false, false, false, false, false] (by kernel_rfl) rfl rfl (hx184_0) (fun hHeld => ?_); refine with_tabW spec_l14Any.tab6 spec_l14Any.bits6 (fun HT_ HW_ => ?_)
 generalize w19.drew = w20 at HO172 HI0 HK HB HL184_0 HR184_0 HX184_0 hx184_0 hHeld ⊢
 refine pu_ (i := 0) (N := some 16) ?_
 refine pu_ (i := 1) (N := some 17) ?_
 refine pu_ (i := 2) (N := some 18) ?_
 refine pu_ (i := 4) (N := some 20) ?_
 refine pu_ (i := 7) (N := some 23) ?_
 refine take_ (i := 3) (N := some 19) (v := ?_) (a' := ?_) #[true, true, true, true, true, false, false, true, false, false, false, false, false, false, false] rfl rfl (take_ofW HT_.out HW_.out (by kernel_rfl)) (fun _ _ _ h => h) (Or.inl ⟨by rfl, ?_⟩) hHeld ?_ ?_
 rotate_left
 · intro w' s0
   go_simp
   with_reducible rfl
 rotate_left
 · simp only [Act.put, List.setIfInBounds_toArray, List.set_cons_zero, List.set_cons_succ, i64_w, i32_w]
   rfl
 refine join_ (σ := Value × Value) 6 #[true, true, true, true, true, true, true, true, true, false, false, false, false, false, false] (fun s_ => [(21, s_.1), (22, .int .i64 t188), (24, s_.2)]) (fun s_ w' => (w'.cell? ad184 = some (.slice A184_0 (rd_L5 t170 0).length c184_0)) ∧ (Kd.R k43 43 w' w.heap.size (fun k_ => some k_ ≠ (.slice (some ad184) t170.length co21 : Value).ownBlock) (.slice A184_0 (rd_L5 t170 0).length c184_0) (rd_L5 t170 0)) ∧ (Kd.S (Kd.slice 43 k43) 41 w' w.heap.size (fun _ => True) (.slice (some ad184) t170.length co21) t170) ∧ (Kd.R (Kd.int .i64) 3 w' w.heap.size (fun _ => True) s_.1 y185) ∧ (Kd.R Kd.string 9 w' w.heap.size (fun _ => True) s_.2 y191) ∧ (w'.cell? (ad184.add (0 : Int).toNat) = some (.slice A184_0 (rd_L5 t170 0).length c184_0)) ∧ (IsS60 w0 w' g s0_0 t189 t190) ∧ (KeepBut w w' g none) ∧ (Below w0.heap.size w0 w')) ?_ ?_
 rotate_left
 · intro hCont
   refine two_ (i := 5) (j := 8) (Ni := some 21) (Nj := some 24) #[true, true, true, true, true, true, false, true, false, false, false, false, false, false, false] #[true, true, true, true, true, false, false, true, true, false, false, false, false, false, false] rfl rfl rfl rfl (two_of HT_.out (by kernel_rfl)) (by decide) (by decide) (fun K hK => ?_) (fun K hK => ?_)
   · skip
     refine Kd.R_lit_step (Kd.int .i64) _ 3 ?hg (N := 21) ?hd (xs := ([0, 10000, (-1), 5] : List Int)) (inner := [.int .i64 0, .int .i64 10000, .int .i64 (-1), .int .i64 5]) (ok := fun _ => True) (okp := fun _ => True) ?hr ?hp (fun _ hk => hk) trivial (Below.refl _ _) (Nat.le_refl _) (by simp) ?_; (case hd => rfl); (case hg => rfl); (case hr => first | (go_simp; done) | (go_simp; rfl)); (case hp => exact (Reps.one (show Kd.M (Kd.int .i64) _ _ _ 0 [.int .i64 0] from rfl) (Reps.one (show Kd.M (Kd.int .i64) _ _ _ 10000 [.int .i64 10000] from rfl) (Reps.one (show Kd.M (Kd.int .i64) _ _ _ (-1) [.int .i64 (-1)] from rfl) (Reps.one (show Kd.M (Kd.int .i64) _ _ _ 5 [.int .i64 5] from rfl) (Reps.none _ _))))))
     intro v186 w22 ho23 hb hg_ hnew_
     have HS0_ := (hb.cell (World.block_lt_of_cell? _ _ (hHeld))).trans (hHeld)
     clear hg_ hnew_
     (first | rw [← Ny185.out] at ho23 | (simp only [Int.reduceToNat] at ho23; rw [← Ny185.out] at ho23))
     replace HO172 := A_ (Kd.S_below (vS_ HO172.out) hb)
     replace HL184_0 := A_ (Kd.R_below (vR_ HL184_0.out) hb)
     have HO187 := A_ (Kd.R_lower ho23 (keep_size (w := w) (g := g) (row := none) bK_))
     replace HR184_0 := A_ (Kd.C_below (cC_ HR184_0.out) hb)
     replace HX184_0 := A_ (pw_cell_below hb HX184_0.out)
     replace HK := A_ (KeepBut.trans bK_ (KeepBut.of_below hb g none) (.inl rfl))
     replace HB := A_ (below_step bIQx31_ hb)
     replace HI0 := A_ (IsS60.below bIQx30_ hb)
     clear hb ho23
     obtain ⟨Ao24, co24, eo24⟩ := Kd.R_slice HO187.out
     (first | subst eo24 | (injection eo24 with f1_ f2_ f3_; have f4_ := f1_.symm; have f5_ := f3_.symm; clear f1_ f2_ f3_; subst f4_; subst f5_))
     refine hK.out _ _ (HS0_) (fun hHeld => ?_)
     clear hK K
     refine no_ (some 21) ?_
     refine two_ (i := 6) (j := 8) (Ni := some 22) (Nj := some 24) #[true, true, true, true, true, true, true, true, false, false, false, false, false, false, false] #[true, true, true, true, true, true, false, true, true, false, false, false, false, false, false] rfl rfl rfl rfl (two_of HT_.out (by kernel_rfl)) (by decide) (by decide) (fun K hK => ?_) (fun K hK => ?_)
     · skip
       refine goes_ Tryz.func36 (by kernel_rfl) rfl #[.pointer (some ⟨g, 0, none⟩), .slice Ao24 y185.length co24] (by rfl) rfl rfl ml_ ?_
       with_reducible refine (spec_l1Int.calls g s0_0 t176 t177 _ _ y185 t188 t189 t190 w0 _ ?s1 ?s2 ?s3 ?s4 ?s5 A14.out).mono ?_
       (case s1 => exact bIQx30_)
       (case s2 => exact bIQx31_)
       (case s3 => exact cC_ (Kd.R_reads' HO187.out).2.2)
       (case s4 => exact (Kd.R_reads' HO187.out).2.1)
       (case s5 => exact far_slice (IsS60.own_ne HI0.out HO187.out (by decide)))
       rintro e w25 ⟨rfl, hi, hb, hk⟩
       have HS0_ := keep_cell hk (hHeld) (by first | (rw [add_block]; exact Kd.own_blk (IsS60.own_neS HI0.out HO172.out (by decide))) | (show (Addr.add _ _).block ≠ _; rw [add_block]; exact Kd.own_blk (IsS60.own_neS HI0.out HO172.out (by decide))) | exact Kd.own_blk (IsS60.own_neS HI0.out HO172.out (by decide)))
       refine ⟨_, rfl, ?_⟩
       replace HL184_0 := A_ (Kd.R_mono (Kd.R_keep (IsS60.apart (show IsS60 w0 _ g s0_0 t176 t177 from bIQx30_) (vR_ HL184_0.out) (by decide)) hk (fun _ h => h.2)) (fun _ h => h.1))
       replace HX184_0 := A_ (keep_cell hk HX184_0.out (by first | (rw [add_block]; exact Kd.own_blk (IsS60.own_neS HI0.out HO172.out (by decide))) | (show (Addr.add _ _).block ≠ _; rw [add_block]; exact Kd.own_blk (IsS60.own_neS HI0.out HO172.out (by decide))) | exact Kd.own_blk (IsS60.own_neS HI0.out HO172.out (by decide)) | (dsimp only; exact Kd.own_blk (IsS60.own_neS HI0.out HO172.out (by decide)))))
       replace HO172 := A_ (Kd.S_mono (Kd.S_keep (IsS60.apartS (show IsS60 w0 _ g s0_0 t176 t177 from bIQx30_) (vS_ HO172.out) (by decide)) hk (fun _ h => h.2)) (fun _ h => h.1))
       replace HO187 := A_ (Kd.R_mono (Kd.R_keep (IsS60.apart (show IsS60 w0 _ g s0_0 t176 t177 from bIQx30_) (vR_ HO187.out) (by decide)) hk (fun _ h => h.2)) (fun _ h => h.1))
       replace HK := A_ (KeepBut.trans bK_ hk (.inl rfl))
       replace HB := A_ (hb)
       replace HI0 := A_ (hi)
       (try clear hb)
       (try clear hb2)
       (try clear hk)
       (try clear hi)
       refine hK.out _ _ (HS0_) (fun hHeld => ?_)
       clear hK K
       refine no_ (some 22) ?_
       refine on_ (i := 8) (N := some 24) (fun K hK => ?_)
       refine Kd.R_lit_step Kd.string _ 9 ?hg (N := 24) ?hd (xs := ([(⟨#[]⟩ : ByteArray), (⟨#[118, 49]⟩ : ByteArray), (⟨#[34, 97, 34]⟩ : ByteArray)] : List ByteArray)) (inner := [.string (⟨#[]⟩ : ByteArray), .string (⟨#[118, 49]⟩ : ByteArray), .string (⟨#[34, 97, 34]⟩ : ByteArray)]) (ok := fun _ => True) (okp := fun _ => True) ?hr ?hp (fun _ hk => hk) trivial (Below.refl _ _) (Nat.le_refl _) (by simp) ?_; (case hd => rfl); (case hg => rfl); (case hr => first | (go_simp; done) | (go_simp; rfl)); (case hp => exact (Reps.one (show Kd.M Kd.string _ _ _ (⟨#[]⟩ : ByteArray) [.string (⟨#[]⟩ : ByteArray)] from rfl) (Reps.one (show Kd.M Kd.string _ _ _ (⟨#[118, 49]⟩ : ByteArray) [.string (⟨#[118, 49]⟩ : ByteArray)] from rfl) (Reps.one (show Kd.M Kd.string _ _ _ (⟨#[34, 97, 34]⟩ : ByteArray) [.string (⟨#[34, 97, 34]⟩ : ByteArray)] from rfl) (Reps.none _ _)))))
       intro v192 w26 ho27 hb hg_ hnew_
       have HS0_ := (hb.cell (World.block_lt_of_cell? _ _ (hHeld))).trans (hHeld)
       clear hg_ hnew_
       (first | rw [← Ny191.out] at ho27 | (simp only [Int.reduceToNat] at ho27; rw [← Ny191.out] at ho27))
       replace HO172 := A_ (Kd.S_below (vS_ HO172.out) hb)
       replace HL184_0 := A_ (Kd.R_below (vR_ HL184_0.out) hb)
       replace HO187 := A_ (Kd.R_below (vR_ HO187.out) hb)
       have HO193 := A_ (Kd.R_lower ho27 (keep_size (w := w) (g := g) (row := none) bK_))
       replace HX184_0 := A_ (pw_cell_below hb HX184_0.out)
       replace HK := A_ (KeepBut.trans bK_ (KeepBut.of_below hb g none) (.inl rfl))
       replace HB := A_ (below_step bIQx31_ hb)
       replace HI0 := A_ (IsS60.below bIQx30_ hb)
       clear hb ho27
       refine hK.out _ _ (HS0_) (fun hHeld => ?_)
       clear hK K
       refine no_ (some 24) ?_
       exact norm_ (by simp only [putAll, Act.put, List.setIfInBounds_toArray, List.set_cons_zero, List.set_cons_succ]) (hCont (.slice Ao24 y185.length co24, v192) _ ⟨hHeld, (by (with_reducible repeat (first | apply Kd.R_alloc | apply Kd.R_drewN | apply Kd.R_drew)); exact Kd.R_mono HL184_0.out (fun _ hk => hk.2)), (vS_ HO172.out), (vR_ HO187.out), (vR_ HO193.out), HX184_0.out, bIQx30_, bK_, bIQx31_⟩)
     · skip
       refine Kd.R_lit_step Kd.string _ 9 ?hg (N := 24) ?hd (xs := ([(⟨#[]⟩ : ByteArray), (⟨#[118, 49]⟩ : ByteArray), (⟨#[34, 97, 34]⟩ : ByteArray)] : List ByteArray)) (inner := [.string (⟨#[]⟩ : ByteArray), .string (⟨#[118, 49]⟩ : ByteArray), .string (⟨#[34, 97, 34]⟩ : ByteArray)]) (ok := fun _ => True) (okp := fun _ => True) ?hr ?hp (fun _ hk => hk) trivial (Below.refl _ _) (Nat.le_refl _) (by simp) ?_; (case hd => rfl); (case hg => rfl); (case hr => first | (go_simp; done) | (go_simp; rfl)); (case hp => exact (Reps.one (show Kd.M Kd.string _ _ _ (⟨#[]⟩ : ByteArray) [.string (⟨#[]⟩ : ByteArray)] from rfl) (Reps.one (show Kd.M Kd.string _ _ _ (⟨#[118, 49]⟩ : ByteArray) [.string (⟨#[118, 49]⟩ : ByteArray)] from rfl) (Reps.one (show Kd.M Kd.string _ _ _ (⟨#[34, 97, 34]⟩ : ByteArray) [.string (⟨#[34, 97, 34]⟩ : ByteArray)] from rfl) (Reps.none _ _)))))
       intro v192 w24 ho25 hb hg_ hnew_
       have HS0_ := (hb.cell (World.block_lt_of_cell? _ _ (hHeld))).trans (hHeld)
       clear hg_ hnew_
       (first | rw [← Ny191.out] at ho25 | (simp only [Int.reduceToNat] at ho25; rw [← Ny191.out] at ho25))
       replace HO172 := A_ (Kd.S_below (vS_ HO172.out) hb)
       replace HL184_0 := A_ (Kd.R_below (vR_ HL184_0.out) hb)
       replace HO187 := A_ (Kd.R_below (vR_ HO187.out) hb)
       have HO193 := A_ (Kd.R_lower ho25 (keep_size (w := w) (g := g) (row := none) bK_))
       replace HR184_0 := A_ (Kd.C_below (cC_ HR184_0.out) hb)
       replace HX184_0 := A_ (pw_cell_below hb HX184_0.out)
       replace HK := A_ (KeepBut.trans bK_ (KeepBut.of_below hb g none) (.inl rfl))
       replace HB := A_ (below_step bIQx31_ hb)
       replace HI0 := A_ (IsS60.below bIQx30_ hb)
       clear hb ho25
       obtain ⟨Ao26, co26, eo26⟩ := Kd.R_slice HO187.out
       (first | subst eo26 | (injection eo26 with f1_ f2_ f3_; have f4_ := f1_.symm; have f5_ := f3_.symm; clear f1_ f2_ f3_; subst f4_; subst f5_))
       refine hK.out _ _ (HS0_) (fun hHeld => ?_)
       clear hK K
       refine no_ (some 24) ?_
       refine on_ (i := 6) (N := some 22) (fun K hK => ?_)
       refine goes_ Tryz.func36 (by kernel_rfl) rfl #[.pointer (some ⟨g, 0, none⟩), .slice Ao26 y185.length co26] (by rfl) rfl rfl ml_ ?_
       with_reducible refine (spec_l1Int.calls g s0_0 t176 t177 _ _ y185 t188 t189 t190 w0 _ ?s1 ?s2 ?s3 ?s4 ?s5 A14.out).mono ?_
       (case s1 => exact bIQx30_)
       (case s2 => exact bIQx31_)
       (case s3 => exact cC_ (Kd.R_reads' HO187.out).2.2)
       (case s4 => exact (Kd.R_reads' HO187.out).2.1)
       (case s5 => exact far_slice (IsS60.own_ne HI0.out HO187.out (by decide)))
       rintro e w27 ⟨rfl, hi, hb, hk⟩
       have HS0_ := keep_cell hk (hHeld) (by first | (rw [add_block]; exact Kd.own_blk (IsS60.own_neS HI0.out HO172.out (by decide))) | (show (Addr.add _ _).block ≠ _; rw [add_block]; exact Kd.own_blk (IsS60.own_neS HI0.out HO172.out (by decide))) | exact Kd.own_blk (IsS60.own_neS HI0.out HO172.out (by decide)))
       refine ⟨_, rfl, ?_⟩
       replace HL184_0 := A_ (Kd.R_mono (Kd.R_keep (IsS60.apart (show IsS60 w0 _ g s0_0 t176 t177 from bIQx30_) (vR_ HL184_0.out) (by decide)) hk (fun _ h => h.2)) (fun _ h => h.1))
       replace HX184_0 := A_ (keep_cell hk HX184_0.out (by first | (rw [add_block]; exact Kd.own_blk (IsS60.own_neS HI0.out HO172.out (by decide))) | (show (Addr.add _ _).block ≠ _; rw [add_block]; exact Kd.own_blk (IsS60.own_neS HI0.out HO172.out (by decide))) | exact Kd.own_blk (IsS60.own_neS HI0.out HO172.out (by decide)) | (dsimp only; exact Kd.own_blk (IsS60.own_neS HI0.out HO172.out (by decide)))))
       replace HO172 := A_ (Kd.S_mono (Kd.S_keep (IsS60.apartS (show IsS60 w0 _ g s0_0 t176 t177 from bIQx30_) (vS_ HO172.out) (by decide)) hk (fun _ h => h.2)) (fun _ h => h.1))
       replace HO187 := A_ (Kd.R_mono (Kd.R_keep (IsS60.apart (show IsS60 w0 _ g s0_0 t176 t177 from bIQx30_) (vR_ HO187.out) (by decide)) hk (fun _ h => h.2)) (fun _ h => h.1))
       replace HO193 := A_ (Kd.R_mono (Kd.R_keep (IsS60.apart (show IsS60 w0 _ g s0_0 t176 t177 from bIQx30_) (vR_ HO193.out) (by decide)) hk (fun _ h => h.2)) (fun _ h => h.1))
       replace HK := A_ (KeepBut.trans bK_ hk (.inl rfl))
       replace HB := A_ (hb)
       replace HI0 := A_ (hi)
       (try clear hb)
       (try clear hb2)
       (try clear hk)
       (try clear hi)
       refine hK.out _ _ (HS0_) (fun hHeld => ?_)
       clear hK K
       refine no_ (some 22) ?_
       exact norm_ (by simp only [putAll, Act.put, List.setIfInBounds_toArray, List.set_cons_zero, List.set_cons_succ]) (hCont (.slice Ao26 y185.length co26, v192) _ ⟨hHeld, (by (with_reducible repeat (first | apply Kd.R_alloc | apply Kd.R_drewN | apply Kd.R_drew)); exact Kd.R_mono HL184_0.out (fun _ hk => hk.2)), (vS_ HO172.out), (vR_ HO187.out), (vR_ HO193.out), HX184_0.out, bIQx30_, bK_, bIQx31_⟩)
   · skip
     refine Kd.R_lit_step Kd.string _ 9 ?hg (N := 24) ?hd (xs := ([(⟨#[]⟩ : ByteArray), (⟨#[118, 49]⟩ : ByteArray), (⟨#[34, 97, 34]⟩ : ByteArray)] : List ByteArray)) (inner := [.string (⟨#[]⟩ : ByteArray), .string (⟨#[118, 49]⟩ : ByteArray), .string (⟨#[34, 97, 34]⟩ : ByteArray)]) (ok := fun _ => True) (okp := fun _ => True) ?hr ?hp (fun _ hk => hk) trivial (Below.refl _ _) (Nat.le_refl _) (by simp) ?_; (case hd => rfl); (case hg => rfl); (case hr => first | (go_simp; done) | (go_simp; rfl)); (case hp => exact (Reps.one (show Kd.M Kd.string _ _ _ (⟨#[]⟩ : ByteArray) [.string (⟨#[]⟩ : ByteArray)] from rfl) (Reps.one (show Kd.M Kd.string _ _ _ (⟨#[118, 49]⟩ : ByteArray) [.string (⟨#[118, 49]⟩ : ByteArray)] from rfl) (Reps.one (show Kd.M Kd.string _ _ _ (⟨#[34, 97, 34]⟩ : ByteArray) [.string (⟨#[34, 97, 34]⟩ : ByteArray)] from rfl) (Reps.none _ _)))))
     intro v192 w22 ho23 hb hg_ hnew_
     have HS0_ := (hb.cell (World.block_lt_of_cell? _ _ (hHeld))).trans (hHeld)
     clear hg_ hnew_
     (first | rw [← Ny191.out] at ho23 | (simp only [Int.reduceToNat] at ho23; rw [← Ny191.out] at ho23))
     replace HO172 := A_ (Kd.S_below (vS_ HO172.out) hb)
     replace HL184_0 := A_ (Kd.R_below (vR_ HL184_0.out) hb)
     have HO193 := A_ (Kd.R_lower ho23 (keep_size (w := w) (g := g) (row := none) bK_))
     replace HR184_0 := A_ (Kd.C_below (cC_ HR184_0.out) hb)
     replace HX184_0 := A_ (pw_cell_below hb HX184_0.out)
     replace HK := A_ (KeepBut.trans bK_ (KeepBut.of_below hb g none) (.inl rfl))
     replace HB := A_ (below_step bIQx31_ hb)
     replace HI0 := A_ (IsS60.below bIQx30_ hb)
     clear hb ho23
     refine hK.out _ _ (HS0_) (fun hHeld => ?_)
     clear hK K
     refine no_ (some 24) ?_
     refine on_ (i := 5) (N := some 21) (fun K hK => ?_)
     refine Kd.R_lit_step (Kd.int .i64) _ 3 ?hg (N := 21) ?hd (xs := ([0, 10000, (-1), 5] : List Int)) (inner := [.int .i64 0, .int .i64 10000, .int .i64 (-1), .int .i64 5]) (ok := fun _ => True) (okp := fun _ => True) ?hr ?hp (fun _ hk => hk) trivial (Below.refl _ _) (Nat.le_refl _) (by simp) ?_; (case hd => rfl); (case hg => rfl); (case hr => first | (go_simp; done) | (go_simp; rfl)); (case hp => exact (Reps.one (show Kd.M (Kd.int .i64) _ _ _ 0 [.int .i64 0] from rfl) (Reps.one (show Kd.M (Kd.int .i64) _ _ _ 10000 [.int .i64 10000] from rfl) (Reps.one (show Kd.M (Kd.int .i64) _ _ _ (-1) [.int .i64 (-1)] from rfl) (Reps.one (show Kd.M (Kd.int .i64) _ _ _ 5 [.int .i64 5] from rfl) (Reps.none _ _))))))
     intro v186 w24 ho25 hb hg_ hnew_
     have HS0_ := (hb.cell (World.block_lt_of_cell? _ _ (hHeld))).trans (hHeld)
     clear hg_ hnew_
     (first | rw [← Ny185.out] at ho25 | (simp only [Int.reduceToNat] at ho25; rw [← Ny185.out] at ho25))
     replace HO172 := A_ (Kd.S_below (vS_ HO172.out) hb)
     replace HL184_0 := A_ (Kd.R_below (vR_ HL184_0.out) hb)
     replace HO193 := A_ (Kd.R_below (vR_ HO193.out) hb)
     have HO187 := A_ (Kd.R_lower ho25 (keep_size (w := w) (g := g) (row := none) bK_))
     replace HR184_0 := A_ (Kd.C_below (cC_ HR184_0.out) hb)
     replace HX184_0 := A_ (pw_cell_below hb HX184_0.out)
     replace HK := A_ (KeepBut.trans bK_ (KeepBut.of_below hb g none) (.inl rfl))
     replace HB := A_ (below_step bIQx31_ hb)
     replace HI0 := A_ (IsS60.below bIQx30_ hb)
     clear hb ho25
     obtain ⟨Ao26, co26, eo26⟩ := Kd.R_slice HO187.out
     (first | subst eo26 | (injection eo26 with f1_ f2_ f3_; have f4_ := f1_.symm; have f5_ := f3_.symm; clear f1_ f2_ f3_; subst f4_; subst f5_))
     refine hK.out _ _ (HS0_) (fun hHeld => ?_)
     clear hK K
     refine no_ (some 21) ?_
     refine on_ (i := 6) (N := some 22) (fun K hK => ?_)
     refine goes_ Tryz.func36 (by kernel_rfl) rfl #[.pointer (some ⟨g, 0, none⟩), .slice Ao26 y185.length co26] (by rfl) rfl rfl ml_ ?_
     with_reducible refine (spec_l1Int.calls g s0_0 t176 t177 _ _ y185 t188 t189 t190 w0 _ ?s1 ?s2 ?s3 ?s4 ?s5 A14.out).mono ?_
     (case s1 => exact bIQx30_)
     (case s2 => exact bIQx31_)
     (case s3 => exact cC_ (Kd.R_reads' HO187.out).2.2)
     (case s4 => exact (Kd.R_reads' HO187.out).2.1)
     (case s5 => exact far_slice (IsS60.own_ne HI0.out HO187.out (by decide)))
     rintro e w27 ⟨rfl, hi, hb, hk⟩
     have HS0_ := keep_cell hk (hHeld) (by first | (rw [add_block]; exact Kd.own_blk (IsS60.own_neS HI0.out HO172.out (by decide))) | (show (Addr.add _ _).block ≠ _; rw [add_block]; exact Kd.own_blk (IsS60.own_neS HI0.out HO172.out (by decide))) | exact Kd.own_blk (IsS60.own_neS HI0.out HO172.out (by decide)))
     refine ⟨_, rfl, ?_⟩
     replace HL184_0 := A_ (Kd.R_mono (Kd.R_keep (IsS60.apart (show IsS60 w0 _ g s0_0 t176 t177 from bIQx30_) (vR_ HL184_0.out) (by decide)) hk (fun _ h => h.2)) (fun _ h => h.1))
     replace HX184_0 := A_ (keep_cell hk HX184_0.out (by first | (rw [add_block]; exact Kd.own_blk (IsS60.own_neS HI0.out HO172.out (by decide))) | (show (Addr.add _ _).block ≠ _; rw [add_block]; exact Kd.own_blk (IsS60.own_neS HI0.out HO172.out (by decide))) | exact Kd.own_blk (IsS60.own_neS HI0.out HO172.out (by decide)) | (dsimp only; exact Kd.own_blk (IsS60.own_neS HI0.out HO172.out (by decide)))))
     replace HO172 := A_ (Kd.S_mono (Kd.S_keep (IsS60.apartS (show IsS60 w0 _ g s0_0 t176 t177 from bIQx30_) (vS_ HO172.out) (by decide)) hk (fun _ h => h.2)) (fun _ h => h.1))
     replace HO193 := A_ (Kd.R_mono (Kd.R_keep (IsS60.apart (show IsS60 w0 _ g s0_0 t176 t177 from bIQx30_) (vR_ HO193.out) (by decide)) hk (fun _ h => h.2)) (fun _ h => h.1))
     replace HO187 := A_ (Kd.R_mono (Kd.R_keep (IsS60.apart (show IsS60 w0 _ g s0_0 t176 t177 from bIQx30_) (vR_ HO187.out) (by decide)) hk (fun _ h => h.2)) (fun _ h => h.1))
     replace HK := A_ (KeepBut.trans bK_ hk (.inl rfl))
     replace HB := A_ (hb)
     replace HI0 := A_ (hi)
     (try clear hb)
     (try clear hb2)
     (try clear hk)
     (try clear hi)
     refine hK.out _ _ (HS0_) (fun hHeld => ?_)
     clear hK K
     refine no_ (some 22) ?_
     exact norm_ (by simp only [putAll, Act.put, List.setIfInBounds_toArray, List.set_cons_zero, List.set_cons_succ]) (hCont (.slice Ao26 y185.length co26, v192) _ ⟨hHeld, (by (with_reducible repeat (first | apply Kd.R_alloc | apply Kd.R_drewN | apply Kd.R_drew)); exact Kd.R_mono HL184_0.out (fun _ hk => hk.2)), (vS_ HO172.out), (vR_ HO187.out), (vR_ HO193.out), HX184_0.out, bIQx30_, bK_, bIQx31_⟩)
 rintro ⟨v186, v192⟩ w28 ⟨hS_, h0_, h1_, h2_, h3_, h4_, h5_, h6_, h7_⟩
 have n0_ : Aside0 (Kd.R k43 43 w28 w.heap.size (fun k_ => some k_ ≠ (.slice (some ad184) t170.length co21 : Value).ownBlock) (.slice A184_0 (rd_L5 t170 0).length c184_0) (rd_L5 t170 0)) := ⟨h0_⟩
 have n1_ : Aside0 (Kd.S (Kd.slice 43 k43) 41 w28 w.heap.size (fun _ => True) (.slice (some ad184) t170.length co21) t170) := ⟨h1_⟩
 have n2_ : Aside0 (Kd.R (Kd.int .i64) 3 w28 w.heap.size (fun _ => True) v186 y185) := ⟨h2_⟩
 have n3_ : Aside0 (Kd.R Kd.string 9 w28 w.heap.size (fun _ => True) v192 y191) := ⟨h3_⟩
 have n4_ : Aside0 (w28.cell? (ad184.add (0 : Int).toNat) = some (.slice A184_0 (rd_L5 t170 0).length c184_0)) := ⟨h4_⟩
 have n5_ : Aside0 (IsS60 w0 w28 g s0_0 t189 t190) := ⟨h5_⟩
 have n6_ : Aside0 (KeepBut w w28 g none) := ⟨h6_⟩
 have n7_ : Aside0 (Below w0.heap.size w0 w28) := ⟨h7_⟩
 clear HO172
 clear HI0
 clear HK
 clear HB
 clear h0_ h1_ h2_ h3_ h4_ h5_ h6_ h7_
 have HL184_0 := n0_
 have HO172 := n1_
 have HO187 := n2_
 have HO193 := n3_
 have HX184_0 := n4_
 have HI0 := n5_
 have HK := n6_
 have HB := n7_
 clear n0_ n1_ n2_ n3_ n4_ n5_ n6_ n7_
 have hHeld : w28.cell? ad184 = some (.slice A184_0 (rd_L5 t170 0).length c184_0) := hS_
 obtain ⟨Ao29, co29, eo29⟩ := Kd.R_slice HO193.out
 (first | subst eo29 | (injection eo29 with f1_ f2_ f3_; have f4_ := f1_.symm; have f5_ := f3_.symm; clear f1_ f2_ f3_; subst f4_; subst f5_))
 refine norm_ (a' := ?_) ?_ ?_
 rotate_left
 · simp only [putAll, Act.put, List.setIfInBounds_toArray, List.set_cons_zero, List.set_cons_succ]
   rfl
 refine on_ (i := 9) (N := some 25) (fun K hK => ?_)
 refine goes_ Tryz.func26 (by kernel_rfl) rfl #[.pointer (some ⟨g, 0, none⟩), .slice Ao29 y191.length co29] (by rfl) rfl rfl ml_ ?_
 with_reducible refine (spec_l1Str.calls g s0_0 t189 t190 _ _ y191 t194 t195 t196 w0 _ ?s1 ?s2 ?s3 ?s4 ?s5 A15.out).mono ?_
 (case s1 => exact bIQx30_)
 (case s2 => exact bIQx31_)
 (case s3 => exact cC_ (Kd.R_reads' HO193.out).2.2)
 (case s4 => exact (Kd.R_reads' HO193.out).2.1)
 (case s5 => exact far_slice (IsS60.own_ne HI0.out HO193.out (by decide)))
 rintro e w30 ⟨rfl, hi, hb, hk⟩
 have HS0_ := keep_cell hk (hHeld) (by first | (rw [add_block]; exact Kd.own_blk (IsS60.own_neS HI0.out HO172.out (by decide))) | (show (Addr.add _ _).block ≠ _; rw [add_block]; exact Kd.own_blk (IsS60.own_neS HI0.out HO172.out (by decide))) | exact Kd.own_blk (IsS60.own_neS HI0.out HO172.out (by decide)))
 refine ⟨_, rfl, ?_⟩
 replace HL184_0 := A_ (Kd.R_mono (Kd.R_keep (IsS60.apart (show IsS60 w0 _ g s0_0 t189 t190 from bIQx30_) (vR_ HL184_0.out) (by decide)) hk (fun _ h => h.2)) (fun _ h => h.1))
 replace HX184_0 := A_ (keep_cell hk HX184_0.out (by first | (rw [add_block]; exact Kd.own_blk (IsS60.own_neS HI0.out HO172.out (by decide))) | (show (Addr.add _ _).block ≠ _; rw [add_block]; exact Kd.own_blk (IsS60.own_neS HI0.out HO172.out (by decide))) | exact Kd.own_blk (IsS60.own_neS HI0.out HO172.out (by decide)) | (dsimp only; exact Kd.own_blk (IsS60.own_neS HI0.out HO172.out (by decide)))))
 replace HO172 := A_ (Kd.S_mono (Kd.S_keep (IsS60.apartS (show IsS60 w0 _ g s0_0 t189 t190 from bIQx30_) (vS_ HO172.out) (by decide)) hk (fun _ h => h.2)) (fun _ h => h.1))
 replace HO187 := A_ (Kd.R_mono (Kd.R_keep (IsS60.apart (show IsS60 w0 _ g s0_0 t189 t190 from bIQx30_) (vR_ HO187.out) (by decide)) hk (fun _ h => h.2)) (fun _ h => h.1))
 replace HO193 := A_ (Kd.R_mono (Kd.R_keep (IsS60.apart (show IsS60 w0 _ g s0_0 t189 t190 from bIQx30_) (vR_ HO193.out) (by decide)) hk (fun _ h => h.2)) (fun _ h => h.1))
 replace HK := A_ (KeepBut.trans bK_ hk (.inl rfl))
 replace HB := A_ (hb)
 replace HI0 := A_ (hi)
 (try clear hb)
 (try clear hb2)
 (try clear hk)
 (try clear hi)
 obtain ⟨go31, co31, eo31, gb31, gl31, cl31, HG31⟩ := Kd.S_form HO172.out (by have h_ : (0 : Int) < ((t170.length : Int) : Int) := od_; have h2_ : 0 ≤ (0 : Int) := (by omega); omega)
 (first | cases eo31 | (injection eo31 with ea_ en_ ec_; (first | subst ea_ | (injection ea_ with ea_; subst ea_)); subst ec_; clear en_))
 have GB31 := A_ gb31
 have GG31 := A_ HG31
 clear gb31 gl31 HG31
 (first | simp only [add_plain] at hx184_0 | skip)
 obtain ⟨oki31, ce31, hcl31, hM31, hcc31, _, _, hH31⟩ := Kd.S_elem HO172.out [] (0 : Int) (by omega) (by have h_ : (0 : Int) < ((t170.length : Int) : Int) := od_; first | exact h_ | (have e_ := (Kd.S_reads' HO172.out).1; omega) | simpa using h_)
 obtain ⟨ve31_0, rfl, ge31_0⟩ := hM31
 have hv31 := hcc31 0 _ rfl
 have hX31 := HX184_0.out
 (try simp only [add_plain] at hX31)
 (try simp only [Nat.add_zero] at hv31)
 (try rw [show ((Kd.slice 43 k43)).sz = 1 from rfl, Nat.mul_one] at hv31)
 replace hv31 := Option.some.inj (hv31.symm.trans hX31)
 subst hv31
 clear hX31 hcc31 hcl31
 have UU31 := A_ (show Kd.R k43 43 _ w.heap.size oki31 (.slice A184_0 (rd_L5 t170 0).length c184_0) (rd_L5 t170 0) from ge31_0)
 have HH31 := A_ hH31
 have HN31 := A_ (Kd.S_reads' HO172.out).1
 clear hH31 ge31_0
 refine hK.out _ _ (HS0_) (fun hHeld => ?_)
 clear hK K
 refine no_ (some 25) ?_
 refine pu_ (i := 10) (N := some 26) ?_
 refine on_ (i := 11) (N := some 27) (fun K hK => ?_)
 refine value_ (w1 := ?_) (v := ?_) (by rfl) rfl ?_ ?_
 rotate_left 2
 · go_simp
   constructor
   · rfl
   · rfl
 refine hK.out _ _ ((World.cell?_alloc_lt _ _ _ (World.block_lt_of_cell? _ _ (hHeld))).trans (hHeld)) (fun hHeld => ?_)
 clear hK K
 refine no_ (some 27) ?_
 refine on_ (i := 12) (N := some 28) (fun K hK => ?_)
 refine Kd.R_append_step k43 w.heap.size (by rfl) (.tmp 19) (.tmp 27) 41 43 (.agg #[(.bool false), (.int .i64 0), (.string ⟨#[]⟩)]) 32 rfl Tryz.underlying41 info43 rfl (by decide) (by omega) (.slice A184_0 (rd_L5 t170 0).length c184_0) (rd_L5 t170 0) (⟨false, t188, t194⟩ : S43) [.bool false, .int .i64 t188, .string t194] (fun k_ => oki31 k_ ∨ ((fun _ => True)) k_ ∧ w30.heap.size ≤ k_) (fun _ => False) rfl rfl ?aP (fun _ hk => hk.elim) ?aF ?aO (Below.refl _ _) ?aS ?aL ?_
 (case aP => exact k43_mkM _ _ _ (⟨false, t188, t194⟩ : S43))
 (case aF => exact (fun k_ hk => .inr ⟨trivial, hk⟩))
 (case aO => exact (by (with_reducible repeat (first | apply Kd.R_alloc | apply Kd.R_drewN | apply Kd.R_drew)); exact Kd.R_mono UU31.out (fun _ hk => .inl hk)))
 (case aS => exact (keep_size (w := w) (g := g) (row := none) bK_))
 (case aL => have := LMc16.out; omega)
 intro v198 w32 ho hb hg hat
 (first | have HS0_ := cell_grown hg (hHeld) (by first | (rw [add_block]; exact (fun e_ => ((HL184_0.out.1 _ e_.symm)) rfl)) | (show some (Addr.add _ _).block ≠ _; rw [add_block]; exact (fun e_ => ((HL184_0.out.1 _ e_.symm)) rfl)) | exact (fun e_ => ((HL184_0.out.1 _ e_.symm)) rfl)) | have HS0_ := cell_grown hg (cell_unalloc (hHeld) (by first | (rw [add_block]; exact Kd.S_lt HO172.out _ rfl) | (show (Addr.add _ _).block < _; rw [add_block]; exact Kd.S_lt HO172.out _ rfl) | exact Kd.S_lt HO172.out _ rfl)) (by first | (rw [add_block]; exact (fun e_ => ((HL184_0.out.1 _ e_.symm)) rfl)) | (show some (Addr.add _ _).block ≠ _; rw [add_block]; exact (fun e_ => ((HL184_0.out.1 _ e_.symm)) rfl)) | exact (fun e_ => ((HL184_0.out.1 _ e_.symm)) rfl)))
 rw [← Ny197.out] at ho
 replace HO187 := A_ (Kd.R_over' (v := (.slice A184_0 (rd_L5 t170 0).length c184_0)) (vR_ HO187.out) (Kd.R_typed HL184_0.out) (by decide) hg)
 replace HO193 := A_ (Kd.R_over' (v := (.slice A184_0 (rd_L5 t170 0).length c184_0)) (vR_ HO193.out) (Kd.R_typed HL184_0.out) (by decide) hg)
 replace HB := A_ (below_weaken bIQx31_ HL.out hb)
 replace HI0 := A_ (IsS60.grown bIQx30_ hg (IsS60.own_ne HI0.out HL184_0.out (by decide)))
 replace HK := A_ (KeepBut.trans bK_ (KeepBut.of_grown hg g) (Kd.R_base2 HL184_0.out))
 replace HH31 := A_ (Kd.H_grown (Kd.H_widen (by repeat (first | exact HH31.out | refine Kd.H_alloc ?_ _ | refine Kd.H_drewN ?_ _ | refine Kd.H_drew ?_))) hg (fun k_ e_ => .inl (UU31.out.1 k_ e_)))
 have HO199 := A_ (ho)
 clear HO172 UU31 HL184_0
 clear ho hb hg hat
 have p17 : 0 ≤ (0 : Int) := (by omega)
 have q17 : (0 : Int) < ((t170.length : Int) : Int) := od_
 replace p17 := eq_true p17
 replace q17 := eq_true q17
 obtain ⟨Ao35, co35, eo35⟩ := Kd.R_slice HO199.out
 (first | subst eo35 | (injection eo35 with f1_ f2_ f3_; have f4_ := f1_.symm; have f5_ := f3_.symm; clear f1_ f2_ f3_; subst f4_; subst f5_))
 obtain ⟨_, _, hraw33, _, _, hcc33, _⟩ := Kd.H_raw HH31.out (by omega) (by have h_ : (0 : Int) < ((t170.length : Int) : Int) := od_; first | exact h_ | (have e_ := (HN31.out); omega) | simpa using h_)
 obtain ⟨_, hfr33⟩ := Kd.H_at HH31.out (by omega) (by have h_ : (0 : Int) < ((t170.length : Int) : Int) := od_; first | exact h_ | (have e_ := (HN31.out); omega) | simpa using h_)
 have hx33_0 := hcc33 0 _ rfl
 have hf33_0 := hfr33 0
 (try simp only [Nat.add_zero] at hx33_0 hf33_0)
 (try rw [show ((Kd.slice 43 k43)).sz = 1 from rfl, Nat.mul_one] at hx33_0)
 (try rw [show ((Kd.slice 43 k43)).sz = 1 from rfl, Nat.mul_one] at hf33_0)
 (try rw [show ((0 : Int)).toNat = 0 from rfl] at hx33_0)
 (try simp only [Nat.reduceMul, Nat.zero_mul, Nat.zero_add, Nat.reduceAdd] at hx33_0)
 (try rw [show ((0 : Int)).toNat = 0 from rfl] at hf33_0)
 (try simp only [Nat.reduceMul, Nat.zero_mul, Nat.zero_add, Nat.reduceAdd] at hf33_0)
 have HP33 := Kd.S_seg0 HH31.out (by omega) (by have h_ : (0 : Int) < ((t170.length : Int) : Int) := od_; first | exact h_ | (have e_ := (HN31.out); omega) | simpa using h_) (seg := [.slice Ao35 y197.length co35]) (j := 0) (show 1 ≤ 1 from by decide) (x' := y197) (Kd.M_row HO199.out) (fun _ hk => hk)
 (try simp only [show ((Kd.slice 43 k43)).sz = 1 from rfl, Nat.mul_one, Nat.add_zero] at HP33)
 clear hcc33 hfr33
 have HN0_go31 := A_ (show g ≠ go31 from by have h_ := IsS60.own_ne HI0.out hraw33 (by decide); intro e_; exact h_ (by rw [e_]; rfl))
 have HS33 := HP33.1
 rw [← Ny200.out] at HS33
 have HQ33 := A_ HS33
 obtain ⟨_, hgg33⟩ := Kd.R_typed hraw33 go31 rfl
 have GG33_ := A_ hgg33
 clear HP33 HS33 hgg33
 refine hK.out _ _ (HS0_) (fun hHeld => ?_)
 clear hK K
 refine no_ (some 28) ?_
 refine pu_ (i := 13) (N := some 29) ?_
 refine last_ (i := 14) (N := none) #[true, true, true, true, true, true, true, true, true, true, true, true, true, true, true] rfl rfl (one_of HT_.out (by kernel_rfl)) (by decide) (fun K hK => ?_)
 refine skip_ (w1 := ?_) (by rfl) rfl ?_ ?_
 rotate_left
 · go_simp
   rfl
 refine hK.out _ _ ?_
 clear hK K
 refine done_ (done_of HT_.out (by kernel_rfl)) ?_
 (try clear hHeld)
 try go_wp2
 go_ret
 exact ⟨_, rr_, by (with_reducible repeat (first | apply Kd.S_alloc | apply Kd.S_drewN | apply Kd.S_drew)); exact HQ33.out, by repeat (first | (with_reducible first | exact HI0.out | apply IsS60.alloc | apply IsS60.drewN | apply IsS60.drew | apply IsS60.set_1 | apply IsS60.set_2 | refine IsS60.far ?_ HN0_go31.out _) | exact HI0.out), by repeat (first | (with_reducible first | exact HB.out | apply below_alloc | apply pw_below_drewN | apply below_drew1 | refine below_set ?_ (Nat.le_trans HL.out GB31.out) | refine below_set ?_ (IsS60.ge HI0.out)) | exact HB.out), by repeat (first | (with_reducible first | exact HK.out | apply KeepBut.set_ | apply keep_drewN | apply keep_drew | apply keep_alloc | refine keep_far ?_ GB31.out _) | exact HK.out)⟩
end Go.Proofs.YtigoeooelfeopaaGreatDoor.Q
