/- Printed walks. No condition. -/
import Derived.Test.YtbgggcgjijljkaaVFnCopiedG28
namespace Go.Proofs.Ytbgggcgjijljkaa.Q
open Go.RowKit Go.Proofs.YtbgggcgjijljkaaW.PrintWords Go.Proofs.YtbgggcgjijljkaaW.PrintLast Go.Proofs.YtbgggcgjijljkaaW.PrintMore
attribute [local go_sem] max2_int min2_int max_two min_two max_three min_three max_four min_four
set_option linter.unusedVariables false
set_option linter.unusedSimpArgs false
theorem bIHDraw1_ {P : Prop} (h : P := by repeat (first | (with_reducible first | exact HB.out | apply below_alloc | apply pw_below_drewN | apply below_drew1 | refine below_set ?_ (IsS116.ge HI0.out)) | exact HB.out)) : P := h
theorem bIHDraw2_ {P : Prop} (h : P := by repeat (first | (with_reducible first | exact HI0.out | apply IsS116.alloc | apply IsS116.drewN | apply IsS116.drew | apply IsS116.set_1 | apply IsS116.set_2) | exact HI0.out)) : P := h
theorem spec_PutFile.calls (k : Nat) (A0 : Option Addr) (c0 : Nat) (l0 : List (S57)) (A1 : Option Addr) (c1 : Nat) (l1 : List ByteArray) (a2 : ByteArray) (a3 : Int) (r1 : List (S57)) (r2 : Int) (w : World) (hr0 : Kd.C k57 w A0 l0.length l0) (hc0 : l0.length <= c0) (hr1 : Kd.C Kd.string w A1 l1.length l1) (hc1 : l1.length <= c1) (h : spec_PutFile.f k l0 l1 a2 a3 = some (r1, r2)) :
 Calls Try.prog 26 #[.slice A0 l0.length c0, .slice A1 l1.length c1, .string a2, .int .i64 a3] w fun e w' => ∃ v0_ : Value, e = .returned (.tuple #[v0_, .int .i64 r2]) /\ Kd.S k57 57 w' w.heap.size (fun _ => True) v0_ r1 /\ Below w.heap.size w w' := by
 exact spec_PutFileX.calls k A0 c0 l0 A1 c1 l1 a2 a3 r1 r2 w hr0 hc0 hr1 hc1 h
set_option maxHeartbeats 16000000 in
set_option maxRecDepth 100000 in
theorem spec_l10Draw.calls (k : Nat) (g : Nat) (s0_0 : List Int) (s0_1 : Int) (s0_2 : Int) (r1 : List (S57)) (r2 : Int) (r3 : Int) (w0 w : World) (hI : IsS116 w0 w g s0_0 s0_1 s0_2) (hB : Below w0.heap.size w0 w) (h : spec_l10Draw.f k s0_0 s0_1 s0_2 = some (r1, r2, r3)) :
 Calls Try.prog 85 #[.pointer (some ⟨g, 0, none⟩)] w fun e w' => ∃ v0_ : Value, e = .returned (v0_) /\ Kd.S k57 57 w' w.heap.size (fun _ => True) v0_ r1 /\ IsS116 w0 w' g s0_0 r2 r3 /\ Below w0.heap.size w0 w' /\ KeepBut w w' g none := by
 have HI0 := A_ hI
 have HK := A_ (KeepBut.refl w g none)
 have HL := A_ hB.size
 clear hI
 have HW0 := A_ hB.size
 have HB := A_ hB
 clear hB
 have H : ((spec_l1Below.f s0_0 s0_1 s0_2 10).bind fun bt49 => (spec_l10Draw.l0 k (([] : List (S57))) bt49.1 s0_0 bt49.2.1 bt49.2.2)) = some (r1, r2, r3) := h
 clear h
 obtain ⟨y51, hy51⟩ : ∃ y_ : List (S57), y_ = (([] : List (S57))) := ⟨_, rfl⟩
 replace H : ((spec_l1Below.f s0_0 s0_1 s0_2 10).bind fun bt49 => (spec_l10Draw.l0 k y51 bt49.1 s0_0 bt49.2.1 bt49.2.2)) = some (r1, r2, r3) := hy_ hy51 H
 have Ny51 := A_ hy51
 clear hy51
 obtain ⟨⟨t49, t74, t75⟩, A2, H⟩ := bo_ H
 (try dsimp only at H)
 have H' := A_ H
 clear H
 go_enter Try.func85, Try.ntmps85
 go_wp2_with (first | ((with_reducible refine gd_ (N := 6) rfl ?_); refine Kd.S_lit k57 _ 57 ?hg (N := 6) ?hd (xs := ([] : List (S57))) (inner := []) (ok := fun _ => True) (okp := fun _ => True) ?hr ?hp (fun _ hk => hk) trivial (Below.refl _ _) (Nat.le_refl _) (by simp) ?_; (case hd => rfl); (case hg => rfl); (case hr => first | (go_simp; done) | (go_simp; rfl)); (case hp => exact (Reps.none _ _)); intro v89 w3 ho4 hb hg_ hnew_; clear hg_ hnew_; (first | rw [← Ny51.out] at ho4 | (simp only [Int.reduceToNat] at ho4; rw [← Ny51.out] at ho4)); have HO68 := A_ (Kd.S_lower ho4 (keep_size (w := w) (g := g) (row := none) bK_)); replace HK := A_ (KeepBut.trans bK_ (KeepBut.of_below hb g none) (.inl rfl)); replace HB := A_ (below_step bIHDraw1_ hb); replace HI0 := A_ (IsS116.below bIHDraw2_ hb); clear hb ho4) | ((with_reducible refine gc_ (f := 117) rfl ?_); refine gL_ (some 8) Try.func117 #[.pointer (some ⟨g, 0, none⟩), .int .i64 10] ?_; (with_reducible refine (spec_l1Below.calls g s0_0 s0_1 s0_2 10 t49 t74 t75 w0 _ ?s1 ?s2 A2.out).mono ?_); (case s1 => exact bIHDraw2_); (case s2 => exact bIHDraw1_); rintro e w5 ⟨rfl, hi, hb, hk⟩; refine ⟨_, rfl, ?_⟩; replace HO68 := A_ (Kd.S_mono (Kd.S_keep (IsS116.apartS (show IsS116 w0 _ g s0_0 s0_1 s0_2 from bIHDraw2_) (vS_ HO68.out) (by decide)) hk (fun _ h => h.2)) (fun _ h => h.1)); replace HK := A_ (KeepBut.trans bK_ hk (.inl rfl)); replace HB := A_ (hb); replace HI0 := A_ (hi); clear hb hk hi))
 go_loopg [3, 4] k (fun kq v3 v4 w' => ∃ (x3_1 : List (S57)) (x4_1 : Int) (x1001_1 : Int) (x1002_1 : Int), v4 = .int .i64 x4_1 /\ Aside0 (spec_l10Draw.l0 kq x3_1 x4_1 s0_0 x1001_1 x1002_1 = some (r1, r2, r3)) /\ Aside0 (kq <= k) /\ Aside0 (Kd.S k57 57 w' w.heap.size (fun _ => True) v3 x3_1) /\ Aside0 (IsS116 w0 w' g s0_0 x1001_1 x1002_1) /\ Aside0 (KeepBut w w' g none) /\ Aside0 (Below w0.heap.size w0 w'))
 case atStart => exact ⟨(y51), (t49), (t74), (t75), rs_, H', ⟨Nat.le_refl _⟩, ⟨vS_ HO68.out⟩, ⟨bIHDraw2_⟩, ⟨bK_⟩, ⟨bIHDraw1_⟩⟩
 case round =>
  clear H'
  obtain ⟨x3_1, x4_1, x1001_1, x1002_1, rfl, HA, HK1, HO_3, HI0, HK, HB⟩ := hrel
  cases gk with
  | zero => exact absurd HA.out (by simp [spec_l10Draw.l0])
  | succ k1 =>
   have H := HA.out
   clear HA
   simp only [spec_l10Draw.l0] at H
   by_cases c6 : x4_1 > 0
   rotate_left
   . rw [if_neg c6] at H
     have c6b0 : decide (0 < x4_1) = false := decide_eq_false c6
     clear c6
     simp only [Option.some.injEq, Prod.mk.injEq] at H
     obtain ⟨rfl, rfl, rfl⟩ := H
     go_wp2
     go_ret
     exact ⟨_, rr_, vS_ HO_3.out, bIHDraw2_, bIHDraw1_, bK_⟩
   rw [if_pos c6] at H
   have c6b0 : decide (0 < x4_1) = true := decide_eq_true c6
   clear c6
   obtain ⟨⟨t56, t63, t65⟩, A7, H⟩ := bo_ H
   (try dsimp only at H)
   obtain ⟨⟨t76, t52, t53⟩, A8, H⟩ := bo_ H
   (try dsimp only at H)
   have HC9 := A_ H
   clear H
   obtain ⟨Ao10, co10, eo10⟩ := Kd.S_slice HO_3.out
   subst eo10
   go_upto_if 17 with (first | ((with_reducible refine gc_ (f := 86) rfl ?_); refine gL_ (some 15) Try.func86 #[.pointer (some ⟨g, 0, none⟩), .slice Ao10 x3_1.length co10] ?_; (with_reducible refine (spec_l10Path.calls k1 g s0_0 x1001_1 x1002_1 _ _ x3_1 t56 t63 t65 w0 _ ?s1 ?s2 ?s3 ?s4 A7.out).mono ?_); (case s1 => exact bIHDraw2_); (case s2 => exact bIHDraw1_); (case s3 => exact Kd.C_foot_own ((Kd.S_R (IsS116.apartS (show IsS116 w0 _ g s0_0 x1001_1 x1002_1 from bIHDraw2_) (vS_ HO_3.out) (by decide)))) (fun _ h_ => h_.2)); (case s4 => exact (Kd.S_reads' HO_3.out).2.1); rintro e w11 ⟨v90, rfl, ho0, hi, hb, hk⟩; refine ⟨_, rfl, ?_⟩; replace HO_3 := A_ (Kd.S_mono (Kd.S_told (Kd.S_oldK (IsS116.apartS (show IsS116 w0 _ g s0_0 x1001_1 x1002_1 from bIHDraw2_) (vS_ HO_3.out) (by decide)) hk) (kb_ ho0)) (fun _ h_ => h_.1)); have HO48 := A_ (Kd.R_lower ho0 (keep_size (w := w) (g := g) (row := none) bK_)); replace HK := A_ (KeepBut.trans bK_ hk (.inl rfl)); replace HB := A_ (hb); replace HI0 := A_ (hi); clear hb hk hi ho0) | ((with_reducible refine gc_ (f := 118) rfl ?_); refine gL_ (some 17) Try.func118 #[.pointer (some ⟨g, 0, none⟩), .int .i64 2] ?_; (with_reducible refine (spec_l1Once.calls g s0_0 t63 t65 2 t76 t52 t53 w0 _ ?s1 ?s2 A8.out).mono ?_); (case s1 => exact bIHDraw2_); (case s2 => exact bIHDraw1_); rintro e w12 ⟨rfl, hi, hb, hk⟩; refine ⟨_, rfl, ?_⟩; replace HO_3 := A_ (Kd.S_mono (Kd.S_keep (IsS116.apartS (show IsS116 w0 _ g s0_0 t63 t65 from bIHDraw2_) (vS_ HO_3.out) (by decide)) hk (fun _ h => h.2)) (fun _ h => h.1)); replace HO48 := A_ (Kd.R_mono (Kd.R_keep (IsS116.apart (show IsS116 w0 _ g s0_0 t63 t65 from bIHDraw2_) (vR_ HO48.out) (by decide)) hk (fun _ h => h.2)) (fun _ h => h.1)); replace HK := A_ (KeepBut.trans bK_ hk (.inl rfl)); replace HB := A_ (hb); replace HI0 := A_ (hi); clear hb hk hi))
   (try simp only [Act.put, List.setIfInBounds_toArray, List.set_cons_zero, List.set_cons_succ])
   go_cut [3] (fun v3 wc => ∃ (kq : Nat) (x3_8 : List (S57)) (x1001_8 : Int) (x1002_8 : Int), Aside0 (spec_l10Draw.j1 kq x3_8 x4_1 s0_0 x1001_8 x1002_8 = some (r1, r2, r3)) /\ Aside0 (kq <= k1) /\ Aside0 (Kd.S k57 57 wc w.heap.size (fun _ => True) v3 x3_8) /\ Aside0 (IsS116 w0 wc g s0_0 x1001_8 x1002_8) /\ Aside0 (KeepBut w wc g none) /\ Aside0 (Below w0.heap.size w0 wc))
   case first =>
    have H := HC9.out
    clear HC9
    by_cases c13 : t76 = true
    . subst c13
      rw [if_pos rfl] at H
      obtain ⟨⟨t69, t77, t78⟩, A14, H⟩ := bo_ H
      (try dsimp only at H)
      obtain ⟨⟨t79, t85⟩, A15, H⟩ := bo_ H
      (try dsimp only at H)
      have H' := A_ H
      clear H
      go_wp2_with (first | ((with_reducible refine gc_ (f := 117) rfl ?_); refine gL_ (some 22) Try.func117 #[.pointer (some ⟨g, 0, none⟩), .int .i64 9] ?_; (with_reducible refine (spec_l1Below.calls g s0_0 t52 t53 9 t69 t77 t78 w0 _ ?s1 ?s2 A14.out).mono ?_); (case s1 => exact bIHDraw2_); (case s2 => exact bIHDraw1_); rintro e w16 ⟨rfl, hi, hb, hk⟩; refine ⟨_, rfl, ?_⟩; replace HO_3 := A_ (Kd.S_mono (Kd.S_keep (IsS116.apartS (show IsS116 w0 _ g s0_0 t52 t53 from bIHDraw2_) (vS_ HO_3.out) (by decide)) hk (fun _ h => h.2)) (fun _ h => h.1)); replace HO48 := A_ (Kd.R_mono (Kd.R_keep (IsS116.apart (show IsS116 w0 _ g s0_0 t52 t53 from bIHDraw2_) (vR_ HO48.out) (by decide)) hk (fun _ h => h.2)) (fun _ h => h.1)); replace HK := A_ (KeepBut.trans bK_ hk (.inl rfl)); replace HB := A_ (hb); replace HI0 := A_ (hi); clear hb hk hi; obtain ⟨Ao17, co17, eo17⟩ := Kd.R_slice HO48.out; subst eo17) | ((with_reducible refine gc_ (f := 24) rfl ?_); refine gL_ (some 23) Try.func24 #[.slice Ao10 x3_1.length co10, .slice Ao17 t56.length co17, .int .i64 t69] ?_; (with_reducible refine (spec_MakeColl.calls k1 (fun k_ => ((True /\ some k_ ≠ (.slice Ao17 t56.length co17 : Value).ownBlock) /\ k_ ≠ g)) _ _ x3_1 (fun k_ => some k_ = (.slice Ao17 t56.length co17 : Value).ownBlock) _ _ t56 t69 t79 t85 _ ?s1 ?s2 A15.out).mono ?_); (case s1 => exact Kd.S_V (IsS116.apartS HI0.out (HO_3.out) (by decide))); (case s2 => exact Kd.R_V (Kd.R_tight rfl (IsS116.apart HI0.out (Kd.R_apart' (HO48.out) (Kd.S_typed HO_3.out) (by decide)) (by decide)))); rintro e w18 ⟨v91, rfl, ho0, hb⟩; refine ⟨_, rfl, ?_⟩; have HO86 := A_ (Kd.S_lower (Kd.S_new' (Kd.S_new' (Kd.S_mono (ok' := fun k_ => True) ho0 (fun _ hk_ => trivial)) (Kd.S_lt (vS_ HO_3.out))) (Kd.R_lt (vR_ HO48.out))) (keep_size (w := w) (g := g) (row := none) bK_)); replace HK := A_ (KeepBut.trans bK_ (KeepBut.of_below hb g none) (.inl rfl)); replace HB := A_ (below_step bIHDraw1_ hb); replace HI0 := A_ (IsS116.below bIHDraw2_ hb); (try clear hb); (try clear hk); (try clear hi); (try clear ho0)))
      go_meet
      case rel => exact ⟨_, (t79), (t77), (t78), H', ⟨by have := HK1.out; first | omega | exact Nat.le_refl _⟩, ⟨by (with_reducible repeat (first | apply Kd.S_alloc | apply Kd.S_drewN | apply Kd.S_drew)); exact Kd.S_mono HO86.out (fun _ hk => trivial)⟩, ⟨bIHDraw2_⟩, ⟨bK_⟩, ⟨bIHDraw1_⟩⟩
    . replace c13 := Bool.eq_false_iff.mpr c13
      subst c13
      rw [if_neg nf_] at H
      obtain ⟨y50, hy50⟩ : ∃ y_ : List ByteArray, y_ = (([(⟨#[]⟩ : ByteArray), (⟨#[120]⟩ : ByteArray), (⟨#[104, 101, 108, 108, 111]⟩ : ByteArray)] : List ByteArray)) := ⟨_, rfl⟩
      replace H : ((spec_l1Str.f s0_0 t52 t53 y50).bind fun bt59 => ((spec_l1Below.f s0_0 bt59.2.1 bt59.2.2 9).bind fun bt60 => ((spec_PutFile.f k1 x3_1 t56 bt59.1 bt60.1).bind fun bt66 => (spec_l10Draw.j1 k1 bt66.1 x4_1 s0_0 bt60.2.1 bt60.2.2)))) = some (r1, r2, r3) := hy_ hy50 H
      have Ny50 := A_ hy50
      clear hy50
      obtain ⟨⟨t59, t61, t62⟩, A19, H⟩ := bo_ H
      (try dsimp only at H)
      obtain ⟨⟨t60, t80, t81⟩, A20, H⟩ := bo_ H
      (try dsimp only at H)
      obtain ⟨⟨t66, t87⟩, A21, H⟩ := bo_ H
      (try dsimp only at H)
      have H' := A_ H
      clear H
      go_wp2_with (first | ((with_reducible refine gd_ (N := 30) rfl ?_); refine Kd.R_lit Kd.string _ 9 ?hg (N := 30) ?hd (xs := ([(⟨#[]⟩ : ByteArray), (⟨#[120]⟩ : ByteArray), (⟨#[104, 101, 108, 108, 111]⟩ : ByteArray)] : List ByteArray)) (inner := [.string (⟨#[]⟩ : ByteArray), .string (⟨#[120]⟩ : ByteArray), .string (⟨#[104, 101, 108, 108, 111]⟩ : ByteArray)]) (ok := fun _ => True) (okp := fun _ => True) ?hr ?hp (fun _ hk => hk) trivial (Below.refl _ _) (Nat.le_refl _) (by simp) ?_; (case hd => rfl); (case hg => rfl); (case hr => first | (go_simp; done) | (go_simp; rfl)); (case hp => exact (Reps.one (show Kd.M Kd.string _ _ _ (⟨#[]⟩ : ByteArray) [.string (⟨#[]⟩ : ByteArray)] from rfl) (Reps.one (show Kd.M Kd.string _ _ _ (⟨#[120]⟩ : ByteArray) [.string (⟨#[120]⟩ : ByteArray)] from rfl) (Reps.one (show Kd.M Kd.string _ _ _ (⟨#[104, 101, 108, 108, 111]⟩ : ByteArray) [.string (⟨#[104, 101, 108, 108, 111]⟩ : ByteArray)] from rfl) (Reps.none _ _))))); intro v92 w22 ho23 hb hg_ hnew_; clear hg_ hnew_; (first | rw [← Ny50.out] at ho23 | (simp only [Int.reduceToNat] at ho23; rw [← Ny50.out] at ho23)); replace HO_3 := A_ (Kd.S_elder' (vS_ HO_3.out) (kb_ ho23) hb); have HO54 := A_ (Kd.R_lower (Kd.R_new' ho23 (Kd.R_lt (vR_ HO48.out))) (keep_size (w := w) (g := g) (row := none) bK_)); replace HO48 := A_ (Kd.R_elder' (vR_ HO48.out) (kb_ ho23) hb); replace HK := A_ (KeepBut.trans bK_ (KeepBut.of_below hb g none) (.inl rfl)); replace HB := A_ (below_step bIHDraw1_ hb); replace HI0 := A_ (IsS116.below bIHDraw2_ hb); clear hb ho23; obtain ⟨Ao24, co24, eo24⟩ := Kd.R_slice HO54.out; subst eo24) | ((with_reducible refine gc_ (f := 99) rfl ?_); refine gL_ (some 31) Try.func99 #[.pointer (some ⟨g, 0, none⟩), .slice Ao24 y50.length co24] ?_; (with_reducible refine (spec_l1Str.calls g s0_0 t52 t53 _ _ y50 t59 t61 t62 w0 _ ?s1 ?s2 ?s3 ?s4 ?s5 A19.out).mono ?_); (case s1 => exact bIHDraw2_); (case s2 => exact bIHDraw1_); (case s3 => exact cC_ (Kd.R_reads' HO54.out).2.2); (case s4 => exact (Kd.R_reads' HO54.out).2.1); (case s5 => exact far_slice (IsS116.own_ne HI0.out HO54.out (by decide))); rintro e w25 ⟨rfl, hi, hb, hk⟩; refine ⟨_, rfl, ?_⟩; replace HO_3 := A_ (Kd.S_mono (Kd.S_keep (IsS116.apartS (show IsS116 w0 _ g s0_0 t52 t53 from bIHDraw2_) (vS_ HO_3.out) (by decide)) hk (fun _ h => h.2)) (fun _ h => h.1)); replace HO48 := A_ (Kd.R_mono (Kd.R_keep (IsS116.apart (show IsS116 w0 _ g s0_0 t52 t53 from bIHDraw2_) (vR_ HO48.out) (by decide)) hk (fun _ h => h.2)) (fun _ h => h.1)); replace HO54 := A_ (Kd.R_mono (Kd.R_keep (IsS116.apart (show IsS116 w0 _ g s0_0 t52 t53 from bIHDraw2_) (vR_ HO54.out) (by decide)) hk (fun _ h => h.2)) (fun _ h => h.1)); replace HK := A_ (KeepBut.trans bK_ hk (.inl rfl)); replace HB := A_ (hb); replace HI0 := A_ (hi); clear hb hk hi) | ((with_reducible refine gc_ (f := 117) rfl ?_); refine gL_ (some 33) Try.func117 #[.pointer (some ⟨g, 0, none⟩), .int .i64 9] ?_; (with_reducible refine (spec_l1Below.calls g s0_0 t61 t62 9 t60 t80 t81 w0 _ ?s1 ?s2 A20.out).mono ?_); (case s1 => exact bIHDraw2_); (case s2 => exact bIHDraw1_); rintro e w26 ⟨rfl, hi, hb, hk⟩; refine ⟨_, rfl, ?_⟩; replace HO_3 := A_ (Kd.S_mono (Kd.S_keep (IsS116.apartS (show IsS116 w0 _ g s0_0 t61 t62 from bIHDraw2_) (vS_ HO_3.out) (by decide)) hk (fun _ h => h.2)) (fun _ h => h.1)); replace HO48 := A_ (Kd.R_mono (Kd.R_keep (IsS116.apart (show IsS116 w0 _ g s0_0 t61 t62 from bIHDraw2_) (vR_ HO48.out) (by decide)) hk (fun _ h => h.2)) (fun _ h => h.1)); replace HO54 := A_ (Kd.R_mono (Kd.R_keep (IsS116.apart (show IsS116 w0 _ g s0_0 t61 t62 from bIHDraw2_) (vR_ HO54.out) (by decide)) hk (fun _ h => h.2)) (fun _ h => h.1)); replace HK := A_ (KeepBut.trans bK_ hk (.inl rfl)); replace HB := A_ (hb); replace HI0 := A_ (hi); clear hb hk hi; obtain ⟨Ao27, co27, eo27⟩ := Kd.R_slice HO48.out; subst eo27) | ((with_reducible refine gc_ (f := 26) rfl ?_); refine gL_ (some 34) Try.func26 #[.slice Ao10 x3_1.length co10, .slice Ao27 t56.length co27, .string t59, .int .i64 t60] ?_; (with_reducible refine (spec_PutFile.calls k1 _ _ x3_1 _ _ t56 t59 t60 t66 t87 _ ?s1 ?s2 ?s3 ?s4 A21.out).mono ?_); (case s1 => exact cC_ (Kd.S_reads' HO_3.out).2.2); (case s2 => exact (Kd.S_reads' HO_3.out).2.1); (case s3 => exact cC_ (Kd.R_reads' HO48.out).2.2); (case s4 => exact (Kd.R_reads' HO48.out).2.1); rintro e w28 ⟨v93, rfl, ho0, hb⟩; refine ⟨_, rfl, ?_⟩; have HO88 := A_ (Kd.S_lower (Kd.S_new' (Kd.S_new' (Kd.S_new' ho0 (Kd.S_lt (vS_ HO_3.out))) (Kd.R_lt (vR_ HO48.out))) (Kd.R_lt (vR_ HO54.out))) (keep_size (w := w) (g := g) (row := none) bK_)); replace HK := A_ (KeepBut.trans bK_ (KeepBut.of_below hb g none) (.inl rfl)); replace HB := A_ (below_step bIHDraw1_ hb); replace HI0 := A_ (IsS116.below bIHDraw2_ hb); (try clear hb); (try clear hk); (try clear hi); (try clear ho0)))
      go_meet
      case rel => exact ⟨_, (t66), (t80), (t81), H', ⟨by have := HK1.out; first | omega | exact Nat.le_refl _⟩, ⟨by (with_reducible repeat (first | apply Kd.S_alloc | apply Kd.S_drewN | apply Kd.S_drew)); exact Kd.S_mono HO88.out (fun _ hk => trivial)⟩, ⟨bIHDraw2_⟩, ⟨bK_⟩, ⟨bIHDraw1_⟩⟩
   case rest =>
    clear HC9
    try clear c6
    try clear c6b0
    obtain ⟨kq, x3_8, x1001_8, x1002_8, HA, HJ8, HO_3, HI0, HK, HB⟩ := hcut
    cases kq with
    | zero => exact absurd HA.out (by simp [spec_l10Draw.j1])
    | succ kj8 =>
     have H := HA.out
     clear HA
     simp only [spec_l10Draw.j1] at H
     have HC29 := A_ H
     clear H
     go_upto_region 9 with (fail)
     go_cut [43] (fun v43 wc => ∃ (kq : Nat) (x43_28 : Bool) (x1001_28 : Int) (x1002_28 : Int), v43 = .bool x43_28 /\ Aside0 (spec_l10Draw.j2 kq x3_8 x4_1 x43_28 s0_0 x1001_28 x1002_28 = some (r1, r2, r3)) /\ Aside0 (kq <= kj8) /\ Aside0 (Kd.S k57 57 wc w.heap.size (fun _ => True) u3 x3_8) /\ Aside0 (IsS116 w0 wc g s0_0 x1001_28 x1002_28) /\ Aside0 (KeepBut w wc g none) /\ Aside0 (Below w0.heap.size w0 wc))
     case first =>
      have H := HC29.out
      clear HC29
      by_cases c30 : (x3_8.length : Int) > 0
      rotate_left
      . rw [if_neg c30] at H
        have c30b0 : decide (0 < (x3_8.length : Int)) = false := decide_eq_false c30
        have c30b1 : decide (0 < x3_8.length) = false := decide_eq_false (by omega)
        clear c30
        (first | rw [c30b0] | (simp only [i64_w, i32_w]; rw [c30b0]) | skip)
        have H' := A_ H
        clear H
        obtain ⟨Ao34, co34, eo34⟩ := Kd.S_slice HO_3.out
        subst eo34
        go_wp2
        go_meet
        case rel => exact ⟨_, (false), (x1001_8), (x1002_8), rs_, H', ⟨by have := HK1.out; have := HJ8.out; first | omega | exact Nat.le_refl _⟩, ⟨vS_ HO_3.out⟩, ⟨bIHDraw2_⟩, ⟨bK_⟩, ⟨bIHDraw1_⟩⟩
      rw [if_pos c30] at H
      have c30b0 : decide (0 < (x3_8.length : Int)) = true := decide_eq_true c30
      have c30b1 : decide (0 < x3_8.length) = true := decide_eq_true (by omega)
      clear c30
      (first | rw [c30b0] | (simp only [i64_w, i32_w]; rw [c30b0]) | skip)
      obtain ⟨⟨t82, t83, t84⟩, A31, H⟩ := bo_ H
      (try dsimp only at H)
      have H' := A_ H
      clear H
      obtain ⟨Ao32, co32, eo32⟩ := Kd.S_slice HO_3.out
      subst eo32
      go_wp2_with (first | (go_at_call 118; (with_reducible refine (spec_l1Once.calls g s0_0 x1001_8 x1002_8 3 t82 t83 t84 w0 _ ?s1 ?s2 A31.out).mono ?_); (case s1 => exact bIHDraw2_); (case s2 => exact bIHDraw1_); rintro e w33 ⟨rfl, hi, hb, hk⟩; replace HO_3 := A_ (Kd.S_mono (Kd.S_keep (IsS116.apartS (show IsS116 w0 _ g s0_0 x1001_8 x1002_8 from bIHDraw2_) (vS_ HO_3.out) (by decide)) hk (fun _ h => h.2)) (fun _ h => h.1)); replace HK := A_ (KeepBut.trans bK_ hk (.inl rfl)); replace HB := A_ (hb); replace HI0 := A_ (hi); clear hb hk hi))
      go_meet
      case rel => exact ⟨_, (t82), (t83), (t84), rs_, H', ⟨by have := HK1.out; have := HJ8.out; first | omega | exact Nat.le_refl _⟩, ⟨vS_ HO_3.out⟩, ⟨bIHDraw2_⟩, ⟨bK_⟩, ⟨bIHDraw1_⟩⟩
     case rest =>
      clear HC29
      try clear c6
      try clear c6b0
      obtain ⟨kq, x43_28, x1001_28, x1002_28, rfl, HA, HJ28, HO_3, HI0, HK, HB⟩ := hcut
      cases kq with
      | zero => exact absurd HA.out (by simp [spec_l10Draw.j2])
      | succ kj28 =>
       have H := HA.out
       clear HA
       simp only [spec_l10Draw.j2] at H
       by_cases c35 : x43_28 = true
       . subst c35
         rw [if_pos rfl] at H
         obtain ⟨⟨t47, t70, t71⟩, A36, H⟩ := bo_ H
         (try dsimp only at H)
         obtain ⟨⟨t58, t72, t73⟩, A37, H⟩ := bo_ H
         (try dsimp only at H)
         by_cases c38 : 0 <= t47
         rotate_left
         . exact absurd H (by rw [if_neg c38]; simp)
         rw [if_pos c38] at H
         have c38b0 := decide_eq_true c38
         clear c38
         by_cases c39 : t47 < (x3_8.length : Int)
         rotate_left
         . exact absurd H (by rw [if_neg c39]; simp)
         rw [if_pos c39] at H
         have c39b0 := decide_eq_true c39
         clear c39
         obtain ⟨y55, hy55⟩ : ∃ y_ : List (S57), y_ = (x3_8.set (t47 : Int).toNat (⟨(rd_T57 x3_8 t47).f0, (rd_T57 x3_8 t47).f1, (rd_T57 x3_8 t47).f2, (rd_T57 x3_8 t47).f3, t58⟩ : S57)) := ⟨_, rfl⟩
         replace H : (spec_l10Draw.l0 kj28 y55 (wrap64 (x4_1 - 1)) s0_0 t72 t73) = some (r1, r2, r3) := hy_ hy55 H
         have Ny55 := A_ hy55
         clear hy55
         have H' := A_ H
         clear H
         obtain ⟨Ao41, co41, eo41⟩ := Kd.S_slice HO_3.out
         subst eo41
         go_wp2_with (first | ((with_reducible refine gc_ (f := 117) rfl ?_); refine gL_ (some 48) Try.func117 #[.pointer (some ⟨g, 0, none⟩), .int .i64 (x3_8.length : Int)] ?_; (with_reducible refine (spec_l1Below.calls g s0_0 x1001_28 x1002_28 (x3_8.length : Int) t47 t70 t71 w0 _ ?s1 ?s2 A36.out).mono ?_); (case s1 => exact bIHDraw2_); (case s2 => exact bIHDraw1_); rintro e w42 ⟨rfl, hi, hb, hk⟩; refine ⟨_, rfl, ?_⟩; replace HO_3 := A_ (Kd.S_mono (Kd.S_keep (IsS116.apartS (show IsS116 w0 _ g s0_0 x1001_28 x1002_28 from bIHDraw2_) (vS_ HO_3.out) (by decide)) hk (fun _ h => h.2)) (fun _ h => h.1)); replace HK := A_ (KeepBut.trans bK_ hk (.inl rfl)); replace HB := A_ (hb); replace HI0 := A_ (hi); clear hb hk hi) | ((with_reducible refine gc_ (f := 98) rfl ?_); refine gL_ (some 50) Try.func98 #[.pointer (some ⟨g, 0, none⟩)] ?_; (with_reducible refine (spec_l10Props.calls kj28 g s0_0 t70 t71 t58 t72 t73 w0 _ ?s1 ?s2 A37.out).mono ?_); (case s1 => exact bIHDraw2_); (case s2 => exact bIHDraw1_); rintro e w43 ⟨v94, rfl, ho0, hi, hb, hk⟩; refine ⟨_, rfl, ?_⟩; replace HO_3 := A_ (Kd.S_mono (Kd.S_told (Kd.S_oldK (IsS116.apartS (show IsS116 w0 _ g s0_0 t70 t71 from bIHDraw2_) (vS_ HO_3.out) (by decide)) hk) (kb_ ho0)) (fun _ h_ => h_.1)); have HO67 := A_ (Kd.R_lower ho0 (keep_size (w := w) (g := g) (row := none) bK_)); replace HK := A_ (KeepBut.trans bK_ hk (.inl rfl)); replace HB := A_ (hb); replace HI0 := A_ (hi); clear hb hk hi ho0; have p40 : 0 <= (t47 : Int) := od_; have q40 : (t47 : Int) < ((x3_8.length : Int) : Int) := od_; obtain ⟨go40, co40, eo40, gb40, gl40, cl40, HG40⟩ := Kd.S_form HO_3.out (by omega); (first | cases eo40 | (injection eo40 with ea_ en_ ec_; (first | subst ea_ | (injection ea_ with ea_; subst ea_)); subst ec_; clear en_)); have GB40 := A_ gb40; have GG40 := A_ HG40; clear gb40 gl40 HG40; obtain ⟨_, ce40, hcl40, hM40, hcc40, hfr40, _, _⟩ := Kd.S_elem HO_3.out z57 (t47 : Int) p40 q40; obtain ⟨ve40_0, ve40_4, rfl, ge40_0, ge40_4⟩ := k57_openM hM40; have hx40_0 : w43.cell? ⟨go40, (t47 : Int).toNat * 5, none⟩ = some (ve40_0) := hcc40 0 _ rfl; have hx40_1 : w43.cell? ⟨go40, (t47 : Int).toNat * 5 + 1, none⟩ = some (.bool ((rd_T57 x3_8 t47).f1)) := hcc40 1 _ rfl; have hx40_2 : w43.cell? ⟨go40, (t47 : Int).toNat * 5 + 2, none⟩ = some (.string ((rd_T57 x3_8 t47).f2)) := hcc40 2 _ rfl; have hx40_3 : w43.cell? ⟨go40, (t47 : Int).toNat * 5 + 3, none⟩ = some (.int .i64 ((rd_T57 x3_8 t47).f3)) := hcc40 3 _ rfl; have hx40_4 : w43.cell? ⟨go40, (t47 : Int).toNat * 5 + 4, none⟩ = some (ve40_4) := hcc40 4 _ rfl; have hf40_0 : w43.frozen? ⟨go40, (t47 : Int).toNat * 5, none⟩ = false := hfr40 0; have hf40_1 : w43.frozen? ⟨go40, (t47 : Int).toNat * 5 + 1, none⟩ = false := hfr40 1; have hf40_2 : w43.frozen? ⟨go40, (t47 : Int).toNat * 5 + 2, none⟩ = false := hfr40 2; have hf40_3 : w43.frozen? ⟨go40, (t47 : Int).toNat * 5 + 3, none⟩ = false := hfr40 3; have hf40_4 : w43.frozen? ⟨go40, (t47 : Int).toNat * 5 + 4, none⟩ = false := hfr40 4; (try clear hcl40); (try clear hcc40); (try clear hfr40); (try clear hM40); replace p40 := eq_true p40; replace q40 := eq_true q40; obtain ⟨Ao46, co46, eo46⟩ := Kd.R_slice HO67.out; subst eo46; have n_ := A_ (Kd.S_mono (ok' := (fun k_ => some k_ ≠ (.slice Ao46 t58.length co46 : Value).ownBlock)) HO_3.out (fun k_ hk => hk.2)); clear HO_3; have HO_3 := n_; clear n_; have HX44 := A_ (show Kd.S k57 57 w43 w.heap.size (fun k_ => ((fun _ => True)) k_ /\ ¬ ((fun k_ => some k_ = (.slice Ao46 t58.length co46 : Value).ownBlock)) k_) (.slice (some ⟨go40, 0, none⟩) x3_8.length co41) x3_8 from (by (with_reducible repeat (first | apply Kd.S_alloc | apply Kd.S_drewN | apply Kd.S_drew)); exact Kd.S_mono HO_3.out (fun k_ hk => ⟨trivial, fun e_ => hk e_⟩))); obtain ⟨oki44, ce44, hcl44, hM44, hcc44, hfr44, hoki44, hH44⟩ := Kd.S_elem HX44.out z57 (t47 : Int) od_ (by have h_ : (t47 : Int) < ((x3_8.length : Int) : Int) := od_; first | exact h_ | (have e_ := (Kd.S_reads' HO_3.out).1; omega) | simpa using h_); obtain ⟨ve44_0, ve44_4, rfl, ge44_0, ge44_4⟩ := k57_openM hM44; have HP44 := Kd.S_seg hH44 od_ (by have h_ : (t47 : Int) < ((x3_8.length : Int) : Int) := od_; first | exact h_ | (have e_ := (Kd.S_reads' HO_3.out).1; omega) | simpa using h_) (seg := [.slice Ao46 t58.length co46]) (j := 4) (show 5 <= 5 from by decide) (x' := (⟨(rd_T57 x3_8 t47).f0, (rd_T57 x3_8 t47).f1, (rd_T57 x3_8 t47).f2, (rd_T57 x3_8 t47).f3, t58⟩ : S57)) (k57_mkM _ _ _ (⟨(rd_T57 x3_8 t47).f0, (rd_T57 x3_8 t47).f1, (rd_T57 x3_8 t47).f2, (rd_T57 x3_8 t47).f3, t58⟩ : S57) (Kd.R_mono ge44_0 (fun _ h_ => Or.inl h_)) (Kd.R_mono (Kd.R_tight rfl (Kd.R_mono (ok' := fun k_ => ((fun _ => True)) k_ /\ k_ ≠ go40) (Kd.R_apart' (HO67.out) (Kd.S_typed HO_3.out) (by decide)) (fun k_ hk => ⟨trivial, fun e_ => (hk.2) (by rw [e_]; rfl)⟩))) (fun _ h_ => Or.inr (h_)))) (fun _ hk => hk) (fun k_ hk_ => ((Kd.R_mono (ok' := fun k_ => ((fun _ => True)) k_ /\ k_ ≠ go40) (Kd.R_apart' (HO67.out) (Kd.S_typed HO_3.out) (by decide)) (fun k_ hk => ⟨trivial, fun e_ => (hk.2) (by rw [e_]; rfl)⟩))).1 k_ hk_.symm); have hx44_4 := hcc44 4 _ rfl; (try simp only [show (k57).sz = 5 from rfl, Nat.mul_one, Nat.add_zero] at hx44_4); have hf44_4 := hfr44 4; (try simp only [show (k57).sz = 5 from rfl, Nat.mul_one, Nat.add_zero] at hf44_4); (try clear hcl44); (try clear hcc44); (try clear hfr44); (try clear hM44); (try clear hoki44); (try clear hH44)) | ((with_reducible refine gate_store (t := 55) (p := 52) rfl ?_); refine store_event (t := 55) (p := 52) (v := ?vo_w45) (w1 := (w43.setCell ⟨go40, (t47 : Int).toNat * 5 + 4, none⟩ (.slice Ao46 t58.length co46))) ?hg ?ho ?hn ?hr ?_; (case ho => rfl); (case hg => rfl); (case hn => rfl); (case hr => first | (go_simp; done) | (go_simp; rfl)); intro w45 hw; have hg : w43.grownBy w45 (some go40) := (by rw [hw]; exact HP44.2); have hp_ : Kd.S k57 57 w45 w.heap.size (fun _ => True) (.slice (some ⟨go40, 0, none⟩) x3_8.length co41) y55 := (by rw [hw, Ny55.out]; exact HP44.1); clear HP44; replace HI0 := A_ (IsS116.grown bIHDraw2_ hg (IsS116.own_neS HI0.out HO_3.out (by decide))); replace HB := A_ ((by rw [hw]; exact below_set (HB.out) (Nat.le_trans HL.out GB40.out) : Below w0.heap.size w0 w45)); replace HK := A_ (KeepBut.trans bK_ (KeepBut.of_grown hg g) (Kd.S_base2 HO_3.out)); replace HO_3 := A_ (hp_); clear HO67; clear hg hw hp_))
         go_roundg kj28
         case measure => have := HK1.out; have := HJ8.out; have := HJ28.out; omega
         case rel => exact ⟨(y55), (wrap64 (x4_1 - 1)), (t72), (t73), rs_, H', ⟨by have := HK1.out; have := HJ8.out; have := HJ28.out; omega⟩, ⟨vS_ HO_3.out⟩, ⟨bIHDraw2_⟩, ⟨bK_⟩, ⟨bIHDraw1_⟩⟩
       . replace c35 := Bool.eq_false_iff.mpr c35
         subst c35
         rw [if_neg nf_] at H
         have H' := A_ H
         clear H
         go_wp2
         go_roundg kj28
         case measure => have := HK1.out; have := HJ8.out; have := HJ28.out; omega
         case rel => exact ⟨(x3_8), (wrap64 (x4_1 - 1)), (x1001_28), (x1002_28), rs_, H', ⟨by have := HK1.out; have := HJ8.out; have := HJ28.out; omega⟩, ⟨vS_ HO_3.out⟩, ⟨bIHDraw2_⟩, ⟨bK_⟩, ⟨bIHDraw1_⟩⟩
set_option maxHeartbeats 16000000 in
set_option maxRecDepth 100000 in
theorem spec_DrawShelves.calls (k : Nat) (A0 : Option Addr) (c0 : Nat) (l0 : List Int) (r1 : List (S57)) (r2 : List ByteArray) (r3 : List ByteArray) (w : World) (hr0 : Kd.C (Kd.int .u8) w A0 l0.length l0) (hc0 : l0.length <= c0) (h : spec_DrawShelves.f k l0 = some (r1, r2, r3)) :
 Calls Try.prog 39 #[.slice A0 l0.length c0] w fun e w' => ∃ v0_ v1_ v2_ : Value, e = .returned (.tuple #[v0_, v1_, v2_]) /\ Kd.S k57 57 w' w.heap.size (fun k_ => some k_ ≠ (v1_ : Value).ownBlock /\ some k_ ≠ (v2_ : Value).ownBlock) v0_ r1 /\ Kd.R Kd.string 9 w' w.heap.size (fun k_ => some k_ ≠ (v2_ : Value).ownBlock) v1_ r2 /\ Kd.R Kd.string 9 w' w.heap.size (fun k_ => some k_ ≠ (v1_ : Value).ownBlock) v2_ r3 /\ Below w.heap.size w w' := by
 have HR0 := A_ hr0
 have HC0 := A_ hc0
 clear hr0 hc0
 have HB := A_ (Below.refl w.heap.size w)
 have H : ((spec_l1New.f k l0).bind fun bt11 => ((spec_l10Draw.f k bt11.1 bt11.2.1 bt11.2.2).bind fun bt12 => ((spec_l10Path.f k bt11.1 bt12.2.1 bt12.2.2 bt12.1).bind fun bt14 => ((spec_l10Path.f k bt11.1 bt14.2.1 bt14.2.2 bt12.1).bind fun bt20 => (some (bt12.1, bt14.1, bt20.1)))))) = some (r1, r2, r3) := h
 clear h
 obtain ⟨⟨t11, t21, t22⟩, A2, H⟩ := bo_ H
 (try dsimp only at H)
 obtain ⟨⟨t12, t17, t18⟩, A3, H⟩ := bo_ H
 (try dsimp only at H)
 obtain ⟨⟨t14, t15, t16⟩, A4, H⟩ := bo_ H
 (try dsimp only at H)
 obtain ⟨⟨t20, t23, t24⟩, A5, H⟩ := bo_ H
 (try dsimp only at H)
 simp only [Option.some.injEq, Prod.mk.injEq] at H
 obtain ⟨rfl, rfl, rfl⟩ := H
 go_enter Try.func39, Try.ntmps39
 go_wp2_with (first | ((with_reducible refine gc_ (f := 84) rfl ?_); refine gL_ (some 9) Try.func84 #[.slice A0 l0.length c0] ?_; (with_reducible refine (spec_l1New.calls k _ _ l0 t11 t21 t22 w _ ?s1 ?s2 ?s3 A2.out).mono ?_); (case s1 => repeat (first | (with_reducible first | exact HB.out | apply below_alloc | apply pw_below_drewN | apply below_drew1) | exact HB.out)); (case s2 => exact HR0.out); (case s3 => exact HC0.out); rintro e w6 ⟨g1221, rfl, hi, hb, hb2⟩; refine ⟨_, rfl, ?_⟩; replace HB := A_ (hb); have HI1221 := A_ (hi); (try clear hb); (try clear hb2); (try clear hk); (try clear hi)) | ((with_reducible refine gc_ (f := 85) rfl ?_); refine gL_ (some 11) Try.func85 #[.pointer (some ⟨g1221, 0, none⟩)] ?_; (with_reducible refine (spec_l10Draw.calls k g1221 t11 t21 t22 t12 t17 t18 w _ ?s1 ?s2 A3.out).mono ?_); (case s1 => repeat (first | (with_reducible first | exact HI1221.out | apply IsS116.alloc | apply IsS116.drewN | apply IsS116.drew | apply IsS116.set_1 | apply IsS116.set_2) | exact HI1221.out)); (case s2 => repeat (first | (with_reducible first | exact HB.out | apply below_alloc | apply pw_below_drewN | apply below_drew1 | refine below_set ?_ (IsS116.ge HI1221.out)) | exact HB.out)); rintro e w7 ⟨v26, rfl, ho0, hi, hb, hk⟩; refine ⟨_, rfl, ?_⟩; have HO13 := A_ (Kd.S_lower ho0 (below_size (by repeat (first | (with_reducible first | exact HB.out | apply below_alloc | apply pw_below_drewN | apply below_drew1 | refine below_set ?_ (IsS116.ge HI1221.out)) | exact HB.out)))); replace HB := A_ (hb); replace HI1221 := A_ (hi); (try clear hb); (try clear hb2); (try clear hk); (try clear hi); (try clear ho0); obtain ⟨Ao8, co8, eo8⟩ := Kd.S_slice HO13.out; subst eo8) | ((with_reducible refine gc_ (f := 86) rfl ?_); refine gL_ (some 14) Try.func86 #[.pointer (some ⟨g1221, 0, none⟩), .slice Ao8 t12.length co8] ?_; (with_reducible refine (spec_l10Path.calls k g1221 t11 t17 t18 _ _ t12 t14 t15 t16 w _ ?s1 ?s2 ?s3 ?s4 A4.out).mono ?_); (case s1 => repeat (first | (with_reducible first | exact HI1221.out | apply IsS116.alloc | apply IsS116.drewN | apply IsS116.drew | apply IsS116.set_1 | apply IsS116.set_2) | exact HI1221.out)); (case s2 => repeat (first | (with_reducible first | exact HB.out | apply below_alloc | apply pw_below_drewN | apply below_drew1 | refine below_set ?_ (IsS116.ge HI1221.out)) | exact HB.out)); (case s3 => exact Kd.C_foot_own ((Kd.S_R (IsS116.apartS (show IsS116 w _ g1221 t11 t17 t18 from by repeat (first | (with_reducible first | exact HI1221.out | apply IsS116.alloc | apply IsS116.drewN | apply IsS116.drew | apply IsS116.set_1 | apply IsS116.set_2) | exact HI1221.out)) (vS_ HO13.out) (by decide)))) (fun _ h_ => h_.2)); (case s4 => exact (Kd.S_reads' HO13.out).2.1); rintro e w9 ⟨v27, rfl, ho0, hi, hb, hk⟩; refine ⟨_, rfl, ?_⟩; replace HO13 := A_ (Kd.S_mono (Kd.S_told (Kd.S_oldK (IsS116.apartS (show IsS116 w _ g1221 t11 t17 t18 from by repeat (first | (with_reducible first | exact HI1221.out | apply IsS116.alloc | apply IsS116.drewN | apply IsS116.drew | apply IsS116.set_1 | apply IsS116.set_2) | exact HI1221.out)) (vS_ HO13.out) (by decide)) hk) (kb_ ho0)) (fun _ h_ => h_.1)); have HO19 := A_ (Kd.R_lower ho0 (below_size (by repeat (first | (with_reducible first | exact HB.out | apply below_alloc | apply pw_below_drewN | apply below_drew1 | refine below_set ?_ (IsS116.ge HI1221.out)) | exact HB.out)))); replace HB := A_ (hb); replace HI1221 := A_ (hi); (try clear hb); (try clear hb2); (try clear hk); (try clear hi); (try clear ho0)) | ((with_reducible refine gc_ (f := 86) rfl ?_); refine gL_ (some 19) Try.func86 #[.pointer (some ⟨g1221, 0, none⟩), .slice Ao8 t12.length co8] ?_; (with_reducible refine (spec_l10Path.calls k g1221 t11 t15 t16 _ _ t12 t20 t23 t24 w _ ?s1 ?s2 ?s3 ?s4 A5.out).mono ?_); (case s1 => repeat (first | (with_reducible first | exact HI1221.out | apply IsS116.alloc | apply IsS116.drewN | apply IsS116.drew | apply IsS116.set_1 | apply IsS116.set_2) | exact HI1221.out)); (case s2 => repeat (first | (with_reducible first | exact HB.out | apply below_alloc | apply pw_below_drewN | apply below_drew1 | refine below_set ?_ (IsS116.ge HI1221.out)) | exact HB.out)); (case s3 => exact Kd.C_foot_own ((Kd.S_R (IsS116.apartS (show IsS116 w _ g1221 t11 t15 t16 from by repeat (first | (with_reducible first | exact HI1221.out | apply IsS116.alloc | apply IsS116.drewN | apply IsS116.drew | apply IsS116.set_1 | apply IsS116.set_2) | exact HI1221.out)) (vS_ HO13.out) (by decide)))) (fun _ h_ => h_.2)); (case s4 => exact (Kd.S_reads' HO13.out).2.1); rintro e w10 ⟨v28, rfl, ho0, hi, hb, hk⟩; refine ⟨_, rfl, ?_⟩; replace HO13 := A_ (Kd.S_mono (Kd.S_told (Kd.S_oldK (IsS116.apartS (show IsS116 w _ g1221 t11 t15 t16 from by repeat (first | (with_reducible first | exact HI1221.out | apply IsS116.alloc | apply IsS116.drewN | apply IsS116.drew | apply IsS116.set_1 | apply IsS116.set_2) | exact HI1221.out)) (vS_ HO13.out) (by decide)) hk) (kb_ ho0)) (fun _ h_ => h_.1)); have HO25 := A_ (Kd.R_lower (Kd.R_new' ho0 (Kd.R_lt (vR_ HO19.out))) (below_size (by repeat (first | (with_reducible first | exact HB.out | apply below_alloc | apply pw_below_drewN | apply below_drew1 | refine below_set ?_ (IsS116.ge HI1221.out)) | exact HB.out)))); replace HO19 := A_ (Kd.R_mono (Kd.R_told (Kd.R_oldK (IsS116.apart (show IsS116 w _ g1221 t11 t15 t16 from by repeat (first | (with_reducible first | exact HI1221.out | apply IsS116.alloc | apply IsS116.drewN | apply IsS116.drew | apply IsS116.set_1 | apply IsS116.set_2) | exact HI1221.out)) (vR_ HO19.out) (by decide)) hk) (kb_ ho0)) (fun _ h_ => h_.1)); replace HB := A_ (hb); replace HI1221 := A_ (hi); (try clear hb); (try clear hb2); (try clear hk); (try clear hi); (try clear ho0)))
 go_ret3
 exact ⟨_, _, _, rr_, by (with_reducible repeat (first | apply Kd.S_alloc | apply Kd.S_drewN | apply Kd.S_drew)); exact Kd.S_mono HO13.out (fun _ hk => ⟨hk.1.2, hk.2⟩), by (with_reducible repeat (first | apply Kd.R_alloc | apply Kd.R_drewN | apply Kd.R_drew)); exact Kd.R_mono HO19.out (fun _ hk => hk.2), by (with_reducible repeat (first | apply Kd.R_alloc | apply Kd.R_drewN | apply Kd.R_drew)); exact Kd.R_mono HO25.out (fun _ hk => hk.2), by repeat (first | (with_reducible first | exact HB.out | apply below_alloc | apply pw_below_drewN | apply below_drew1 | refine below_set ?_ (IsS116.ge HI1221.out)) | exact HB.out)⟩
end Go.Proofs.Ytbgggcgjijljkaa.Q
