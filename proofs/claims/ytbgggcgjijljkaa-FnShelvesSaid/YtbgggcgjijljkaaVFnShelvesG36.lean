/- Printed walks. No condition. -/
import Derived.Test.YtbgggcgjijljkaaVFnShelvesG22
import Derived.Test.YtbgggcgjijljkaaVFnShelvesG35
import Derived.Test.YtbgggcgjijljkaaVFnShelvesG24
import Derived.Test.YtbgggcgjijljkaaVFnShelvesG26
import Derived.Test.YtbgggcgjijljkaaVFnShelvesG28
import Derived.Test.YtbgggcgjijljkaaVFnShelvesG29
import Derived.Test.YtbgggcgjijljkaaVFnShelvesG30
import Derived.Test.YtbgggcgjijljkaaVFnShelvesG31
namespace Go.Proofs.Ytbgggcgjijljkaa.Q
open Go.RowKit Go.Proofs.YtbgggcgjijljkaaW.PrintWords Go.Proofs.YtbgggcgjijljkaaW.PrintLast Go.Proofs.YtbgggcgjijljkaaW.PrintMore
attribute [local go_sem] max2_int min2_int max_two min_two max_three min_three max_four min_four
set_option linter.unusedVariables false
set_option linter.unusedSimpArgs false
set_option maxHeartbeats 16000000 in
set_option maxRecDepth 100000 in
theorem laws_FnShelves.calls (k : Nat) (A0 : Option Addr) (c0 : Nat) (l0 : List Int) (r : Bool) (w : World) (hr0 : Kd.C (Kd.int .u8) w A0 l0.length l0) (hc0 : l0.length ≤ c0) (h : laws_FnShelves.f k l0 = some r) :
 Calls Try.prog 9 #[.slice A0 l0.length c0] w fun e w' => e = .returned (.bool r) ∧ Below w.heap.size w w' := by
 have hu57 := Try.underlying57
 have HR0 := Aside0.mk hr0
 have HC0 := Aside0.mk hc0
 clear hr0 hc0
 have HB := A_ (Below.refl w.heap.size w)
 have H : ((laws_big.f l0).bind fun t1248 => (if t1248 = true then (some true) else ((spec_DrawShelves.f k l0).bind fun bt1249 => ((impl_PutFile.f k bt1249.1 bt1249.2.1 (⟨#[110, 101, 119]⟩ : ByteArray) 77).bind fun bt1258 => ((spec_PutFile.f k bt1249.1 bt1249.2.1 (⟨#[110, 101, 119]⟩ : ByteArray) 77).bind fun bt1262 => ((impl_TreeOk.f k bt1249.1).bind fun t1266 => (if t1266 = true then (if bt1258.2 = bt1262.2 then ((laws_sameTree.f k bt1258.1 bt1262.1).bind fun t1267 => (if t1267 = true then ((impl_TreeOk.f k bt1258.1).bind fun t1268 => (laws_FnShelves.j0 k bt1249.1 bt1249.2.1 bt1249.2.2 bt1258.1 bt1258.2 (!t1268))) else (laws_FnShelves.j0 k bt1249.1 bt1249.2.1 bt1249.2.2 bt1258.1 bt1258.2 true))) else (laws_FnShelves.j0 k bt1249.1 bt1249.2.1 bt1249.2.2 bt1258.1 bt1258.2 true)) else (laws_FnShelves.j0 k bt1249.1 bt1249.2.1 bt1249.2.2 bt1258.1 bt1258.2 true)))))))) = some r := h
 clear h
 obtain ⟨t1248, A2, H⟩ := bo_ H
 (try dsimp only at H)
 by_cases c3 : t1248 = true
 · subst c3
   rw [if_pos rfl] at H
   obtain rfl := Option.some.inj H
   go_enter Try.func9, Try.ntmps9
   go_wp2_with (first | ((with_reducible refine gate_callee (f := 38) rfl ?_); refine gL_ (some 14) Try.func38 #[.slice A0 l0.length c0] ?_; (with_reducible refine (laws_big.calls _ _ l0 true _ ?s1 ?s2 A2.out).mono ?_); (case s1 => exact cC_ HR0.out); (case s2 => exact HC0.out); rintro e w' ⟨rfl, ⟨nd, rfl⟩⟩; refine ⟨_, rfl, ?_⟩))
   go_ret
   exact ⟨rr_, bB_⟩
 · replace c3 := Bool.eq_false_iff.mpr c3
   subst c3
   rw [if_neg nf_] at H
   obtain ⟨⟨t1249, t1250, t1251⟩, A4, H⟩ := bo_ H
   (try dsimp only at H)
   obtain ⟨⟨t1258, t1261⟩, A5, H⟩ := bo_ H
   (try dsimp only at H)
   obtain ⟨⟨t1262, t1263⟩, A6, H⟩ := bo_ H
   (try dsimp only at H)
   have HC7 := Aside0.mk H
   clear H
   go_enter Try.func9, Try.ntmps9
   go_upto_region 6 with (first | ((with_reducible refine gate_callee (f := 38) rfl ?_); refine gL_ (some 14) Try.func38 #[.slice A0 l0.length c0] ?_; (with_reducible refine (laws_big.calls _ _ l0 false _ ?s1 ?s2 A2.out).mono ?_); (case s1 => exact cC_ HR0.out); (case s2 => exact HC0.out); rintro e w' ⟨rfl, ⟨nd, rfl⟩⟩; refine ⟨_, rfl, ?_⟩) | ((with_reducible refine gate_callee (f := 39) rfl ?_); refine gL_ (some 17) Try.func39 #[.slice A0 l0.length c0] ?_; (with_reducible refine (spec_DrawShelves.calls k _ _ l0 t1249 t1250 t1251 _ ?s1 ?s2 A4.out).mono ?_); (case s1 => exact cC_ HR0.out); (case s2 => exact HC0.out); rintro e w8 ⟨v1252, v1254, v1256, rfl, ho0, ho1, ho2, hb⟩; refine ⟨_, rfl, ?_⟩; have HO1253 := A_ (Kd.N_lower (Kd.N_mono (ok' := fun k_ => some k_ ≠ (v1254 : Value).ownBlock ∧ some k_ ≠ (v1256 : Value).ownBlock) (Kd.S_N (Kd.S_bound ho0)) (fun k_ hk_ => ⟨hk_.1.1, hk_.1.2⟩)) (below_size bB_)); have HO1255 := A_ (Kd.R_lower ho1 (below_size bB_)); have HO1257 := A_ (Kd.R_lower ho2 (below_size bB_)); replace HB := A_ (below_step bB_ hb); (try clear hb); (try clear ho0); (try clear ho1); (try clear ho2); obtain ⟨Ao9, co9, eo9⟩ := Kd.N_slice HO1253.out; subst eo9; obtain ⟨Ao10, co10, eo10⟩ := Kd.R_slice HO1255.out; subst eo10) | ((with_reducible refine gate_callee (f := 27) rfl ?_); refine gL_ (some 24) Try.func27 #[.slice Ao9 t1249.length co9, .slice Ao10 t1250.length co10, .string (⟨#[110, 101, 119]⟩ : ByteArray), .int .i64 77] ?_; (with_reducible refine (impl_PutFile.calls k _ _ t1249 (fun k_ => some k_ = (.slice Ao10 t1250.length co10 : Value).ownBlock) _ _ t1250 (⟨#[110, 101, 119]⟩ : ByteArray) 77 t1258 t1261 _ ?s1 ?s2 ?s3 A5.out).mono ?_); (case s1 => exact cC_ (Kd.N_reads' HO1253.out).2.2); (case s2 => exact (Kd.N_reads' HO1253.out).2.1); (case s3 => exact Kd.R_V (Kd.R_tight rfl (Kd.R_apart' (HO1255.out) (Kd.N_typed HO1253.out) (by decide)))); rintro e w11 ⟨v1259, rfl, ho0, hb⟩; refine ⟨_, rfl, ?_⟩; have HO1260 := A_ (Kd.N_lower (Kd.N_mono (ok' := fun k_ => some k_ ≠ (.slice Ao9 t1249.length co9 : Value).ownBlock ∧ some k_ ≠ (v1256 : Value).ownBlock) ho0 (fun k_ hk_ => ⟨Or.elim hk_ (fun hs_ => ((Kd.R_apart' (HO1255.out) (Kd.N_typed HO1253.out) (by decide)).1 k_ hs_.symm).2) (fun hn_ => (Kd.fresh' (Kd.N_lt (vN_ HO1253.out)) k_ hn_)), Or.elim hk_ (fun hs_ => ((Kd.R_apart' (HO1255.out) (Kd.N_typed HO1253.out) (by decide)).1 k_ hs_.symm).1) (fun hn_ => (Kd.fresh' (Kd.R_lt (vR_ HO1257.out)) k_ hn_))⟩)) (below_size bB_)); replace HO1253 := A_ (Kd.N_elder' (vN_ HO1253.out) (kb_ ho0) hb); replace HO1255 := A_ (Kd.R_below (vR_ HO1255.out) hb); replace HO1257 := A_ (Kd.R_below (vR_ HO1257.out) hb); replace HB := A_ (below_step bB_ hb); (try clear hb); (try clear ho0)) | ((with_reducible refine gate_callee (f := 26) rfl ?_); refine gL_ (some 30) Try.func26 #[.slice Ao9 t1249.length co9, .slice Ao10 t1250.length co10, .string (⟨#[110, 101, 119]⟩ : ByteArray), .int .i64 77] ?_; (with_reducible refine (spec_PutFile.calls k _ _ t1249 _ _ t1250 (⟨#[110, 101, 119]⟩ : ByteArray) 77 t1262 t1263 _ ?s1 ?s2 ?s3 ?s4 A6.out).mono ?_); (case s1 => exact cC_ (Kd.N_reads' HO1253.out).2.2); (case s2 => exact (Kd.N_reads' HO1253.out).2.1); (case s3 => exact cC_ (Kd.R_reads' HO1255.out).2.2); (case s4 => exact (Kd.R_reads' HO1255.out).2.1); rintro e w12 ⟨v1264, rfl, ho0, hb⟩; refine ⟨_, rfl, ?_⟩; have HO1265 := A_ (Kd.N_lower (Kd.N_mono (ok' := fun k_ => some k_ ≠ (.slice Ao9 t1249.length co9 : Value).ownBlock ∧ some k_ ≠ (.slice Ao10 t1250.length co10 : Value).ownBlock ∧ some k_ ≠ (v1256 : Value).ownBlock ∧ some k_ ≠ (v1259 : Value).ownBlock) (Kd.S_N (Kd.S_bound ho0)) (fun k_ hk_ => ⟨(Kd.fresh' (Kd.N_lt (vN_ HO1253.out)) k_ hk_.2.1), (Kd.fresh' (Kd.R_lt (vR_ HO1255.out)) k_ hk_.2.1), (Kd.fresh' (Kd.R_lt (vR_ HO1257.out)) k_ hk_.2.1), (Kd.fresh' (Kd.N_lt (vN_ HO1260.out)) k_ hk_.2.1)⟩)) (below_size bB_)); replace HO1253 := A_ (Kd.N_elder' (vN_ HO1253.out) (kb_ ho0) hb); replace HO1255 := A_ (Kd.R_below (vR_ HO1255.out) hb); replace HO1257 := A_ (Kd.R_below (vR_ HO1257.out) hb); replace HO1260 := A_ (Kd.N_elder' (vN_ HO1260.out) (kb_ ho0) hb); replace HB := A_ (below_step bB_ hb); (try clear hb); (try clear ho0)))
   (try simp only [Act.put, List.setIfInBounds_toArray, List.set_cons_zero, List.set_cons_succ])
   go_cut [51] (fun v51 wc => ∃ (kq : Nat) (x51_6 : Bool), v51 = .bool x51_6 ∧ Aside0 (laws_FnShelves.j0 kq t1249 t1250 t1251 t1258 t1261 x51_6 = some r) ∧ Aside0 (kq ≤ k) ∧ Aside0 (Kd.N k57 57 wc w.heap.size (fun k_ => some k_ ≠ ((.slice Ao10 t1250.length co10) : Value).ownBlock ∧ some k_ ≠ (v1256 : Value).ownBlock ∧ some k_ ≠ (v1259 : Value).ownBlock) (.slice Ao9 t1249.length co9) t1249) ∧ Aside0 (Kd.R Kd.string 9 wc w.heap.size (fun k_ => some k_ ≠ (v1256 : Value).ownBlock) (.slice Ao10 t1250.length co10) t1250) ∧ Aside0 (Kd.R Kd.string 9 wc w.heap.size (fun k_ => some k_ ≠ ((.slice Ao10 t1250.length co10) : Value).ownBlock) v1256 t1251) ∧ Aside0 (Kd.N k57 57 wc w.heap.size (fun k_ => some k_ ≠ ((.slice Ao9 t1249.length co9) : Value).ownBlock ∧ some k_ ≠ (v1256 : Value).ownBlock) v1259 t1258) ∧ Aside0 (Below w.heap.size w wc))
   case first =>
    have H := HC7.out
    clear HC7
    obtain ⟨t1266, A13, H⟩ := bo_ H
    (try dsimp only at H)
    by_cases c14 : t1266 = true
    · subst c14
      rw [if_pos rfl] at H
      by_cases c15 : t1261 = t1263
      rotate_left
      · rw [if_neg c15] at H
        have c15b0 : (t1261 == t1263) = false := beq_eq_false_iff_ne.mpr c15
        have c15b1 : (t1261 != t1263) = true := bne_iff_ne.mpr c15
        (first | rw [c15b0] | (simp only [i64_w, i32_w]; rw [c15b0]) | skip)
        have H' := Aside0.mk H
        clear H
        go_wp2_with (first | ((with_reducible refine gate_callee (f := 40) rfl ?_); refine gL_ (some 34) Try.func40 #[.slice Ao9 t1249.length co9] ?_; (with_reducible refine (impl_TreeOk.calls k _ _ t1249 true _ ?s1 ?s2 A13.out).mono ?_); (case s1 => exact cC_ (Kd.N_reads' HO1253.out).2.2); (case s2 => exact (Kd.N_reads' HO1253.out).2.1); rintro e w28 ⟨rfl, hb⟩; refine ⟨_, rfl, ?_⟩; replace HO1253 := A_ (Kd.N_below (vN_ HO1253.out) hb); replace HO1255 := A_ (Kd.R_below (vR_ HO1255.out) hb); replace HO1257 := A_ (Kd.R_below (vR_ HO1257.out) hb); replace HO1260 := A_ (Kd.N_below (vN_ HO1260.out) hb); replace HO1265 := A_ (Kd.N_below (vN_ HO1265.out) hb); replace HB := A_ (below_step bB_ hb); (try clear hb)))
        go_meet
        case rel => exact ⟨_, (true), rs_, H', ⟨by first | omega | exact Nat.le_refl _⟩, ⟨by (with_reducible repeat (first | apply Kd.N_alloc | apply Kd.N_drewN | apply Kd.N_drew)); exact Kd.N_mono HO1253.out (fun _ hk => ⟨hk.1.1.1, ⟨hk.1.1.2, hk.1.2⟩⟩)⟩, ⟨vR_ HO1255.out⟩, ⟨vR_ HO1257.out⟩, ⟨by (with_reducible repeat (first | apply Kd.N_alloc | apply Kd.N_drewN | apply Kd.N_drew)); exact Kd.N_mono HO1260.out (fun _ hk => ⟨hk.1.1, hk.1.2⟩)⟩, ⟨bB_⟩⟩
      rw [if_pos c15] at H
      have c15b0 : (t1261 == t1263) = true := beq_iff_eq.mpr c15
      have c15b1 : (t1261 != t1263) = false := bne_eq_false_iff_eq.mpr c15
      clear c15
      (first | rw [c15b0] | (simp only [i64_w, i32_w]; rw [c15b0]) | skip)
      obtain ⟨t1267, A16, H⟩ := bo_ H
      (try dsimp only at H)
      by_cases c17 : t1267 = true
      · subst c17
        rw [if_pos rfl] at H
        obtain ⟨t1268, A18, H⟩ := bo_ H
        (try dsimp only at H)
        have H' := Aside0.mk H
        clear H
        go_wp2_with (first | ((with_reducible refine gate_callee (f := 40) rfl ?_); refine gL_ (some 34) Try.func40 #[.slice Ao9 t1249.length co9] ?_; (with_reducible refine (impl_TreeOk.calls k _ _ t1249 true _ ?s1 ?s2 A13.out).mono ?_); (case s1 => exact cC_ (Kd.N_reads' HO1253.out).2.2); (case s2 => exact (Kd.N_reads' HO1253.out).2.1); rintro e w19 ⟨rfl, hb⟩; refine ⟨_, rfl, ?_⟩; replace HO1253 := A_ (Kd.N_below (vN_ HO1253.out) hb); replace HO1255 := A_ (Kd.R_below (vR_ HO1255.out) hb); replace HO1257 := A_ (Kd.R_below (vR_ HO1257.out) hb); replace HO1260 := A_ (Kd.N_below (vN_ HO1260.out) hb); replace HO1265 := A_ (Kd.N_below (vN_ HO1265.out) hb); replace HB := A_ (below_step bB_ hb); (try clear hb); obtain ⟨Ao20, co20, eo20⟩ := Kd.N_slice HO1260.out; subst eo20; obtain ⟨Ao21, co21, eo21⟩ := Kd.N_slice HO1265.out; subst eo21) | (go_at_call 41; (with_reducible refine (laws_sameTree.calls k _ _ t1258 _ _ t1262 true _ ?s1 ?s2 ?s3 ?s4 A16.out).mono ?_); (case s1 => exact cC_ (Kd.N_reads' HO1260.out).2.2); (case s2 => exact (Kd.N_reads' HO1260.out).2.1); (case s3 => exact cC_ (Kd.N_reads' HO1265.out).2.2); (case s4 => exact (Kd.N_reads' HO1265.out).2.1); rintro e w22 ⟨rfl, hb⟩; replace HO1253 := A_ (Kd.N_below (vN_ HO1253.out) hb); replace HO1255 := A_ (Kd.R_below (vR_ HO1255.out) hb); replace HO1257 := A_ (Kd.R_below (vR_ HO1257.out) hb); replace HO1260 := A_ (Kd.N_below (vN_ HO1260.out) hb); replace HO1265 := A_ (Kd.N_below (vN_ HO1265.out) hb); replace HB := A_ (below_step bB_ hb); (try clear hb)) | (go_at_call 40; (with_reducible refine (impl_TreeOk.calls k _ _ t1258 t1268 _ ?s1 ?s2 A18.out).mono ?_); (case s1 => exact cC_ (Kd.N_reads' HO1260.out).2.2); (case s2 => exact (Kd.N_reads' HO1260.out).2.1); rintro e w23 ⟨rfl, hb⟩; replace HO1253 := A_ (Kd.N_below (vN_ HO1253.out) hb); replace HO1255 := A_ (Kd.R_below (vR_ HO1255.out) hb); replace HO1257 := A_ (Kd.R_below (vR_ HO1257.out) hb); replace HO1260 := A_ (Kd.N_below (vN_ HO1260.out) hb); replace HO1265 := A_ (Kd.N_below (vN_ HO1265.out) hb); replace HB := A_ (below_step bB_ hb); (try clear hb)))
        go_meet
        case rel => exact ⟨_, (!t1268), rs_, H', ⟨by first | omega | exact Nat.le_refl _⟩, ⟨by (with_reducible repeat (first | apply Kd.N_alloc | apply Kd.N_drewN | apply Kd.N_drew)); exact Kd.N_mono HO1253.out (fun _ hk => ⟨hk.1.1.1, ⟨hk.1.1.2, hk.1.2⟩⟩)⟩, ⟨vR_ HO1255.out⟩, ⟨vR_ HO1257.out⟩, ⟨by (with_reducible repeat (first | apply Kd.N_alloc | apply Kd.N_drewN | apply Kd.N_drew)); exact Kd.N_mono HO1260.out (fun _ hk => ⟨hk.1.1, hk.1.2⟩)⟩, ⟨bB_⟩⟩
      · replace c17 := Bool.eq_false_iff.mpr c17
        subst c17
        rw [if_neg nf_] at H
        have H' := Aside0.mk H
        clear H
        go_wp2_with (first | ((with_reducible refine gate_callee (f := 40) rfl ?_); refine gL_ (some 34) Try.func40 #[.slice Ao9 t1249.length co9] ?_; (with_reducible refine (impl_TreeOk.calls k _ _ t1249 true _ ?s1 ?s2 A13.out).mono ?_); (case s1 => exact cC_ (Kd.N_reads' HO1253.out).2.2); (case s2 => exact (Kd.N_reads' HO1253.out).2.1); rintro e w24 ⟨rfl, hb⟩; refine ⟨_, rfl, ?_⟩; replace HO1253 := A_ (Kd.N_below (vN_ HO1253.out) hb); replace HO1255 := A_ (Kd.R_below (vR_ HO1255.out) hb); replace HO1257 := A_ (Kd.R_below (vR_ HO1257.out) hb); replace HO1260 := A_ (Kd.N_below (vN_ HO1260.out) hb); replace HO1265 := A_ (Kd.N_below (vN_ HO1265.out) hb); replace HB := A_ (below_step bB_ hb); (try clear hb); obtain ⟨Ao25, co25, eo25⟩ := Kd.N_slice HO1260.out; subst eo25; obtain ⟨Ao26, co26, eo26⟩ := Kd.N_slice HO1265.out; subst eo26) | (go_at_call 41; (with_reducible refine (laws_sameTree.calls k _ _ t1258 _ _ t1262 false _ ?s1 ?s2 ?s3 ?s4 A16.out).mono ?_); (case s1 => exact cC_ (Kd.N_reads' HO1260.out).2.2); (case s2 => exact (Kd.N_reads' HO1260.out).2.1); (case s3 => exact cC_ (Kd.N_reads' HO1265.out).2.2); (case s4 => exact (Kd.N_reads' HO1265.out).2.1); rintro e w27 ⟨rfl, hb⟩; replace HO1253 := A_ (Kd.N_below (vN_ HO1253.out) hb); replace HO1255 := A_ (Kd.R_below (vR_ HO1255.out) hb); replace HO1257 := A_ (Kd.R_below (vR_ HO1257.out) hb); replace HO1260 := A_ (Kd.N_below (vN_ HO1260.out) hb); replace HO1265 := A_ (Kd.N_below (vN_ HO1265.out) hb); replace HB := A_ (below_step bB_ hb); (try clear hb)))
        go_meet
        case rel => exact ⟨_, (true), rs_, H', ⟨by first | omega | exact Nat.le_refl _⟩, ⟨by (with_reducible repeat (first | apply Kd.N_alloc | apply Kd.N_drewN | apply Kd.N_drew)); exact Kd.N_mono HO1253.out (fun _ hk => ⟨hk.1.1.1, ⟨hk.1.1.2, hk.1.2⟩⟩)⟩, ⟨vR_ HO1255.out⟩, ⟨vR_ HO1257.out⟩, ⟨by (with_reducible repeat (first | apply Kd.N_alloc | apply Kd.N_drewN | apply Kd.N_drew)); exact Kd.N_mono HO1260.out (fun _ hk => ⟨hk.1.1, hk.1.2⟩)⟩, ⟨bB_⟩⟩
    · replace c14 := Bool.eq_false_iff.mpr c14
      subst c14
      rw [if_neg nf_] at H
      have H' := Aside0.mk H
      clear H
      go_wp2_with (first | ((with_reducible refine gate_callee (f := 40) rfl ?_); refine gL_ (some 34) Try.func40 #[.slice Ao9 t1249.length co9] ?_; (with_reducible refine (impl_TreeOk.calls k _ _ t1249 false _ ?s1 ?s2 A13.out).mono ?_); (case s1 => exact cC_ (Kd.N_reads' HO1253.out).2.2); (case s2 => exact (Kd.N_reads' HO1253.out).2.1); rintro e w29 ⟨rfl, hb⟩; refine ⟨_, rfl, ?_⟩; replace HO1253 := A_ (Kd.N_below (vN_ HO1253.out) hb); replace HO1255 := A_ (Kd.R_below (vR_ HO1255.out) hb); replace HO1257 := A_ (Kd.R_below (vR_ HO1257.out) hb); replace HO1260 := A_ (Kd.N_below (vN_ HO1260.out) hb); replace HO1265 := A_ (Kd.N_below (vN_ HO1265.out) hb); replace HB := A_ (below_step bB_ hb); (try clear hb)))
      go_meet
      case rel => exact ⟨_, (true), rs_, H', ⟨by first | omega | exact Nat.le_refl _⟩, ⟨by (with_reducible repeat (first | apply Kd.N_alloc | apply Kd.N_drewN | apply Kd.N_drew)); exact Kd.N_mono HO1253.out (fun _ hk => ⟨hk.1.1.1, ⟨hk.1.1.2, hk.1.2⟩⟩)⟩, ⟨vR_ HO1255.out⟩, ⟨vR_ HO1257.out⟩, ⟨by (with_reducible repeat (first | apply Kd.N_alloc | apply Kd.N_drewN | apply Kd.N_drew)); exact Kd.N_mono HO1260.out (fun _ hk => ⟨hk.1.1, hk.1.2⟩)⟩, ⟨bB_⟩⟩
   case rest =>
    clear HC7
    try clear c1
    try clear c2
    try clear p2
    try clear c3
    try clear c4
    try clear c9
    try clear c14
    try clear c15
    try clear c15b0
    try clear c15b1
    try clear c17
    try clear c26
    try clear c27
    obtain ⟨kq, x51_6, rfl, HA, HJ6, HO_3, HO_4, HO_5, HO_6, HB⟩ := hcut
    cases kq with
    | zero => exact absurd HA.out (by simp [laws_FnShelves.j0])
    | succ kj6 =>
     have H := HA.out
     clear HA
     simp only [laws_FnShelves.j0] at H
     by_cases c30 : x51_6 = true
     · subst c30
       rw [if_pos rfl] at H
       obtain rfl := Option.some.inj H
       go_wp2
       go_ret
       exact ⟨rr_, bB_⟩
     · replace c30 := Bool.eq_false_iff.mpr c30
       subst c30
       rw [if_neg nf_] at H
       have HC31 := Aside0.mk H
       clear H
       go_upto_region 8 with (fail)
       go_cut [57] (fun v57 wc => ∃ (kq : Nat) (x57_30 : Bool), v57 = .bool x57_30 ∧ Aside0 (laws_FnShelves.j1 kq t1249 t1250 t1251 t1258 t1261 x57_30 = some r) ∧ Aside0 (kq ≤ kj6) ∧ Aside0 (Kd.N k57 57 wc w.heap.size (fun k_ => some k_ ≠ ((.slice Ao10 t1250.length co10) : Value).ownBlock ∧ some k_ ≠ (v1256 : Value).ownBlock ∧ some k_ ≠ (v1259 : Value).ownBlock) (.slice Ao9 t1249.length co9) t1249) ∧ Aside0 (Kd.R Kd.string 9 wc w.heap.size (fun k_ => some k_ ≠ (v1256 : Value).ownBlock) (.slice Ao10 t1250.length co10) t1250) ∧ Aside0 (Kd.R Kd.string 9 wc w.heap.size (fun k_ => some k_ ≠ ((.slice Ao10 t1250.length co10) : Value).ownBlock) v1256 t1251) ∧ Aside0 (Kd.N k57 57 wc w.heap.size (fun k_ => some k_ ≠ ((.slice Ao9 t1249.length co9) : Value).ownBlock ∧ some k_ ≠ (v1256 : Value).ownBlock) v1259 t1258) ∧ Aside0 (Below w.heap.size w wc))
       case first =>
        have H := HC31.out
        clear HC31
        by_cases c32 : t1261 = 201
        rotate_left
        · rw [if_neg c32] at H
          have c32b0 : (t1261 == 201) = false := beq_eq_false_iff_ne.mpr c32
          have c32b1 : (t1261 != 201) = true := bne_iff_ne.mpr c32
          (first | rw [c32b0] | (simp only [i64_w, i32_w]; rw [c32b0]) | skip)
          have H' := Aside0.mk H
          clear H
          go_wp2
          go_meet
          case rel => exact ⟨_, ((t1261 != 204)), rs_, H', ⟨by have := HJ6.out; first | omega | exact Nat.le_refl _⟩, ⟨vN_ HO_3.out⟩, ⟨vR_ HO_4.out⟩, ⟨vR_ HO_5.out⟩, ⟨vN_ HO_6.out⟩, ⟨bB_⟩⟩
        rw [if_pos c32] at H
        have c32b0 : (t1261 == 201) = true := beq_iff_eq.mpr c32
        have c32b1 : (t1261 != 201) = false := bne_eq_false_iff_eq.mpr c32
        clear c32
        (first | rw [c32b0] | (simp only [i64_w, i32_w]; rw [c32b0]) | skip)
        have H' := Aside0.mk H
        clear H
        go_wp2
        go_meet
        case rel => exact ⟨_, (false), rs_, H', ⟨by have := HJ6.out; first | omega | exact Nat.le_refl _⟩, ⟨vN_ HO_3.out⟩, ⟨vR_ HO_4.out⟩, ⟨vR_ HO_5.out⟩, ⟨vN_ HO_6.out⟩, ⟨bB_⟩⟩
       case rest =>
        clear HC31
        try clear c1
        try clear c2
        try clear p2
        try clear c3
        try clear c4
        try clear c9
        try clear c14
        try clear c15
        try clear c15b0
        try clear c15b1
        try clear c17
        try clear c26
        try clear c27
        try clear c30
        try clear c32
        try clear c32b0
        try clear c32b1
        try clear p2
        obtain ⟨kq, x57_30, rfl, HA, HJ30, HO_3, HO_4, HO_5, HO_6, HB⟩ := hcut
        cases kq with
        | zero => exact absurd HA.out (by simp [laws_FnShelves.j1])
        | succ kj30 =>
         have H := HA.out
         clear HA
         simp only [laws_FnShelves.j1] at H
         by_cases c33 : x57_30 = true
         · subst c33
           rw [if_pos rfl] at H
           obtain ⟨t1269, A34, H⟩ := bo_ H
           (try dsimp only at H)
           obtain rfl := Option.some.inj H
           obtain ⟨Ao35, co35, eo35⟩ := Kd.N_slice HO_6.out
           subst eo35
           go_wp2_with (first | ((with_reducible refine gate_callee (f := 41) rfl ?_); refine gL_ (some 60) Try.func41 #[.slice Ao35 t1258.length co35, .slice Ao9 t1249.length co9] ?_; (with_reducible refine (laws_sameTree.calls kj30 _ _ t1258 _ _ t1249 t1269 _ ?s1 ?s2 ?s3 ?s4 A34.out).mono ?_); (case s1 => exact cC_ (Kd.N_reads' HO_6.out).2.2); (case s2 => exact (Kd.N_reads' HO_6.out).2.1); (case s3 => exact cC_ (Kd.N_reads' HO_3.out).2.2); (case s4 => exact (Kd.N_reads' HO_3.out).2.1); rintro e w36 ⟨rfl, hb⟩; refine ⟨_, rfl, ?_⟩; replace HO_3 := A_ (Kd.N_below (vN_ HO_3.out) hb); replace HO_4 := A_ (Kd.R_below (vR_ HO_4.out) hb); replace HO_5 := A_ (Kd.R_below (vR_ HO_5.out) hb); replace HO_6 := A_ (Kd.N_below (vN_ HO_6.out) hb); replace HB := A_ (below_step bB_ hb); (try clear hb)))
           go_ret
           exact ⟨rr_, bB_⟩
         · replace c33 := Bool.eq_false_iff.mpr c33
           subst c33
           rw [if_neg nf_] at H
           obtain ⟨t1270, A37, H⟩ := bo_ H
           (try dsimp only at H)
           obtain ⟨t1271, A38, H⟩ := bo_ H
           (try dsimp only at H)
           obtain ⟨t1272, A39, H⟩ := bo_ H
           (try dsimp only at H)
           have HC40 := Aside0.mk H
           clear H
           obtain ⟨Ao41, co41, eo41⟩ := Kd.N_slice HO_6.out
           subst eo41
           go_upto_region 13 with (first | ((with_reducible refine gate_callee (f := 42) rfl ?_); refine gL_ (some 63) Try.func42 #[.slice Ao41 t1258.length co41, .slice Ao10 t1250.length co10] ?_; (with_reducible refine (impl_FindRes.calls kj30 _ _ t1258 _ _ t1250 t1270 _ ?s1 ?s2 ?s3 ?s4 A37.out).mono ?_); (case s1 => exact cC_ (Kd.N_reads' HO_6.out).2.2); (case s2 => exact (Kd.N_reads' HO_6.out).2.1); (case s3 => exact cC_ (Kd.R_reads' HO_4.out).2.2); (case s4 => exact (Kd.R_reads' HO_4.out).2.1); rintro e w42 ⟨rfl, hb⟩; refine ⟨_, rfl, ?_⟩; replace HO_3 := A_ (Kd.N_below (vN_ HO_3.out) hb); replace HO_4 := A_ (Kd.R_below (vR_ HO_4.out) hb); replace HO_5 := A_ (Kd.R_below (vR_ HO_5.out) hb); replace HO_6 := A_ (Kd.N_below (vN_ HO_6.out) hb); replace HB := A_ (below_step bB_ hb); (try clear hb); obtain ⟨Ao43, co43, eo43⟩ := Kd.R_slice HO_5.out; subst eo43) | ((with_reducible refine gate_callee (f := 42) rfl ?_); refine gL_ (some 66) Try.func42 #[.slice Ao9 t1249.length co9, .slice Ao43 t1251.length co43] ?_; (with_reducible refine (impl_FindRes.calls kj30 _ _ t1249 _ _ t1251 t1271 _ ?s1 ?s2 ?s3 ?s4 A38.out).mono ?_); (case s1 => exact cC_ (Kd.N_reads' HO_3.out).2.2); (case s2 => exact (Kd.N_reads' HO_3.out).2.1); (case s3 => exact cC_ (Kd.R_reads' HO_5.out).2.2); (case s4 => exact (Kd.R_reads' HO_5.out).2.1); rintro e w44 ⟨rfl, hb⟩; refine ⟨_, rfl, ?_⟩; replace HO_3 := A_ (Kd.N_below (vN_ HO_3.out) hb); replace HO_4 := A_ (Kd.R_below (vR_ HO_4.out) hb); replace HO_5 := A_ (Kd.R_below (vR_ HO_5.out) hb); replace HO_6 := A_ (Kd.N_below (vN_ HO_6.out) hb); replace HB := A_ (below_step bB_ hb); (try clear hb)) | ((with_reducible refine gate_callee (f := 42) rfl ?_); refine gL_ (some 69) Try.func42 #[.slice Ao41 t1258.length co41, .slice Ao43 t1251.length co43] ?_; (with_reducible refine (impl_FindRes.calls kj30 _ _ t1258 _ _ t1251 t1272 _ ?s1 ?s2 ?s3 ?s4 A39.out).mono ?_); (case s1 => exact cC_ (Kd.N_reads' HO_6.out).2.2); (case s2 => exact (Kd.N_reads' HO_6.out).2.1); (case s3 => exact cC_ (Kd.R_reads' HO_5.out).2.2); (case s4 => exact (Kd.R_reads' HO_5.out).2.1); rintro e w45 ⟨rfl, hb⟩; refine ⟨_, rfl, ?_⟩; replace HO_3 := A_ (Kd.N_below (vN_ HO_3.out) hb); replace HO_4 := A_ (Kd.R_below (vR_ HO_4.out) hb); replace HO_5 := A_ (Kd.R_below (vR_ HO_5.out) hb); replace HO_6 := A_ (Kd.N_below (vN_ HO_6.out) hb); replace HB := A_ (below_step bB_ hb); (try clear hb)))
           (try simp only [Act.put, List.setIfInBounds_toArray, List.set_cons_zero, List.set_cons_succ])
           go_cut [103] (fun v103 wc => ∃ (kq : Nat) (x103_39 : Bool), v103 = .bool x103_39 ∧ Aside0 (laws_FnShelves.j2 kq t1249 t1250 t1251 t1258 t1271 t1272 x103_39 = some r) ∧ Aside0 (kq ≤ kj30) ∧ Aside0 (Kd.N k57 57 wc w.heap.size (fun k_ => some k_ ≠ ((.slice Ao10 t1250.length co10) : Value).ownBlock ∧ some k_ ≠ ((.slice Ao43 t1251.length co43) : Value).ownBlock ∧ some k_ ≠ ((.slice Ao41 t1258.length co41) : Value).ownBlock) (.slice Ao9 t1249.length co9) t1249) ∧ Aside0 (Kd.R Kd.string 9 wc w.heap.size (fun k_ => some k_ ≠ ((.slice Ao43 t1251.length co43) : Value).ownBlock) (.slice Ao10 t1250.length co10) t1250) ∧ Aside0 (Kd.R Kd.string 9 wc w.heap.size (fun k_ => some k_ ≠ ((.slice Ao10 t1250.length co10) : Value).ownBlock) (.slice Ao43 t1251.length co43) t1251) ∧ Aside0 (Kd.N k57 57 wc w.heap.size (fun k_ => some k_ ≠ ((.slice Ao9 t1249.length co9) : Value).ownBlock ∧ some k_ ≠ ((.slice Ao43 t1251.length co43) : Value).ownBlock) (.slice Ao41 t1258.length co41) t1258) ∧ Aside0 (Below w.heap.size w wc))
           case first =>
            have H := HC40.out
            clear HC40
            by_cases c46 : t1270 < 0
            · rw [if_pos c46] at H
              have c46b0 : decide (t1270 < 0) = true := decide_eq_true c46
              clear c46
              (first | rw [c46b0] | (simp only [i64_w, i32_w]; rw [c46b0]) | skip)
              have H' := Aside0.mk H
              clear H
              go_wp2
              go_meet
              case rel => exact ⟨_, (true), rs_, H', ⟨by have := HJ6.out; have := HJ30.out; first | omega | exact Nat.le_refl _⟩, ⟨vN_ HO_3.out⟩, ⟨vR_ HO_4.out⟩, ⟨vR_ HO_5.out⟩, ⟨vN_ HO_6.out⟩, ⟨bB_⟩⟩
            rw [if_neg c46] at H
            have c46b0 : decide (t1270 < 0) = false := decide_eq_false c46
            clear c46
            (first | rw [c46b0] | (simp only [i64_w, i32_w]; rw [c46b0]) | skip)
            by_cases c47 : 0 ≤ t1270
            rotate_left
            · exact absurd H (by rw [if_neg c47]; simp)
            rw [if_pos c47] at H
            have c47b0 : decide (0 ≤ t1270) = true := decide_eq_true c47
            clear c47
            by_cases c48 : t1270 < (t1258.length : Int)
            rotate_left
            · exact absurd H (by rw [if_neg c48]; simp)
            rw [if_pos c48] at H
            have c48b0 : decide (t1270 < (t1258.length : Int)) = true := decide_eq_true c48
            clear c48
            by_cases c49 : ((rd_T57 t1258 t1270).f2).toList = ([110, 101, 119] : List UInt8)
            rotate_left
            · rw [if_neg c49] at H
              have c49b0 : (((rd_T57 t1258 t1270).f2).toList == ([110, 101, 119] : List UInt8)) = false := beq_eq_false_iff_ne.mpr c49
              have c49b1 : (((rd_T57 t1258 t1270).f2).toList != ([110, 101, 119] : List UInt8)) = true := bne_iff_ne.mpr c49
              have H' := Aside0.mk H
              clear H
              have p1273 : 0 ≤ (t1270 : Int) := of_decide_eq_true as_
              have q1273 : t1270 < (t1258.length : Int) := of_decide_eq_true as_
              obtain ⟨ad1273, A1273_0, c1273_0, A1273_4, c1273_4, e1273, hx1273_0, hx1273_1, hx1273_2, hx1273_3, hx1273_4, hl1273_0, hi1273_0, hl1273_4, hi1273_4⟩ := at_T57 (Kd.N_reads' HO_6.out).2.2 t1270 p1273 q1273
              cases e1273
              obtain ⟨ce1273, hce1273, hMe1273, hcc1273⟩ := Kd.N_get HO_6.out z57 t1270 p1273 (by first | exact q1273 | exact of_decide_eq_true as_ | (have e_ := (Kd.N_reads' HO_6.out).1; omega))
              obtain ⟨ua1273_0, uc1273_0, ua1273_4, uc1273_4, rfl, ul1273_0, ge1273_0, ul1273_4, ge1273_4⟩ := k57_openF hMe1273
              have hv1273_0 := hcc1273 0 _ rfl
              rw [Nat.add_zero] at hv1273_0
              replace hv1273_0 := Option.some.inj (hv1273_0.symm.trans hx1273_0)
              injection hv1273_0 with hva_ hvn_ hvc_
              rw [hva_] at ge1273_0
              rw [hvc_] at ul1273_0
              have HL1273_0 := A_ (show Kd.V Kd.string 9 _ w.heap.size _ _ ((rd_T57 t1258 t1270).f0) from Kd.V_mk ul1273_0 ge1273_0)
              clear hva_ hvn_ hvc_ ge1273_0 ul1273_0
              have hv1273_4 := hcc1273 4 _ rfl
              rw [add_field _ _ 4 (by omega)] at hv1273_4
              replace hv1273_4 := Option.some.inj (hv1273_4.symm.trans hx1273_4)
              injection hv1273_4 with hva_ hvn_ hvc_
              rw [hva_] at ge1273_4
              rw [hvc_] at ul1273_4
              have HL1273_4 := A_ (show Kd.V k72 72 _ w.heap.size _ _ ((rd_T57 t1258 t1270).f4) from Kd.V_mk ul1273_4 ge1273_4)
              clear hva_ hvn_ hvc_ ge1273_4 ul1273_4
              clear hcc1273 hce1273
              have HR1273_0 := Aside0.mk hi1273_0
              have HC1273_0 := Aside0.mk hl1273_0
              clear hi1273_0 hl1273_0
              have HR1273_4 := Aside0.mk hi1273_4
              have HC1273_4 := Aside0.mk hl1273_4
              clear hi1273_4 hl1273_4
              replace p1273 := eq_true p1273
              replace q1273 := eq_true q1273
              go_wp2
              go_meet
              case rel => exact ⟨_, (true), rs_, H', ⟨by have := HJ6.out; have := HJ30.out; first | omega | exact Nat.le_refl _⟩, ⟨vN_ HO_3.out⟩, ⟨vR_ HO_4.out⟩, ⟨vR_ HO_5.out⟩, ⟨vN_ HO_6.out⟩, ⟨bB_⟩⟩
            rw [if_pos c49] at H
            have c49b0 : (((rd_T57 t1258 t1270).f2).toList == ([110, 101, 119] : List UInt8)) = true := beq_iff_eq.mpr c49
            have c49b1 : (((rd_T57 t1258 t1270).f2).toList != ([110, 101, 119] : List UInt8)) = false := bne_eq_false_iff_eq.mpr c49
            clear c49
            by_cases c50 : ((rd_T57 t1258 t1270).f3) = 77
            rotate_left
            · rw [if_neg c50] at H
              have c50b0 : (((rd_T57 t1258 t1270).f3) == 77) = false := beq_eq_false_iff_ne.mpr c50
              have c50b1 : (((rd_T57 t1258 t1270).f3) != 77) = true := bne_iff_ne.mpr c50
              have H' := Aside0.mk H
              clear H
              have p1273 : 0 ≤ (t1270 : Int) := of_decide_eq_true as_
              have q1273 : t1270 < (t1258.length : Int) := of_decide_eq_true as_
              obtain ⟨ad1273, A1273_0, c1273_0, A1273_4, c1273_4, e1273, hx1273_0, hx1273_1, hx1273_2, hx1273_3, hx1273_4, hl1273_0, hi1273_0, hl1273_4, hi1273_4⟩ := at_T57 (Kd.N_reads' HO_6.out).2.2 t1270 p1273 q1273
              cases e1273
              obtain ⟨ce1273, hce1273, hMe1273, hcc1273⟩ := Kd.N_get HO_6.out z57 t1270 p1273 (by first | exact q1273 | exact of_decide_eq_true as_ | (have e_ := (Kd.N_reads' HO_6.out).1; omega))
              obtain ⟨ua1273_0, uc1273_0, ua1273_4, uc1273_4, rfl, ul1273_0, ge1273_0, ul1273_4, ge1273_4⟩ := k57_openF hMe1273
              have hv1273_0 := hcc1273 0 _ rfl
              rw [Nat.add_zero] at hv1273_0
              replace hv1273_0 := Option.some.inj (hv1273_0.symm.trans hx1273_0)
              injection hv1273_0 with hva_ hvn_ hvc_
              rw [hva_] at ge1273_0
              rw [hvc_] at ul1273_0
              have HL1273_0 := A_ (show Kd.V Kd.string 9 _ w.heap.size _ _ ((rd_T57 t1258 t1270).f0) from Kd.V_mk ul1273_0 ge1273_0)
              clear hva_ hvn_ hvc_ ge1273_0 ul1273_0
              have hv1273_4 := hcc1273 4 _ rfl
              rw [add_field _ _ 4 (by omega)] at hv1273_4
              replace hv1273_4 := Option.some.inj (hv1273_4.symm.trans hx1273_4)
              injection hv1273_4 with hva_ hvn_ hvc_
              rw [hva_] at ge1273_4
              rw [hvc_] at ul1273_4
              have HL1273_4 := A_ (show Kd.V k72 72 _ w.heap.size _ _ ((rd_T57 t1258 t1270).f4) from Kd.V_mk ul1273_4 ge1273_4)
              clear hva_ hvn_ hvc_ ge1273_4 ul1273_4
              clear hcc1273 hce1273
              have HR1273_0 := Aside0.mk hi1273_0
              have HC1273_0 := Aside0.mk hl1273_0
              clear hi1273_0 hl1273_0
              have HR1273_4 := Aside0.mk hi1273_4
              have HC1273_4 := Aside0.mk hl1273_4
              clear hi1273_4 hl1273_4
              replace p1273 := eq_true p1273
              replace q1273 := eq_true q1273
              have p1274 : 0 ≤ (t1270 : Int) := of_decide_eq_true as_
              have q1274 : t1270 < (t1258.length : Int) := of_decide_eq_true as_
              obtain ⟨ad1274, A1274_0, c1274_0, A1274_4, c1274_4, e1274, hx1274_0, hx1274_1, hx1274_2, hx1274_3, hx1274_4, hl1274_0, hi1274_0, hl1274_4, hi1274_4⟩ := at_T57 (Kd.N_reads' HO_6.out).2.2 t1270 p1274 q1274
              obtain rfl : ad1273 = ad1274 := (by injection e1274)
              obtain ⟨ce1274, hce1274, hMe1274, hcc1274⟩ := Kd.N_get HO_6.out z57 t1270 p1274 (by first | exact q1274 | exact of_decide_eq_true as_ | (have e_ := (Kd.N_reads' HO_6.out).1; omega))
              obtain ⟨ua1274_0, uc1274_0, ua1274_4, uc1274_4, rfl, ul1274_0, ge1274_0, ul1274_4, ge1274_4⟩ := k57_openF hMe1274
              have hv1274_0 := hcc1274 0 _ rfl
              rw [Nat.add_zero] at hv1274_0
              replace hv1274_0 := Option.some.inj (hv1274_0.symm.trans hx1274_0)
              injection hv1274_0 with hva_ hvn_ hvc_
              rw [hva_] at ge1274_0
              rw [hvc_] at ul1274_0
              have HL1274_0 := A_ (show Kd.V Kd.string 9 _ w.heap.size _ _ ((rd_T57 t1258 t1270).f0) from Kd.V_mk ul1274_0 ge1274_0)
              clear hva_ hvn_ hvc_ ge1274_0 ul1274_0
              have hv1274_4 := hcc1274 4 _ rfl
              rw [add_field _ _ 4 (by omega)] at hv1274_4
              replace hv1274_4 := Option.some.inj (hv1274_4.symm.trans hx1274_4)
              injection hv1274_4 with hva_ hvn_ hvc_
              rw [hva_] at ge1274_4
              rw [hvc_] at ul1274_4
              have HL1274_4 := A_ (show Kd.V k72 72 _ w.heap.size _ _ ((rd_T57 t1258 t1270).f4) from Kd.V_mk ul1274_4 ge1274_4)
              clear hva_ hvn_ hvc_ ge1274_4 ul1274_4
              clear hcc1274 hce1274
              have HR1274_0 := Aside0.mk hi1274_0
              have HC1274_0 := Aside0.mk hl1274_0
              clear hi1274_0 hl1274_0
              have HR1274_4 := Aside0.mk hi1274_4
              have HC1274_4 := Aside0.mk hl1274_4
              clear hi1274_4 hl1274_4
              replace p1274 := eq_true p1274
              replace q1274 := eq_true q1274
              have ea_ := Option.some.inj (hx1273_0.symm.trans hx1274_0)
              injection ea_ with ea_ en_ ec_
              subst ea_
              subst ec_
              clear en_
              have ea_ := Option.some.inj (hx1273_4.symm.trans hx1274_4)
              injection ea_ with ea_ en_ ec_
              subst ea_
              subst ec_
              clear en_
              go_wp2
              go_meet
              case rel => exact ⟨_, (true), rs_, H', ⟨by have := HJ6.out; have := HJ30.out; first | omega | exact Nat.le_refl _⟩, ⟨vN_ HO_3.out⟩, ⟨vR_ HO_4.out⟩, ⟨vR_ HO_5.out⟩, ⟨vN_ HO_6.out⟩, ⟨bB_⟩⟩
            rw [if_pos c50] at H
            have c50b0 : (((rd_T57 t1258 t1270).f3) == 77) = true := beq_iff_eq.mpr c50
            have c50b1 : (((rd_T57 t1258 t1270).f3) != 77) = false := bne_eq_false_iff_eq.mpr c50
            clear c50
            obtain ⟨t1275, A51, H⟩ := bo_ H
            (try dsimp only at H)
            obtain ⟨t1278, A52, H⟩ := bo_ H
            (try dsimp only at H)
            by_cases c53 : t1278 = true
            · subst c53
              rw [if_pos rfl] at H
              obtain ⟨t1279, A54, H⟩ := bo_ H
              (try dsimp only at H)
              have H' := Aside0.mk H
              clear H
              have p1273 : 0 ≤ (t1270 : Int) := of_decide_eq_true as_
              have q1273 : t1270 < (t1258.length : Int) := of_decide_eq_true as_
              obtain ⟨ad1273, A1273_0, c1273_0, A1273_4, c1273_4, e1273, hx1273_0, hx1273_1, hx1273_2, hx1273_3, hx1273_4, hl1273_0, hi1273_0, hl1273_4, hi1273_4⟩ := at_T57 (Kd.N_reads' HO_6.out).2.2 t1270 p1273 q1273
              cases e1273
              obtain ⟨ce1273, hce1273, hMe1273, hcc1273⟩ := Kd.N_get HO_6.out z57 t1270 p1273 (by first | exact q1273 | exact of_decide_eq_true as_ | (have e_ := (Kd.N_reads' HO_6.out).1; omega))
              obtain ⟨ua1273_0, uc1273_0, ua1273_4, uc1273_4, rfl, ul1273_0, ge1273_0, ul1273_4, ge1273_4⟩ := k57_openF hMe1273
              have hv1273_0 := hcc1273 0 _ rfl
              rw [Nat.add_zero] at hv1273_0
              replace hv1273_0 := Option.some.inj (hv1273_0.symm.trans hx1273_0)
              injection hv1273_0 with hva_ hvn_ hvc_
              rw [hva_] at ge1273_0
              rw [hvc_] at ul1273_0
              have HL1273_0 := A_ (show Kd.V Kd.string 9 _ w.heap.size _ _ ((rd_T57 t1258 t1270).f0) from Kd.V_mk ul1273_0 ge1273_0)
              clear hva_ hvn_ hvc_ ge1273_0 ul1273_0
              have hv1273_4 := hcc1273 4 _ rfl
              rw [add_field _ _ 4 (by omega)] at hv1273_4
              replace hv1273_4 := Option.some.inj (hv1273_4.symm.trans hx1273_4)
              injection hv1273_4 with hva_ hvn_ hvc_
              rw [hva_] at ge1273_4
              rw [hvc_] at ul1273_4
              have HL1273_4 := A_ (show Kd.V k72 72 _ w.heap.size _ _ ((rd_T57 t1258 t1270).f4) from Kd.V_mk ul1273_4 ge1273_4)
              clear hva_ hvn_ hvc_ ge1273_4 ul1273_4
              clear hcc1273 hce1273
              have HR1273_0 := Aside0.mk hi1273_0
              have HC1273_0 := Aside0.mk hl1273_0
              clear hi1273_0 hl1273_0
              have HR1273_4 := Aside0.mk hi1273_4
              have HC1273_4 := Aside0.mk hl1273_4
              clear hi1273_4 hl1273_4
              replace p1273 := eq_true p1273
              replace q1273 := eq_true q1273
              have p1274 : 0 ≤ (t1270 : Int) := of_decide_eq_true as_
              have q1274 : t1270 < (t1258.length : Int) := of_decide_eq_true as_
              obtain ⟨ad1274, A1274_0, c1274_0, A1274_4, c1274_4, e1274, hx1274_0, hx1274_1, hx1274_2, hx1274_3, hx1274_4, hl1274_0, hi1274_0, hl1274_4, hi1274_4⟩ := at_T57 (Kd.N_reads' HO_6.out).2.2 t1270 p1274 q1274
              obtain rfl : ad1273 = ad1274 := (by injection e1274)
              obtain ⟨ce1274, hce1274, hMe1274, hcc1274⟩ := Kd.N_get HO_6.out z57 t1270 p1274 (by first | exact q1274 | exact of_decide_eq_true as_ | (have e_ := (Kd.N_reads' HO_6.out).1; omega))
              obtain ⟨ua1274_0, uc1274_0, ua1274_4, uc1274_4, rfl, ul1274_0, ge1274_0, ul1274_4, ge1274_4⟩ := k57_openF hMe1274
              have hv1274_0 := hcc1274 0 _ rfl
              rw [Nat.add_zero] at hv1274_0
              replace hv1274_0 := Option.some.inj (hv1274_0.symm.trans hx1274_0)
              injection hv1274_0 with hva_ hvn_ hvc_
              rw [hva_] at ge1274_0
              rw [hvc_] at ul1274_0
              have HL1274_0 := A_ (show Kd.V Kd.string 9 _ w.heap.size _ _ ((rd_T57 t1258 t1270).f0) from Kd.V_mk ul1274_0 ge1274_0)
              clear hva_ hvn_ hvc_ ge1274_0 ul1274_0
              have hv1274_4 := hcc1274 4 _ rfl
              rw [add_field _ _ 4 (by omega)] at hv1274_4
              replace hv1274_4 := Option.some.inj (hv1274_4.symm.trans hx1274_4)
              injection hv1274_4 with hva_ hvn_ hvc_
              rw [hva_] at ge1274_4
              rw [hvc_] at ul1274_4
              have HL1274_4 := A_ (show Kd.V k72 72 _ w.heap.size _ _ ((rd_T57 t1258 t1270).f4) from Kd.V_mk ul1274_4 ge1274_4)
              clear hva_ hvn_ hvc_ ge1274_4 ul1274_4
              clear hcc1274 hce1274
              have HR1274_0 := Aside0.mk hi1274_0
              have HC1274_0 := Aside0.mk hl1274_0
              clear hi1274_0 hl1274_0
              have HR1274_4 := Aside0.mk hi1274_4
              have HC1274_4 := Aside0.mk hl1274_4
              clear hi1274_4 hl1274_4
              replace p1274 := eq_true p1274
              replace q1274 := eq_true q1274
              have ea_ := Option.some.inj (hx1273_0.symm.trans hx1274_0)
              injection ea_ with ea_ en_ ec_
              subst ea_
              subst ec_
              clear en_
              have ea_ := Option.some.inj (hx1273_4.symm.trans hx1274_4)
              injection ea_ with ea_ en_ ec_
              subst ea_
              subst ec_
              clear en_
              go_wp2_with (first | (go_at_call 44; (with_reducible refine (impl_Above.calls _ _ t1250 t1275 _ ?s1 ?s2 A51.out).mono ?_); (case s1 => exact cC_ (Kd.R_reads' HO_4.out).2.2); (case s2 => exact (Kd.R_reads' HO_4.out).2.1); rintro e w55 ⟨v1276, rfl, ho0, hb⟩; replace HO_3 := A_ (Kd.N_elder' (vN_ HO_3.out) (kb_ ho0) hb); replace HO_6 := A_ (Kd.N_elder' (vN_ HO_6.out) (kb_ ho0) hb); replace HL1273_0 := A_ (Kd.V_elder' (vV_ HL1273_0.out) (kb_ ho0) hb); replace HL1273_4 := A_ (Kd.V_elder' (vV_ HL1273_4.out) (kb_ ho0) hb); replace HL1274_0 := A_ (Kd.V_elder' (vV_ HL1274_0.out) (kb_ ho0) hb); replace HL1274_4 := A_ (Kd.V_elder' (vV_ HL1274_4.out) (kb_ ho0) hb); have HO1277 := A_ (Kd.R_lower (Kd.R_new' (Kd.R_new' ho0 (Kd.R_lt (vR_ HO_4.out))) (Kd.R_lt (vR_ HO_5.out))) (below_size bB_)); replace HO_4 := A_ (Kd.R_elder' (vR_ HO_4.out) (kb_ ho0) hb); replace HO_5 := A_ (Kd.R_elder' (vR_ HO_5.out) (kb_ ho0) hb); replace HR1273_0 := A_ (Kd.C_below (cC_ HR1273_0.out) hb); replace HR1273_4 := A_ (Kd.C_below (cC_ HR1273_4.out) hb); replace HR1274_0 := A_ (Kd.C_below (cC_ HR1274_0.out) hb); replace HR1274_4 := A_ (Kd.C_below (cC_ HR1274_4.out) hb); replace HB := A_ (below_step bB_ hb); (try clear hb); (try clear ho0); obtain ⟨Ao56, co56, eo56⟩ := Kd.R_slice HO1277.out; subst eo56) | (go_at_call 43; (with_reducible refine (impl_IsColl.calls kj30 _ _ t1258 _ _ t1275 true _ ?s1 ?s2 ?s3 ?s4 A52.out).mono ?_); (case s1 => exact cC_ (Kd.N_reads' HO_6.out).2.2); (case s2 => exact (Kd.N_reads' HO_6.out).2.1); (case s3 => exact cC_ (Kd.R_reads' HO1277.out).2.2); (case s4 => exact (Kd.R_reads' HO1277.out).2.1); rintro e w57 ⟨rfl, hb⟩; replace HO_3 := A_ (Kd.N_below (vN_ HO_3.out) hb); replace HO_4 := A_ (Kd.R_below (vR_ HO_4.out) hb); replace HO_5 := A_ (Kd.R_below (vR_ HO_5.out) hb); replace HO_6 := A_ (Kd.N_below (vN_ HO_6.out) hb); replace HL1273_0 := A_ (Kd.V_below (vV_ HL1273_0.out) hb); replace HL1273_4 := A_ (Kd.V_below (vV_ HL1273_4.out) hb); replace HL1274_0 := A_ (Kd.V_below (vV_ HL1274_0.out) hb); replace HL1274_4 := A_ (Kd.V_below (vV_ HL1274_4.out) hb); replace HO1277 := A_ (Kd.R_below (vR_ HO1277.out) hb); replace HR1273_0 := A_ (Kd.C_below (cC_ HR1273_0.out) hb); replace HR1273_4 := A_ (Kd.C_below (cC_ HR1273_4.out) hb); replace HR1274_0 := A_ (Kd.C_below (cC_ HR1274_0.out) hb); replace HR1274_4 := A_ (Kd.C_below (cC_ HR1274_4.out) hb); replace HB := A_ (below_step bB_ hb); (try clear hb)) | (go_at_call 42; (with_reducible refine (impl_FindRes.calls kj30 _ _ t1249 _ _ t1250 t1279 _ ?s1 ?s2 ?s3 ?s4 A54.out).mono ?_); (case s1 => exact cC_ (Kd.N_reads' HO_3.out).2.2); (case s2 => exact (Kd.N_reads' HO_3.out).2.1); (case s3 => exact cC_ (Kd.R_reads' HO_4.out).2.2); (case s4 => exact (Kd.R_reads' HO_4.out).2.1); rintro e w58 ⟨rfl, hb⟩; replace HO_3 := A_ (Kd.N_below (vN_ HO_3.out) hb); replace HO_4 := A_ (Kd.R_below (vR_ HO_4.out) hb); replace HO_5 := A_ (Kd.R_below (vR_ HO_5.out) hb); replace HO_6 := A_ (Kd.N_below (vN_ HO_6.out) hb); replace HL1273_0 := A_ (Kd.V_below (vV_ HL1273_0.out) hb); replace HL1273_4 := A_ (Kd.V_below (vV_ HL1273_4.out) hb); replace HL1274_0 := A_ (Kd.V_below (vV_ HL1274_0.out) hb); replace HL1274_4 := A_ (Kd.V_below (vV_ HL1274_4.out) hb); replace HO1277 := A_ (Kd.R_below (vR_ HO1277.out) hb); replace HR1273_0 := A_ (Kd.C_below (cC_ HR1273_0.out) hb); replace HR1273_4 := A_ (Kd.C_below (cC_ HR1273_4.out) hb); replace HR1274_0 := A_ (Kd.C_below (cC_ HR1274_0.out) hb); replace HR1274_4 := A_ (Kd.C_below (cC_ HR1274_4.out) hb); replace HB := A_ (below_step bB_ hb); (try clear hb)))
              go_meet
              case rel => exact ⟨_, (((t1261 == 201) != (decide (t1279 < 0)))), rs_, H', ⟨by have := HJ6.out; have := HJ30.out; first | omega | exact Nat.le_refl _⟩, ⟨by (with_reducible repeat (first | apply Kd.N_alloc | apply Kd.N_drewN | apply Kd.N_drew)); exact Kd.N_mono HO_3.out (fun _ hk => ⟨hk.1.1, ⟨hk.1.2.1, hk.1.2.2⟩⟩)⟩, ⟨by (with_reducible repeat (first | apply Kd.R_alloc | apply Kd.R_drewN | apply Kd.R_drew)); exact Kd.R_mono HO_4.out (fun _ hk => hk.1)⟩, ⟨by (with_reducible repeat (first | apply Kd.R_alloc | apply Kd.R_drewN | apply Kd.R_drew)); exact Kd.R_mono HO_5.out (fun _ hk => hk.1)⟩, ⟨by (with_reducible repeat (first | apply Kd.N_alloc | apply Kd.N_drewN | apply Kd.N_drew)); exact Kd.N_mono HO_6.out (fun _ hk => ⟨hk.1.1, hk.1.2⟩)⟩, ⟨bB_⟩⟩
            · replace c53 := Bool.eq_false_iff.mpr c53
              subst c53
              rw [if_neg nf_] at H
              have H' := Aside0.mk H
              clear H
              have p1273 : 0 ≤ (t1270 : Int) := of_decide_eq_true as_
              have q1273 : t1270 < (t1258.length : Int) := of_decide_eq_true as_
              obtain ⟨ad1273, A1273_0, c1273_0, A1273_4, c1273_4, e1273, hx1273_0, hx1273_1, hx1273_2, hx1273_3, hx1273_4, hl1273_0, hi1273_0, hl1273_4, hi1273_4⟩ := at_T57 (Kd.N_reads' HO_6.out).2.2 t1270 p1273 q1273
              cases e1273
              obtain ⟨ce1273, hce1273, hMe1273, hcc1273⟩ := Kd.N_get HO_6.out z57 t1270 p1273 (by first | exact q1273 | exact of_decide_eq_true as_ | (have e_ := (Kd.N_reads' HO_6.out).1; omega))
              obtain ⟨ua1273_0, uc1273_0, ua1273_4, uc1273_4, rfl, ul1273_0, ge1273_0, ul1273_4, ge1273_4⟩ := k57_openF hMe1273
              have hv1273_0 := hcc1273 0 _ rfl
              rw [Nat.add_zero] at hv1273_0
              replace hv1273_0 := Option.some.inj (hv1273_0.symm.trans hx1273_0)
              injection hv1273_0 with hva_ hvn_ hvc_
              rw [hva_] at ge1273_0
              rw [hvc_] at ul1273_0
              have HL1273_0 := A_ (show Kd.V Kd.string 9 _ w.heap.size _ _ ((rd_T57 t1258 t1270).f0) from Kd.V_mk ul1273_0 ge1273_0)
              clear hva_ hvn_ hvc_ ge1273_0 ul1273_0
              have hv1273_4 := hcc1273 4 _ rfl
              rw [add_field _ _ 4 (by omega)] at hv1273_4
              replace hv1273_4 := Option.some.inj (hv1273_4.symm.trans hx1273_4)
              injection hv1273_4 with hva_ hvn_ hvc_
              rw [hva_] at ge1273_4
              rw [hvc_] at ul1273_4
              have HL1273_4 := A_ (show Kd.V k72 72 _ w.heap.size _ _ ((rd_T57 t1258 t1270).f4) from Kd.V_mk ul1273_4 ge1273_4)
              clear hva_ hvn_ hvc_ ge1273_4 ul1273_4
              clear hcc1273 hce1273
              have HR1273_0 := Aside0.mk hi1273_0
              have HC1273_0 := Aside0.mk hl1273_0
              clear hi1273_0 hl1273_0
              have HR1273_4 := Aside0.mk hi1273_4
              have HC1273_4 := Aside0.mk hl1273_4
              clear hi1273_4 hl1273_4
              replace p1273 := eq_true p1273
              replace q1273 := eq_true q1273
              have p1274 : 0 ≤ (t1270 : Int) := of_decide_eq_true as_
              have q1274 : t1270 < (t1258.length : Int) := of_decide_eq_true as_
              obtain ⟨ad1274, A1274_0, c1274_0, A1274_4, c1274_4, e1274, hx1274_0, hx1274_1, hx1274_2, hx1274_3, hx1274_4, hl1274_0, hi1274_0, hl1274_4, hi1274_4⟩ := at_T57 (Kd.N_reads' HO_6.out).2.2 t1270 p1274 q1274
              obtain rfl : ad1273 = ad1274 := (by injection e1274)
              obtain ⟨ce1274, hce1274, hMe1274, hcc1274⟩ := Kd.N_get HO_6.out z57 t1270 p1274 (by first | exact q1274 | exact of_decide_eq_true as_ | (have e_ := (Kd.N_reads' HO_6.out).1; omega))
              obtain ⟨ua1274_0, uc1274_0, ua1274_4, uc1274_4, rfl, ul1274_0, ge1274_0, ul1274_4, ge1274_4⟩ := k57_openF hMe1274
              have hv1274_0 := hcc1274 0 _ rfl
              rw [Nat.add_zero] at hv1274_0
              replace hv1274_0 := Option.some.inj (hv1274_0.symm.trans hx1274_0)
              injection hv1274_0 with hva_ hvn_ hvc_
              rw [hva_] at ge1274_0
              rw [hvc_] at ul1274_0
              have HL1274_0 := A_ (show Kd.V Kd.string 9 _ w.heap.size _ _ ((rd_T57 t1258 t1270).f0) from Kd.V_mk ul1274_0 ge1274_0)
              clear hva_ hvn_ hvc_ ge1274_0 ul1274_0
              have hv1274_4 := hcc1274 4 _ rfl
              rw [add_field _ _ 4 (by omega)] at hv1274_4
              replace hv1274_4 := Option.some.inj (hv1274_4.symm.trans hx1274_4)
              injection hv1274_4 with hva_ hvn_ hvc_
              rw [hva_] at ge1274_4
              rw [hvc_] at ul1274_4
              have HL1274_4 := A_ (show Kd.V k72 72 _ w.heap.size _ _ ((rd_T57 t1258 t1270).f4) from Kd.V_mk ul1274_4 ge1274_4)
              clear hva_ hvn_ hvc_ ge1274_4 ul1274_4
              clear hcc1274 hce1274
              have HR1274_0 := Aside0.mk hi1274_0
              have HC1274_0 := Aside0.mk hl1274_0
              clear hi1274_0 hl1274_0
              have HR1274_4 := Aside0.mk hi1274_4
              have HC1274_4 := Aside0.mk hl1274_4
              clear hi1274_4 hl1274_4
              replace p1274 := eq_true p1274
              replace q1274 := eq_true q1274
              have ea_ := Option.some.inj (hx1273_0.symm.trans hx1274_0)
              injection ea_ with ea_ en_ ec_
              subst ea_
              subst ec_
              clear en_
              have ea_ := Option.some.inj (hx1273_4.symm.trans hx1274_4)
              injection ea_ with ea_ en_ ec_
              subst ea_
              subst ec_
              clear en_
              go_wp2_with (first | (go_at_call 44; (with_reducible refine (impl_Above.calls _ _ t1250 t1275 _ ?s1 ?s2 A51.out).mono ?_); (case s1 => exact cC_ (Kd.R_reads' HO_4.out).2.2); (case s2 => exact (Kd.R_reads' HO_4.out).2.1); rintro e w59 ⟨v1276, rfl, ho0, hb⟩; replace HO_3 := A_ (Kd.N_elder' (vN_ HO_3.out) (kb_ ho0) hb); replace HO_6 := A_ (Kd.N_elder' (vN_ HO_6.out) (kb_ ho0) hb); replace HL1273_0 := A_ (Kd.V_elder' (vV_ HL1273_0.out) (kb_ ho0) hb); replace HL1273_4 := A_ (Kd.V_elder' (vV_ HL1273_4.out) (kb_ ho0) hb); replace HL1274_0 := A_ (Kd.V_elder' (vV_ HL1274_0.out) (kb_ ho0) hb); replace HL1274_4 := A_ (Kd.V_elder' (vV_ HL1274_4.out) (kb_ ho0) hb); have HO1277 := A_ (Kd.R_lower (Kd.R_new' (Kd.R_new' ho0 (Kd.R_lt (vR_ HO_4.out))) (Kd.R_lt (vR_ HO_5.out))) (below_size bB_)); replace HO_4 := A_ (Kd.R_elder' (vR_ HO_4.out) (kb_ ho0) hb); replace HO_5 := A_ (Kd.R_elder' (vR_ HO_5.out) (kb_ ho0) hb); replace HR1273_0 := A_ (Kd.C_below (cC_ HR1273_0.out) hb); replace HR1273_4 := A_ (Kd.C_below (cC_ HR1273_4.out) hb); replace HR1274_0 := A_ (Kd.C_below (cC_ HR1274_0.out) hb); replace HR1274_4 := A_ (Kd.C_below (cC_ HR1274_4.out) hb); replace HB := A_ (below_step bB_ hb); (try clear hb); (try clear ho0); obtain ⟨Ao60, co60, eo60⟩ := Kd.R_slice HO1277.out; subst eo60) | (go_at_call 43; (with_reducible refine (impl_IsColl.calls kj30 _ _ t1258 _ _ t1275 false _ ?s1 ?s2 ?s3 ?s4 A52.out).mono ?_); (case s1 => exact cC_ (Kd.N_reads' HO_6.out).2.2); (case s2 => exact (Kd.N_reads' HO_6.out).2.1); (case s3 => exact cC_ (Kd.R_reads' HO1277.out).2.2); (case s4 => exact (Kd.R_reads' HO1277.out).2.1); rintro e w61 ⟨rfl, hb⟩; replace HO_3 := A_ (Kd.N_below (vN_ HO_3.out) hb); replace HO_4 := A_ (Kd.R_below (vR_ HO_4.out) hb); replace HO_5 := A_ (Kd.R_below (vR_ HO_5.out) hb); replace HO_6 := A_ (Kd.N_below (vN_ HO_6.out) hb); replace HL1273_0 := A_ (Kd.V_below (vV_ HL1273_0.out) hb); replace HL1273_4 := A_ (Kd.V_below (vV_ HL1273_4.out) hb); replace HL1274_0 := A_ (Kd.V_below (vV_ HL1274_0.out) hb); replace HL1274_4 := A_ (Kd.V_below (vV_ HL1274_4.out) hb); replace HO1277 := A_ (Kd.R_below (vR_ HO1277.out) hb); replace HR1273_0 := A_ (Kd.C_below (cC_ HR1273_0.out) hb); replace HR1273_4 := A_ (Kd.C_below (cC_ HR1273_4.out) hb); replace HR1274_0 := A_ (Kd.C_below (cC_ HR1274_0.out) hb); replace HR1274_4 := A_ (Kd.C_below (cC_ HR1274_4.out) hb); replace HB := A_ (below_step bB_ hb); (try clear hb)))
              go_meet
              case rel => exact ⟨_, (true), rs_, H', ⟨by have := HJ6.out; have := HJ30.out; first | omega | exact Nat.le_refl _⟩, ⟨by (with_reducible repeat (first | apply Kd.N_alloc | apply Kd.N_drewN | apply Kd.N_drew)); exact Kd.N_mono HO_3.out (fun _ hk => ⟨hk.1.1, ⟨hk.1.2.1, hk.1.2.2⟩⟩)⟩, ⟨by (with_reducible repeat (first | apply Kd.R_alloc | apply Kd.R_drewN | apply Kd.R_drew)); exact Kd.R_mono HO_4.out (fun _ hk => hk.1)⟩, ⟨by (with_reducible repeat (first | apply Kd.R_alloc | apply Kd.R_drewN | apply Kd.R_drew)); exact Kd.R_mono HO_5.out (fun _ hk => hk.1)⟩, ⟨by (with_reducible repeat (first | apply Kd.N_alloc | apply Kd.N_drewN | apply Kd.N_drew)); exact Kd.N_mono HO_6.out (fun _ hk => ⟨hk.1.1, hk.1.2⟩)⟩, ⟨bB_⟩⟩
           case rest =>
            clear HC40
            try clear c1
            try clear p1
            try clear q1
            try clear hx1
            try clear c2
            try clear p2
            try clear c3
            try clear c4
            try clear c5
            try clear c9
            try clear c12
            try clear p12
            try clear q12
            try clear hx12
            try clear c14
            try clear c15
            try clear c15b0
            try clear c15b1
            try clear c17
            try clear c26
            try clear c27
            try clear c30
            try clear c32
            try clear c32b0
            try clear c32b1
            try clear c33
            try clear c38
            try clear c39
            try clear c40
            try clear c41
            try clear c42
            try clear c46
            try clear c46b0
            try clear c47
            try clear c47b0
            try clear c48
            try clear c48b0
            try clear c49
            try clear c49b0
            try clear c49b1
            try clear c50
            try clear c50b0
            try clear c50b1
            try clear c53
            try clear hx1273_0
            try clear hx1273_1
            try clear hx1273_2
            try clear hx1273_3
            try clear hx1273_4
            try clear hx1274_0
            try clear hx1274_1
            try clear hx1274_2
            try clear hx1274_3
            try clear hx1274_4
            try clear p1273
            try clear p1274
            try clear p2
            try clear q1273
            try clear q1274
            obtain ⟨kq, x103_39, rfl, HA, HJ39, HO_3, HO_4, HO_5, HO_6, HB⟩ := hcut
            cases kq with
            | zero => exact absurd HA.out (by simp [laws_FnShelves.j2])
            | succ kj39 =>
             have H := HA.out
             clear HA
             simp only [laws_FnShelves.j2] at H
             by_cases c62 : x103_39 = true
             · subst c62
               rw [if_pos rfl] at H
               obtain rfl := Option.some.inj H
               go_wp2
               go_ret
               exact ⟨rr_, bB_⟩
             · replace c62 := Bool.eq_false_iff.mpr c62
               subst c62
               rw [if_neg nf_] at H
               obtain ⟨t1280, A63, H⟩ := bo_ H
               (try dsimp only at H)
               by_cases c64 : t1280 = true
               · subst c64
                 rw [if_pos rfl] at H
                 obtain rfl := Option.some.inj H
                 try go_wp2
                 replace HO_3 := A_ (Kd.N_drew HO_3.out)
                 replace HO_4 := A_ (Kd.R_drew HO_4.out)
                 replace HO_5 := A_ (Kd.R_drew HO_5.out)
                 replace HO_6 := A_ (Kd.N_drew HO_6.out)
                 replace HB := A_ (below_drew1 HB.out)
                 refine start_ (n := 26) (S := fun w' => True) (ds := []) #[false, false, false, false, false, false, false, false, false, false, false, false, false, false, false, false, false, false, false, false, false, false, false, false, false, false] (by kernel_rfl) rfl rfl trivial (fun hHeld => ?_); refine with_tabW laws_FnShelves.tab15 laws_FnShelves.bits15 (fun HT_ HW_ => ?_)
                 generalize wc.drew = w65 at HO_3 HO_4 HO_5 HO_6 HB hHeld ⊢
                 refine pu_ (i := 0) (N := some 104) ?_
                 refine pu_ (i := 1) (N := some 105) ?_
                 refine on_ (i := 2) (N := some 106) (fun K hK => ?_)
                 refine goes_ Try.func45 (by kernel_rfl) rfl #[.slice Ao10 t1250.length co10, .slice Ao43 t1251.length co43] (by rfl) rfl rfl ml_ ?_
                 with_reducible refine (laws_sameTexts.calls kj39 _ _ t1250 _ _ t1251 true _ ?s1 ?s2 ?s3 ?s4 A63.out).mono ?_
                 (case s1 => exact cC_ (Kd.R_reads' HO_4.out).2.2)
                 (case s2 => exact (Kd.R_reads' HO_4.out).2.1)
                 (case s3 => exact cC_ (Kd.R_reads' HO_5.out).2.2)
                 (case s4 => exact (Kd.R_reads' HO_5.out).2.1)
                 rintro e w' ⟨rfl, ⟨nd, rfl⟩⟩
                 refine ⟨_, rfl, ?_⟩
                 refine hK.out _ _ trivial (fun hHeld => ?_)
                 clear hK K
                 refine no_ (some 106) ?_
                 refine pu_ (i := 3) (N := some 107) ?_
                 refine pn_ (i := 4) (N := some 108) ?_
                 refine pn_ (i := 5) (N := some 109) ?_
                 refine pn_ (i := 6) (N := some 110) ?_
                 refine pn_ (i := 7) (N := some 111) ?_
                 refine pn_ (i := 8) (N := some 112) ?_
                 refine pn_ (i := 9) (N := some 113) ?_
                 refine pn_ (i := 10) (N := some 114) ?_
                 refine pn_ (i := 11) (N := some 115) ?_
                 refine pn_ (i := 12) (N := some 116) ?_
                 refine pn_ (i := 13) (N := some 117) ?_
                 refine pn_ (i := 14) (N := some 118) ?_
                 refine pn_ (i := 15) (N := some 119) ?_
                 refine pn_ (i := 16) (N := some 120) ?_
                 refine pn_ (i := 17) (N := some 121) ?_
                 refine pn_ (i := 18) (N := some 122) ?_
                 refine pn_ (i := 19) (N := some 123) ?_
                 refine pn_ (i := 20) (N := some 124) ?_
                 refine pn_ (i := 21) (N := some 125) ?_
                 refine pn_ (i := 22) (N := some 126) ?_
                 refine pn_ (i := 23) (N := some 127) ?_
                 refine pu_ (i := 24) (N := some 128) ?_
                 refine pu_ (i := 25) (N := some 2) ?_
                 refine done_ (done_of HT_.out (by kernel_rfl)) ?_
                 (try clear hHeld)
                 try go_wp2
                 go_ret
                 exact ⟨rr_, bB_⟩
               · replace c64 := Bool.eq_false_iff.mpr c64
                 subst c64
                 rw [if_neg nf_] at H
                 by_cases c66 : ((decide (t1271 < 0)) == (decide (t1272 < 0))) = true
                 rotate_left
                 · rw [if_neg c66] at H
                   have c66b0 : ((decide (t1271 < 0)) == (decide (t1272 < 0))) = false := by simpa using c66
                   (try (have c66b1 : decide ((decide (t1271 < 0)) = (decide (t1272 < 0))) = false := by simpa using c66))
                   (try (have c66b2 : ((decide (t1271 < 0)) == (decide (t1272 < 0))) = false := by simpa using c66))
                   (try (have c66b3 : ¬ ((decide (t1271 < 0)) = (decide (t1272 < 0))) := by simpa using c66))
                   clear c66
                   obtain rfl := Option.some.inj H
                   try go_wp2
                   replace HO_3 := A_ (Kd.N_drew HO_3.out)
                   replace HO_4 := A_ (Kd.R_drew HO_4.out)
                   replace HO_5 := A_ (Kd.R_drew HO_5.out)
                   replace HO_6 := A_ (Kd.N_drew HO_6.out)
                   replace HB := A_ (below_drew1 HB.out)
                   refine start_ (n := 26) (S := fun w' => True) (ds := []) #[false, false, false, false, false, false, false, false, false, false, false, false, false, false, false, false, false, false, false, false, false, false, false, false, false, false] (by kernel_rfl) rfl rfl trivial (fun hHeld => ?_); refine with_tabW laws_FnShelves.tab15 laws_FnShelves.bits15 (fun HT_ HW_ => ?_)
                   generalize wc.drew = w76 at HO_3 HO_4 HO_5 HO_6 HB hHeld ⊢
                   refine pu_ (i := 0) (N := some 104) ?_
                   refine pu_ (i := 1) (N := some 105) ?_
                   refine on_ (i := 2) (N := some 106) (fun K hK => ?_)
                   refine goes_ Try.func45 (by kernel_rfl) rfl #[.slice Ao10 t1250.length co10, .slice Ao43 t1251.length co43] (by rfl) rfl rfl ml_ ?_
                   with_reducible refine (laws_sameTexts.calls kj39 _ _ t1250 _ _ t1251 false _ ?s1 ?s2 ?s3 ?s4 A63.out).mono ?_
                   (case s1 => exact cC_ (Kd.R_reads' HO_4.out).2.2)
                   (case s2 => exact (Kd.R_reads' HO_4.out).2.1)
                   (case s3 => exact cC_ (Kd.R_reads' HO_5.out).2.2)
                   (case s4 => exact (Kd.R_reads' HO_5.out).2.1)
                   rintro e w' ⟨rfl, ⟨nd, rfl⟩⟩
                   refine ⟨_, rfl, ?_⟩
                   refine hK.out _ _ trivial (fun hHeld => ?_)
                   clear hK K
                   refine no_ (some 106) ?_
                   refine pu_ (i := 3) (N := some 107) ?_
                   refine pu_ (i := 4) (N := some 108) ?_
                   refine pu_ (i := 5) (N := some 109) ?_
                   refine pu_ (i := 6) (N := some 110) ?_
                   refine pu_ (i := 7) (N := some 111) ?_
                   refine pu_ (i := 8) (N := some 112) ?_
                   refine pu_ (i := 9) (N := some 113) ?_
                   refine pn_ (i := 10) (N := some 114) ?_
                   refine pn_ (i := 11) (N := some 115) ?_
                   refine pn_ (i := 12) (N := some 116) ?_
                   refine pn_ (i := 13) (N := some 117) ?_
                   refine pn_ (i := 14) (N := some 118) ?_
                   refine pn_ (i := 15) (N := some 119) ?_
                   refine pn_ (i := 16) (N := some 120) ?_
                   refine pn_ (i := 17) (N := some 121) ?_
                   refine pn_ (i := 18) (N := some 122) ?_
                   refine pn_ (i := 19) (N := some 123) ?_
                   refine pn_ (i := 20) (N := some 124) ?_
                   refine pn_ (i := 21) (N := some 125) ?_
                   refine pn_ (i := 22) (N := some 126) ?_
                   refine pu_ (i := 23) (N := some 127) ?_
                   refine pu_ (i := 24) (N := some 128) ?_
                   refine pu_ (i := 25) (N := some 2) ?_
                   refine done_ (done_of HT_.out (by kernel_rfl)) ?_
                   (try clear hHeld)
                   try go_wp2
                   go_ret
                   exact ⟨rr_, bB_⟩
                 rw [if_pos c66] at H
                 have c66b0 : ((decide (t1271 < 0)) == (decide (t1272 < 0))) = true := c66
                 (try (have c66b1 : decide ((decide (t1271 < 0)) = (decide (t1272 < 0))) = true := by simpa using c66))
                 (try (have c66b2 : ((decide (t1271 < 0)) == (decide (t1272 < 0))) = true := by simpa using c66))
                 clear c66
                 by_cases c67 : t1271 < 0
                 · rw [if_pos c67] at H
                   have c67b0 : decide (t1271 < 0) = true := decide_eq_true c67
                   have c67d0 : decide (t1272 < 0) = true := by cases hd_ : decide (t1272 < 0) with | true => rfl | false => rw [c67b0, hd_] at c66b0; cases c66b0
                   clear c67
                   obtain rfl := Option.some.inj H
                   try go_wp2
                   replace HO_3 := A_ (Kd.N_drew HO_3.out)
                   replace HO_4 := A_ (Kd.R_drew HO_4.out)
                   replace HO_5 := A_ (Kd.R_drew HO_5.out)
                   replace HO_6 := A_ (Kd.N_drew HO_6.out)
                   replace HB := A_ (below_drew1 HB.out)
                   refine start_ (n := 26) (S := fun w' => True) (ds := []) #[false, false, false, false, false, false, false, false, false, false, false, false, false, false, false, false, false, false, false, false, false, false, false, false, false, false] (by kernel_rfl) rfl rfl trivial (fun hHeld => ?_); refine with_tabW laws_FnShelves.tab15 laws_FnShelves.bits15 (fun HT_ HW_ => ?_)
                   generalize wc.drew = w68 at HO_3 HO_4 HO_5 HO_6 HB hHeld ⊢
                   refine pu_ (i := 0) (N := some 104) ?_
                   refine pu_ (i := 1) (N := some 105) ?_
                   refine on_ (i := 2) (N := some 106) (fun K hK => ?_)
                   refine goes_ Try.func45 (by kernel_rfl) rfl #[.slice Ao10 t1250.length co10, .slice Ao43 t1251.length co43] (by rfl) rfl rfl ml_ ?_
                   with_reducible refine (laws_sameTexts.calls kj39 _ _ t1250 _ _ t1251 false _ ?s1 ?s2 ?s3 ?s4 A63.out).mono ?_
                   (case s1 => exact cC_ (Kd.R_reads' HO_4.out).2.2)
                   (case s2 => exact (Kd.R_reads' HO_4.out).2.1)
                   (case s3 => exact cC_ (Kd.R_reads' HO_5.out).2.2)
                   (case s4 => exact (Kd.R_reads' HO_5.out).2.1)
                   rintro e w' ⟨rfl, ⟨nd, rfl⟩⟩
                   refine ⟨_, rfl, ?_⟩
                   refine hK.out _ _ trivial (fun hHeld => ?_)
                   clear hK K
                   refine no_ (some 106) ?_
                   refine pu_ (i := 3) (N := some 107) ?_
                   refine pu_ (i := 4) (N := some 108) ?_
                   refine pu_ (i := 5) (N := some 109) ?_
                   refine pu_ (i := 6) (N := some 110) ?_
                   refine pu_ (i := 7) (N := some 111) ?_
                   refine pu_ (i := 8) (N := some 112) ?_
                   refine pu_ (i := 9) (N := some 113) ?_
                   refine pu_ (i := 10) (N := some 114) ?_
                   refine pu_ (i := 11) (N := some 115) ?_
                   refine pu_ (i := 12) (N := some 116) ?_
                   refine pn_ (i := 13) (N := some 117) ?_
                   refine pn_ (i := 14) (N := some 118) ?_
                   refine pn_ (i := 15) (N := some 119) ?_
                   refine pn_ (i := 16) (N := some 120) ?_
                   refine pn_ (i := 17) (N := some 121) ?_
                   refine pn_ (i := 18) (N := some 122) ?_
                   refine pn_ (i := 19) (N := some 123) ?_
                   refine pn_ (i := 20) (N := some 124) ?_
                   refine pn_ (i := 21) (N := some 125) ?_
                   refine pu_ (i := 22) (N := some 126) ?_
                   refine pu_ (i := 23) (N := some 127) ?_
                   refine pu_ (i := 24) (N := some 128) ?_
                   refine pu_ (i := 25) (N := some 2) ?_
                   refine done_ (done_of HT_.out (by kernel_rfl)) ?_
                   (try clear hHeld)
                   try go_wp2
                   go_ret
                   exact ⟨rr_, bB_⟩
                 rw [if_neg c67] at H
                 have c67b0 : decide (t1271 < 0) = false := decide_eq_false c67
                 have c67d0 : decide (t1272 < 0) = false := by cases hd_ : decide (t1272 < 0) with | false => rfl | true => rw [c67b0, hd_] at c66b0; cases c66b0
                 clear c67
                 by_cases c69 : 0 ≤ t1271
                 rotate_left
                 · exact absurd H (by rw [if_neg c69]; simp)
                 rw [if_pos c69] at H
                 have c69b0 : decide (0 ≤ t1271) = true := decide_eq_true c69
                 clear c69
                 by_cases c70 : t1271 < (t1249.length : Int)
                 rotate_left
                 · exact absurd H (by rw [if_neg c70]; simp)
                 rw [if_pos c70] at H
                 have c70b0 : decide (t1271 < (t1249.length : Int)) = true := decide_eq_true c70
                 clear c70
                 by_cases c71 : 0 ≤ t1272
                 rotate_left
                 · exact absurd H (by rw [if_neg c71]; simp)
                 rw [if_pos c71] at H
                 have c71b0 : decide (0 ≤ t1272) = true := decide_eq_true c71
                 clear c71
                 by_cases c72 : t1272 < (t1258.length : Int)
                 rotate_left
                 · exact absurd H (by rw [if_neg c72]; simp)
                 rw [if_pos c72] at H
                 have c72b0 : decide (t1272 < (t1258.length : Int)) = true := decide_eq_true c72
                 clear c72
                 obtain ⟨t1283, A73, H⟩ := bo_ H
                 (try dsimp only at H)
                 obtain rfl := Option.some.inj H
                 try go_wp2
                 replace HO_3 := A_ (Kd.N_drew HO_3.out)
                 replace HO_4 := A_ (Kd.R_drew HO_4.out)
                 replace HO_5 := A_ (Kd.R_drew HO_5.out)
                 replace HO_6 := A_ (Kd.N_drew HO_6.out)
                 replace HB := A_ (below_drew1 HB.out)
                 have p1281 : 0 ≤ (t1271 : Int) := of_decide_eq_true as_
                 have q1281 : t1271 < (t1249.length : Int) := of_decide_eq_true as_
                 obtain ⟨ad1281, A1281_0, c1281_0, A1281_4, c1281_4, e1281, hx1281_0, hx1281_1, hx1281_2, hx1281_3, hx1281_4, hl1281_0, hi1281_0, hl1281_4, hi1281_4⟩ := at_T57 (Kd.N_reads' HO_3.out).2.2 t1271 p1281 q1281
                 cases e1281
                 obtain ⟨ce1281, hce1281, hMe1281, hcc1281⟩ := Kd.N_get HO_3.out z57 t1271 p1281 (by first | exact q1281 | exact of_decide_eq_true as_ | (have e_ := (Kd.N_reads' HO_3.out).1; omega))
                 obtain ⟨ua1281_0, uc1281_0, ua1281_4, uc1281_4, rfl, ul1281_0, ge1281_0, ul1281_4, ge1281_4⟩ := k57_openF hMe1281
                 have hv1281_0 := hcc1281 0 _ rfl
                 rw [Nat.add_zero] at hv1281_0
                 replace hv1281_0 := Option.some.inj (hv1281_0.symm.trans hx1281_0)
                 injection hv1281_0 with hva_ hvn_ hvc_
                 rw [hva_] at ge1281_0
                 rw [hvc_] at ul1281_0
                 have HL1281_0 := A_ (show Kd.V Kd.string 9 _ w.heap.size _ _ ((rd_T57 t1249 t1271).f0) from Kd.V_mk ul1281_0 ge1281_0)
                 clear hva_ hvn_ hvc_ ge1281_0 ul1281_0
                 have hv1281_4 := hcc1281 4 _ rfl
                 rw [add_field _ _ 4 (by omega)] at hv1281_4
                 replace hv1281_4 := Option.some.inj (hv1281_4.symm.trans hx1281_4)
                 injection hv1281_4 with hva_ hvn_ hvc_
                 rw [hva_] at ge1281_4
                 rw [hvc_] at ul1281_4
                 have HL1281_4 := A_ (show Kd.V k72 72 _ w.heap.size _ _ ((rd_T57 t1249 t1271).f4) from Kd.V_mk ul1281_4 ge1281_4)
                 clear hva_ hvn_ hvc_ ge1281_4 ul1281_4
                 clear hcc1281 hce1281
                 have HR1281_0 := Aside0.mk hi1281_0
                 have HC1281_0 := Aside0.mk hl1281_0
                 clear hi1281_0 hl1281_0
                 have HR1281_4 := Aside0.mk hi1281_4
                 have HC1281_4 := Aside0.mk hl1281_4
                 clear hi1281_4 hl1281_4
                 replace p1281 := eq_true p1281
                 replace q1281 := eq_true q1281
                 have p1282 : 0 ≤ (t1272 : Int) := of_decide_eq_true as_
                 have q1282 : t1272 < (t1258.length : Int) := of_decide_eq_true as_
                 obtain ⟨ad1282, A1282_0, c1282_0, A1282_4, c1282_4, e1282, hx1282_0, hx1282_1, hx1282_2, hx1282_3, hx1282_4, hl1282_0, hi1282_0, hl1282_4, hi1282_4⟩ := at_T57 (Kd.N_reads' HO_6.out).2.2 t1272 p1282 q1282
                 cases e1282
                 obtain ⟨ce1282, hce1282, hMe1282, hcc1282⟩ := Kd.N_get HO_6.out z57 t1272 p1282 (by first | exact q1282 | exact of_decide_eq_true as_ | (have e_ := (Kd.N_reads' HO_6.out).1; omega))
                 obtain ⟨ua1282_0, uc1282_0, ua1282_4, uc1282_4, rfl, ul1282_0, ge1282_0, ul1282_4, ge1282_4⟩ := k57_openF hMe1282
                 have hv1282_0 := hcc1282 0 _ rfl
                 rw [Nat.add_zero] at hv1282_0
                 replace hv1282_0 := Option.some.inj (hv1282_0.symm.trans hx1282_0)
                 injection hv1282_0 with hva_ hvn_ hvc_
                 rw [hva_] at ge1282_0
                 rw [hvc_] at ul1282_0
                 have HL1282_0 := A_ (show Kd.V Kd.string 9 _ w.heap.size _ _ ((rd_T57 t1258 t1272).f0) from Kd.V_mk ul1282_0 ge1282_0)
                 clear hva_ hvn_ hvc_ ge1282_0 ul1282_0
                 have hv1282_4 := hcc1282 4 _ rfl
                 rw [add_field _ _ 4 (by omega)] at hv1282_4
                 replace hv1282_4 := Option.some.inj (hv1282_4.symm.trans hx1282_4)
                 injection hv1282_4 with hva_ hvn_ hvc_
                 rw [hva_] at ge1282_4
                 rw [hvc_] at ul1282_4
                 have HL1282_4 := A_ (show Kd.V k72 72 _ w.heap.size _ _ ((rd_T57 t1258 t1272).f4) from Kd.V_mk ul1282_4 ge1282_4)
                 clear hva_ hvn_ hvc_ ge1282_4 ul1282_4
                 clear hcc1282 hce1282
                 have HR1282_0 := Aside0.mk hi1282_0
                 have HC1282_0 := Aside0.mk hl1282_0
                 clear hi1282_0 hl1282_0
                 have HR1282_4 := Aside0.mk hi1282_4
                 have HC1282_4 := Aside0.mk hl1282_4
                 clear hi1282_4 hl1282_4
                 replace p1282 := eq_true p1282
                 replace q1282 := eq_true q1282
                 refine start_ (n := 26) (S := fun w' => w'.cell? (ad1281.add ((t1271).toNat * 5)) = some (.slice A1281_0 ((rd_T57 t1249 t1271).f0).length c1281_0) ∧ w'.cell? ⟨(ad1281.add ((t1271).toNat * 5)).block, (ad1281.add ((t1271).toNat * 5)).off + 1, none⟩ = some (.bool ((rd_T57 t1249 t1271).f1)) ∧ w'.cell? ⟨(ad1281.add ((t1271).toNat * 5)).block, (ad1281.add ((t1271).toNat * 5)).off + 2, none⟩ = some (.string ((rd_T57 t1249 t1271).f2)) ∧ w'.cell? ⟨(ad1281.add ((t1271).toNat * 5)).block, (ad1281.add ((t1271).toNat * 5)).off + 3, none⟩ = some (.int .i64 ((rd_T57 t1249 t1271).f3)) ∧ w'.cell? ⟨(ad1281.add ((t1271).toNat * 5)).block, (ad1281.add ((t1271).toNat * 5)).off + 4, none⟩ = some (.slice A1281_4 ((rd_T57 t1249 t1271).f4).length c1281_4) ∧ w'.cell? (ad1282.add ((t1272).toNat * 5)) = some (.slice A1282_0 ((rd_T57 t1258 t1272).f0).length c1282_0) ∧ w'.cell? ⟨(ad1282.add ((t1272).toNat * 5)).block, (ad1282.add ((t1272).toNat * 5)).off + 1, none⟩ = some (.bool ((rd_T57 t1258 t1272).f1)) ∧ w'.cell? ⟨(ad1282.add ((t1272).toNat * 5)).block, (ad1282.add ((t1272).toNat * 5)).off + 2, none⟩ = some (.string ((rd_T57 t1258 t1272).f2)) ∧ w'.cell? ⟨(ad1282.add ((t1272).toNat * 5)).block, (ad1282.add ((t1272).toNat * 5)).off + 3, none⟩ = some (.int .i64 ((rd_T57 t1258 t1272).f3)) ∧ w'.cell? ⟨(ad1282.add ((t1272).toNat * 5)).block, (ad1282.add ((t1272).toNat * 5)).off + 4, none⟩ = some (.slice A1282_4 ((rd_T57 t1258 t1272).f4).length c1282_4)) (ds := []) #[false, false, false, false, false, false, false, false, false, false, false, false, false, false, false, false, false, false, false, false, false, false, false, false, false, false] (by kernel_rfl) rfl rfl ⟨hx1281_0, hx1281_1, hx1281_2, hx1281_3, hx1281_4, hx1282_0, hx1282_1, hx1282_2, hx1282_3, hx1282_4⟩ (fun hHeld => ?_); refine with_tabW laws_FnShelves.tab15 laws_FnShelves.bits15 (fun HT_ HW_ => ?_)
                 generalize wc.drew = w74 at HO_3 HO_4 HO_5 HO_6 HB HL1281_0 HL1281_4 HL1282_0 HL1282_4 HR1281_0 HR1281_4 HR1282_0 HR1282_4 hx1281_0 hx1281_1 hx1281_2 hx1281_3 hx1281_4 hx1282_0 hx1282_1 hx1282_2 hx1282_3 hx1282_4 hHeld ⊢
                 refine pu_ (i := 0) (N := some 104) ?_
                 refine pu_ (i := 1) (N := some 105) ?_
                 refine on_ (i := 2) (N := some 106) (fun K hK => ?_)
                 refine goes_ Try.func45 (by kernel_rfl) rfl #[.slice Ao10 t1250.length co10, .slice Ao43 t1251.length co43] (by rfl) rfl rfl ml_ ?_
                 with_reducible refine (laws_sameTexts.calls kj39 _ _ t1250 _ _ t1251 false _ ?s1 ?s2 ?s3 ?s4 A63.out).mono ?_
                 (case s1 => exact cC_ (Kd.R_reads' HO_4.out).2.2)
                 (case s2 => exact (Kd.R_reads' HO_4.out).2.1)
                 (case s3 => exact cC_ (Kd.R_reads' HO_5.out).2.2)
                 (case s4 => exact (Kd.R_reads' HO_5.out).2.1)
                 rintro e w' ⟨rfl, ⟨nd, rfl⟩⟩
                 refine ⟨_, rfl, ?_⟩
                 refine hK.out _ _ ⟨hHeld.1, hHeld.2.1, hHeld.2.2.1, hHeld.2.2.2.1, hHeld.2.2.2.2.1, hHeld.2.2.2.2.2.1, hHeld.2.2.2.2.2.2.1, hHeld.2.2.2.2.2.2.2.1, hHeld.2.2.2.2.2.2.2.2.1, hHeld.2.2.2.2.2.2.2.2.2⟩ (fun hHeld => ?_)
                 clear hK K
                 refine no_ (some 106) ?_
                 refine pu_ (i := 3) (N := some 107) ?_
                 refine pu_ (i := 4) (N := some 108) ?_
                 refine pu_ (i := 5) (N := some 109) ?_
                 refine pu_ (i := 6) (N := some 110) ?_
                 refine pu_ (i := 7) (N := some 111) ?_
                 refine pu_ (i := 8) (N := some 112) ?_
                 refine pu_ (i := 9) (N := some 113) ?_
                 refine pu_ (i := 10) (N := some 114) ?_
                 refine pu_ (i := 11) (N := some 115) ?_
                 refine pu_ (i := 12) (N := some 116) ?_
                 refine pu_ (i := 13) (N := some 117) ?_
                 refine pu_ (i := 14) (N := some 118) ?_
                 refine pu_ (i := 15) (N := some 119) ?_
                 refine pu_ (i := 17) (N := some 121) ?_
                 refine pu_ (i := 18) (N := some 122) ?_
                 refine pu_ (i := 19) (N := some 123) ?_
                 refine tk_ (i := 16) (N := some 120) hHeld ?_
                 refine tk_ (i := 20) (N := some 124) hHeld ?_
                 refine on_ (i := 21) (N := some 125) (fun K hK => ?_)
                 refine goes_ Try.func46 (by kernel_rfl) rfl #[.agg #[.slice A1281_0 ((rd_T57 t1249 t1271).f0).length c1281_0, .bool ((rd_T57 t1249 t1271).f1), .string ((rd_T57 t1249 t1271).f2), .int .i64 ((rd_T57 t1249 t1271).f3), .slice A1281_4 ((rd_T57 t1249 t1271).f4).length c1281_4], .agg #[.slice A1282_0 ((rd_T57 t1258 t1272).f0).length c1282_0, .bool ((rd_T57 t1258 t1272).f1), .string ((rd_T57 t1258 t1272).f2), .int .i64 ((rd_T57 t1258 t1272).f3), .slice A1282_4 ((rd_T57 t1258 t1272).f4).length c1282_4]] (by rfl) rfl rfl ml_ ?_
                 with_reducible refine (laws_sameRes.calls kj39 _ _ ((rd_T57 t1249 t1271).f0) ((rd_T57 t1249 t1271).f1) ((rd_T57 t1249 t1271).f2) ((rd_T57 t1249 t1271).f3) _ _ ((rd_T57 t1249 t1271).f4) _ _ ((rd_T57 t1258 t1272).f0) ((rd_T57 t1258 t1272).f1) ((rd_T57 t1258 t1272).f2) ((rd_T57 t1258 t1272).f3) _ _ ((rd_T57 t1258 t1272).f4) t1283 _ ?s1 ?s2 ?s3 ?s4 ?s5 ?s6 ?s7 ?s8 A73.out).mono ?_
                 (case s1 => repeat (first | exact (cC_ HR1281_0.out) | (with_reducible refine Kd.C_alloc ?_ _) | (with_reducible refine Kd.C_drewN ?_ _) | (with_reducible refine Kd.C_drew ?_)))
                 (case s2 => exact HC1281_0.out)
                 (case s3 => repeat (first | exact (cC_ HR1281_4.out) | (with_reducible refine Kd.C_alloc ?_ _) | (with_reducible refine Kd.C_drewN ?_ _) | (with_reducible refine Kd.C_drew ?_)))
                 (case s4 => exact HC1281_4.out)
                 (case s5 => repeat (first | exact (cC_ HR1282_0.out) | (with_reducible refine Kd.C_alloc ?_ _) | (with_reducible refine Kd.C_drewN ?_ _) | (with_reducible refine Kd.C_drew ?_)))
                 (case s6 => exact HC1282_0.out)
                 (case s7 => repeat (first | exact (cC_ HR1282_4.out) | (with_reducible refine Kd.C_alloc ?_ _) | (with_reducible refine Kd.C_drewN ?_ _) | (with_reducible refine Kd.C_drew ?_)))
                 (case s8 => exact HC1282_4.out)
                 rintro e w75 ⟨rfl, hb⟩
                 have HS0_ := (hb.cell (World.block_lt_of_cell? _ _ (hHeld.1))).trans (hHeld.1)
                 have HS1_ := (hb.cell (World.block_lt_of_cell? _ _ (hHeld.2.1))).trans (hHeld.2.1)
                 have HS2_ := (hb.cell (World.block_lt_of_cell? _ _ (hHeld.2.2.1))).trans (hHeld.2.2.1)
                 have HS3_ := (hb.cell (World.block_lt_of_cell? _ _ (hHeld.2.2.2.1))).trans (hHeld.2.2.2.1)
                 have HS4_ := (hb.cell (World.block_lt_of_cell? _ _ (hHeld.2.2.2.2.1))).trans (hHeld.2.2.2.2.1)
                 have HS5_ := (hb.cell (World.block_lt_of_cell? _ _ (hHeld.2.2.2.2.2.1))).trans (hHeld.2.2.2.2.2.1)
                 have HS6_ := (hb.cell (World.block_lt_of_cell? _ _ (hHeld.2.2.2.2.2.2.1))).trans (hHeld.2.2.2.2.2.2.1)
                 have HS7_ := (hb.cell (World.block_lt_of_cell? _ _ (hHeld.2.2.2.2.2.2.2.1))).trans (hHeld.2.2.2.2.2.2.2.1)
                 have HS8_ := (hb.cell (World.block_lt_of_cell? _ _ (hHeld.2.2.2.2.2.2.2.2.1))).trans (hHeld.2.2.2.2.2.2.2.2.1)
                 have HS9_ := (hb.cell (World.block_lt_of_cell? _ _ (hHeld.2.2.2.2.2.2.2.2.2))).trans (hHeld.2.2.2.2.2.2.2.2.2)
                 refine ⟨_, rfl, ?_⟩
                 replace HO_3 := A_ (Kd.N_below (vN_ HO_3.out) hb)
                 replace HO_4 := A_ (Kd.R_below (vR_ HO_4.out) hb)
                 replace HO_5 := A_ (Kd.R_below (vR_ HO_5.out) hb)
                 replace HO_6 := A_ (Kd.N_below (vN_ HO_6.out) hb)
                 replace HL1281_0 := A_ (Kd.V_below (vV_ HL1281_0.out) hb)
                 replace HL1281_4 := A_ (Kd.V_below (vV_ HL1281_4.out) hb)
                 replace HL1282_0 := A_ (Kd.V_below (vV_ HL1282_0.out) hb)
                 replace HL1282_4 := A_ (Kd.V_below (vV_ HL1282_4.out) hb)
                 replace HR1281_0 := A_ (Kd.C_below (cC_ HR1281_0.out) hb)
                 replace HR1281_4 := A_ (Kd.C_below (cC_ HR1281_4.out) hb)
                 replace HR1282_0 := A_ (Kd.C_below (cC_ HR1282_0.out) hb)
                 replace HR1282_4 := A_ (Kd.C_below (cC_ HR1282_4.out) hb)
                 replace HB := A_ (below_step bB_ hb)
                 (try clear hb)
                 (try clear hb2)
                 (try clear hk)
                 (try clear hi)
                 refine hK.out _ _ ⟨HS0_, HS1_, HS2_, HS3_, HS4_, HS5_, HS6_, HS7_, HS8_, HS9_⟩ (fun hHeld => ?_)
                 clear hK K
                 refine no_ (some 125) ?_
                 refine pu_ (i := 22) (N := some 126) ?_
                 refine pu_ (i := 23) (N := some 127) ?_
                 refine pu_ (i := 24) (N := some 128) ?_
                 refine pu_ (i := 25) (N := some 2) ?_
                 refine done_ (done_of HT_.out (by kernel_rfl)) ?_
                 (try clear hHeld)
                 try go_wp2
                 go_ret
                 exact ⟨rr_, bB_⟩
end Go.Proofs.Ytbgggcgjijljkaa.Q

/- The law FnShelves computes true: drawn shelves are right; what is put is found; all else stays; each is on a shelf. No condition. -/
set_option linter.unusedSimpArgs false
set_option linter.unusedVariables false
namespace Go.Proofs.Ytbgggcgjijljkaa.Pure
open Go.RowKit Go.Proofs.YtbgggcgjijljkaaW.PrintWords Go.Proofs.YtbgggcgjijljkaaW.PrintLast Go.Proofs.Ytbgggcgjijljkaa.Q Go.Proofs.Ytbgggcgjijljkaa.L
theorem mayC_ne {t : List S57} {ps : List (List ByteArray)} {ver : Int} : mayC t ps ver ≠ 201 ∧ mayC t ps ver ≠ 204 := by
  unfold mayC
  repeat' split
  all_goals omega
structure Put (t x : List S57) (c : Int) (p : List ByteArray) (body : ByteArray) (ver : Int) : Prop where
  new : ∃ n ∈ x, n.f0 = p ∧ n.f2 = body ∧ n.f3 = ver
  old : ∀ r : S57, r.f0 ≠ p → (r ∈ x ↔ r ∈ t)
  on : isColl t (above p) = true
  no : p ≠ []
  is : c = 201 ∧ findR t p < 0 ∨ c = 204 ∧ ¬ findR t p < 0
theorem putF_cases {t : List S57} {p : List ByteArray} {body : ByteArray} {ver : Int} (ht : treeOk t = true) : ((putFR t p body ver).1 = t ∧ (putFR t p body ver).2 ≠ 201 ∧ (putFR t p body ver).2 ≠ 204) ∨ Put t (putFR t p body ver).1 (putFR t p body ver).2 p body ver := by
  unfold putFR
  by_cases c0 : mayC t [p] ver = 0
  · rw [if_pos c0]
    by_cases c1 : isColl t p = true
    · rw [if_pos c1]; exact .inl ⟨rfl, show (405 : Int) ≠ 201 by decide, show (405 : Int) ≠ 204 by decide⟩
    · rw [if_neg c1]
      have hne : p ≠ [] := fun e => c1 (by rw [e]; rfl)
      by_cases c2 : isColl t (above p) = true
      · rw [if_pos c2]
        by_cases c3 : (body.size : Int) > 200
        · rw [if_pos c3]; exact .inl ⟨rfl, show (413 : Int) ≠ 201 by decide, show (413 : Int) ≠ 204 by decide⟩
        · rw [if_neg c3]
          by_cases c4 : findR t p < 0
          · rw [if_pos c4]
            by_cases c5 : (t.length : Int) ≥ 12
            · rw [if_pos c5]; exact .inl ⟨rfl, show (507 : Int) ≠ 201 by decide, show (507 : Int) ≠ 204 by decide⟩
            · rw [if_neg c5]
              refine .inr ⟨⟨newFile p body ver, (mem_putAt _ _ _).2 (.inl rfl), rfl, rfl, rfl⟩, fun r hr => ?_, c2, hne, .inl ⟨rfl, c4⟩⟩
              rw [mem_putAt]
              constructor
              · rintro (rfl | h)
                · exact absurd rfl hr
                · exact h
              · exact .inr
          · rw [if_neg c4]
            obtain ⟨pre, r, suf, e, f, hr⟩ := find_at c4
            have hg : t.getD (findR t p).toNat z57 = r := by rw [f]; exact getD_at _ e
            rw [hg]
            have hs : t.set (findR t p).toNat (⟨r.f0, r.f1, body, ver, r.f4⟩ : S57) = pre ++ (⟨r.f0, r.f1, body, ver, r.f4⟩ : S57) :: suf := by rw [f, set_at e]; simp
            rw [hs]
            refine .inr ⟨⟨(⟨r.f0, r.f1, body, ver, r.f4⟩ : S57), by simp, hr, rfl, rfl⟩, fun q hq => ?_, c2, hne, .inr ⟨rfl, c4⟩⟩
            have h1 : q ≠ (⟨r.f0, r.f1, body, ver, r.f4⟩ : S57) := fun e2 => hq (by rw [e2]; exact hr)
            have h2 : q ≠ r := fun e2 => hq (by rw [e2]; exact hr)
            rw [e]
            simp only [List.mem_append, List.mem_cons, h1, h2, false_or]
      · rw [if_neg c2]; exact .inl ⟨rfl, show (409 : Int) ≠ 201 by decide, show (409 : Int) ≠ 204 by decide⟩
  · rw [if_neg c0]; exact .inl ⟨rfl, mayC_ne.1, mayC_ne.2⟩
theorem putF_coll {t x : List S57} {c ver : Int} {p : List ByteArray} {body : ByteArray} (h : Put t x c p body ver) (ht : treeOk t = true) (hx : treeOk x = true) : isColl x (above p) = true := by
  rcases (isColl_iff (treeOk_iff.1 ht).2.1).1 h.on with e | ⟨r, hr, e, e'⟩
  · exact (isColl_iff (treeOk_iff.1 hx).2.1).2 (.inl e)
  · refine (isColl_iff (treeOk_iff.1 hx).2.1).2 (.inr ⟨r, (h.old r (fun e2 => ?_)).2 hr, e, e'⟩)
    have h1 : (above p).length = p.length - 1 := by unfold above; simp
    have h2 : 0 < p.length := List.length_pos_iff.2 h.no
    rw [← e, e2] at h1
    omega
theorem find_mem {t : List S57} (ho : Ord t) {r : S57} (hr : r ∈ t) : ∃ pre suf, t = pre ++ r :: suf ∧ findR t r.f0 = (pre.length : Int) := by
  have hn : ¬ findR t r.f0 < 0 := fun h => find_none h r hr rfl
  obtain ⟨pre, r', suf, e, f, h⟩ := find_at hn
  have := ord_uniq ho (show r' ∈ t by rw [e]; simp) hr h
  subst this
  exact ⟨pre, suf, e, f⟩
theorem FnShelves : ∀ (x0 : List Int), (fun l : List Int => l.length ≤ maxLen ∧ ∀ a ∈ l, (fun x : Int => (Lit.int .u8 x).wf = true) a) x0 → ∃ k, laws_FnShelves.f k x0 = some true := by
  intro code h0
  apply Ev.rounds
  unfold laws_FnShelves.f laws_big.f
  simp only [Option.bind_some]
  by_cases c : ((code.length : Int) > 1048576)
  · simp only [decide_eq_true c, if_true]; exact Ev.now _
  simp only [decide_eq_false c, Bool.false_eq_true, if_false]
  have hc : code.length ≤ 1048576 := by omega
  obtain ⟨t, p, q, e1, ⟨ht, hts⟩, hp, hq⟩ := shelvesD hc
  have hb : (⟨#[110, 101, 119]⟩ : ByteArray).size ≤ 1048576 := by decide
  have hv : IntOk 77 := by unfold IntOk; omega
  have hx := putF_ok (p := p) (body := (⟨#[110, 101, 119]⟩ : ByteArray)) (ver := 77) ht
  have hxs := putF_sm (p := p) (body := (⟨#[110, 101, 119]⟩ : ByteArray)) (ver := 77) hts hp hb hv
  have hto := ev_cast (implTreeOk hts) ht
  have hxo := ev_cast (implTreeOk hxs) hx
  refine Ev.bind e1 ?_
  refine Ev.bind (implPutF hts hp) ?_
  refine Ev.bind (specPutF hts hp hb hv) ?_
  refine Ev.bind hto ?_
  simp only [if_true]
  refine Ev.bind (sameTreeD hxs) ?_
  simp only [if_true]
  refine Ev.bind hxo ?_
  have hcas := putF_cases (p := p) (body := (⟨#[110, 101, 119]⟩ : ByteArray)) (ver := 77) ht
  generalize (putFR t p (⟨#[110, 101, 119]⟩ : ByteArray) 77).1 = x at *
  generalize (putFR t p (⟨#[110, 101, 119]⟩ : ByteArray) 77).2 = cc at *
  refine Ev.step (fun k => laws_FnShelves.j0.eq_2 ..) ?_
  simp only [Bool.not_true, Bool.false_eq_true, if_false]
  rcases hcas with ⟨ex, n1, n2⟩ | hput
  · simp only [if_neg n1, bne_iff_ne.mpr n2]
    refine Ev.step (fun k => laws_FnShelves.j1.eq_2 ..) ?_
    simp only [if_true]
    subst ex
    exact Ev.bind (sameTreeD hts) (Ev.now _)
  · have main : Ev (fun k => laws_FnShelves.j1 k t p q x cc false) true := by
      refine Ev.step (fun k => laws_FnShelves.j1.eq_2 ..) ?_
      simp only [Bool.false_eq_true, if_false]
      refine Ev.bind (implFind hxs) ?_
      refine Ev.bind (implFind hts) ?_
      refine Ev.bind (implFind hxs) ?_
      have hot := (treeOk_iff.1 ht).2.1
      have hox := (treeOk_iff.1 hx).2.1
      obtain ⟨n, hn, hnp, hnb, hnv⟩ := hput.new
      obtain ⟨pre, suf, ex, ef⟩ := find_mem hox hn
      rw [hnp] at ef
      rw [ef]
      simp only [if_neg (show ¬ ((pre.length : Nat) : Int) < 0 by omega), if_pos (nonneg_at _), if_pos (lt_at ex), rd_implRes ex, hnb, hnv, ba_toList, if_true, implAbove hp.1, Option.bind_some]
      refine Ev.bind (implIsColl hxs) ?_
      simp only [if_pos (putF_coll hput ht hx)]
      refine Ev.bind (implFind hts) ?_
      have hcc : ((cc == 201) != decide (findR t p < 0)) = false := by
        rcases hput.is with ⟨e, h⟩ | ⟨e, h⟩
        · rw [e, decide_eq_true h]; rfl
        · rw [e, decide_eq_false h]; rfl
      simp only [hcc]
      refine Ev.step (fun k => laws_FnShelves.j2.eq_2 ..) ?_
      simp only [Bool.false_eq_true, if_false]
      refine Ev.bind (sameTextsD hp.1) ?_
      by_cases epq : p = q
      · simp only [decide_eq_true epq, if_true]; exact Ev.now _
      · simp only [decide_eq_false epq, Bool.false_eq_true, if_false]
        by_cases cq : findR t q < 0
        · have cx : findR x q < 0 := find_neg.2 (fun r hr e => find_none cq r ((hput.old r (fun e2 => epq (e2.symm.trans e))).1 hr) e)
          simp only [decide_eq_true cq, decide_eq_true cx, beq_self_eq_true, if_true, if_pos cq]
          exact Ev.now _
        · obtain ⟨pt, r, st, et, ft, hr⟩ := find_at cq
          have hrx : r ∈ x := (hput.old r (fun e2 => epq (e2.symm.trans hr))).2 (by rw [et]; simp)
          obtain ⟨px, sx, ex2, fx⟩ := find_mem hox hrx
          rw [hr] at fx
          rw [ft, fx]
          simp only [decide_eq_false (show ¬ ((pt.length : Nat) : Int) < 0 by omega), decide_eq_false (show ¬ ((px.length : Nat) : Int) < 0 by omega), beq_self_eq_true, if_true, if_neg (show ¬ ((pt.length : Nat) : Int) < 0 by omega), if_pos (nonneg_at _), if_pos (lt_at et), if_pos (lt_at ex2), rd_implRes et, rd_implRes ex2]
          exact Ev.bind (sameResD (hts.2 r (by rw [et]; simp))) (Ev.now _)
    rcases hput.is with ⟨e, _⟩ | ⟨e, _⟩
    · simp only [if_pos e]; exact main
    · have hc2 : (cc != 204) = false := by rw [e]; rfl
      simp only [if_neg (show ¬ cc = 201 by omega), hc2]
      exact main
end Go.Proofs.Ytbgggcgjijljkaa.Pure
