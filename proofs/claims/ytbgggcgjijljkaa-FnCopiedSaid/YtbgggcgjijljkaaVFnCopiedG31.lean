/- A printed walk's contract told more sharply: the result's elements' rows lie apart. No condition. -/
import Derived.Test.YtbgggcgjijljkaaVFnCopiedG30
import Derived.Test.YtbgggcgjijljkaaVFnCopiedG28
namespace Go.Proofs.Ytbgggcgjijljkaa.Q
open Go.RowKit Go.Proofs.YtbgggcgjijljkaaW.PrintWords Go.Proofs.YtbgggcgjijljkaaW.PrintLast Go.Proofs.YtbgggcgjijljkaaW.PrintMore
attribute [local go_sem] max2_int min2_int max_two min_two max_three min_three max_four min_four
set_option linter.unusedVariables false
set_option linter.unusedSimpArgs false
def CO_ (n m : Nat) (f : Nat -> Nat) (i : Int) (k : Nat) : Prop := ¬ (n <= k /\ k < m /\ i <= (f k : Int))
theorem bD_ {P : Prop} (h : P := by repeat (first | (with_reducible first | exact HBD.out | apply below_alloc | apply pw_below_drewN | apply below_drew1) | exact HBD.out)) : P := h
theorem bE_ {A P : Prop} (g : A) (h : A -> P := by intro g_; repeat (first | (with_reducible first | exact HBD.out | apply below_alloc | apply pw_below_drewN | apply below_drew1 | refine below_set ?_ g_) | exact HBD.out)) : P := h g
theorem CO_lt {n m k : Nat} {f : Nat -> Nat} {i : Int} (h : k < n) : CO_ n m f i k := fun h2 => by have := h2.1; omega
theorem deep_tags {α : Type} {d : Kd α} {e : Nat} {w w1 W : World} {ok : Nat -> Prop} {v : Value} {xs : List α} (h : Kd.S d e w1 W.heap.size ok v xs) (hle : w.heap.size <= W.heap.size) :
 ∃ (n : Nat) (f : Nat -> Nat), Aside0 (n = W.heap.size /\ (Kd.tag f d).R e w1 w.heap.size (fun k => n <= k /\ k < w1.heap.size) v xs.zipIdx) := by
 obtain ⟨f, h⟩ := h
 exact ⟨W.heap.size, f, ⟨rfl, Kd.R_mono (Kd.R_lower (Kd.R_bound h) hle) (fun k hk => ⟨hk.2.1, hk.2.2.1⟩)⟩⟩
theorem elem_props {n : Nat} {f : Nat -> Nat} {w wD W : World} {ad : Addr} {co : Nat} {t : List S57} {i : Int} {A : Option Addr} {c : Nat}
 (hT : (Kd.tag f k57).R 57 wD w.heap.size (fun k => n <= k /\ k < wD.heap.size) (.slice (some ad) t.length co) t.zipIdx) (hb : Below wD.heap.size wD W) (h0 : 0 <= i) (h1 : i < t.length)
 (hx : W.cell? ⟨(ad.add (i.toNat * 5)).block, (ad.add (i.toNat * 5)).off + 4, none⟩ = some (.slice A (rd_T57 t i).f4.length c)) :
 Kd.R k72 72 wD w.heap.size (fun k => ((n <= k /\ k < wD.heap.size) /\ some k ≠ (Value.slice (some ad) t.length co).ownBlock) /\ f k = i.toNat) (.slice A (rd_T57 t i).f4.length c) (rd_T57 t i).f4 := by
 obtain ⟨cm, hcl, hM, hcc⟩ := Kd.R_getA hT (z57, 0) i h0 h1
 have hl : i.toNat < t.length := by omega
 have hz : t.zipIdx.getD i.toNat (z57, 0) = (rd_T57 t i, i.toNat) := by
  unfold rd_T57
  rw [List.getD_eq_getElem?_getD, List.getElem?_zipIdx, List.getD_eq_getElem?_getD, List.getElem?_eq_getElem hl]
  simp
 rw [hz] at hM
 obtain ⟨v0, v4, rfl, g0, g4⟩ := k57_openM (show k57.M _ _ _ _ _ from hM)
 have hc := pw_cell_below hb (hcc 4 v4 rfl)
 rw [show (Kd.tag f k57).sz = 5 from rfl, add_field _ _ 4 (by omega), hx] at hc
 injection hc with hc
 rw [hc]
 exact g4
theorem CO_step {n m L N : Nat} {f : Nat -> Nat} {x : Int} {lo yo : Option Nat} {g : Nat} (h0 : 0 <= x) (h1 : x < (L : Int)) (hL : L <= 9223372036854775807) (hlo : ∀ k, lo = some k -> k < m) (hy : ∀ k, yo = some k -> m <= k) (hm : m <= N) :
 ∀ k, (((CO_ n m f x k /\ some k ≠ lo /\ some k ≠ yo /\ k ≠ g) \/ some k = yo \/ (((n <= k /\ k < m) /\ some k ≠ lo) /\ f k = x.toNat)) \/ N <= k) -> CO_ n m f (wrap64 (x + 1)) k /\ some k ≠ lo := by
 have hw : wrap64 (x + 1) = x + 1 := by unfold wrap64; omega
 rw [hw]
 rintro k ((h | h | h) | h)
 . exact ⟨fun h2 => h.1 ⟨h2.1, h2.2.1, by have := h2.2.2; omega⟩, h.2.1⟩
 . have := hy k h.symm
   exact ⟨fun h2 => by have := h2.2.1; omega, fun h2 => by have := hlo k h2.symm; omega⟩
 . exact ⟨fun h2 => by have := h2.2.2; have := h.2; omega, h.1.2⟩
 . exact ⟨fun h2 => by have := h2.2.1; omega, fun h2 => by have := hlo k h2.symm; omega⟩
theorem Kd.S_afterv {α : Type} {d : Kd α} {e base : Nat} {W w1 : World} {ok : Nat -> Prop} {u v v1 : Value} {xs : List α} (h : Kd.S d e W base (fun k => ok k /\ some k ≠ v.ownBlock) u xs) (hg : W.grownBy w1 v.ownBlock) (hat : v1.ownBlock = v.ownBlock \/ ∃ b, v1.ownBlock = some b /\ W.heap.size <= b) : Kd.S d e w1 base (fun k => ok k /\ some k ≠ v1.ownBlock) u xs := Go.Proofs.YtbgggcgjijljkaaW.PrintWords.Kd.S_after h hg hat
abbrev impl_copiedX.f (k : Nat) (l0 : List (S57)) (l1 : List ByteArray) (l2 : List ByteArray) (a3 : Bool) (a4 : Int) : Option ((List (S57)) × Int) := impl_copied.f k l0 l1 l2 a3 a4
set_option maxHeartbeats 16000000 in
set_option maxRecDepth 100000 in
theorem impl_copiedX.calls (k : Nat) (A0 : Option Addr) (c0 : Nat) (l0 : List (S57)) (A1 : Option Addr) (c1 : Nat) (l1 : List ByteArray) (A2 : Option Addr) (c2 : Nat) (l2 : List ByteArray) (a3 : Bool) (a4 : Int) (r1 : List (S57)) (r2 : Int) (w : World) (hr0 : Kd.C k57 w A0 l0.length l0) (hc0 : l0.length <= c0) (hr1 : Kd.C Kd.string w A1 l1.length l1) (hc1 : l1.length <= c1) (hr2 : Kd.C Kd.string w A2 l2.length l2) (hc2 : l2.length <= c2) (h : impl_copiedX.f k l0 l1 l2 a3 a4 = some (r1, r2)) :
 Calls Try.prog 83 #[.slice A0 l0.length c0, .slice A1 l1.length c1, .slice A2 l2.length c2, .bool a3, .int .i64 a4] w fun e w' => ∃ v0_ : Value, e = .returned (.tuple #[v0_, .int .i64 r2]) /\ Kd.S k57 57 w' w.heap.size (fun _ => True) v0_ r1 /\ Below w.heap.size w w' := by
 have hu57 := Try.underlying57
 have HR0 := A_ hr0
 have HC0 := A_ hc0
 clear hr0 hc0
 have HR1 := A_ hr1
 have HC1 := A_ hc1
 clear hr1 hc1
 have HR2 := A_ hr2
 have HC2 := A_ hc2
 clear hr2 hc2
 have HB := A_ (Below.refl w.heap.size w)
 have H : ((impl_FindRes.f k l0 l2).bind fun t75 => (if (l1.length : Int) > 0 then ((impl_FindRes.f k l0 l1).bind fun t80 => (impl_copied.j0 k l0 l1 l2 a3 a4 (decide (t75 >= 0)) (decide (t80 < 0)))) else (impl_copied.j0 k l0 l1 l2 a3 a4 (decide (t75 >= 0)) false))) = some (r1, r2) := h
 clear h
 obtain ⟨t75, A6, H⟩ := bo_ H
 (try dsimp only at H)
 have HC7 := A_ H
 clear H
 go_enter Try.func83, Try.ntmps83
 go_upto_region 2 with (first | ((with_reducible refine gc_ (f := 42) rfl ?_); refine gL_ (some 18) Try.func42 #[.slice A0 l0.length c0, .slice A2 l2.length c2] ?_; (with_reducible refine (impl_FindRes.calls k _ _ l0 _ _ l2 t75 _ ?s1 ?s2 ?s3 ?s4 A6.out).mono ?_); (case s1 => exact cC_ HR0.out); (case s2 => exact HC0.out); (case s3 => exact cC_ HR2.out); (case s4 => exact HC2.out); rintro e w8 ⟨rfl, hb⟩; refine ⟨_, rfl, ?_⟩; replace HB := A_ (below_step bB_ hb); clear hb))
 (try simp only [Act.put, List.setIfInBounds_toArray, List.set_cons_zero, List.set_cons_succ])
 go_cut [3, 12, 20] (fun v3 v12 v20 wc => ∃ (kq : Nat) (x3_6 : Bool) (x12_6 : Bool) (x20_6 : Bool), v3 = .bool x3_6 /\ v12 = .bool x12_6 /\ v20 = .bool x20_6 /\ Aside0 (impl_copied.j0 kq l0 l1 l2 x3_6 a4 x12_6 x20_6 = some (r1, r2)) /\ Aside0 (kq <= k) /\ Aside0 (Below w.heap.size w wc))
 case first =>
  have H := HC7.out
  clear HC7
  by_cases c9 : (l1.length : Int) > 0
  rotate_left
  . rw [if_neg c9] at H
    have c9b0 : decide (0 < (l1.length : Int)) = false := decide_eq_false c9
    have c9b1 : decide (0 < l1.length) = false := decide_eq_false (by omega)
    clear c9
    (first | rw [c9b0] | (simp only [i64_w, i32_w]; rw [c9b0]) | skip)
    have H' := A_ H
    clear H
    go_wp2
    go_meet
    case rel => exact ⟨_, (a3), (decide (t75 >= 0)), (false), rs_, rs_, rs_, H', ⟨by first | omega | exact Nat.le_refl _⟩, ⟨bB_⟩⟩
  rw [if_pos c9] at H
  have c9b0 : decide (0 < (l1.length : Int)) = true := decide_eq_true c9
  have c9b1 : decide (0 < l1.length) = true := decide_eq_true (by omega)
  clear c9
  (first | rw [c9b0] | (simp only [i64_w, i32_w]; rw [c9b0]) | skip)
  obtain ⟨t80, A10, H⟩ := bo_ H
  (try dsimp only at H)
  have H' := A_ H
  clear H
  go_wp2_with (first | (go_at_call 42; (with_reducible refine (impl_FindRes.calls k _ _ l0 _ _ l1 t80 _ ?s1 ?s2 ?s3 ?s4 A10.out).mono ?_); (case s1 => exact cC_ (Kd.C_below HR0.out HB.out)); (case s2 => exact HC0.out); (case s3 => exact cC_ (Kd.C_below HR1.out HB.out)); (case s4 => exact HC1.out); rintro e w11 ⟨rfl, hb⟩; replace HB := A_ (below_step bB_ hb); clear hb))
  go_meet
  case rel => exact ⟨_, (a3), (decide (t75 >= 0)), (decide (t80 < 0)), rs_, rs_, rs_, H', ⟨by first | omega | exact Nat.le_refl _⟩, ⟨bB_⟩⟩
 case rest =>
  clear HC7
  obtain ⟨kq, x3_6, x12_6, x20_6, rfl, rfl, rfl, HA, HJ6, HB⟩ := hcut
  cases kq with
  | zero => exact absurd HA.out (by simp [impl_copied.j0])
  | succ kj6 =>
   have H := HA.out
   clear HA
   simp only [impl_copied.j0] at H
   by_cases c12 : x20_6 = true
   . subst c12
     rw [if_pos rfl] at H
     simp only [Option.some.injEq, Prod.mk.injEq] at H
     obtain ⟨rfl, rfl⟩ := H
     go_wp2
     go_ret2
     exact ⟨_, rr_, by first | exact Kd.S_nil _ _ _ _ _ | exact Kd.N_nil _ _ _ _ _ | exact Kd.V_nil _ _ _ _ _ | exact Kd.Q_nil _ _ _ _ _ | exact Kd.R_nil _ _ _ _ _, bB_⟩
   . replace c12 := Bool.eq_false_iff.mpr c12
     subst c12
     rw [if_neg nf_] at H
     have HC13 := A_ H
     clear H
     go_upto_region 4 with (fail)
     go_cut [3, 12, 30] (fun v3 v12 v30 wc => ∃ (kq : Nat) (x3_12 : Bool) (x12_12 : Bool) (x30_12 : Bool), v3 = .bool x3_12 /\ v12 = .bool x12_12 /\ v30 = .bool x30_12 /\ Aside0 (impl_copied.j1 kq l0 l1 l2 x3_12 a4 x12_12 x30_12 = some (r1, r2)) /\ Aside0 (kq <= kj6) /\ Aside0 (Below w.heap.size w wc))
     case first =>
      have H := HC13.out
      clear HC13
      by_cases c14 : (l1.length : Int) = 0
      . rw [if_pos c14] at H
        obtain ⟨c14b0, c14b1⟩ := eT_ c14
        clear c14
        (first | rw [c14b0] | (simp only [i64_w, i32_w]; rw [c14b0]) | skip)
        have H' := A_ H
        clear H
        go_wp2
        go_meet
        case rel => exact ⟨_, (x3_6), (x12_6), (true), rs_, rs_, rs_, H', ⟨by have := HJ6.out; first | omega | exact Nat.le_refl _⟩, ⟨bB_⟩⟩
      rw [if_neg c14] at H
      obtain ⟨c14b0, c14b1⟩ := eF_ c14
      have c14b2 : ¬ (l1 = []) := fun h_ => c14 (by rw [h_]; rfl)
      (first | rw [c14b0] | (simp only [i64_w, i32_w]; rw [c14b0]) | skip)
      by_cases c15 : (l2.length : Int) = 0
      . rw [if_pos c15] at H
        obtain ⟨c15b0, c15b1⟩ := eT_ c15
        clear c15
        have H' := A_ H
        clear H
        go_wp2
        go_meet
        case rel => exact ⟨_, (x3_6), (x12_6), (true), rs_, rs_, rs_, H', ⟨by have := HJ6.out; first | omega | exact Nat.le_refl _⟩, ⟨bB_⟩⟩
      rw [if_neg c15] at H
      obtain ⟨c15b0, c15b1⟩ := eF_ c15
      have c15b2 : ¬ (l2 = []) := fun h_ => c15 (by rw [h_]; rfl)
      obtain ⟨t86, A16, H⟩ := bo_ H
      (try dsimp only at H)
      by_cases c17 : t86 = true
      . subst c17
        rw [if_pos rfl] at H
        have H' := A_ H
        clear H
        go_wp2_with (first | (go_at_call 89; (with_reducible refine (impl_isAt.calls kj6 _ _ l1 _ _ l2 true _ ?s1 ?s2 ?s3 ?s4 A16.out).mono ?_); (case s1 => exact cC_ (Kd.C_below HR1.out HB.out)); (case s2 => exact HC1.out); (case s3 => exact cC_ (Kd.C_below HR2.out HB.out)); (case s4 => exact HC2.out); rintro e w' ⟨rfl, ⟨nd, rfl⟩⟩))
        go_meet
        case rel => exact ⟨_, (x3_6), (x12_6), (true), rs_, rs_, rs_, H', ⟨by have := HJ6.out; first | omega | exact Nat.le_refl _⟩, ⟨bB_⟩⟩
      . replace c17 := Bool.eq_false_iff.mpr c17
        subst c17
        rw [if_neg nf_] at H
        obtain ⟨t83, A18, H⟩ := bo_ H
        (try dsimp only at H)
        have H' := A_ H
        clear H
        go_wp2_with (first | (go_at_call 89; (with_reducible refine (impl_isAt.calls kj6 _ _ l1 _ _ l2 false _ ?s1 ?s2 ?s3 ?s4 A16.out).mono ?_); (case s1 => exact cC_ (Kd.C_below HR1.out HB.out)); (case s2 => exact HC1.out); (case s3 => exact cC_ (Kd.C_below HR2.out HB.out)); (case s4 => exact HC2.out); rintro e w' ⟨rfl, ⟨nd, rfl⟩⟩) | (go_at_call 89; (with_reducible refine (impl_isAt.calls kj6 _ _ l2 _ _ l1 t83 _ ?s1 ?s2 ?s3 ?s4 A18.out).mono ?_); (case s1 => exact cC_ (Kd.C_below HR2.out bB_)); (case s2 => exact HC2.out); (case s3 => exact cC_ (Kd.C_below HR1.out bB_)); (case s4 => exact HC1.out); rintro e w' ⟨rfl, ⟨nd, rfl⟩⟩))
        go_meet
        case rel => exact ⟨_, (x3_6), (x12_6), (t83), rs_, rs_, rs_, H', ⟨by have := HJ6.out; first | omega | exact Nat.le_refl _⟩, ⟨bB_⟩⟩
     case rest =>
      clear HC13
      try clear c12
      obtain ⟨kq, x3_12, x12_12, x30_12, rfl, rfl, rfl, HA, HJ12, HB⟩ := hcut
      cases kq with
      | zero => exact absurd HA.out (by simp [impl_copied.j1])
      | succ kj12 =>
       have H := HA.out
       clear HA
       simp only [impl_copied.j1] at H
       by_cases c19 : x30_12 = true
       . subst c19
         rw [if_pos rfl] at H
         simp only [Option.some.injEq, Prod.mk.injEq] at H
         obtain ⟨rfl, rfl⟩ := H
         go_wp2
         go_ret2
         exact ⟨_, rr_, by first | exact Kd.S_nil _ _ _ _ _ | exact Kd.N_nil _ _ _ _ _ | exact Kd.V_nil _ _ _ _ _ | exact Kd.Q_nil _ _ _ _ _ | exact Kd.R_nil _ _ _ _ _, bB_⟩
       . replace c19 := Bool.eq_false_iff.mpr c19
         subst c19
         rw [if_neg nf_] at H
         have HC20 := A_ H
         clear H
         go_upto_region 6 with (fail)
         go_cut [12, 49] (fun v12 v49 wc => ∃ (kq : Nat) (x12_19 : Bool) (x49_19 : Bool), v12 = .bool x12_19 /\ v49 = .bool x49_19 /\ Aside0 (impl_copied.j2 kq l0 l1 l2 a4 x12_19 x49_19 = some (r1, r2)) /\ Aside0 (kq <= kj12) /\ Aside0 (Below w.heap.size w wc))
         case first =>
          have H := HC20.out
          clear HC20
          by_cases c21 : x12_12 = true
          . subst c21
            rw [if_pos rfl] at H
            have H' := A_ H
            clear H
            go_wp2
            go_meet
            case rel => exact ⟨_, (true), (!x3_12), rs_, rs_, H', ⟨by have := HJ6.out; have := HJ12.out; first | omega | exact Nat.le_refl _⟩, ⟨bB_⟩⟩
          . replace c21 := Bool.eq_false_iff.mpr c21
            subst c21
            rw [if_neg nf_] at H
            have H' := A_ H
            clear H
            go_wp2
            go_meet
            case rel => exact ⟨_, (false), (false), rs_, rs_, H', ⟨by have := HJ6.out; have := HJ12.out; first | omega | exact Nat.le_refl _⟩, ⟨bB_⟩⟩
         case rest =>
          clear HC20
          try clear c12
          try clear c19
          obtain ⟨kq, x12_19, x49_19, rfl, rfl, HA, HJ19, HB⟩ := hcut
          cases kq with
          | zero => exact absurd HA.out (by simp [impl_copied.j2])
          | succ kj19 =>
           have H := HA.out
           clear HA
           simp only [impl_copied.j2] at H
           by_cases c22 : x49_19 = true
           . subst c22
             rw [if_pos rfl] at H
             simp only [Option.some.injEq, Prod.mk.injEq] at H
             obtain ⟨rfl, rfl⟩ := H
             go_wp2
             go_ret2
             exact ⟨_, rr_, by first | exact Kd.S_nil _ _ _ _ _ | exact Kd.N_nil _ _ _ _ _ | exact Kd.V_nil _ _ _ _ _ | exact Kd.Q_nil _ _ _ _ _ | exact Kd.R_nil _ _ _ _ _, bB_⟩
           . replace c22 := Bool.eq_false_iff.mpr c22
             subst c22
             rw [if_neg nf_] at H
             obtain ⟨t73, A23, H⟩ := bo_ H
             (try dsimp only at H)
             obtain ⟨t87, A24, H⟩ := bo_ H
             (try dsimp only at H)
             by_cases c25 : t87 = true
             . subst c25
               rw [if_pos rfl] at H
               obtain ⟨t84, A26, H⟩ := bo_ H
               (try dsimp only at H)
               obtain ⟨t61, A27, H⟩ := bo_ H
               (try dsimp only at H)
               have H' := A_ H
               clear H
               go_wp2_with (first | ((with_reducible refine gc_ (f := 44) rfl ?_); refine gL_ (some 58) Try.func44 #[.slice A2 l2.length c2] ?_; (with_reducible refine (impl_Above.calls _ _ l2 t73 _ ?s1 ?s2 A23.out).mono ?_); (case s1 => exact cC_ (Kd.C_below HR2.out HB.out)); (case s2 => exact HC2.out); rintro e w28 ⟨v88, rfl, ho0, hb⟩; refine ⟨_, rfl, ?_⟩; have HO65 := A_ (Kd.R_lower (Kd.R_newM (M := fun k_ => (w.heap.size <= k_)) ho0 (below_size bB_) (fun k_ h_ => h_)) (below_size bB_)); replace HB := A_ (below_step bB_ hb); clear hb ho0; obtain ⟨Ao29, co29, eo29⟩ := Kd.R_slice HO65.out; subst eo29) | ((with_reducible refine gc_ (f := 43) rfl ?_); refine gL_ (some 59) Try.func43 #[.slice A0 l0.length c0, .slice Ao29 t73.length co29] ?_; (with_reducible refine (impl_IsColl.calls kj19 _ _ l0 _ _ t73 true _ ?s1 ?s2 ?s3 ?s4 A24.out).mono ?_); (case s1 => exact cC_ (Kd.C_below HR0.out HB.out)); (case s2 => exact HC0.out); (case s3 => exact cC_ (Kd.R_reads' HO65.out).2.2); (case s4 => exact (Kd.R_reads' HO65.out).2.1); rintro e w30 ⟨rfl, hb⟩; refine ⟨_, rfl, ?_⟩; replace HO65 := A_ (Kd.R_below (vR_ HO65.out) hb); replace HB := A_ (below_step bB_ hb); clear hb) | ((with_reducible refine gc_ (f := 67) rfl ?_); refine gL_ (some 63) Try.func67 #[.slice A0 l0.length c0, .slice A2 l2.length c2] ?_; (with_reducible refine (impl_without.calls kj19 _ _ l0 _ _ l2 t84 _ ?s1 ?s2 ?s3 ?s4 A26.out).mono ?_); (case s1 => exact cC_ (Kd.C_below HR0.out HB.out)); (case s2 => exact HC0.out); (case s3 => exact cC_ (Kd.C_below HR2.out HB.out)); (case s4 => exact HC2.out); rintro e w31 ⟨v89, rfl, ho0, hb⟩; refine ⟨_, rfl, ?_⟩; have HO79 := A_ (Kd.S_lower (Kd.S_mono (ok' := fun k_ => (w.heap.size <= k_) /\ some k_ ≠ (.slice Ao29 t73.length co29 : Value).ownBlock) (Kd.S_bound ho0) (fun k_ hk_ => ⟨(Nat.le_trans (below_size bB_) hk_.2.1), (Kd.fresh' (Kd.R_lt (vR_ HO65.out)) k_ hk_.2.1)⟩)) (below_size bB_)); replace HO65 := A_ (Kd.R_below (vR_ HO65.out) hb); replace HB := A_ (below_step bB_ hb); clear hb ho0) | ((with_reducible refine gc_ (f := 49) rfl ?_); refine gL_ (some 66) Try.func49 #[.slice A0 l0.length c0, .slice A1 l1.length c1] ?_; (with_reducible refine (impl_DeepOf.calls kj19 _ _ l0 _ _ l1 t61 _ ?s1 ?s2 ?s3 ?s4 A27.out).mono ?_); (case s1 => exact cC_ (Kd.C_below HR0.out HB.out)); (case s2 => exact HC0.out); (case s3 => exact cC_ (Kd.C_below HR1.out HB.out)); (case s4 => exact HC1.out); rintro e w32 ⟨v90, rfl, ho0, hb⟩; refine ⟨_, rfl, ?_⟩; obtain ⟨nD_, fD_, HTD⟩ := deep_tags ho0 (below_size bB_); have n1_ := A_ (Kd.S_mono (ok' := fun k_ => CO_ nD_ w32.heap.size fD_ 0 k_ /\ some k_ ≠ (v90 : Value).ownBlock) (Kd.S_elder' (Kd.S_bound (vS_ HO79.out)) (Kd.S_base ho0) hb) (fun k_ hk_ => ⟨CO_lt (by have h1_ := HTD.out.1; have h2_ := hk_.1.2.2.1; omega), hk_.2⟩)); have n2_ := A_ (Kd.N_lower (Kd.N_mono (ok' := fun k_ => (w.heap.size <= k_) /\ some k_ ≠ (.slice Ao29 t73.length co29 : Value).ownBlock /\ some k_ ≠ (v89 : Value).ownBlock) (Kd.S_N (Kd.S_bound ho0)) (fun k_ hk_ => ⟨(Nat.le_trans (below_size bB_) hk_.2.1), (Kd.fresh' (Kd.R_lt (vR_ HO65.out)) k_ hk_.2.1), (Kd.fresh' (Kd.S_lt (vS_ HO79.out)) k_ hk_.2.1)⟩)) (below_size bB_)); have n3_ := A_ (below_step bB_ hb); clear HO65; clear HO79; clear HB; have HO79 := n1_; have HO85 := n2_; have HB := n3_; have HBD := A_ (Below.refl w32.heap.size w32); clear n1_ n2_ n3_; clear hb ho0; obtain ⟨Ao33, co33, eo33⟩ := Kd.N_slice HO85.out; subst eo33))
               go_loopg [13, 68] kj19 (fun kq v13 v68 w' => ∃ (x13_4 : List (S57)) (x68_4 : Int), v68 = .int .i64 x68_4 /\ Aside0 (impl_copied.l0 kq l1 l2 a4 x12_19 x13_4 t61 (t61.length : Int) x68_4 = some (r1, r2)) /\ Aside0 (kq <= kj19) /\ Aside0 (Kd.S k57 57 w' w.heap.size (fun k_ => (CO_ nD_ w32.heap.size fD_ x68_4 k_) /\ some k_ ≠ ((.slice Ao33 t61.length co33) : Value).ownBlock) v13 x13_4) /\ Aside0 (Kd.N k57 57 w' w.heap.size (fun k_ => (w.heap.size <= k_) /\ True) (.slice Ao33 t61.length co33) t61) /\ Aside0 (Below w.heap.size w w') /\ Aside0 (Below w32.heap.size w32 w'))
               case atStart => exact ⟨(t84), (0), rs_, H', ⟨Nat.le_refl _⟩, ⟨vS_ HO79.out⟩, ⟨by (with_reducible repeat (first | apply Kd.N_alloc | apply Kd.N_drewN | apply Kd.N_drew)); exact Kd.N_mono HO85.out (fun _ hk => ⟨hk.1, trivial⟩)⟩, ⟨bB_⟩, ⟨bD_⟩⟩
               case round =>
                clear H'
                try clear c12
                try clear c19
                try clear c22
                try clear c25
                obtain ⟨x13_4, x68_4, rfl, HA, HK4, HO_13, HO_66, HB, HBD⟩ := hrel
                cases gk with
                | zero => exact absurd HA.out (by simp [impl_copied.l0])
                | succ k4 =>
                 have H := HA.out
                 clear HA
                 simp only [impl_copied.l0] at H
                 by_cases c34 : x68_4 < (t61.length : Int)
                 rotate_left
                 . rw [if_neg c34] at H
                   have c34b0 := decide_eq_false c34
                   clear c34
                   by_cases c69 : x12_19 = true
                   . subst c69
                     rw [if_pos rfl] at H
                     simp only [Option.some.injEq, Prod.mk.injEq] at H
                     obtain ⟨rfl, rfl⟩ := H
                     go_wp2
                     go_ret2
                     exact ⟨_, rr_, by (with_reducible repeat (first | apply Kd.S_alloc | apply Kd.S_drewN | apply Kd.S_drew)); exact Kd.S_mono HO_13.out (fun _ _ => trivial), bB_⟩
                   . replace c69 := Bool.eq_false_iff.mpr c69
                     subst c69
                     rw [if_neg nf_] at H
                     simp only [Option.some.injEq, Prod.mk.injEq] at H
                     obtain ⟨rfl, rfl⟩ := H
                     go_wp2
                     go_ret2
                     exact ⟨_, rr_, by (with_reducible repeat (first | apply Kd.S_alloc | apply Kd.S_drewN | apply Kd.S_drew)); exact Kd.S_mono HO_13.out (fun _ _ => trivial), bB_⟩
                 rw [if_pos c34] at H
                 have c34b0 := decide_eq_true c34
                 clear c34
                 by_cases c35 : 0 <= x68_4
                 rotate_left
                 . exact absurd H (by rw [if_neg c35]; simp)
                 rw [if_pos c35] at H
                 have c35b0 := decide_eq_true c35
                 clear c35
                 by_cases c36 : x68_4 < (t61.length : Int)
                 rotate_left
                 . exact absurd H (by rw [if_neg c36]; simp)
                 rw [if_pos c36] at H
                 have c36b0 := decide_eq_true c36
                 clear c36
                 obtain ⟨t76, A37, H⟩ := bo_ H
                 (try dsimp only at H)
                 by_cases c38 : 0 <= (l1.length : Int)
                 rotate_left
                 . exact absurd H (by rw [if_neg c38]; simp)
                 rw [if_pos c38] at H
                 have c38b0 := eq_true c38
                 have c38b1 := decide_eq_true c38
                 clear c38
                 by_cases c39 : (l1.length : Int) <= (((rd_T57 t61 x68_4).f0).length : Int)
                 rotate_left
                 . exact absurd H (by rw [if_neg c39]; simp)
                 rw [if_pos c39] at H
                 have c39b0 := eq_true c39
                 have c39b1 := decide_eq_true c39
                 clear c39
                 obtain ⟨y63, hy63⟩ : ∃ y_ : List ByteArray, y_ = (((rd_T57 t61 x68_4).f0).drop ((l1.length : Int) : Int).toNat) := ⟨_, rfl⟩
                 replace H : (if t76.length + y63.length < 8796093022208 then ((some (t76 ++ y63 : List ByteArray)).bind fun y62 => ((impl_PathOk.f k4 y62).bind fun t77 => (if t77 = true then ((impl_withRes.f k4 x13_4 y62 ((rd_T57 t61 x68_4).f1) ((rd_T57 t61 x68_4).f2) a4 ((rd_T57 t61 x68_4).f4)).bind fun t78 => (impl_copied.l0 k4 l1 l2 a4 x12_19 t78 t61 (t61.length : Int) (wrap64 (x68_4 + 1)))) else (some (([] : List (S57)), 409))))) else (none)) = some (r1, r2) := hy_ hy63 H
                 have Ny63 := A_ hy63
                 clear hy63
                 by_cases c40 : t76.length + y63.length < 8796093022208
                 rotate_left
                 . exact absurd H (by rw [if_neg c40]; simp)
                 rw [if_pos c40] at H
                 have LMc40 := A_ c40
                 clear c40
                 obtain ⟨y62, hy62⟩ : ∃ y_ : List ByteArray, y_ = (t76 ++ y63) := ⟨_, rfl⟩
                 replace H : ((impl_PathOk.f k4 y62).bind fun t77 => (if t77 = true then ((impl_withRes.f k4 x13_4 y62 ((rd_T57 t61 x68_4).f1) ((rd_T57 t61 x68_4).f2) a4 ((rd_T57 t61 x68_4).f4)).bind fun t78 => (impl_copied.l0 k4 l1 l2 a4 x12_19 t78 t61 (t61.length : Int) (wrap64 (x68_4 + 1)))) else (some (([] : List (S57)), 409)))) = some (r1, r2) := hy_ hy62 H
                 have Ny62 := A_ hy62
                 clear hy62
                 obtain ⟨t77, A41, H⟩ := bo_ H
                 (try dsimp only at H)
                 have HQ_ := A_ H
                 clear H
                 have p59 : 0 <= (x68_4 : Int) := od_
                 have q59 : x68_4 < (t61.length : Int) := od_
                 obtain ⟨ad59, A59_0, c59_0, A59_4, c59_4, e59, hx59_0, hx59_1, hx59_2, hx59_3, hx59_4, hl59_0, hi59_0, hl59_4, hi59_4⟩ := at_T57 (Kd.N_reads' HO_66.out).2.2 x68_4 p59 q59
                 cases e59
                 have HP_ := A_ (elem_props HTD.out.2 HBD.out p59 q59 hx59_4)
                 obtain ⟨ce59, hce59, hMe59, hcc59⟩ := Kd.N_get HO_66.out z57 x68_4 p59 (by first | exact q59 | exact od_ | (have e_ := (Kd.N_reads' HO_66.out).1; omega))
                 obtain ⟨ua59_0, uc59_0, ua59_4, uc59_4, rfl, ul59_0, ge59_0, ul59_4, ge59_4⟩ := k57_openF hMe59
                 have hv59_0 := hcc59 0 _ rfl
                 rw [Nat.add_zero] at hv59_0
                 replace hv59_0 := Option.some.inj (hv59_0.symm.trans hx59_0)
                 injection hv59_0 with hva_ hvn_ hvc_
                 rw [hva_] at ge59_0
                 rw [hvc_] at ul59_0
                 have HL59_0 := A_ (show Kd.V Kd.string 9 _ w.heap.size _ _ ((rd_T57 t61 x68_4).f0) from Kd.V_mk ul59_0 ge59_0)
                 clear hva_ hvn_ hvc_ ge59_0 ul59_0
                 have hv59_4 := hcc59 4 _ rfl
                 rw [add_field _ _ 4 (by omega)] at hv59_4
                 replace hv59_4 := Option.some.inj (hv59_4.symm.trans hx59_4)
                 injection hv59_4 with hva_ hvn_ hvc_
                 rw [hva_] at ge59_4
                 rw [hvc_] at ul59_4
                 clear hva_ hvn_ hvc_ ge59_4 ul59_4
                 clear hcc59 hce59
                 have HC59_0 := A_ hl59_0
                 clear hi59_0 hl59_0
                 clear hi59_4 hl59_4
                 replace p59 := eq_true p59
                 replace q59 := eq_true q59
                 try go_wp2_with (first | ((with_reducible refine gd_ (N := 15) rfl ?_); (try (refine gate_guard (by rfl) ?_; dsimp only)); refine bx_ (N := 15) (cs := #[.slice none 0 0, .bool false, .string (⟨#[]⟩ : ByteArray), .int .i64 0, .slice none 0 0]) (t := 57) ?_; intro gb60 hg w44 hbox hb; have n0_ := A_ (Kd.S_below (Kd.S_elderB (vS_ HO_13.out) gb60 (Nat.le_of_eq hg.symm)) hb); have n1_ := A_ (Kd.N_below (Kd.N_elderB (vN_ HO_66.out) gb60 (Nat.le_of_eq hg.symm)) hb); have n2_ := A_ (Kd.V_below (Kd.V_elderB (vV_ HL59_0.out) gb60 (Nat.le_of_eq hg.symm)) hb); have n6_ := A_ (below_step bB_ hb); have nD_ := A_ (below_step bD_ hb); have n7_ := A_ (hbox); have n8_ := A_ (ge_ hg bB_ : w.heap.size <= gb60); have nG_ := A_ ((by rw [hg]; exact (below_size bD_)) : w32.heap.size <= gb60); have n9_ := A_ (ge_ hg bB_ : w.heap.size <= gb60); clear HO_13; clear HO_66; clear HL59_0; clear HB; have HO_13 := n0_; have HO_66 := n1_; have HL59_0 := n2_; have HBD_ := nD_; clear HBD nD_; have HBD := HBD_; clear HBD_; have HB := n6_; have BK60 := n7_; have GW60 := n8_; have GE60 := n9_; have GD60 := nG_; clear nG_; clear n0_ n1_ n2_ n6_ n7_ n8_ n9_; clear hb hbox hg; obtain ⟨hcz45_0, hcz45_1, hcz45_2, hcz45_3, hcz45_4, hfz45_0, hfz45_1, hfz45_2, hfz45_3, hfz45_4⟩ := cz5_ BK60.out))
                 obtain ⟨w46, hW_⟩ : ∃ w_, w_ = (((((w44.setCell ⟨gb60, 0, none⟩ (.slice A59_0 ((rd_T57 t61 x68_4).f0).length c59_0)).setCell ⟨gb60, 1, none⟩ (.bool ((rd_T57 t61 x68_4).f1))).setCell ⟨gb60, 2, none⟩ (.string ((rd_T57 t61 x68_4).f2))).setCell ⟨gb60, 3, none⟩ (.int .i64 ((rd_T57 t61 x68_4).f3))).setCell ⟨gb60, 4, none⟩ (.slice A59_4 ((rd_T57 t61 x68_4).f4).length c59_4)) := ⟨_, rfl⟩
                 have n0_ : Aside0 (Kd.S k57 57 w46 w.heap.size (fun k_ => (CO_ nD_ w32.heap.size fD_ x68_4 k_) /\ some k_ ≠ (.slice (some ad59) t61.length co33 : Value).ownBlock /\ k_ ≠ gb60) u13 x13_4) := ⟨by rw [hW_]; (with_reducible repeat (first | apply Kd.S_alloc | apply Kd.S_drewN | apply Kd.S_drew)); exact Kd.S_mono (Kd.S_far (p := ⟨gb60, 4, none⟩) (Kd.S_far (p := ⟨gb60, 3, none⟩) (Kd.S_far (p := ⟨gb60, 2, none⟩) (Kd.S_far (p := ⟨gb60, 1, none⟩) (Kd.S_far (p := ⟨gb60, 0, none⟩) (Kd.S_mono HO_13.out (fun k_ hk => (⟨hk, hk.2⟩ : _ /\ k_ ≠ gb60))) (fun _ hk => hk.2) (.slice A59_0 ((rd_T57 t61 x68_4).f0).length c59_0)) (fun _ hk => hk.2) (.bool ((rd_T57 t61 x68_4).f1))) (fun _ hk => hk.2) (.string ((rd_T57 t61 x68_4).f2))) (fun _ hk => hk.2) (.int .i64 ((rd_T57 t61 x68_4).f3))) (fun _ hk => hk.2) (.slice A59_4 ((rd_T57 t61 x68_4).f4).length c59_4)) (fun _ hk => ⟨hk.1.1.1, ⟨hk.1.1.2, hk.1.2⟩⟩)⟩
                 have n1_ : Aside0 (Kd.N k57 57 w46 w.heap.size (fun k_ => (w.heap.size <= k_) /\ True /\ k_ ≠ gb60) (.slice (some ad59) t61.length co33) t61) := ⟨by rw [hW_]; (with_reducible repeat (first | apply Kd.N_alloc | apply Kd.N_drewN | apply Kd.N_drew)); exact Kd.N_mono (Kd.N_far (p := ⟨gb60, 4, none⟩) (Kd.N_far (p := ⟨gb60, 3, none⟩) (Kd.N_far (p := ⟨gb60, 2, none⟩) (Kd.N_far (p := ⟨gb60, 1, none⟩) (Kd.N_far (p := ⟨gb60, 0, none⟩) (Kd.N_mono HO_66.out (fun k_ hk => (⟨hk, hk.2⟩ : _ /\ k_ ≠ gb60))) (fun _ hk => hk.2) (.slice A59_0 ((rd_T57 t61 x68_4).f0).length c59_0)) (fun _ hk => hk.2) (.bool ((rd_T57 t61 x68_4).f1))) (fun _ hk => hk.2) (.string ((rd_T57 t61 x68_4).f2))) (fun _ hk => hk.2) (.int .i64 ((rd_T57 t61 x68_4).f3))) (fun _ hk => hk.2) (.slice A59_4 ((rd_T57 t61 x68_4).f4).length c59_4)) (fun _ hk => ⟨hk.1.1.1, ⟨hk.1.1.2, hk.1.2⟩⟩)⟩
                 have n2_ : Aside0 (Kd.V Kd.string 9 w46 w.heap.size (fun k_ => (w.heap.size <= k_) /\ True /\ some k_ ≠ (.slice (some ad59) t61.length co33 : Value).ownBlock /\ k_ ≠ gb60) (.slice A59_0 ((rd_T57 t61 x68_4).f0).length c59_0) ((rd_T57 t61 x68_4).f0)) := ⟨by rw [hW_]; (with_reducible repeat (first | apply Kd.V_alloc | apply Kd.V_drewN | apply Kd.V_drew)); exact Kd.V_mono (Kd.V_far (p := ⟨gb60, 4, none⟩) (Kd.V_far (p := ⟨gb60, 3, none⟩) (Kd.V_far (p := ⟨gb60, 2, none⟩) (Kd.V_far (p := ⟨gb60, 1, none⟩) (Kd.V_far (p := ⟨gb60, 0, none⟩) (Kd.V_mono HL59_0.out (fun k_ hk => (⟨hk, hk.2⟩ : _ /\ k_ ≠ gb60))) (fun _ hk => hk.2) (.slice A59_0 ((rd_T57 t61 x68_4).f0).length c59_0)) (fun _ hk => hk.2) (.bool ((rd_T57 t61 x68_4).f1))) (fun _ hk => hk.2) (.string ((rd_T57 t61 x68_4).f2))) (fun _ hk => hk.2) (.int .i64 ((rd_T57 t61 x68_4).f3))) (fun _ hk => hk.2) (.slice A59_4 ((rd_T57 t61 x68_4).f4).length c59_4)) (fun _ hk => ⟨hk.1.1.1.1, ⟨hk.1.1.1.2, ⟨hk.1.1.2, hk.1.2⟩⟩⟩)⟩
                 have n4_ : Aside0 (w46.heap[gb60]? = some (.cells #[.slice A59_0 ((rd_T57 t61 x68_4).f0).length c59_0, .bool ((rd_T57 t61 x68_4).f1), .string ((rd_T57 t61 x68_4).f2), .int .i64 ((rd_T57 t61 x68_4).f3), .slice A59_4 ((rd_T57 t61 x68_4).f4).length c59_4] 57 (0, 0))) := ⟨by rw [hW_]; (with_reducible repeat (first | refine blk_drewN ?_ _ | refine blk_drew ?_ | refine blk_alloc ?_ _)); with_reducible exact p5_01234_ (vb_ BK60.out)⟩
                 have n5_ : Aside0 (Below w.heap.size w w46) := ⟨by rw [hW_]; exact bG_ GE60.out⟩
                 have nD_ : Aside0 (Below w32.heap.size w32 w46) := ⟨by rw [hW_]; exact bE_ GD60.out⟩
                 (try clear HO_13)
                 (try clear HO_66)
                 (try clear HL59_0)
                 (try clear HL59_4)
                 (try clear BK60)
                 (try clear HB)
                 rw [← hW_]
                 clear hW_
                 have HO_13 := n0_
                 have HO_66 := n1_
                 have HL59_0 := n2_
                 have BK60 := n4_
                 have HBD_ := nD_
                 clear HBD nD_
                 have HBD := HBD_
                 clear HBD_
                 have HB := n5_
                 clear n0_ n1_ n2_ n4_ n5_
                 have n0_ := A_ (Kd.S_drew HO_13.out)
                 have n1_ := A_ (Kd.N_drew HO_66.out)
                 have n2_ := A_ (Kd.V_drew HL59_0.out)
                 have n4_ := A_ (blk_drew BK60.out)
                 have n5_ := A_ (below_drew1 HB.out)
                 have nD_ := A_ (below_drew1 HBD.out)
                 clear HO_13
                 clear HO_66
                 clear HL59_0
                 clear BK60
                 clear HB
                 have HO_13 := n0_
                 have HO_66 := n1_
                 have HL59_0 := n2_
                 have BK60 := n4_
                 have HBD_ := nD_
                 clear HBD nD_
                 have HBD := HBD_
                 clear HBD_
                 have HB := n5_
                 clear n0_ n1_ n2_ n4_ n5_
                 have q48 : ((l1.length : Int) : Int) <= ((((rd_T57 t61 x68_4).f0).length : Int) : Int) := od_
                 obtain ⟨i048, hi81, _, hsz48, _⟩ := info_parts info9
                 have hroom48 : ((rd_T57 t61 x68_4).f0).length <= c59_0 := HC59_0.out
                 have hC48 : Kd.F Kd.string _ _ A59_0 ((rd_T57 t61 x68_4).f0).length ((rd_T57 t61 x68_4).f0) := (Kd.V_at (base := w.heap.size) HL59_0.out).2.2
                 have q81 : (0 : Int) <= ((l1.length : Int) : Int) := od_
                 have hcut48 := cut_from (P := Try.prog) 23 9 .i64 Try.underlying23 hi81 1 hsz48 A59_0 ((rd_T57 t61 x68_4).f0).length c59_0 (l1.length : Int) q81 q48
                 have hr48 := Kd.F_cut (m := ((l1.length : Int) : Int).toNat) (c := c59_0) hC48 (by omega) hroom48
                 obtain ⟨A48, hA48⟩ : ∃ A1, A1 = (if c59_0 = ((l1.length : Int) : Int).toNat then A59_0 else (A59_0 : Option Addr).map (·.add (((l1.length : Int) : Int).toNat * 1))) := ⟨_, rfl⟩
                 obtain ⟨c48, hc48⟩ : ∃ c1, c1 = c59_0 - ((l1.length : Int) : Int).toNat := ⟨_, rfl⟩
                 have hy48 : y63.length = ((rd_T57 t61 x68_4).f0).length - ((l1.length : Int) : Int).toNat := (by rw [Ny63.out, List.length_drop] <;> omega)
                 rw [show ((rd_T57 t61 x68_4).f0).drop ((l1.length : Int) : Int).toNat = y63 from Ny63.out.symm] at hr48
                 replace hr48 : Kd.F Kd.string _ _ A48 y63.length y63 := (by rw [hA48]; exact hr48)
                 rw [← hy48, ← hA48, ← hc48] at hcut48
                 have HO74 := A_ (show Kd.V Kd.string 9 _ w.heap.size _ (.slice A48 y63.length c48) y63 from Kd.V_mk (by rw [hy48, hc48]; exact Nat.sub_le_sub_right hroom48 _) hr48)
                 clear hr48 hC48 hroom48 hi81 hsz48 hc48
                 have KY48 := A_ hy48
                 have KA48 := A_ hA48
                 clear hy48 hA48
                 replace q48 := eq_true q48
                 refine st5_ (n := 10) (ds := [9]) (bl_ BK60.out 0) (bl_ BK60.out 1) (bl_ BK60.out 2) (bl_ BK60.out 3) (bl_ BK60.out 4) (fun hHeld => ?_); refine with_tabW impl_copied.tab14 impl_copied.bits14 (fun HT_ HW_ => ?_)
                 generalize w46.drew = w47 at HO_13 HO_66 HL59_0 BK60 HB HBD HO74 hHeld ⊢
                 refine pu_ (i := 0) (N := some 72) ?_
                 refine pu_ (i := 2) (N := some 74) ?_
                 refine pu_ (i := 4) (N := some 76) ?_
                 refine pu_ (i := 5) (N := some 77) ?_
                 refine tk_ (i := 3) (N := some 75) hHeld ?_
                 refine pu_ (i := 6) (N := some 78) ?_
                 refine on_ (i := 1) (N := some 73) (fun K hK => ?_)
                 refine goes_ Try.func77 (by kernel_rfl) rfl #[.slice A2 l2.length c2] (by rfl) rfl rfl ml_ ?_
                 with_reducible refine (impl_copyPath.calls _ _ l2 t76 _ ?s1 ?s2 A37.out).mono ?_
                 (case s1 => exact cC_ (Kd.C_below HR2.out HB.out))
                 (case s2 => exact HC2.out)
                 rintro e w49 ⟨v91, rfl, ho0, hb⟩
                 refine ⟨_, rfl, ?_⟩
                 have n0_ := A_ (Kd.S_elder' (vS_ HO_13.out) (kb_ ho0) hb)
                 have n1_ := A_ (Kd.N_elder' (vN_ HO_66.out) (kb_ ho0) hb)
                 have n4_ := A_ (Kd.V_elder' (vV_ HO74.out) (kb_ ho0) hb)
                 have n5_ := A_ (Kd.R_lower (Kd.R_newM (w := w32) (M := fun k_ => (w32.heap.size <= k_)) ho0 (below_size (bE_ GD60.out)) (fun k_ h_ => h_)) (below_size (bG_ GE60.out)))
                 have n6_ := A_ (bw_ BK60.out hb)
                 have n7_ := A_ (below_step (bG_ GE60.out) hb)
                 have nD_ := A_ (below_step (bE_ GD60.out) hb)
                 clear HO_13
                 clear HO_66
                 clear HL59_0
                 clear HO74
                 clear BK60
                 clear HB
                 have HO_13 := n0_
                 have HO_66 := n1_
                 have HO74 := n4_
                 have HO82 := n5_
                 have BK60 := n6_
                 have HBD_ := nD_
                 clear HBD nD_
                 have HBD := HBD_
                 clear HBD_
                 have HB := n7_
                 clear n0_ n1_ n4_ n5_ n6_ n7_
                 clear hb ho0
                 refine hK.out _ _ (hl_ BK60.out) (fun hHeld => ?_)
                 clear hK K
                 refine no_ (some 73) ?_
                 refine on_ (i := 7) (N := some 79) (fun K hK => ?_)
                 refine Kd.R_append_rows_step Kd.string (w0 := w) w.heap.size (by rfl) (.tmp 73) (.tmp 78) 23 9 (.string ⟨#[]⟩) 16 rfl Try.underlying23 info9 rfl (by decide) (by omega) v91 t76 y63 _ _ _ (fun k_ => (w32.heap.size <= k_)) (fun _ => False) rfl rfl ?aO ?aR (fun _ _ h => h) (fun _ h => h.elim) ?aF ?aB ?aS ?aL ?_
                 (case aR => exact cC_ (Kd.V_reads' HO74.out).2.2)
                 (case aB => exact (bG_ GE60.out))
                 (case aF => exact (fun k_ hk => (Nat.le_trans (below_size (bE_ GD60.out)) hk)))
                 (case aO => exact (by (with_reducible repeat (first | apply Kd.R_alloc | apply Kd.R_drewN | apply Kd.R_drew)); exact Kd.R_mono HO82.out (fun _ hk => hk.1)))
                 (case aS => exact (below_size (bG_ GE60.out)))
                 (case aL => have := LMc40.out; omega)
                 intro v93 w50 ho hb hg hat
                 rw [← Ny62.out] at ho
                 have n0_ := A_ (Kd.S_afterv (ok := (fun k_ => (CO_ nD_ w32.heap.size fD_ x68_4 k_) /\ some k_ ≠ (.slice (some ad59) t61.length co33 : Value).ownBlock /\ k_ ≠ gb60)) (vS_ HO_13.out) hg hat)
                 have n1_ := A_ (Kd.N_afterv (ok := (fun k_ => (w.heap.size <= k_) /\ True /\ k_ ≠ gb60)) (vN_ HO_66.out) hg hat)
                 have n4_ := A_ (blk_grown (g := gb60) (o := .cells #[.slice A59_0 ((rd_T57 t61 x68_4).f0).length c59_0, .bool ((rd_T57 t61 x68_4).f1), .string ((rd_T57 t61 x68_4).f2), .int .i64 ((rd_T57 t61 x68_4).f3), .slice A59_4 ((rd_T57 t61 x68_4).f4).length c59_4] 57 (0, 0)) (vb_ BK60.out) hg (Kd.R_ne HO82.out BK60.out (by decide)))
                 have n6_ := A_ (hb)
                 have nD_ := A_ (pw_below_grown (bE_ GD60.out) _ (below_size (bE_ GD60.out)) hg (fun k_ hk_ => (HO82.out.1 k_ hk_).1))
                 have n7_ := A_ (ho)
                 clear HO_13
                 clear HO_66
                 clear BK60
                 clear HO74
                 clear HB
                 clear HO82
                 have HO_13 := n0_
                 have HO_66 := n1_
                 have BK60 := n4_
                 have HBD_ := nD_
                 clear HBD nD_
                 have HBD := HBD_
                 clear HBD_
                 have HB := n6_
                 have HO67 := n7_
                 clear n0_ n1_ n4_ n6_ n7_
                 clear ho hb hg hat
                 obtain ⟨Ao51, co51, eo51⟩ := Kd.R_slice HO67.out
                 (first | subst eo51 | (injection eo51 with f1_ f2_ f3_; have f4_ := f1_.symm; have f5_ := f3_.symm; clear f1_ f2_ f3_; subst f4_; subst f5_))
                 refine hK.out _ _ (hl_ BK60.out) (fun hHeld => ?_)
                 clear hK K
                 refine no_ (some 79) ?_
                 refine pu_ (i := 8) (N := some 80) ?_
                 refine last_ (i := 9) (N := none) #[true, true, true, true, true, true, true, true, true, true] rfl rfl (one_of HT_.out (by kernel_rfl)) (by decide) (fun K hK => ?_)
                 have hs52 : w50.cell? ⟨gb60, 0, none⟩ = some (.slice A59_0 ((rd_T57 t61 x68_4).f0).length c59_0) := bl_ BK60.out 0
                 have hfs52 := blk_frozen BK60.out 0
                 refine skip_ (w1 := ?_) (by rfl) rfl ?_ ?_
                 rotate_left
                 . go_simp
                   rfl
                 refine hK.out _ _ ?_
                 clear hK K
                 refine done_ (done_of HT_.out (by kernel_rfl)) ?_
                 (try clear hHeld)
                 obtain ⟨w53, hW_⟩ : ∃ w_, w_ = (w50.setCell ⟨gb60, 0, none⟩ (.slice Ao51 y62.length co51)) := ⟨_, rfl⟩
                 have n0_ : Aside0 (Kd.S k57 57 w53 w.heap.size (fun k_ => (CO_ nD_ w32.heap.size fD_ x68_4 k_) /\ some k_ ≠ (.slice (some ad59) t61.length co33 : Value).ownBlock /\ some k_ ≠ (.slice Ao51 y62.length co51 : Value).ownBlock /\ k_ ≠ gb60) u13 x13_4) := ⟨by rw [hW_]; (with_reducible repeat (first | apply Kd.S_alloc | apply Kd.S_drewN | apply Kd.S_drew)); exact Kd.S_mono (Kd.S_far (p := ⟨gb60, 0, none⟩) (Kd.S_mono HO_13.out (fun k_ hk => (⟨hk, hk.1.2.2⟩ : _ /\ k_ ≠ gb60))) (fun _ hk => hk.2) (.slice Ao51 y62.length co51)) (fun _ hk => ⟨hk.1.1.1, ⟨hk.1.1.2.1, ⟨hk.1.2, hk.1.1.2.2⟩⟩⟩)⟩
                 have n1_ : Aside0 (Kd.N k57 57 w53 w.heap.size (fun k_ => (w.heap.size <= k_) /\ True /\ some k_ ≠ (.slice Ao51 y62.length co51 : Value).ownBlock /\ k_ ≠ gb60) (.slice (some ad59) t61.length co33) t61) := ⟨by rw [hW_]; (with_reducible repeat (first | apply Kd.N_alloc | apply Kd.N_drewN | apply Kd.N_drew)); exact Kd.N_mono (Kd.N_far (p := ⟨gb60, 0, none⟩) (Kd.N_mono HO_66.out (fun k_ hk => (⟨hk, hk.1.2.2⟩ : _ /\ k_ ≠ gb60))) (fun _ hk => hk.2) (.slice Ao51 y62.length co51)) (fun _ hk => ⟨hk.1.1.1, ⟨hk.1.1.2.1, ⟨hk.1.2, hk.1.1.2.2⟩⟩⟩)⟩
                 have n5_ : Aside0 (Kd.R Kd.string 9 w53 w.heap.size (fun k_ => (w32.heap.size <= k_)) (.slice Ao51 y62.length co51) y62) := ⟨by rw [hW_]; (with_reducible repeat (first | apply Kd.R_alloc | apply Kd.R_drewN | apply Kd.R_drew)); exact Kd.R_mono (Kd.R_far (p := ⟨gb60, 0, none⟩) (Kd.R_types HO67.out BK60.out (by decide)) (fun _ hk => hk.2) (.slice Ao51 y62.length co51)) (fun _ hk => hk.1)⟩
                 have n6_ : Aside0 (w53.heap[gb60]? = some (.cells #[.slice Ao51 y62.length co51, .bool ((rd_T57 t61 x68_4).f1), .string ((rd_T57 t61 x68_4).f2), .int .i64 ((rd_T57 t61 x68_4).f3), .slice A59_4 ((rd_T57 t61 x68_4).f4).length c59_4] 57 (0, 0))) := ⟨by rw [hW_]; (with_reducible repeat (first | refine blk_drewN ?_ _ | refine blk_drew ?_ | refine blk_alloc ?_ _)); with_reducible exact p5_0_ (vb_ BK60.out)⟩
                 have n7_ : Aside0 (Below w.heap.size w w53) := ⟨by rw [hW_]; exact bG_ GE60.out⟩
                 have nD_ : Aside0 (Below w32.heap.size w32 w53) := ⟨by rw [hW_]; exact bE_ GD60.out⟩
                 (try clear HO_13)
                 (try clear HO_66)
                 (try clear HL59_0)
                 (try clear HL59_4)
                 (try clear HO74)
                 (try clear HO67)
                 (try clear BK60)
                 (try clear HB)
                 rw [← hW_]
                 clear hW_
                 have HO_13 := n0_
                 have HO_66 := n1_
                 have HO67 := n5_
                 have BK60 := n6_
                 have HBD_ := nD_
                 clear HBD nD_
                 have HBD := HBD_
                 clear HBD_
                 have HB := n7_
                 clear n0_ n1_ n5_ n6_ n7_
                 obtain ⟨hcz54_0, hcz54_1, hcz54_2, hcz54_3, hcz54_4, hfz54_0, hfz54_1, hfz54_2, hfz54_3, hfz54_4⟩ := cz5_ BK60.out
                 go_upto_if 86 with (first | ((with_reducible refine gate_store (t := 3) (p := 82) rfl ?_); refine store_event (t := 3) (p := 82) (v := ?vo_w55) (w1 := (w53.setCell ⟨gb60, 3, none⟩ (.int .i64 a4))) ?hg ?ho ?hn ?hr ?_; (case ho => rfl); (case hg => rfl); (case hn => rfl); (case hr => first | (go_simp; done) | (go_simp; rfl)); intro w55 hw; have n0_ : Aside0 (Kd.S k57 57 w55 w.heap.size (fun k_ => (CO_ nD_ w32.heap.size fD_ x68_4 k_) /\ some k_ ≠ (.slice (some ad59) t61.length co33 : Value).ownBlock /\ some k_ ≠ (.slice Ao51 y62.length co51 : Value).ownBlock /\ k_ ≠ gb60) u13 x13_4) := ⟨(by rw [hw]; exact (by (with_reducible repeat (first | apply Kd.S_alloc | apply Kd.S_drewN | apply Kd.S_drew)); exact Kd.S_mono (Kd.S_far (p := ⟨gb60, 3, none⟩) (Kd.S_mono HO_13.out (fun k_ hk => (⟨hk, hk.2.2.2⟩ : _ /\ k_ ≠ gb60))) (fun _ hk => hk.2) (.int .i64 a4)) (fun _ hk => ⟨hk.1.1, ⟨hk.1.2.1, ⟨hk.1.2.2.1, hk.1.2.2.2⟩⟩⟩)))⟩; have n1_ : Aside0 (Kd.N k57 57 w55 w.heap.size (fun k_ => (w.heap.size <= k_) /\ True /\ some k_ ≠ (.slice Ao51 y62.length co51 : Value).ownBlock /\ k_ ≠ gb60) (.slice (some ad59) t61.length co33) t61) := ⟨(by rw [hw]; exact (by (with_reducible repeat (first | apply Kd.N_alloc | apply Kd.N_drewN | apply Kd.N_drew)); exact Kd.N_mono (Kd.N_far (p := ⟨gb60, 3, none⟩) (Kd.N_mono HO_66.out (fun k_ hk => (⟨hk, hk.2.2.2⟩ : _ /\ k_ ≠ gb60))) (fun _ hk => hk.2) (.int .i64 a4)) (fun _ hk => ⟨hk.1.1, ⟨hk.1.2.1, ⟨hk.1.2.2.1, hk.1.2.2.2⟩⟩⟩)))⟩; have n5_ : Aside0 (Kd.R Kd.string 9 w55 w.heap.size (fun k_ => (w32.heap.size <= k_)) (.slice Ao51 y62.length co51) y62) := ⟨(by rw [hw]; exact (by (with_reducible repeat (first | apply Kd.R_alloc | apply Kd.R_drewN | apply Kd.R_drew)); exact Kd.R_mono (Kd.R_far (p := ⟨gb60, 3, none⟩) (Kd.R_types HO67.out BK60.out (by decide)) (fun _ hk => hk.2) (.int .i64 a4)) (fun _ hk => hk.1)))⟩; have n6_ : Aside0 (w55.heap[gb60]? = some (.cells #[.slice Ao51 y62.length co51, .bool ((rd_T57 t61 x68_4).f1), .string ((rd_T57 t61 x68_4).f2), .int .i64 a4, .slice A59_4 ((rd_T57 t61 x68_4).f4).length c59_4] 57 (0, 0))) := ⟨(by rw [hw]; exact (by (with_reducible repeat (first | refine blk_drewN ?_ _ | refine blk_drew ?_ | refine blk_alloc ?_ _)); with_reducible exact p5_3_ (vb_ BK60.out)))⟩; have n7_ : Aside0 (Below w.heap.size w w55) := ⟨(by rw [hw]; exact (bG_ GE60.out))⟩; have nD_ : Aside0 (Below w32.heap.size w32 w55) := ⟨(by rw [hw]; exact (bE_ GD60.out))⟩; clear hw; clear HO_13; clear HO_66; clear HO67; clear BK60; clear HB; have HO_13 := n0_; have HO_66 := n1_; have HO67 := n5_; have BK60 := n6_; have HBD_ := nD_; clear HBD nD_; have HBD := HBD_; clear HBD_; have HB := n7_; clear n0_ n1_ n5_ n6_ n7_; obtain ⟨hcz56_0, hcz56_1, hcz56_2, hcz56_3, hcz56_4, hfz56_0, hfz56_1, hfz56_2, hfz56_3, hfz56_4⟩ := cz5_ BK60.out) | ((with_reducible refine gc_ (f := 108) rfl ?_); refine gL_ (some 85) Try.func108 #[.slice Ao51 y62.length co51] ?_; (with_reducible refine (impl_PathOk.calls k4 _ _ y62 t77 _ ?s1 ?s2 A41.out).mono ?_); (case s1 => exact cC_ (Kd.R_reads' HO67.out).2.2); (case s2 => exact (Kd.R_reads' HO67.out).2.1); rintro e w' ⟨rfl, ⟨nd, rfl⟩⟩; refine ⟨_, rfl, ?_⟩; obtain ⟨Ao57, co57, eo57⟩ := Kd.S_slice HO_13.out; subst eo57))
                 by_cases c42 : t77 = true
                 . subst c42
                   have H := HQ_.out
                   clear HQ_
                   rw [if_pos rfl] at H
                   obtain ⟨t78, A43, H⟩ := bo_ H
                   (try dsimp only at H)
                   have H' := A_ H
                   clear H
                   go_wp2_with (first | ((with_reducible refine gc_ (f := 76) rfl ?_); refine gL_ (some 89) Try.func76 #[.slice Ao57 x13_4.length co57, .agg #[.slice Ao51 y62.length co51, .bool ((rd_T57 t61 x68_4).f1), .string ((rd_T57 t61 x68_4).f2), .int .i64 a4, .slice A59_4 ((rd_T57 t61 x68_4).f4).length c59_4]] ?_; (refine (impl_withResX.calls k4 (fun k_ => (CO_ nD_ w32.heap.size fD_ x68_4 k_) /\ some k_ ≠ (.slice (some ad59) t61.length co33 : Value).ownBlock /\ some k_ ≠ (.slice Ao51 y62.length co51 : Value).ownBlock /\ k_ ≠ gb60) _ _ x13_4 (fun k_ => some k_ = (.slice Ao51 y62.length co51 : Value).ownBlock) _ _ y62 ((rd_T57 t61 x68_4).f1) ((rd_T57 t61 x68_4).f2) a4 (fun k_ => ((nD_ <= k_ /\ k_ < w32.heap.size) /\ some k_ ≠ (.slice (some ad59) t61.length co33 : Value).ownBlock) /\ fD_ k_ = x68_4.toNat) _ _ ((rd_T57 t61 x68_4).f4) t78 w _ ?sideB ?s1 ?s2 ?s3 ?sideA A43.out).mono ?_); (case sideB => exact (bG_ GE60.out)); (case s1 => (with_reducible repeat (first | apply Kd.S_alloc | apply Kd.S_drewN | apply Kd.S_drew)); exact HO_13.out); (case s2 => (with_reducible repeat (first | apply Kd.R_alloc | apply Kd.R_drewN | apply Kd.R_drew)); exact Kd.R_tight rfl HO67.out); (case s3 => exact Kd.R_below HP_.out (bE_ GD60.out)); (case sideA => exact fun k_ h_ h2_ => h2_.elim h_.2.2.1 (fun h2_ => h_.1 ⟨h2_.1.1.1, h2_.1.1.2, by have h3_ := h2_.2; have h4_ := of_eq_true p59; omega⟩)); rintro e w58 ⟨v94, rfl, ho0, hb⟩; refine ⟨_, rfl, ?_⟩; have n1_ := A_ (Kd.N_below (vN_ HO_66.out) hb); have n6_ := A_ (Kd.S_mono (ok' := fun k_ => (CO_ nD_ w32.heap.size fD_ (wrap64 (x68_4 + 1)) k_) /\ some k_ ≠ (.slice (some ad59) t61.length co33 : Value).ownBlock) ho0 (CO_step (of_eq_true p59) (of_eq_true q59) (Kd.N_reads' HO_66.out).2.2.2.1 (Kd.R_lt HTD.out.2) (fun k_ hk_ => HO67.out.1 k_ hk_) (below_size (bE_ GD60.out)))); have n8_ := A_ (below_step (bG_ GE60.out) hb); have nD_ := A_ (below_step (bE_ GD60.out) hb); clear HO_13; clear HO_66; clear HO67; clear HB; clear HBD; have HO_66 := n1_; have HO92 := n6_; have HB := n8_; have HBD := nD_; clear n1_ n6_ n8_ nD_; clear hb ho0))
                   go_roundg k4
                   case measure => have := HJ6.out; have := HJ12.out; have := HJ19.out; have := HK4.out; omega
                   case rel => exact ⟨(t78), (wrap64 (x68_4 + 1)), rs_, H', ⟨by have := HJ6.out; have := HJ12.out; have := HJ19.out; have := HK4.out; omega⟩, ⟨vS_ HO92.out⟩, ⟨by (with_reducible repeat (first | apply Kd.N_alloc | apply Kd.N_drewN | apply Kd.N_drew)); exact Kd.N_mono HO_66.out (fun _ hk => ⟨hk.1, trivial⟩)⟩, ⟨bG_ GE60.out⟩, ⟨bE_ GD60.out⟩⟩
                 . replace c42 := Bool.eq_false_iff.mpr c42
                   subst c42
                   have H := HQ_.out
                   clear HQ_
                   rw [if_neg nf_] at H
                   simp only [Option.some.injEq, Prod.mk.injEq] at H
                   obtain ⟨rfl, rfl⟩ := H
                   go_wp2
                   go_ret2
                   exact ⟨_, rr_, by first | exact Kd.S_nil _ _ _ _ _ | exact Kd.N_nil _ _ _ _ _ | exact Kd.V_nil _ _ _ _ _ | exact Kd.Q_nil _ _ _ _ _ | exact Kd.R_nil _ _ _ _ _, bG_ GE60.out⟩
             . replace c25 := Bool.eq_false_iff.mpr c25
               subst c25
               rw [if_neg nf_] at H
               simp only [Option.some.injEq, Prod.mk.injEq] at H
               obtain ⟨rfl, rfl⟩ := H
               go_wp2_with (first | ((with_reducible refine gc_ (f := 44) rfl ?_); refine gL_ (some 58) Try.func44 #[.slice A2 l2.length c2] ?_; (with_reducible refine (impl_Above.calls _ _ l2 t73 _ ?s1 ?s2 A23.out).mono ?_); (case s1 => exact cC_ (Kd.C_below HR2.out HB.out)); (case s2 => exact HC2.out); rintro e w70 ⟨v88, rfl, ho0, hb⟩; refine ⟨_, rfl, ?_⟩; have HO65 := A_ (Kd.R_lower (Kd.R_newM (M := fun k_ => (w.heap.size <= k_)) ho0 (below_size bB_) (fun k_ h_ => h_)) (below_size bB_)); replace HB := A_ (below_step bB_ hb); clear hb ho0; obtain ⟨Ao71, co71, eo71⟩ := Kd.R_slice HO65.out; subst eo71) | ((with_reducible refine gc_ (f := 43) rfl ?_); refine gL_ (some 59) Try.func43 #[.slice A0 l0.length c0, .slice Ao71 t73.length co71] ?_; (with_reducible refine (impl_IsColl.calls kj19 _ _ l0 _ _ t73 false _ ?s1 ?s2 ?s3 ?s4 A24.out).mono ?_); (case s1 => exact cC_ (Kd.C_below HR0.out HB.out)); (case s2 => exact HC0.out); (case s3 => exact cC_ (Kd.R_reads' HO65.out).2.2); (case s4 => exact (Kd.R_reads' HO65.out).2.1); rintro e w72 ⟨rfl, hb⟩; refine ⟨_, rfl, ?_⟩; replace HB := A_ (below_step bB_ hb); clear hb))
               go_ret2
               exact ⟨_, rr_, by first | exact Kd.S_nil _ _ _ _ _ | exact Kd.N_nil _ _ _ _ _ | exact Kd.V_nil _ _ _ _ _ | exact Kd.Q_nil _ _ _ _ _ | exact Kd.R_nil _ _ _ _ _, bB_⟩
theorem S_fresh {α : Type} {d : Kd α} {e base : Nat} {w : World} {ok : Nat -> Prop} {v : Value} {xs : List α} (h : Kd.S d e w base ok v xs) : Kd.S d e w base (fun k => base <= k) v xs := by
 obtain ⟨f, h0, ho⟩ := h
 exact ⟨f, fun k hk => Kd.R_base ⟨h0, ho⟩ k hk, ho.imp_ (fun _ _ hp => (Kd.tag f d).M_mono (fun k hk => ⟨hk.2.1, hk.1.2⟩) ((Kd.tag f d).M_bound hp))⟩
theorem impl_copied.calls (k : Nat) (A0 : Option Addr) (c0 : Nat) (l0 : List (S57)) (A1 : Option Addr) (c1 : Nat) (l1 : List ByteArray) (A2 : Option Addr) (c2 : Nat) (l2 : List ByteArray) (a3 : Bool) (a4 : Int) (r1 : List (S57)) (r2 : Int) (w : World) (hr0 : Kd.C k57 w A0 l0.length l0) (hc0 : l0.length <= c0) (hr1 : Kd.C Kd.string w A1 l1.length l1) (hc1 : l1.length <= c1) (hr2 : Kd.C Kd.string w A2 l2.length l2) (hc2 : l2.length <= c2) (h : impl_copied.f k l0 l1 l2 a3 a4 = some (r1, r2)) :
 Calls Try.prog 83 #[.slice A0 l0.length c0, .slice A1 l1.length c1, .slice A2 l2.length c2, .bool a3, .int .i64 a4] w fun e w' => ∃ v0_ : Value, e = .returned (.tuple #[v0_, .int .i64 r2]) /\ Kd.N k57 57 w' w.heap.size (fun k_ => (w.heap.size <= k_)) v0_ r1 /\ Below w.heap.size w w' := by
 refine (impl_copiedX.calls k A0 c0 l0 A1 c1 l1 A2 c2 l2 a3 a4 r1 r2 w hr0 hc0 hr1 hc1 hr2 hc2 h).mono ?_
 rintro e w' ⟨v, e1, h2, hb⟩
 exact ⟨v, e1, Kd.S_N (S_fresh h2), hb⟩
end Go.Proofs.Ytbgggcgjijljkaa.Q

/- A printed walk's contract told more sharply: the result's elements' rows lie apart. No condition. -/
namespace Go.Proofs.Ytbgggcgjijljkaa.Q
open Go.RowKit Go.Proofs.YtbgggcgjijljkaaW.PrintWords Go.Proofs.YtbgggcgjijljkaaW.PrintLast Go.Proofs.YtbgggcgjijljkaaW.PrintMore
attribute [local go_sem] max2_int min2_int max_two min_two max_three min_three max_four min_four
set_option linter.unusedVariables false
set_option linter.unusedSimpArgs false
abbrev impl_CopyTreeX.f (k : Nat) (l0 : List (S57)) (l1 : List ByteArray) (l2 : List ByteArray) (a3 : Bool) (a4 : Int) : Option ((List (S57)) × Int) := impl_CopyTree.f k l0 l1 l2 a3 a4
set_option maxHeartbeats 8000000 in
set_option maxRecDepth 100000 in
theorem impl_CopyTreeV.calls (k : Nat) (A0 : Option Addr) (c0 : Nat) (l0 : List (S57)) (P1_ : Nat -> Prop) (A1 : Option Addr) (c1 : Nat) (l1 : List ByteArray) (P2_ : Nat -> Prop) (A2 : Option Addr) (c2 : Nat) (l2 : List ByteArray) (a3 : Bool) (a4 : Int) (r1 : List (S57)) (r2 : Int) (w : World) (hr0 : Kd.C k57 w A0 l0.length l0) (hc0 : l0.length <= c0) (hs1 : Kd.V Kd.string 9 w w.heap.size (fun k_ => P1_ k_) (.slice A1 l1.length c1) l1) (hs2 : Kd.V Kd.string 9 w w.heap.size (fun k_ => P2_ k_) (.slice A2 l2.length c2) l2) (h : impl_CopyTree.f k l0 l1 l2 a3 a4 = some (r1, r2)) :
 Calls Try.prog 35 #[.slice A0 l0.length c0, .slice A1 l1.length c1, .slice A2 l2.length c2, .bool a3, .int .i64 a4] w fun e w' => ∃ v0_ : Value, e = .returned (.tuple #[v0_, .int .i64 r2]) /\ Kd.S k57 57 w' w.heap.size (fun _ => True) v0_ r1 /\ Below w.heap.size w w' := by
 have HR0 := A_ hr0
 have HC0 := A_ hc0
 clear hr0 hc0
 have HO1 := A_ (show Kd.V Kd.string 9 w w.heap.size (fun k_ => ((P1_ k_ \/ P2_ k_) \/ w.heap.size <= k_)) (.slice A1 l1.length c1) l1 from Kd.V_mono hs1 (fun k_ hk => .inl (.inl hk)))
 have HO2 := A_ (show Kd.V Kd.string 9 w w.heap.size (fun k_ => ((P1_ k_ \/ P2_ k_) \/ w.heap.size <= k_)) (.slice A2 l2.length c2) l2 from Kd.V_mono hs2 (fun k_ hk => .inl (.inr hk)))
 have HB := A_ (Below.refl w.heap.size w)
 have H : ((impl_opForm.f k l0 a4 (([l1, l2] : List (List ByteArray)))).bind fun t33 => (if t33 = 0 then ((impl_copied.f k l0 l1 l2 a3 a4).bind fun bt30 => (if bt30.2 < 400 then (impl_CopyTree.j0 k l0 bt30.1 bt30.2 (decide ((bt30.1.length : Int) > 12))) else (impl_CopyTree.j0 k l0 bt30.1 bt30.2 false))) else ((impl_copyTree.f k l0).bind fun t36 => (some (t36, t33))))) = some (r1, r2) := h
 clear h
 obtain ⟨y31, hy31⟩ : ∃ y_ : List (List ByteArray), y_ = (([l1, l2] : List (List ByteArray))) := ⟨_, rfl⟩
 replace H : ((impl_opForm.f k l0 a4 y31).bind fun t33 => (if t33 = 0 then ((impl_copied.f k l0 l1 l2 a3 a4).bind fun bt30 => (if bt30.2 < 400 then (impl_CopyTree.j0 k l0 bt30.1 bt30.2 (decide ((bt30.1.length : Int) > 12))) else (impl_CopyTree.j0 k l0 bt30.1 bt30.2 false))) else ((impl_copyTree.f k l0).bind fun t36 => (some (t36, t33))))) = some (r1, r2) := hy_ hy31 H
 have Ny31 := A_ hy31
 clear hy31
 obtain ⟨t33, A6, H⟩ := bo_ H
 (try dsimp only at H)
 by_cases c7 : t33 = 0
 rotate_left
 . rw [if_neg c7] at H
   obtain ⟨c7b0, c7b1⟩ := eF_ c7
   obtain ⟨t36, A24, H⟩ := bo_ H
   (try dsimp only at H)
   simp only [Option.some.injEq, Prod.mk.injEq] at H
   obtain ⟨rfl, rfl⟩ := H
   go_enter Try.func35, Try.ntmps35
   go_wp2_with (first | ((with_reducible refine gd_ (N := 19) rfl ?_); (try (refine gate_guard (by rfl) ?_; dsimp only)); refine Kd.N_lit (Kd.slice 9 Kd.string) _ 23 ?hg (N' := 19) ?hd (xs := ([l1, l2] : List (List ByteArray))) (inner := [.slice A1 l1.length c1, .slice A2 l2.length c2]) (ok := (fun k_ => ((P1_ k_ \/ P2_ k_) \/ w.heap.size <= k_))) (okp := (fun k_ => ((P1_ k_ \/ P2_ k_) \/ w.heap.size <= k_))) ?hr ?hp (fun _ hk => hk) ((show ∀ k_, w.heap.size <= k_ -> (fun k_ => ((P1_ k_ \/ P2_ k_) \/ w.heap.size <= k_)) k_ from fun k_ hk => (.inr (Nat.le_trans (below_size bB_) hk))) _ (Nat.le_refl _)) (Below.refl _ _) (Nat.le_refl _) (by simp) ?_; (case hd => rfl); (case hg => rfl); (case hr => first | (go_simp; done) | (go_simp; rfl)); (case hp => exact (Reps.one (show Kd.FK (Kd.slice 9 Kd.string) _ _ l1 [.slice A1 l1.length c1] from (Kd.FK_slice_mk (Kd.V_reads' (Kd.V_mono (ok' := (fun k_ => ((P1_ k_ \/ P2_ k_) \/ w.heap.size <= k_))) (HO1.out) (fun k_ hk => hk))).2.1 (Kd.V_F (Kd.V_mono (ok' := (fun k_ => ((P1_ k_ \/ P2_ k_) \/ w.heap.size <= k_))) (HO1.out) (fun k_ hk => hk))))) (Reps.one (show Kd.FK (Kd.slice 9 Kd.string) _ _ l2 [.slice A2 l2.length c2] from (Kd.FK_slice_mk (Kd.V_reads' (Kd.V_mono (ok' := (fun k_ => ((P1_ k_ \/ P2_ k_) \/ w.heap.size <= k_))) (HO2.out) (fun k_ hk => hk))).2.1 (Kd.V_F (Kd.V_mono (ok' := (fun k_ => ((P1_ k_ \/ P2_ k_) \/ w.heap.size <= k_))) (HO2.out) (fun k_ hk => hk))))) (Reps.none _ _)))); intro v38 w25 ho26 hb hg_ hnew_; clear hg_ hnew_; (first | rw [← Ny31.out] at ho26 | (simp only [Int.reduceToNat] at ho26; rw [← Ny31.out] at ho26)); have HO34 := A_ (Kd.N_lower ho26 (below_size bB_)); replace HB := A_ (below_step bB_ hb); clear hb ho26; obtain ⟨Ao27, co27, eo27⟩ := Kd.N_slice HO34.out; subst eo27) | ((with_reducible refine gc_ (f := 65) rfl ?_); refine gL_ (some 20) Try.func65 #[.slice A0 l0.length c0, .int .i64 a4, .slice Ao27 y31.length co27] ?_; (with_reducible refine (impl_opForm.calls k _ _ l0 a4 _ _ y31 t33 _ ?s1 ?s2 ?s3 ?s4 A6.out).mono ?_); (case s1 => exact cC_ (Kd.C_below HR0.out HB.out)); (case s2 => exact HC0.out); (case s3 => exact cC_ (Kd.N_reads' HO34.out).2.2); (case s4 => exact (Kd.N_reads' HO34.out).2.1); rintro e w28 ⟨rfl, hb⟩; refine ⟨_, rfl, ?_⟩; replace HB := A_ (below_step bB_ hb); clear hb) | ((with_reducible refine gc_ (f := 66) rfl ?_); refine gL_ (some 24) Try.func66 #[.slice A0 l0.length c0] ?_; (with_reducible refine (impl_copyTree.calls k _ _ l0 t36 _ ?s1 ?s2 A24.out).mono ?_); (case s1 => exact cC_ (Kd.C_below HR0.out HB.out)); (case s2 => exact HC0.out); rintro e w29 ⟨v46, rfl, ho0, hb⟩; refine ⟨_, rfl, ?_⟩; have HO39 := A_ (Kd.S_lower (Kd.S_newM (M := fun k_ => (w.heap.size <= k_)) ho0 (below_size bB_) (fun k_ h_ => h_)) (below_size bB_)); replace HB := A_ (below_step bB_ hb); clear hb ho0))
   go_ret2
   exact ⟨_, rr_, by (with_reducible repeat (first | apply Kd.S_alloc | apply Kd.S_drewN | apply Kd.S_drew)); exact Kd.S_mono HO39.out (fun _ _ => trivial), bB_⟩
 rw [if_pos c7] at H
 obtain ⟨c7b0, c7b1⟩ := eT_ c7
 clear c7
 obtain ⟨⟨t30, t35⟩, A8, H⟩ := bo_ H
 (try dsimp only at H)
 have HC9 := A_ H
 clear H
 go_enter Try.func35, Try.ntmps35
 go_upto_region 5 with (first | ((with_reducible refine gd_ (N := 19) rfl ?_); (try (refine gate_guard (by rfl) ?_; dsimp only)); refine Kd.N_lit (Kd.slice 9 Kd.string) _ 23 ?hg (N' := 19) ?hd (xs := ([l1, l2] : List (List ByteArray))) (inner := [.slice A1 l1.length c1, .slice A2 l2.length c2]) (ok := (fun k_ => ((P1_ k_ \/ P2_ k_) \/ w.heap.size <= k_))) (okp := (fun k_ => ((P1_ k_ \/ P2_ k_) \/ w.heap.size <= k_))) ?hr ?hp (fun _ hk => hk) ((show ∀ k_, w.heap.size <= k_ -> (fun k_ => ((P1_ k_ \/ P2_ k_) \/ w.heap.size <= k_)) k_ from fun k_ hk => (.inr (Nat.le_trans (below_size bB_) hk))) _ (Nat.le_refl _)) (Below.refl _ _) (Nat.le_refl _) (by simp) ?_; (case hd => rfl); (case hg => rfl); (case hr => first | (go_simp; done) | (go_simp; rfl)); (case hp => exact (Reps.one (show Kd.FK (Kd.slice 9 Kd.string) _ _ l1 [.slice A1 l1.length c1] from (Kd.FK_slice_mk (Kd.V_reads' (Kd.V_mono (ok' := (fun k_ => ((P1_ k_ \/ P2_ k_) \/ w.heap.size <= k_))) (HO1.out) (fun k_ hk => hk))).2.1 (Kd.V_F (Kd.V_mono (ok' := (fun k_ => ((P1_ k_ \/ P2_ k_) \/ w.heap.size <= k_))) (HO1.out) (fun k_ hk => hk))))) (Reps.one (show Kd.FK (Kd.slice 9 Kd.string) _ _ l2 [.slice A2 l2.length c2] from (Kd.FK_slice_mk (Kd.V_reads' (Kd.V_mono (ok' := (fun k_ => ((P1_ k_ \/ P2_ k_) \/ w.heap.size <= k_))) (HO2.out) (fun k_ hk => hk))).2.1 (Kd.V_F (Kd.V_mono (ok' := (fun k_ => ((P1_ k_ \/ P2_ k_) \/ w.heap.size <= k_))) (HO2.out) (fun k_ hk => hk))))) (Reps.none _ _)))); intro v38 w10 ho11 hb hg_ hnew_; clear hg_ hnew_; (first | rw [← Ny31.out] at ho11 | (simp only [Int.reduceToNat] at ho11; rw [← Ny31.out] at ho11)); replace HO1 := A_ (Kd.V_elder' (vV_ HO1.out) (kb_ ho11) hb); replace HO2 := A_ (Kd.V_elder' (vV_ HO2.out) (kb_ ho11) hb); have HO34 := A_ (Kd.N_lower ho11 (below_size bB_)); replace HB := A_ (below_step bB_ hb); clear hb ho11; obtain ⟨Ao12, co12, eo12⟩ := Kd.N_slice HO34.out; subst eo12) | ((with_reducible refine gc_ (f := 65) rfl ?_); refine gL_ (some 20) Try.func65 #[.slice A0 l0.length c0, .int .i64 a4, .slice Ao12 y31.length co12] ?_; (with_reducible refine (impl_opForm.calls k _ _ l0 a4 _ _ y31 t33 _ ?s1 ?s2 ?s3 ?s4 A6.out).mono ?_); (case s1 => exact cC_ (Kd.C_below HR0.out HB.out)); (case s2 => exact HC0.out); (case s3 => exact cC_ (Kd.N_reads' HO34.out).2.2); (case s4 => exact (Kd.N_reads' HO34.out).2.1); rintro e w13 ⟨rfl, hb⟩; refine ⟨_, rfl, ?_⟩; replace HO1 := A_ (Kd.V_below (vV_ HO1.out) hb); replace HO2 := A_ (Kd.V_below (vV_ HO2.out) hb); replace HB := A_ (below_step bB_ hb); clear hb) | ((with_reducible refine gc_ (f := 83) rfl ?_); refine gL_ (some 32) Try.func83 #[.slice A0 l0.length c0, .slice A1 l1.length c1, .slice A2 l2.length c2, .bool a3, .int .i64 a4] ?_; (with_reducible refine (impl_copiedX.calls k _ _ l0 _ _ l1 _ _ l2 a3 a4 t30 t35 _ ?s1 ?s2 ?s3 ?s4 ?s5 ?s6 A8.out).mono ?_); (case s1 => exact cC_ (Kd.C_below HR0.out HB.out)); (case s2 => exact HC0.out); (case s3 => exact cC_ (Kd.V_reads' HO1.out).2.2); (case s4 => exact (Kd.V_reads' HO1.out).2.1); (case s5 => exact cC_ (Kd.V_reads' HO2.out).2.2); (case s6 => exact (Kd.V_reads' HO2.out).2.1); rintro e w14 ⟨v40, rfl, ho0, hb⟩; refine ⟨_, rfl, ?_⟩; have HO37 := A_ (Kd.S_mono (ok' := fun _ => True) (Kd.S_lower ho0 (below_size bB_)) (fun _ _ => trivial)); replace HB := A_ (below_step bB_ hb); clear hb ho0))
 (try simp only [Act.put, List.setIfInBounds_toArray, List.set_cons_zero, List.set_cons_succ])
 go_cut [41] (fun v41 wc => ∃ (kq : Nat) (x41_8 : Bool), v41 = .bool x41_8 /\ Aside0 (impl_CopyTree.j0 kq l0 t30 t35 x41_8 = some (r1, r2)) /\ Aside0 (kq <= k) /\ Aside0 (Kd.S k57 57 wc w.heap.size (fun _ => True) v40 t30) /\ Aside0 (Below w.heap.size w wc))
 case first =>
  have H := HC9.out
  clear HC9
  by_cases c15 : t35 < 400
  rotate_left
  . rw [if_neg c15] at H
    have c15b0 := decide_eq_false c15
    clear c15
    (first | rw [c15b0] | (simp only [i64_w, i32_w]; rw [c15b0]) | skip)
    have H' := A_ H
    clear H
    go_wp2
    go_meet
    case rel => exact ⟨_, (false), rs_, H', ⟨by first | omega | exact Nat.le_refl _⟩, ⟨vS_ HO37.out⟩, ⟨bB_⟩⟩
  rw [if_pos c15] at H
  have c15b0 := decide_eq_true c15
  clear c15
  (first | rw [c15b0] | (simp only [i64_w, i32_w]; rw [c15b0]) | skip)
  have H' := A_ H
  clear H
  obtain ⟨Ao16, co16, eo16⟩ := Kd.S_slice HO37.out
  subst eo16
  go_wp2
  go_meet
  case rel => exact ⟨_, (decide ((t30.length : Int) > 12)), rs_, H', ⟨by first | omega | exact Nat.le_refl _⟩, ⟨vS_ HO37.out⟩, ⟨bB_⟩⟩
 case rest =>
  clear HC9
  try clear c1
  try clear c2
  try clear c7
  try clear c7b0
  try clear c7b1
  obtain ⟨kq, x41_8, rfl, HA, HJ8, HO_13, HB⟩ := hcut
  cases kq with
  | zero => exact absurd HA.out (by simp [impl_CopyTree.j0])
  | succ kj8 =>
   have H := HA.out
   clear HA
   simp only [impl_CopyTree.j0] at H
   by_cases c17 : x41_8 = true
   . subst c17
     rw [if_pos rfl] at H
     by_cases c18 : 507 >= 400
     . rw [if_pos c18] at H
       have c18b0 : decide (400 <= 507) = true := decide_eq_true c18
       clear c18
       obtain ⟨t42, A19, H⟩ := bo_ H
       (try dsimp only at H)
       simp only [Option.some.injEq, Prod.mk.injEq] at H
       obtain ⟨rfl, rfl⟩ := H
       go_wp2_with (first | ((with_reducible refine gc_ (f := 66) rfl ?_); refine gL_ (some 45) Try.func66 #[.slice A0 l0.length c0] ?_; (with_reducible refine (impl_copyTree.calls kj8 _ _ l0 t42 _ ?s1 ?s2 A19.out).mono ?_); (case s1 => exact cC_ (Kd.C_below HR0.out HB.out)); (case s2 => exact HC0.out); rintro e w20 ⟨v47, rfl, ho0, hb⟩; refine ⟨_, rfl, ?_⟩; have HO43 := A_ (Kd.S_lower (Kd.S_new' (Kd.S_newM (M := fun k_ => (w.heap.size <= k_)) ho0 (below_size bB_) (fun k_ h_ => h_)) (Kd.S_lt (vS_ HO_13.out))) (below_size bB_)); replace HB := A_ (below_step bB_ hb); clear hb ho0))
       go_ret2
       exact ⟨_, rr_, by (with_reducible repeat (first | apply Kd.S_alloc | apply Kd.S_drewN | apply Kd.S_drew)); exact Kd.S_mono HO43.out (fun _ _ => trivial), bB_⟩
     . exact absurd (by decide) c18
   . replace c17 := Bool.eq_false_iff.mpr c17
     subst c17
     rw [if_neg nf_] at H
     by_cases c21 : t35 >= 400
     rotate_left
     . rw [if_neg c21] at H
       have c21b0 : decide (400 <= t35) = false := decide_eq_false c21
       clear c21
       simp only [Option.some.injEq, Prod.mk.injEq] at H
       obtain ⟨rfl, rfl⟩ := H
       go_wp2
       go_ret2
       exact ⟨_, rr_, vS_ HO_13.out, bB_⟩
     rw [if_pos c21] at H
     have c21b0 : decide (400 <= t35) = true := decide_eq_true c21
     clear c21
     obtain ⟨t44, A22, H⟩ := bo_ H
     (try dsimp only at H)
     simp only [Option.some.injEq, Prod.mk.injEq] at H
     obtain ⟨rfl, rfl⟩ := H
     go_wp2_with (first | ((with_reducible refine gc_ (f := 66) rfl ?_); refine gL_ (some 45) Try.func66 #[.slice A0 l0.length c0] ?_; (with_reducible refine (impl_copyTree.calls kj8 _ _ l0 t44 _ ?s1 ?s2 A22.out).mono ?_); (case s1 => exact cC_ (Kd.C_below HR0.out HB.out)); (case s2 => exact HC0.out); rintro e w23 ⟨v48, rfl, ho0, hb⟩; refine ⟨_, rfl, ?_⟩; have HO45 := A_ (Kd.S_lower (Kd.S_new' (Kd.S_newM (M := fun k_ => (w.heap.size <= k_)) ho0 (below_size bB_) (fun k_ h_ => h_)) (Kd.S_lt (vS_ HO_13.out))) (below_size bB_)); replace HB := A_ (below_step bB_ hb); clear hb ho0))
     go_ret2
     exact ⟨_, rr_, by (with_reducible repeat (first | apply Kd.S_alloc | apply Kd.S_drewN | apply Kd.S_drew)); exact Kd.S_mono HO45.out (fun _ _ => trivial), bB_⟩
end Go.Proofs.Ytbgggcgjijljkaa.Q

/- A printed walk's contract told more sharply: the result's elements' rows lie apart. No condition. -/
namespace Go.Proofs.Ytbgggcgjijljkaa.Q
open Go.RowKit Go.Proofs.YtbgggcgjijljkaaW.PrintWords Go.Proofs.YtbgggcgjijljkaaW.PrintLast Go.Proofs.YtbgggcgjijljkaaW.PrintMore
attribute [local go_sem] max2_int min2_int max_two min_two max_three min_three max_four min_four
set_option linter.unusedVariables false
set_option linter.unusedSimpArgs false
abbrev impl_MoveTreeX.f (k : Nat) (l0 : List (S57)) (l1 : List ByteArray) (l2 : List ByteArray) (a3 : Bool) (a4 : Int) : Option ((List (S57)) × Int) := impl_MoveTree.f k l0 l1 l2 a3 a4
set_option maxHeartbeats 8000000 in
set_option maxRecDepth 100000 in
theorem impl_MoveTreeV.calls (k : Nat) (A0 : Option Addr) (c0 : Nat) (l0 : List (S57)) (P1_ : Nat -> Prop) (A1 : Option Addr) (c1 : Nat) (l1 : List ByteArray) (P2_ : Nat -> Prop) (A2 : Option Addr) (c2 : Nat) (l2 : List ByteArray) (a3 : Bool) (a4 : Int) (r1 : List (S57)) (r2 : Int) (w : World) (hr0 : Kd.C k57 w A0 l0.length l0) (hc0 : l0.length <= c0) (hs1 : Kd.V Kd.string 9 w w.heap.size (fun k_ => P1_ k_) (.slice A1 l1.length c1) l1) (hs2 : Kd.V Kd.string 9 w w.heap.size (fun k_ => P2_ k_) (.slice A2 l2.length c2) l2) (h : impl_MoveTree.f k l0 l1 l2 a3 a4 = some (r1, r2)) :
 Calls Try.prog 37 #[.slice A0 l0.length c0, .slice A1 l1.length c1, .slice A2 l2.length c2, .bool a3, .int .i64 a4] w fun e w' => ∃ v0_ : Value, e = .returned (.tuple #[v0_, .int .i64 r2]) /\ Kd.S k57 57 w' w.heap.size (fun k_ => (w.heap.size <= k_)) v0_ r1 /\ Below w.heap.size w w' := by
 have HR0 := A_ hr0
 have HC0 := A_ hc0
 clear hr0 hc0
 have HO1 := A_ (show Kd.V Kd.string 9 w w.heap.size (fun k_ => ((P1_ k_ \/ P2_ k_) \/ w.heap.size <= k_)) (.slice A1 l1.length c1) l1 from Kd.V_mono hs1 (fun k_ hk => .inl (.inl hk)))
 have HO2 := A_ (show Kd.V Kd.string 9 w w.heap.size (fun k_ => ((P1_ k_ \/ P2_ k_) \/ w.heap.size <= k_)) (.slice A2 l2.length c2) l2 from Kd.V_mono hs2 (fun k_ hk => .inl (.inr hk)))
 have HB := A_ (Below.refl w.heap.size w)
 have H : ((impl_opForm.f k l0 a4 (([l1, l2] : List (List ByteArray)))).bind fun t48 => (if t48 = 0 then ((impl_copied.f k l0 l1 l2 a3 a4).bind fun bt45 => (if bt45.2 >= 400 then ((impl_copyTree.f k l0).bind fun t50 => (some (t50, bt45.2))) else ((impl_without.f k bt45.1 l1).bind fun t47 => (if (t47.length : Int) > 12 then ((impl_copyTree.f k l0).bind fun t51 => (some (t51, 507))) else (some (t47, bt45.2)))))) else ((impl_copyTree.f k l0).bind fun t52 => (some (t52, t48))))) = some (r1, r2) := h
 clear h
 obtain ⟨y43, hy43⟩ : ∃ y_ : List (List ByteArray), y_ = (([l1, l2] : List (List ByteArray))) := ⟨_, rfl⟩
 replace H : ((impl_opForm.f k l0 a4 y43).bind fun t48 => (if t48 = 0 then ((impl_copied.f k l0 l1 l2 a3 a4).bind fun bt45 => (if bt45.2 >= 400 then ((impl_copyTree.f k l0).bind fun t50 => (some (t50, bt45.2))) else ((impl_without.f k bt45.1 l1).bind fun t47 => (if (t47.length : Int) > 12 then ((impl_copyTree.f k l0).bind fun t51 => (some (t51, 507))) else (some (t47, bt45.2)))))) else ((impl_copyTree.f k l0).bind fun t52 => (some (t52, t48))))) = some (r1, r2) := hy_ hy43 H
 have Ny43 := A_ hy43
 clear hy43
 obtain ⟨t48, A6, H⟩ := bo_ H
 (try dsimp only at H)
 by_cases c7 : t48 = 0
 rotate_left
 . rw [if_neg c7] at H
   obtain ⟨c7b0, c7b1⟩ := eF_ c7
   obtain ⟨t52, A37, H⟩ := bo_ H
   (try dsimp only at H)
   simp only [Option.some.injEq, Prod.mk.injEq] at H
   obtain ⟨rfl, rfl⟩ := H
   go_enter Try.func37, Try.ntmps37
   go_wp2_with (first | ((with_reducible refine gd_ (N := 19) rfl ?_); refine Kd.N_lit (Kd.slice 9 Kd.string) _ 23 ?hg (N' := 19) ?hd (xs := ([l1, l2] : List (List ByteArray))) (inner := [.slice A1 l1.length c1, .slice A2 l2.length c2]) (ok := (fun k_ => ((P1_ k_ \/ P2_ k_) \/ w.heap.size <= k_))) (okp := (fun k_ => ((P1_ k_ \/ P2_ k_) \/ w.heap.size <= k_))) ?hr ?hp (fun _ hk => hk) ((show ∀ k_, w.heap.size <= k_ -> (fun k_ => ((P1_ k_ \/ P2_ k_) \/ w.heap.size <= k_)) k_ from fun k_ hk => (.inr (Nat.le_trans (below_size bB_) hk))) _ (Nat.le_refl _)) (Below.refl _ _) (Nat.le_refl _) (by simp) ?_; (case hd => rfl); (case hg => rfl); (case hr => first | (go_simp; done) | (go_simp; rfl)); (case hp => exact (Reps.one (show Kd.FK (Kd.slice 9 Kd.string) _ _ l1 [.slice A1 l1.length c1] from (Kd.FK_slice_mk (Kd.V_reads' (Kd.V_mono (ok' := (fun k_ => ((P1_ k_ \/ P2_ k_) \/ w.heap.size <= k_))) (HO1.out) (fun k_ hk => hk))).2.1 (Kd.V_F (Kd.V_mono (ok' := (fun k_ => ((P1_ k_ \/ P2_ k_) \/ w.heap.size <= k_))) (HO1.out) (fun k_ hk => hk))))) (Reps.one (show Kd.FK (Kd.slice 9 Kd.string) _ _ l2 [.slice A2 l2.length c2] from (Kd.FK_slice_mk (Kd.V_reads' (Kd.V_mono (ok' := (fun k_ => ((P1_ k_ \/ P2_ k_) \/ w.heap.size <= k_))) (HO2.out) (fun k_ hk => hk))).2.1 (Kd.V_F (Kd.V_mono (ok' := (fun k_ => ((P1_ k_ \/ P2_ k_) \/ w.heap.size <= k_))) (HO2.out) (fun k_ hk => hk))))) (Reps.none _ _)))); intro v54 w38 ho39 hb hg_ hnew_; clear hg_ hnew_; (first | rw [← Ny43.out] at ho39 | (simp only [Int.reduceToNat] at ho39; rw [← Ny43.out] at ho39)); have HO44 := A_ (Kd.N_lower ho39 (below_size bB_)); replace HB := A_ (below_step bB_ hb); clear hb ho39; obtain ⟨Ao40, co40, eo40⟩ := Kd.N_slice HO44.out; subst eo40) | ((with_reducible refine gc_ (f := 65) rfl ?_); refine gL_ (some 20) Try.func65 #[.slice A0 l0.length c0, .int .i64 a4, .slice Ao40 y43.length co40] ?_; (with_reducible refine (impl_opForm.calls k _ _ l0 a4 _ _ y43 t48 _ ?s1 ?s2 ?s3 ?s4 A6.out).mono ?_); (case s1 => exact cC_ (Kd.C_below HR0.out HB.out)); (case s2 => exact HC0.out); (case s3 => exact cC_ (Kd.N_reads' HO44.out).2.2); (case s4 => exact (Kd.N_reads' HO44.out).2.1); rintro e w41 ⟨rfl, hb⟩; refine ⟨_, rfl, ?_⟩; replace HB := A_ (below_step bB_ hb); clear hb) | ((with_reducible refine gc_ (f := 66) rfl ?_); refine gL_ (some 24) Try.func66 #[.slice A0 l0.length c0] ?_; (with_reducible refine (impl_copyTree.calls k _ _ l0 t52 _ ?s1 ?s2 A37.out).mono ?_); (case s1 => exact cC_ (Kd.C_below HR0.out HB.out)); (case s2 => exact HC0.out); rintro e w42 ⟨v61, rfl, ho0, hb⟩; refine ⟨_, rfl, ?_⟩; have HO56 := A_ (Kd.S_lower (Kd.S_newM (M := fun k_ => (w.heap.size <= k_)) ho0 (below_size bB_) (fun k_ h_ => h_)) (below_size bB_)); replace HB := A_ (below_step bB_ hb); clear hb ho0))
   go_ret2
   exact ⟨_, rr_, by (with_reducible repeat (first | apply Kd.S_alloc | apply Kd.S_drewN | apply Kd.S_drew)); exact Kd.S_mono HO56.out (fun _ hk => hk.1), bB_⟩
 rw [if_pos c7] at H
 obtain ⟨c7b0, c7b1⟩ := eT_ c7
 clear c7
 obtain ⟨⟨t45, t49⟩, A8, H⟩ := bo_ H
 (try dsimp only at H)
 by_cases c9 : t49 >= 400
 . rw [if_pos c9] at H
   have c9b0 : decide (400 <= t49) = true := decide_eq_true c9
   clear c9
   obtain ⟨t50, A10, H⟩ := bo_ H
   (try dsimp only at H)
   simp only [Option.some.injEq, Prod.mk.injEq] at H
   obtain ⟨rfl, rfl⟩ := H
   go_enter Try.func37, Try.ntmps37
   go_wp2_with (first | ((with_reducible refine gd_ (N := 19) rfl ?_); refine Kd.N_lit (Kd.slice 9 Kd.string) _ 23 ?hg (N' := 19) ?hd (xs := ([l1, l2] : List (List ByteArray))) (inner := [.slice A1 l1.length c1, .slice A2 l2.length c2]) (ok := (fun k_ => ((P1_ k_ \/ P2_ k_) \/ w.heap.size <= k_))) (okp := (fun k_ => ((P1_ k_ \/ P2_ k_) \/ w.heap.size <= k_))) ?hr ?hp (fun _ hk => hk) ((show ∀ k_, w.heap.size <= k_ -> (fun k_ => ((P1_ k_ \/ P2_ k_) \/ w.heap.size <= k_)) k_ from fun k_ hk => (.inr (Nat.le_trans (below_size bB_) hk))) _ (Nat.le_refl _)) (Below.refl _ _) (Nat.le_refl _) (by simp) ?_; (case hd => rfl); (case hg => rfl); (case hr => first | (go_simp; done) | (go_simp; rfl)); (case hp => exact (Reps.one (show Kd.FK (Kd.slice 9 Kd.string) _ _ l1 [.slice A1 l1.length c1] from (Kd.FK_slice_mk (Kd.V_reads' (Kd.V_mono (ok' := (fun k_ => ((P1_ k_ \/ P2_ k_) \/ w.heap.size <= k_))) (HO1.out) (fun k_ hk => hk))).2.1 (Kd.V_F (Kd.V_mono (ok' := (fun k_ => ((P1_ k_ \/ P2_ k_) \/ w.heap.size <= k_))) (HO1.out) (fun k_ hk => hk))))) (Reps.one (show Kd.FK (Kd.slice 9 Kd.string) _ _ l2 [.slice A2 l2.length c2] from (Kd.FK_slice_mk (Kd.V_reads' (Kd.V_mono (ok' := (fun k_ => ((P1_ k_ \/ P2_ k_) \/ w.heap.size <= k_))) (HO2.out) (fun k_ hk => hk))).2.1 (Kd.V_F (Kd.V_mono (ok' := (fun k_ => ((P1_ k_ \/ P2_ k_) \/ w.heap.size <= k_))) (HO2.out) (fun k_ hk => hk))))) (Reps.none _ _)))); intro v54 w11 ho12 hb hg_ hnew_; clear hg_ hnew_; (first | rw [← Ny43.out] at ho12 | (simp only [Int.reduceToNat] at ho12; rw [← Ny43.out] at ho12)); replace HO1 := A_ (Kd.V_elder' (vV_ HO1.out) (kb_ ho12) hb); replace HO2 := A_ (Kd.V_elder' (vV_ HO2.out) (kb_ ho12) hb); have HO44 := A_ (Kd.N_lower ho12 (below_size bB_)); replace HB := A_ (below_step bB_ hb); clear hb ho12; obtain ⟨Ao13, co13, eo13⟩ := Kd.N_slice HO44.out; subst eo13) | ((with_reducible refine gc_ (f := 65) rfl ?_); refine gL_ (some 20) Try.func65 #[.slice A0 l0.length c0, .int .i64 a4, .slice Ao13 y43.length co13] ?_; (with_reducible refine (impl_opForm.calls k _ _ l0 a4 _ _ y43 t48 _ ?s1 ?s2 ?s3 ?s4 A6.out).mono ?_); (case s1 => exact cC_ (Kd.C_below HR0.out HB.out)); (case s2 => exact HC0.out); (case s3 => exact cC_ (Kd.N_reads' HO44.out).2.2); (case s4 => exact (Kd.N_reads' HO44.out).2.1); rintro e w14 ⟨rfl, hb⟩; refine ⟨_, rfl, ?_⟩; replace HO1 := A_ (Kd.V_below (vV_ HO1.out) hb); replace HO2 := A_ (Kd.V_below (vV_ HO2.out) hb); replace HO44 := A_ (Kd.N_below (vN_ HO44.out) hb); replace HB := A_ (below_step bB_ hb); clear hb) | ((with_reducible refine gc_ (f := 83) rfl ?_); refine gL_ (some 32) Try.func83 #[.slice A0 l0.length c0, .slice A1 l1.length c1, .slice A2 l2.length c2, .bool a3, .int .i64 a4] ?_; (with_reducible refine (impl_copied.calls k _ _ l0 _ _ l1 _ _ l2 a3 a4 t45 t49 _ ?s1 ?s2 ?s3 ?s4 ?s5 ?s6 A8.out).mono ?_); (case s1 => exact cC_ (Kd.C_below HR0.out HB.out)); (case s2 => exact HC0.out); (case s3 => exact cC_ (Kd.V_reads' HO1.out).2.2); (case s4 => exact (Kd.V_reads' HO1.out).2.1); (case s5 => exact cC_ (Kd.V_reads' HO2.out).2.2); (case s6 => exact (Kd.V_reads' HO2.out).2.1); rintro e w15 ⟨v55, rfl, ho0, hb⟩; refine ⟨_, rfl, ?_⟩; have HO46 := A_ (Kd.N_lower (Kd.N_mono (ok' := fun k_ => ((P1_ k_ \/ P2_ k_) \/ w.heap.size <= k_) /\ some k_ ≠ (.slice Ao13 y43.length co13 : Value).ownBlock) ho0 (fun k_ hk_ => ⟨(.inr (Nat.le_trans (below_size bB_) hk_)), (Kd.fresh' (Kd.N_lt (vN_ HO44.out)) k_ hk_)⟩)) (below_size bB_)); replace HB := A_ (below_step bB_ hb); clear hb ho0) | ((with_reducible refine gc_ (f := 66) rfl ?_); refine gL_ (some 38) Try.func66 #[.slice A0 l0.length c0] ?_; (with_reducible refine (impl_copyTree.calls k _ _ l0 t50 _ ?s1 ?s2 A10.out).mono ?_); (case s1 => exact cC_ (Kd.C_below HR0.out HB.out)); (case s2 => exact HC0.out); rintro e w16 ⟨v62, rfl, ho0, hb⟩; refine ⟨_, rfl, ?_⟩; have HO58 := A_ (Kd.S_lower (Kd.S_new' (Kd.S_newM (M := fun k_ => (w.heap.size <= k_)) ho0 (below_size bB_) (fun k_ h_ => h_)) (Kd.N_lt (vN_ HO46.out))) (below_size bB_)); replace HB := A_ (below_step bB_ hb); clear hb ho0))
   go_ret2
   exact ⟨_, rr_, by (with_reducible repeat (first | apply Kd.S_alloc | apply Kd.S_drewN | apply Kd.S_drew)); exact Kd.S_mono HO58.out (fun _ hk => hk.1.1), bB_⟩
 rw [if_neg c9] at H
 have c9b0 : decide (400 <= t49) = false := decide_eq_false c9
 clear c9
 obtain ⟨t47, A17, H⟩ := bo_ H
 (try dsimp only at H)
 by_cases c18 : (t47.length : Int) > 12
 rotate_left
 . rw [if_neg c18] at H
   have c18b0 : decide (12 < (t47.length : Int)) = false := decide_eq_false c18
   have c18b1 : decide (12 < t47.length) = false := decide_eq_false (by omega)
   clear c18
   simp only [Option.some.injEq, Prod.mk.injEq] at H
   obtain ⟨rfl, rfl⟩ := H
   go_enter Try.func37, Try.ntmps37
   go_wp2_with (first | ((with_reducible refine gd_ (N := 19) rfl ?_); refine Kd.N_lit (Kd.slice 9 Kd.string) _ 23 ?hg (N' := 19) ?hd (xs := ([l1, l2] : List (List ByteArray))) (inner := [.slice A1 l1.length c1, .slice A2 l2.length c2]) (ok := (fun k_ => ((P1_ k_ \/ P2_ k_) \/ w.heap.size <= k_))) (okp := (fun k_ => ((P1_ k_ \/ P2_ k_) \/ w.heap.size <= k_))) ?hr ?hp (fun _ hk => hk) ((show ∀ k_, w.heap.size <= k_ -> (fun k_ => ((P1_ k_ \/ P2_ k_) \/ w.heap.size <= k_)) k_ from fun k_ hk => (.inr (Nat.le_trans (below_size bB_) hk))) _ (Nat.le_refl _)) (Below.refl _ _) (Nat.le_refl _) (by simp) ?_; (case hd => rfl); (case hg => rfl); (case hr => first | (go_simp; done) | (go_simp; rfl)); (case hp => exact (Reps.one (show Kd.FK (Kd.slice 9 Kd.string) _ _ l1 [.slice A1 l1.length c1] from (Kd.FK_slice_mk (Kd.V_reads' (Kd.V_mono (ok' := (fun k_ => ((P1_ k_ \/ P2_ k_) \/ w.heap.size <= k_))) (HO1.out) (fun k_ hk => hk))).2.1 (Kd.V_F (Kd.V_mono (ok' := (fun k_ => ((P1_ k_ \/ P2_ k_) \/ w.heap.size <= k_))) (HO1.out) (fun k_ hk => hk))))) (Reps.one (show Kd.FK (Kd.slice 9 Kd.string) _ _ l2 [.slice A2 l2.length c2] from (Kd.FK_slice_mk (Kd.V_reads' (Kd.V_mono (ok' := (fun k_ => ((P1_ k_ \/ P2_ k_) \/ w.heap.size <= k_))) (HO2.out) (fun k_ hk => hk))).2.1 (Kd.V_F (Kd.V_mono (ok' := (fun k_ => ((P1_ k_ \/ P2_ k_) \/ w.heap.size <= k_))) (HO2.out) (fun k_ hk => hk))))) (Reps.none _ _)))); intro v54 w29 ho30 hb hg_ hnew_; clear hg_ hnew_; (first | rw [← Ny43.out] at ho30 | (simp only [Int.reduceToNat] at ho30; rw [← Ny43.out] at ho30)); replace HO1 := A_ (Kd.V_elder' (vV_ HO1.out) (kb_ ho30) hb); replace HO2 := A_ (Kd.V_elder' (vV_ HO2.out) (kb_ ho30) hb); have HO44 := A_ (Kd.N_lower ho30 (below_size bB_)); replace HB := A_ (below_step bB_ hb); clear hb ho30; obtain ⟨Ao31, co31, eo31⟩ := Kd.N_slice HO44.out; subst eo31) | ((with_reducible refine gc_ (f := 65) rfl ?_); refine gL_ (some 20) Try.func65 #[.slice A0 l0.length c0, .int .i64 a4, .slice Ao31 y43.length co31] ?_; (with_reducible refine (impl_opForm.calls k _ _ l0 a4 _ _ y43 t48 _ ?s1 ?s2 ?s3 ?s4 A6.out).mono ?_); (case s1 => exact cC_ (Kd.C_below HR0.out HB.out)); (case s2 => exact HC0.out); (case s3 => exact cC_ (Kd.N_reads' HO44.out).2.2); (case s4 => exact (Kd.N_reads' HO44.out).2.1); rintro e w32 ⟨rfl, hb⟩; refine ⟨_, rfl, ?_⟩; replace HO1 := A_ (Kd.V_below (vV_ HO1.out) hb); replace HO2 := A_ (Kd.V_below (vV_ HO2.out) hb); replace HO44 := A_ (Kd.N_below (vN_ HO44.out) hb); replace HB := A_ (below_step bB_ hb); clear hb) | ((with_reducible refine gc_ (f := 83) rfl ?_); refine gL_ (some 32) Try.func83 #[.slice A0 l0.length c0, .slice A1 l1.length c1, .slice A2 l2.length c2, .bool a3, .int .i64 a4] ?_; (with_reducible refine (impl_copied.calls k _ _ l0 _ _ l1 _ _ l2 a3 a4 t45 t49 _ ?s1 ?s2 ?s3 ?s4 ?s5 ?s6 A8.out).mono ?_); (case s1 => exact cC_ (Kd.C_below HR0.out HB.out)); (case s2 => exact HC0.out); (case s3 => exact cC_ (Kd.V_reads' HO1.out).2.2); (case s4 => exact (Kd.V_reads' HO1.out).2.1); (case s5 => exact cC_ (Kd.V_reads' HO2.out).2.2); (case s6 => exact (Kd.V_reads' HO2.out).2.1); rintro e w33 ⟨v55, rfl, ho0, hb⟩; refine ⟨_, rfl, ?_⟩; replace HO1 := A_ (Kd.V_elder' (vV_ HO1.out) (kb_ ho0) hb); have HO46 := A_ (Kd.N_lower (Kd.N_mono (ok' := fun k_ => ((P1_ k_ \/ P2_ k_) \/ w.heap.size <= k_) /\ some k_ ≠ (.slice Ao31 y43.length co31 : Value).ownBlock) ho0 (fun k_ hk_ => ⟨(.inr (Nat.le_trans (below_size bB_) hk_)), (Kd.fresh' (Kd.N_lt (vN_ HO44.out)) k_ hk_)⟩)) (below_size bB_)); replace HB := A_ (below_step bB_ hb); clear hb ho0; obtain ⟨Ao34, co34, eo34⟩ := Kd.N_slice HO46.out; subst eo34) | ((with_reducible refine gc_ (f := 67) rfl ?_); refine gL_ (some 42) Try.func67 #[.slice Ao34 t45.length co34, .slice A1 l1.length c1] ?_; (with_reducible refine (impl_without.calls k _ _ t45 _ _ l1 t47 _ ?s1 ?s2 ?s3 ?s4 A17.out).mono ?_); (case s1 => exact cC_ (Kd.N_reads' HO46.out).2.2); (case s2 => exact (Kd.N_reads' HO46.out).2.1); (case s3 => exact cC_ (Kd.V_reads' HO1.out).2.2); (case s4 => exact (Kd.V_reads' HO1.out).2.1); rintro e w35 ⟨v59, rfl, ho0, hb⟩; refine ⟨_, rfl, ?_⟩; have HO53 := A_ (Kd.S_lower (Kd.S_new' (Kd.S_newM (M := fun k_ => (w.heap.size <= k_)) ho0 (below_size bB_) (fun k_ h_ => h_)) (Kd.N_lt (vN_ HO46.out))) (below_size bB_)); replace HB := A_ (below_step bB_ hb); clear hb ho0; obtain ⟨Ao36, co36, eo36⟩ := Kd.S_slice HO53.out; subst eo36))
   go_ret2
   exact ⟨_, rr_, by (with_reducible repeat (first | apply Kd.S_alloc | apply Kd.S_drewN | apply Kd.S_drew)); exact Kd.S_mono HO53.out (fun _ hk => hk.1.1), bB_⟩
 rw [if_pos c18] at H
 have c18b0 : decide (12 < (t47.length : Int)) = true := decide_eq_true c18
 have c18b1 : decide (12 < t47.length) = true := decide_eq_true (by omega)
 clear c18
 obtain ⟨t51, A19, H⟩ := bo_ H
 (try dsimp only at H)
 simp only [Option.some.injEq, Prod.mk.injEq] at H
 obtain ⟨rfl, rfl⟩ := H
 go_enter Try.func37, Try.ntmps37
 go_wp2_with (first | ((with_reducible refine gd_ (N := 19) rfl ?_); refine Kd.N_lit (Kd.slice 9 Kd.string) _ 23 ?hg (N' := 19) ?hd (xs := ([l1, l2] : List (List ByteArray))) (inner := [.slice A1 l1.length c1, .slice A2 l2.length c2]) (ok := (fun k_ => ((P1_ k_ \/ P2_ k_) \/ w.heap.size <= k_))) (okp := (fun k_ => ((P1_ k_ \/ P2_ k_) \/ w.heap.size <= k_))) ?hr ?hp (fun _ hk => hk) ((show ∀ k_, w.heap.size <= k_ -> (fun k_ => ((P1_ k_ \/ P2_ k_) \/ w.heap.size <= k_)) k_ from fun k_ hk => (.inr (Nat.le_trans (below_size bB_) hk))) _ (Nat.le_refl _)) (Below.refl _ _) (Nat.le_refl _) (by simp) ?_; (case hd => rfl); (case hg => rfl); (case hr => first | (go_simp; done) | (go_simp; rfl)); (case hp => exact (Reps.one (show Kd.FK (Kd.slice 9 Kd.string) _ _ l1 [.slice A1 l1.length c1] from (Kd.FK_slice_mk (Kd.V_reads' (Kd.V_mono (ok' := (fun k_ => ((P1_ k_ \/ P2_ k_) \/ w.heap.size <= k_))) (HO1.out) (fun k_ hk => hk))).2.1 (Kd.V_F (Kd.V_mono (ok' := (fun k_ => ((P1_ k_ \/ P2_ k_) \/ w.heap.size <= k_))) (HO1.out) (fun k_ hk => hk))))) (Reps.one (show Kd.FK (Kd.slice 9 Kd.string) _ _ l2 [.slice A2 l2.length c2] from (Kd.FK_slice_mk (Kd.V_reads' (Kd.V_mono (ok' := (fun k_ => ((P1_ k_ \/ P2_ k_) \/ w.heap.size <= k_))) (HO2.out) (fun k_ hk => hk))).2.1 (Kd.V_F (Kd.V_mono (ok' := (fun k_ => ((P1_ k_ \/ P2_ k_) \/ w.heap.size <= k_))) (HO2.out) (fun k_ hk => hk))))) (Reps.none _ _)))); intro v54 w20 ho21 hb hg_ hnew_; clear hg_ hnew_; (first | rw [← Ny43.out] at ho21 | (simp only [Int.reduceToNat] at ho21; rw [← Ny43.out] at ho21)); replace HO1 := A_ (Kd.V_elder' (vV_ HO1.out) (kb_ ho21) hb); replace HO2 := A_ (Kd.V_elder' (vV_ HO2.out) (kb_ ho21) hb); have HO44 := A_ (Kd.N_lower ho21 (below_size bB_)); replace HB := A_ (below_step bB_ hb); clear hb ho21; obtain ⟨Ao22, co22, eo22⟩ := Kd.N_slice HO44.out; subst eo22) | ((with_reducible refine gc_ (f := 65) rfl ?_); refine gL_ (some 20) Try.func65 #[.slice A0 l0.length c0, .int .i64 a4, .slice Ao22 y43.length co22] ?_; (with_reducible refine (impl_opForm.calls k _ _ l0 a4 _ _ y43 t48 _ ?s1 ?s2 ?s3 ?s4 A6.out).mono ?_); (case s1 => exact cC_ (Kd.C_below HR0.out HB.out)); (case s2 => exact HC0.out); (case s3 => exact cC_ (Kd.N_reads' HO44.out).2.2); (case s4 => exact (Kd.N_reads' HO44.out).2.1); rintro e w23 ⟨rfl, hb⟩; refine ⟨_, rfl, ?_⟩; replace HO1 := A_ (Kd.V_below (vV_ HO1.out) hb); replace HO2 := A_ (Kd.V_below (vV_ HO2.out) hb); replace HO44 := A_ (Kd.N_below (vN_ HO44.out) hb); replace HB := A_ (below_step bB_ hb); clear hb) | ((with_reducible refine gc_ (f := 83) rfl ?_); refine gL_ (some 32) Try.func83 #[.slice A0 l0.length c0, .slice A1 l1.length c1, .slice A2 l2.length c2, .bool a3, .int .i64 a4] ?_; (with_reducible refine (impl_copied.calls k _ _ l0 _ _ l1 _ _ l2 a3 a4 t45 t49 _ ?s1 ?s2 ?s3 ?s4 ?s5 ?s6 A8.out).mono ?_); (case s1 => exact cC_ (Kd.C_below HR0.out HB.out)); (case s2 => exact HC0.out); (case s3 => exact cC_ (Kd.V_reads' HO1.out).2.2); (case s4 => exact (Kd.V_reads' HO1.out).2.1); (case s5 => exact cC_ (Kd.V_reads' HO2.out).2.2); (case s6 => exact (Kd.V_reads' HO2.out).2.1); rintro e w24 ⟨v55, rfl, ho0, hb⟩; refine ⟨_, rfl, ?_⟩; replace HO1 := A_ (Kd.V_elder' (vV_ HO1.out) (kb_ ho0) hb); have HO46 := A_ (Kd.N_lower (Kd.N_mono (ok' := fun k_ => ((P1_ k_ \/ P2_ k_) \/ w.heap.size <= k_) /\ some k_ ≠ (.slice Ao22 y43.length co22 : Value).ownBlock) ho0 (fun k_ hk_ => ⟨(.inr (Nat.le_trans (below_size bB_) hk_)), (Kd.fresh' (Kd.N_lt (vN_ HO44.out)) k_ hk_)⟩)) (below_size bB_)); replace HB := A_ (below_step bB_ hb); clear hb ho0; obtain ⟨Ao25, co25, eo25⟩ := Kd.N_slice HO46.out; subst eo25) | ((with_reducible refine gc_ (f := 67) rfl ?_); refine gL_ (some 42) Try.func67 #[.slice Ao25 t45.length co25, .slice A1 l1.length c1] ?_; (with_reducible refine (impl_without.calls k _ _ t45 _ _ l1 t47 _ ?s1 ?s2 ?s3 ?s4 A17.out).mono ?_); (case s1 => exact cC_ (Kd.N_reads' HO46.out).2.2); (case s2 => exact (Kd.N_reads' HO46.out).2.1); (case s3 => exact cC_ (Kd.V_reads' HO1.out).2.2); (case s4 => exact (Kd.V_reads' HO1.out).2.1); rintro e w26 ⟨v59, rfl, ho0, hb⟩; refine ⟨_, rfl, ?_⟩; have HO53 := A_ (Kd.S_lower (Kd.S_new' (Kd.S_newM (M := fun k_ => (w.heap.size <= k_)) ho0 (below_size bB_) (fun k_ h_ => h_)) (Kd.N_lt (vN_ HO46.out))) (below_size bB_)); replace HO46 := A_ (Kd.N_elder' (vN_ HO46.out) (kb_ ho0) hb); replace HB := A_ (below_step bB_ hb); clear hb ho0; obtain ⟨Ao27, co27, eo27⟩ := Kd.S_slice HO53.out; subst eo27) | ((with_reducible refine gc_ (f := 66) rfl ?_); refine gL_ (some 47) Try.func66 #[.slice A0 l0.length c0] ?_; (with_reducible refine (impl_copyTree.calls k _ _ l0 t51 _ ?s1 ?s2 A19.out).mono ?_); (case s1 => exact cC_ (Kd.C_below HR0.out HB.out)); (case s2 => exact HC0.out); rintro e w28 ⟨v63, rfl, ho0, hb⟩; refine ⟨_, rfl, ?_⟩; have HO60 := A_ (Kd.S_lower (Kd.S_new' (Kd.S_new' (Kd.S_newM (M := fun k_ => (w.heap.size <= k_)) ho0 (below_size bB_) (fun k_ h_ => h_)) (Kd.N_lt (vN_ HO46.out))) (Kd.S_lt (vS_ HO53.out))) (below_size bB_)); replace HB := A_ (below_step bB_ hb); clear hb ho0))
 go_ret2
 exact ⟨_, rr_, by (with_reducible repeat (first | apply Kd.S_alloc | apply Kd.S_drewN | apply Kd.S_drew)); exact Kd.S_mono HO60.out (fun _ hk => hk.1.1.1), bB_⟩
end Go.Proofs.Ytbgggcgjijljkaa.Q

/- Printed walks. No condition. -/
namespace Go.Proofs.Ytbgggcgjijljkaa.Q
open Go.RowKit Go.Proofs.YtbgggcgjijljkaaW.PrintWords Go.Proofs.YtbgggcgjijljkaaW.PrintLast Go.Proofs.YtbgggcgjijljkaaW.PrintMore
attribute [local go_sem] max2_int min2_int max_two min_two max_three min_three max_four min_four
set_option linter.unusedVariables false
set_option linter.unusedSimpArgs false
theorem impl_CopyTree.calls (k : Nat) (A0 : Option Addr) (c0 : Nat) (l0 : List (S57)) (P1_ : Nat -> Prop) (A1 : Option Addr) (c1 : Nat) (l1 : List ByteArray) (P2_ : Nat -> Prop) (A2 : Option Addr) (c2 : Nat) (l2 : List ByteArray) (a3 : Bool) (a4 : Int) (r1 : List (S57)) (r2 : Int) (w : World) (hr0 : Kd.C k57 w A0 l0.length l0) (hc0 : l0.length <= c0) (hs1 : Kd.V Kd.string 9 w w.heap.size (fun k_ => P1_ k_) (.slice A1 l1.length c1) l1) (hs2 : Kd.V Kd.string 9 w w.heap.size (fun k_ => P2_ k_) (.slice A2 l2.length c2) l2) (h : impl_CopyTree.f k l0 l1 l2 a3 a4 = some (r1, r2)) :
    Calls Try.prog 35 #[.slice A0 l0.length c0, .slice A1 l1.length c1, .slice A2 l2.length c2, .bool a3, .int .i64 a4] w fun e w' => ∃ v0_ : Value, e = .returned (.tuple #[v0_, .int .i64 r2]) /\ Kd.N k57 57 w' w.heap.size (fun k_ => ((P1_ k_ \/ P2_ k_) \/ w.heap.size <= k_)) v0_ r1 /\ Below w.heap.size w w' := by
  refine (impl_CopyTreeV.calls k A0 c0 l0 P1_ A1 c1 l1 P2_ A2 c2 l2 a3 a4 r1 r2 w hr0 hc0 hs1 hs2 h).mono ?_
  rintro e w' ⟨v, e1, h2, hb⟩
  exact ⟨v, e1, Kd.S_N (Kd.S_mono (S_fresh h2) (fun _ hk => .inr hk)), hb⟩
theorem impl_MoveTree.calls (k : Nat) (A0 : Option Addr) (c0 : Nat) (l0 : List (S57)) (P1_ : Nat -> Prop) (A1 : Option Addr) (c1 : Nat) (l1 : List ByteArray) (P2_ : Nat -> Prop) (A2 : Option Addr) (c2 : Nat) (l2 : List ByteArray) (a3 : Bool) (a4 : Int) (r1 : List (S57)) (r2 : Int) (w : World) (hr0 : Kd.C k57 w A0 l0.length l0) (hc0 : l0.length <= c0) (hs1 : Kd.V Kd.string 9 w w.heap.size (fun k_ => P1_ k_) (.slice A1 l1.length c1) l1) (hs2 : Kd.V Kd.string 9 w w.heap.size (fun k_ => P2_ k_) (.slice A2 l2.length c2) l2) (h : impl_MoveTree.f k l0 l1 l2 a3 a4 = some (r1, r2)) :
    Calls Try.prog 37 #[.slice A0 l0.length c0, .slice A1 l1.length c1, .slice A2 l2.length c2, .bool a3, .int .i64 a4] w fun e w' => ∃ v0_ : Value, e = .returned (.tuple #[v0_, .int .i64 r2]) /\ Kd.N k57 57 w' w.heap.size (fun k_ => ((P1_ k_ \/ P2_ k_) \/ w.heap.size <= k_)) v0_ r1 /\ Below w.heap.size w w' := by
  refine (impl_MoveTreeV.calls k A0 c0 l0 P1_ A1 c1 l1 P2_ A2 c2 l2 a3 a4 r1 r2 w hr0 hc0 hs1 hs2 h).mono ?_
  rintro e w' ⟨v, e1, h2, hb⟩
  exact ⟨v, e1, Kd.S_N (Kd.S_mono (S_fresh h2) (fun _ hk => .inr hk)), hb⟩
end Go.Proofs.Ytbgggcgjijljkaa.Q
