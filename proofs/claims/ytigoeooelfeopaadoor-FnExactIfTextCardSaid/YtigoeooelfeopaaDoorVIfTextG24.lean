-- PRINTED by print.py (a twelfth state) out of the translation. Not trusted: Lean checks it.
import Derived.Test.YtigoeooelfeopaaDoorVIfTextG23
set_option maxHeartbeats 8000000
set_option maxRecDepth 100000
namespace Go.Proofs.YtigoeooelfeopaaDoor.Q
open Go.RowKit Go.Proofs.YtigoeooelfeopaaDoorW.PrintWords Go.Proofs.YtigoeooelfeopaaDoorW.PrintLast Go.Proofs.YtigoeooelfeopaaDoorW.PrintMore
attribute [local go_sem] max2_int min2_int max_two min_two max_three min_three max_four min_four   -- for this text's walks alone
set_option linter.unusedVariables false
set_option linter.unusedSimpArgs false
theorem bIQx160_ {P : Prop} (h : P := by repeat (first | (with_reducible first | exact HB.out | apply below_alloc | apply pw_below_drewN | apply below_drew1 | refine below_set ?_ (IsS106.ge HI0.out)) | exact HB.out)) : P := h
theorem bIQx161_ {P : Prop} (h : P := by repeat (first | (with_reducible first | exact HI0.out | apply IsS106.alloc | apply IsS106.drewN | apply IsS106.drew | apply IsS106.set_0 | apply IsS106.set_1 | apply IsS106.set_2) | exact HI0.out)) : P := h
mutual
def spec_l14List.l0 : Nat → List (S79) → Bool → ByteArray → Int → Bool → Option ((List (S79)) × ByteArray × Int × Bool)
 | 0, _, _, _, _, _ => none
 | k + 1, x3, x4, x1000, x1001, x1002 => if x4 = true then (spec_l14List.j1 k x3 (!x1002) x1000 x1001 x1002) else (spec_l14List.j1 k x3 false x1000 x1001 x1002)
def spec_l14List.j1 : Nat → List (S79) → Bool → ByteArray → Int → Bool → Option ((List (S79)) × ByteArray × Int × Bool)
 | 0, _, _, _, _, _ => none
 | k + 1, x3, x16, x1000, x1001, x1002 => if x16 = true then ((spec_l14Cond.f k x1000 x1001 x1002).bind fun bt448 => (if x3.length < 4398046511104 then ((spec_l14Is.f bt448.2.2.2.1 bt448.2.2.2.2.1 bt448.2.2.2.2.2 (⟨#[32]⟩ : ByteArray)).bind fun bt458 => (spec_l14List.l0 k (x3 ++ [(⟨bt448.1, bt448.2.1, bt448.2.2.1⟩ : S79)]) bt458.1 bt458.2.1 bt458.2.2.1 bt458.2.2.2)) else (none))) else ((spec_l14Must.f x1000 x1001 x1002 (⟨#[41]⟩ : ByteArray)).bind fun bt462 => (if bt462.2.2 = true then (some (x3, bt462.1, bt462.2.1, true)) else (some (x3, bt462.1, bt462.2.1, decide ((x3.length : Int) > 4)))))
end
def spec_l14List.f (k : Nat) (s0_0 : ByteArray) (s0_1 : Int) (s0_2 : Bool) : Option ((List (S79)) × ByteArray × Int × Bool) := (spec_l14Must.f s0_0 s0_1 s0_2 (⟨#[40]⟩ : ByteArray)).bind fun bt445 => (spec_l14List.l0 k (([] : List (S79))) true bt445.1 bt445.2.1 bt445.2.2)
theorem spec_l14List.calls (k : Nat) (g : Nat) (s0_0 : ByteArray) (s0_1 : Int) (s0_2 : Bool) (r1 : List (S79)) (r2 : ByteArray) (r3 : Int) (r4 : Bool) (w0 w : World) (hI : IsS106 w0 w g s0_0 s0_1 s0_2) (hB : Below w0.heap.size w0 w) (h : spec_l14List.f k s0_0 s0_1 s0_2 = some (r1, r2, r3, r4)) :
 Calls Tryd.prog 75 #[.pointer (some ⟨g, 0, none⟩)] w fun e w' => ∃ v0_ : Value, e = .returned (v0_) ∧ Kd.R k79 79 w' w.heap.size (fun _ => True) v0_ r1 ∧ IsS106 w0 w' g r2 r3 r4 ∧ Below w0.heap.size w0 w' ∧ KeepBut w w' g none := by
 have hu79 := Tryd.underlying79
 have HI0 := A_ hI
 have HK := A_ (KeepBut.refl w g none)
 have HL := A_ hB.size
 clear hI
 have HW0 := A_ hB.size
 have HB := A_ hB
 clear hB
 have H : ((spec_l14Must.f s0_0 s0_1 s0_2 (⟨#[40]⟩ : ByteArray)).bind fun bt445 => (spec_l14List.l0 k (([] : List (S79))) true bt445.1 bt445.2.1 bt445.2.2)) = some (r1, r2, r3, r4) := h
 clear h
 obtain ⟨y442, hy442⟩ : ∃ y_ : List (S79), y_ = (([] : List (S79))) := ⟨_, rfl⟩
 replace H : ((spec_l14Must.f s0_0 s0_1 s0_2 (⟨#[40]⟩ : ByteArray)).bind fun bt445 => (spec_l14List.l0 k y442 true bt445.1 bt445.2.1 bt445.2.2)) = some (r1, r2, r3, r4) := hy_ hy442 H
 have Ny442 := A_ hy442
 clear hy442
 obtain ⟨⟨t445, t446, t447⟩, A2, H⟩ := bo_ H
 (try dsimp only at H)
 have H' := A_ H
 clear H
 go_enter Tryd.func75, Tryd.ntmps75
 go_wp2_with (first | ((with_reducible refine gd_ (N := 6) rfl ?_); (try (refine gate_guard (by rfl) ?_; dsimp only)); refine Kd.R_lit k79 _ 79 ?hg (N := 6) ?hd (xs := ([] : List (S79))) (inner := []) (ok := fun _ => True) (okp := fun _ => True) ?hr ?hp (fun _ hk => hk) trivial (Below.refl _ _) (Nat.le_refl _) (by simp) ?_; (case hd => rfl); (case hg => rfl); (case hr => first | (go_simp; done) | (go_simp; rfl)); (case hp => exact (Reps.none _ _)); intro v443 w3 ho4 hb hg_ hnew_; clear hg_ hnew_; (first | rw [← Ny442.out] at ho4 | (simp only [Int.reduceToNat] at ho4; rw [← Ny442.out] at ho4)); have HO444 := A_ (Kd.R_lower ho4 (keep_size (w := w) (g := g) (row := none) bK_)); replace HK := A_ (KeepBut.trans bK_ (KeepBut.of_below hb g none) (.inl rfl)); replace HB := A_ (below_step bIQx160_ hb); replace HI0 := A_ (IsS106.below bIQx161_ hb); clear hb ho4) | ((with_reducible refine gc_ (f := 100) rfl ?_); refine gL_ (some 8) Tryd.func100 #[.pointer (some ⟨g, 0, none⟩), .string (⟨#[40]⟩ : ByteArray)] ?_; (with_reducible refine (spec_l14Must.calls g s0_0 s0_1 s0_2 (⟨#[40]⟩ : ByteArray) t445 t446 t447 w0 _ ?s1 ?s2 A2.out).mono ?_); (case s1 => exact bIQx161_); (case s2 => exact bIQx160_); rintro e w5 ⟨rfl, hi, hb, hk⟩; refine ⟨_, rfl, ?_⟩; replace HO444 := A_ (Kd.R_mono (Kd.R_keep (IsS106.apart (show IsS106 w0 _ g s0_0 s0_1 s0_2 from bIQx161_) (vR_ HO444.out) (by decide)) hk (fun _ h => h.2)) (fun _ h => h.1)); replace HK := A_ (KeepBut.trans bK_ hk (.inl rfl)); replace HB := A_ (hb); replace HI0 := A_ (hi); (try clear hb); (try clear hk); (try clear hi)))
 go_loopg [3, 4] k (fun kq v3 v4 w' => ∃ (x3_1 : List (S79)) (x4_1 : Bool) (x1000_1 : ByteArray) (x1001_1 : Int) (x1002_1 : Bool), v4 = .bool x4_1 ∧ Aside0 (spec_l14List.l0 kq x3_1 x4_1 x1000_1 x1001_1 x1002_1 = some (r1, r2, r3, r4)) ∧ Aside0 (kq ≤ k) ∧ Aside0 (Kd.R k79 79 w' w.heap.size (fun _ => True) v3 x3_1) ∧ Aside0 (IsS106 w0 w' g x1000_1 x1001_1 x1002_1) ∧ Aside0 (KeepBut w w' g none) ∧ Aside0 (Below w0.heap.size w0 w'))
 case atStart => exact ⟨(y442), (true), (t445), (t446), (t447), rs_, H', ⟨Nat.le_refl _⟩, ⟨vR_ HO444.out⟩, ⟨bIQx161_⟩, ⟨bK_⟩, ⟨bIQx160_⟩⟩
 case round =>
  clear H'
  try clear c1
  try clear p2
  obtain ⟨x3_1, x4_1, x1000_1, x1001_1, x1002_1, rfl, HA, HK1, HO_3, HI0, HK, HB⟩ := hrel
  cases gk with
  | zero => exact absurd HA.out (by simp [spec_l14List.l0])
  | succ k1 =>
   have H := HA.out
   clear HA
   simp only [spec_l14List.l0] at H
   have HC6 := A_ H
   clear H
   go_upto_region 4 with (fail)
   go_cut [16] (fun v16 wc => ∃ (kq : Nat) (x16_5 : Bool), v16 = .bool x16_5 ∧ Aside0 (spec_l14List.j1 kq x3_1 x16_5 x1000_1 x1001_1 x1002_1 = some (r1, r2, r3, r4)) ∧ Aside0 (kq ≤ k1) ∧ Aside0 (Kd.R k79 79 wc w.heap.size (fun _ => True) u3 x3_1) ∧ Aside0 (IsS106 w0 wc g x1000_1 x1001_1 x1002_1) ∧ Aside0 (KeepBut w wc g none) ∧ Aside0 (Below w0.heap.size w0 wc))
   case first =>
    have H := HC6.out
    clear HC6
    by_cases c7 : x4_1 = true
    · subst c7
      rw [if_pos rfl] at H
      have H' := A_ H
      clear H
      obtain ⟨HGz8, hgz8⟩ := HI0.out
      have hcz8_0 := cellS106_0 HGz8
      have hcz8_1 := cellS106_1 HGz8
      have hcz8_2 := cellS106_2 HGz8
      have hfz8_0 := blk_frozen HGz8 0
      have hfz8_1 := blk_frozen HGz8 1
      have hfz8_2 := blk_frozen HGz8 2
      clear HGz8 hgz8
      go_wp2
      go_meet
      case rel => exact ⟨_, (!x1002_1), rs_, H', ⟨by have := HK1.out; first | omega | exact Nat.le_refl _⟩, ⟨vR_ HO_3.out⟩, ⟨bIQx161_⟩, ⟨bK_⟩, ⟨bIQx160_⟩⟩
    · replace c7 := Bool.eq_false_iff.mpr c7
      subst c7
      rw [if_neg nf_] at H
      have H' := A_ H
      clear H
      go_wp2
      go_meet
      case rel => exact ⟨_, (false), rs_, H', ⟨by have := HK1.out; first | omega | exact Nat.le_refl _⟩, ⟨vR_ HO_3.out⟩, ⟨bIQx161_⟩, ⟨bK_⟩, ⟨bIQx160_⟩⟩
   case rest =>
    clear HC6
    try clear c1
    try clear p2
    try clear c7
    try clear hcz8_0
    try clear hcz8_1
    try clear hcz8_2
    try clear hfz8_0
    try clear hfz8_1
    try clear hfz8_2
    try clear p2
    obtain ⟨kq, x16_5, rfl, HA, HJ5, HO_3, HI0, HK, HB⟩ := hcut
    cases kq with
    | zero => exact absurd HA.out (by simp [spec_l14List.j1])
    | succ kj5 =>
     have H := HA.out
     clear HA
     simp only [spec_l14List.j1] at H
     by_cases c9 : x16_5 = true
     · subst c9
       rw [if_pos rfl] at H
       obtain ⟨⟨t448, t449, t450, t451, t452, t453⟩, A10, H⟩ := bo_ H
       (try dsimp only at H)
       by_cases c11 : x3_1.length < 4398046511104
       rotate_left
       · exact absurd H (by rw [if_neg c11]; simp)
       rw [if_pos c11] at H
       have LMc11 := A_ c11
       clear c11
       obtain ⟨y455, hy455⟩ : ∃ y_ : List (S79), y_ = (x3_1 ++ [(⟨t448, t449, t450⟩ : S79)]) := ⟨_, rfl⟩
       replace H : ((spec_l14Is.f t451 t452 t453 (⟨#[32]⟩ : ByteArray)).bind fun bt458 => (spec_l14List.l0 kj5 y455 bt458.1 bt458.2.1 bt458.2.2.1 bt458.2.2.2)) = some (r1, r2, r3, r4) := hy_ hy455 H
       have Ny455 := A_ hy455
       clear hy455
       obtain ⟨⟨t458, t459, t460, t461⟩, A12, H⟩ := bo_ H
       (try dsimp only at H)
       have H' := A_ H
       clear H
       go_wp2_with (first | ((with_reducible refine gc_ (f := 101) rfl ?_); refine gL_ (some 18) Tryd.func101 #[.pointer (some ⟨g, 0, none⟩)] ?_; (with_reducible refine (spec_l14Cond.calls kj5 g x1000_1 x1001_1 x1002_1 t448 t449 t450 t451 t452 t453 w0 _ ?s1 ?s2 A10.out).mono ?_); (case s1 => exact bIQx161_); (case s2 => exact bIQx160_); rintro e w13 ⟨rfl, hi, hb, hk⟩; refine ⟨_, rfl, ?_⟩; replace HO_3 := A_ (Kd.R_mono (Kd.R_keep (IsS106.apart (show IsS106 w0 _ g x1000_1 x1001_1 x1002_1 from bIQx161_) (vR_ HO_3.out) (by decide)) hk (fun _ h => h.2)) (fun _ h => h.1)); replace HK := A_ (KeepBut.trans bK_ hk (.inl rfl)); replace HB := A_ (hb); replace HI0 := A_ (hi); (try clear hb); (try clear hk); (try clear hi)) | ((with_reducible refine gd_ (N := 5) rfl ?_); (try (refine gate_guard (by rfl) ?_; dsimp only)); refine bx_ (N := 5) (cs := #[.bool false, .int .i64 0, .string (⟨#[]⟩ : ByteArray)]) (t := 79) ?_; intro gb454 hg w14 hbox hb; replace HO_3 := A_ (Kd.R_below (Kd.R_elderB (vR_ HO_3.out) gb454 (Nat.le_of_eq hg.symm)) hb); replace HB := A_ (below_step bIQx160_ hb); have BK454 := A_ (hbox); have GW454 := A_ ((by rw [hg]; exact (keep_size (w := w) (g := g) (row := none) bK_) : w.heap.size ≤ gb454)); have GE454 := A_ ((Nat.le_trans HW0.out (by rw [hg]; exact (keep_size (w := w) (g := g) (row := none) bK_) : w.heap.size ≤ gb454) : w0.heap.size ≤ gb454)); replace HK := A_ (KeepBut.trans bK_ (KeepBut.of_below hb g none) (.inl rfl)); have NB0_454 := A_ ((by rw [hg]; exact Nat.ne_of_lt (IsS106.lt (show IsS106 w0 _ g t451 t452 t453 from bIQx161_)) : g ≠ gb454)); have NB454_0 := A_ ((by rw [hg]; exact Nat.ne_of_gt (IsS106.lt (show IsS106 w0 _ g t451 t452 t453 from bIQx161_)) : gb454 ≠ g)); replace HI0 := A_ (IsS106.below bIQx161_ hb); clear hb hbox hg; have hnb15 := NB454_0.out; have hnc15 := NB0_454.out; obtain ⟨hcz16_0, hcz16_1, hcz16_2, hfz16_0, hfz16_1, hfz16_2⟩ := cz3_ BK454.out) | ((with_reducible refine gate_builtin (b := .append) (xs := #[.tmp 19, .tmp 21]) rfl ?_); (try (refine gate_guard (by rfl) ?_; dsimp only)); at_builtin; refine Kd.R_append k79 w.heap.size rfl (.tmp 19) (.tmp 21) 76 79 (.agg #[(.bool false), (.int .i64 0), (.string ⟨#[]⟩)]) 32 rfl Tryd.underlying76 info79 rfl (by decide) (by omega) u3 x3_1 (⟨t448, t449, t450⟩ : S79) [.bool t448, .int .i64 t449, .string t450] (fun k_ => k_ ≠ gb454) (fun _ => False) rfl (by first | (go_simp; done) | (go_simp; rfl)) ?aP (fun _ hk => hk.elim) ?aF ?aO (Below.refl _ _) ?aS ?aL ?_; (case aP => exact k79_mkM _ _ _ (⟨t448, t449, t450⟩ : S79)); (case aF => exact (fun k_ hk => Kd.freshB (g := gb454) (o := .cells #[.bool t448, .int .i64 t449, .string t450] 79 (0, 0)) (by (with_reducible repeat (first | refine blk_drewN ?_ _ | refine blk_drew ?_ | refine blk_alloc ?_ _)); refine blk_put (cs := #[.bool t448, .int .i64 t449, .string (⟨#[]⟩ : ByteArray)]) ?_ 2 _ rfl; (with_reducible repeat (first | refine blk_drewN ?_ _ | refine blk_drew ?_ | refine blk_alloc ?_ _)); refine blk_put (cs := #[.bool t448, .int .i64 0, .string (⟨#[]⟩ : ByteArray)]) ?_ 1 _ rfl; (with_reducible repeat (first | refine blk_drewN ?_ _ | refine blk_drew ?_ | refine blk_alloc ?_ _)); refine blk_put (cs := #[.bool false, .int .i64 0, .string (⟨#[]⟩ : ByteArray)]) ?_ 0 _ rfl; (with_reducible repeat (first | refine blk_drewN ?_ _ | refine blk_drew ?_ | refine blk_alloc ?_ _)); exact BK454.out) k_ hk)); (case aO => exact (by (with_reducible repeat (first | apply Kd.R_alloc | apply Kd.R_drewN | apply Kd.R_drew)); exact Kd.R_mono (Kd.R_far (p := ⟨gb454, 2, none⟩) (Kd.R_far (p := ⟨gb454, 1, none⟩) (Kd.R_far (p := ⟨gb454, 0, none⟩) (Kd.R_mono HO_3.out (fun k_ hk => (⟨hk, hk.2⟩ : _ ∧ k_ ≠ gb454))) (fun _ hk => hk.2) (.bool t448)) (fun _ hk => hk.2) (.int .i64 t449)) (fun _ hk => hk.2) (.string t450)) (fun _ hk => hk.1.2))); (case aS => exact (keep_size (w := w) (g := g) (row := none) (by repeat (first | (with_reducible first | exact HK.out | apply KeepBut.set_ | apply keep_drewN | apply keep_drew | apply keep_alloc | refine keep_far ?_ GW454.out _) | exact HK.out)))); (case aL => have := LMc11.out; omega); intro v456 w17 ho hb hg hat; rw [← Ny455.out] at ho; replace BK454 := A_ (blk_grown (g := gb454) (o := .cells #[.bool t448, .int .i64 t449, .string t450] 79 (0, 0)) (by (with_reducible repeat (first | refine blk_drewN ?_ _ | refine blk_drew ?_ | refine blk_alloc ?_ _)); refine blk_put (cs := #[.bool t448, .int .i64 t449, .string (⟨#[]⟩ : ByteArray)]) ?_ 2 _ rfl; (with_reducible repeat (first | refine blk_drewN ?_ _ | refine blk_drew ?_ | refine blk_alloc ?_ _)); refine blk_put (cs := #[.bool t448, .int .i64 0, .string (⟨#[]⟩ : ByteArray)]) ?_ 1 _ rfl; (with_reducible repeat (first | refine blk_drewN ?_ _ | refine blk_drew ?_ | refine blk_alloc ?_ _)); refine blk_put (cs := #[.bool false, .int .i64 0, .string (⟨#[]⟩ : ByteArray)]) ?_ 0 _ rfl; (with_reducible repeat (first | refine blk_drewN ?_ _ | refine blk_drew ?_ | refine blk_alloc ?_ _)); exact BK454.out) hg (Kd.R_away HO_3.out (fun _ hk => hk.2))); replace HB := A_ (below_weaken (by repeat (first | (with_reducible first | exact HB.out | apply below_alloc | apply pw_below_drewN | apply below_drew1 | refine below_set ?_ (IsS106.ge HI0.out) | refine below_set ?_ GE454.out) | exact HB.out)) HL.out hb); replace HI0 := A_ (IsS106.grown (by repeat (first | (with_reducible first | exact HI0.out | apply IsS106.alloc | apply IsS106.drewN | apply IsS106.drew | apply IsS106.set_0 | apply IsS106.set_1 | apply IsS106.set_2 | apply IsS106.far (hne := NB0_454.out)) | exact HI0.out)) hg (IsS106.own_ne HI0.out HO_3.out (by decide))); replace HK := A_ (KeepBut.trans (by repeat (first | (with_reducible first | exact HK.out | apply KeepBut.set_ | apply keep_drewN | apply keep_drew | apply keep_alloc | refine keep_far ?_ GW454.out _) | exact HK.out)) (KeepBut.of_grown hg g) (Kd.R_base2 HO_3.out)); have HO457 := A_ (ho); clear HO_3; clear ho hb hg hat) | ((with_reducible refine gc_ (f := 76) rfl ?_); refine gL_ (some 24) Tryd.func76 #[.pointer (some ⟨g, 0, none⟩), .string (⟨#[32]⟩ : ByteArray)] ?_; (with_reducible refine (spec_l14Is.calls g t451 t452 t453 (⟨#[32]⟩ : ByteArray) t458 t459 t460 t461 w0 _ ?s1 ?s2 A12.out).mono ?_); (case s1 => repeat (first | (with_reducible first | exact HI0.out | apply IsS106.alloc | apply IsS106.drewN | apply IsS106.drew | apply IsS106.set_0 | apply IsS106.set_1 | apply IsS106.set_2 | apply IsS106.far (hne := NB0_454.out)) | exact HI0.out)); (case s2 => repeat (first | (with_reducible first | exact HB.out | apply below_alloc | apply pw_below_drewN | apply below_drew1 | refine below_set ?_ (IsS106.ge HI0.out) | refine below_set ?_ GE454.out) | exact HB.out)); rintro e w18 ⟨rfl, hi, hb, hk⟩; refine ⟨_, rfl, ?_⟩; replace BK454 := A_ (KeepBut.blk hk (g' := gb454) (o := .cells #[.bool t448, .int .i64 t449, .string t450] 79 (0, 0)) (vb_ BK454.out) NB454_0.out (by simp)); replace HO457 := A_ (Kd.R_mono (Kd.R_keep (IsS106.apart (show IsS106 w0 _ g t451 t452 t453 from by repeat (first | (with_reducible first | exact HI0.out | apply IsS106.alloc | apply IsS106.drewN | apply IsS106.drew | apply IsS106.set_0 | apply IsS106.set_1 | apply IsS106.set_2 | apply IsS106.far (hne := NB0_454.out)) | exact HI0.out)) (vR_ HO457.out) (by decide)) hk (fun _ h => h.2)) (fun _ h => h.1)); replace HK := A_ (KeepBut.trans (by repeat (first | (with_reducible first | exact HK.out | apply KeepBut.set_ | apply keep_drewN | apply keep_drew | apply keep_alloc | refine keep_far ?_ GW454.out _) | exact HK.out)) hk (.inl rfl)); replace HB := A_ (hb); replace HI0 := A_ (hi); (try clear hb); (try clear hk); (try clear hi)))
       go_roundg kj5
       case measure => have := HK1.out; have := HJ5.out; omega
       case rel => exact ⟨(y455), (t458), (t459), (t460), (t461), rs_, H', ⟨by have := HK1.out; have := HJ5.out; omega⟩, ⟨by (with_reducible repeat (first | apply Kd.R_alloc | apply Kd.R_drewN | apply Kd.R_drew)); exact Kd.R_mono HO457.out (fun _ hk => trivial)⟩, ⟨by repeat (first | (with_reducible first | exact HI0.out | apply IsS106.alloc | apply IsS106.drewN | apply IsS106.drew | apply IsS106.set_0 | apply IsS106.set_1 | apply IsS106.set_2 | apply IsS106.far (hne := NB0_454.out)) | exact HI0.out)⟩, ⟨by repeat (first | (with_reducible first | exact HK.out | apply KeepBut.set_ | apply keep_drewN | apply keep_drew | apply keep_alloc | refine keep_far ?_ GW454.out _) | exact HK.out)⟩, ⟨by repeat (first | (with_reducible first | exact HB.out | apply below_alloc | apply pw_below_drewN | apply below_drew1 | refine below_set ?_ (IsS106.ge HI0.out) | refine below_set ?_ GE454.out) | exact HB.out)⟩⟩
     · replace c9 := Bool.eq_false_iff.mpr c9
       subst c9
       rw [if_neg nf_] at H
       obtain ⟨⟨t462, t463, t464⟩, A19, H⟩ := bo_ H
       (try dsimp only at H)
       by_cases c20 : t464 = true
       · subst c20
         rw [if_pos rfl] at H
         simp only [Option.some.injEq, Prod.mk.injEq] at H
         obtain ⟨rfl, rfl, rfl, rfl⟩ := H
         go_wp2_with (first | ((with_reducible refine gc_ (f := 100) rfl ?_); refine gL_ (some 26) Tryd.func100 #[.pointer (some ⟨g, 0, none⟩), .string (⟨#[41]⟩ : ByteArray)] ?_; (with_reducible refine (spec_l14Must.calls g x1000_1 x1001_1 x1002_1 (⟨#[41]⟩ : ByteArray) t462 t463 true w0 _ ?s1 ?s2 A19.out).mono ?_); (case s1 => exact bIQx161_); (case s2 => exact bIQx160_); rintro e w21 ⟨rfl, hi, hb, hk⟩; refine ⟨_, rfl, ?_⟩; replace HO_3 := A_ (Kd.R_mono (Kd.R_keep (IsS106.apart (show IsS106 w0 _ g x1000_1 x1001_1 x1002_1 from bIQx161_) (vR_ HO_3.out) (by decide)) hk (fun _ h => h.2)) (fun _ h => h.1)); replace HK := A_ (KeepBut.trans bK_ hk (.inl rfl)); replace HB := A_ (hb); replace HI0 := A_ (hi); (try clear hb); (try clear hk); (try clear hi); obtain ⟨HGz22, hgz22⟩ := HI0.out; have hcz22_0 := cellS106_0 HGz22; have hcz22_1 := cellS106_1 HGz22; have hcz22_2 := cellS106_2 HGz22; have hfz22_0 := blk_frozen HGz22 0; have hfz22_1 := blk_frozen HGz22 1; have hfz22_2 := blk_frozen HGz22 2; clear HGz22 hgz22))
         go_ret
         exact ⟨_, rr_, by (with_reducible repeat (first | apply Kd.R_alloc | apply Kd.R_drewN | apply Kd.R_drew)); exact Kd.R_mono (Kd.R_far (p := ⟨g, 2, none⟩) (IsS106.apart HI0.out HO_3.out (by decide)) (fun _ hk => hk.2) (.bool true)) (fun _ hk => trivial), bIQx161_, bIQx160_, bK_⟩
       · replace c20 := Bool.eq_false_iff.mpr c20
         subst c20
         rw [if_neg nf_] at H
         simp only [Option.some.injEq, Prod.mk.injEq] at H
         obtain ⟨rfl, rfl, rfl, rfl⟩ := H
         go_wp2_with (first | ((with_reducible refine gc_ (f := 100) rfl ?_); refine gL_ (some 26) Tryd.func100 #[.pointer (some ⟨g, 0, none⟩), .string (⟨#[41]⟩ : ByteArray)] ?_; (with_reducible refine (spec_l14Must.calls g x1000_1 x1001_1 x1002_1 (⟨#[41]⟩ : ByteArray) t462 t463 false w0 _ ?s1 ?s2 A19.out).mono ?_); (case s1 => exact bIQx161_); (case s2 => exact bIQx160_); rintro e w23 ⟨rfl, hi, hb, hk⟩; refine ⟨_, rfl, ?_⟩; replace HO_3 := A_ (Kd.R_mono (Kd.R_keep (IsS106.apart (show IsS106 w0 _ g x1000_1 x1001_1 x1002_1 from bIQx161_) (vR_ HO_3.out) (by decide)) hk (fun _ h => h.2)) (fun _ h => h.1)); replace HK := A_ (KeepBut.trans bK_ hk (.inl rfl)); replace HB := A_ (hb); replace HI0 := A_ (hi); (try clear hb); (try clear hk); (try clear hi); obtain ⟨HGz24, hgz24⟩ := HI0.out; have hcz24_0 := cellS106_0 HGz24; have hcz24_1 := cellS106_1 HGz24; have hcz24_2 := cellS106_2 HGz24; have hfz24_0 := blk_frozen HGz24 0; have hfz24_1 := blk_frozen HGz24 1; have hfz24_2 := blk_frozen HGz24 2; clear HGz24 hgz24; obtain ⟨Ao25, co25, eo25⟩ := Kd.R_slice HO_3.out; subst eo25))
         go_ret
         exact ⟨_, rr_, by (with_reducible repeat (first | apply Kd.R_alloc | apply Kd.R_drewN | apply Kd.R_drew)); exact Kd.R_mono (Kd.R_far (p := ⟨g, 2, none⟩) (IsS106.apart HI0.out HO_3.out (by decide)) (fun _ hk => hk.2) (.bool (decide ((x3_1.length : Int) > 4)))) (fun _ hk => trivial), bIQx161_, bIQx160_, bK_⟩
theorem handed_put {J : Nat → Act → World → Prop} {k : Nat} {a : Act} {w : World} (N : Tmp) (v : Value) (h : Handed J k (a.put (some N) v) w) (e : a.put (some N) v = a) : Handed J k a w := e ▸ h
def mkReader.f (a0 : ByteArray) : Option (ByteArray × Int × Bool) := some (a0, 0, false)
theorem mkReader.out {a0 t1 : ByteArray} {t2 : Int} {t3 : Bool} (h : mkReader.f a0 = some (t1, t2, t3)) : t1 = a0 ∧ t2 = 0 ∧ t3 = false := by
 simp only [mkReader.f, Option.some.injEq, Prod.mk.injEq] at h
 exact ⟨h.1.symm, h.2.1.symm, h.2.2.symm⟩
mutual
def spec_ParseIf.l0 : Nat → ByteArray → List (List (S79)) → Bool → ByteArray → Int → Bool → Option ((List (List (S79))) × Bool)
 | 0, _, _, _, _, _, _ => none
 | k + 1, x0, x5, x6, x469000, x469001, x469002 => if x6 = true then (spec_ParseIf.j1 k x0 x5 (!x469002) x469000 x469001 x469002) else (spec_ParseIf.j1 k x0 x5 false x469000 x469001 x469002)
def spec_ParseIf.j1 : Nat → ByteArray → List (List (S79)) → Bool → ByteArray → Int → Bool → Option ((List (List (S79))) × Bool)
 | 0, _, _, _, _, _, _ => none
 | k + 1, x0, x5, x19, x469000, x469001, x469002 => if x19 = true then ((spec_l14List.f k x469000 x469001 x469002).bind fun bt478 => (if x5.length < 5864062014805 then (spec_ParseIf.l1 k x0 (x5 ++ [bt478.1]) (decide (bt478.2.2.1 < (x0.size : Int))) bt478.2.1 bt478.2.2.1 bt478.2.2.2) else (none))) else (if x469002 = true then (some ((([] : List (List (S79)))), false)) else (if (x5.length : Int) > 4 then (some ((([] : List (List (S79)))), false)) else (some (x5, true))))
def spec_ParseIf.l1 : Nat → ByteArray → List (List (S79)) → Bool → ByteArray → Int → Bool → Option ((List (List (S79))) × Bool)
 | 0, _, _, _, _, _, _ => none
 | k + 1, x0, x5, x6, x469000, x469001, x469002 => if x6 = true then ((spec_l14Is.f x469000 x469001 x469002 (⟨#[32]⟩ : ByteArray)).bind fun bt487 => (if bt487.1 = true then (if bt487.2.2.2 = true then (spec_ParseIf.l1 k x0 x5 x6 bt487.2.1 bt487.2.2.1 true) else (spec_ParseIf.l1 k x0 x5 x6 bt487.2.1 bt487.2.2.1 (bt487.2.2.1 == (x0.size : Int)))) else (spec_ParseIf.l0 k x0 x5 x6 bt487.2.1 bt487.2.2.1 bt487.2.2.2))) else (spec_ParseIf.l0 k x0 x5 x6 x469000 x469001 x469002)
end
def spec_ParseIf.f (k : Nat) (a0 : ByteArray) : Option ((List (List (S79))) × Bool) := (mkReader.f a0).bind fun bt465 => (spec_ParseIf.l0 k a0 (([] : List (List (S79)))) true bt465.1 bt465.2.1 bt465.2.2)
theorem spec_ParseIf.calls (k : Nat) (a0 : ByteArray) (r1 : List (List (S79))) (r2 : Bool) (w : World) (h : spec_ParseIf.f k a0 = some (r1, r2)) :
 Calls Tryd.prog 51 #[.string a0] w fun e w' => ∃ v0_ : Value, e = .returned (.tuple #[v0_, .bool r2]) ∧ Kd.S (Kd.slice 79 k79) 76 w' w.heap.size (fun _ => True) v0_ r1 ∧ Below w.heap.size w w' := by
 have hu106 := Tryd.underlying106
 have HB := A_ (Below.refl w.heap.size w)
 have H : ((mkReader.f a0).bind fun bt465 => (spec_ParseIf.l0 k a0 (([] : List (List (S79)))) true bt465.1 bt465.2.1 bt465.2.2)) = some (r1, r2) := h
 clear h
 obtain ⟨⟨t465, t466, t467⟩, A2, H⟩ := bo_ H
 (try dsimp only at H)
 obtain ⟨y469, hy469⟩ : ∃ y_ : List (List (S79)), y_ = (([] : List (List (S79)))) := ⟨_, rfl⟩
 replace H : (spec_ParseIf.l0 k a0 y469 true t465 t466 t467) = some (r1, r2) := hy_ hy469 H
 have Ny469 := A_ hy469
 clear hy469
 have H' := A_ H
 clear H
 go_enter Tryd.func51, Tryd.ntmps51
 go_wp2_with (first | ((with_reducible refine gd_ (N := 10) rfl ?_); refine bx_ (N := 10) (cs := #[.string a0, .int .i64 0, .bool false]) (t := 106) ?_; intro g468 hg_ w3 hbox_ hb2; have hi : IsS106 w w3 g468 t465 t466 t467 := (by obtain ⟨e1_, e2_, e3_⟩ := mkReader.out A2.out; rw [e1_, e2_, e3_]; exact ⟨hbox_, by rw [hg_]; exact below_size bB_⟩); have hb := below_step bB_ hb2; clear hb2 hbox_ hg_; replace HB := A_ (hb); have HI468 := A_ (hi); (try clear hb)) | ((with_reducible refine gd_ (N := 11) rfl ?_); (try (refine gate_guard (by rfl) ?_; dsimp only)); refine Kd.S_lit (Kd.slice 79 k79) _ 76 ?hg (N := 11) ?hd (xs := ([] : List (List (S79)))) (inner := []) (ok := fun _ => True) (okp := fun _ => True) ?hr ?hp (fun _ hk => hk) trivial (Below.refl _ _) (Nat.le_refl _) (by simp) ?_; (case hd => rfl); (case hg => rfl); (case hr => first | (go_simp; done) | (go_simp; rfl)); (case hp => exact (Reps.none _ _)); intro v470 w4 ho5 hb hg_ hnew_; clear hg_ hnew_; (first | rw [← Ny469.out] at ho5 | (simp only [Int.reduceToNat] at ho5; rw [← Ny469.out] at ho5)); have HO471 := A_ (Kd.S_lower ho5 (below_size (by repeat (first | (with_reducible first | exact HB.out | apply below_alloc | apply pw_below_drewN | apply below_drew1 | refine below_set ?_ (IsS106.ge HI468.out)) | exact HB.out)))); replace HB := A_ (below_step (by repeat (first | (with_reducible first | exact HB.out | apply below_alloc | apply pw_below_drewN | apply below_drew1 | refine below_set ?_ (IsS106.ge HI468.out)) | exact HB.out)) hb); replace HI468 := A_ (IsS106.below (by repeat (first | (with_reducible first | exact HI468.out | apply IsS106.alloc | apply IsS106.drewN | apply IsS106.drew | apply IsS106.set_0 | apply IsS106.set_1 | apply IsS106.set_2) | exact HI468.out)) hb); clear hb ho5))
 go_loopg [5, 6] k (fun kq v5 v6 w' => ∃ (x5_1 : List (List (S79))) (x6_1 : Bool) (x469000_1 : ByteArray) (x469001_1 : Int) (x469002_1 : Bool), v6 = .bool x6_1 ∧ Aside0 (spec_ParseIf.l0 kq a0 x5_1 x6_1 x469000_1 x469001_1 x469002_1 = some (r1, r2)) ∧ Aside0 (kq ≤ k) ∧ Aside0 (Kd.S (Kd.slice 79 k79) 76 w' w.heap.size (fun _ => True) v5 x5_1) ∧ Aside0 (IsS106 w w' g468 x469000_1 x469001_1 x469002_1) ∧ Aside0 (Below w.heap.size w w'))
 case atStart => exact ⟨(y469), (true), (t465), (t466), (t467), rs_, H', ⟨Nat.le_refl _⟩, ⟨vS_ HO471.out⟩, ⟨by repeat (first | (with_reducible first | exact HI468.out | apply IsS106.alloc | apply IsS106.drewN | apply IsS106.drew | apply IsS106.set_0 | apply IsS106.set_1 | apply IsS106.set_2) | exact HI468.out)⟩, ⟨by repeat (first | (with_reducible first | exact HB.out | apply below_alloc | apply pw_below_drewN | apply below_drew1 | refine below_set ?_ (IsS106.ge HI468.out)) | exact HB.out)⟩⟩
 case round =>
  clear H'
  try clear c1
  try clear p2
  try clear c5
  obtain ⟨x5_1, x6_1, x469000_1, x469001_1, x469002_1, rfl, HA, HK1, HO_5, HI468, HB⟩ := hrel
  cases gk with
  | zero => exact absurd HA.out (by simp [spec_ParseIf.l0])
  | succ k1 =>
   have H := HA.out
   clear HA
   simp only [spec_ParseIf.l0] at H
   have HC6 := A_ H
   clear H
   go_upto_region 4 with (fail)
   go_cut [19] (fun v19 wc => ∃ (kq : Nat) (x19_5 : Bool), v19 = .bool x19_5 ∧ Aside0 (spec_ParseIf.j1 kq a0 x5_1 x19_5 x469000_1 x469001_1 x469002_1 = some (r1, r2)) ∧ Aside0 (kq ≤ k1) ∧ Aside0 (Kd.S (Kd.slice 79 k79) 76 wc w.heap.size (fun _ => True) u5 x5_1) ∧ Aside0 (IsS106 w wc g468 x469000_1 x469001_1 x469002_1) ∧ Aside0 (Below w.heap.size w wc))
   case first =>
    have H := HC6.out
    clear HC6
    by_cases c7 : x6_1 = true
    · subst c7
      rw [if_pos rfl] at H
      have H' := A_ H
      clear H
      obtain ⟨HGz8, hgz8⟩ := HI468.out
      have hcz8_0 := cellS106_0 HGz8
      have hcz8_1 := cellS106_1 HGz8
      have hcz8_2 := cellS106_2 HGz8
      have hfz8_0 := blk_frozen HGz8 0
      have hfz8_1 := blk_frozen HGz8 1
      have hfz8_2 := blk_frozen HGz8 2
      clear HGz8 hgz8
      go_wp2
      go_meet
      case rel => exact ⟨_, (!x469002_1), rs_, H', ⟨by have := HK1.out; first | omega | exact Nat.le_refl _⟩, ⟨vS_ HO_5.out⟩, ⟨by repeat (first | (with_reducible first | exact HI468.out | apply IsS106.alloc | apply IsS106.drewN | apply IsS106.drew | apply IsS106.set_0 | apply IsS106.set_1 | apply IsS106.set_2) | exact HI468.out)⟩, ⟨by repeat (first | (with_reducible first | exact HB.out | apply below_alloc | apply pw_below_drewN | apply below_drew1 | refine below_set ?_ (IsS106.ge HI468.out)) | exact HB.out)⟩⟩
    · replace c7 := Bool.eq_false_iff.mpr c7
      subst c7
      rw [if_neg nf_] at H
      have H' := A_ H
      clear H
      go_wp2
      go_meet
      case rel => exact ⟨_, (false), rs_, H', ⟨by have := HK1.out; first | omega | exact Nat.le_refl _⟩, ⟨vS_ HO_5.out⟩, ⟨by repeat (first | (with_reducible first | exact HI468.out | apply IsS106.alloc | apply IsS106.drewN | apply IsS106.drew | apply IsS106.set_0 | apply IsS106.set_1 | apply IsS106.set_2) | exact HI468.out)⟩, ⟨by repeat (first | (with_reducible first | exact HB.out | apply below_alloc | apply pw_below_drewN | apply below_drew1 | refine below_set ?_ (IsS106.ge HI468.out)) | exact HB.out)⟩⟩
   case rest =>
    clear HC6
    try clear c1
    try clear p2
    try clear c5
    try clear c7
    try clear hcz8_0
    try clear hcz8_1
    try clear hcz8_2
    try clear hfz8_0
    try clear hfz8_1
    try clear hfz8_2
    try clear p2
    obtain ⟨kq, x19_5, rfl, HA, HJ5, HO_5, HI468, HB⟩ := hcut
    cases kq with
    | zero => exact absurd HA.out (by simp [spec_ParseIf.j1])
    | succ kj5 =>
     have H := HA.out
     clear HA
     simp only [spec_ParseIf.j1] at H
     by_cases c9 : x19_5 = true
     · subst c9
       rw [if_pos rfl] at H
       obtain ⟨⟨t478, t481, t482, t483⟩, A10, H⟩ := bo_ H
       (try dsimp only at H)
       by_cases c11 : x5_1.length < 5864062014805
       rotate_left
       · exact absurd H (by rw [if_neg c11]; simp)
       rw [if_pos c11] at H
       have LMc11 := A_ c11
       clear c11
       obtain ⟨y484, hy484⟩ : ∃ y_ : List (List (S79)), y_ = (x5_1 ++ [t478]) := ⟨_, rfl⟩
       replace H : (spec_ParseIf.l1 kj5 a0 y484 (decide (t482 < (a0.size : Int))) t481 t482 t483) = some (r1, r2) := hy_ hy484 H
       have Ny484 := A_ hy484
       clear hy484
       have H' := A_ H
       clear H
       go_wp2_with (first | ((with_reducible refine gc_ (f := 75) rfl ?_); refine gL_ (some 21) Tryd.func75 #[.pointer (some ⟨g468, 0, none⟩)] ?_; (with_reducible refine (spec_l14List.calls kj5 g468 x469000_1 x469001_1 x469002_1 t478 t481 t482 t483 w _ ?s1 ?s2 A10.out).mono ?_); (case s1 => repeat (first | (with_reducible first | exact HI468.out | apply IsS106.alloc | apply IsS106.drewN | apply IsS106.drew | apply IsS106.set_0 | apply IsS106.set_1 | apply IsS106.set_2) | exact HI468.out)); (case s2 => repeat (first | (with_reducible first | exact HB.out | apply below_alloc | apply pw_below_drewN | apply below_drew1 | refine below_set ?_ (IsS106.ge HI468.out)) | exact HB.out)); rintro e w12 ⟨v479, rfl, ho0, hi, hb, hk⟩; refine ⟨_, rfl, ?_⟩; replace HO_5 := A_ (Kd.S_mono (Kd.S_told (Kd.S_oldK (IsS106.apartS (show IsS106 w _ g468 x469000_1 x469001_1 x469002_1 from by repeat (first | (with_reducible first | exact HI468.out | apply IsS106.alloc | apply IsS106.drewN | apply IsS106.drew | apply IsS106.set_0 | apply IsS106.set_1 | apply IsS106.set_2) | exact HI468.out)) (vS_ HO_5.out) (by decide)) hk) (kb_ ho0)) (fun _ h_ => h_.1)); have HO480 := A_ (Kd.R_lower ho0 (below_size (by repeat (first | (with_reducible first | exact HB.out | apply below_alloc | apply pw_below_drewN | apply below_drew1 | refine below_set ?_ (IsS106.ge HI468.out)) | exact HB.out)))); replace HB := A_ (hb); replace HI468 := A_ (hi); (try clear hb); (try clear hk); (try clear hi); (try clear ho0); obtain ⟨Ao14, co14, eo14⟩ := Kd.R_slice HO480.out; subst eo14) | ((with_reducible refine gate_builtin (b := .append) (xs := #[.tmp 22, .tmp 24]) rfl ?_); (try (refine gate_guard (by rfl) ?_; dsimp only)); at_builtin; refine Kd.S_append (Kd.slice 79 k79) (w0 := w) w.heap.size rfl (.tmp 22) (.tmp 24) 50 76 (.slice none 0 0) 24 rfl Tryd.underlying50 info76 rfl (by decide) (by omega) u5 x5_1 t478 [.slice Ao14 t478.length co14] (fun _ => True) (fun k_ => some k_ = (.slice Ao14 t478.length co14 : Value).ownBlock) rfl rfl ?aP (fun k_ hk_ => ((Kd.R_mono (ok' := fun k_ => ((fun _ => True)) k_ ∧ some k_ ≠ (u5 : Value).ownBlock) (Kd.R_apart' (HO480.out) (Kd.S_typed HO_5.out) (by decide)) (fun k_ hk => ⟨trivial, hk.2⟩))).1 k_ hk_.symm) ?aF ?aO ?aB ?aS ?aL ?_; (case aP => exact Kd.M_row (Kd.R_mono (Kd.R_tight rfl (Kd.R_mono (ok' := fun k_ => ((fun _ => True)) k_ ∧ some k_ ≠ (u5 : Value).ownBlock) (Kd.R_apart' (HO480.out) (Kd.S_typed HO_5.out) (by decide)) (fun k_ hk => ⟨trivial, hk.2⟩))) (fun _ h_ => h_))); (case aB => exact (by repeat (first | (with_reducible first | exact HB.out | apply below_alloc | apply pw_below_drewN | apply below_drew1 | refine below_set ?_ (IsS106.ge HI468.out)) | exact HB.out))); (case aF => exact (fun _ _ => trivial)); (case aO => exact (by (with_reducible repeat (first | apply Kd.S_alloc | apply Kd.S_drewN | apply Kd.S_drew)); exact Kd.S_mono HO_5.out (fun k_ hk => ⟨trivial, fun e_ => hk.2 e_⟩))); (case aS => exact (below_size (by repeat (first | (with_reducible first | exact HB.out | apply below_alloc | apply pw_below_drewN | apply below_drew1 | refine below_set ?_ (IsS106.ge HI468.out)) | exact HB.out)))); (case aL => have := LMc11.out; omega); intro v485 w13 ho hb hg hat; rw [← Ny484.out] at ho; replace HI468 := A_ (IsS106.grown (by repeat (first | (with_reducible first | exact HI468.out | apply IsS106.alloc | apply IsS106.drewN | apply IsS106.drew | apply IsS106.set_0 | apply IsS106.set_1 | apply IsS106.set_2) | exact HI468.out)) hg (IsS106.own_neS HI468.out HO_5.out (by decide))); replace HB := A_ (hb); have HO486 := A_ (ho); clear HO_5 HO480; clear ho hb hg hat; obtain ⟨HGz15, hgz15⟩ := HI468.out; have hcz15_0 := cellS106_0 HGz15; have hcz15_1 := cellS106_1 HGz15; have hcz15_2 := cellS106_2 HGz15; have hfz15_0 := blk_frozen HGz15 0; have hfz15_1 := blk_frozen HGz15 1; have hfz15_2 := blk_frozen HGz15 2; clear HGz15 hgz15))
       go_loopg [] kj5 (fun kq w' => ∃ (x469000_3 : ByteArray) (x469001_3 : Int) (x469002_3 : Bool), Aside0 (spec_ParseIf.l1 kq a0 y484 (decide (t482 < (a0.size : Int))) x469000_3 x469001_3 x469002_3 = some (r1, r2)) ∧ Aside0 (kq ≤ kj5) ∧ Aside0 (Kd.S (Kd.slice 79 k79) 76 w' w.heap.size (fun _ => True) v485 y484) ∧ Aside0 (IsS106 w w' g468 x469000_3 x469001_3 x469002_3) ∧ Aside0 (Below w.heap.size w w'))
       case atStart => exact ⟨(t481), (t482), (t483), H', ⟨Nat.le_refl _⟩, ⟨vS_ HO486.out⟩, ⟨by repeat (first | (with_reducible first | exact HI468.out | apply IsS106.alloc | apply IsS106.drewN | apply IsS106.drew | apply IsS106.set_0 | apply IsS106.set_1 | apply IsS106.set_2) | exact HI468.out)⟩, ⟨by repeat (first | (with_reducible first | exact HB.out | apply below_alloc | apply pw_below_drewN | apply below_drew1 | refine below_set ?_ (IsS106.ge HI468.out)) | exact HB.out)⟩⟩
       case round =>
        clear H'
        try clear c1
        try clear p2
        try clear c5
        try clear c7
        try clear c9
        try clear c11
        try clear c15
        try clear hcz15_0
        try clear hcz15_1
        try clear hcz15_2
        try clear hcz8_0
        try clear hcz8_1
        try clear hcz8_2
        try clear hfz15_0
        try clear hfz15_1
        try clear hfz15_2
        try clear hfz8_0
        try clear hfz8_1
        try clear hfz8_2
        try clear p2
        obtain ⟨x469000_3, x469001_3, x469002_3, HA, HK3, HO_5, HI468, HB⟩ := hrel
        cases gk with
        | zero => exact absurd HA.out (by simp [spec_ParseIf.l1])
        | succ k3 =>
         have H := HA.out
         clear HA
         simp only [spec_ParseIf.l1] at H
         by_cases c16 : (decide (t482 < (a0.size : Int))) = true
         rotate_left
         · rw [if_neg c16] at H
           have c16b0 : (decide (t482 < (a0.size : Int))) = false := by simpa using c16
           clear c16
           have H' := A_ H
           clear H
           go_wp2
           refine handed_put 6 (.bool (decide (t482 < (a0.size : Int)))) ?_ ?_
           rotate_left
           · simp only [Act.put, List.setIfInBounds_toArray, List.set_cons_zero, List.set_cons_succ]
             rw [c16b0]
           simp only [Act.put, List.setIfInBounds_toArray, List.set_cons_zero, List.set_cons_succ]
           refine handed_put 32 (.bool (decide (t482 < (a0.size : Int)))) ?_ ?_
           rotate_left
           · simp only [Act.put, List.setIfInBounds_toArray, List.set_cons_zero, List.set_cons_succ]
             rw [c16b0]
           simp only [Act.put, List.setIfInBounds_toArray, List.set_cons_zero, List.set_cons_succ]
           go_roundg k3
           case measure => have := HK1.out; have := HJ5.out; have := HK3.out; omega
           case rel => exact ⟨(y484), ((decide (t482 < (a0.size : Int)))), (x469000_3), (x469001_3), (x469002_3), rs_, H', ⟨by have := HK1.out; have := HJ5.out; have := HK3.out; omega⟩, ⟨vS_ HO_5.out⟩, ⟨by repeat (first | (with_reducible first | exact HI468.out | apply IsS106.alloc | apply IsS106.drewN | apply IsS106.drew | apply IsS106.set_0 | apply IsS106.set_1 | apply IsS106.set_2) | exact HI468.out)⟩, ⟨by repeat (first | (with_reducible first | exact HB.out | apply below_alloc | apply pw_below_drewN | apply below_drew1 | refine below_set ?_ (IsS106.ge HI468.out)) | exact HB.out)⟩⟩
         rw [if_pos c16] at H
         have c16b0 : (decide (t482 < (a0.size : Int))) = true := c16
         clear c16
         obtain ⟨⟨t487, t488, t489, t490⟩, A17, H⟩ := bo_ H
         (try dsimp only at H)
         by_cases c18 : t487 = true
         · subst c18
           rw [if_pos rfl] at H
           by_cases c19 : t490 = true
           · subst c19
             rw [if_pos rfl] at H
             have H' := A_ H
             clear H
             go_wp2_with (first | (go_at_call 76; (with_reducible refine (spec_l14Is.calls g468 x469000_3 x469001_3 x469002_3 (⟨#[32]⟩ : ByteArray) true t488 t489 true w _ ?s1 ?s2 A17.out).mono ?_); (case s1 => repeat (first | (with_reducible first | exact HI468.out | apply IsS106.alloc | apply IsS106.drewN | apply IsS106.drew | apply IsS106.set_0 | apply IsS106.set_1 | apply IsS106.set_2) | exact HI468.out)); (case s2 => repeat (first | (with_reducible first | exact HB.out | apply below_alloc | apply pw_below_drewN | apply below_drew1 | refine below_set ?_ (IsS106.ge HI468.out)) | exact HB.out)); rintro e w20 ⟨rfl, hi, hb, hk⟩; replace HO_5 := A_ (Kd.S_mono (Kd.S_keep (IsS106.apartS (show IsS106 w _ g468 x469000_3 x469001_3 x469002_3 from by repeat (first | (with_reducible first | exact HI468.out | apply IsS106.alloc | apply IsS106.drewN | apply IsS106.drew | apply IsS106.set_0 | apply IsS106.set_1 | apply IsS106.set_2) | exact HI468.out)) (vS_ HO_5.out) (by decide)) hk (fun _ h => h.2)) (fun _ h => h.1)); replace HB := A_ (hb); replace HI468 := A_ (hi); (try clear hb); (try clear hk); (try clear hi); obtain ⟨HGz21, hgz21⟩ := HI468.out; have hcz21_0 := cellS106_0 HGz21; have hcz21_1 := cellS106_1 HGz21; have hcz21_2 := cellS106_2 HGz21; have hfz21_0 := blk_frozen HGz21 0; have hfz21_1 := blk_frozen HGz21 1; have hfz21_2 := blk_frozen HGz21 2; clear HGz21 hgz21))
             refine handed_put 6 (.bool (decide (t482 < (a0.size : Int)))) ?_ ?_
             rotate_left
             · simp only [Act.put, List.setIfInBounds_toArray, List.set_cons_zero, List.set_cons_succ]
               rw [c16b0]
             simp only [Act.put, List.setIfInBounds_toArray, List.set_cons_zero, List.set_cons_succ]
             refine handed_put 32 (.bool (decide (t482 < (a0.size : Int)))) ?_ ?_
             rotate_left
             · simp only [Act.put, List.setIfInBounds_toArray, List.set_cons_zero, List.set_cons_succ]
               rw [c16b0]
             simp only [Act.put, List.setIfInBounds_toArray, List.set_cons_zero, List.set_cons_succ]
             go_roundg k3
             case measure => have := HK1.out; have := HJ5.out; have := HK3.out; omega
             case rel => exact ⟨(t488), (t489), (true), H', ⟨by have := HK1.out; have := HJ5.out; have := HK3.out; omega⟩, ⟨by (with_reducible repeat (first | apply Kd.S_alloc | apply Kd.S_drewN | apply Kd.S_drew)); exact Kd.S_mono (Kd.S_far (p := ⟨g468, 2, none⟩) (IsS106.apartS HI468.out HO_5.out (by decide)) (fun _ hk => hk.2) (.bool true)) (fun _ hk => trivial)⟩, ⟨by repeat (first | (with_reducible first | exact HI468.out | apply IsS106.alloc | apply IsS106.drewN | apply IsS106.drew | apply IsS106.set_0 | apply IsS106.set_1 | apply IsS106.set_2) | exact HI468.out)⟩, ⟨by repeat (first | (with_reducible first | exact HB.out | apply below_alloc | apply pw_below_drewN | apply below_drew1 | refine below_set ?_ (IsS106.ge HI468.out)) | exact HB.out)⟩⟩
           · replace c19 := Bool.eq_false_iff.mpr c19
             subst c19
             rw [if_neg nf_] at H
             have H' := A_ H
             clear H
             go_wp2_with (first | (go_at_call 76; (with_reducible refine (spec_l14Is.calls g468 x469000_3 x469001_3 x469002_3 (⟨#[32]⟩ : ByteArray) true t488 t489 false w _ ?s1 ?s2 A17.out).mono ?_); (case s1 => repeat (first | (with_reducible first | exact HI468.out | apply IsS106.alloc | apply IsS106.drewN | apply IsS106.drew | apply IsS106.set_0 | apply IsS106.set_1 | apply IsS106.set_2) | exact HI468.out)); (case s2 => repeat (first | (with_reducible first | exact HB.out | apply below_alloc | apply pw_below_drewN | apply below_drew1 | refine below_set ?_ (IsS106.ge HI468.out)) | exact HB.out)); rintro e w22 ⟨rfl, hi, hb, hk⟩; replace HO_5 := A_ (Kd.S_mono (Kd.S_keep (IsS106.apartS (show IsS106 w _ g468 x469000_3 x469001_3 x469002_3 from by repeat (first | (with_reducible first | exact HI468.out | apply IsS106.alloc | apply IsS106.drewN | apply IsS106.drew | apply IsS106.set_0 | apply IsS106.set_1 | apply IsS106.set_2) | exact HI468.out)) (vS_ HO_5.out) (by decide)) hk (fun _ h => h.2)) (fun _ h => h.1)); replace HB := A_ (hb); replace HI468 := A_ (hi); (try clear hb); (try clear hk); (try clear hi); obtain ⟨HGz23, hgz23⟩ := HI468.out; have hcz23_0 := cellS106_0 HGz23; have hcz23_1 := cellS106_1 HGz23; have hcz23_2 := cellS106_2 HGz23; have hfz23_0 := blk_frozen HGz23 0; have hfz23_1 := blk_frozen HGz23 1; have hfz23_2 := blk_frozen HGz23 2; clear HGz23 hgz23))
             refine handed_put 6 (.bool (decide (t482 < (a0.size : Int)))) ?_ ?_
             rotate_left
             · simp only [Act.put, List.setIfInBounds_toArray, List.set_cons_zero, List.set_cons_succ]
               rw [c16b0]
             simp only [Act.put, List.setIfInBounds_toArray, List.set_cons_zero, List.set_cons_succ]
             refine handed_put 32 (.bool (decide (t482 < (a0.size : Int)))) ?_ ?_
             rotate_left
             · simp only [Act.put, List.setIfInBounds_toArray, List.set_cons_zero, List.set_cons_succ]
               rw [c16b0]
             simp only [Act.put, List.setIfInBounds_toArray, List.set_cons_zero, List.set_cons_succ]
             go_roundg k3
             case measure => have := HK1.out; have := HJ5.out; have := HK3.out; omega
             case rel => exact ⟨(t488), (t489), ((t489 == (a0.size : Int))), H', ⟨by have := HK1.out; have := HJ5.out; have := HK3.out; omega⟩, ⟨by (with_reducible repeat (first | apply Kd.S_alloc | apply Kd.S_drewN | apply Kd.S_drew)); exact Kd.S_mono (Kd.S_far (p := ⟨g468, 2, none⟩) (IsS106.apartS HI468.out HO_5.out (by decide)) (fun _ hk => hk.2) (.bool (t489 == (a0.size : Int)))) (fun _ hk => trivial)⟩, ⟨by repeat (first | (with_reducible first | exact HI468.out | apply IsS106.alloc | apply IsS106.drewN | apply IsS106.drew | apply IsS106.set_0 | apply IsS106.set_1 | apply IsS106.set_2) | exact HI468.out)⟩, ⟨by repeat (first | (with_reducible first | exact HB.out | apply below_alloc | apply pw_below_drewN | apply below_drew1 | refine below_set ?_ (IsS106.ge HI468.out)) | exact HB.out)⟩⟩
         · replace c18 := Bool.eq_false_iff.mpr c18
           subst c18
           rw [if_neg nf_] at H
           have H' := A_ H
           clear H
           go_wp2_with (first | (go_at_call 76; (with_reducible refine (spec_l14Is.calls g468 x469000_3 x469001_3 x469002_3 (⟨#[32]⟩ : ByteArray) false t488 t489 t490 w _ ?s1 ?s2 A17.out).mono ?_); (case s1 => repeat (first | (with_reducible first | exact HI468.out | apply IsS106.alloc | apply IsS106.drewN | apply IsS106.drew | apply IsS106.set_0 | apply IsS106.set_1 | apply IsS106.set_2) | exact HI468.out)); (case s2 => repeat (first | (with_reducible first | exact HB.out | apply below_alloc | apply pw_below_drewN | apply below_drew1 | refine below_set ?_ (IsS106.ge HI468.out)) | exact HB.out)); rintro e w24 ⟨rfl, hi, hb, hk⟩; replace HO_5 := A_ (Kd.S_mono (Kd.S_keep (IsS106.apartS (show IsS106 w _ g468 x469000_3 x469001_3 x469002_3 from by repeat (first | (with_reducible first | exact HI468.out | apply IsS106.alloc | apply IsS106.drewN | apply IsS106.drew | apply IsS106.set_0 | apply IsS106.set_1 | apply IsS106.set_2) | exact HI468.out)) (vS_ HO_5.out) (by decide)) hk (fun _ h => h.2)) (fun _ h => h.1)); replace HB := A_ (hb); replace HI468 := A_ (hi); (try clear hb); (try clear hk); (try clear hi)))
           refine handed_put 6 (.bool (decide (t482 < (a0.size : Int)))) ?_ ?_
           rotate_left
           · simp only [Act.put, List.setIfInBounds_toArray, List.set_cons_zero, List.set_cons_succ]
             rw [c16b0]
           simp only [Act.put, List.setIfInBounds_toArray, List.set_cons_zero, List.set_cons_succ]
           refine handed_put 32 (.bool (decide (t482 < (a0.size : Int)))) ?_ ?_
           rotate_left
           · simp only [Act.put, List.setIfInBounds_toArray, List.set_cons_zero, List.set_cons_succ]
             rw [c16b0]
           simp only [Act.put, List.setIfInBounds_toArray, List.set_cons_zero, List.set_cons_succ]
           go_roundg k3
           case measure => have := HK1.out; have := HJ5.out; have := HK3.out; omega
           case rel => exact ⟨(y484), ((decide (t482 < (a0.size : Int)))), (t488), (t489), (t490), rs_, H', ⟨by have := HK1.out; have := HJ5.out; have := HK3.out; omega⟩, ⟨vS_ HO_5.out⟩, ⟨by repeat (first | (with_reducible first | exact HI468.out | apply IsS106.alloc | apply IsS106.drewN | apply IsS106.drew | apply IsS106.set_0 | apply IsS106.set_1 | apply IsS106.set_2) | exact HI468.out)⟩, ⟨by repeat (first | (with_reducible first | exact HB.out | apply below_alloc | apply pw_below_drewN | apply below_drew1 | refine below_set ?_ (IsS106.ge HI468.out)) | exact HB.out)⟩⟩
     · replace c9 := Bool.eq_false_iff.mpr c9
       subst c9
       rw [if_neg nf_] at H
       by_cases c25 : x469002_1 = true
       · subst c25
         rw [if_pos rfl] at H
         obtain ⟨y472, hy472⟩ : ∃ y_ : List (List (S79)), y_ = (([] : List (List (S79)))) := ⟨_, rfl⟩
         replace H : (some (y472, false)) = some (r1, r2) := hy_ hy472 H
         have Ny472 := A_ hy472
         clear hy472
         simp only [Option.some.injEq, Prod.mk.injEq] at H
         obtain ⟨rfl, rfl⟩ := H
         obtain ⟨HGz26, hgz26⟩ := HI468.out
         have hcz26_0 := cellS106_0 HGz26
         have hcz26_1 := cellS106_1 HGz26
         have hcz26_2 := cellS106_2 HGz26
         have hfz26_0 := blk_frozen HGz26 0
         have hfz26_1 := blk_frozen HGz26 1
         have hfz26_2 := blk_frozen HGz26 2
         clear HGz26 hgz26
         go_wp2_with (first | ((with_reducible refine gd_ (N := 63) rfl ?_); (try (refine gate_guard (by rfl) ?_; dsimp only)); refine Kd.S_lit (Kd.slice 79 k79) _ 76 ?hg (N := 63) ?hd (xs := ([] : List (List (S79)))) (inner := []) (ok := fun _ => True) (okp := fun _ => True) ?hr ?hp (fun _ hk => hk) trivial (Below.refl _ _) (Nat.le_refl _) (by simp) ?_; (case hd => rfl); (case hg => rfl); (case hr => first | (go_simp; done) | (go_simp; rfl)); (case hp => exact (Reps.none _ _)); intro v473 w27 ho28 hb hg_ hnew_; clear hg_ hnew_; (first | rw [← Ny472.out] at ho28 | (simp only [Int.reduceToNat] at ho28; rw [← Ny472.out] at ho28)); have HO474 := A_ (Kd.S_lower (Kd.S_new' ho28 (Kd.S_lt (vS_ HO_5.out))) (below_size (by repeat (first | (with_reducible first | exact HB.out | apply below_alloc | apply pw_below_drewN | apply below_drew1 | refine below_set ?_ (IsS106.ge HI468.out)) | exact HB.out)))); replace HO_5 := A_ (Kd.S_elder' (vS_ HO_5.out) (kb_ ho28) hb); replace HB := A_ (below_step (by repeat (first | (with_reducible first | exact HB.out | apply below_alloc | apply pw_below_drewN | apply below_drew1 | refine below_set ?_ (IsS106.ge HI468.out)) | exact HB.out)) hb); replace HI468 := A_ (IsS106.below (by repeat (first | (with_reducible first | exact HI468.out | apply IsS106.alloc | apply IsS106.drewN | apply IsS106.drew | apply IsS106.set_0 | apply IsS106.set_1 | apply IsS106.set_2) | exact HI468.out)) hb); clear hb ho28))
         go_ret2
         exact ⟨_, rr_, by (with_reducible repeat (first | apply Kd.S_alloc | apply Kd.S_drewN | apply Kd.S_drew)); exact Kd.S_mono HO474.out (fun _ hk => trivial), by repeat (first | (with_reducible first | exact HB.out | apply below_alloc | apply pw_below_drewN | apply below_drew1 | refine below_set ?_ (IsS106.ge HI468.out)) | exact HB.out)⟩
       · replace c25 := Bool.eq_false_iff.mpr c25
         subst c25
         rw [if_neg nf_] at H
         by_cases c29 : (x5_1.length : Int) > 4
         rotate_left
         · rw [if_neg c29] at H
           have c29b0 : decide (4 < (x5_1.length : Int)) = false := decide_eq_false c29
           have c29b1 : decide (4 < x5_1.length) = false := decide_eq_false (by omega)
           clear c29
           simp only [Option.some.injEq, Prod.mk.injEq] at H
           obtain ⟨rfl, rfl⟩ := H
           obtain ⟨HGz34, hgz34⟩ := HI468.out
           have hcz34_0 := cellS106_0 HGz34
           have hcz34_1 := cellS106_1 HGz34
           have hcz34_2 := cellS106_2 HGz34
           have hfz34_0 := blk_frozen HGz34 0
           have hfz34_1 := blk_frozen HGz34 1
           have hfz34_2 := blk_frozen HGz34 2
           clear HGz34 hgz34
           obtain ⟨Ao35, co35, eo35⟩ := Kd.S_slice HO_5.out
           subst eo35
           go_wp2
           go_ret2
           exact ⟨_, rr_, by (with_reducible repeat (first | apply Kd.S_alloc | apply Kd.S_drewN | apply Kd.S_drew)); exact HO_5.out, by repeat (first | (with_reducible first | exact HB.out | apply below_alloc | apply pw_below_drewN | apply below_drew1 | refine below_set ?_ (IsS106.ge HI468.out)) | exact HB.out)⟩
         rw [if_pos c29] at H
         have c29b0 : decide (4 < (x5_1.length : Int)) = true := decide_eq_true c29
         have c29b1 : decide (4 < x5_1.length) = true := decide_eq_true (by omega)
         clear c29
         obtain ⟨y475, hy475⟩ : ∃ y_ : List (List (S79)), y_ = (([] : List (List (S79)))) := ⟨_, rfl⟩
         replace H : (some (y475, false)) = some (r1, r2) := hy_ hy475 H
         have Ny475 := A_ hy475
         clear hy475
         simp only [Option.some.injEq, Prod.mk.injEq] at H
         obtain ⟨rfl, rfl⟩ := H
         obtain ⟨HGz30, hgz30⟩ := HI468.out
         have hcz30_0 := cellS106_0 HGz30
         have hcz30_1 := cellS106_1 HGz30
         have hcz30_2 := cellS106_2 HGz30
         have hfz30_0 := blk_frozen HGz30 0
         have hfz30_1 := blk_frozen HGz30 1
         have hfz30_2 := blk_frozen HGz30 2
         clear HGz30 hgz30
         obtain ⟨Ao31, co31, eo31⟩ := Kd.S_slice HO_5.out
         subst eo31
         go_wp2_with (first | ((with_reducible refine gd_ (N := 63) rfl ?_); (try (refine gate_guard (by rfl) ?_; dsimp only)); refine Kd.S_lit (Kd.slice 79 k79) _ 76 ?hg (N := 63) ?hd (xs := ([] : List (List (S79)))) (inner := []) (ok := fun _ => True) (okp := fun _ => True) ?hr ?hp (fun _ hk => hk) trivial (Below.refl _ _) (Nat.le_refl _) (by simp) ?_; (case hd => rfl); (case hg => rfl); (case hr => first | (go_simp; done) | (go_simp; rfl)); (case hp => exact (Reps.none _ _)); intro v476 w32 ho33 hb hg_ hnew_; clear hg_ hnew_; (first | rw [← Ny475.out] at ho33 | (simp only [Int.reduceToNat] at ho33; rw [← Ny475.out] at ho33)); have HO477 := A_ (Kd.S_lower (Kd.S_new' ho33 (Kd.S_lt (vS_ HO_5.out))) (below_size (by repeat (first | (with_reducible first | exact HB.out | apply below_alloc | apply pw_below_drewN | apply below_drew1 | refine below_set ?_ (IsS106.ge HI468.out)) | exact HB.out)))); replace HO_5 := A_ (Kd.S_elder' (vS_ HO_5.out) (kb_ ho33) hb); replace HB := A_ (below_step (by repeat (first | (with_reducible first | exact HB.out | apply below_alloc | apply pw_below_drewN | apply below_drew1 | refine below_set ?_ (IsS106.ge HI468.out)) | exact HB.out)) hb); replace HI468 := A_ (IsS106.below (by repeat (first | (with_reducible first | exact HI468.out | apply IsS106.alloc | apply IsS106.drewN | apply IsS106.drew | apply IsS106.set_0 | apply IsS106.set_1 | apply IsS106.set_2) | exact HI468.out)) hb); clear hb ho33))
         go_ret2
         exact ⟨_, rr_, by (with_reducible repeat (first | apply Kd.S_alloc | apply Kd.S_drewN | apply Kd.S_drew)); exact Kd.S_mono HO477.out (fun _ hk => trivial), by repeat (first | (with_reducible first | exact HB.out | apply below_alloc | apply pw_below_drewN | apply below_drew1 | refine below_set ?_ (IsS106.ge HI468.out)) | exact HB.out)⟩
set_option maxHeartbeats 8000000
set_option maxRecDepth 100000
attribute [local go_sem high] eqA79
mutual
def spec_l14Same.l0 : Nat → List (List (S79)) → List (List (S79)) → Int → Option (Bool)
 | 0, _, _, _ => none
 | k + 1, x0, x1, x5 => if x5 < (x0.length : Int) then (if 0 ≤ x5 then (if x5 < (x1.length : Int) then (if ((rd_L16 x0 x5).length : Int) = ((rd_L16 x1 x5).length : Int) then (spec_l14Same.l1 k x0 x1 x5 0) else (some false)) else (none)) else (none)) else (some true)
def spec_l14Same.l1 : Nat → List (List (S79)) → List (List (S79)) → Int → Int → Option (Bool)
 | 0, _, _, _, _ => none
 | k + 1, x0, x1, x5, x6 => if 0 ≤ x5 then (if x5 < (x0.length : Int) then (if x6 < ((rd_L16 x0 x5).length : Int) then (if 0 ≤ x6 then (if x5 < (x1.length : Int) then (if x6 < ((rd_L16 x1 x5).length : Int) then (if (!(((rd_T79 (rd_L16 x0 x5) x6).f0) == ((rd_T79 (rd_L16 x1 x5) x6).f0)) || (!(((rd_T79 (rd_L16 x0 x5) x6).f1) == ((rd_T79 (rd_L16 x1 x5) x6).f1)) || (!((((rd_T79 (rd_L16 x0 x5) x6).f2).toList) == (((rd_T79 (rd_L16 x1 x5) x6).f2).toList))))) = true then (some false) else (spec_l14Same.l1 k x0 x1 x5 (wrap64 (x6 + 1)))) else (none)) else (none)) else (none)) else (spec_l14Same.l0 k x0 x1 (wrap64 (x5 + 1)))) else (none)) else (none)
end
def spec_l14Same.f (k : Nat) (l0 : List (List (S79))) (l1 : List (List (S79))) : Option (Bool) := if (l0.length : Int) = (l1.length : Int) then (spec_l14Same.l0 k l0 l1 0) else (some false)
theorem spec_l14Same.calls (k : Nat) (A0 : Option Addr) (c0 : Nat) (l0 : List (List (S79))) (A1 : Option Addr) (c1 : Nat) (l1 : List (List (S79))) (r : Bool) (w : World) (hr0 : Kd.C (Kd.slice 79 k79) w A0 l0.length l0) (hc0 : l0.length ≤ c0) (hr1 : Kd.C (Kd.slice 79 k79) w A1 l1.length l1) (hc1 : l1.length ≤ c1) (h : spec_l14Same.f k l0 l1 = some r) :
 Calls Tryd.prog 52 #[.slice A0 l0.length c0, .slice A1 l1.length c1] w fun e w' => e = .returned (.bool r) ∧ Drawn0 w w' := by
 have hu79 := Tryd.underlying79
 have HR0 := A_ hr0
 have HC0 := A_ hc0
 clear hr0 hc0
 have HR1 := A_ hr1
 have HC1 := A_ hc1
 clear hr1 hc1
 have H : (if (l0.length : Int) = (l1.length : Int) then (spec_l14Same.l0 k l0 l1 0) else (some false)) = some r := h
 clear h
 by_cases c3 : (l0.length : Int) = (l1.length : Int)
 rotate_left
 · rw [if_neg c3] at H
   have c3b0 : ((l0.length : Int) == (l1.length : Int)) = false := beq_eq_false_iff_ne.mpr c3
   have c3b1 : ((l0.length : Int) != (l1.length : Int)) = true := bne_iff_ne.mpr c3
   have c3b2 : (l0.length == l1.length) = false := by first | simpa using c3 | (simp at c3 ⊢; omega)
   obtain rfl := si_ H
   go_enter Tryd.func52, Tryd.ntmps52
   go_wp2
   repeat (go_quiet (fail); try go_wp2)
   go_ret
   exact ⟨rs_, dr_⟩
 rw [if_pos c3] at H
 have c3b0 : ((l0.length : Int) == (l1.length : Int)) = true := beq_iff_eq.mpr c3
 have c3b1 : ((l0.length : Int) != (l1.length : Int)) = false := bne_eq_false_iff_eq.mpr c3
 have c3b2 : (l0.length == l1.length) = true := by first | simpa using c3 | (simp at c3 ⊢; omega)
 clear c3
 have H' := A_ H
 clear H
 go_enter Tryd.func52, Tryd.ntmps52
 go_wp2
 repeat (go_quiet (fail); try go_wp2)
 go_loopg [5] k (fun kq v5 w' => ∃ (x5_1 : Int), v5 = .int .i64 x5_1 ∧ Aside0 (spec_l14Same.l0 kq l0 l1 x5_1 = some r) ∧ Aside0 (kq ≤ k) ∧ Drawn0 w w')
 case atStart => exact ⟨(0), rs_, H', ⟨Nat.le_refl _⟩, dr_⟩
 case round =>
  clear H'
  try clear c1
  try clear p2
  try clear c3
  try clear c3b0
  try clear c3b1
  try clear c3b2
  obtain ⟨x5_1, rfl, HA, HK1, ⟨m1, rfl⟩⟩ := hrel
  cases gk with
  | zero => exact absurd HA.out (by simp [spec_l14Same.l0])
  | succ k1 =>
   have H := HA.out
   clear HA
   simp only [spec_l14Same.l0] at H
   by_cases c4 : x5_1 < (l0.length : Int)
   rotate_left
   · rw [if_neg c4] at H
     have c4b0 : decide (x5_1 < (l0.length : Int)) = false := decide_eq_false c4
     clear c4
     obtain rfl := si_ H
     go_wp2
     repeat (go_quiet (fail); try go_wp2)
     go_ret
     exact ⟨rs_, dr_⟩
   rw [if_pos c4] at H
   have c4b0 : decide (x5_1 < (l0.length : Int)) = true := decide_eq_true c4
   clear c4
   by_cases c5 : 0 ≤ x5_1
   rotate_left
   · exact absurd H (by rw [if_neg c5]; simp)
   rw [if_pos c5] at H
   have c5b0 : decide (0 ≤ x5_1) = true := decide_eq_true c5
   clear c5
   by_cases c6 : x5_1 < (l1.length : Int)
   rotate_left
   · exact absurd H (by rw [if_neg c6]; simp)
   rw [if_pos c6] at H
   have c6b0 : decide (x5_1 < (l1.length : Int)) = true := decide_eq_true c6
   clear c6
   by_cases c7 : ((rd_L16 l0 x5_1).length : Int) = ((rd_L16 l1 x5_1).length : Int)
   rotate_left
   · rw [if_neg c7] at H
     have c7b0 : (((rd_L16 l0 x5_1).length : Int) == ((rd_L16 l1 x5_1).length : Int)) = false := beq_eq_false_iff_ne.mpr c7
     have c7b1 : (((rd_L16 l0 x5_1).length : Int) != ((rd_L16 l1 x5_1).length : Int)) = true := bne_iff_ne.mpr c7
     have c7b2 : ((rd_L16 l0 x5_1).length == (rd_L16 l1 x5_1).length) = false := by first | simpa using c7 | (simp at c7 ⊢; omega)
     obtain rfl := si_ H
     have p491 : 0 ≤ (x5_1 : Int) := od_
     have q491 : x5_1 < (l0.length : Int) := od_
     obtain ⟨ad491, A491_0, c491_0, e491, hx491_0, hl491_0, hi491_0⟩ := at_L16 HR0.out x5_1 p491 q491
     cases e491
     have HR491_0 := A_ hi491_0
     have HC491_0 := A_ hl491_0
     clear hi491_0 hl491_0
     replace p491 := eq_true p491
     replace q491 := eq_true q491
     have p492 : 0 ≤ (x5_1 : Int) := od_
     have q492 : x5_1 < (l1.length : Int) := od_
     obtain ⟨ad492, A492_0, c492_0, e492, hx492_0, hl492_0, hi492_0⟩ := at_L16 HR1.out x5_1 p492 q492
     cases e492
     have HR492_0 := A_ hi492_0
     have HC492_0 := A_ hl492_0
     clear hi492_0 hl492_0
     replace p492 := eq_true p492
     replace q492 := eq_true q492
     go_wp2
     repeat (go_quiet (fail); try go_wp2)
     go_ret
     exact ⟨rs_, dr_⟩
   rw [if_pos c7] at H
   have c7b0 : (((rd_L16 l0 x5_1).length : Int) == ((rd_L16 l1 x5_1).length : Int)) = true := beq_iff_eq.mpr c7
   have c7b1 : (((rd_L16 l0 x5_1).length : Int) != ((rd_L16 l1 x5_1).length : Int)) = false := bne_eq_false_iff_eq.mpr c7
   have c7b2 : ((rd_L16 l0 x5_1).length == (rd_L16 l1 x5_1).length) = true := by first | simpa using c7 | (simp at c7 ⊢; omega)
   clear c7
   have H' := A_ H
   clear H
   have p491 : 0 ≤ (x5_1 : Int) := od_
   have q491 : x5_1 < (l0.length : Int) := od_
   obtain ⟨ad491, A491_0, c491_0, e491, hx491_0, hl491_0, hi491_0⟩ := at_L16 HR0.out x5_1 p491 q491
   cases e491
   have HR491_0 := A_ hi491_0
   have HC491_0 := A_ hl491_0
   clear hi491_0 hl491_0
   replace p491 := eq_true p491
   replace q491 := eq_true q491
   have p492 : 0 ≤ (x5_1 : Int) := od_
   have q492 : x5_1 < (l1.length : Int) := od_
   obtain ⟨ad492, A492_0, c492_0, e492, hx492_0, hl492_0, hi492_0⟩ := at_L16 HR1.out x5_1 p492 q492
   cases e492
   have HR492_0 := A_ hi492_0
   have HC492_0 := A_ hl492_0
   clear hi492_0 hl492_0
   replace p492 := eq_true p492
   replace q492 := eq_true q492
   go_wp2
   repeat (go_quiet (fail); try go_wp2)
   go_loopg [6] k1 (fun kq v6 w' => ∃ (x6_2 : Int), v6 = .int .i64 x6_2 ∧ Aside0 (spec_l14Same.l1 kq l0 l1 x5_1 x6_2 = some r) ∧ Aside0 (kq ≤ k1) ∧ Drawn0 w w')
   case atStart => exact ⟨(0), rs_, H', ⟨Nat.le_refl _⟩, dr_⟩
   case round =>
    clear H'
    try clear c1
    try clear p2
    try clear c3
    try clear c3b0
    try clear c3b1
    try clear c3b2
    try clear c4
    try clear c4b0
    try clear p4
    try clear q4
    try clear hx4
    try clear c5
    try clear c5b0
    try clear c6
    try clear c6b0
    try clear c7
    try clear c7b0
    try clear c7b1
    try clear c7b2
    try clear hx491_0
    try clear hx492_0
    try clear p2
    try clear p491
    try clear p492
    try clear q491
    try clear q492
    obtain ⟨x6_2, rfl, HA, HK2, ⟨m2, rfl⟩⟩ := hrel
    cases gk with
    | zero => exact absurd HA.out (by simp [spec_l14Same.l1])
    | succ k2 =>
     have H := HA.out
     clear HA
     simp only [spec_l14Same.l1] at H
     by_cases c8 : 0 ≤ x5_1
     rotate_left
     · exact absurd H (by rw [if_neg c8]; simp)
     rw [if_pos c8] at H
     have c8b0 : decide (0 ≤ x5_1) = true := decide_eq_true c8
     clear c8
     by_cases c9 : x5_1 < (l0.length : Int)
     rotate_left
     · exact absurd H (by rw [if_neg c9]; simp)
     rw [if_pos c9] at H
     have c9b0 : decide (x5_1 < (l0.length : Int)) = true := decide_eq_true c9
     clear c9
     by_cases c10 : x6_2 < ((rd_L16 l0 x5_1).length : Int)
     rotate_left
     · rw [if_neg c10] at H
       have c10b0 : decide (x6_2 < ((rd_L16 l0 x5_1).length : Int)) = false := decide_eq_false c10
       clear c10
       have H' := A_ H
       clear H
       have p493 : 0 ≤ (x5_1 : Int) := od_
       have q493 : x5_1 < (l0.length : Int) := od_
       obtain ⟨ad493, A493_0, c493_0, e493, hx493_0, hl493_0, hi493_0⟩ := at_L16 HR0.out x5_1 p493 q493
       obtain rfl : ad491 = ad493 := (by injection e493)
       have HR493_0 := A_ hi493_0
       have HC493_0 := A_ hl493_0
       clear hi493_0 hl493_0
       replace p493 := eq_true p493
       replace q493 := eq_true q493
       go_wp2
       repeat (go_quiet (fail); try go_wp2)
       go_roundg k2
       case measure => have := HK1.out; have := HK2.out; omega
       case rel => exact ⟨(wrap64 (x5_1 + 1)), rs_, H', ⟨by have := HK1.out; have := HK2.out; omega⟩, dr_⟩
     rw [if_pos c10] at H
     have c10b0 : decide (x6_2 < ((rd_L16 l0 x5_1).length : Int)) = true := decide_eq_true c10
     clear c10
     by_cases c11 : 0 ≤ x6_2
     rotate_left
     · exact absurd H (by rw [if_neg c11]; simp)
     rw [if_pos c11] at H
     have c11b0 : decide (0 ≤ x6_2) = true := decide_eq_true c11
     clear c11
     by_cases c12 : x5_1 < (l1.length : Int)
     rotate_left
     · exact absurd H (by rw [if_neg c12]; simp)
     rw [if_pos c12] at H
     have c12b0 : decide (x5_1 < (l1.length : Int)) = true := decide_eq_true c12
     clear c12
     by_cases c13 : x6_2 < ((rd_L16 l1 x5_1).length : Int)
     rotate_left
     · exact absurd H (by rw [if_neg c13]; simp)
     rw [if_pos c13] at H
     have c13b0 : decide (x6_2 < ((rd_L16 l1 x5_1).length : Int)) = true := decide_eq_true c13
     clear c13
     by_cases c14 : (!(((rd_T79 (rd_L16 l0 x5_1) x6_2).f0) == ((rd_T79 (rd_L16 l1 x5_1) x6_2).f0)) || (!(((rd_T79 (rd_L16 l0 x5_1) x6_2).f1) == ((rd_T79 (rd_L16 l1 x5_1) x6_2).f1)) || (!((((rd_T79 (rd_L16 l0 x5_1) x6_2).f2).toList) == (((rd_T79 (rd_L16 l1 x5_1) x6_2).f2).toList))))) = true
     · rw [if_pos c14] at H
       have c14b0 : (!(((rd_T79 (rd_L16 l0 x5_1) x6_2).f0) == ((rd_T79 (rd_L16 l1 x5_1) x6_2).f0)) || (!(((rd_T79 (rd_L16 l0 x5_1) x6_2).f1) == ((rd_T79 (rd_L16 l1 x5_1) x6_2).f1)) || (!((((rd_T79 (rd_L16 l0 x5_1) x6_2).f2).toList) == (((rd_T79 (rd_L16 l1 x5_1) x6_2).f2).toList))))) = true := c14
       clear c14
       obtain rfl := si_ H
       have p493 : 0 ≤ (x5_1 : Int) := od_
       have q493 : x5_1 < (l0.length : Int) := od_
       obtain ⟨ad493, A493_0, c493_0, e493, hx493_0, hl493_0, hi493_0⟩ := at_L16 HR0.out x5_1 p493 q493
       obtain rfl : ad491 = ad493 := (by injection e493)
       have HR493_0 := A_ hi493_0
       have HC493_0 := A_ hl493_0
       clear hi493_0 hl493_0
       replace p493 := eq_true p493
       replace q493 := eq_true q493
       have p494 : 0 ≤ (x5_1 : Int) := od_
       have q494 : x5_1 < (l0.length : Int) := od_
       obtain ⟨ad494, A494_0, c494_0, e494, hx494_0, hl494_0, hi494_0⟩ := at_L16 HR0.out x5_1 p494 q494
       obtain rfl : ad491 = ad494 := (by injection e494)
       have HR494_0 := A_ hi494_0
       have HC494_0 := A_ hl494_0
       clear hi494_0 hl494_0
       replace p494 := eq_true p494
       replace q494 := eq_true q494
       have ea_ := Option.some.inj (hx493_0.symm.trans hx494_0)
       injection ea_ with ea_ en_ ec_
       subst ea_
       subst ec_
       clear en_
       have p495 : 0 ≤ (x6_2 : Int) := od_
       have q495 : x6_2 < ((rd_L16 l0 x5_1).length : Int) := od_
       obtain ⟨ad495, e495, hx495_0, hx495_1, hx495_2⟩ := at_T79 HR494_0.out x6_2 p495 q495
       cases e495
       replace p495 := eq_true p495
       replace q495 := eq_true q495
       have p496 : 0 ≤ (x5_1 : Int) := od_
       have q496 : x5_1 < (l1.length : Int) := od_
       obtain ⟨ad496, A496_0, c496_0, e496, hx496_0, hl496_0, hi496_0⟩ := at_L16 HR1.out x5_1 p496 q496
       obtain rfl : ad492 = ad496 := (by injection e496)
       have HR496_0 := A_ hi496_0
       have HC496_0 := A_ hl496_0
       clear hi496_0 hl496_0
       replace p496 := eq_true p496
       replace q496 := eq_true q496
       have p497 : 0 ≤ (x6_2 : Int) := od_
       have q497 : x6_2 < ((rd_L16 l1 x5_1).length : Int) := od_
       obtain ⟨ad497, e497, hx497_0, hx497_1, hx497_2⟩ := at_T79 HR496_0.out x6_2 p497 q497
       cases e497
       replace p497 := eq_true p497
       replace q497 := eq_true q497
       go_wp2
       repeat (go_quiet (fail); try go_wp2)
       go_ret
       exact ⟨rs_, dr_⟩
     rw [if_neg c14] at H
     have c14b0 : (!(((rd_T79 (rd_L16 l0 x5_1) x6_2).f0) == ((rd_T79 (rd_L16 l1 x5_1) x6_2).f0)) || (!(((rd_T79 (rd_L16 l0 x5_1) x6_2).f1) == ((rd_T79 (rd_L16 l1 x5_1) x6_2).f1)) || (!((((rd_T79 (rd_L16 l0 x5_1) x6_2).f2).toList) == (((rd_T79 (rd_L16 l1 x5_1) x6_2).f2).toList))))) = false := by simpa using c14
     clear c14
     have H' := A_ H
     clear H
     have p493 : 0 ≤ (x5_1 : Int) := od_
     have q493 : x5_1 < (l0.length : Int) := od_
     obtain ⟨ad493, A493_0, c493_0, e493, hx493_0, hl493_0, hi493_0⟩ := at_L16 HR0.out x5_1 p493 q493
     obtain rfl : ad491 = ad493 := (by injection e493)
     have HR493_0 := A_ hi493_0
     have HC493_0 := A_ hl493_0
     clear hi493_0 hl493_0
     replace p493 := eq_true p493
     replace q493 := eq_true q493
     have p494 : 0 ≤ (x5_1 : Int) := od_
     have q494 : x5_1 < (l0.length : Int) := od_
     obtain ⟨ad494, A494_0, c494_0, e494, hx494_0, hl494_0, hi494_0⟩ := at_L16 HR0.out x5_1 p494 q494
     obtain rfl : ad491 = ad494 := (by injection e494)
     have HR494_0 := A_ hi494_0
     have HC494_0 := A_ hl494_0
     clear hi494_0 hl494_0
     replace p494 := eq_true p494
     replace q494 := eq_true q494
     have ea_ := Option.some.inj (hx493_0.symm.trans hx494_0)
     injection ea_ with ea_ en_ ec_
     subst ea_
     subst ec_
     clear en_
     have p495 : 0 ≤ (x6_2 : Int) := od_
     have q495 : x6_2 < ((rd_L16 l0 x5_1).length : Int) := od_
     obtain ⟨ad495, e495, hx495_0, hx495_1, hx495_2⟩ := at_T79 HR494_0.out x6_2 p495 q495
     cases e495
     replace p495 := eq_true p495
     replace q495 := eq_true q495
     have p496 : 0 ≤ (x5_1 : Int) := od_
     have q496 : x5_1 < (l1.length : Int) := od_
     obtain ⟨ad496, A496_0, c496_0, e496, hx496_0, hl496_0, hi496_0⟩ := at_L16 HR1.out x5_1 p496 q496
     obtain rfl : ad492 = ad496 := (by injection e496)
     have HR496_0 := A_ hi496_0
     have HC496_0 := A_ hl496_0
     clear hi496_0 hl496_0
     replace p496 := eq_true p496
     replace q496 := eq_true q496
     have p497 : 0 ≤ (x6_2 : Int) := od_
     have q497 : x6_2 < ((rd_L16 l1 x5_1).length : Int) := od_
     obtain ⟨ad497, e497, hx497_0, hx497_1, hx497_2⟩ := at_T79 HR496_0.out x6_2 p497 q497
     cases e497
     replace p497 := eq_true p497
     replace q497 := eq_true q497
     go_wp2
     repeat (go_quiet (fail); try go_wp2)
     go_roundg k2
     case measure => have := HK1.out; have := HK2.out; omega
     case rel => exact ⟨(wrap64 (x6_2 + 1)), rs_, H', ⟨by have := HK1.out; have := HK2.out; omega⟩, dr_⟩
mutual
def spec_IfText.l0 : Nat → List (List (S79)) → ByteArray → Int → Option (ByteArray)
 | 0, _, _, _ => none
 | k + 1, x0, x3, x4 => if x4 < (x0.length : Int) then (if x4 > 0 then (if x3.size + 1 ≤ 9223372036854775807 then (spec_IfText.j1 k x0 (x3 ++ (⟨#[32]⟩ : ByteArray)) x4) else (none)) else (spec_IfText.j1 k x0 x3 x4)) else ((spec_ParseIf.f k x3).bind fun bt505 => (if bt505.2 = true then ((spec_l14Same.f k bt505.1 x0).bind fun t509 => (if t509 = true then (some x3) else (some (⟨#[]⟩ : ByteArray)))) else (some (⟨#[]⟩ : ByteArray))))
def spec_IfText.j1 : Nat → List (List (S79)) → ByteArray → Int → Option (ByteArray)
 | 0, _, _, _ => none
 | k + 1, x0, x3, x4 => if x3.size + 1 ≤ 9223372036854775807 then (spec_IfText.l1 k x0 (x3 ++ (⟨#[40]⟩ : ByteArray)) x4 0) else (none)
def spec_IfText.l1 : Nat → List (List (S79)) → ByteArray → Int → Int → Option (ByteArray)
 | 0, _, _, _, _ => none
 | k + 1, x0, x3, x4, x5 => if 0 ≤ x4 then (if x4 < (x0.length : Int) then (if x5 < ((rd_L16 x0 x4).length : Int) then (if x5 > 0 then (if x3.size + 1 ≤ 9223372036854775807 then (if 0 ≤ x5 then ((spec_l14OneText.f k ((rd_T79 (rd_L16 x0 x4) x5).f0) ((rd_T79 (rd_L16 x0 x4) x5).f1) ((rd_T79 (rd_L16 x0 x4) x5).f2)).bind fun t501 => (if (x3 ++ (⟨#[32]⟩ : ByteArray)).size + t501.size ≤ 9223372036854775807 then (spec_IfText.l1 k x0 ((x3 ++ (⟨#[32]⟩ : ByteArray)) ++ t501) x4 (wrap64 (x5 + 1))) else (none))) else (none)) else (none)) else (if 0 ≤ x5 then ((spec_l14OneText.f k ((rd_T79 (rd_L16 x0 x4) x5).f0) ((rd_T79 (rd_L16 x0 x4) x5).f1) ((rd_T79 (rd_L16 x0 x4) x5).f2)).bind fun t504 => (if x3.size + t504.size ≤ 9223372036854775807 then (spec_IfText.l1 k x0 (x3 ++ t504) x4 (wrap64 (x5 + 1))) else (none))) else (none))) else (if x3.size + 1 ≤ 9223372036854775807 then (spec_IfText.l0 k x0 (x3 ++ (⟨#[41]⟩ : ByteArray)) (wrap64 (x4 + 1))) else (none))) else (none)) else (none)
end
def spec_IfText.f (k : Nat) (l0 : List (List (S79))) : Option (ByteArray) := spec_IfText.l0 k l0 (⟨#[]⟩ : ByteArray) 0
theorem spec_IfText.calls (k : Nat) (A0 : Option Addr) (c0 : Nat) (l0 : List (List (S79))) (r : ByteArray) (w : World) (hr0 : Kd.C (Kd.slice 79 k79) w A0 l0.length l0) (hc0 : l0.length ≤ c0) (h : spec_IfText.f k l0 = some r) :
 Calls Tryd.prog 25 #[.slice A0 l0.length c0] w fun e w' => e = .returned (.string r) ∧ Below w.heap.size w w' := by
 have hu79 := Tryd.underlying79
 have HR0 := A_ hr0
 have HC0 := A_ hc0
 clear hr0 hc0
 have HB := A_ (Below.refl w.heap.size w)
 have H : (spec_IfText.l0 k l0 (⟨#[]⟩ : ByteArray) 0) = some r := h
 clear h
 have H' := A_ H
 clear H
 go_enter Tryd.func25, Tryd.ntmps25
 go_wp2
 go_loopg [3, 4] k (fun kq v3 v4 w' => ∃ (x3_1 : ByteArray) (x4_1 : Int), v3 = .string x3_1 ∧ v4 = .int .i64 x4_1 ∧ Aside0 (spec_IfText.l0 kq l0 x3_1 x4_1 = some r) ∧ Aside0 (kq ≤ k) ∧ Aside0 (Below w.heap.size w w'))
 case atStart => exact ⟨((⟨#[]⟩ : ByteArray)), (0), rs_, rs_, H', ⟨Nat.le_refl _⟩, ⟨bB_⟩⟩
 case round =>
  clear H'
  obtain ⟨x3_1, x4_1, rfl, rfl, HA, HK1, HB⟩ := hrel
  cases gk with
  | zero => exact absurd HA.out (by simp [spec_IfText.l0])
  | succ k1 =>
   have H := HA.out
   clear HA
   simp only [spec_IfText.l0] at H
   by_cases c2 : x4_1 < (l0.length : Int)
   rotate_left
   · rw [if_neg c2] at H
     have c2b0 : decide (x4_1 < (l0.length : Int)) = false := decide_eq_false c2
     clear c2
     obtain ⟨⟨t505, t506⟩, A21, H⟩ := bo_ H
     (try dsimp only at H)
     by_cases c22 : t506 = true
     · subst c22
       rw [if_pos rfl] at H
       obtain ⟨t509, A23, H⟩ := bo_ H
       (try dsimp only at H)
       by_cases c24 : t509 = true
       · subst c24
         rw [if_pos rfl] at H
         obtain rfl := si_ H
         go_wp2_with (first | ((with_reducible refine gc_ (f := 51) rfl ?_); refine gL_ (some 47) Tryd.func51 #[.string x3_1] ?_; (with_reducible refine (spec_ParseIf.calls k1 x3_1 t505 true _ A21.out).mono ?_); rintro e w25 ⟨v507, rfl, ho0, hb⟩; refine ⟨_, rfl, ?_⟩; have HO508 := A_ (Kd.S_lower ho0 (below_size bB_)); replace HB := A_ (below_step bB_ hb); (try clear hb); (try clear ho0); obtain ⟨Ao26, co26, eo26⟩ := Kd.S_slice HO508.out; subst eo26) | (go_at_call 52; (with_reducible refine (spec_l14Same.calls k1 _ _ t505 _ _ l0 true _ ?s1 ?s2 ?s3 ?s4 A23.out).mono ?_); (case s1 => exact cC_ (Kd.S_reads' HO508.out).2.2); (case s2 => exact (Kd.S_reads' HO508.out).2.1); (case s3 => exact cC_ (Kd.C_below HR0.out HB.out)); (case s4 => exact HC0.out); rintro e w' ⟨rfl, ⟨nd, rfl⟩⟩))
         go_ret
         exact ⟨rr_, bB_⟩
       · replace c24 := Bool.eq_false_iff.mpr c24
         subst c24
         rw [if_neg nf_] at H
         obtain rfl := si_ H
         go_wp2_with (first | ((with_reducible refine gc_ (f := 51) rfl ?_); refine gL_ (some 47) Tryd.func51 #[.string x3_1] ?_; (with_reducible refine (spec_ParseIf.calls k1 x3_1 t505 true _ A21.out).mono ?_); rintro e w27 ⟨v507, rfl, ho0, hb⟩; refine ⟨_, rfl, ?_⟩; have HO508 := A_ (Kd.S_lower ho0 (below_size bB_)); replace HB := A_ (below_step bB_ hb); (try clear hb); (try clear ho0); obtain ⟨Ao28, co28, eo28⟩ := Kd.S_slice HO508.out; subst eo28) | (go_at_call 52; (with_reducible refine (spec_l14Same.calls k1 _ _ t505 _ _ l0 false _ ?s1 ?s2 ?s3 ?s4 A23.out).mono ?_); (case s1 => exact cC_ (Kd.S_reads' HO508.out).2.2); (case s2 => exact (Kd.S_reads' HO508.out).2.1); (case s3 => exact cC_ (Kd.C_below HR0.out HB.out)); (case s4 => exact HC0.out); rintro e w' ⟨rfl, ⟨nd, rfl⟩⟩))
         go_ret
         exact ⟨rr_, bB_⟩
     · replace c22 := Bool.eq_false_iff.mpr c22
       subst c22
       rw [if_neg nf_] at H
       obtain rfl := si_ H
       go_wp2_with (first | ((with_reducible refine gc_ (f := 51) rfl ?_); refine gL_ (some 47) Tryd.func51 #[.string x3_1] ?_; (with_reducible refine (spec_ParseIf.calls k1 x3_1 t505 false _ A21.out).mono ?_); rintro e w29 ⟨v507, rfl, ho0, hb⟩; refine ⟨_, rfl, ?_⟩; have HO508 := A_ (Kd.S_lower ho0 (below_size bB_)); replace HB := A_ (below_step bB_ hb); (try clear hb); (try clear ho0)))
       go_ret
       exact ⟨rr_, bB_⟩
   rw [if_pos c2] at H
   have c2b0 : decide (x4_1 < (l0.length : Int)) = true := decide_eq_true c2
   clear c2
   have HC3 := A_ H
   clear H
   go_upto_if 15 with (fail)
   go_cut [3] (fun v3 wc => ∃ (kq : Nat) (x3_2 : ByteArray), v3 = .string x3_2 ∧ Aside0 (spec_IfText.j1 kq l0 x3_2 x4_1 = some r) ∧ Aside0 (kq ≤ k1) ∧ Aside0 (Below w.heap.size w wc))
   case first =>
    have H := HC3.out
    clear HC3
    by_cases c4 : x4_1 > 0
    rotate_left
    · rw [if_neg c4] at H
      have c4b0 : decide (0 < x4_1) = false := decide_eq_false c4
      clear c4
      (first | rw [c4b0] | (simp only [i64_w, i32_w]; rw [c4b0]) | skip)
      have H' := A_ H
      clear H
      go_wp2
      go_meet
      case rel => exact ⟨_, (x3_1), rs_, H', ⟨by have := HK1.out; first | omega | exact Nat.le_refl _⟩, ⟨bB_⟩⟩
    rw [if_pos c4] at H
    have c4b0 : decide (0 < x4_1) = true := decide_eq_true c4
    clear c4
    (first | rw [c4b0] | (simp only [i64_w, i32_w]; rw [c4b0]) | skip)
    by_cases c5 : x3_1.size + 1 ≤ 9223372036854775807
    rotate_left
    · exact absurd H (by rw [if_neg c5]; simp)
    rw [if_pos c5] at H
    have c5b0 := eq_true c5
    have c5b1 : decide (x3_1.size + 1 ≤ 9223372036854775807) = true := decide_eq_true c5
    try have c5b2 : (9223372036854775807 < x3_1.size + 1) = False := eq_false (Nat.not_lt.2 c5)
    have H' := A_ H
    clear H
    go_wp2
    go_meet
    case rel => exact ⟨_, (x3_1 ++ (⟨#[32]⟩ : ByteArray)), rs_, H', ⟨by have := HK1.out; first | omega | exact Nat.le_refl _⟩, ⟨bB_⟩⟩
   case rest =>
    clear HC3
    try clear c2
    try clear c2b0
    try clear p2
    try clear c4
    try clear c4b0
    try clear c5
    try clear c5b0
    try clear c5b1
    try clear c5b2
    obtain ⟨kq, x3_2, rfl, HA, HJ2, HB⟩ := hcut
    cases kq with
    | zero => exact absurd HA.out (by simp [spec_IfText.j1])
    | succ kj2 =>
     have H := HA.out
     clear HA
     simp only [spec_IfText.j1] at H
     by_cases c6 : x3_2.size + 1 ≤ 9223372036854775807
     rotate_left
     · exact absurd H (by rw [if_neg c6]; simp)
     rw [if_pos c6] at H
     have c6b0 := eq_true c6
     have c6b1 : decide (x3_2.size + 1 ≤ 9223372036854775807) = true := decide_eq_true c6
     try have c6b2 : (9223372036854775807 < x3_2.size + 1) = False := eq_false (Nat.not_lt.2 c6)
     have H' := A_ H
     clear H
     go_wp2
     go_loopg [3, 5] kj2 (fun kq v3 v5 w' => ∃ (x3_3 : ByteArray) (x5_3 : Int), v3 = .string x3_3 ∧ v5 = .int .i64 x5_3 ∧ Aside0 (spec_IfText.l1 kq l0 x3_3 x4_1 x5_3 = some r) ∧ Aside0 (kq ≤ kj2) ∧ Aside0 (Below w.heap.size w w'))
     case atStart => exact ⟨(x3_2 ++ (⟨#[40]⟩ : ByteArray)), (0), rs_, rs_, H', ⟨Nat.le_refl _⟩, ⟨bB_⟩⟩
     case round =>
      clear H'
      try clear c2
      try clear c2b0
      try clear p2
      try clear c4
      try clear c4b0
      try clear c5
      try clear c5b0
      try clear c5b1
      try clear c5b2
      try clear c6
      try clear c6b0
      try clear c6b1
      try clear c6b2
      try clear p2
      obtain ⟨x3_3, x5_3, rfl, rfl, HA, HK3, HB⟩ := hrel
      cases gk with
      | zero => exact absurd HA.out (by simp [spec_IfText.l1])
      | succ k3 =>
       have H := HA.out
       clear HA
       simp only [spec_IfText.l1] at H
       by_cases c7 : 0 ≤ x4_1
       rotate_left
       · exact absurd H (by rw [if_neg c7]; simp)
       rw [if_pos c7] at H
       have c7b0 : decide (0 ≤ x4_1) = true := decide_eq_true c7
       clear c7
       by_cases c8 : x4_1 < (l0.length : Int)
       rotate_left
       · exact absurd H (by rw [if_neg c8]; simp)
       rw [if_pos c8] at H
       have c8b0 : decide (x4_1 < (l0.length : Int)) = true := decide_eq_true c8
       clear c8
       by_cases c9 : x5_3 < ((rd_L16 l0 x4_1).length : Int)
       rotate_left
       · rw [if_neg c9] at H
         have c9b0 : decide (x5_3 < ((rd_L16 l0 x4_1).length : Int)) = false := decide_eq_false c9
         clear c9
         by_cases c20 : x3_3.size + 1 ≤ 9223372036854775807
         rotate_left
         · exact absurd H (by rw [if_neg c20]; simp)
         rw [if_pos c20] at H
         have c20b0 := eq_true c20
         have c20b1 : decide (x3_3.size + 1 ≤ 9223372036854775807) = true := decide_eq_true c20
         try have c20b2 : (9223372036854775807 < x3_3.size + 1) = False := eq_false (Nat.not_lt.2 c20)
         have H' := A_ H
         clear H
         have p498 : 0 ≤ (x4_1 : Int) := od_
         have q498 : x4_1 < (l0.length : Int) := od_
         obtain ⟨ad498, A498_0, c498_0, e498, hx498_0, hl498_0, hi498_0⟩ := at_L16 HR0.out x4_1 p498 q498
         cases e498
         replace hx498_0 := bc_ HB.out hx498_0
         have HR498_0 := A_ hi498_0
         have HC498_0 := A_ hl498_0
         clear hi498_0 hl498_0
         replace p498 := eq_true p498
         replace q498 := eq_true q498
         go_wp2
         go_roundg k3
         case measure => have := HK1.out; have := HJ2.out; have := HK3.out; omega
         case rel => exact ⟨(x3_3 ++ (⟨#[41]⟩ : ByteArray)), (wrap64 (x4_1 + 1)), rs_, rs_, H', ⟨by have := HK1.out; have := HJ2.out; have := HK3.out; omega⟩, ⟨bB_⟩⟩
       rw [if_pos c9] at H
       have c9b0 : decide (x5_3 < ((rd_L16 l0 x4_1).length : Int)) = true := decide_eq_true c9
       clear c9
       by_cases c10 : x5_3 > 0
       rotate_left
       · rw [if_neg c10] at H
         have c10b0 : decide (0 < x5_3) = false := decide_eq_false c10
         clear c10
         by_cases c16 : 0 ≤ x5_3
         rotate_left
         · exact absurd H (by rw [if_neg c16]; simp)
         rw [if_pos c16] at H
         have c16b0 : decide (0 ≤ x5_3) = true := decide_eq_true c16
         clear c16
         obtain ⟨t504, A17, H⟩ := bo_ H
         (try dsimp only at H)
         by_cases c18 : x3_3.size + t504.size ≤ 9223372036854775807
         rotate_left
         · exact absurd H (by rw [if_neg c18]; simp)
         rw [if_pos c18] at H
         have c18b0 := eq_true c18
         have c18b1 : decide (x3_3.size + t504.size ≤ 9223372036854775807) = true := decide_eq_true c18
         try have c18b2 : (9223372036854775807 < x3_3.size + t504.size) = False := eq_false (Nat.not_lt.2 c18)
         have H' := A_ H
         clear H
         have p498 : 0 ≤ (x4_1 : Int) := od_
         have q498 : x4_1 < (l0.length : Int) := od_
         obtain ⟨ad498, A498_0, c498_0, e498, hx498_0, hl498_0, hi498_0⟩ := at_L16 HR0.out x4_1 p498 q498
         cases e498
         replace hx498_0 := bc_ HB.out hx498_0
         have HR498_0 := A_ hi498_0
         have HC498_0 := A_ hl498_0
         clear hi498_0 hl498_0
         replace p498 := eq_true p498
         replace q498 := eq_true q498
         have p502 : 0 ≤ (x4_1 : Int) := od_
         have q502 : x4_1 < (l0.length : Int) := od_
         obtain ⟨ad502, A502_0, c502_0, e502, hx502_0, hl502_0, hi502_0⟩ := at_L16 HR0.out x4_1 p502 q502
         obtain rfl : ad498 = ad502 := (by injection e502)
         replace hx502_0 := bc_ HB.out hx502_0
         have HR502_0 := A_ hi502_0
         have HC502_0 := A_ hl502_0
         clear hi502_0 hl502_0
         replace p502 := eq_true p502
         replace q502 := eq_true q502
         have ea_ := Option.some.inj (hx498_0.symm.trans hx502_0)
         injection ea_ with ea_ en_ ec_
         subst ea_
         subst ec_
         clear en_
         have p503 : 0 ≤ (x5_3 : Int) := od_
         have q503 : x5_3 < ((rd_L16 l0 x4_1).length : Int) := od_
         obtain ⟨ad503, e503, hx503_0, hx503_1, hx503_2⟩ := at_T79 HR502_0.out x5_3 p503 q503
         cases e503
         replace hx503_0 := bc_ HB.out hx503_0
         replace hx503_1 := bc_ HB.out hx503_1
         replace hx503_2 := bc_ HB.out hx503_2
         replace p503 := eq_true p503
         replace q503 := eq_true q503
         go_wp2_with (first | ((with_reducible refine gc_ (f := 50) rfl ?_); refine gL_ (some 41) Tryd.func50 #[.agg #[.bool ((rd_T79 (rd_L16 l0 x4_1) x5_3).f0), .int .i64 ((rd_T79 (rd_L16 l0 x4_1) x5_3).f1), .string ((rd_T79 (rd_L16 l0 x4_1) x5_3).f2)]] ?_; (with_reducible refine (spec_l14OneText.calls k3 ((rd_T79 (rd_L16 l0 x4_1) x5_3).f0) ((rd_T79 (rd_L16 l0 x4_1) x5_3).f1) ((rd_T79 (rd_L16 l0 x4_1) x5_3).f2) t504 _ A17.out).mono ?_); rintro e w19 ⟨rfl, hb⟩; refine ⟨_, rfl, ?_⟩; replace HB := A_ (below_step bB_ hb); (try clear hb)))
         go_roundg k3
         case measure => have := HK1.out; have := HJ2.out; have := HK3.out; omega
         case rel => exact ⟨(x3_3 ++ t504), (wrap64 (x5_3 + 1)), rs_, rs_, H', ⟨by have := HK1.out; have := HJ2.out; have := HK3.out; omega⟩, ⟨bB_⟩⟩
       rw [if_pos c10] at H
       have c10b0 : decide (0 < x5_3) = true := decide_eq_true c10
       clear c10
       by_cases c11 : x3_3.size + 1 ≤ 9223372036854775807
       rotate_left
       · exact absurd H (by rw [if_neg c11]; simp)
       rw [if_pos c11] at H
       have c11b0 := eq_true c11
       have c11b1 : decide (x3_3.size + 1 ≤ 9223372036854775807) = true := decide_eq_true c11
       try have c11b2 : (9223372036854775807 < x3_3.size + 1) = False := eq_false (Nat.not_lt.2 c11)
       by_cases c12 : 0 ≤ x5_3
       rotate_left
       · exact absurd H (by rw [if_neg c12]; simp)
       rw [if_pos c12] at H
       have c12b0 : decide (0 ≤ x5_3) = true := decide_eq_true c12
       clear c12
       obtain ⟨t501, A13, H⟩ := bo_ H
       (try dsimp only at H)
       by_cases c14 : (x3_3 ++ (⟨#[32]⟩ : ByteArray)).size + t501.size ≤ 9223372036854775807
       rotate_left
       · exact absurd H (by rw [if_neg c14]; simp)
       rw [if_pos c14] at H
       have c14b0 := eq_true c14
       have c14b1 : decide ((x3_3 ++ (⟨#[32]⟩ : ByteArray)).size + t501.size ≤ 9223372036854775807) = true := decide_eq_true c14
       try have c14b2 : (9223372036854775807 < (x3_3 ++ (⟨#[32]⟩ : ByteArray)).size + t501.size) = False := eq_false (Nat.not_lt.2 c14)
       try have c14b3 : (9223372036854775807 < x3_3.size + 1 + t501.size) = False := eq_false (Nat.not_lt.2 (by have h_ := c14; simp only [ByteArray.size_append] at h_; exact h_))
       have H' := A_ H
       clear H
       have p498 : 0 ≤ (x4_1 : Int) := od_
       have q498 : x4_1 < (l0.length : Int) := od_
       obtain ⟨ad498, A498_0, c498_0, e498, hx498_0, hl498_0, hi498_0⟩ := at_L16 HR0.out x4_1 p498 q498
       cases e498
       replace hx498_0 := bc_ HB.out hx498_0
       have HR498_0 := A_ hi498_0
       have HC498_0 := A_ hl498_0
       clear hi498_0 hl498_0
       replace p498 := eq_true p498
       replace q498 := eq_true q498
       have p499 : 0 ≤ (x4_1 : Int) := od_
       have q499 : x4_1 < (l0.length : Int) := od_
       obtain ⟨ad499, A499_0, c499_0, e499, hx499_0, hl499_0, hi499_0⟩ := at_L16 HR0.out x4_1 p499 q499
       obtain rfl : ad498 = ad499 := (by injection e499)
       replace hx499_0 := bc_ HB.out hx499_0
       have HR499_0 := A_ hi499_0
       have HC499_0 := A_ hl499_0
       clear hi499_0 hl499_0
       replace p499 := eq_true p499
       replace q499 := eq_true q499
       have ea_ := Option.some.inj (hx498_0.symm.trans hx499_0)
       injection ea_ with ea_ en_ ec_
       subst ea_
       subst ec_
       clear en_
       have p500 : 0 ≤ (x5_3 : Int) := od_
       have q500 : x5_3 < ((rd_L16 l0 x4_1).length : Int) := od_
       obtain ⟨ad500, e500, hx500_0, hx500_1, hx500_2⟩ := at_T79 HR499_0.out x5_3 p500 q500
       cases e500
       replace hx500_0 := bc_ HB.out hx500_0
       replace hx500_1 := bc_ HB.out hx500_1
       replace hx500_2 := bc_ HB.out hx500_2
       replace p500 := eq_true p500
       replace q500 := eq_true q500
       go_wp2_with (first | ((with_reducible refine gc_ (f := 50) rfl ?_); refine gL_ (some 41) Tryd.func50 #[.agg #[.bool ((rd_T79 (rd_L16 l0 x4_1) x5_3).f0), .int .i64 ((rd_T79 (rd_L16 l0 x4_1) x5_3).f1), .string ((rd_T79 (rd_L16 l0 x4_1) x5_3).f2)]] ?_; (with_reducible refine (spec_l14OneText.calls k3 ((rd_T79 (rd_L16 l0 x4_1) x5_3).f0) ((rd_T79 (rd_L16 l0 x4_1) x5_3).f1) ((rd_T79 (rd_L16 l0 x4_1) x5_3).f2) t501 _ A13.out).mono ?_); rintro e w15 ⟨rfl, hb⟩; refine ⟨_, rfl, ?_⟩; replace HB := A_ (below_step bB_ hb); (try clear hb)))
       go_roundg k3
       case measure => have := HK1.out; have := HJ2.out; have := HK3.out; omega
       case rel => exact ⟨((x3_3 ++ (⟨#[32]⟩ : ByteArray)) ++ t501), (wrap64 (x5_3 + 1)), rs_, rs_, H', ⟨by have := HK1.out; have := HJ2.out; have := HK3.out; omega⟩, ⟨bB_⟩⟩
def laws_toCond.f (a0_0 : Bool) (a0_1 : Int) (a0_2 : ByteArray) : Option (Bool × Int × ByteArray) := some (a0_0, a0_1, a0_2)
theorem laws_toCond.calls (a0_0 : Bool) (a0_1 : Int) (a0_2 : ByteArray) (r1 : Bool) (r2 : Int) (r3 : ByteArray) (w : World) (h : laws_toCond.f a0_0 a0_1 a0_2 = some (r1, r2, r3)) :
 Calls Tryd.prog 77 #[.agg #[.bool a0_0, .int .i64 a0_1, .string a0_2]] w fun e w' => e = .returned (.agg #[.bool r1, .int .i64 r2, .string r3]) ∧ Below w.heap.size w w' := by
 have hu103 := Tryd.underlying103
 have hu79 := Tryd.underlying79
 have HB := A_ (Below.refl w.heap.size w)
 have H : (some (a0_0, a0_1, a0_2)) = some (r1, r2, r3) := h
 clear h
 simp only [Option.some.injEq, Prod.mk.injEq] at H
 obtain ⟨rfl, rfl, rfl⟩ := H
 go_enter Tryd.func77, Tryd.ntmps77
 go_wp2_with (first | ((with_reducible refine gd_ (N := 1) rfl ?_); refine bx_ (N := 1) (cs := #[.bool a0_0, .int .i64 a0_1, .string a0_2]) (t := 103) ?_; intro gb510 hg w2 hbox hb; have BK510 := A_ (hbox); have GW510 := A_ (ge_ hg bB_ : w.heap.size ≤ gb510); have GE510 := A_ (ge_ hg bB_ : w.heap.size ≤ gb510); replace HB := A_ (below_step bB_ hb); clear hb hbox hg) | ((with_reducible refine gd_ (N := 2) rfl ?_); refine bx_ (N := 2) (cs := #[.bool false, .int .i64 0, .string (⟨#[]⟩ : ByteArray)]) (t := 79) ?_; intro gb511 hg w3 hbox hb; have BK511 := A_ (hbox); have GW511 := A_ (ge_ hg (bG_ GE510.out) : w.heap.size ≤ gb511); have GE511 := A_ (ge_ hg (bG_ GE510.out) : w.heap.size ≤ gb511); replace HB := A_ (below_step (bG_ GE510.out) hb); have NB510_511 := A_ (gm_ hg BK510.out); have NB511_510 := A_ (gn_ hg BK510.out); replace BK510 := A_ (bw_ BK510.out hb); clear hb hbox hg) | ((with_reducible refine gd_ (N := 3) rfl ?_); refine bx_ (N := 3) (cs := #[.bool false, .int .i64 0, .string (⟨#[]⟩ : ByteArray)]) (t := 79) ?_; intro gb512 hg w4 hbox hb; have BK512 := A_ (hbox); have GW512 := A_ ((by rw [hg]; exact (below_size (by repeat (first | (with_reducible first | exact HB.out | apply below_alloc | apply pw_below_drewN | apply below_drew1 | refine below_set ?_ GE510.out | refine below_set ?_ GE511.out) | exact HB.out))) : w.heap.size ≤ gb512)); have GE512 := A_ ((by rw [hg]; exact (below_size (by repeat (first | (with_reducible first | exact HB.out | apply below_alloc | apply pw_below_drewN | apply below_drew1 | refine below_set ?_ GE510.out | refine below_set ?_ GE511.out) | exact HB.out))) : w.heap.size ≤ gb512)); replace HB := A_ (below_step (by repeat (first | (with_reducible first | exact HB.out | apply below_alloc | apply pw_below_drewN | apply below_drew1 | refine below_set ?_ GE510.out | refine below_set ?_ GE511.out) | exact HB.out)) hb); have NB510_512 := A_ (gm_ hg BK510.out); have NB512_510 := A_ (gn_ hg BK510.out); replace BK510 := A_ (bw_ BK510.out hb); have NB511_512 := A_ (gm_ hg BK511.out); have NB512_511 := A_ (gn_ hg BK511.out); replace BK511 := A_ (bw_ BK511.out hb); clear hb hbox hg; have hnb5 := NB510_511.out; have hnc5 := NB511_510.out; have hnb6 := NB510_512.out; have hnc6 := NB512_510.out; obtain ⟨hcz7_0, hcz7_1, hcz7_2, hfz7_0, hfz7_1, hfz7_2⟩ := cz3_ BK510.out; have hnb8 := NB512_511.out; have hnc8 := NB511_512.out; obtain ⟨hcz9_0, hcz9_1, hcz9_2, hfz9_0, hfz9_1, hfz9_2⟩ := cz3_ BK512.out; obtain ⟨hcz10_0, hcz10_1, hcz10_2, hfz10_0, hfz10_1, hfz10_2⟩ := cz3_ BK511.out))
 refine bodyPost_ret (results_cell_row rfl _ _ gb511 79 #[.bool a0_0, .int .i64 a0_1, .string a0_2] (0, 0) _ rfl (by (with_reducible repeat (first | refine blk_drewN ?_ _ | refine blk_drew ?_ | refine blk_alloc ?_ _)); refine blk_put (cs := #[.bool a0_0, .int .i64 a0_1, .string (⟨#[]⟩ : ByteArray)]) ?_ 2 _ rfl; (with_reducible repeat (first | refine blk_drewN ?_ _ | refine blk_drew ?_ | refine blk_alloc ?_ _)); refine blk_put (cs := #[.bool a0_0, .int .i64 0, .string (⟨#[]⟩ : ByteArray)]) ?_ 1 _ rfl; (with_reducible repeat (first | refine blk_drewN ?_ _ | refine blk_drew ?_ | refine blk_alloc ?_ _)); refine blk_put (cs := #[.bool false, .int .i64 0, .string (⟨#[]⟩ : ByteArray)]) ?_ 0 _ rfl; (with_reducible repeat (first | refine blk_drewN ?_ _ | refine blk_drew ?_ | refine blk_alloc ?_ _)); refine blk_far ?_ NB511_512.out _; (with_reducible repeat (first | refine blk_drewN ?_ _ | refine blk_drew ?_ | refine blk_alloc ?_ _)); refine blk_far ?_ NB511_512.out _; (with_reducible repeat (first | refine blk_drewN ?_ _ | refine blk_drew ?_ | refine blk_alloc ?_ _)); refine blk_far ?_ NB511_512.out _; (with_reducible repeat (first | refine blk_drewN ?_ _ | refine blk_drew ?_ | refine blk_alloc ?_ _)); exact BK511.out) Tryd.underlying79 rfl (by kernel_rfl)) rfl ?_
 exact ⟨rr_, by repeat (first | (with_reducible first | exact HB.out | apply below_alloc | apply pw_below_drewN | apply below_drew1 | refine below_set ?_ GE510.out | refine below_set ?_ GE511.out | refine below_set ?_ GE512.out) | exact HB.out)⟩
set_option maxHeartbeats 8000000
set_option maxRecDepth 100000
def impl_in.f (a0 : Int) (a1 : Int) (a2 : Int) : Option (Bool) := if a0 ≥ a1 then (some (decide (a0 ≤ a2))) else (some false)
theorem impl_in.calls (a0 : Int) (a1 : Int) (a2 : Int) (r : Bool) (w : World) (h : impl_in.f a0 a1 a2 = some r) :
 Calls Tryd.prog 63 #[.int .i64 a0, .int .i64 a1, .int .i64 a2] w fun e w' => e = .returned (.bool r) ∧ Drawn0 w w' := by
 have H : (if a0 ≥ a1 then (some (decide (a0 ≤ a2))) else (some false)) = some r := h
 clear h
 by_cases c4 : a0 ≥ a1
 · rw [if_pos c4] at H
   have c4b0 : decide (a1 ≤ a0) = true := decide_eq_true c4
   clear c4
   obtain rfl := si_ H
   go_enter Tryd.func63, Tryd.ntmps63
   go_wp2
   go_ret
   exact ⟨rs_, dr_⟩
 rw [if_neg c4] at H
 have c4b0 : decide (a1 ≤ a0) = false := decide_eq_false c4
 clear c4
 obtain rfl := si_ H
 go_enter Tryd.func63, Tryd.ntmps63
 go_wp2
 go_ret
 exact ⟨rs_, dr_⟩
def impl_isPlain.f (a0 : Int) : Option (Bool) := if a0 ≥ 32 then (some (decide (a0 ≤ 126))) else (some false)
theorem impl_isPlain.calls (a0 : Int) (r : Bool) (w : World) (h : impl_isPlain.f a0 = some r) :
 Calls Tryd.prog 89 #[.int .u8 a0] w fun e w' => e = .returned (.bool r) ∧ Drawn0 w w' := by
 have H : (if a0 ≥ 32 then (some (decide (a0 ≤ 126))) else (some false)) = some r := h
 clear h
 by_cases c2 : a0 ≥ 32
 · rw [if_pos c2] at H
   have c2b0 : decide (32 ≤ a0) = true := decide_eq_true c2
   clear c2
   obtain rfl := si_ H
   go_enter Tryd.func89, Tryd.ntmps89
   go_wp2
   go_ret
   exact ⟨rs_, dr_⟩
 rw [if_neg c2] at H
 have c2b0 : decide (32 ≤ a0) = false := decide_eq_false c2
 clear c2
 obtain rfl := si_ H
 go_enter Tryd.func89, Tryd.ntmps89
 go_wp2
 go_ret
 exact ⟨rs_, dr_⟩
def impl_Plain.l0 : Nat → ByteArray → Int → Option (Bool)
 | 0, _, _ => none
 | k + 1, x0, x3 => if x3 < (x0.size : Int) then (if 0 ≤ x3 then ((impl_isPlain.f (bt x0 x3)).bind fun t142 => (if t142 = true then (impl_Plain.l0 k x0 (wrap64 (x3 + 1))) else (some false))) else (none)) else (some true)
def impl_Plain.f (k : Nat) (a0 : ByteArray) : Option (Bool) := impl_Plain.l0 k a0 0
theorem impl_Plain.calls (k : Nat) (a0 : ByteArray) (r : Bool) (w : World) (h : impl_Plain.f k a0 = some r) :
 Calls Tryd.prog 64 #[.string a0] w fun e w' => e = .returned (.bool r) ∧ Drawn0 w w' := by
 have H : (impl_Plain.l0 k a0 0) = some r := h
 clear h
 have H' := A_ H
 clear H
 go_enter Tryd.func64, Tryd.ntmps64
 go_wp2
 go_loopg [3] k (fun kq v3 w' => ∃ (x3_1 : Int), v3 = .int .i64 x3_1 ∧ Aside0 (impl_Plain.l0 kq a0 x3_1 = some r) ∧ Aside0 (kq ≤ k) ∧ Drawn0 w w')
 case atStart => exact ⟨(0), rs_, H', ⟨Nat.le_refl _⟩, dr_⟩
 case round =>
  clear H'
  obtain ⟨x3_1, rfl, HA, HK1, ⟨m1, rfl⟩⟩ := hrel
  cases gk with
  | zero => exact absurd HA.out (by simp [impl_Plain.l0])
  | succ k1 =>
   have H := HA.out
   clear HA
   simp only [impl_Plain.l0] at H
   by_cases c2 : x3_1 < (a0.size : Int)
   rotate_left
   · rw [if_neg c2] at H
     have c2b0 : decide (x3_1 < (a0.size : Int)) = false := decide_eq_false c2
     clear c2
     obtain rfl := si_ H
     go_wp2
     go_ret
     exact ⟨rs_, dr_⟩
   rw [if_pos c2] at H
   have c2b0 : decide (x3_1 < (a0.size : Int)) = true := decide_eq_true c2
   clear c2
   by_cases c3 : 0 ≤ x3_1
   rotate_left
   · exact absurd H (by rw [if_neg c3]; simp)
   rw [if_pos c3] at H
   have c3b0 : decide (0 ≤ x3_1) = true := decide_eq_true c3
   clear c3
   obtain ⟨t142, A5, H⟩ := bo_ H
   (try dsimp only at H)
   by_cases c6 : t142 = true
   · subst c6
     rw [if_pos rfl] at H
     have H' := A_ H
     clear H
     have p4 : 0 ≤ (x3_1 : Int) := od_
     have q4 : x3_1 < (a0.size : Int) := od_
     have hx4 := bt_at a0 x3_1
     replace p4 := eq_true p4
     replace q4 := eq_true q4
     go_wp2_with (first | ((with_reducible refine gc_ (f := 89) rfl ?_); refine gL_ (some 13) Tryd.func89 #[.int .u8 (bt a0 x3_1)] ?_; (with_reducible refine (impl_isPlain.calls (bt a0 x3_1) true _ A5.out).mono ?_); rintro e w' ⟨rfl, ⟨nd, rfl⟩⟩; refine ⟨_, rfl, ?_⟩))
     go_roundg k1
     case measure => have := HK1.out; omega
     case rel => exact ⟨(wrap64 (x3_1 + 1)), rs_, H', ⟨by have := HK1.out; omega⟩, dr_⟩
   · replace c6 := Bool.eq_false_iff.mpr c6
     subst c6
     rw [if_neg nf_] at H
     obtain rfl := si_ H
     have p4 : 0 ≤ (x3_1 : Int) := od_
     have q4 : x3_1 < (a0.size : Int) := od_
     have hx4 := bt_at a0 x3_1
     replace p4 := eq_true p4
     replace q4 := eq_true q4
     go_wp2_with (first | ((with_reducible refine gc_ (f := 89) rfl ?_); refine gL_ (some 13) Tryd.func89 #[.int .u8 (bt a0 x3_1)] ?_; (with_reducible refine (impl_isPlain.calls (bt a0 x3_1) false _ A5.out).mono ?_); rintro e w' ⟨rfl, ⟨nd, rfl⟩⟩; refine ⟨_, rfl, ?_⟩))
     go_ret
     exact ⟨rs_, dr_⟩
def impl_tagAt.f (k : Nat) (a0 : ByteArray) (a1 : Int) : Option (ByteArray × ByteArray × Bool) := (strings_CutPrefix.f a0 (⟨#[34]⟩ : ByteArray)).bind fun bt143 => ((strings_Cut.f bt143.1 (⟨#[34]⟩ : ByteArray)).bind fun bt145 => (if bt143.2 = true then (if bt145.2.2 = true then ((impl_in.f (bt145.1.size : Int) a1 10).bind fun t148 => (if t148 = true then ((impl_Plain.f k bt145.1).bind fun t149 => (if t149 = true then (if 0 ≤ (wrap64 ((bt145.1.size : Int) + 2)) then (if (wrap64 ((bt145.1.size : Int) + 2)) ≤ (a0.size : Int) then (some (a0.extract 0 ((wrap64 ((bt145.1.size : Int) + 2)) : Int).toNat, bt145.2.1, true)) else (none)) else (none)) else (some ((⟨#[]⟩ : ByteArray), (⟨#[]⟩ : ByteArray), false)))) else (some ((⟨#[]⟩ : ByteArray), (⟨#[]⟩ : ByteArray), false)))) else (some ((⟨#[]⟩ : ByteArray), (⟨#[]⟩ : ByteArray), false))) else (some ((⟨#[]⟩ : ByteArray), (⟨#[]⟩ : ByteArray), false))))
theorem impl_tagAt.calls (k : Nat) (a0 : ByteArray) (a1 : Int) (r1 : ByteArray) (r2 : ByteArray) (r3 : Bool) (w : World) (hGM : GM w) (h : impl_tagAt.f k a0 a1 = some (r1, r2, r3)) :
 Calls Tryd.prog 35 #[.string a0, .int .i64 a1] w fun e w' => e = .returned (.tuple #[.string r1, .string r2, .bool r3]) ∧ Below w.heap.size w w' := by
 have HGM := A_ hGM
 clear hGM
 have HB := A_ (Below.refl w.heap.size w)
 have H : ((strings_CutPrefix.f a0 (⟨#[34]⟩ : ByteArray)).bind fun bt143 => ((strings_Cut.f bt143.1 (⟨#[34]⟩ : ByteArray)).bind fun bt145 => (if bt143.2 = true then (if bt145.2.2 = true then ((impl_in.f (bt145.1.size : Int) a1 10).bind fun t148 => (if t148 = true then ((impl_Plain.f k bt145.1).bind fun t149 => (if t149 = true then (if 0 ≤ (wrap64 ((bt145.1.size : Int) + 2)) then (if (wrap64 ((bt145.1.size : Int) + 2)) ≤ (a0.size : Int) then (some (a0.extract 0 ((wrap64 ((bt145.1.size : Int) + 2)) : Int).toNat, bt145.2.1, true)) else (none)) else (none)) else (some ((⟨#[]⟩ : ByteArray), (⟨#[]⟩ : ByteArray), false)))) else (some ((⟨#[]⟩ : ByteArray), (⟨#[]⟩ : ByteArray), false)))) else (some ((⟨#[]⟩ : ByteArray), (⟨#[]⟩ : ByteArray), false))) else (some ((⟨#[]⟩ : ByteArray), (⟨#[]⟩ : ByteArray), false))))) = some (r1, r2, r3) := h
 clear h
 obtain ⟨⟨t143, t144⟩, A3, H⟩ := bo_ H
 (try dsimp only at H)
 obtain ⟨⟨t145, t146, t147⟩, A4, H⟩ := bo_ H
 (try dsimp only at H)
 by_cases c5 : t144 = true
 · subst c5
   rw [if_pos rfl] at H
   by_cases c6 : t147 = true
   · subst c6
     rw [if_pos rfl] at H
     obtain ⟨t148, A7, H⟩ := bo_ H
     (try dsimp only at H)
     by_cases c8 : t148 = true
     · subst c8
       rw [if_pos rfl] at H
       obtain ⟨t149, A9, H⟩ := bo_ H
       (try dsimp only at H)
       by_cases c10 : t149 = true
       · subst c10
         rw [if_pos rfl] at H
         obtain ⟨ji11, hji11⟩ : ∃ j_ : Int, (wrap64 ((t145.size : Int) + 2)) = j_ := ⟨_, rfl⟩
         replace H : (if 0 ≤ (ji11) then (if (ji11) ≤ (a0.size : Int) then (some (a0.extract 0 ((ji11) : Int).toNat, t146, true)) else (none)) else (none)) = some (r1, r2, r3) := by first | (rw [hji11] at H; exact H) | (simp only [hji11] at H ⊢; exact H)
         (try rw [hji11] at A3)
         (try rw [hji11] at A4)
         (try rw [hji11] at A7)
         (try rw [hji11] at A9)
         have hji11w : (IntKind.i64.wrap ((t145.size : Int) + 2)) = ji11 := (i64_w _).trans hji11
         by_cases c12 : 0 ≤ (ji11)
         rotate_left
         · exact absurd H (by rw [if_neg c12]; simp)
         rw [if_pos c12] at H
         have c12b0 := eq_true c12
         have c12b1 : decide (0 ≤ (ji11)) = true := decide_eq_true c12
         clear c12
         by_cases c13 : (ji11) ≤ (a0.size : Int)
         rotate_left
         · exact absurd H (by rw [if_neg c13]; simp)
         rw [if_pos c13] at H
         have c13b0 := eq_true c13
         have c13b1 : decide ((ji11) ≤ (a0.size : Int)) = true := decide_eq_true c13
         clear c13
         simp only [Option.some.injEq, Prod.mk.injEq] at H
         obtain ⟨rfl, rfl, rfl⟩ := H
         go_enter Tryd.func35, Tryd.ntmps35
         go_wp2_with (first | ((with_reducible refine gc_ (f := 61) rfl ?_); refine gL_ (some 14) Tryd.func61 #[.string a0, .string (⟨#[34]⟩ : ByteArray)] ?_; (with_reducible refine (strings_CutPrefix.calls a0 (⟨#[34]⟩ : ByteArray) t143 true _ A3.out).mono ?_); rintro e w14 ⟨rfl, hb⟩; refine ⟨_, rfl, ?_⟩; replace HB := A_ (below_step bB_ hb); (try clear hb)) | ((with_reducible refine gc_ (f := 62) rfl ?_); refine gL_ (some 19) Tryd.func62 #[.string t143, .string (⟨#[34]⟩ : ByteArray)] ?_; (with_reducible refine (strings_Cut.calls t143 (⟨#[34]⟩ : ByteArray) t145 t146 true _ ?gM26 A4.out).mono ?_); (case gM26 => exact gM_ HGM.out bB_); rintro e w15 ⟨rfl, hb⟩; refine ⟨_, rfl, ?_⟩; replace HB := A_ (below_step bB_ hb); (try clear hb)) | (go_at_call 63; (with_reducible refine (impl_in.calls (t145.size : Int) a1 10 true _ A7.out).mono ?_); rintro e w' ⟨rfl, ⟨nd, rfl⟩⟩) | (go_at_call 64; (with_reducible refine (impl_Plain.calls k t145 true _ A9.out).mono ?_); rintro e w' ⟨rfl, ⟨nd, rfl⟩⟩))
         go_ret3
         exact ⟨by first | rfl | (simp [errW_none, errW_some] <;> rfl) | (simp only [← hji11]; first | rfl | (simp [errW_none, errW_some] <;> rfl)) | (simp [*, errW_none, errW_some] <;> rfl), bB_⟩
       · replace c10 := Bool.eq_false_iff.mpr c10
         subst c10
         rw [if_neg nf_] at H
         simp only [Option.some.injEq, Prod.mk.injEq] at H
         obtain ⟨rfl, rfl, rfl⟩ := H
         go_enter Tryd.func35, Tryd.ntmps35
         go_wp2_with (first | ((with_reducible refine gc_ (f := 61) rfl ?_); refine gL_ (some 14) Tryd.func61 #[.string a0, .string (⟨#[34]⟩ : ByteArray)] ?_; (with_reducible refine (strings_CutPrefix.calls a0 (⟨#[34]⟩ : ByteArray) t143 true _ A3.out).mono ?_); rintro e w16 ⟨rfl, hb⟩; refine ⟨_, rfl, ?_⟩; replace HB := A_ (below_step bB_ hb); (try clear hb)) | ((with_reducible refine gc_ (f := 62) rfl ?_); refine gL_ (some 19) Tryd.func62 #[.string t143, .string (⟨#[34]⟩ : ByteArray)] ?_; (with_reducible refine (strings_Cut.calls t143 (⟨#[34]⟩ : ByteArray) t145 t146 true _ ?gM27 A4.out).mono ?_); (case gM27 => exact gM_ HGM.out bB_); rintro e w17 ⟨rfl, hb⟩; refine ⟨_, rfl, ?_⟩; replace HB := A_ (below_step bB_ hb); (try clear hb)) | (go_at_call 63; (with_reducible refine (impl_in.calls (t145.size : Int) a1 10 true _ A7.out).mono ?_); rintro e w' ⟨rfl, ⟨nd, rfl⟩⟩) | (go_at_call 64; (with_reducible refine (impl_Plain.calls k t145 false _ A9.out).mono ?_); rintro e w' ⟨rfl, ⟨nd, rfl⟩⟩))
         go_ret3
         exact ⟨rr_, bB_⟩
     · replace c8 := Bool.eq_false_iff.mpr c8
       subst c8
       rw [if_neg nf_] at H
       simp only [Option.some.injEq, Prod.mk.injEq] at H
       obtain ⟨rfl, rfl, rfl⟩ := H
       go_enter Tryd.func35, Tryd.ntmps35
       go_wp2_with (first | ((with_reducible refine gc_ (f := 61) rfl ?_); refine gL_ (some 14) Tryd.func61 #[.string a0, .string (⟨#[34]⟩ : ByteArray)] ?_; (with_reducible refine (strings_CutPrefix.calls a0 (⟨#[34]⟩ : ByteArray) t143 true _ A3.out).mono ?_); rintro e w18 ⟨rfl, hb⟩; refine ⟨_, rfl, ?_⟩; replace HB := A_ (below_step bB_ hb); (try clear hb)) | ((with_reducible refine gc_ (f := 62) rfl ?_); refine gL_ (some 19) Tryd.func62 #[.string t143, .string (⟨#[34]⟩ : ByteArray)] ?_; (with_reducible refine (strings_Cut.calls t143 (⟨#[34]⟩ : ByteArray) t145 t146 true _ ?gM28 A4.out).mono ?_); (case gM28 => exact gM_ HGM.out bB_); rintro e w19 ⟨rfl, hb⟩; refine ⟨_, rfl, ?_⟩; replace HB := A_ (below_step bB_ hb); (try clear hb)) | (go_at_call 63; (with_reducible refine (impl_in.calls (t145.size : Int) a1 10 false _ A7.out).mono ?_); rintro e w' ⟨rfl, ⟨nd, rfl⟩⟩))
       go_ret3
       exact ⟨rr_, bB_⟩
   · replace c6 := Bool.eq_false_iff.mpr c6
     subst c6
     rw [if_neg nf_] at H
     simp only [Option.some.injEq, Prod.mk.injEq] at H
     obtain ⟨rfl, rfl, rfl⟩ := H
     go_enter Tryd.func35, Tryd.ntmps35
     go_wp2_with (first | ((with_reducible refine gc_ (f := 61) rfl ?_); refine gL_ (some 14) Tryd.func61 #[.string a0, .string (⟨#[34]⟩ : ByteArray)] ?_; (with_reducible refine (strings_CutPrefix.calls a0 (⟨#[34]⟩ : ByteArray) t143 true _ A3.out).mono ?_); rintro e w20 ⟨rfl, hb⟩; refine ⟨_, rfl, ?_⟩; replace HB := A_ (below_step bB_ hb); (try clear hb)) | ((with_reducible refine gc_ (f := 62) rfl ?_); refine gL_ (some 19) Tryd.func62 #[.string t143, .string (⟨#[34]⟩ : ByteArray)] ?_; (with_reducible refine (strings_Cut.calls t143 (⟨#[34]⟩ : ByteArray) t145 t146 false _ ?gM29 A4.out).mono ?_); (case gM29 => exact gM_ HGM.out bB_); rintro e w21 ⟨rfl, hb⟩; refine ⟨_, rfl, ?_⟩; replace HB := A_ (below_step bB_ hb); (try clear hb)))
     go_ret3
     exact ⟨rr_, bB_⟩
 · replace c5 := Bool.eq_false_iff.mpr c5
   subst c5
   rw [if_neg nf_] at H
   simp only [Option.some.injEq, Prod.mk.injEq] at H
   obtain ⟨rfl, rfl, rfl⟩ := H
   go_enter Tryd.func35, Tryd.ntmps35
   go_wp2_with (first | ((with_reducible refine gc_ (f := 61) rfl ?_); refine gL_ (some 14) Tryd.func61 #[.string a0, .string (⟨#[34]⟩ : ByteArray)] ?_; (with_reducible refine (strings_CutPrefix.calls a0 (⟨#[34]⟩ : ByteArray) t143 false _ A3.out).mono ?_); rintro e w22 ⟨rfl, hb⟩; refine ⟨_, rfl, ?_⟩; replace HB := A_ (below_step bB_ hb); (try clear hb)) | ((with_reducible refine gc_ (f := 62) rfl ?_); refine gL_ (some 19) Tryd.func62 #[.string t143, .string (⟨#[34]⟩ : ByteArray)] ?_; (with_reducible refine (strings_Cut.calls t143 (⟨#[34]⟩ : ByteArray) t145 t146 t147 _ ?gM30 A4.out).mono ?_); (case gM30 => exact gM_ HGM.out bB_); rintro e w23 ⟨rfl, hb⟩; refine ⟨_, rfl, ?_⟩; replace HB := A_ (below_step bB_ hb); (try clear hb)))
   go_ret3
   exact ⟨rr_, bB_⟩
end Go.Proofs.YtigoeooelfeopaaDoor.Q
