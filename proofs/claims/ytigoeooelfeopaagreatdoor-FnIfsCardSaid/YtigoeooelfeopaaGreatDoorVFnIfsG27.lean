-- PRINTED by print.py (a twelfth state) out of the translation. Not trusted: Lean checks it.
import Derived.Test.YtigoeooelfeopaaGreatDoorVFnIfsG26
set_option maxHeartbeats 8000000
set_option maxRecDepth 100000
namespace Go.Proofs.YtigoeooelfeopaaGreatDoor.Q
open Go.RowKit Go.Proofs.YtigoeooelfeopaaGreatDoorW.PrintWords Go.Proofs.YtigoeooelfeopaaGreatDoorW.PrintLast Go.Proofs.YtigoeooelfeopaaGreatDoorW.PrintMore
attribute [local go_sem] max2_int min2_int max_two min_two max_three min_three max_four min_four   -- for this text's walks alone
set_option linter.unusedVariables false
set_option linter.unusedSimpArgs false
theorem handed_put {J : Nat → Act → World → Prop} {k : Nat} {a : Act} {w : World} (N : Tmp) (v : Value) (h : Handed J k (a.put (some N) v) w) (e : a.put (some N) v = a) : Handed J k a w := e ▸ h
def mkReader.f (a0 : ByteArray) : Option (ByteArray × Int × Bool) := some (a0, 0, false)
theorem mkReader.out {a0 t1 : ByteArray} {t2 : Int} {t3 : Bool} (h : mkReader.f a0 = some (t1, t2, t3)) : t1 = a0 ∧ t2 = 0 ∧ t3 = false := by
 simp only [mkReader.f, Option.some.injEq, Prod.mk.injEq] at h
 exact ⟨h.1.symm, h.2.1.symm, h.2.2.symm⟩
mutual
def spec_ParseIf.l0 : Nat → ByteArray → List (List (S43)) → Bool → ByteArray → Int → Bool → Option ((List (List (S43))) × Bool)
 | 0, _, _, _, _, _, _ => none
 | k + 1, x0, x5, x6, x366000, x366001, x366002 => if x6 = true then (spec_ParseIf.j1 k x0 x5 (!x366002) x366000 x366001 x366002) else (spec_ParseIf.j1 k x0 x5 false x366000 x366001 x366002)
def spec_ParseIf.j1 : Nat → ByteArray → List (List (S43)) → Bool → ByteArray → Int → Bool → Option ((List (List (S43))) × Bool)
 | 0, _, _, _, _, _, _ => none
 | k + 1, x0, x5, x19, x366000, x366001, x366002 => if x19 = true then ((spec_l14List.f k x366000 x366001 x366002).bind fun bt375 => (if x5.length < 5864062014805 then (spec_ParseIf.l1 k x0 (x5 ++ [bt375.1]) (decide (bt375.2.2.1 < (x0.size : Int))) bt375.2.1 bt375.2.2.1 bt375.2.2.2) else (none))) else (if x366002 = true then (some ((([] : List (List (S43)))), false)) else (if (x5.length : Int) > 4 then (some ((([] : List (List (S43)))), false)) else (some (x5, true))))
def spec_ParseIf.l1 : Nat → ByteArray → List (List (S43)) → Bool → ByteArray → Int → Bool → Option ((List (List (S43))) × Bool)
 | 0, _, _, _, _, _, _ => none
 | k + 1, x0, x5, x6, x366000, x366001, x366002 => if x6 = true then ((spec_l14Is.f x366000 x366001 x366002 (⟨#[32]⟩ : ByteArray)).bind fun bt384 => (if bt384.1 = true then (if bt384.2.2.2 = true then (spec_ParseIf.l1 k x0 x5 x6 bt384.2.1 bt384.2.2.1 true) else (spec_ParseIf.l1 k x0 x5 x6 bt384.2.1 bt384.2.2.1 (bt384.2.2.1 == (x0.size : Int)))) else (spec_ParseIf.l0 k x0 x5 x6 bt384.2.1 bt384.2.2.1 bt384.2.2.2))) else (spec_ParseIf.l0 k x0 x5 x6 x366000 x366001 x366002)
end
def spec_ParseIf.f (k : Nat) (a0 : ByteArray) : Option ((List (List (S43))) × Bool) := (mkReader.f a0).bind fun bt362 => (spec_ParseIf.l0 k a0 (([] : List (List (S43)))) true bt362.1 bt362.2.1 bt362.2.2)
theorem spec_ParseIf.calls (k : Nat) (a0 : ByteArray) (r1 : List (List (S43))) (r2 : Bool) (w : World) (h : spec_ParseIf.f k a0 = some (r1, r2)) :
 Calls Tryz.prog 9 #[.string a0] w fun e w' => ∃ v0_ : Value, e = .returned (.tuple #[v0_, .bool r2]) ∧ Kd.S (Kd.slice 43 k43) 41 w' w.heap.size (fun _ => True) v0_ r1 ∧ Below w.heap.size w w' := by
 have hu53 := Tryz.underlying53
 have HB := A_ (Below.refl w.heap.size w)
 have H : ((mkReader.f a0).bind fun bt362 => (spec_ParseIf.l0 k a0 (([] : List (List (S43)))) true bt362.1 bt362.2.1 bt362.2.2)) = some (r1, r2) := h
 clear h
 obtain ⟨⟨t362, t363, t364⟩, A2, H⟩ := bo_ H
 (try dsimp only at H)
 obtain ⟨y366, hy366⟩ : ∃ y_ : List (List (S43)), y_ = (([] : List (List (S43)))) := ⟨_, rfl⟩
 replace H : (spec_ParseIf.l0 k a0 y366 true t362 t363 t364) = some (r1, r2) := hy_ hy366 H
 have Ny366 := A_ hy366
 clear hy366
 have H' := A_ H
 clear H
 go_enter Tryz.func9, Tryz.ntmps9
 go_wp2_with (first | ((with_reducible refine gd_ (N := 10) rfl ?_); refine bx_ (N := 10) (cs := #[.string a0, .int .i64 0, .bool false]) (t := 53) ?_; intro g365 hg_ w3 hbox_ hb2; have hi : IsS53 w w3 g365 t362 t363 t364 := (by obtain ⟨e1_, e2_, e3_⟩ := mkReader.out A2.out; rw [e1_, e2_, e3_]; exact ⟨hbox_, by rw [hg_]; exact below_size bB_⟩); have hb := below_step bB_ hb2; clear hb2 hbox_ hg_; replace HB := A_ (hb); have HI365 := A_ (hi); (try clear hb)) | ((with_reducible refine gd_ (N := 11) rfl ?_); (try (refine gate_guard (by rfl) ?_; dsimp only)); refine Kd.S_lit (Kd.slice 43 k43) _ 41 ?hg (N := 11) ?hd (xs := ([] : List (List (S43)))) (inner := []) (ok := fun _ => True) (okp := fun _ => True) ?hr ?hp (fun _ hk => hk) trivial (Below.refl _ _) (Nat.le_refl _) (by simp) ?_; (case hd => rfl); (case hg => rfl); (case hr => first | (go_simp; done) | (go_simp; rfl)); (case hp => exact (Reps.none _ _)); intro v367 w4 ho5 hb hg_ hnew_; clear hg_ hnew_; (first | rw [← Ny366.out] at ho5 | (simp only [Int.reduceToNat] at ho5; rw [← Ny366.out] at ho5)); have HO368 := A_ (Kd.S_lower ho5 (below_size (by repeat (first | (with_reducible first | exact HB.out | apply below_alloc | apply pw_below_drewN | apply below_drew1 | refine below_set ?_ (IsS53.ge HI365.out)) | exact HB.out)))); replace HB := A_ (below_step (by repeat (first | (with_reducible first | exact HB.out | apply below_alloc | apply pw_below_drewN | apply below_drew1 | refine below_set ?_ (IsS53.ge HI365.out)) | exact HB.out)) hb); replace HI365 := A_ (IsS53.below (by repeat (first | (with_reducible first | exact HI365.out | apply IsS53.alloc | apply IsS53.drewN | apply IsS53.drew | apply IsS53.set_0 | apply IsS53.set_1 | apply IsS53.set_2) | exact HI365.out)) hb); clear hb ho5))
 go_loopg [5, 6] k (fun kq v5 v6 w' => ∃ (x5_1 : List (List (S43))) (x6_1 : Bool) (x366000_1 : ByteArray) (x366001_1 : Int) (x366002_1 : Bool), v6 = .bool x6_1 ∧ Aside0 (spec_ParseIf.l0 kq a0 x5_1 x6_1 x366000_1 x366001_1 x366002_1 = some (r1, r2)) ∧ Aside0 (kq ≤ k) ∧ Aside0 (Kd.S (Kd.slice 43 k43) 41 w' w.heap.size (fun _ => True) v5 x5_1) ∧ Aside0 (IsS53 w w' g365 x366000_1 x366001_1 x366002_1) ∧ Aside0 (Below w.heap.size w w'))
 case atStart => exact ⟨(y366), (true), (t362), (t363), (t364), rs_, H', ⟨Nat.le_refl _⟩, ⟨vS_ HO368.out⟩, ⟨by repeat (first | (with_reducible first | exact HI365.out | apply IsS53.alloc | apply IsS53.drewN | apply IsS53.drew | apply IsS53.set_0 | apply IsS53.set_1 | apply IsS53.set_2) | exact HI365.out)⟩, ⟨by repeat (first | (with_reducible first | exact HB.out | apply below_alloc | apply pw_below_drewN | apply below_drew1 | refine below_set ?_ (IsS53.ge HI365.out)) | exact HB.out)⟩⟩
 case round =>
  clear H'
  try clear c1
  try clear p2
  obtain ⟨x5_1, x6_1, x366000_1, x366001_1, x366002_1, rfl, HA, HK1, HO_5, HI365, HB⟩ := hrel
  cases gk with
  | zero => exact absurd HA.out (by simp [spec_ParseIf.l0])
  | succ k1 =>
   have H := HA.out
   clear HA
   simp only [spec_ParseIf.l0] at H
   have HC6 := A_ H
   clear H
   go_upto_region 4 with (fail)
   go_cut [19] (fun v19 wc => ∃ (kq : Nat) (x19_5 : Bool), v19 = .bool x19_5 ∧ Aside0 (spec_ParseIf.j1 kq a0 x5_1 x19_5 x366000_1 x366001_1 x366002_1 = some (r1, r2)) ∧ Aside0 (kq ≤ k1) ∧ Aside0 (Kd.S (Kd.slice 43 k43) 41 wc w.heap.size (fun _ => True) u5 x5_1) ∧ Aside0 (IsS53 w wc g365 x366000_1 x366001_1 x366002_1) ∧ Aside0 (Below w.heap.size w wc))
   case first =>
    have H := HC6.out
    clear HC6
    by_cases c7 : x6_1 = true
    · subst c7
      rw [if_pos rfl] at H
      have H' := A_ H
      clear H
      obtain ⟨HGz8, hgz8⟩ := HI365.out
      have hcz8_0 := cellS53_0 HGz8
      have hcz8_1 := cellS53_1 HGz8
      have hcz8_2 := cellS53_2 HGz8
      have hfz8_0 := blk_frozen HGz8 0
      have hfz8_1 := blk_frozen HGz8 1
      have hfz8_2 := blk_frozen HGz8 2
      clear HGz8 hgz8
      go_wp2
      go_meet
      case rel => exact ⟨_, (!x366002_1), rs_, H', ⟨by have := HK1.out; first | omega | exact Nat.le_refl _⟩, ⟨vS_ HO_5.out⟩, ⟨by repeat (first | (with_reducible first | exact HI365.out | apply IsS53.alloc | apply IsS53.drewN | apply IsS53.drew | apply IsS53.set_0 | apply IsS53.set_1 | apply IsS53.set_2) | exact HI365.out)⟩, ⟨by repeat (first | (with_reducible first | exact HB.out | apply below_alloc | apply pw_below_drewN | apply below_drew1 | refine below_set ?_ (IsS53.ge HI365.out)) | exact HB.out)⟩⟩
    · replace c7 := Bool.eq_false_iff.mpr c7
      subst c7
      rw [if_neg nf_] at H
      have H' := A_ H
      clear H
      go_wp2
      go_meet
      case rel => exact ⟨_, (false), rs_, H', ⟨by have := HK1.out; first | omega | exact Nat.le_refl _⟩, ⟨vS_ HO_5.out⟩, ⟨by repeat (first | (with_reducible first | exact HI365.out | apply IsS53.alloc | apply IsS53.drewN | apply IsS53.drew | apply IsS53.set_0 | apply IsS53.set_1 | apply IsS53.set_2) | exact HI365.out)⟩, ⟨by repeat (first | (with_reducible first | exact HB.out | apply below_alloc | apply pw_below_drewN | apply below_drew1 | refine below_set ?_ (IsS53.ge HI365.out)) | exact HB.out)⟩⟩
   case rest =>
    clear HC6
    try clear c1
    try clear p2
    try clear c7
    try clear hcz8_0
    try clear hcz8_1
    try clear hcz8_2
    try clear hfz8_0
    try clear hfz8_1
    try clear hfz8_2
    try clear p2
    obtain ⟨kq, x19_5, rfl, HA, HJ5, HO_5, HI365, HB⟩ := hcut
    cases kq with
    | zero => exact absurd HA.out (by simp [spec_ParseIf.j1])
    | succ kj5 =>
     have H := HA.out
     clear HA
     simp only [spec_ParseIf.j1] at H
     by_cases c9 : x19_5 = true
     · subst c9
       rw [if_pos rfl] at H
       obtain ⟨⟨t375, t378, t379, t380⟩, A10, H⟩ := bo_ H
       (try dsimp only at H)
       by_cases c11 : x5_1.length < 5864062014805
       rotate_left
       · exact absurd H (by rw [if_neg c11]; simp)
       rw [if_pos c11] at H
       have LMc11 := A_ c11
       clear c11
       obtain ⟨y381, hy381⟩ : ∃ y_ : List (List (S43)), y_ = (x5_1 ++ [t375]) := ⟨_, rfl⟩
       replace H : (spec_ParseIf.l1 kj5 a0 y381 (decide (t379 < (a0.size : Int))) t378 t379 t380) = some (r1, r2) := hy_ hy381 H
       have Ny381 := A_ hy381
       clear hy381
       have H' := A_ H
       clear H
       go_wp2_with (first | ((with_reducible refine gc_ (f := 29) rfl ?_); refine gL_ (some 21) Tryz.func29 #[.pointer (some ⟨g365, 0, none⟩)] ?_; (with_reducible refine (spec_l14List.calls kj5 g365 x366000_1 x366001_1 x366002_1 t375 t378 t379 t380 w _ ?s1 ?s2 A10.out).mono ?_); (case s1 => repeat (first | (with_reducible first | exact HI365.out | apply IsS53.alloc | apply IsS53.drewN | apply IsS53.drew | apply IsS53.set_0 | apply IsS53.set_1 | apply IsS53.set_2) | exact HI365.out)); (case s2 => repeat (first | (with_reducible first | exact HB.out | apply below_alloc | apply pw_below_drewN | apply below_drew1 | refine below_set ?_ (IsS53.ge HI365.out)) | exact HB.out)); rintro e w12 ⟨v376, rfl, ho0, hi, hb, hk⟩; refine ⟨_, rfl, ?_⟩; replace HO_5 := A_ (Kd.S_mono (Kd.S_told (Kd.S_oldK (IsS53.apartS (show IsS53 w _ g365 x366000_1 x366001_1 x366002_1 from by repeat (first | (with_reducible first | exact HI365.out | apply IsS53.alloc | apply IsS53.drewN | apply IsS53.drew | apply IsS53.set_0 | apply IsS53.set_1 | apply IsS53.set_2) | exact HI365.out)) (vS_ HO_5.out) (by decide)) hk) (kb_ ho0)) (fun _ h_ => h_.1)); have HO377 := A_ (Kd.R_lower ho0 (below_size (by repeat (first | (with_reducible first | exact HB.out | apply below_alloc | apply pw_below_drewN | apply below_drew1 | refine below_set ?_ (IsS53.ge HI365.out)) | exact HB.out)))); replace HB := A_ (hb); replace HI365 := A_ (hi); (try clear hb); (try clear hk); (try clear hi); (try clear ho0); obtain ⟨Ao14, co14, eo14⟩ := Kd.R_slice HO377.out; subst eo14) | ((with_reducible refine gate_builtin (b := .append) (xs := #[.tmp 22, .tmp 24]) rfl ?_); (try (refine gate_guard (by rfl) ?_; dsimp only)); at_builtin; refine Kd.S_append (Kd.slice 43 k43) (w0 := w) w.heap.size rfl (.tmp 22) (.tmp 24) 24 41 (.slice none 0 0) 24 rfl Tryz.underlying24 info41 rfl (by decide) (by omega) u5 x5_1 t375 [.slice Ao14 t375.length co14] (fun _ => True) (fun k_ => some k_ = (.slice Ao14 t375.length co14 : Value).ownBlock) rfl rfl ?aP (fun k_ hk_ => ((Kd.R_mono (ok' := fun k_ => ((fun _ => True)) k_ ∧ some k_ ≠ (u5 : Value).ownBlock) (Kd.R_apart' (HO377.out) (Kd.S_typed HO_5.out) (by decide)) (fun k_ hk => ⟨trivial, hk.2⟩))).1 k_ hk_.symm) ?aF ?aO ?aB ?aS ?aL ?_; (case aP => exact Kd.M_row (Kd.R_mono (Kd.R_tight rfl (Kd.R_mono (ok' := fun k_ => ((fun _ => True)) k_ ∧ some k_ ≠ (u5 : Value).ownBlock) (Kd.R_apart' (HO377.out) (Kd.S_typed HO_5.out) (by decide)) (fun k_ hk => ⟨trivial, hk.2⟩))) (fun _ h_ => h_))); (case aB => exact (by repeat (first | (with_reducible first | exact HB.out | apply below_alloc | apply pw_below_drewN | apply below_drew1 | refine below_set ?_ (IsS53.ge HI365.out)) | exact HB.out))); (case aF => exact (fun _ _ => trivial)); (case aO => exact (by (with_reducible repeat (first | apply Kd.S_alloc | apply Kd.S_drewN | apply Kd.S_drew)); exact Kd.S_mono HO_5.out (fun k_ hk => ⟨trivial, fun e_ => hk.2 e_⟩))); (case aS => exact (below_size (by repeat (first | (with_reducible first | exact HB.out | apply below_alloc | apply pw_below_drewN | apply below_drew1 | refine below_set ?_ (IsS53.ge HI365.out)) | exact HB.out)))); (case aL => have := LMc11.out; omega); intro v382 w13 ho hb hg hat; rw [← Ny381.out] at ho; replace HI365 := A_ (IsS53.grown (by repeat (first | (with_reducible first | exact HI365.out | apply IsS53.alloc | apply IsS53.drewN | apply IsS53.drew | apply IsS53.set_0 | apply IsS53.set_1 | apply IsS53.set_2) | exact HI365.out)) hg (IsS53.own_neS HI365.out HO_5.out (by decide))); replace HB := A_ (hb); have HO383 := A_ (ho); clear HO_5 HO377; clear ho hb hg hat; obtain ⟨HGz15, hgz15⟩ := HI365.out; have hcz15_0 := cellS53_0 HGz15; have hcz15_1 := cellS53_1 HGz15; have hcz15_2 := cellS53_2 HGz15; have hfz15_0 := blk_frozen HGz15 0; have hfz15_1 := blk_frozen HGz15 1; have hfz15_2 := blk_frozen HGz15 2; clear HGz15 hgz15))
       go_loopg [] kj5 (fun kq w' => ∃ (x366000_3 : ByteArray) (x366001_3 : Int) (x366002_3 : Bool), Aside0 (spec_ParseIf.l1 kq a0 y381 (decide (t379 < (a0.size : Int))) x366000_3 x366001_3 x366002_3 = some (r1, r2)) ∧ Aside0 (kq ≤ kj5) ∧ Aside0 (Kd.S (Kd.slice 43 k43) 41 w' w.heap.size (fun _ => True) v382 y381) ∧ Aside0 (IsS53 w w' g365 x366000_3 x366001_3 x366002_3) ∧ Aside0 (Below w.heap.size w w'))
       case atStart => exact ⟨(t378), (t379), (t380), H', ⟨Nat.le_refl _⟩, ⟨vS_ HO383.out⟩, ⟨by repeat (first | (with_reducible first | exact HI365.out | apply IsS53.alloc | apply IsS53.drewN | apply IsS53.drew | apply IsS53.set_0 | apply IsS53.set_1 | apply IsS53.set_2) | exact HI365.out)⟩, ⟨by repeat (first | (with_reducible first | exact HB.out | apply below_alloc | apply pw_below_drewN | apply below_drew1 | refine below_set ?_ (IsS53.ge HI365.out)) | exact HB.out)⟩⟩
       case round =>
        clear H'
        try clear c1
        try clear c2
        try clear p2
        try clear c7
        try clear c9
        try clear c10
        try clear c11
        try clear hcz15_0
        try clear hcz15_1
        try clear hcz15_2
        try clear hcz8_0
        try clear hcz8_1
        try clear hcz8_2
        try clear hfz15_0
        try clear hfz15_1
        try clear hfz15_2
        try clear hfz8_0
        try clear hfz8_1
        try clear hfz8_2
        try clear p2
        obtain ⟨x366000_3, x366001_3, x366002_3, HA, HK3, HO_5, HI365, HB⟩ := hrel
        cases gk with
        | zero => exact absurd HA.out (by simp [spec_ParseIf.l1])
        | succ k3 =>
         have H := HA.out
         clear HA
         simp only [spec_ParseIf.l1] at H
         by_cases c16 : (decide (t379 < (a0.size : Int))) = true
         rotate_left
         · rw [if_neg c16] at H
           have c16b0 : (decide (t379 < (a0.size : Int))) = false := by simpa using c16
           clear c16
           have H' := A_ H
           clear H
           go_wp2
           refine handed_put 6 (.bool (decide (t379 < (a0.size : Int)))) ?_ ?_
           rotate_left
           · simp only [Act.put, List.setIfInBounds_toArray, List.set_cons_zero, List.set_cons_succ]
             rw [c16b0]
           simp only [Act.put, List.setIfInBounds_toArray, List.set_cons_zero, List.set_cons_succ]
           refine handed_put 32 (.bool (decide (t379 < (a0.size : Int)))) ?_ ?_
           rotate_left
           · simp only [Act.put, List.setIfInBounds_toArray, List.set_cons_zero, List.set_cons_succ]
             rw [c16b0]
           simp only [Act.put, List.setIfInBounds_toArray, List.set_cons_zero, List.set_cons_succ]
           go_roundg k3
           case measure => have := HK1.out; have := HJ5.out; have := HK3.out; omega
           case rel => exact ⟨(y381), ((decide (t379 < (a0.size : Int)))), (x366000_3), (x366001_3), (x366002_3), rs_, H', ⟨by have := HK1.out; have := HJ5.out; have := HK3.out; omega⟩, ⟨vS_ HO_5.out⟩, ⟨by repeat (first | (with_reducible first | exact HI365.out | apply IsS53.alloc | apply IsS53.drewN | apply IsS53.drew | apply IsS53.set_0 | apply IsS53.set_1 | apply IsS53.set_2) | exact HI365.out)⟩, ⟨by repeat (first | (with_reducible first | exact HB.out | apply below_alloc | apply pw_below_drewN | apply below_drew1 | refine below_set ?_ (IsS53.ge HI365.out)) | exact HB.out)⟩⟩
         rw [if_pos c16] at H
         have c16b0 : (decide (t379 < (a0.size : Int))) = true := c16
         clear c16
         obtain ⟨⟨t384, t385, t386, t387⟩, A17, H⟩ := bo_ H
         (try dsimp only at H)
         by_cases c18 : t384 = true
         · subst c18
           rw [if_pos rfl] at H
           by_cases c19 : t387 = true
           · subst c19
             rw [if_pos rfl] at H
             have H' := A_ H
             clear H
             go_wp2_with (first | (go_at_call 30; (with_reducible refine (spec_l14Is.calls g365 x366000_3 x366001_3 x366002_3 (⟨#[32]⟩ : ByteArray) true t385 t386 true w _ ?s1 ?s2 A17.out).mono ?_); (case s1 => repeat (first | (with_reducible first | exact HI365.out | apply IsS53.alloc | apply IsS53.drewN | apply IsS53.drew | apply IsS53.set_0 | apply IsS53.set_1 | apply IsS53.set_2) | exact HI365.out)); (case s2 => repeat (first | (with_reducible first | exact HB.out | apply below_alloc | apply pw_below_drewN | apply below_drew1 | refine below_set ?_ (IsS53.ge HI365.out)) | exact HB.out)); rintro e w20 ⟨rfl, hi, hb, hk⟩; replace HO_5 := A_ (Kd.S_mono (Kd.S_keep (IsS53.apartS (show IsS53 w _ g365 x366000_3 x366001_3 x366002_3 from by repeat (first | (with_reducible first | exact HI365.out | apply IsS53.alloc | apply IsS53.drewN | apply IsS53.drew | apply IsS53.set_0 | apply IsS53.set_1 | apply IsS53.set_2) | exact HI365.out)) (vS_ HO_5.out) (by decide)) hk (fun _ h => h.2)) (fun _ h => h.1)); replace HB := A_ (hb); replace HI365 := A_ (hi); (try clear hb); (try clear hk); (try clear hi); obtain ⟨HGz21, hgz21⟩ := HI365.out; have hcz21_0 := cellS53_0 HGz21; have hcz21_1 := cellS53_1 HGz21; have hcz21_2 := cellS53_2 HGz21; have hfz21_0 := blk_frozen HGz21 0; have hfz21_1 := blk_frozen HGz21 1; have hfz21_2 := blk_frozen HGz21 2; clear HGz21 hgz21))
             refine handed_put 6 (.bool (decide (t379 < (a0.size : Int)))) ?_ ?_
             rotate_left
             · simp only [Act.put, List.setIfInBounds_toArray, List.set_cons_zero, List.set_cons_succ]
               rw [c16b0]
             simp only [Act.put, List.setIfInBounds_toArray, List.set_cons_zero, List.set_cons_succ]
             refine handed_put 32 (.bool (decide (t379 < (a0.size : Int)))) ?_ ?_
             rotate_left
             · simp only [Act.put, List.setIfInBounds_toArray, List.set_cons_zero, List.set_cons_succ]
               rw [c16b0]
             simp only [Act.put, List.setIfInBounds_toArray, List.set_cons_zero, List.set_cons_succ]
             go_roundg k3
             case measure => have := HK1.out; have := HJ5.out; have := HK3.out; omega
             case rel => exact ⟨(t385), (t386), (true), H', ⟨by have := HK1.out; have := HJ5.out; have := HK3.out; omega⟩, ⟨by (with_reducible repeat (first | apply Kd.S_alloc | apply Kd.S_drewN | apply Kd.S_drew)); exact Kd.S_mono (Kd.S_far (p := ⟨g365, 2, none⟩) (IsS53.apartS HI365.out HO_5.out (by decide)) (fun _ hk => hk.2) (.bool true)) (fun _ hk => trivial)⟩, ⟨by repeat (first | (with_reducible first | exact HI365.out | apply IsS53.alloc | apply IsS53.drewN | apply IsS53.drew | apply IsS53.set_0 | apply IsS53.set_1 | apply IsS53.set_2) | exact HI365.out)⟩, ⟨by repeat (first | (with_reducible first | exact HB.out | apply below_alloc | apply pw_below_drewN | apply below_drew1 | refine below_set ?_ (IsS53.ge HI365.out)) | exact HB.out)⟩⟩
           · replace c19 := Bool.eq_false_iff.mpr c19
             subst c19
             rw [if_neg nf_] at H
             have H' := A_ H
             clear H
             go_wp2_with (first | (go_at_call 30; (with_reducible refine (spec_l14Is.calls g365 x366000_3 x366001_3 x366002_3 (⟨#[32]⟩ : ByteArray) true t385 t386 false w _ ?s1 ?s2 A17.out).mono ?_); (case s1 => repeat (first | (with_reducible first | exact HI365.out | apply IsS53.alloc | apply IsS53.drewN | apply IsS53.drew | apply IsS53.set_0 | apply IsS53.set_1 | apply IsS53.set_2) | exact HI365.out)); (case s2 => repeat (first | (with_reducible first | exact HB.out | apply below_alloc | apply pw_below_drewN | apply below_drew1 | refine below_set ?_ (IsS53.ge HI365.out)) | exact HB.out)); rintro e w22 ⟨rfl, hi, hb, hk⟩; replace HO_5 := A_ (Kd.S_mono (Kd.S_keep (IsS53.apartS (show IsS53 w _ g365 x366000_3 x366001_3 x366002_3 from by repeat (first | (with_reducible first | exact HI365.out | apply IsS53.alloc | apply IsS53.drewN | apply IsS53.drew | apply IsS53.set_0 | apply IsS53.set_1 | apply IsS53.set_2) | exact HI365.out)) (vS_ HO_5.out) (by decide)) hk (fun _ h => h.2)) (fun _ h => h.1)); replace HB := A_ (hb); replace HI365 := A_ (hi); (try clear hb); (try clear hk); (try clear hi); obtain ⟨HGz23, hgz23⟩ := HI365.out; have hcz23_0 := cellS53_0 HGz23; have hcz23_1 := cellS53_1 HGz23; have hcz23_2 := cellS53_2 HGz23; have hfz23_0 := blk_frozen HGz23 0; have hfz23_1 := blk_frozen HGz23 1; have hfz23_2 := blk_frozen HGz23 2; clear HGz23 hgz23))
             refine handed_put 6 (.bool (decide (t379 < (a0.size : Int)))) ?_ ?_
             rotate_left
             · simp only [Act.put, List.setIfInBounds_toArray, List.set_cons_zero, List.set_cons_succ]
               rw [c16b0]
             simp only [Act.put, List.setIfInBounds_toArray, List.set_cons_zero, List.set_cons_succ]
             refine handed_put 32 (.bool (decide (t379 < (a0.size : Int)))) ?_ ?_
             rotate_left
             · simp only [Act.put, List.setIfInBounds_toArray, List.set_cons_zero, List.set_cons_succ]
               rw [c16b0]
             simp only [Act.put, List.setIfInBounds_toArray, List.set_cons_zero, List.set_cons_succ]
             go_roundg k3
             case measure => have := HK1.out; have := HJ5.out; have := HK3.out; omega
             case rel => exact ⟨(t385), (t386), ((t386 == (a0.size : Int))), H', ⟨by have := HK1.out; have := HJ5.out; have := HK3.out; omega⟩, ⟨by (with_reducible repeat (first | apply Kd.S_alloc | apply Kd.S_drewN | apply Kd.S_drew)); exact Kd.S_mono (Kd.S_far (p := ⟨g365, 2, none⟩) (IsS53.apartS HI365.out HO_5.out (by decide)) (fun _ hk => hk.2) (.bool (t386 == (a0.size : Int)))) (fun _ hk => trivial)⟩, ⟨by repeat (first | (with_reducible first | exact HI365.out | apply IsS53.alloc | apply IsS53.drewN | apply IsS53.drew | apply IsS53.set_0 | apply IsS53.set_1 | apply IsS53.set_2) | exact HI365.out)⟩, ⟨by repeat (first | (with_reducible first | exact HB.out | apply below_alloc | apply pw_below_drewN | apply below_drew1 | refine below_set ?_ (IsS53.ge HI365.out)) | exact HB.out)⟩⟩
         · replace c18 := Bool.eq_false_iff.mpr c18
           subst c18
           rw [if_neg nf_] at H
           have H' := A_ H
           clear H
           go_wp2_with (first | (go_at_call 30; (with_reducible refine (spec_l14Is.calls g365 x366000_3 x366001_3 x366002_3 (⟨#[32]⟩ : ByteArray) false t385 t386 t387 w _ ?s1 ?s2 A17.out).mono ?_); (case s1 => repeat (first | (with_reducible first | exact HI365.out | apply IsS53.alloc | apply IsS53.drewN | apply IsS53.drew | apply IsS53.set_0 | apply IsS53.set_1 | apply IsS53.set_2) | exact HI365.out)); (case s2 => repeat (first | (with_reducible first | exact HB.out | apply below_alloc | apply pw_below_drewN | apply below_drew1 | refine below_set ?_ (IsS53.ge HI365.out)) | exact HB.out)); rintro e w24 ⟨rfl, hi, hb, hk⟩; replace HO_5 := A_ (Kd.S_mono (Kd.S_keep (IsS53.apartS (show IsS53 w _ g365 x366000_3 x366001_3 x366002_3 from by repeat (first | (with_reducible first | exact HI365.out | apply IsS53.alloc | apply IsS53.drewN | apply IsS53.drew | apply IsS53.set_0 | apply IsS53.set_1 | apply IsS53.set_2) | exact HI365.out)) (vS_ HO_5.out) (by decide)) hk (fun _ h => h.2)) (fun _ h => h.1)); replace HB := A_ (hb); replace HI365 := A_ (hi); (try clear hb); (try clear hk); (try clear hi)))
           refine handed_put 6 (.bool (decide (t379 < (a0.size : Int)))) ?_ ?_
           rotate_left
           · simp only [Act.put, List.setIfInBounds_toArray, List.set_cons_zero, List.set_cons_succ]
             rw [c16b0]
           simp only [Act.put, List.setIfInBounds_toArray, List.set_cons_zero, List.set_cons_succ]
           refine handed_put 32 (.bool (decide (t379 < (a0.size : Int)))) ?_ ?_
           rotate_left
           · simp only [Act.put, List.setIfInBounds_toArray, List.set_cons_zero, List.set_cons_succ]
             rw [c16b0]
           simp only [Act.put, List.setIfInBounds_toArray, List.set_cons_zero, List.set_cons_succ]
           go_roundg k3
           case measure => have := HK1.out; have := HJ5.out; have := HK3.out; omega
           case rel => exact ⟨(y381), ((decide (t379 < (a0.size : Int)))), (t385), (t386), (t387), rs_, H', ⟨by have := HK1.out; have := HJ5.out; have := HK3.out; omega⟩, ⟨vS_ HO_5.out⟩, ⟨by repeat (first | (with_reducible first | exact HI365.out | apply IsS53.alloc | apply IsS53.drewN | apply IsS53.drew | apply IsS53.set_0 | apply IsS53.set_1 | apply IsS53.set_2) | exact HI365.out)⟩, ⟨by repeat (first | (with_reducible first | exact HB.out | apply below_alloc | apply pw_below_drewN | apply below_drew1 | refine below_set ?_ (IsS53.ge HI365.out)) | exact HB.out)⟩⟩
     · replace c9 := Bool.eq_false_iff.mpr c9
       subst c9
       rw [if_neg nf_] at H
       by_cases c25 : x366002_1 = true
       · subst c25
         rw [if_pos rfl] at H
         obtain ⟨y369, hy369⟩ : ∃ y_ : List (List (S43)), y_ = (([] : List (List (S43)))) := ⟨_, rfl⟩
         replace H : (some (y369, false)) = some (r1, r2) := hy_ hy369 H
         have Ny369 := A_ hy369
         clear hy369
         simp only [Option.some.injEq, Prod.mk.injEq] at H
         obtain ⟨rfl, rfl⟩ := H
         obtain ⟨HGz26, hgz26⟩ := HI365.out
         have hcz26_0 := cellS53_0 HGz26
         have hcz26_1 := cellS53_1 HGz26
         have hcz26_2 := cellS53_2 HGz26
         have hfz26_0 := blk_frozen HGz26 0
         have hfz26_1 := blk_frozen HGz26 1
         have hfz26_2 := blk_frozen HGz26 2
         clear HGz26 hgz26
         go_wp2_with (first | ((with_reducible refine gd_ (N := 63) rfl ?_); (try (refine gate_guard (by rfl) ?_; dsimp only)); refine Kd.S_lit (Kd.slice 43 k43) _ 41 ?hg (N := 63) ?hd (xs := ([] : List (List (S43)))) (inner := []) (ok := fun _ => True) (okp := fun _ => True) ?hr ?hp (fun _ hk => hk) trivial (Below.refl _ _) (Nat.le_refl _) (by simp) ?_; (case hd => rfl); (case hg => rfl); (case hr => first | (go_simp; done) | (go_simp; rfl)); (case hp => exact (Reps.none _ _)); intro v370 w27 ho28 hb hg_ hnew_; clear hg_ hnew_; (first | rw [← Ny369.out] at ho28 | (simp only [Int.reduceToNat] at ho28; rw [← Ny369.out] at ho28)); have HO371 := A_ (Kd.S_lower (Kd.S_new' ho28 (Kd.S_lt (vS_ HO_5.out))) (below_size (by repeat (first | (with_reducible first | exact HB.out | apply below_alloc | apply pw_below_drewN | apply below_drew1 | refine below_set ?_ (IsS53.ge HI365.out)) | exact HB.out)))); replace HO_5 := A_ (Kd.S_elder' (vS_ HO_5.out) (kb_ ho28) hb); replace HB := A_ (below_step (by repeat (first | (with_reducible first | exact HB.out | apply below_alloc | apply pw_below_drewN | apply below_drew1 | refine below_set ?_ (IsS53.ge HI365.out)) | exact HB.out)) hb); replace HI365 := A_ (IsS53.below (by repeat (first | (with_reducible first | exact HI365.out | apply IsS53.alloc | apply IsS53.drewN | apply IsS53.drew | apply IsS53.set_0 | apply IsS53.set_1 | apply IsS53.set_2) | exact HI365.out)) hb); clear hb ho28))
         go_ret2
         exact ⟨_, rr_, by (with_reducible repeat (first | apply Kd.S_alloc | apply Kd.S_drewN | apply Kd.S_drew)); exact Kd.S_mono HO371.out (fun _ hk => trivial), by repeat (first | (with_reducible first | exact HB.out | apply below_alloc | apply pw_below_drewN | apply below_drew1 | refine below_set ?_ (IsS53.ge HI365.out)) | exact HB.out)⟩
       · replace c25 := Bool.eq_false_iff.mpr c25
         subst c25
         rw [if_neg nf_] at H
         by_cases c29 : (x5_1.length : Int) > 4
         rotate_left
         · rw [if_neg c29] at H
           have c29b0 : decide (4 < (x5_1.length : Int)) = false := decide_eq_false c29
           have c29b1 : decide (4 < x5_1.length) = false := decide_eq_false (by omega)
           clear c29
           simp only [Option.some.injEq, Prod.mk.injEq] at H
           obtain ⟨rfl, rfl⟩ := H
           obtain ⟨HGz34, hgz34⟩ := HI365.out
           have hcz34_0 := cellS53_0 HGz34
           have hcz34_1 := cellS53_1 HGz34
           have hcz34_2 := cellS53_2 HGz34
           have hfz34_0 := blk_frozen HGz34 0
           have hfz34_1 := blk_frozen HGz34 1
           have hfz34_2 := blk_frozen HGz34 2
           clear HGz34 hgz34
           obtain ⟨Ao35, co35, eo35⟩ := Kd.S_slice HO_5.out
           subst eo35
           go_wp2
           go_ret2
           exact ⟨_, rr_, by (with_reducible repeat (first | apply Kd.S_alloc | apply Kd.S_drewN | apply Kd.S_drew)); exact HO_5.out, by repeat (first | (with_reducible first | exact HB.out | apply below_alloc | apply pw_below_drewN | apply below_drew1 | refine below_set ?_ (IsS53.ge HI365.out)) | exact HB.out)⟩
         rw [if_pos c29] at H
         have c29b0 : decide (4 < (x5_1.length : Int)) = true := decide_eq_true c29
         have c29b1 : decide (4 < x5_1.length) = true := decide_eq_true (by omega)
         clear c29
         obtain ⟨y372, hy372⟩ : ∃ y_ : List (List (S43)), y_ = (([] : List (List (S43)))) := ⟨_, rfl⟩
         replace H : (some (y372, false)) = some (r1, r2) := hy_ hy372 H
         have Ny372 := A_ hy372
         clear hy372
         simp only [Option.some.injEq, Prod.mk.injEq] at H
         obtain ⟨rfl, rfl⟩ := H
         obtain ⟨HGz30, hgz30⟩ := HI365.out
         have hcz30_0 := cellS53_0 HGz30
         have hcz30_1 := cellS53_1 HGz30
         have hcz30_2 := cellS53_2 HGz30
         have hfz30_0 := blk_frozen HGz30 0
         have hfz30_1 := blk_frozen HGz30 1
         have hfz30_2 := blk_frozen HGz30 2
         clear HGz30 hgz30
         obtain ⟨Ao31, co31, eo31⟩ := Kd.S_slice HO_5.out
         subst eo31
         go_wp2_with (first | ((with_reducible refine gd_ (N := 63) rfl ?_); (try (refine gate_guard (by rfl) ?_; dsimp only)); refine Kd.S_lit (Kd.slice 43 k43) _ 41 ?hg (N := 63) ?hd (xs := ([] : List (List (S43)))) (inner := []) (ok := fun _ => True) (okp := fun _ => True) ?hr ?hp (fun _ hk => hk) trivial (Below.refl _ _) (Nat.le_refl _) (by simp) ?_; (case hd => rfl); (case hg => rfl); (case hr => first | (go_simp; done) | (go_simp; rfl)); (case hp => exact (Reps.none _ _)); intro v373 w32 ho33 hb hg_ hnew_; clear hg_ hnew_; (first | rw [← Ny372.out] at ho33 | (simp only [Int.reduceToNat] at ho33; rw [← Ny372.out] at ho33)); have HO374 := A_ (Kd.S_lower (Kd.S_new' ho33 (Kd.S_lt (vS_ HO_5.out))) (below_size (by repeat (first | (with_reducible first | exact HB.out | apply below_alloc | apply pw_below_drewN | apply below_drew1 | refine below_set ?_ (IsS53.ge HI365.out)) | exact HB.out)))); replace HO_5 := A_ (Kd.S_elder' (vS_ HO_5.out) (kb_ ho33) hb); replace HB := A_ (below_step (by repeat (first | (with_reducible first | exact HB.out | apply below_alloc | apply pw_below_drewN | apply below_drew1 | refine below_set ?_ (IsS53.ge HI365.out)) | exact HB.out)) hb); replace HI365 := A_ (IsS53.below (by repeat (first | (with_reducible first | exact HI365.out | apply IsS53.alloc | apply IsS53.drewN | apply IsS53.drew | apply IsS53.set_0 | apply IsS53.set_1 | apply IsS53.set_2) | exact HI365.out)) hb); clear hb ho33))
         go_ret2
         exact ⟨_, rr_, by (with_reducible repeat (first | apply Kd.S_alloc | apply Kd.S_drewN | apply Kd.S_drew)); exact Kd.S_mono HO374.out (fun _ hk => trivial), by repeat (first | (with_reducible first | exact HB.out | apply below_alloc | apply pw_below_drewN | apply below_drew1 | refine below_set ?_ (IsS53.ge HI365.out)) | exact HB.out)⟩
def spec_l14OneText.f (k : Nat) (a0_0 : Bool) (a0_1 : Int) (a0_2 : ByteArray) : Option (ByteArray) := if a0_0 = true then (if a0_1 = 0 then (if 4 + 1 ≤ 9223372036854775807 then (if 4 + a0_2.size ≤ 9223372036854775807 then (if (((⟨#[78, 111, 116, 32]⟩ : ByteArray) ++ (⟨#[91]⟩ : ByteArray)) ++ a0_2).size + 1 ≤ 9223372036854775807 then (some ((((⟨#[78, 111, 116, 32]⟩ : ByteArray) ++ (⟨#[91]⟩ : ByteArray)) ++ a0_2) ++ (⟨#[93]⟩ : ByteArray))) else (none)) else (none)) else (none)) else (if 4 + 1 ≤ 9223372036854775807 then ((spec_NumText.f k a0_1).bind fun t389 => (if 4 + t389.size ≤ 9223372036854775807 then (if (((⟨#[78, 111, 116, 32]⟩ : ByteArray) ++ (⟨#[60]⟩ : ByteArray)) ++ t389).size + 1 ≤ 9223372036854775807 then (some ((((⟨#[78, 111, 116, 32]⟩ : ByteArray) ++ (⟨#[60]⟩ : ByteArray)) ++ t389) ++ (⟨#[62]⟩ : ByteArray))) else (none)) else (none))) else (none))) else (if a0_1 = 0 then (if 0 + 1 ≤ 9223372036854775807 then (if 1 + a0_2.size ≤ 9223372036854775807 then (if (((⟨#[]⟩ : ByteArray) ++ (⟨#[91]⟩ : ByteArray)) ++ a0_2).size + 1 ≤ 9223372036854775807 then (some ((((⟨#[]⟩ : ByteArray) ++ (⟨#[91]⟩ : ByteArray)) ++ a0_2) ++ (⟨#[93]⟩ : ByteArray))) else (none)) else (none)) else (none)) else (if 0 + 1 ≤ 9223372036854775807 then ((spec_NumText.f k a0_1).bind fun t390 => (if 1 + t390.size ≤ 9223372036854775807 then (if (((⟨#[]⟩ : ByteArray) ++ (⟨#[60]⟩ : ByteArray)) ++ t390).size + 1 ≤ 9223372036854775807 then (some ((((⟨#[]⟩ : ByteArray) ++ (⟨#[60]⟩ : ByteArray)) ++ t390) ++ (⟨#[62]⟩ : ByteArray))) else (none)) else (none))) else (none)))
theorem spec_l14OneText.calls (k : Nat) (a0_0 : Bool) (a0_1 : Int) (a0_2 : ByteArray) (r : ByteArray) (w : World) (h : spec_l14OneText.f k a0_0 a0_1 a0_2 = some r) :
 Calls Tryz.prog 32 #[.agg #[.bool a0_0, .int .i64 a0_1, .string a0_2]] w fun e w' => e = .returned (.string r) ∧ Below w.heap.size w w' := by
 have hu43 := Tryz.underlying43
 have HB := A_ (Below.refl w.heap.size w)
 have H : (if a0_0 = true then (if a0_1 = 0 then (if 4 + 1 ≤ 9223372036854775807 then (if 4 + a0_2.size ≤ 9223372036854775807 then (if (((⟨#[78, 111, 116, 32]⟩ : ByteArray) ++ (⟨#[91]⟩ : ByteArray)) ++ a0_2).size + 1 ≤ 9223372036854775807 then (some ((((⟨#[78, 111, 116, 32]⟩ : ByteArray) ++ (⟨#[91]⟩ : ByteArray)) ++ a0_2) ++ (⟨#[93]⟩ : ByteArray))) else (none)) else (none)) else (none)) else (if 4 + 1 ≤ 9223372036854775807 then ((spec_NumText.f k a0_1).bind fun t389 => (if 4 + t389.size ≤ 9223372036854775807 then (if (((⟨#[78, 111, 116, 32]⟩ : ByteArray) ++ (⟨#[60]⟩ : ByteArray)) ++ t389).size + 1 ≤ 9223372036854775807 then (some ((((⟨#[78, 111, 116, 32]⟩ : ByteArray) ++ (⟨#[60]⟩ : ByteArray)) ++ t389) ++ (⟨#[62]⟩ : ByteArray))) else (none)) else (none))) else (none))) else (if a0_1 = 0 then (if 0 + 1 ≤ 9223372036854775807 then (if 1 + a0_2.size ≤ 9223372036854775807 then (if (((⟨#[]⟩ : ByteArray) ++ (⟨#[91]⟩ : ByteArray)) ++ a0_2).size + 1 ≤ 9223372036854775807 then (some ((((⟨#[]⟩ : ByteArray) ++ (⟨#[91]⟩ : ByteArray)) ++ a0_2) ++ (⟨#[93]⟩ : ByteArray))) else (none)) else (none)) else (none)) else (if 0 + 1 ≤ 9223372036854775807 then ((spec_NumText.f k a0_1).bind fun t390 => (if 1 + t390.size ≤ 9223372036854775807 then (if (((⟨#[]⟩ : ByteArray) ++ (⟨#[60]⟩ : ByteArray)) ++ t390).size + 1 ≤ 9223372036854775807 then (some ((((⟨#[]⟩ : ByteArray) ++ (⟨#[60]⟩ : ByteArray)) ++ t390) ++ (⟨#[62]⟩ : ByteArray))) else (none)) else (none))) else (none)))) = some r := h
 clear h
 by_cases c2 : a0_0 = true
 · subst c2
   rw [if_pos rfl] at H
   by_cases c3 : a0_1 = 0
   · rw [if_pos c3] at H
     have c3b0 : (a0_1 == 0) = true := beq_iff_eq.mpr c3
     have c3b1 : (a0_1 != 0) = false := bne_eq_false_iff_eq.mpr c3
     clear c3
     by_cases c4 : 4 + 1 ≤ 9223372036854775807
     rotate_left
     · exact absurd H (by rw [if_neg c4]; simp)
     rw [if_pos c4] at H
     have c4b0 := eq_true c4
     have c4b1 : decide (4 + 1 ≤ 9223372036854775807) = true := decide_eq_true c4
     try have c4b2 : (9223372036854775807 < 4 + 1) = False := eq_false (Nat.not_lt.2 c4)
     by_cases c5 : 4 + a0_2.size ≤ 9223372036854775807
     rotate_left
     · exact absurd H (by rw [if_neg c5]; simp)
     rw [if_pos c5] at H
     have c5b0 := eq_true c5
     have c5b1 : decide (4 + a0_2.size ≤ 9223372036854775807) = true := decide_eq_true c5
     try have c5b2 : (9223372036854775807 < 4 + a0_2.size) = False := eq_false (Nat.not_lt.2 c5)
     by_cases c6 : (((⟨#[78, 111, 116, 32]⟩ : ByteArray) ++ (⟨#[91]⟩ : ByteArray)) ++ a0_2).size + 1 ≤ 9223372036854775807
     rotate_left
     · exact absurd H (by rw [if_neg c6]; simp)
     rw [if_pos c6] at H
     have c6b0 := eq_true c6
     have c6b1 : decide ((((⟨#[78, 111, 116, 32]⟩ : ByteArray) ++ (⟨#[91]⟩ : ByteArray)) ++ a0_2).size + 1 ≤ 9223372036854775807) = true := decide_eq_true c6
     try have c6b2 : (9223372036854775807 < (((⟨#[78, 111, 116, 32]⟩ : ByteArray) ++ (⟨#[91]⟩ : ByteArray)) ++ a0_2).size + 1) = False := eq_false (Nat.not_lt.2 c6)
     try have c6b4 : (9223372036854775807 < 5 + a0_2.size) = False := eq_false (by have h_ := c6; simp only [ByteArray.size_append] at h_; replace h_ : 4 + 1 + a0_2.size + 1 ≤ 9223372036854775807 := h_; omega)
     try have c6b5 : (9223372036854775807 < 5 + a0_2.size + 1) = False := eq_false (by have h_ := c6; simp only [ByteArray.size_append] at h_; replace h_ : 4 + 1 + a0_2.size + 1 ≤ 9223372036854775807 := h_; omega)
     try have c6b3 : (9223372036854775807 < 4 + 1 + a0_2.size + 1) = False := eq_false (Nat.not_lt.2 (by have h_ := c6; simp only [ByteArray.size_append] at h_; exact h_))
     obtain rfl := si_ H
     go_enter Tryz.func32, Tryz.ntmps32
     go_wp2_with (first | ((with_reducible refine gd_ (N := 1) rfl ?_); refine bx_ (N := 1) (cs := #[.bool true, .int .i64 a0_1, .string a0_2]) (t := 43) ?_; intro gb388 hg w7 hbox hb; have BK388 := A_ (hbox); have GW388 := A_ (ge_ hg bB_ : w.heap.size ≤ gb388); have GE388 := A_ (ge_ hg bB_ : w.heap.size ≤ gb388); replace HB := A_ (below_step bB_ hb); clear hb hbox hg; obtain ⟨hcz8_0, hcz8_1, hcz8_2, hfz8_0, hfz8_1, hfz8_2⟩ := cz3_ BK388.out))
     go_ret
     exact ⟨rr_, bG_ GE388.out⟩
   rw [if_neg c3] at H
   have c3b0 : (a0_1 == 0) = false := beq_eq_false_iff_ne.mpr c3
   have c3b1 : (a0_1 != 0) = true := bne_iff_ne.mpr c3
   by_cases c9 : 4 + 1 ≤ 9223372036854775807
   rotate_left
   · exact absurd H (by rw [if_neg c9]; simp)
   rw [if_pos c9] at H
   have c9b0 := eq_true c9
   have c9b1 : decide (4 + 1 ≤ 9223372036854775807) = true := decide_eq_true c9
   try have c9b2 : (9223372036854775807 < 4 + 1) = False := eq_false (Nat.not_lt.2 c9)
   obtain ⟨t389, A10, H⟩ := bo_ H
   (try dsimp only at H)
   by_cases c11 : 4 + t389.size ≤ 9223372036854775807
   rotate_left
   · exact absurd H (by rw [if_neg c11]; simp)
   rw [if_pos c11] at H
   have c11b0 := eq_true c11
   have c11b1 : decide (4 + t389.size ≤ 9223372036854775807) = true := decide_eq_true c11
   try have c11b2 : (9223372036854775807 < 4 + t389.size) = False := eq_false (Nat.not_lt.2 c11)
   by_cases c12 : (((⟨#[78, 111, 116, 32]⟩ : ByteArray) ++ (⟨#[60]⟩ : ByteArray)) ++ t389).size + 1 ≤ 9223372036854775807
   rotate_left
   · exact absurd H (by rw [if_neg c12]; simp)
   rw [if_pos c12] at H
   have c12b0 := eq_true c12
   have c12b1 : decide ((((⟨#[78, 111, 116, 32]⟩ : ByteArray) ++ (⟨#[60]⟩ : ByteArray)) ++ t389).size + 1 ≤ 9223372036854775807) = true := decide_eq_true c12
   try have c12b2 : (9223372036854775807 < (((⟨#[78, 111, 116, 32]⟩ : ByteArray) ++ (⟨#[60]⟩ : ByteArray)) ++ t389).size + 1) = False := eq_false (Nat.not_lt.2 c12)
   try have c12b4 : (9223372036854775807 < 5 + t389.size) = False := eq_false (by have h_ := c12; simp only [ByteArray.size_append] at h_; replace h_ : 4 + 1 + t389.size + 1 ≤ 9223372036854775807 := h_; omega)
   try have c12b5 : (9223372036854775807 < 5 + t389.size + 1) = False := eq_false (by have h_ := c12; simp only [ByteArray.size_append] at h_; replace h_ : 4 + 1 + t389.size + 1 ≤ 9223372036854775807 := h_; omega)
   try have c12b3 : (9223372036854775807 < 4 + 1 + t389.size + 1) = False := eq_false (Nat.not_lt.2 (by have h_ := c12; simp only [ByteArray.size_append] at h_; exact h_))
   obtain rfl := si_ H
   go_enter Tryz.func32, Tryz.ntmps32
   go_wp2_with (first | ((with_reducible refine gd_ (N := 1) rfl ?_); refine bx_ (N := 1) (cs := #[.bool true, .int .i64 a0_1, .string a0_2]) (t := 43) ?_; intro gb388 hg w13 hbox hb; have BK388 := A_ (hbox); have GW388 := A_ (ge_ hg bB_ : w.heap.size ≤ gb388); have GE388 := A_ (ge_ hg bB_ : w.heap.size ≤ gb388); replace HB := A_ (below_step bB_ hb); clear hb hbox hg; obtain ⟨hcz14_0, hcz14_1, hcz14_2, hfz14_0, hfz14_1, hfz14_2⟩ := cz3_ BK388.out) | ((with_reducible refine gc_ (f := 53) rfl ?_); refine gL_ (some 13) Tryz.func53 #[.int .i64 a0_1] ?_; (with_reducible refine (spec_NumText.calls k a0_1 t389 _ A10.out).mono ?_); rintro e w15 ⟨rfl, hb⟩; refine ⟨_, rfl, ?_⟩; replace BK388 := A_ (bw_ BK388.out hb); replace HB := A_ (below_step (bG_ GE388.out) hb); (try clear hb)))
   go_ret
   exact ⟨rr_, bG_ GE388.out⟩
 · replace c2 := Bool.eq_false_iff.mpr c2
   subst c2
   rw [if_neg nf_] at H
   by_cases c16 : a0_1 = 0
   · rw [if_pos c16] at H
     have c16b0 : (a0_1 == 0) = true := beq_iff_eq.mpr c16
     have c16b1 : (a0_1 != 0) = false := bne_eq_false_iff_eq.mpr c16
     clear c16
     by_cases c17 : 0 + 1 ≤ 9223372036854775807
     rotate_left
     · exact absurd H (by rw [if_neg c17]; simp)
     rw [if_pos c17] at H
     have c17b0 := eq_true c17
     have c17b1 : decide (0 + 1 ≤ 9223372036854775807) = true := decide_eq_true c17
     try have c17b2 : (9223372036854775807 < 0 + 1) = False := eq_false (Nat.not_lt.2 c17)
     by_cases c18 : 1 + a0_2.size ≤ 9223372036854775807
     rotate_left
     · exact absurd H (by rw [if_neg c18]; simp)
     rw [if_pos c18] at H
     have c18b0 := eq_true c18
     have c18b1 : decide (1 + a0_2.size ≤ 9223372036854775807) = true := decide_eq_true c18
     try have c18b2 : (9223372036854775807 < 1 + a0_2.size) = False := eq_false (Nat.not_lt.2 c18)
     by_cases c19 : (((⟨#[]⟩ : ByteArray) ++ (⟨#[91]⟩ : ByteArray)) ++ a0_2).size + 1 ≤ 9223372036854775807
     rotate_left
     · exact absurd H (by rw [if_neg c19]; simp)
     rw [if_pos c19] at H
     have c19b0 := eq_true c19
     have c19b1 : decide ((((⟨#[]⟩ : ByteArray) ++ (⟨#[91]⟩ : ByteArray)) ++ a0_2).size + 1 ≤ 9223372036854775807) = true := decide_eq_true c19
     try have c19b2 : (9223372036854775807 < (((⟨#[]⟩ : ByteArray) ++ (⟨#[91]⟩ : ByteArray)) ++ a0_2).size + 1) = False := eq_false (Nat.not_lt.2 c19)
     try have c19b4 : (9223372036854775807 < 1 + a0_2.size) = False := eq_false (by have h_ := c19; simp only [ByteArray.size_append] at h_; replace h_ : 0 + 1 + a0_2.size + 1 ≤ 9223372036854775807 := h_; omega)
     try have c19b5 : (9223372036854775807 < 1 + a0_2.size + 1) = False := eq_false (by have h_ := c19; simp only [ByteArray.size_append] at h_; replace h_ : 0 + 1 + a0_2.size + 1 ≤ 9223372036854775807 := h_; omega)
     try have c19b3 : (9223372036854775807 < 0 + 1 + a0_2.size + 1) = False := eq_false (Nat.not_lt.2 (by have h_ := c19; simp only [ByteArray.size_append] at h_; exact h_))
     obtain rfl := si_ H
     go_enter Tryz.func32, Tryz.ntmps32
     go_wp2_with (first | ((with_reducible refine gd_ (N := 1) rfl ?_); refine bx_ (N := 1) (cs := #[.bool false, .int .i64 a0_1, .string a0_2]) (t := 43) ?_; intro gb388 hg w20 hbox hb; have BK388 := A_ (hbox); have GW388 := A_ (ge_ hg bB_ : w.heap.size ≤ gb388); have GE388 := A_ (ge_ hg bB_ : w.heap.size ≤ gb388); replace HB := A_ (below_step bB_ hb); clear hb hbox hg; obtain ⟨hcz21_0, hcz21_1, hcz21_2, hfz21_0, hfz21_1, hfz21_2⟩ := cz3_ BK388.out))
     go_ret
     exact ⟨rr_, bG_ GE388.out⟩
   rw [if_neg c16] at H
   have c16b0 : (a0_1 == 0) = false := beq_eq_false_iff_ne.mpr c16
   have c16b1 : (a0_1 != 0) = true := bne_iff_ne.mpr c16
   by_cases c22 : 0 + 1 ≤ 9223372036854775807
   rotate_left
   · exact absurd H (by rw [if_neg c22]; simp)
   rw [if_pos c22] at H
   have c22b0 := eq_true c22
   have c22b1 : decide (0 + 1 ≤ 9223372036854775807) = true := decide_eq_true c22
   try have c22b2 : (9223372036854775807 < 0 + 1) = False := eq_false (Nat.not_lt.2 c22)
   obtain ⟨t390, A23, H⟩ := bo_ H
   (try dsimp only at H)
   by_cases c24 : 1 + t390.size ≤ 9223372036854775807
   rotate_left
   · exact absurd H (by rw [if_neg c24]; simp)
   rw [if_pos c24] at H
   have c24b0 := eq_true c24
   have c24b1 : decide (1 + t390.size ≤ 9223372036854775807) = true := decide_eq_true c24
   try have c24b2 : (9223372036854775807 < 1 + t390.size) = False := eq_false (Nat.not_lt.2 c24)
   by_cases c25 : (((⟨#[]⟩ : ByteArray) ++ (⟨#[60]⟩ : ByteArray)) ++ t390).size + 1 ≤ 9223372036854775807
   rotate_left
   · exact absurd H (by rw [if_neg c25]; simp)
   rw [if_pos c25] at H
   have c25b0 := eq_true c25
   have c25b1 : decide ((((⟨#[]⟩ : ByteArray) ++ (⟨#[60]⟩ : ByteArray)) ++ t390).size + 1 ≤ 9223372036854775807) = true := decide_eq_true c25
   try have c25b2 : (9223372036854775807 < (((⟨#[]⟩ : ByteArray) ++ (⟨#[60]⟩ : ByteArray)) ++ t390).size + 1) = False := eq_false (Nat.not_lt.2 c25)
   try have c25b4 : (9223372036854775807 < 1 + t390.size) = False := eq_false (by have h_ := c25; simp only [ByteArray.size_append] at h_; replace h_ : 0 + 1 + t390.size + 1 ≤ 9223372036854775807 := h_; omega)
   try have c25b5 : (9223372036854775807 < 1 + t390.size + 1) = False := eq_false (by have h_ := c25; simp only [ByteArray.size_append] at h_; replace h_ : 0 + 1 + t390.size + 1 ≤ 9223372036854775807 := h_; omega)
   try have c25b3 : (9223372036854775807 < 0 + 1 + t390.size + 1) = False := eq_false (Nat.not_lt.2 (by have h_ := c25; simp only [ByteArray.size_append] at h_; exact h_))
   obtain rfl := si_ H
   go_enter Tryz.func32, Tryz.ntmps32
   go_wp2_with (first | ((with_reducible refine gd_ (N := 1) rfl ?_); refine bx_ (N := 1) (cs := #[.bool false, .int .i64 a0_1, .string a0_2]) (t := 43) ?_; intro gb388 hg w26 hbox hb; have BK388 := A_ (hbox); have GW388 := A_ (ge_ hg bB_ : w.heap.size ≤ gb388); have GE388 := A_ (ge_ hg bB_ : w.heap.size ≤ gb388); replace HB := A_ (below_step bB_ hb); clear hb hbox hg; obtain ⟨hcz27_0, hcz27_1, hcz27_2, hfz27_0, hfz27_1, hfz27_2⟩ := cz3_ BK388.out) | ((with_reducible refine gc_ (f := 53) rfl ?_); refine gL_ (some 13) Tryz.func53 #[.int .i64 a0_1] ?_; (with_reducible refine (spec_NumText.calls k a0_1 t390 _ A23.out).mono ?_); rintro e w28 ⟨rfl, hb⟩; refine ⟨_, rfl, ?_⟩; replace BK388 := A_ (bw_ BK388.out hb); replace HB := A_ (below_step (bG_ GE388.out) hb); (try clear hb)))
   go_ret
   exact ⟨rr_, bG_ GE388.out⟩
set_option maxHeartbeats 8000000
set_option maxRecDepth 100000
attribute [local go_sem high] eqA43
mutual
def spec_l14Same.l0 : Nat → List (List (S43)) → List (List (S43)) → Int → Option (Bool)
 | 0, _, _, _ => none
 | k + 1, x0, x1, x5 => if x5 < (x0.length : Int) then (if 0 ≤ x5 then (if x5 < (x1.length : Int) then (if ((rd_L5 x0 x5).length : Int) = ((rd_L5 x1 x5).length : Int) then (spec_l14Same.l1 k x0 x1 x5 0) else (some false)) else (none)) else (none)) else (some true)
def spec_l14Same.l1 : Nat → List (List (S43)) → List (List (S43)) → Int → Int → Option (Bool)
 | 0, _, _, _, _ => none
 | k + 1, x0, x1, x5, x6 => if 0 ≤ x5 then (if x5 < (x0.length : Int) then (if x6 < ((rd_L5 x0 x5).length : Int) then (if 0 ≤ x6 then (if x5 < (x1.length : Int) then (if x6 < ((rd_L5 x1 x5).length : Int) then (if (!(((rd_T43 (rd_L5 x0 x5) x6).f0) == ((rd_T43 (rd_L5 x1 x5) x6).f0)) || (!(((rd_T43 (rd_L5 x0 x5) x6).f1) == ((rd_T43 (rd_L5 x1 x5) x6).f1)) || (!((((rd_T43 (rd_L5 x0 x5) x6).f2).toList) == (((rd_T43 (rd_L5 x1 x5) x6).f2).toList))))) = true then (some false) else (spec_l14Same.l1 k x0 x1 x5 (wrap64 (x6 + 1)))) else (none)) else (none)) else (none)) else (spec_l14Same.l0 k x0 x1 (wrap64 (x5 + 1)))) else (none)) else (none)
end
def spec_l14Same.f (k : Nat) (l0 : List (List (S43))) (l1 : List (List (S43))) : Option (Bool) := if (l0.length : Int) = (l1.length : Int) then (spec_l14Same.l0 k l0 l1 0) else (some false)
theorem spec_l14Same.calls (k : Nat) (A0 : Option Addr) (c0 : Nat) (l0 : List (List (S43))) (A1 : Option Addr) (c1 : Nat) (l1 : List (List (S43))) (r : Bool) (w : World) (hr0 : Kd.C (Kd.slice 43 k43) w A0 l0.length l0) (hc0 : l0.length ≤ c0) (hr1 : Kd.C (Kd.slice 43 k43) w A1 l1.length l1) (hc1 : l1.length ≤ c1) (h : spec_l14Same.f k l0 l1 = some r) :
 Calls Tryz.prog 33 #[.slice A0 l0.length c0, .slice A1 l1.length c1] w fun e w' => e = .returned (.bool r) ∧ Drawn0 w w' := by
 have hu43 := Tryz.underlying43
 have HR0 := A_ hr0
 have HC0 := A_ hc0
 clear hr0 hc0
 have HR1 := A_ hr1
 have HC1 := A_ hc1
 clear hr1 hc1
 have H : (if (l0.length : Int) = (l1.length : Int) then (spec_l14Same.l0 k l0 l1 0) else (some false)) = some r := h
 clear h
 by_cases c3 : (l0.length : Int) = (l1.length : Int)
 rotate_left
 · rw [if_neg c3] at H
   have c3b0 : ((l0.length : Int) == (l1.length : Int)) = false := beq_eq_false_iff_ne.mpr c3
   have c3b1 : ((l0.length : Int) != (l1.length : Int)) = true := bne_iff_ne.mpr c3
   have c3b2 : (l0.length == l1.length) = false := by first | simpa using c3 | (simp at c3 ⊢; omega)
   obtain rfl := si_ H
   go_enter Tryz.func33, Tryz.ntmps33
   go_wp2
   repeat (go_quiet (fail); try go_wp2)
   go_ret
   exact ⟨rs_, dr_⟩
 rw [if_pos c3] at H
 have c3b0 : ((l0.length : Int) == (l1.length : Int)) = true := beq_iff_eq.mpr c3
 have c3b1 : ((l0.length : Int) != (l1.length : Int)) = false := bne_eq_false_iff_eq.mpr c3
 have c3b2 : (l0.length == l1.length) = true := by first | simpa using c3 | (simp at c3 ⊢; omega)
 clear c3
 have H' := A_ H
 clear H
 go_enter Tryz.func33, Tryz.ntmps33
 go_wp2
 repeat (go_quiet (fail); try go_wp2)
 go_loopg [5] k (fun kq v5 w' => ∃ (x5_1 : Int), v5 = .int .i64 x5_1 ∧ Aside0 (spec_l14Same.l0 kq l0 l1 x5_1 = some r) ∧ Aside0 (kq ≤ k) ∧ Drawn0 w w')
 case atStart => exact ⟨(0), rs_, H', ⟨Nat.le_refl _⟩, dr_⟩
 case round =>
  clear H'
  try clear c1
  try clear p2
  try clear c3
  try clear c3b0
  try clear c3b1
  try clear c3b2
  obtain ⟨x5_1, rfl, HA, HK1, ⟨m1, rfl⟩⟩ := hrel
  cases gk with
  | zero => exact absurd HA.out (by simp [spec_l14Same.l0])
  | succ k1 =>
   have H := HA.out
   clear HA
   simp only [spec_l14Same.l0] at H
   by_cases c4 : x5_1 < (l0.length : Int)
   rotate_left
   · rw [if_neg c4] at H
     have c4b0 : decide (x5_1 < (l0.length : Int)) = false := decide_eq_false c4
     clear c4
     obtain rfl := si_ H
     go_wp2
     repeat (go_quiet (fail); try go_wp2)
     go_ret
     exact ⟨rs_, dr_⟩
   rw [if_pos c4] at H
   have c4b0 : decide (x5_1 < (l0.length : Int)) = true := decide_eq_true c4
   clear c4
   by_cases c5 : 0 ≤ x5_1
   rotate_left
   · exact absurd H (by rw [if_neg c5]; simp)
   rw [if_pos c5] at H
   have c5b0 : decide (0 ≤ x5_1) = true := decide_eq_true c5
   clear c5
   by_cases c6 : x5_1 < (l1.length : Int)
   rotate_left
   · exact absurd H (by rw [if_neg c6]; simp)
   rw [if_pos c6] at H
   have c6b0 : decide (x5_1 < (l1.length : Int)) = true := decide_eq_true c6
   clear c6
   by_cases c7 : ((rd_L5 l0 x5_1).length : Int) = ((rd_L5 l1 x5_1).length : Int)
   rotate_left
   · rw [if_neg c7] at H
     have c7b0 : (((rd_L5 l0 x5_1).length : Int) == ((rd_L5 l1 x5_1).length : Int)) = false := beq_eq_false_iff_ne.mpr c7
     have c7b1 : (((rd_L5 l0 x5_1).length : Int) != ((rd_L5 l1 x5_1).length : Int)) = true := bne_iff_ne.mpr c7
     have c7b2 : ((rd_L5 l0 x5_1).length == (rd_L5 l1 x5_1).length) = false := by first | simpa using c7 | (simp at c7 ⊢; omega)
     obtain rfl := si_ H
     have p391 : 0 ≤ (x5_1 : Int) := od_
     have q391 : x5_1 < (l0.length : Int) := od_
     obtain ⟨ad391, A391_0, c391_0, e391, hx391_0, hl391_0, hi391_0⟩ := at_L5 HR0.out x5_1 p391 q391
     cases e391
     have HR391_0 := A_ hi391_0
     have HC391_0 := A_ hl391_0
     clear hi391_0 hl391_0
     replace p391 := eq_true p391
     replace q391 := eq_true q391
     have p392 : 0 ≤ (x5_1 : Int) := od_
     have q392 : x5_1 < (l1.length : Int) := od_
     obtain ⟨ad392, A392_0, c392_0, e392, hx392_0, hl392_0, hi392_0⟩ := at_L5 HR1.out x5_1 p392 q392
     cases e392
     have HR392_0 := A_ hi392_0
     have HC392_0 := A_ hl392_0
     clear hi392_0 hl392_0
     replace p392 := eq_true p392
     replace q392 := eq_true q392
     go_wp2
     repeat (go_quiet (fail); try go_wp2)
     go_ret
     exact ⟨rs_, dr_⟩
   rw [if_pos c7] at H
   have c7b0 : (((rd_L5 l0 x5_1).length : Int) == ((rd_L5 l1 x5_1).length : Int)) = true := beq_iff_eq.mpr c7
   have c7b1 : (((rd_L5 l0 x5_1).length : Int) != ((rd_L5 l1 x5_1).length : Int)) = false := bne_eq_false_iff_eq.mpr c7
   have c7b2 : ((rd_L5 l0 x5_1).length == (rd_L5 l1 x5_1).length) = true := by first | simpa using c7 | (simp at c7 ⊢; omega)
   clear c7
   have H' := A_ H
   clear H
   have p391 : 0 ≤ (x5_1 : Int) := od_
   have q391 : x5_1 < (l0.length : Int) := od_
   obtain ⟨ad391, A391_0, c391_0, e391, hx391_0, hl391_0, hi391_0⟩ := at_L5 HR0.out x5_1 p391 q391
   cases e391
   have HR391_0 := A_ hi391_0
   have HC391_0 := A_ hl391_0
   clear hi391_0 hl391_0
   replace p391 := eq_true p391
   replace q391 := eq_true q391
   have p392 : 0 ≤ (x5_1 : Int) := od_
   have q392 : x5_1 < (l1.length : Int) := od_
   obtain ⟨ad392, A392_0, c392_0, e392, hx392_0, hl392_0, hi392_0⟩ := at_L5 HR1.out x5_1 p392 q392
   cases e392
   have HR392_0 := A_ hi392_0
   have HC392_0 := A_ hl392_0
   clear hi392_0 hl392_0
   replace p392 := eq_true p392
   replace q392 := eq_true q392
   go_wp2
   repeat (go_quiet (fail); try go_wp2)
   go_loopg [6] k1 (fun kq v6 w' => ∃ (x6_2 : Int), v6 = .int .i64 x6_2 ∧ Aside0 (spec_l14Same.l1 kq l0 l1 x5_1 x6_2 = some r) ∧ Aside0 (kq ≤ k1) ∧ Drawn0 w w')
   case atStart => exact ⟨(0), rs_, H', ⟨Nat.le_refl _⟩, dr_⟩
   case round =>
    clear H'
    try clear c1
    try clear p2
    try clear c3
    try clear c3b0
    try clear c3b1
    try clear c3b2
    try clear p3
    try clear q3
    try clear hx3
    try clear c4
    try clear c4b0
    try clear c5
    try clear c5b0
    try clear c6
    try clear c6b0
    try clear c7
    try clear c7b0
    try clear c7b1
    try clear c7b2
    try clear hx391_0
    try clear hx392_0
    try clear p2
    try clear p391
    try clear p392
    try clear q391
    try clear q392
    obtain ⟨x6_2, rfl, HA, HK2, ⟨m2, rfl⟩⟩ := hrel
    cases gk with
    | zero => exact absurd HA.out (by simp [spec_l14Same.l1])
    | succ k2 =>
     have H := HA.out
     clear HA
     simp only [spec_l14Same.l1] at H
     by_cases c8 : 0 ≤ x5_1
     rotate_left
     · exact absurd H (by rw [if_neg c8]; simp)
     rw [if_pos c8] at H
     have c8b0 : decide (0 ≤ x5_1) = true := decide_eq_true c8
     clear c8
     by_cases c9 : x5_1 < (l0.length : Int)
     rotate_left
     · exact absurd H (by rw [if_neg c9]; simp)
     rw [if_pos c9] at H
     have c9b0 : decide (x5_1 < (l0.length : Int)) = true := decide_eq_true c9
     clear c9
     by_cases c10 : x6_2 < ((rd_L5 l0 x5_1).length : Int)
     rotate_left
     · rw [if_neg c10] at H
       have c10b0 : decide (x6_2 < ((rd_L5 l0 x5_1).length : Int)) = false := decide_eq_false c10
       clear c10
       have H' := A_ H
       clear H
       have p393 : 0 ≤ (x5_1 : Int) := od_
       have q393 : x5_1 < (l0.length : Int) := od_
       obtain ⟨ad393, A393_0, c393_0, e393, hx393_0, hl393_0, hi393_0⟩ := at_L5 HR0.out x5_1 p393 q393
       obtain rfl : ad391 = ad393 := (by injection e393)
       have HR393_0 := A_ hi393_0
       have HC393_0 := A_ hl393_0
       clear hi393_0 hl393_0
       replace p393 := eq_true p393
       replace q393 := eq_true q393
       go_wp2
       repeat (go_quiet (fail); try go_wp2)
       go_roundg k2
       case measure => have := HK1.out; have := HK2.out; omega
       case rel => exact ⟨(wrap64 (x5_1 + 1)), rs_, H', ⟨by have := HK1.out; have := HK2.out; omega⟩, dr_⟩
     rw [if_pos c10] at H
     have c10b0 : decide (x6_2 < ((rd_L5 l0 x5_1).length : Int)) = true := decide_eq_true c10
     clear c10
     by_cases c11 : 0 ≤ x6_2
     rotate_left
     · exact absurd H (by rw [if_neg c11]; simp)
     rw [if_pos c11] at H
     have c11b0 : decide (0 ≤ x6_2) = true := decide_eq_true c11
     clear c11
     by_cases c12 : x5_1 < (l1.length : Int)
     rotate_left
     · exact absurd H (by rw [if_neg c12]; simp)
     rw [if_pos c12] at H
     have c12b0 : decide (x5_1 < (l1.length : Int)) = true := decide_eq_true c12
     clear c12
     by_cases c13 : x6_2 < ((rd_L5 l1 x5_1).length : Int)
     rotate_left
     · exact absurd H (by rw [if_neg c13]; simp)
     rw [if_pos c13] at H
     have c13b0 : decide (x6_2 < ((rd_L5 l1 x5_1).length : Int)) = true := decide_eq_true c13
     clear c13
     by_cases c14 : (!(((rd_T43 (rd_L5 l0 x5_1) x6_2).f0) == ((rd_T43 (rd_L5 l1 x5_1) x6_2).f0)) || (!(((rd_T43 (rd_L5 l0 x5_1) x6_2).f1) == ((rd_T43 (rd_L5 l1 x5_1) x6_2).f1)) || (!((((rd_T43 (rd_L5 l0 x5_1) x6_2).f2).toList) == (((rd_T43 (rd_L5 l1 x5_1) x6_2).f2).toList))))) = true
     · rw [if_pos c14] at H
       have c14b0 : (!(((rd_T43 (rd_L5 l0 x5_1) x6_2).f0) == ((rd_T43 (rd_L5 l1 x5_1) x6_2).f0)) || (!(((rd_T43 (rd_L5 l0 x5_1) x6_2).f1) == ((rd_T43 (rd_L5 l1 x5_1) x6_2).f1)) || (!((((rd_T43 (rd_L5 l0 x5_1) x6_2).f2).toList) == (((rd_T43 (rd_L5 l1 x5_1) x6_2).f2).toList))))) = true := c14
       clear c14
       obtain rfl := si_ H
       have p393 : 0 ≤ (x5_1 : Int) := od_
       have q393 : x5_1 < (l0.length : Int) := od_
       obtain ⟨ad393, A393_0, c393_0, e393, hx393_0, hl393_0, hi393_0⟩ := at_L5 HR0.out x5_1 p393 q393
       obtain rfl : ad391 = ad393 := (by injection e393)
       have HR393_0 := A_ hi393_0
       have HC393_0 := A_ hl393_0
       clear hi393_0 hl393_0
       replace p393 := eq_true p393
       replace q393 := eq_true q393
       have p394 : 0 ≤ (x5_1 : Int) := od_
       have q394 : x5_1 < (l0.length : Int) := od_
       obtain ⟨ad394, A394_0, c394_0, e394, hx394_0, hl394_0, hi394_0⟩ := at_L5 HR0.out x5_1 p394 q394
       obtain rfl : ad391 = ad394 := (by injection e394)
       have HR394_0 := A_ hi394_0
       have HC394_0 := A_ hl394_0
       clear hi394_0 hl394_0
       replace p394 := eq_true p394
       replace q394 := eq_true q394
       have ea_ := Option.some.inj (hx393_0.symm.trans hx394_0)
       injection ea_ with ea_ en_ ec_
       subst ea_
       subst ec_
       clear en_
       have p395 : 0 ≤ (x6_2 : Int) := od_
       have q395 : x6_2 < ((rd_L5 l0 x5_1).length : Int) := od_
       obtain ⟨ad395, e395, hx395_0, hx395_1, hx395_2⟩ := at_T43 HR394_0.out x6_2 p395 q395
       cases e395
       replace p395 := eq_true p395
       replace q395 := eq_true q395
       have p396 : 0 ≤ (x5_1 : Int) := od_
       have q396 : x5_1 < (l1.length : Int) := od_
       obtain ⟨ad396, A396_0, c396_0, e396, hx396_0, hl396_0, hi396_0⟩ := at_L5 HR1.out x5_1 p396 q396
       obtain rfl : ad392 = ad396 := (by injection e396)
       have HR396_0 := A_ hi396_0
       have HC396_0 := A_ hl396_0
       clear hi396_0 hl396_0
       replace p396 := eq_true p396
       replace q396 := eq_true q396
       have p397 : 0 ≤ (x6_2 : Int) := od_
       have q397 : x6_2 < ((rd_L5 l1 x5_1).length : Int) := od_
       obtain ⟨ad397, e397, hx397_0, hx397_1, hx397_2⟩ := at_T43 HR396_0.out x6_2 p397 q397
       cases e397
       replace p397 := eq_true p397
       replace q397 := eq_true q397
       go_wp2
       repeat (go_quiet (fail); try go_wp2)
       go_ret
       exact ⟨rs_, dr_⟩
     rw [if_neg c14] at H
     have c14b0 : (!(((rd_T43 (rd_L5 l0 x5_1) x6_2).f0) == ((rd_T43 (rd_L5 l1 x5_1) x6_2).f0)) || (!(((rd_T43 (rd_L5 l0 x5_1) x6_2).f1) == ((rd_T43 (rd_L5 l1 x5_1) x6_2).f1)) || (!((((rd_T43 (rd_L5 l0 x5_1) x6_2).f2).toList) == (((rd_T43 (rd_L5 l1 x5_1) x6_2).f2).toList))))) = false := by simpa using c14
     clear c14
     have H' := A_ H
     clear H
     have p393 : 0 ≤ (x5_1 : Int) := od_
     have q393 : x5_1 < (l0.length : Int) := od_
     obtain ⟨ad393, A393_0, c393_0, e393, hx393_0, hl393_0, hi393_0⟩ := at_L5 HR0.out x5_1 p393 q393
     obtain rfl : ad391 = ad393 := (by injection e393)
     have HR393_0 := A_ hi393_0
     have HC393_0 := A_ hl393_0
     clear hi393_0 hl393_0
     replace p393 := eq_true p393
     replace q393 := eq_true q393
     have p394 : 0 ≤ (x5_1 : Int) := od_
     have q394 : x5_1 < (l0.length : Int) := od_
     obtain ⟨ad394, A394_0, c394_0, e394, hx394_0, hl394_0, hi394_0⟩ := at_L5 HR0.out x5_1 p394 q394
     obtain rfl : ad391 = ad394 := (by injection e394)
     have HR394_0 := A_ hi394_0
     have HC394_0 := A_ hl394_0
     clear hi394_0 hl394_0
     replace p394 := eq_true p394
     replace q394 := eq_true q394
     have ea_ := Option.some.inj (hx393_0.symm.trans hx394_0)
     injection ea_ with ea_ en_ ec_
     subst ea_
     subst ec_
     clear en_
     have p395 : 0 ≤ (x6_2 : Int) := od_
     have q395 : x6_2 < ((rd_L5 l0 x5_1).length : Int) := od_
     obtain ⟨ad395, e395, hx395_0, hx395_1, hx395_2⟩ := at_T43 HR394_0.out x6_2 p395 q395
     cases e395
     replace p395 := eq_true p395
     replace q395 := eq_true q395
     have p396 : 0 ≤ (x5_1 : Int) := od_
     have q396 : x5_1 < (l1.length : Int) := od_
     obtain ⟨ad396, A396_0, c396_0, e396, hx396_0, hl396_0, hi396_0⟩ := at_L5 HR1.out x5_1 p396 q396
     obtain rfl : ad392 = ad396 := (by injection e396)
     have HR396_0 := A_ hi396_0
     have HC396_0 := A_ hl396_0
     clear hi396_0 hl396_0
     replace p396 := eq_true p396
     replace q396 := eq_true q396
     have p397 : 0 ≤ (x6_2 : Int) := od_
     have q397 : x6_2 < ((rd_L5 l1 x5_1).length : Int) := od_
     obtain ⟨ad397, e397, hx397_0, hx397_1, hx397_2⟩ := at_T43 HR396_0.out x6_2 p397 q397
     cases e397
     replace p397 := eq_true p397
     replace q397 := eq_true q397
     go_wp2
     repeat (go_quiet (fail); try go_wp2)
     go_roundg k2
     case measure => have := HK1.out; have := HK2.out; omega
     case rel => exact ⟨(wrap64 (x6_2 + 1)), rs_, H', ⟨by have := HK1.out; have := HK2.out; omega⟩, dr_⟩
mutual
def spec_IfText.l0 : Nat → List (List (S43)) → ByteArray → Int → Option (ByteArray)
 | 0, _, _, _ => none
 | k + 1, x0, x3, x4 => if x4 < (x0.length : Int) then (if x4 > 0 then (if x3.size + 1 ≤ 9223372036854775807 then (spec_IfText.j1 k x0 (x3 ++ (⟨#[32]⟩ : ByteArray)) x4) else (none)) else (spec_IfText.j1 k x0 x3 x4)) else ((spec_ParseIf.f k x3).bind fun bt405 => (if bt405.2 = true then ((spec_l14Same.f k bt405.1 x0).bind fun t409 => (if t409 = true then (some x3) else (some (⟨#[]⟩ : ByteArray)))) else (some (⟨#[]⟩ : ByteArray))))
def spec_IfText.j1 : Nat → List (List (S43)) → ByteArray → Int → Option (ByteArray)
 | 0, _, _, _ => none
 | k + 1, x0, x3, x4 => if x3.size + 1 ≤ 9223372036854775807 then (spec_IfText.l1 k x0 (x3 ++ (⟨#[40]⟩ : ByteArray)) x4 0) else (none)
def spec_IfText.l1 : Nat → List (List (S43)) → ByteArray → Int → Int → Option (ByteArray)
 | 0, _, _, _, _ => none
 | k + 1, x0, x3, x4, x5 => if 0 ≤ x4 then (if x4 < (x0.length : Int) then (if x5 < ((rd_L5 x0 x4).length : Int) then (if x5 > 0 then (if x3.size + 1 ≤ 9223372036854775807 then (if 0 ≤ x5 then ((spec_l14OneText.f k ((rd_T43 (rd_L5 x0 x4) x5).f0) ((rd_T43 (rd_L5 x0 x4) x5).f1) ((rd_T43 (rd_L5 x0 x4) x5).f2)).bind fun t401 => (if (x3 ++ (⟨#[32]⟩ : ByteArray)).size + t401.size ≤ 9223372036854775807 then (spec_IfText.l1 k x0 ((x3 ++ (⟨#[32]⟩ : ByteArray)) ++ t401) x4 (wrap64 (x5 + 1))) else (none))) else (none)) else (none)) else (if 0 ≤ x5 then ((spec_l14OneText.f k ((rd_T43 (rd_L5 x0 x4) x5).f0) ((rd_T43 (rd_L5 x0 x4) x5).f1) ((rd_T43 (rd_L5 x0 x4) x5).f2)).bind fun t404 => (if x3.size + t404.size ≤ 9223372036854775807 then (spec_IfText.l1 k x0 (x3 ++ t404) x4 (wrap64 (x5 + 1))) else (none))) else (none))) else (if x3.size + 1 ≤ 9223372036854775807 then (spec_IfText.l0 k x0 (x3 ++ (⟨#[41]⟩ : ByteArray)) (wrap64 (x4 + 1))) else (none))) else (none)) else (none)
end
def spec_IfText.f (k : Nat) (l0 : List (List (S43))) : Option (ByteArray) := spec_IfText.l0 k l0 (⟨#[]⟩ : ByteArray) 0
theorem spec_IfText.calls (k : Nat) (A0 : Option Addr) (c0 : Nat) (l0 : List (List (S43))) (r : ByteArray) (w : World) (hr0 : Kd.C (Kd.slice 43 k43) w A0 l0.length l0) (hc0 : l0.length ≤ c0) (h : spec_IfText.f k l0 = some r) :
 Calls Tryz.prog 13 #[.slice A0 l0.length c0] w fun e w' => e = .returned (.string r) ∧ Below w.heap.size w w' := by
 have hu43 := Tryz.underlying43
 have HR0 := A_ hr0
 have HC0 := A_ hc0
 clear hr0 hc0
 have HB := A_ (Below.refl w.heap.size w)
 have H : (spec_IfText.l0 k l0 (⟨#[]⟩ : ByteArray) 0) = some r := h
 clear h
 have H' := A_ H
 clear H
 go_enter Tryz.func13, Tryz.ntmps13
 go_wp2
 go_loopg [3, 4] k (fun kq v3 v4 w' => ∃ (x3_1 : ByteArray) (x4_1 : Int), v3 = .string x3_1 ∧ v4 = .int .i64 x4_1 ∧ Aside0 (spec_IfText.l0 kq l0 x3_1 x4_1 = some r) ∧ Aside0 (kq ≤ k) ∧ Aside0 (Below w.heap.size w w'))
 case atStart => exact ⟨((⟨#[]⟩ : ByteArray)), (0), rs_, rs_, H', ⟨Nat.le_refl _⟩, ⟨bB_⟩⟩
 case round =>
  clear H'
  try clear c1
  obtain ⟨x3_1, x4_1, rfl, rfl, HA, HK1, HB⟩ := hrel
  cases gk with
  | zero => exact absurd HA.out (by simp [spec_IfText.l0])
  | succ k1 =>
   have H := HA.out
   clear HA
   simp only [spec_IfText.l0] at H
   by_cases c2 : x4_1 < (l0.length : Int)
   rotate_left
   · rw [if_neg c2] at H
     have c2b0 : decide (x4_1 < (l0.length : Int)) = false := decide_eq_false c2
     clear c2
     obtain ⟨⟨t405, t406⟩, A21, H⟩ := bo_ H
     (try dsimp only at H)
     by_cases c22 : t406 = true
     · subst c22
       rw [if_pos rfl] at H
       obtain ⟨t409, A23, H⟩ := bo_ H
       (try dsimp only at H)
       by_cases c24 : t409 = true
       · subst c24
         rw [if_pos rfl] at H
         obtain rfl := si_ H
         go_wp2_with (first | ((with_reducible refine gc_ (f := 9) rfl ?_); refine gL_ (some 47) Tryz.func9 #[.string x3_1] ?_; (with_reducible refine (spec_ParseIf.calls k1 x3_1 t405 true _ A21.out).mono ?_); rintro e w25 ⟨v407, rfl, ho0, hb⟩; refine ⟨_, rfl, ?_⟩; have HO408 := A_ (Kd.S_lower ho0 (below_size bB_)); replace HB := A_ (below_step bB_ hb); (try clear hb); (try clear ho0); obtain ⟨Ao26, co26, eo26⟩ := Kd.S_slice HO408.out; subst eo26) | (go_at_call 33; (with_reducible refine (spec_l14Same.calls k1 _ _ t405 _ _ l0 true _ ?s1 ?s2 ?s3 ?s4 A23.out).mono ?_); (case s1 => exact cC_ (Kd.S_reads' HO408.out).2.2); (case s2 => exact (Kd.S_reads' HO408.out).2.1); (case s3 => exact cC_ (Kd.C_below HR0.out HB.out)); (case s4 => exact HC0.out); rintro e w' ⟨rfl, ⟨nd, rfl⟩⟩))
         go_ret
         exact ⟨rr_, bB_⟩
       · replace c24 := Bool.eq_false_iff.mpr c24
         subst c24
         rw [if_neg nf_] at H
         obtain rfl := si_ H
         go_wp2_with (first | ((with_reducible refine gc_ (f := 9) rfl ?_); refine gL_ (some 47) Tryz.func9 #[.string x3_1] ?_; (with_reducible refine (spec_ParseIf.calls k1 x3_1 t405 true _ A21.out).mono ?_); rintro e w27 ⟨v407, rfl, ho0, hb⟩; refine ⟨_, rfl, ?_⟩; have HO408 := A_ (Kd.S_lower ho0 (below_size bB_)); replace HB := A_ (below_step bB_ hb); (try clear hb); (try clear ho0); obtain ⟨Ao28, co28, eo28⟩ := Kd.S_slice HO408.out; subst eo28) | (go_at_call 33; (with_reducible refine (spec_l14Same.calls k1 _ _ t405 _ _ l0 false _ ?s1 ?s2 ?s3 ?s4 A23.out).mono ?_); (case s1 => exact cC_ (Kd.S_reads' HO408.out).2.2); (case s2 => exact (Kd.S_reads' HO408.out).2.1); (case s3 => exact cC_ (Kd.C_below HR0.out HB.out)); (case s4 => exact HC0.out); rintro e w' ⟨rfl, ⟨nd, rfl⟩⟩))
         go_ret
         exact ⟨rr_, bB_⟩
     · replace c22 := Bool.eq_false_iff.mpr c22
       subst c22
       rw [if_neg nf_] at H
       obtain rfl := si_ H
       go_wp2_with (first | ((with_reducible refine gc_ (f := 9) rfl ?_); refine gL_ (some 47) Tryz.func9 #[.string x3_1] ?_; (with_reducible refine (spec_ParseIf.calls k1 x3_1 t405 false _ A21.out).mono ?_); rintro e w29 ⟨v407, rfl, ho0, hb⟩; refine ⟨_, rfl, ?_⟩; have HO408 := A_ (Kd.S_lower ho0 (below_size bB_)); replace HB := A_ (below_step bB_ hb); (try clear hb); (try clear ho0)))
       go_ret
       exact ⟨rr_, bB_⟩
   rw [if_pos c2] at H
   have c2b0 : decide (x4_1 < (l0.length : Int)) = true := decide_eq_true c2
   clear c2
   have HC3 := A_ H
   clear H
   go_upto_if 15 with (fail)
   go_cut [3] (fun v3 wc => ∃ (kq : Nat) (x3_2 : ByteArray), v3 = .string x3_2 ∧ Aside0 (spec_IfText.j1 kq l0 x3_2 x4_1 = some r) ∧ Aside0 (kq ≤ k1) ∧ Aside0 (Below w.heap.size w wc))
   case first =>
    have H := HC3.out
    clear HC3
    by_cases c4 : x4_1 > 0
    rotate_left
    · rw [if_neg c4] at H
      have c4b0 : decide (0 < x4_1) = false := decide_eq_false c4
      clear c4
      (first | rw [c4b0] | (simp only [i64_w, i32_w]; rw [c4b0]) | skip)
      have H' := A_ H
      clear H
      go_wp2
      go_meet
      case rel => exact ⟨_, (x3_1), rs_, H', ⟨by have := HK1.out; first | omega | exact Nat.le_refl _⟩, ⟨bB_⟩⟩
    rw [if_pos c4] at H
    have c4b0 : decide (0 < x4_1) = true := decide_eq_true c4
    clear c4
    (first | rw [c4b0] | (simp only [i64_w, i32_w]; rw [c4b0]) | skip)
    by_cases c5 : x3_1.size + 1 ≤ 9223372036854775807
    rotate_left
    · exact absurd H (by rw [if_neg c5]; simp)
    rw [if_pos c5] at H
    have c5b0 := eq_true c5
    have c5b1 : decide (x3_1.size + 1 ≤ 9223372036854775807) = true := decide_eq_true c5
    try have c5b2 : (9223372036854775807 < x3_1.size + 1) = False := eq_false (Nat.not_lt.2 c5)
    have H' := A_ H
    clear H
    go_wp2
    go_meet
    case rel => exact ⟨_, (x3_1 ++ (⟨#[32]⟩ : ByteArray)), rs_, H', ⟨by have := HK1.out; first | omega | exact Nat.le_refl _⟩, ⟨bB_⟩⟩
   case rest =>
    clear HC3
    try clear c1
    try clear c2
    try clear c2b0
    try clear p2
    try clear c4
    try clear c4b0
    try clear c5
    try clear c5b0
    try clear c5b1
    try clear c5b2
    obtain ⟨kq, x3_2, rfl, HA, HJ2, HB⟩ := hcut
    cases kq with
    | zero => exact absurd HA.out (by simp [spec_IfText.j1])
    | succ kj2 =>
     have H := HA.out
     clear HA
     simp only [spec_IfText.j1] at H
     by_cases c6 : x3_2.size + 1 ≤ 9223372036854775807
     rotate_left
     · exact absurd H (by rw [if_neg c6]; simp)
     rw [if_pos c6] at H
     have c6b0 := eq_true c6
     have c6b1 : decide (x3_2.size + 1 ≤ 9223372036854775807) = true := decide_eq_true c6
     try have c6b2 : (9223372036854775807 < x3_2.size + 1) = False := eq_false (Nat.not_lt.2 c6)
     have H' := A_ H
     clear H
     go_wp2
     go_loopg [3, 5] kj2 (fun kq v3 v5 w' => ∃ (x3_3 : ByteArray) (x5_3 : Int), v3 = .string x3_3 ∧ v5 = .int .i64 x5_3 ∧ Aside0 (spec_IfText.l1 kq l0 x3_3 x4_1 x5_3 = some r) ∧ Aside0 (kq ≤ kj2) ∧ Aside0 (Below w.heap.size w w'))
     case atStart => exact ⟨(x3_2 ++ (⟨#[40]⟩ : ByteArray)), (0), rs_, rs_, H', ⟨Nat.le_refl _⟩, ⟨bB_⟩⟩
     case round =>
      clear H'
      try clear c1
      try clear c2
      try clear c2b0
      try clear p2
      try clear c4
      try clear c4b0
      try clear c5
      try clear c5b0
      try clear c5b1
      try clear c5b2
      try clear c6
      try clear c6b0
      try clear c6b1
      try clear c6b2
      try clear p2
      obtain ⟨x3_3, x5_3, rfl, rfl, HA, HK3, HB⟩ := hrel
      cases gk with
      | zero => exact absurd HA.out (by simp [spec_IfText.l1])
      | succ k3 =>
       have H := HA.out
       clear HA
       simp only [spec_IfText.l1] at H
       by_cases c7 : 0 ≤ x4_1
       rotate_left
       · exact absurd H (by rw [if_neg c7]; simp)
       rw [if_pos c7] at H
       have c7b0 : decide (0 ≤ x4_1) = true := decide_eq_true c7
       clear c7
       by_cases c8 : x4_1 < (l0.length : Int)
       rotate_left
       · exact absurd H (by rw [if_neg c8]; simp)
       rw [if_pos c8] at H
       have c8b0 : decide (x4_1 < (l0.length : Int)) = true := decide_eq_true c8
       clear c8
       by_cases c9 : x5_3 < ((rd_L5 l0 x4_1).length : Int)
       rotate_left
       · rw [if_neg c9] at H
         have c9b0 : decide (x5_3 < ((rd_L5 l0 x4_1).length : Int)) = false := decide_eq_false c9
         clear c9
         by_cases c20 : x3_3.size + 1 ≤ 9223372036854775807
         rotate_left
         · exact absurd H (by rw [if_neg c20]; simp)
         rw [if_pos c20] at H
         have c20b0 := eq_true c20
         have c20b1 : decide (x3_3.size + 1 ≤ 9223372036854775807) = true := decide_eq_true c20
         try have c20b2 : (9223372036854775807 < x3_3.size + 1) = False := eq_false (Nat.not_lt.2 c20)
         have H' := A_ H
         clear H
         have p398 : 0 ≤ (x4_1 : Int) := od_
         have q398 : x4_1 < (l0.length : Int) := od_
         obtain ⟨ad398, A398_0, c398_0, e398, hx398_0, hl398_0, hi398_0⟩ := at_L5 HR0.out x4_1 p398 q398
         cases e398
         replace hx398_0 := bc_ HB.out hx398_0
         have HR398_0 := A_ hi398_0
         have HC398_0 := A_ hl398_0
         clear hi398_0 hl398_0
         replace p398 := eq_true p398
         replace q398 := eq_true q398
         go_wp2
         go_roundg k3
         case measure => have := HK1.out; have := HJ2.out; have := HK3.out; omega
         case rel => exact ⟨(x3_3 ++ (⟨#[41]⟩ : ByteArray)), (wrap64 (x4_1 + 1)), rs_, rs_, H', ⟨by have := HK1.out; have := HJ2.out; have := HK3.out; omega⟩, ⟨bB_⟩⟩
       rw [if_pos c9] at H
       have c9b0 : decide (x5_3 < ((rd_L5 l0 x4_1).length : Int)) = true := decide_eq_true c9
       clear c9
       by_cases c10 : x5_3 > 0
       rotate_left
       · rw [if_neg c10] at H
         have c10b0 : decide (0 < x5_3) = false := decide_eq_false c10
         clear c10
         by_cases c16 : 0 ≤ x5_3
         rotate_left
         · exact absurd H (by rw [if_neg c16]; simp)
         rw [if_pos c16] at H
         have c16b0 : decide (0 ≤ x5_3) = true := decide_eq_true c16
         clear c16
         obtain ⟨t404, A17, H⟩ := bo_ H
         (try dsimp only at H)
         by_cases c18 : x3_3.size + t404.size ≤ 9223372036854775807
         rotate_left
         · exact absurd H (by rw [if_neg c18]; simp)
         rw [if_pos c18] at H
         have c18b0 := eq_true c18
         have c18b1 : decide (x3_3.size + t404.size ≤ 9223372036854775807) = true := decide_eq_true c18
         try have c18b2 : (9223372036854775807 < x3_3.size + t404.size) = False := eq_false (Nat.not_lt.2 c18)
         have H' := A_ H
         clear H
         have p398 : 0 ≤ (x4_1 : Int) := od_
         have q398 : x4_1 < (l0.length : Int) := od_
         obtain ⟨ad398, A398_0, c398_0, e398, hx398_0, hl398_0, hi398_0⟩ := at_L5 HR0.out x4_1 p398 q398
         cases e398
         replace hx398_0 := bc_ HB.out hx398_0
         have HR398_0 := A_ hi398_0
         have HC398_0 := A_ hl398_0
         clear hi398_0 hl398_0
         replace p398 := eq_true p398
         replace q398 := eq_true q398
         have p402 : 0 ≤ (x4_1 : Int) := od_
         have q402 : x4_1 < (l0.length : Int) := od_
         obtain ⟨ad402, A402_0, c402_0, e402, hx402_0, hl402_0, hi402_0⟩ := at_L5 HR0.out x4_1 p402 q402
         obtain rfl : ad398 = ad402 := (by injection e402)
         replace hx402_0 := bc_ HB.out hx402_0
         have HR402_0 := A_ hi402_0
         have HC402_0 := A_ hl402_0
         clear hi402_0 hl402_0
         replace p402 := eq_true p402
         replace q402 := eq_true q402
         have ea_ := Option.some.inj (hx398_0.symm.trans hx402_0)
         injection ea_ with ea_ en_ ec_
         subst ea_
         subst ec_
         clear en_
         have p403 : 0 ≤ (x5_3 : Int) := od_
         have q403 : x5_3 < ((rd_L5 l0 x4_1).length : Int) := od_
         obtain ⟨ad403, e403, hx403_0, hx403_1, hx403_2⟩ := at_T43 HR402_0.out x5_3 p403 q403
         cases e403
         replace hx403_0 := bc_ HB.out hx403_0
         replace hx403_1 := bc_ HB.out hx403_1
         replace hx403_2 := bc_ HB.out hx403_2
         replace p403 := eq_true p403
         replace q403 := eq_true q403
         go_wp2_with (first | ((with_reducible refine gc_ (f := 32) rfl ?_); refine gL_ (some 41) Tryz.func32 #[.agg #[.bool ((rd_T43 (rd_L5 l0 x4_1) x5_3).f0), .int .i64 ((rd_T43 (rd_L5 l0 x4_1) x5_3).f1), .string ((rd_T43 (rd_L5 l0 x4_1) x5_3).f2)]] ?_; (with_reducible refine (spec_l14OneText.calls k3 ((rd_T43 (rd_L5 l0 x4_1) x5_3).f0) ((rd_T43 (rd_L5 l0 x4_1) x5_3).f1) ((rd_T43 (rd_L5 l0 x4_1) x5_3).f2) t404 _ A17.out).mono ?_); rintro e w19 ⟨rfl, hb⟩; refine ⟨_, rfl, ?_⟩; replace HB := A_ (below_step bB_ hb); (try clear hb)))
         go_roundg k3
         case measure => have := HK1.out; have := HJ2.out; have := HK3.out; omega
         case rel => exact ⟨(x3_3 ++ t404), (wrap64 (x5_3 + 1)), rs_, rs_, H', ⟨by have := HK1.out; have := HJ2.out; have := HK3.out; omega⟩, ⟨bB_⟩⟩
       rw [if_pos c10] at H
       have c10b0 : decide (0 < x5_3) = true := decide_eq_true c10
       clear c10
       by_cases c11 : x3_3.size + 1 ≤ 9223372036854775807
       rotate_left
       · exact absurd H (by rw [if_neg c11]; simp)
       rw [if_pos c11] at H
       have c11b0 := eq_true c11
       have c11b1 : decide (x3_3.size + 1 ≤ 9223372036854775807) = true := decide_eq_true c11
       try have c11b2 : (9223372036854775807 < x3_3.size + 1) = False := eq_false (Nat.not_lt.2 c11)
       by_cases c12 : 0 ≤ x5_3
       rotate_left
       · exact absurd H (by rw [if_neg c12]; simp)
       rw [if_pos c12] at H
       have c12b0 : decide (0 ≤ x5_3) = true := decide_eq_true c12
       clear c12
       obtain ⟨t401, A13, H⟩ := bo_ H
       (try dsimp only at H)
       by_cases c14 : (x3_3 ++ (⟨#[32]⟩ : ByteArray)).size + t401.size ≤ 9223372036854775807
       rotate_left
       · exact absurd H (by rw [if_neg c14]; simp)
       rw [if_pos c14] at H
       have c14b0 := eq_true c14
       have c14b1 : decide ((x3_3 ++ (⟨#[32]⟩ : ByteArray)).size + t401.size ≤ 9223372036854775807) = true := decide_eq_true c14
       try have c14b2 : (9223372036854775807 < (x3_3 ++ (⟨#[32]⟩ : ByteArray)).size + t401.size) = False := eq_false (Nat.not_lt.2 c14)
       try have c14b3 : (9223372036854775807 < x3_3.size + 1 + t401.size) = False := eq_false (Nat.not_lt.2 (by have h_ := c14; simp only [ByteArray.size_append] at h_; exact h_))
       have H' := A_ H
       clear H
       have p398 : 0 ≤ (x4_1 : Int) := od_
       have q398 : x4_1 < (l0.length : Int) := od_
       obtain ⟨ad398, A398_0, c398_0, e398, hx398_0, hl398_0, hi398_0⟩ := at_L5 HR0.out x4_1 p398 q398
       cases e398
       replace hx398_0 := bc_ HB.out hx398_0
       have HR398_0 := A_ hi398_0
       have HC398_0 := A_ hl398_0
       clear hi398_0 hl398_0
       replace p398 := eq_true p398
       replace q398 := eq_true q398
       have p399 : 0 ≤ (x4_1 : Int) := od_
       have q399 : x4_1 < (l0.length : Int) := od_
       obtain ⟨ad399, A399_0, c399_0, e399, hx399_0, hl399_0, hi399_0⟩ := at_L5 HR0.out x4_1 p399 q399
       obtain rfl : ad398 = ad399 := (by injection e399)
       replace hx399_0 := bc_ HB.out hx399_0
       have HR399_0 := A_ hi399_0
       have HC399_0 := A_ hl399_0
       clear hi399_0 hl399_0
       replace p399 := eq_true p399
       replace q399 := eq_true q399
       have ea_ := Option.some.inj (hx398_0.symm.trans hx399_0)
       injection ea_ with ea_ en_ ec_
       subst ea_
       subst ec_
       clear en_
       have p400 : 0 ≤ (x5_3 : Int) := od_
       have q400 : x5_3 < ((rd_L5 l0 x4_1).length : Int) := od_
       obtain ⟨ad400, e400, hx400_0, hx400_1, hx400_2⟩ := at_T43 HR399_0.out x5_3 p400 q400
       cases e400
       replace hx400_0 := bc_ HB.out hx400_0
       replace hx400_1 := bc_ HB.out hx400_1
       replace hx400_2 := bc_ HB.out hx400_2
       replace p400 := eq_true p400
       replace q400 := eq_true q400
       go_wp2_with (first | ((with_reducible refine gc_ (f := 32) rfl ?_); refine gL_ (some 41) Tryz.func32 #[.agg #[.bool ((rd_T43 (rd_L5 l0 x4_1) x5_3).f0), .int .i64 ((rd_T43 (rd_L5 l0 x4_1) x5_3).f1), .string ((rd_T43 (rd_L5 l0 x4_1) x5_3).f2)]] ?_; (with_reducible refine (spec_l14OneText.calls k3 ((rd_T43 (rd_L5 l0 x4_1) x5_3).f0) ((rd_T43 (rd_L5 l0 x4_1) x5_3).f1) ((rd_T43 (rd_L5 l0 x4_1) x5_3).f2) t401 _ A13.out).mono ?_); rintro e w15 ⟨rfl, hb⟩; refine ⟨_, rfl, ?_⟩; replace HB := A_ (below_step bB_ hb); (try clear hb)))
       go_roundg k3
       case measure => have := HK1.out; have := HJ2.out; have := HK3.out; omega
       case rel => exact ⟨((x3_3 ++ (⟨#[32]⟩ : ByteArray)) ++ t401), (wrap64 (x5_3 + 1)), rs_, rs_, H', ⟨by have := HK1.out; have := HJ2.out; have := HK3.out; omega⟩, ⟨bB_⟩⟩
end Go.Proofs.YtigoeooelfeopaaGreatDoor.Q
