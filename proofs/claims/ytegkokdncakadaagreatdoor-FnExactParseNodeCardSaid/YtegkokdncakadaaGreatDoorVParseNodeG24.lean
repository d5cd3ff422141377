-- PRINTED by print.py (a twelfth state) out of the translation. Not trusted: Lean checks it.
import Derived.Test.YtegkokdncakadaaGreatDoorVParseNodeG23
set_option maxHeartbeats 8000000
set_option maxRecDepth 100000
namespace Go.Proofs.YtegkokdncakadaaGreatDoor.Q
open Go.RowKit Go.Proofs.YtegkokdncakadaaGreatDoorW.PrintWords Go.Proofs.YtegkokdncakadaaGreatDoorW.PrintLast Go.Proofs.YtegkokdncakadaaGreatDoorW.PrintMore
attribute [local go_sem] max2_int min2_int max_two min_two max_three min_three max_four min_four   -- for this text's walks alone
set_option linter.unusedVariables false
set_option linter.unusedSimpArgs false
mutual
def spec_Pieces.l0 : Nat → ByteArray → List (S82) → Int → Option ((List (S82)) × Bool)
 | 0, _, _, _ => none
 | k + 1, x0, x4, x5 => if x5 < (x0.size : Int) then ((spec_Plain.f k x0).bind fun t150 => (spec_Pieces.j1 k x0 x4 x5 t150)) else (spec_Pieces.j1 k x0 x4 x5 false)
def spec_Pieces.j1 : Nat → ByteArray → List (S82) → Int → Bool → Option ((List (S82)) × Bool)
 | 0, _, _, _, _ => none
 | k + 1, x0, x4, x5, x19 => if x19 = true then (if (x4.length : Int) = 60 then (some ((([] : List (S82))), false)) else (if 0 ≤ x5 then (if x5 < (x0.size : Int) then (if (bt x0 x5) = 60 then ((spec_l7Mark.f k x0 x5).bind fun bt155 => (if bt155.2.2.2.2.2 < 0 then (some ((([] : List (S82))), false)) else (if x4.length < 2199023255552 then (spec_Pieces.l0 k x0 (x4 ++ [(⟨bt155.1, bt155.2.1, bt155.2.2.1, bt155.2.2.2.1, bt155.2.2.2.2.1⟩ : S82)]) bt155.2.2.2.2.2) else (none)))) else (spec_Pieces.l1 k x0 x4 x5 x5)) else (none)) else (none))) else ((spec_Plain.f k x0).bind fun t151 => (some (x4, t151)))
def spec_Pieces.l1 : Nat → ByteArray → List (S82) → Int → Int → Option ((List (S82)) × Bool)
 | 0, _, _, _, _ => none
 | k + 1, x0, x4, x5, x8 => if x8 < (x0.size : Int) then (if 0 ≤ x8 then (if (bt x0 x8) = 60 then (if 0 ≤ x5 then (if x5 ≤ x8 then (if x8 ≤ (x0.size : Int) then ((spec_Unescape.f k (x0.extract (x5 : Int).toNat (x8 : Int).toNat)).bind fun bt168 => (if bt168.2 = true then (if x4.length < 2199023255552 then (spec_Pieces.l0 k x0 (x4 ++ [(⟨4, (⟨#[]⟩ : ByteArray), (⟨#[]⟩ : ByteArray), false, bt168.1⟩ : S82)]) x8) else (none)) else (some ((([] : List (S82))), false)))) else (none)) else (none)) else (none)) else (spec_Pieces.l1 k x0 x4 x5 (wrap64 (x8 + 1)))) else (none)) else (if 0 ≤ x5 then (if x5 ≤ x8 then (if x8 ≤ (x0.size : Int) then ((spec_Unescape.f k (x0.extract (x5 : Int).toNat (x8 : Int).toNat)).bind fun bt176 => (if bt176.2 = true then (if x4.length < 2199023255552 then (spec_Pieces.l0 k x0 (x4 ++ [(⟨4, (⟨#[]⟩ : ByteArray), (⟨#[]⟩ : ByteArray), false, bt176.1⟩ : S82)]) x8) else (none)) else (some ((([] : List (S82))), false)))) else (none)) else (none)) else (none))
end
def spec_Pieces.f (k : Nat) (a0 : ByteArray) : Option ((List (S82)) × Bool) := spec_Pieces.l0 k a0 (([] : List (S82))) 0
theorem spec_Pieces.calls (k : Nat) (a0 : ByteArray) (r1 : List (S82)) (r2 : Bool) (w : World) (h : spec_Pieces.f k a0 = some (r1, r2)) :
 Calls Tryz.prog 31 #[.string a0] w fun e w' => ∃ v0_ : Value, e = .returned (.tuple #[v0_, .bool r2]) ∧ Kd.R k82 82 w' w.heap.size (fun _ => True) v0_ r1 ∧ Below w.heap.size w w' := by
 have hu82 := Tryz.underlying82
 have HB := A_ (Below.refl w.heap.size w)
 have H : (spec_Pieces.l0 k a0 (([] : List (S82))) 0) = some (r1, r2) := h
 clear h
 obtain ⟨y65, hy65⟩ : ∃ y_ : List (S82), y_ = (([] : List (S82))) := ⟨_, rfl⟩
 replace H : (spec_Pieces.l0 k a0 y65 0) = some (r1, r2) := hy_ hy65 H
 have Ny65 := A_ hy65
 clear hy65
 have H' := A_ H
 clear H
 go_enter Tryz.func31, Tryz.ntmps31
 go_wp2_with (first | ((with_reducible refine gd_ (N := 11) rfl ?_); refine Kd.R_lit k82 _ 82 ?hg (N := 11) ?hd (xs := ([] : List (S82))) (inner := []) (ok := fun _ => True) (okp := fun _ => True) ?hr ?hp (fun _ hk => hk) trivial (Below.refl _ _) (Nat.le_refl _) (by simp) ?_; (case hd => rfl); (case hg => rfl); (case hr => first | (go_simp; done) | (go_simp; rfl)); (case hp => exact (Reps.none _ _)); intro v89 w2 ho3 hb hg_ hnew_; clear hg_ hnew_; (first | rw [← Ny65.out] at ho3 | (simp only [Int.reduceToNat] at ho3; rw [← Ny65.out] at ho3)); have HO77 := A_ (Kd.R_lower ho3 (below_size bB_)); replace HB := A_ (below_step bB_ hb); clear hb ho3))
 go_loopg [4, 5] k (fun kq v4 v5 w' => ∃ (x4_1 : List (S82)) (x5_1 : Int), v5 = .int .i64 x5_1 ∧ Aside0 (spec_Pieces.l0 kq a0 x4_1 x5_1 = some (r1, r2)) ∧ Aside0 (kq ≤ k) ∧ Aside0 (Kd.R k82 82 w' w.heap.size (fun _ => True) v4 x4_1) ∧ Aside0 (Below w.heap.size w w'))
 case atStart => exact ⟨(y65), (0), rs_, H', ⟨Nat.le_refl _⟩, ⟨vR_ HO77.out⟩, ⟨bB_⟩⟩
 case round =>
  clear H'
  obtain ⟨x4_1, x5_1, rfl, HA, HK1, HO_4, HB⟩ := hrel
  cases gk with
  | zero => exact absurd HA.out (by simp [spec_Pieces.l0])
  | succ k1 =>
   have H := HA.out
   clear HA
   simp only [spec_Pieces.l0] at H
   have HC4 := A_ H
   clear H
   go_upto_region 3 with (fail)
   go_cut [19] (fun v19 wc => ∃ (kq : Nat) (x19_3 : Bool), v19 = .bool x19_3 ∧ Aside0 (spec_Pieces.j1 kq a0 x4_1 x5_1 x19_3 = some (r1, r2)) ∧ Aside0 (kq ≤ k1) ∧ Aside0 (Kd.R k82 82 wc w.heap.size (fun _ => True) u4 x4_1) ∧ Aside0 (Below w.heap.size w wc))
   case first =>
    have H := HC4.out
    clear HC4
    by_cases c5 : x5_1 < (a0.size : Int)
    rotate_left
    · rw [if_neg c5] at H
      have c5b0 := decide_eq_false c5
      clear c5
      (first | rw [c5b0] | (simp only [i64_w, i32_w]; rw [c5b0]) | skip)
      have H' := A_ H
      clear H
      go_wp2
      go_meet
      case rel => exact ⟨_, (false), rs_, H', ⟨by have := HK1.out; first | omega | exact Nat.le_refl _⟩, ⟨vR_ HO_4.out⟩, ⟨bB_⟩⟩
    rw [if_pos c5] at H
    have c5b0 := decide_eq_true c5
    clear c5
    (first | rw [c5b0] | (simp only [i64_w, i32_w]; rw [c5b0]) | skip)
    obtain ⟨t76, A6, H⟩ := bo_ H
    (try dsimp only at H)
    have H' := A_ H
    clear H
    go_wp2_with (first | (go_at_call 56; (with_reducible refine (spec_Plain.calls k1 a0 t76 _ A6.out).mono ?_); rintro e w' ⟨rfl, ⟨nd, rfl⟩⟩))
    go_meet
    case rel => exact ⟨_, (t76), rs_, H', ⟨by have := HK1.out; first | omega | exact Nat.le_refl _⟩, ⟨vR_ HO_4.out⟩, ⟨bB_⟩⟩
   case rest =>
    clear HC4
    obtain ⟨kq, x19_3, rfl, HA, HJ3, HO_4, HB⟩ := hcut
    cases kq with
    | zero => exact absurd HA.out (by simp [spec_Pieces.j1])
    | succ kj3 =>
     have H := HA.out
     clear HA
     simp only [spec_Pieces.j1] at H
     by_cases c7 : x19_3 = true
     · subst c7
       rw [if_pos rfl] at H
       by_cases c8 : (x4_1.length : Int) = 60
       · rw [if_pos c8] at H
         obtain ⟨c8b0, c8b1⟩ := eT_ c8
         clear c8
         obtain ⟨y66, hy66⟩ : ∃ y_ : List (S82), y_ = (([] : List (S82))) := ⟨_, rfl⟩
         replace H : (some (y66, false)) = some (r1, r2) := hy_ hy66 H
         have Ny66 := A_ hy66
         clear hy66
         simp only [Option.some.injEq, Prod.mk.injEq] at H
         obtain ⟨rfl, rfl⟩ := H
         obtain ⟨Ao9, co9, eo9⟩ := Kd.R_slice HO_4.out
         subst eo9
         go_wp2_with (first | ((with_reducible refine gd_ (N := 23) rfl ?_); refine Kd.R_lit k82 _ 82 ?hg (N := 23) ?hd (xs := ([] : List (S82))) (inner := []) (ok := fun _ => True) (okp := fun _ => True) ?hr ?hp (fun _ hk => hk) trivial (Below.refl _ _) (Nat.le_refl _) (by simp) ?_; (case hd => rfl); (case hg => rfl); (case hr => first | (go_simp; done) | (go_simp; rfl)); (case hp => exact (Reps.none _ _)); intro v90 w10 ho11 hb hg_ hnew_; clear hg_ hnew_; (first | rw [← Ny66.out] at ho11 | (simp only [Int.reduceToNat] at ho11; rw [← Ny66.out] at ho11)); have HO78 := A_ (Kd.R_lower (Kd.R_new' ho11 (Kd.R_lt (vR_ HO_4.out))) (below_size bB_)); replace HB := A_ (below_step bB_ hb); clear hb ho11))
         go_ret2
         exact ⟨_, rr_, by (with_reducible repeat (first | apply Kd.R_alloc | apply Kd.R_drewN | apply Kd.R_drew)); exact Kd.R_mono HO78.out (fun _ hk => trivial), bB_⟩
       rw [if_neg c8] at H
       obtain ⟨c8b0, c8b1⟩ := eF_ c8
       by_cases c12 : 0 ≤ x5_1
       rotate_left
       · exact absurd H (by rw [if_neg c12]; simp)
       rw [if_pos c12] at H
       have c12b0 := decide_eq_true c12
       clear c12
       by_cases c13 : x5_1 < (a0.size : Int)
       rotate_left
       · exact absurd H (by rw [if_neg c13]; simp)
       rw [if_pos c13] at H
       have c13b0 := decide_eq_true c13
       clear c13
       by_cases c15 : (bt a0 x5_1) = 60
       · rw [if_pos c15] at H
         obtain ⟨c15b0, c15b1⟩ := eT_ c15
         clear c15
         obtain ⟨⟨t59, t60, t61, t62, t63, t75⟩, A16, H⟩ := bo_ H
         (try dsimp only at H)
         by_cases c17 : t75 < 0
         · rw [if_pos c17] at H
           have c17b0 := decide_eq_true c17
           clear c17
           obtain ⟨y67, hy67⟩ : ∃ y_ : List (S82), y_ = (([] : List (S82))) := ⟨_, rfl⟩
           replace H : (some (y67, false)) = some (r1, r2) := hy_ hy67 H
           have Ny67 := A_ hy67
           clear hy67
           simp only [Option.some.injEq, Prod.mk.injEq] at H
           obtain ⟨rfl, rfl⟩ := H
           obtain ⟨Ao18, co18, eo18⟩ := Kd.R_slice HO_4.out
           subst eo18
           have p14 : 0 ≤ (x5_1 : Int) := od_
           have q14 : x5_1 < (a0.size : Int) := od_
           have hx14 := bt_at a0 x5_1
           replace p14 := eq_true p14
           replace q14 := eq_true q14
           go_wp2_with (first | ((with_reducible refine gc_ (f := 57) rfl ?_); refine gL_ (some 31) Tryz.func57 #[.string a0, .int .i64 x5_1] ?_; (with_reducible refine (spec_l7Mark.calls kj3 a0 x5_1 t59 t60 t61 t62 t63 t75 _ A16.out).mono ?_); rintro e w19 ⟨rfl, hb⟩; refine ⟨_, rfl, ?_⟩; replace HO_4 := A_ (Kd.R_below (vR_ HO_4.out) hb); replace HB := A_ (below_step bB_ hb); (try clear hb); (try clear hk)) | ((with_reducible refine gd_ (N := 6) rfl ?_); refine bx_ (N := 6) (cs := #[.int .i64 0, .string (⟨#[]⟩ : ByteArray), .string (⟨#[]⟩ : ByteArray), .bool false, .string (⟨#[]⟩ : ByteArray)]) (t := 82) ?_; intro gb58 hg w20 hbox hb; replace HO_4 := A_ (Kd.R_below (Kd.R_elderB (vR_ HO_4.out) gb58 (Nat.le_of_eq hg.symm)) hb); have BK58 := A_ (hbox); have GW58 := A_ (ge_ hg bB_ : w.heap.size ≤ gb58); have GE58 := A_ (ge_ hg bB_ : w.heap.size ≤ gb58); replace HB := A_ (below_step bB_ hb); clear hb hbox hg; obtain ⟨hcz21_0, hcz21_1, hcz21_2, hcz21_3, hcz21_4, hfz21_0, hfz21_1, hfz21_2, hfz21_3, hfz21_4⟩ := cz5_ BK58.out) | ((with_reducible refine gd_ (N := 36) rfl ?_); refine Kd.R_lit k82 _ 82 ?hg (N := 36) ?hd (xs := ([] : List (S82))) (inner := []) (ok := fun _ => True) (okp := fun _ => True) ?hr ?hp (fun _ hk => hk) trivial (Below.refl _ _) (Nat.le_refl _) (by simp) ?_; (case hd => rfl); (case hg => rfl); (case hr => first | (go_simp; done) | (go_simp; rfl)); (case hp => exact (Reps.none _ _)); intro v91 w22 ho23 hb hg_ hnew_; clear hg_ hnew_; (first | rw [← Ny67.out] at ho23 | (simp only [Int.reduceToNat] at ho23; rw [← Ny67.out] at ho23)); have HO79 := A_ (Kd.R_lower (Kd.R_newB (Kd.R_new' ho23 (Kd.R_lt (by (with_reducible repeat (first | apply Kd.R_alloc | apply Kd.R_drewN | apply Kd.R_drew)); exact (Kd.R_mono (Kd.R_far (p := ⟨gb58, 4, none⟩) (Kd.R_far (p := ⟨gb58, 3, none⟩) (Kd.R_far (p := ⟨gb58, 2, none⟩) (Kd.R_far (p := ⟨gb58, 1, none⟩) (Kd.R_far (p := ⟨gb58, 0, none⟩) (Kd.R_mono HO_4.out (fun k_ hk => (⟨hk, hk.2⟩ : _ ∧ k_ ≠ gb58))) (fun _ hk => hk.2) (.int .i64 t59)) (fun _ hk => hk.2) (.string t60)) (fun _ hk => hk.2) (.string t61)) (fun _ hk => hk.2) (.bool t62)) (fun _ hk => hk.2) (.string t63)) (fun _ h_ => h_.1))))) (g := gb58) (o := .cells #[.int .i64 t59, .string t60, .string t61, .bool t62, .string t63] 82 (0, 0)) (by (with_reducible repeat (first | refine blk_drewN ?_ _ | refine blk_drew ?_ | refine blk_alloc ?_ _)); with_reducible exact p5_01234_ (vb_ BK58.out))) (below_size (bG_ GE58.out))); replace HB := A_ (below_step (bG_ GE58.out) hb); clear hb ho23))
           go_ret2
           exact ⟨_, rr_, by (with_reducible repeat (first | apply Kd.R_alloc | apply Kd.R_drewN | apply Kd.R_drew)); exact Kd.R_mono HO79.out (fun _ hk => trivial), bG_ GE58.out⟩
         rw [if_neg c17] at H
         have c17b0 := decide_eq_false c17
         clear c17
         by_cases c24 : x4_1.length < 2199023255552
         rotate_left
         · exact absurd H (by rw [if_neg c24]; simp)
         rw [if_pos c24] at H
         have LMc24 := A_ c24
         clear c24
         obtain ⟨y68, hy68⟩ : ∃ y_ : List (S82), y_ = (x4_1 ++ [(⟨t59, t60, t61, t62, t63⟩ : S82)]) := ⟨_, rfl⟩
         replace H : (spec_Pieces.l0 kj3 a0 y68 t75) = some (r1, r2) := hy_ hy68 H
         have Ny68 := A_ hy68
         clear hy68
         have H' := A_ H
         clear H
         obtain ⟨Ao25, co25, eo25⟩ := Kd.R_slice HO_4.out
         subst eo25
         have p14 : 0 ≤ (x5_1 : Int) := od_
         have q14 : x5_1 < (a0.size : Int) := od_
         have hx14 := bt_at a0 x5_1
         replace p14 := eq_true p14
         replace q14 := eq_true q14
         go_wp2_with (first | ((with_reducible refine gc_ (f := 57) rfl ?_); refine gL_ (some 31) Tryz.func57 #[.string a0, .int .i64 x5_1] ?_; (with_reducible refine (spec_l7Mark.calls kj3 a0 x5_1 t59 t60 t61 t62 t63 t75 _ A16.out).mono ?_); rintro e w26 ⟨rfl, hb⟩; refine ⟨_, rfl, ?_⟩; replace HO_4 := A_ (Kd.R_below (vR_ HO_4.out) hb); replace HB := A_ (below_step bB_ hb); (try clear hb); (try clear hk)) | ((with_reducible refine gd_ (N := 6) rfl ?_); refine bx_ (N := 6) (cs := #[.int .i64 0, .string (⟨#[]⟩ : ByteArray), .string (⟨#[]⟩ : ByteArray), .bool false, .string (⟨#[]⟩ : ByteArray)]) (t := 82) ?_; intro gb58 hg w27 hbox hb; replace HO_4 := A_ (Kd.R_below (Kd.R_elderB (vR_ HO_4.out) gb58 (Nat.le_of_eq hg.symm)) hb); have BK58 := A_ (hbox); have GW58 := A_ (ge_ hg bB_ : w.heap.size ≤ gb58); have GE58 := A_ (ge_ hg bB_ : w.heap.size ≤ gb58); replace HB := A_ (below_step bB_ hb); clear hb hbox hg; obtain ⟨hcz28_0, hcz28_1, hcz28_2, hcz28_3, hcz28_4, hfz28_0, hfz28_1, hfz28_2, hfz28_3, hfz28_4⟩ := cz5_ BK58.out) | ((with_reducible refine gate_builtin (b := .append) (xs := #[.tmp 37, .tmp 39]) rfl ?_); at_builtin; refine Kd.R_append k82 (w0 := w) w.heap.size rfl (.tmp 37) (.tmp 39) 51 82 (.agg #[(.int .i64 0), (.string ⟨#[]⟩), (.string ⟨#[]⟩), (.bool false), (.string ⟨#[]⟩)]) 64 rfl Tryz.underlying51 info82 rfl (by decide) (by omega) (.slice Ao25 x4_1.length co25) x4_1 (⟨t59, t60, t61, t62, t63⟩ : S82) [.int .i64 t59, .string t60, .string t61, .bool t62, .string t63] (fun k_ => k_ ≠ gb58) (fun _ => False) rfl (by first | (go_simp; done) | (go_simp; rfl)) ?aP (fun _ hk => hk.elim) ?aF ?aO ?aB ?aS ?aL ?_; (case aP => exact k82_mkM _ _ _ (⟨t59, t60, t61, t62, t63⟩ : S82)); (case aB => exact (bG_ GE58.out)); (case aF => exact (fun k_ hk => Kd.freshB (g := gb58) (o := .cells #[.int .i64 t59, .string t60, .string t61, .bool t62, .string t63] 82 (0, 0)) (by (with_reducible repeat (first | refine blk_drewN ?_ _ | refine blk_drew ?_ | refine blk_alloc ?_ _)); with_reducible exact p5_01234_ (vb_ BK58.out)) k_ hk)); (case aO => exact (by (with_reducible repeat (first | apply Kd.R_alloc | apply Kd.R_drewN | apply Kd.R_drew)); exact Kd.R_mono (Kd.R_far (p := ⟨gb58, 4, none⟩) (Kd.R_far (p := ⟨gb58, 3, none⟩) (Kd.R_far (p := ⟨gb58, 2, none⟩) (Kd.R_far (p := ⟨gb58, 1, none⟩) (Kd.R_far (p := ⟨gb58, 0, none⟩) (Kd.R_mono HO_4.out (fun k_ hk => (⟨hk, hk.2⟩ : _ ∧ k_ ≠ gb58))) (fun _ hk => hk.2) (.int .i64 t59)) (fun _ hk => hk.2) (.string t60)) (fun _ hk => hk.2) (.string t61)) (fun _ hk => hk.2) (.bool t62)) (fun _ hk => hk.2) (.string t63)) (fun _ hk => hk.1.2))); (case aS => exact (below_size (bG_ GE58.out))); (case aL => have := LMc24.out; omega); intro v92 w29 ho hb hg hat; rw [← Ny68.out] at ho; replace HB := A_ (hb); have HO80 := A_ (ho); clear HO_4; clear ho hb hg hat))
         go_roundg kj3
         case measure => have := HK1.out; have := HJ3.out; omega
         case rel => exact ⟨(y68), (t75), rs_, H', ⟨by have := HK1.out; have := HJ3.out; omega⟩, ⟨by (with_reducible repeat (first | apply Kd.R_alloc | apply Kd.R_drewN | apply Kd.R_drew)); exact Kd.R_mono HO80.out (fun _ hk => trivial)⟩, ⟨bG_ GE58.out⟩⟩
       rw [if_neg c15] at H
       obtain ⟨c15b0, c15b1⟩ := eF_ c15
       have H' := A_ H
       clear H
       obtain ⟨Ao30, co30, eo30⟩ := Kd.R_slice HO_4.out
       subst eo30
       have p14 : 0 ≤ (x5_1 : Int) := od_
       have q14 : x5_1 < (a0.size : Int) := od_
       have hx14 := bt_at a0 x5_1
       replace p14 := eq_true p14
       replace q14 := eq_true q14
       go_wp2
       go_loopg [8] kj3 (fun kq v8 w' => ∃ (x8_3 : Int), v8 = .int .i64 x8_3 ∧ Aside0 (spec_Pieces.l1 kq a0 x4_1 x5_1 x8_3 = some (r1, r2)) ∧ Aside0 (kq ≤ kj3) ∧ Aside0 (Kd.R k82 82 w' w.heap.size (fun _ => True) (.slice Ao30 x4_1.length co30) x4_1) ∧ Aside0 (Below w.heap.size w w'))
       case atStart => exact ⟨(x5_1), rs_, H', ⟨Nat.le_refl _⟩, ⟨vR_ HO_4.out⟩, ⟨bB_⟩⟩
       case round =>
        clear H'
        try clear c7
        try clear c8
        try clear c8b0
        try clear c8b1
        try clear c12
        try clear c12b0
        try clear c13
        try clear c13b0
        try clear p14
        try clear q14
        try clear hx14
        try clear c15
        try clear c15b0
        try clear c15b1
        try clear p14
        try clear q14
        obtain ⟨x8_3, rfl, HA, HK3, HO_4, HB⟩ := hrel
        cases gk with
        | zero => exact absurd HA.out (by simp [spec_Pieces.l1])
        | succ k3 =>
         have H := HA.out
         clear HA
         simp only [spec_Pieces.l1] at H
         by_cases c31 : x8_3 < (a0.size : Int)
         rotate_left
         · rw [if_neg c31] at H
           have c31b0 := decide_eq_false c31
           clear c31
           by_cases c46 : 0 ≤ x5_1
           rotate_left
           · exact absurd H (by rw [if_neg c46]; simp)
           rw [if_pos c46] at H
           have c46b0 := eq_true c46
           have c46b1 := decide_eq_true c46
           clear c46
           by_cases c47 : x5_1 ≤ x8_3
           rotate_left
           · exact absurd H (by rw [if_neg c47]; simp)
           rw [if_pos c47] at H
           have c47b0 := eq_true c47
           have c47b1 := decide_eq_true c47
           clear c47
           by_cases c48 : x8_3 ≤ (a0.size : Int)
           rotate_left
           · exact absurd H (by rw [if_neg c48]; simp)
           rw [if_pos c48] at H
           have c48b0 := eq_true c48
           have c48b1 := decide_eq_true c48
           clear c48
           obtain ⟨⟨t73, t81⟩, A49, H⟩ := bo_ H
           (try dsimp only at H)
           by_cases c50 : t81 = true
           · subst c50
             rw [if_pos rfl] at H
             by_cases c51 : x4_1.length < 2199023255552
             rotate_left
             · exact absurd H (by rw [if_neg c51]; simp)
             rw [if_pos c51] at H
             have LMc51 := A_ c51
             clear c51
             obtain ⟨y69, hy69⟩ : ∃ y_ : List (S82), y_ = (x4_1 ++ [(⟨4, (⟨#[]⟩ : ByteArray), (⟨#[]⟩ : ByteArray), false, t73⟩ : S82)]) := ⟨_, rfl⟩
             replace H : (spec_Pieces.l0 k3 a0 y69 x8_3) = some (r1, r2) := hy_ hy69 H
             have Ny69 := A_ hy69
             clear hy69
             have H' := A_ H
             clear H
             go_wp2_with (first | ((with_reducible refine gc_ (f := 58) rfl ?_); refine gL_ (some 60) Tryz.func58 #[.string (a0.extract (x5_1 : Int).toNat (x8_3 : Int).toNat)] ?_; (with_reducible refine (spec_Unescape.calls k3 (a0.extract (x5_1 : Int).toNat (x8_3 : Int).toNat) t73 true _ A49.out).mono ?_); rintro e w52 ⟨rfl, hb⟩; refine ⟨_, rfl, ?_⟩; replace HO_4 := A_ (Kd.R_below (vR_ HO_4.out) hb); replace HB := A_ (below_step bB_ hb); clear hb) | ((with_reducible refine gate_builtin (b := .append) (xs := #[.tmp 66, .tmp 69]) rfl ?_); at_builtin; refine Kd.R_append k82 (w0 := w) w.heap.size rfl (.tmp 66) (.tmp 69) 51 82 (.agg #[(.int .i64 0), (.string ⟨#[]⟩), (.string ⟨#[]⟩), (.bool false), (.string ⟨#[]⟩)]) 64 rfl Tryz.underlying51 info82 rfl (by decide) (by omega) (.slice Ao30 x4_1.length co30) x4_1 (⟨4, (⟨#[]⟩ : ByteArray), (⟨#[]⟩ : ByteArray), false, t73⟩ : S82) [.int .i64 4, .string (⟨#[]⟩ : ByteArray), .string (⟨#[]⟩ : ByteArray), .bool false, .string t73] (fun _ => True) (fun _ => False) rfl rfl ?aP (fun _ hk => hk.elim) ?aF ?aO ?aB ?aS ?aL ?_; (case aP => exact k82_mkM _ _ _ (⟨4, (⟨#[]⟩ : ByteArray), (⟨#[]⟩ : ByteArray), false, t73⟩ : S82)); (case aB => exact bB_); (case aF => exact (fun _ _ => trivial)); (case aO => exact (vR_ HO_4.out)); (case aS => exact (below_size bB_)); (case aL => have := LMc51.out; omega); intro v93 w53 ho hb hg hat; rw [← Ny69.out] at ho; replace HB := A_ (hb); have HO83 := A_ (ho); clear HO_4; clear ho hb hg hat))
             go_roundg k3
             case measure => have := HK1.out; have := HJ3.out; have := HK3.out; omega
             case rel => exact ⟨(y69), (x8_3), rs_, H', ⟨by have := HK1.out; have := HJ3.out; have := HK3.out; omega⟩, ⟨vR_ HO83.out⟩, ⟨bB_⟩⟩
           · replace c50 := Bool.eq_false_iff.mpr c50
             subst c50
             rw [if_neg nf_] at H
             obtain ⟨y70, hy70⟩ : ∃ y_ : List (S82), y_ = (([] : List (S82))) := ⟨_, rfl⟩
             replace H : (some (y70, false)) = some (r1, r2) := hy_ hy70 H
             have Ny70 := A_ hy70
             clear hy70
             simp only [Option.some.injEq, Prod.mk.injEq] at H
             obtain ⟨rfl, rfl⟩ := H
             go_wp2_with (first | ((with_reducible refine gc_ (f := 58) rfl ?_); refine gL_ (some 60) Tryz.func58 #[.string (a0.extract (x5_1 : Int).toNat (x8_3 : Int).toNat)] ?_; (with_reducible refine (spec_Unescape.calls k3 (a0.extract (x5_1 : Int).toNat (x8_3 : Int).toNat) t73 false _ A49.out).mono ?_); rintro e w54 ⟨rfl, hb⟩; refine ⟨_, rfl, ?_⟩; replace HO_4 := A_ (Kd.R_below (vR_ HO_4.out) hb); replace HB := A_ (below_step bB_ hb); clear hb) | ((with_reducible refine gd_ (N := 65) rfl ?_); refine Kd.R_lit k82 _ 82 ?hg (N := 65) ?hd (xs := ([] : List (S82))) (inner := []) (ok := fun _ => True) (okp := fun _ => True) ?hr ?hp (fun _ hk => hk) trivial (Below.refl _ _) (Nat.le_refl _) (by simp) ?_; (case hd => rfl); (case hg => rfl); (case hr => first | (go_simp; done) | (go_simp; rfl)); (case hp => exact (Reps.none _ _)); intro v94 w55 ho56 hb hg_ hnew_; clear hg_ hnew_; (first | rw [← Ny70.out] at ho56 | (simp only [Int.reduceToNat] at ho56; rw [← Ny70.out] at ho56)); have HO84 := A_ (Kd.R_lower (Kd.R_new' ho56 (Kd.R_lt (vR_ HO_4.out))) (below_size bB_)); replace HB := A_ (below_step bB_ hb); clear hb ho56))
             go_ret2
             exact ⟨_, rr_, by (with_reducible repeat (first | apply Kd.R_alloc | apply Kd.R_drewN | apply Kd.R_drew)); exact Kd.R_mono HO84.out (fun _ hk => trivial), bB_⟩
         rw [if_pos c31] at H
         have c31b0 := decide_eq_true c31
         clear c31
         by_cases c32 : 0 ≤ x8_3
         rotate_left
         · exact absurd H (by rw [if_neg c32]; simp)
         rw [if_pos c32] at H
         have c32b0 := decide_eq_true c32
         clear c32
         by_cases c34 : (bt a0 x8_3) = 60
         rotate_left
         · rw [if_neg c34] at H
           obtain ⟨c34b0, c34b1⟩ := eF_ c34
           have H' := A_ H
           clear H
           have p33 : 0 ≤ (x8_3 : Int) := od_
           have q33 : x8_3 < (a0.size : Int) := od_
           have hx33 := bt_at a0 x8_3
           replace p33 := eq_true p33
           replace q33 := eq_true q33
           go_wp2
           go_roundg k3
           case measure => have := HK1.out; have := HJ3.out; have := HK3.out; omega
           case rel => exact ⟨(wrap64 (x8_3 + 1)), rs_, H', ⟨by have := HK1.out; have := HJ3.out; have := HK3.out; omega⟩, ⟨vR_ HO_4.out⟩, ⟨bB_⟩⟩
         rw [if_pos c34] at H
         obtain ⟨c34b0, c34b1⟩ := eT_ c34
         clear c34
         by_cases c35 : 0 ≤ x5_1
         rotate_left
         · exact absurd H (by rw [if_neg c35]; simp)
         rw [if_pos c35] at H
         have c35b0 := eq_true c35
         have c35b1 := decide_eq_true c35
         clear c35
         by_cases c36 : x5_1 ≤ x8_3
         rotate_left
         · exact absurd H (by rw [if_neg c36]; simp)
         rw [if_pos c36] at H
         have c36b0 := eq_true c36
         have c36b1 := decide_eq_true c36
         clear c36
         by_cases c37 : x8_3 ≤ (a0.size : Int)
         rotate_left
         · exact absurd H (by rw [if_neg c37]; simp)
         rw [if_pos c37] at H
         have c37b0 := eq_true c37
         have c37b1 := decide_eq_true c37
         clear c37
         obtain ⟨⟨t74, t85⟩, A38, H⟩ := bo_ H
         (try dsimp only at H)
         by_cases c39 : t85 = true
         · subst c39
           rw [if_pos rfl] at H
           by_cases c40 : x4_1.length < 2199023255552
           rotate_left
           · exact absurd H (by rw [if_neg c40]; simp)
           rw [if_pos c40] at H
           have LMc40 := A_ c40
           clear c40
           obtain ⟨y71, hy71⟩ : ∃ y_ : List (S82), y_ = (x4_1 ++ [(⟨4, (⟨#[]⟩ : ByteArray), (⟨#[]⟩ : ByteArray), false, t74⟩ : S82)]) := ⟨_, rfl⟩
           replace H : (spec_Pieces.l0 k3 a0 y71 x8_3) = some (r1, r2) := hy_ hy71 H
           have Ny71 := A_ hy71
           clear hy71
           have H' := A_ H
           clear H
           have p33 : 0 ≤ (x8_3 : Int) := od_
           have q33 : x8_3 < (a0.size : Int) := od_
           have hx33 := bt_at a0 x8_3
           replace p33 := eq_true p33
           replace q33 := eq_true q33
           go_wp2_with (first | ((with_reducible refine gc_ (f := 58) rfl ?_); refine gL_ (some 60) Tryz.func58 #[.string (a0.extract (x5_1 : Int).toNat (x8_3 : Int).toNat)] ?_; (with_reducible refine (spec_Unescape.calls k3 (a0.extract (x5_1 : Int).toNat (x8_3 : Int).toNat) t74 true _ A38.out).mono ?_); rintro e w41 ⟨rfl, hb⟩; refine ⟨_, rfl, ?_⟩; replace HO_4 := A_ (Kd.R_below (vR_ HO_4.out) hb); replace HB := A_ (below_step bB_ hb); clear hb) | ((with_reducible refine gate_builtin (b := .append) (xs := #[.tmp 66, .tmp 69]) rfl ?_); at_builtin; refine Kd.R_append k82 (w0 := w) w.heap.size rfl (.tmp 66) (.tmp 69) 51 82 (.agg #[(.int .i64 0), (.string ⟨#[]⟩), (.string ⟨#[]⟩), (.bool false), (.string ⟨#[]⟩)]) 64 rfl Tryz.underlying51 info82 rfl (by decide) (by omega) (.slice Ao30 x4_1.length co30) x4_1 (⟨4, (⟨#[]⟩ : ByteArray), (⟨#[]⟩ : ByteArray), false, t74⟩ : S82) [.int .i64 4, .string (⟨#[]⟩ : ByteArray), .string (⟨#[]⟩ : ByteArray), .bool false, .string t74] (fun _ => True) (fun _ => False) rfl rfl ?aP (fun _ hk => hk.elim) ?aF ?aO ?aB ?aS ?aL ?_; (case aP => exact k82_mkM _ _ _ (⟨4, (⟨#[]⟩ : ByteArray), (⟨#[]⟩ : ByteArray), false, t74⟩ : S82)); (case aB => exact bB_); (case aF => exact (fun _ _ => trivial)); (case aO => exact (vR_ HO_4.out)); (case aS => exact (below_size bB_)); (case aL => have := LMc40.out; omega); intro v95 w42 ho hb hg hat; rw [← Ny71.out] at ho; replace HB := A_ (hb); have HO86 := A_ (ho); clear HO_4; clear ho hb hg hat))
           go_roundg k3
           case measure => have := HK1.out; have := HJ3.out; have := HK3.out; omega
           case rel => exact ⟨(y71), (x8_3), rs_, H', ⟨by have := HK1.out; have := HJ3.out; have := HK3.out; omega⟩, ⟨vR_ HO86.out⟩, ⟨bB_⟩⟩
         · replace c39 := Bool.eq_false_iff.mpr c39
           subst c39
           rw [if_neg nf_] at H
           obtain ⟨y72, hy72⟩ : ∃ y_ : List (S82), y_ = (([] : List (S82))) := ⟨_, rfl⟩
           replace H : (some (y72, false)) = some (r1, r2) := hy_ hy72 H
           have Ny72 := A_ hy72
           clear hy72
           simp only [Option.some.injEq, Prod.mk.injEq] at H
           obtain ⟨rfl, rfl⟩ := H
           have p33 : 0 ≤ (x8_3 : Int) := od_
           have q33 : x8_3 < (a0.size : Int) := od_
           have hx33 := bt_at a0 x8_3
           replace p33 := eq_true p33
           replace q33 := eq_true q33
           go_wp2_with (first | ((with_reducible refine gc_ (f := 58) rfl ?_); refine gL_ (some 60) Tryz.func58 #[.string (a0.extract (x5_1 : Int).toNat (x8_3 : Int).toNat)] ?_; (with_reducible refine (spec_Unescape.calls k3 (a0.extract (x5_1 : Int).toNat (x8_3 : Int).toNat) t74 false _ A38.out).mono ?_); rintro e w43 ⟨rfl, hb⟩; refine ⟨_, rfl, ?_⟩; replace HO_4 := A_ (Kd.R_below (vR_ HO_4.out) hb); replace HB := A_ (below_step bB_ hb); clear hb) | ((with_reducible refine gd_ (N := 65) rfl ?_); refine Kd.R_lit k82 _ 82 ?hg (N := 65) ?hd (xs := ([] : List (S82))) (inner := []) (ok := fun _ => True) (okp := fun _ => True) ?hr ?hp (fun _ hk => hk) trivial (Below.refl _ _) (Nat.le_refl _) (by simp) ?_; (case hd => rfl); (case hg => rfl); (case hr => first | (go_simp; done) | (go_simp; rfl)); (case hp => exact (Reps.none _ _)); intro v96 w44 ho45 hb hg_ hnew_; clear hg_ hnew_; (first | rw [← Ny72.out] at ho45 | (simp only [Int.reduceToNat] at ho45; rw [← Ny72.out] at ho45)); have HO87 := A_ (Kd.R_lower (Kd.R_new' ho45 (Kd.R_lt (vR_ HO_4.out))) (below_size bB_)); replace HB := A_ (below_step bB_ hb); clear hb ho45))
           go_ret2
           exact ⟨_, rr_, by (with_reducible repeat (first | apply Kd.R_alloc | apply Kd.R_drewN | apply Kd.R_drew)); exact Kd.R_mono HO87.out (fun _ hk => trivial), bB_⟩
     · replace c7 := Bool.eq_false_iff.mpr c7
       subst c7
       rw [if_neg nf_] at H
       obtain ⟨t88, A57, H⟩ := bo_ H
       (try dsimp only at H)
       simp only [Option.some.injEq, Prod.mk.injEq] at H
       obtain ⟨rfl, rfl⟩ := H
       go_wp2_with (first | ((with_reducible refine gc_ (f := 56) rfl ?_); refine gL_ (some 74) Tryz.func56 #[.string a0] ?_; (with_reducible refine (spec_Plain.calls kj3 a0 t88 _ A57.out).mono ?_); rintro e w' ⟨rfl, ⟨nd, rfl⟩⟩; refine ⟨_, rfl, ?_⟩))
       go_ret2
       exact ⟨_, rr_, vR_ HO_4.out, bB_⟩
def spec_l1Blank.f (a0 : Int) : Option (Bool) := if a0 = 32 then (some true) else (some (a0 == 9))
theorem spec_l1Blank.calls (a0 : Int) (r : Bool) (w : World) (h : spec_l1Blank.f a0 = some r) :
 Calls Tryz.prog 96 #[.int .u8 a0] w fun e w' => e = .returned (.bool r) ∧ Drawn0 w w' := by
 have H : (if a0 = 32 then (some true) else (some (a0 == 9))) = some r := h
 clear h
 by_cases c2 : a0 = 32
 rotate_left
 · rw [if_neg c2] at H
   obtain ⟨c2b0, c2b1⟩ := eF_ c2
   obtain rfl := si_ H
   go_enter Tryz.func96, Tryz.ntmps96
   go_wp2
   go_ret
   exact ⟨rs_, dr_⟩
 rw [if_pos c2] at H
 obtain ⟨c2b0, c2b1⟩ := eT_ c2
 clear c2
 obtain rfl := si_ H
 go_enter Tryz.func96, Tryz.ntmps96
 go_wp2
 go_ret
 exact ⟨rs_, dr_⟩
mutual
def spec_Trim.j1 : Nat → ByteArray → Option (ByteArray)
 | 0, _ => none
 | k + 1, x0 => spec_Trim.l1 k x0
def spec_Trim.l1 : Nat → ByteArray → Option (ByteArray)
 | 0, _ => none
 | k + 1, x0 => if (x0.size : Int) > 0 then (if 0 ≤ (wrap64 ((x0.size : Int) - 1)) then (if (wrap64 ((x0.size : Int) - 1)) < (x0.size : Int) then ((spec_l1Blank.f (bt x0 (wrap64 ((x0.size : Int) - 1)))).bind fun t185 => (if t185 = true then (if (wrap64 ((x0.size : Int) - 1)) ≤ (x0.size : Int) then (spec_Trim.l1 k (x0.extract 0 ((wrap64 ((x0.size : Int) - 1)) : Int).toNat)) else (none)) else (some x0))) else (none)) else (none)) else (some x0)
def spec_Trim.l0 : Nat → ByteArray → Option (ByteArray)
 | 0, _ => none
 | k + 1, x0 => if (x0.size : Int) > 0 then (if 0 < (x0.size : Int) then ((spec_l1Blank.f (bt x0 0)).bind fun t184 => (if t184 = true then (if 1 ≤ (x0.size : Int) then (spec_Trim.l0 k (x0.extract 1 x0.size)) else (none)) else (spec_Trim.j1 k x0))) else (none)) else (spec_Trim.j1 k x0)
end
def spec_Trim.f (k : Nat) (a0 : ByteArray) : Option (ByteArray) := spec_Trim.l0 k a0
theorem spec_Trim.calls (k : Nat) (a0 : ByteArray) (r : ByteArray) (w : World) (h : spec_Trim.f k a0 = some r) :
 Calls Tryz.prog 80 #[.string a0] w fun e w' => e = .returned (.string r) ∧ Drawn0 w w' := by
 have H : (spec_Trim.l0 k a0) = some r := h
 clear h
 have HC2 := A_ H
 clear H
 go_enter Tryz.func80, Tryz.ntmps80
 go_upto_block 0 with (fail)
 go_cut [0] (fun v0 wc => ∃ (kq : Nat) (x0_1 : ByteArray), v0 = .string x0_1 ∧ Aside0 (spec_Trim.j1 kq x0_1 = some r) ∧ Aside0 (kq ≤ k) ∧ Drawn0 w wc)
 case first =>
  have H := HC2.out
  clear HC2
  have H' := A_ H
  clear H
  go_wp2
  go_loopg [0] k (fun kq v0 w' => ∃ (x0_1 : ByteArray), v0 = .string x0_1 ∧ Aside0 (spec_Trim.l0 kq x0_1 = some r) ∧ Aside0 (kq ≤ k) ∧ Drawn0 w w')
  case atStart => exact ⟨(a0), rs_, H', ⟨Nat.le_refl _⟩, dr_⟩
  case round =>
   clear H'
   obtain ⟨x0_1, rfl, HA, HK1, ⟨m1, rfl⟩⟩ := hrel
   cases gk with
   | zero => exact absurd HA.out (by simp [spec_Trim.l0])
   | succ k1 =>
    have H := HA.out
    clear HA
    simp only [spec_Trim.l0] at H
    by_cases c3 : (x0_1.size : Int) > 0
    rotate_left
    · rw [if_neg c3] at H
      have c3b0 : decide (0 < (x0_1.size : Int)) = false := decide_eq_false c3
      have c3b1 : decide (0 < x0_1.size) = false := decide_eq_false (by omega)
      clear c3
      (first | rw [c3b0] | (simp only [i64_w, i32_w]; rw [c3b0]) | skip)
      have H' := A_ H
      clear H
      go_wp2
      go_meet
      case rel => exact ⟨_, (x0_1), rs_, H', ⟨by have := HK1.out; first | omega | exact Nat.le_refl _⟩, dr_⟩
    rw [if_pos c3] at H
    have c3b0 : decide (0 < (x0_1.size : Int)) = true := decide_eq_true c3
    have c3b1 : decide (0 < x0_1.size) = true := decide_eq_true (by omega)
    clear c3
    (first | rw [c3b0] | (simp only [i64_w, i32_w]; rw [c3b0]) | skip)
    by_cases c4 : 0 < (x0_1.size : Int)
    rotate_left
    · exact absurd H (by rw [if_neg c4]; simp)
    rw [if_pos c4] at H
    have c4b0 := decide_eq_true c4
    have c4b1 : decide (0 < x0_1.size) = true := decide_eq_true (by omega)
    clear c4
    obtain ⟨t19, A6, H⟩ := bo_ H
    (try dsimp only at H)
    by_cases c7 : t19 = true
    · subst c7
      rw [if_pos rfl] at H
      by_cases c8 : 1 ≤ (x0_1.size : Int)
      rotate_left
      · exact absurd H (by rw [if_neg c8]; simp)
      rw [if_pos c8] at H
      have c8b0 := eq_true c8
      have c8b1 := decide_eq_true c8
      clear c8
      have H' := A_ H
      clear H
      have p5 : 0 ≤ (0 : Int) := (by omega)
      have q5 : 0 < x0_1.size := (by have : (0 : Int) < (x0_1.size : Int) := od_; omega)
      have hx5 : ∀ h : 0 < x0_1.size, ((x0_1[0]'h).toNat : Int) = bt x0_1 0 := bt_at x0_1 0
      clear p5
      have qi5 : (0 < (x0_1.size : Int)) = True := eq_true od_
      replace q5 := eq_true q5
      go_wp2_with (first | (go_at_call 96; (with_reducible refine (spec_l1Blank.calls (bt x0_1 0) true _ A6.out).mono ?_); rintro e w' ⟨rfl, ⟨nd, rfl⟩⟩))
      go_roundg k1
      case measure => have := HK1.out; omega
      case rel => exact ⟨(x0_1.extract 1 x0_1.size), rs_, H', ⟨by have := HK1.out; omega⟩, dr_⟩
    · replace c7 := Bool.eq_false_iff.mpr c7
      subst c7
      rw [if_neg nf_] at H
      have H' := A_ H
      clear H
      have p5 : 0 ≤ (0 : Int) := (by omega)
      have q5 : 0 < x0_1.size := (by have : (0 : Int) < (x0_1.size : Int) := od_; omega)
      have hx5 : ∀ h : 0 < x0_1.size, ((x0_1[0]'h).toNat : Int) = bt x0_1 0 := bt_at x0_1 0
      clear p5
      have qi5 : (0 < (x0_1.size : Int)) = True := eq_true od_
      replace q5 := eq_true q5
      go_wp2_with (first | (go_at_call 96; (with_reducible refine (spec_l1Blank.calls (bt x0_1 0) false _ A6.out).mono ?_); rintro e w' ⟨rfl, ⟨nd, rfl⟩⟩))
      go_meet
      case rel => exact ⟨_, (x0_1), rs_, H', ⟨by have := HK1.out; first | omega | exact Nat.le_refl _⟩, dr_⟩
 case rest =>
  clear HC2
  obtain ⟨kq, x0_1, rfl, HA, HJ1, ⟨mc1, rfl⟩⟩ := hcut
  cases kq with
  | zero => exact absurd HA.out (by simp [spec_Trim.j1])
  | succ kj1 =>
   have H := HA.out
   clear HA
   simp only [spec_Trim.j1] at H
   have H' := A_ H
   clear H
   go_wp2
   go_loopg [0] kj1 (fun kq v0 w' => ∃ (x0_2 : ByteArray), v0 = .string x0_2 ∧ Aside0 (spec_Trim.l1 kq x0_2 = some r) ∧ Aside0 (kq ≤ kj1) ∧ Drawn0 w w')
   case atStart => exact ⟨(x0_1), rs_, H', ⟨Nat.le_refl _⟩, dr_⟩
   case round =>
    clear H'
    obtain ⟨x0_2, rfl, HA, HK2, ⟨m2, rfl⟩⟩ := hrel
    cases gk with
    | zero => exact absurd HA.out (by simp [spec_Trim.l1])
    | succ k2 =>
     have H := HA.out
     clear HA
     simp only [spec_Trim.l1] at H
     by_cases c9 : (x0_2.size : Int) > 0
     rotate_left
     · rw [if_neg c9] at H
       have c9b0 : decide (0 < (x0_2.size : Int)) = false := decide_eq_false c9
       have c9b1 : decide (0 < x0_2.size) = false := decide_eq_false (by omega)
       clear c9
       obtain rfl := si_ H
       go_wp2
       go_ret
       exact ⟨rs_, dr_⟩
     rw [if_pos c9] at H
     have c9b0 : decide (0 < (x0_2.size : Int)) = true := decide_eq_true c9
     have c9b1 : decide (0 < x0_2.size) = true := decide_eq_true (by omega)
     clear c9
     obtain ⟨ji10, hji10⟩ : ∃ j_ : Int, (wrap64 ((x0_2.size : Int) - 1)) = j_ := ⟨_, rfl⟩
     replace H : (if 0 ≤ (ji10) then (if (ji10) < (x0_2.size : Int) then ((spec_l1Blank.f (bt x0_2 (ji10))).bind fun t18 => (if t18 = true then (if (ji10) ≤ (x0_2.size : Int) then (spec_Trim.l1 k2 (x0_2.extract 0 ((ji10) : Int).toNat)) else (none)) else (some x0_2))) else (none)) else (none)) = some r := by first | (rw [hji10] at H; exact H) | (simp only [hji10] at H ⊢; exact H)
     have hji10w : (IntKind.i64.wrap ((x0_2.size : Int) - 1)) = ji10 := (i64_w _).trans hji10
     by_cases c11 : 0 ≤ (ji10)
     rotate_left
     · exact absurd H (by rw [if_neg c11]; simp)
     rw [if_pos c11] at H
     have c11b0 := decide_eq_true c11
     clear c11
     by_cases c12 : (ji10) < (x0_2.size : Int)
     rotate_left
     · exact absurd H (by rw [if_neg c12]; simp)
     rw [if_pos c12] at H
     have c12b0 := decide_eq_true c12
     clear c12
     obtain ⟨t18, A14, H⟩ := bo_ H
     (try dsimp only at H)
     by_cases c15 : t18 = true
     · subst c15
       rw [if_pos rfl] at H
       have c16b0 := eq_true (od_ : 0 ≤ (ji10))
       by_cases c17 : (ji10) ≤ (x0_2.size : Int)
       rotate_left
       · exact absurd H (by rw [if_neg c17]; simp)
       rw [if_pos c17] at H
       have c17b0 := eq_true c17
       have c17b1 := decide_eq_true c17
       clear c17
       have H' := A_ H
       clear H
       have p13 : 0 ≤ ((ji10) : Int) := od_
       have q13 : (ji10) < (x0_2.size : Int) := od_
       have hx13 := bt_at x0_2 (ji10)
       replace p13 := eq_true p13
       replace q13 := eq_true q13
       go_wp2_with (first | (go_at_call 96; (with_reducible refine (spec_l1Blank.calls (bt x0_2 (ji10)) true _ A14.out).mono ?_); rintro e w' ⟨rfl, ⟨nd, rfl⟩⟩))
       go_roundg k2
       case measure => have := HJ1.out; have := HK2.out; omega
       case rel => exact ⟨(x0_2.extract 0 ((ji10) : Int).toNat), (by first | rfl | (simp; done) | (simp only [← hji10] <;> (first | rfl | simp)) | (simp [*]; done)), H', ⟨by have := HJ1.out; have := HK2.out; omega⟩, dr_⟩
     · replace c15 := Bool.eq_false_iff.mpr c15
       subst c15
       rw [if_neg nf_] at H
       obtain rfl := si_ H
       have p13 : 0 ≤ ((ji10) : Int) := od_
       have q13 : (ji10) < (x0_2.size : Int) := od_
       have hx13 := bt_at x0_2 (ji10)
       replace p13 := eq_true p13
       replace q13 := eq_true q13
       go_wp2_with (first | (go_at_call 96; (with_reducible refine (spec_l1Blank.calls (bt x0_2 (ji10)) false _ A14.out).mono ?_); rintro e w' ⟨rfl, ⟨nd, rfl⟩⟩))
       go_ret
       exact ⟨by first | rfl | (simp; done) | (simp only [← hji10] <;> (first | rfl | simp)) | (simp [*]; done), dr_⟩
set_option maxHeartbeats 8000000
set_option maxRecDepth 100000
def spec_l8Blank.f (k : Nat) (a0 : ByteArray) : Option (Bool) := (spec_Trim.f k a0).bind fun t186 => (some (t186.toList == ([] : List UInt8)))
theorem spec_l8Blank.calls (k : Nat) (a0 : ByteArray) (r : Bool) (w : World) (h : spec_l8Blank.f k a0 = some r) :
 Calls Tryz.prog 59 #[.string a0] w fun e w' => e = .returned (.bool r) ∧ Drawn0 w w' := by
 have H : ((spec_Trim.f k a0).bind fun t1 => (some (t1.toList == ([] : List UInt8)))) = some r := h
 clear h
 obtain ⟨t1, A2, H⟩ := bo_ H
 (try dsimp only at H)
 obtain rfl := si_ H
 go_enter Tryz.func59, Tryz.ntmps59
 go_wp2_with (first | ((with_reducible refine gc_ (f := 80) rfl ?_); refine gL_ (some 4) Tryz.func80 #[.string a0] ?_; (with_reducible refine (spec_Trim.calls k a0 t1 _ A2.out).mono ?_); rintro e w' ⟨rfl, ⟨nd, rfl⟩⟩; refine ⟨_, rfl, ?_⟩))
 go_ret
 (try rw [show (t1.toList == ([] : List UInt8)) = t1.toList.isEmpty from by cases t1.toList <;> rfl])   -- as the walk has it
 exact ⟨rs_, dr_⟩
def impl_isPlain.f (a0 : Int) : Option (Bool) := if a0 ≥ 32 then (some (decide (a0 ≤ 126))) else (some false)
theorem impl_isPlain.calls (a0 : Int) (r : Bool) (w : World) (h : impl_isPlain.f a0 = some r) :
 Calls Tryz.prog 81 #[.int .u8 a0] w fun e w' => e = .returned (.bool r) ∧ Drawn0 w w' := by
 have H : (if a0 ≥ 32 then (some (decide (a0 ≤ 126))) else (some false)) = some r := h
 clear h
 by_cases c2 : a0 ≥ 32
 · rw [if_pos c2] at H
   have c2b0 : decide (32 ≤ a0) = true := decide_eq_true c2
   clear c2
   obtain rfl := si_ H
   go_enter Tryz.func81, Tryz.ntmps81
   go_wp2
   go_ret
   exact ⟨rs_, dr_⟩
 rw [if_neg c2] at H
 have c2b0 : decide (32 ≤ a0) = false := decide_eq_false c2
 clear c2
 obtain rfl := si_ H
 go_enter Tryz.func81, Tryz.ntmps81
 go_wp2
 go_ret
 exact ⟨rs_, dr_⟩
def impl_Plain.l0 : Nat → ByteArray → Int → Option (Bool)
 | 0, _, _ => none
 | k + 1, x0, x3 => if x3 < (x0.size : Int) then (if 0 ≤ x3 then ((impl_isPlain.f (bt x0 x3)).bind fun t202 => (if t202 = true then (impl_Plain.l0 k x0 (wrap64 (x3 + 1))) else (some false))) else (none)) else (some true)
def impl_Plain.f (k : Nat) (a0 : ByteArray) : Option (Bool) := impl_Plain.l0 k a0 0
theorem impl_Plain.calls (k : Nat) (a0 : ByteArray) (r : Bool) (w : World) (h : impl_Plain.f k a0 = some r) :
 Calls Tryz.prog 61 #[.string a0] w fun e w' => e = .returned (.bool r) ∧ Drawn0 w w' := by
 have H : (impl_Plain.l0 k a0 0) = some r := h
 clear h
 have H' := A_ H
 clear H
 go_enter Tryz.func61, Tryz.ntmps61
 go_wp2
 go_loopg [3] k (fun kq v3 w' => ∃ (x3_1 : Int), v3 = .int .i64 x3_1 ∧ Aside0 (impl_Plain.l0 kq a0 x3_1 = some r) ∧ Aside0 (kq ≤ k) ∧ Drawn0 w w')
 case atStart => exact ⟨(0), rs_, H', ⟨Nat.le_refl _⟩, dr_⟩
 case round =>
  clear H'
  obtain ⟨x3_1, rfl, HA, HK1, ⟨m1, rfl⟩⟩ := hrel
  cases gk with
  | zero => exact absurd HA.out (by simp [impl_Plain.l0])
  | succ k1 =>
   have H := HA.out
   clear HA
   simp only [impl_Plain.l0] at H
   by_cases c2 : x3_1 < (a0.size : Int)
   rotate_left
   · rw [if_neg c2] at H
     have c2b0 := decide_eq_false c2
     clear c2
     obtain rfl := si_ H
     go_wp2
     go_ret
     exact ⟨rs_, dr_⟩
   rw [if_pos c2] at H
   have c2b0 := decide_eq_true c2
   clear c2
   by_cases c3 : 0 ≤ x3_1
   rotate_left
   · exact absurd H (by rw [if_neg c3]; simp)
   rw [if_pos c3] at H
   have c3b0 := decide_eq_true c3
   clear c3
   obtain ⟨t7, A5, H⟩ := bo_ H
   (try dsimp only at H)
   by_cases c6 : t7 = true
   · subst c6
     rw [if_pos rfl] at H
     have H' := A_ H
     clear H
     have p4 : 0 ≤ (x3_1 : Int) := od_
     have q4 : x3_1 < (a0.size : Int) := od_
     have hx4 := bt_at a0 x3_1
     replace p4 := eq_true p4
     replace q4 := eq_true q4
     go_wp2_with (first | ((with_reducible refine gc_ (f := 81) rfl ?_); refine gL_ (some 13) Tryz.func81 #[.int .u8 (bt a0 x3_1)] ?_; (with_reducible refine (impl_isPlain.calls (bt a0 x3_1) true _ A5.out).mono ?_); rintro e w' ⟨rfl, ⟨nd, rfl⟩⟩; refine ⟨_, rfl, ?_⟩))
     go_roundg k1
     case measure => have := HK1.out; omega
     case rel => exact ⟨(wrap64 (x3_1 + 1)), rs_, H', ⟨by have := HK1.out; omega⟩, dr_⟩
   · replace c6 := Bool.eq_false_iff.mpr c6
     subst c6
     rw [if_neg nf_] at H
     obtain rfl := si_ H
     have p4 : 0 ≤ (x3_1 : Int) := od_
     have q4 : x3_1 < (a0.size : Int) := od_
     have hx4 := bt_at a0 x3_1
     replace p4 := eq_true p4
     replace q4 := eq_true q4
     go_wp2_with (first | ((with_reducible refine gc_ (f := 81) rfl ?_); refine gL_ (some 13) Tryz.func81 #[.int .u8 (bt a0 x3_1)] ?_; (with_reducible refine (impl_isPlain.calls (bt a0 x3_1) false _ A5.out).mono ?_); rintro e w' ⟨rfl, ⟨nd, rfl⟩⟩; refine ⟨_, rfl, ?_⟩))
     go_ret
     exact ⟨rs_, dr_⟩
def impl_isSmall.f (a0 : Int) : Option (Bool) := if a0 ≥ 97 then (some (decide (a0 ≤ 122))) else (some false)
theorem impl_isSmall.calls (a0 : Int) (r : Bool) (w : World) (h : impl_isSmall.f a0 = some r) :
 Calls Tryz.prog 89 #[.int .u8 a0] w fun e w' => e = .returned (.bool r) ∧ Drawn0 w w' := by
 have H : (if a0 ≥ 97 then (some (decide (a0 ≤ 122))) else (some false)) = some r := h
 clear h
 by_cases c2 : a0 ≥ 97
 · rw [if_pos c2] at H
   have c2b0 : decide (97 ≤ a0) = true := decide_eq_true c2
   clear c2
   obtain rfl := si_ H
   go_enter Tryz.func89, Tryz.ntmps89
   go_wp2
   go_ret
   exact ⟨rs_, dr_⟩
 rw [if_neg c2] at H
 have c2b0 : decide (97 ≤ a0) = false := decide_eq_false c2
 clear c2
 obtain rfl := si_ H
 go_enter Tryz.func89, Tryz.ntmps89
 go_wp2
 go_ret
 exact ⟨rs_, dr_⟩
def impl_isDigit.f (a0 : Int) : Option (Bool) := if a0 ≥ 48 then (some (decide (a0 ≤ 57))) else (some false)
theorem impl_isDigit.calls (a0 : Int) (r : Bool) (w : World) (h : impl_isDigit.f a0 = some r) :
 Calls Tryz.prog 90 #[.int .u8 a0] w fun e w' => e = .returned (.bool r) ∧ Drawn0 w w' := by
 have H : (if a0 ≥ 48 then (some (decide (a0 ≤ 57))) else (some false)) = some r := h
 clear h
 by_cases c2 : a0 ≥ 48
 · rw [if_pos c2] at H
   have c2b0 : decide (48 ≤ a0) = true := decide_eq_true c2
   clear c2
   obtain rfl := si_ H
   go_enter Tryz.func90, Tryz.ntmps90
   go_wp2
   go_ret
   exact ⟨rs_, dr_⟩
 rw [if_neg c2] at H
 have c2b0 : decide (48 ≤ a0) = false := decide_eq_false c2
 clear c2
 obtain rfl := si_ H
 go_enter Tryz.func90, Tryz.ntmps90
 go_wp2
 go_ret
 exact ⟨rs_, dr_⟩
def impl_in.f (a0 : Int) (a1 : Int) (a2 : Int) : Option (Bool) := if a0 ≥ a1 then (some (decide (a0 ≤ a2))) else (some false)
theorem impl_in.calls (a0 : Int) (a1 : Int) (a2 : Int) (r : Bool) (w : World) (h : impl_in.f a0 a1 a2 = some r) :
 Calls Tryz.prog 91 #[.int .i64 a0, .int .i64 a1, .int .i64 a2] w fun e w' => e = .returned (.bool r) ∧ Drawn0 w w' := by
 have H : (if a0 ≥ a1 then (some (decide (a0 ≤ a2))) else (some false)) = some r := h
 clear h
 by_cases c4 : a0 ≥ a1
 · rw [if_pos c4] at H
   have c4b0 : decide (a1 ≤ a0) = true := decide_eq_true c4
   clear c4
   obtain rfl := si_ H
   go_enter Tryz.func91, Tryz.ntmps91
   go_wp2
   go_ret
   exact ⟨rs_, dr_⟩
 rw [if_neg c4] at H
 have c4b0 : decide (a1 ≤ a0) = false := decide_eq_false c4
 clear c4
 obtain rfl := si_ H
 go_enter Tryz.func91, Tryz.ntmps91
 go_wp2
 go_ret
 exact ⟨rs_, dr_⟩
def impl_SmallName.l0 : Nat → ByteArray → Int → Option (Bool)
 | 0, _, _ => none
 | k + 1, x0, x3 => if x3 < (x0.size : Int) then (if 0 ≤ x3 then ((impl_isSmall.f (bt x0 x3)).bind fun t204 => (if t204 = true then (impl_SmallName.l0 k x0 (wrap64 (x3 + 1))) else (if x3 = 0 then (some false) else ((impl_isDigit.f (bt x0 x3)).bind fun t205 => (if t205 = true then (impl_SmallName.l0 k x0 (wrap64 (x3 + 1))) else (if (bt x0 x3) = 45 then (impl_SmallName.l0 k x0 (wrap64 (x3 + 1))) else (some false))))))) else (none)) else ((impl_in.f (x0.size : Int) 1 20).bind fun t203 => (some t203))
def impl_SmallName.f (k : Nat) (a0 : ByteArray) : Option (Bool) := impl_SmallName.l0 k a0 0
theorem impl_SmallName.calls (k : Nat) (a0 : ByteArray) (r : Bool) (w : World) (h : impl_SmallName.f k a0 = some r) :
 Calls Tryz.prog 70 #[.string a0] w fun e w' => e = .returned (.bool r) ∧ Drawn0 w w' := by
 have H : (impl_SmallName.l0 k a0 0) = some r := h
 clear h
 have H' := A_ H
 clear H
 go_enter Tryz.func70, Tryz.ntmps70
 go_wp2
 go_loopg [3] k (fun kq v3 w' => ∃ (x3_1 : Int), v3 = .int .i64 x3_1 ∧ Aside0 (impl_SmallName.l0 kq a0 x3_1 = some r) ∧ Aside0 (kq ≤ k) ∧ Drawn0 w w')
 case atStart => exact ⟨(0), rs_, H', ⟨Nat.le_refl _⟩, dr_⟩
 case round =>
  clear H'
  obtain ⟨x3_1, rfl, HA, HK1, ⟨m1, rfl⟩⟩ := hrel
  cases gk with
  | zero => exact absurd HA.out (by simp [impl_SmallName.l0])
  | succ k1 =>
   have H := HA.out
   clear HA
   simp only [impl_SmallName.l0] at H
   by_cases c2 : x3_1 < (a0.size : Int)
   rotate_left
   · rw [if_neg c2] at H
     have c2b0 := decide_eq_false c2
     clear c2
     obtain ⟨t14, A13, H⟩ := bo_ H
     (try dsimp only at H)
     obtain rfl := si_ H
     go_wp2_with (first | ((with_reducible refine gc_ (f := 91) rfl ?_); refine gL_ (some 34) Tryz.func91 #[.int .i64 (a0.size : Int), .int .i64 1, .int .i64 20] ?_; (with_reducible refine (impl_in.calls (a0.size : Int) 1 20 t14 _ A13.out).mono ?_); rintro e w' ⟨rfl, ⟨nd, rfl⟩⟩; refine ⟨_, rfl, ?_⟩))
     go_ret
     exact ⟨rs_, dr_⟩
   rw [if_pos c2] at H
   have c2b0 := decide_eq_true c2
   clear c2
   by_cases c3 : 0 ≤ x3_1
   rotate_left
   · exact absurd H (by rw [if_neg c3]; simp)
   rw [if_pos c3] at H
   have c3b0 := decide_eq_true c3
   clear c3
   obtain ⟨t15, A5, H⟩ := bo_ H
   (try dsimp only at H)
   by_cases c6 : t15 = true
   · subst c6
     rw [if_pos rfl] at H
     have H' := A_ H
     clear H
     have p4 : 0 ≤ (x3_1 : Int) := od_
     have q4 : x3_1 < (a0.size : Int) := od_
     have hx4 := bt_at a0 x3_1
     replace p4 := eq_true p4
     replace q4 := eq_true q4
     go_wp2_with (first | ((with_reducible refine gc_ (f := 89) rfl ?_); refine gL_ (some 13) Tryz.func89 #[.int .u8 (bt a0 x3_1)] ?_; (with_reducible refine (impl_isSmall.calls (bt a0 x3_1) true _ A5.out).mono ?_); rintro e w' ⟨rfl, ⟨nd, rfl⟩⟩; refine ⟨_, rfl, ?_⟩))
     go_roundg k1
     case measure => have := HK1.out; omega
     case rel => exact ⟨(wrap64 (x3_1 + 1)), rs_, H', ⟨by have := HK1.out; omega⟩, dr_⟩
   · replace c6 := Bool.eq_false_iff.mpr c6
     subst c6
     rw [if_neg nf_] at H
     by_cases c7 : x3_1 = 0
     · rw [if_pos c7] at H
       obtain ⟨c7b0, c7b1⟩ := eT_ c7
       clear c7
       obtain rfl := si_ H
       have p4 : 0 ≤ (x3_1 : Int) := od_
       have q4 : x3_1 < (a0.size : Int) := od_
       have hx4 := bt_at a0 x3_1
       replace p4 := eq_true p4
       replace q4 := eq_true q4
       go_wp2_with (first | ((with_reducible refine gc_ (f := 89) rfl ?_); refine gL_ (some 13) Tryz.func89 #[.int .u8 (bt a0 x3_1)] ?_; (with_reducible refine (impl_isSmall.calls (bt a0 x3_1) false _ A5.out).mono ?_); rintro e w' ⟨rfl, ⟨nd, rfl⟩⟩; refine ⟨_, rfl, ?_⟩))
       go_ret
       exact ⟨rs_, dr_⟩
     rw [if_neg c7] at H
     obtain ⟨c7b0, c7b1⟩ := eF_ c7
     obtain ⟨t16, A9, H⟩ := bo_ H
     (try dsimp only at H)
     by_cases c10 : t16 = true
     · subst c10
       rw [if_pos rfl] at H
       have H' := A_ H
       clear H
       have p4 : 0 ≤ (x3_1 : Int) := od_
       have q4 : x3_1 < (a0.size : Int) := od_
       have hx4 := bt_at a0 x3_1
       replace p4 := eq_true p4
       replace q4 := eq_true q4
       go_wp2_with (first | ((with_reducible refine gc_ (f := 89) rfl ?_); refine gL_ (some 13) Tryz.func89 #[.int .u8 (bt a0 x3_1)] ?_; (with_reducible refine (impl_isSmall.calls (bt a0 x3_1) false _ A5.out).mono ?_); rintro e w' ⟨rfl, ⟨nd, rfl⟩⟩; refine ⟨_, rfl, ?_⟩; have p8 : 0 ≤ (x3_1 : Int) := od_; have q8 : x3_1 < (a0.size : Int) := od_; have hx8 := bt_at a0 x3_1; replace p8 := eq_true p8; replace q8 := eq_true q8) | (go_at_call 90; (with_reducible refine (impl_isDigit.calls (bt a0 x3_1) true _ A9.out).mono ?_); rintro e w' ⟨rfl, ⟨nd, rfl⟩⟩))
       go_roundg k1
       case measure => have := HK1.out; omega
       case rel => exact ⟨(wrap64 (x3_1 + 1)), rs_, H', ⟨by have := HK1.out; omega⟩, dr_⟩
     · replace c10 := Bool.eq_false_iff.mpr c10
       subst c10
       rw [if_neg nf_] at H
       by_cases c12 : (bt a0 x3_1) = 45
       rotate_left
       · rw [if_neg c12] at H
         obtain ⟨c12b0, c12b1⟩ := eF_ c12
         obtain rfl := si_ H
         have p4 : 0 ≤ (x3_1 : Int) := od_
         have q4 : x3_1 < (a0.size : Int) := od_
         have hx4 := bt_at a0 x3_1
         replace p4 := eq_true p4
         replace q4 := eq_true q4
         go_wp2_with (first | ((with_reducible refine gc_ (f := 89) rfl ?_); refine gL_ (some 13) Tryz.func89 #[.int .u8 (bt a0 x3_1)] ?_; (with_reducible refine (impl_isSmall.calls (bt a0 x3_1) false _ A5.out).mono ?_); rintro e w' ⟨rfl, ⟨nd, rfl⟩⟩; refine ⟨_, rfl, ?_⟩; have p8 : 0 ≤ (x3_1 : Int) := od_; have q8 : x3_1 < (a0.size : Int) := od_; have hx8 := bt_at a0 x3_1; replace p8 := eq_true p8; replace q8 := eq_true q8) | (go_at_call 90; (with_reducible refine (impl_isDigit.calls (bt a0 x3_1) false _ A9.out).mono ?_); rintro e w' ⟨rfl, ⟨nd, rfl⟩⟩; have p11 : 0 ≤ (x3_1 : Int) := od_; have q11 : x3_1 < (a0.size : Int) := od_; have hx11 := bt_at a0 x3_1; replace p11 := eq_true p11; replace q11 := eq_true q11))
         go_ret
         exact ⟨rs_, dr_⟩
       rw [if_pos c12] at H
       obtain ⟨c12b0, c12b1⟩ := eT_ c12
       clear c12
       have H' := A_ H
       clear H
       have p4 : 0 ≤ (x3_1 : Int) := od_
       have q4 : x3_1 < (a0.size : Int) := od_
       have hx4 := bt_at a0 x3_1
       replace p4 := eq_true p4
       replace q4 := eq_true q4
       go_wp2_with (first | ((with_reducible refine gc_ (f := 89) rfl ?_); refine gL_ (some 13) Tryz.func89 #[.int .u8 (bt a0 x3_1)] ?_; (with_reducible refine (impl_isSmall.calls (bt a0 x3_1) false _ A5.out).mono ?_); rintro e w' ⟨rfl, ⟨nd, rfl⟩⟩; refine ⟨_, rfl, ?_⟩; have p8 : 0 ≤ (x3_1 : Int) := od_; have q8 : x3_1 < (a0.size : Int) := od_; have hx8 := bt_at a0 x3_1; replace p8 := eq_true p8; replace q8 := eq_true q8) | (go_at_call 90; (with_reducible refine (impl_isDigit.calls (bt a0 x3_1) false _ A9.out).mono ?_); rintro e w' ⟨rfl, ⟨nd, rfl⟩⟩; have p11 : 0 ≤ (x3_1 : Int) := od_; have q11 : x3_1 < (a0.size : Int) := od_; have hx11 := bt_at a0 x3_1; replace p11 := eq_true p11; replace q11 := eq_true q11))
       go_roundg k1
       case measure => have := HK1.out; omega
       case rel => exact ⟨(wrap64 (x3_1 + 1)), rs_, H', ⟨by have := HK1.out; omega⟩, dr_⟩
set_option maxHeartbeats 8000000
set_option maxRecDepth 100000
mutual
def impl_nodeOk.j0 : Nat → Int → Bool → ByteArray → ByteArray → ByteArray → List (S24) → Option (Int × Bool)
 | 0, _, _, _, _, _, _ => none
 | k + 1, x1, x53, x207000, x207001, x207002, x207003 => if x53 = true then (some (0, false)) else (impl_nodeOk.l0 k x1 1 x207003 (x207003.length : Int) 0)
def impl_nodeOk.l0 : Nat → Int → Int → List (S24) → Int → Int → Option (Int × Bool)
 | 0, _, _, _, _, _ => none
 | k + 1, x1, x6, x55, x56, x57 => if x57 < x56 then (if 0 ≤ x57 then (if x57 < (x55.length : Int) then ((impl_nodeOk.f k ((rd_T24 x55 x57).f0) ((rd_T24 x55 x57).f1) ((rd_T24 x55 x57).f2) ((rd_T24 x55 x57).f3) (wrap64 (x1 + 1))).bind fun bt212 => (if bt212.2 = true then (if (wrap64 (x6 + bt212.1)) > 20 then (some (0, false)) else (impl_nodeOk.l0 k x1 (wrap64 (x6 + bt212.1)) x55 x56 (wrap64 (x57 + 1)))) else (some (0, false)))) else (none)) else (none)) else (some (x6, true))
def impl_nodeOk.f : Nat → ByteArray → ByteArray → ByteArray → List (S24) → Int → Option (Int × Bool)
 | 0, _, _, _, _, _ => none
 | k + 1, a0_0, a0_1, a0_2, l0_3, a1 => if a1 > 5 then (impl_nodeOk.j0 k a1 true a0_0 a0_1 a0_2 l0_3) else (if (a0_0.size : Int) > 20 then (impl_nodeOk.j0 k a1 true a0_0 a0_1 a0_2 l0_3) else ((impl_Plain.f k a0_0).bind fun t207 => (if t207 = true then ((impl_SmallName.f k a0_1).bind fun t208 => (if t208 = true then (if (a0_2.size : Int) > 60 then (impl_nodeOk.j0 k a1 true a0_0 a0_1 a0_2 l0_3) else ((impl_Plain.f k a0_2).bind fun t209 => (if t209 = true then (if a0_2.toList = ([] : List UInt8) then (impl_nodeOk.j0 k a1 false a0_0 a0_1 a0_2 l0_3) else (impl_nodeOk.j0 k a1 (decide ((l0_3.length : Int) > 0)) a0_0 a0_1 a0_2 l0_3)) else (impl_nodeOk.j0 k a1 true a0_0 a0_1 a0_2 l0_3)))) else (impl_nodeOk.j0 k a1 true a0_0 a0_1 a0_2 l0_3))) else (impl_nodeOk.j0 k a1 true a0_0 a0_1 a0_2 l0_3))))
end
theorem impl_nodeOk.calls (k : Nat) : ∀ (a0_0 : ByteArray) (a0_1 : ByteArray) (a0_2 : ByteArray) (A0_3 : Option Addr) (c0_3 : Nat) (l0_3 : List (S24)) (a1 : Int) (r1 : Int) (r2 : Bool) (w : World) (hr0_3 : Kd.C k24 w A0_3 l0_3.length l0_3) (hc0_3 : l0_3.length ≤ c0_3) (h : impl_nodeOk.f k a0_0 a0_1 a0_2 l0_3 a1 = some (r1, r2)),
 Calls Tryz.prog 49 #[.agg #[.string a0_0, .string a0_1, .string a0_2, .slice A0_3 l0_3.length c0_3], .int .i64 a1] w fun e w' => e = .returned (.tuple #[.int .i64 r1, .bool r2]) ∧ Below w.heap.size w w' := by
 induction k using Nat.strongRecOn with
 | _ k ih =>
 intro a0_0 a0_1 a0_2 A0_3 c0_3 l0_3 a1 r1 r2 w hr0_3 hc0_3 h
 cases k with
 | zero => exact absurd h (by simp [impl_nodeOk.f])
 | succ k =>
 simp only [impl_nodeOk.f] at h
 have hu24 := Tryz.underlying24
 have HR0_3 := A_ hr0_3
 clear hr0_3 hc0_3
 have HB := A_ (Below.refl w.heap.size w)
 have H : (if a1 > 5 then (impl_nodeOk.j0 k a1 true a0_0 a0_1 a0_2 l0_3) else (if (a0_0.size : Int) > 20 then (impl_nodeOk.j0 k a1 true a0_0 a0_1 a0_2 l0_3) else ((impl_Plain.f k a0_0).bind fun t46 => (if t46 = true then ((impl_SmallName.f k a0_1).bind fun t47 => (if t47 = true then (if (a0_2.size : Int) > 60 then (impl_nodeOk.j0 k a1 true a0_0 a0_1 a0_2 l0_3) else ((impl_Plain.f k a0_2).bind fun t48 => (if t48 = true then (if a0_2.toList = ([] : List UInt8) then (impl_nodeOk.j0 k a1 false a0_0 a0_1 a0_2 l0_3) else (impl_nodeOk.j0 k a1 (decide ((l0_3.length : Int) > 0)) a0_0 a0_1 a0_2 l0_3)) else (impl_nodeOk.j0 k a1 true a0_0 a0_1 a0_2 l0_3)))) else (impl_nodeOk.j0 k a1 true a0_0 a0_1 a0_2 l0_3))) else (impl_nodeOk.j0 k a1 true a0_0 a0_1 a0_2 l0_3))))) = some (r1, r2) := h
 clear h
 have HC3 := A_ H
 clear H
 go_enter Tryz.func49, Tryz.ntmps49
 go_upto_region 1 with (first | ((with_reducible refine gd_ (N := 2) rfl ?_); (try (refine gate_guard (by rfl) ?_; dsimp only)); refine bx_ (N := 2) (cs := #[.string a0_0, .string a0_1, .string a0_2, .slice A0_3 l0_3.length c0_3]) (t := 24) ?_; intro gb43 hg w4 hbox hb; have BK43 := A_ (hbox); have GW43 := A_ (ge_ hg bB_ : w.heap.size ≤ gb43); have GE43 := A_ (ge_ hg bB_ : w.heap.size ≤ gb43); replace HB := A_ (below_step bB_ hb); clear hb hbox hg))
 (try simp only [Act.put, List.setIfInBounds_toArray, List.set_cons_zero, List.set_cons_succ])
 go_cut [53] (fun v53 wc => ∃ (kq : Nat) (x53_2 : Bool), v53 = .bool x53_2 ∧ Aside0 (impl_nodeOk.j0 kq a1 x53_2 a0_0 a0_1 a0_2 l0_3 = some (r1, r2)) ∧ Aside0 (kq ≤ k) ∧ Aside0 (wc.heap[gb43]? = some (.cells #[.string a0_0, .string a0_1, .string a0_2, (.slice A0_3 l0_3.length c0_3)] 24 (0, 0))) ∧ Aside0 (Below w.heap.size w wc))
 case first =>
  have H := HC3.out
  clear HC3
  by_cases c5 : a1 > 5
  · rw [if_pos c5] at H
    have c5b0 : decide (5 < a1) = true := decide_eq_true c5
    clear c5
    (first | rw [c5b0] | (simp only [i64_w, i32_w]; rw [c5b0]) | skip)
    have H' := A_ H
    clear H
    go_wp2
    go_meet
    case rel => exact ⟨_, (true), rs_, H', ⟨by first | omega | exact Nat.le_refl _⟩, ⟨vb_ BK43.out⟩, ⟨bG_ GE43.out⟩⟩
  rw [if_neg c5] at H
  have c5b0 : decide (5 < a1) = false := decide_eq_false c5
  clear c5
  (first | rw [c5b0] | (simp only [i64_w, i32_w]; rw [c5b0]) | skip)
  by_cases c6 : (a0_0.size : Int) > 20
  · rw [if_pos c6] at H
    have c6b0 : decide (20 < (a0_0.size : Int)) = true := decide_eq_true c6
    have c6b1 : decide (20 < a0_0.size) = true := decide_eq_true (by omega)
    clear c6
    have H' := A_ H
    clear H
    obtain ⟨hcz7_0, hcz7_1, hcz7_2, hcz7_3, hfz7_0, hfz7_1, hfz7_2, hfz7_3⟩ := cz4_ BK43.out
    go_wp2
    go_meet
    case rel => exact ⟨_, (true), rs_, H', ⟨by first | omega | exact Nat.le_refl _⟩, ⟨vb_ BK43.out⟩, ⟨bG_ GE43.out⟩⟩
  rw [if_neg c6] at H
  have c6b0 : decide (20 < (a0_0.size : Int)) = false := decide_eq_false c6
  have c6b1 : decide (20 < a0_0.size) = false := decide_eq_false (by omega)
  clear c6
  obtain ⟨t46, A8, H⟩ := bo_ H
  (try dsimp only at H)
  by_cases c9 : t46 = true
  · subst c9
    rw [if_pos rfl] at H
    obtain ⟨t47, A10, H⟩ := bo_ H
    (try dsimp only at H)
    by_cases c11 : t47 = true
    · subst c11
      rw [if_pos rfl] at H
      by_cases c12 : (a0_2.size : Int) > 60
      · rw [if_pos c12] at H
        have c12b0 : decide (60 < (a0_2.size : Int)) = true := decide_eq_true c12
        have c12b1 : decide (60 < a0_2.size) = true := decide_eq_true (by omega)
        clear c12
        have H' := A_ H
        clear H
        obtain ⟨hcz13_0, hcz13_1, hcz13_2, hcz13_3, hfz13_0, hfz13_1, hfz13_2, hfz13_3⟩ := cz4_ BK43.out
        go_wp2_with (first | (go_at_call 61; (with_reducible refine (impl_Plain.calls k a0_0 true _ A8.out).mono ?_); rintro e w' ⟨rfl, ⟨nd, rfl⟩⟩) | (go_at_call 70; (with_reducible refine (impl_SmallName.calls k a0_1 true _ A10.out).mono ?_); rintro e w' ⟨rfl, ⟨nd, rfl⟩⟩))
        go_meet
        case rel => exact ⟨_, (true), rs_, H', ⟨by first | omega | exact Nat.le_refl _⟩, ⟨vb_ BK43.out⟩, ⟨bG_ GE43.out⟩⟩
      rw [if_neg c12] at H
      have c12b0 : decide (60 < (a0_2.size : Int)) = false := decide_eq_false c12
      have c12b1 : decide (60 < a0_2.size) = false := decide_eq_false (by omega)
      clear c12
      obtain ⟨t48, A14, H⟩ := bo_ H
      (try dsimp only at H)
      by_cases c15 : t48 = true
      · subst c15
        rw [if_pos rfl] at H
        by_cases c16 : a0_2.toList = ([] : List UInt8)
        · rw [if_pos c16] at H
          obtain ⟨c16b0, c16b1⟩ := eT_ c16
          clear c16
          have H' := A_ H
          clear H
          obtain ⟨hcz17_0, hcz17_1, hcz17_2, hcz17_3, hfz17_0, hfz17_1, hfz17_2, hfz17_3⟩ := cz4_ BK43.out
          go_wp2_with (first | (go_at_call 61; (with_reducible refine (impl_Plain.calls k a0_0 true _ A8.out).mono ?_); rintro e w' ⟨rfl, ⟨nd, rfl⟩⟩) | (go_at_call 70; (with_reducible refine (impl_SmallName.calls k a0_1 true _ A10.out).mono ?_); rintro e w' ⟨rfl, ⟨nd, rfl⟩⟩) | (go_at_call 61; (with_reducible refine (impl_Plain.calls k a0_2 true _ A14.out).mono ?_); rintro e w' ⟨rfl, ⟨nd, rfl⟩⟩))
          go_meet
          case rel => exact ⟨_, (false), rs_, H', ⟨by first | omega | exact Nat.le_refl _⟩, ⟨vb_ BK43.out⟩, ⟨bG_ GE43.out⟩⟩
        rw [if_neg c16] at H
        obtain ⟨c16b0, c16b1⟩ := eF_ c16
        have H' := A_ H
        clear H
        obtain ⟨hcz18_0, hcz18_1, hcz18_2, hcz18_3, hfz18_0, hfz18_1, hfz18_2, hfz18_3⟩ := cz4_ BK43.out
        go_wp2_with (first | (go_at_call 61; (with_reducible refine (impl_Plain.calls k a0_0 true _ A8.out).mono ?_); rintro e w' ⟨rfl, ⟨nd, rfl⟩⟩) | (go_at_call 70; (with_reducible refine (impl_SmallName.calls k a0_1 true _ A10.out).mono ?_); rintro e w' ⟨rfl, ⟨nd, rfl⟩⟩) | (go_at_call 61; (with_reducible refine (impl_Plain.calls k a0_2 true _ A14.out).mono ?_); rintro e w' ⟨rfl, ⟨nd, rfl⟩⟩))
        go_meet
        case rel => exact ⟨_, (decide ((l0_3.length : Int) > 0)), rs_, H', ⟨by first | omega | exact Nat.le_refl _⟩, ⟨vb_ BK43.out⟩, ⟨bG_ GE43.out⟩⟩
      · replace c15 := Bool.eq_false_iff.mpr c15
        subst c15
        rw [if_neg nf_] at H
        have H' := A_ H
        clear H
        obtain ⟨hcz19_0, hcz19_1, hcz19_2, hcz19_3, hfz19_0, hfz19_1, hfz19_2, hfz19_3⟩ := cz4_ BK43.out
        go_wp2_with (first | (go_at_call 61; (with_reducible refine (impl_Plain.calls k a0_0 true _ A8.out).mono ?_); rintro e w' ⟨rfl, ⟨nd, rfl⟩⟩) | (go_at_call 70; (with_reducible refine (impl_SmallName.calls k a0_1 true _ A10.out).mono ?_); rintro e w' ⟨rfl, ⟨nd, rfl⟩⟩) | (go_at_call 61; (with_reducible refine (impl_Plain.calls k a0_2 false _ A14.out).mono ?_); rintro e w' ⟨rfl, ⟨nd, rfl⟩⟩))
        go_meet
        case rel => exact ⟨_, (true), rs_, H', ⟨by first | omega | exact Nat.le_refl _⟩, ⟨vb_ BK43.out⟩, ⟨bG_ GE43.out⟩⟩
    · replace c11 := Bool.eq_false_iff.mpr c11
      subst c11
      rw [if_neg nf_] at H
      have H' := A_ H
      clear H
      obtain ⟨hcz20_0, hcz20_1, hcz20_2, hcz20_3, hfz20_0, hfz20_1, hfz20_2, hfz20_3⟩ := cz4_ BK43.out
      go_wp2_with (first | (go_at_call 61; (with_reducible refine (impl_Plain.calls k a0_0 true _ A8.out).mono ?_); rintro e w' ⟨rfl, ⟨nd, rfl⟩⟩) | (go_at_call 70; (with_reducible refine (impl_SmallName.calls k a0_1 false _ A10.out).mono ?_); rintro e w' ⟨rfl, ⟨nd, rfl⟩⟩))
      go_meet
      case rel => exact ⟨_, (true), rs_, H', ⟨by first | omega | exact Nat.le_refl _⟩, ⟨vb_ BK43.out⟩, ⟨bG_ GE43.out⟩⟩
  · replace c9 := Bool.eq_false_iff.mpr c9
    subst c9
    rw [if_neg nf_] at H
    have H' := A_ H
    clear H
    obtain ⟨hcz21_0, hcz21_1, hcz21_2, hcz21_3, hfz21_0, hfz21_1, hfz21_2, hfz21_3⟩ := cz4_ BK43.out
    go_wp2_with (first | (go_at_call 61; (with_reducible refine (impl_Plain.calls k a0_0 false _ A8.out).mono ?_); rintro e w' ⟨rfl, ⟨nd, rfl⟩⟩))
    go_meet
    case rel => exact ⟨_, (true), rs_, H', ⟨by first | omega | exact Nat.le_refl _⟩, ⟨vb_ BK43.out⟩, ⟨bG_ GE43.out⟩⟩
 case rest =>
  clear HC3
  obtain ⟨kq, x53_2, rfl, HA, HJ2, BK43, HB⟩ := hcut
  cases kq with
  | zero => exact absurd HA.out (by simp [impl_nodeOk.j0])
  | succ kj2 =>
   have H := HA.out
   clear HA
   simp only [impl_nodeOk.j0] at H
   by_cases c22 : x53_2 = true
   · subst c22
     rw [if_pos rfl] at H
     simp only [Option.some.injEq, Prod.mk.injEq] at H
     obtain ⟨rfl, rfl⟩ := H
     go_wp2
     go_ret2
     (try rw [show (a0_2.toList == ([] : List UInt8)) = a0_2.toList.isEmpty from by cases a0_2.toList <;> rfl])   -- as the walk has it
     exact ⟨rr_, bG_ GE43.out⟩
   · replace c22 := Bool.eq_false_iff.mpr c22
     subst c22
     rw [if_neg nf_] at H
     have H' := A_ H
     clear H
     have hcz23_0 : wc.cell? ⟨gb43, 0, none⟩ = some (.string a0_0) := bl_ BK43.out 0
     have hcz23_1 : wc.cell? ⟨gb43, 1, none⟩ = some (.string a0_1) := bl_ BK43.out 1
     have hcz23_2 : wc.cell? ⟨gb43, 2, none⟩ = some (.string a0_2) := bl_ BK43.out 2
     have hcz23_3 : wc.cell? ⟨gb43, 3, none⟩ = some (.slice A0_3 l0_3.length c0_3) := bl_ BK43.out 3
     have hfz23_0 := blk_frozen BK43.out 0
     have hfz23_1 := blk_frozen BK43.out 1
     have hfz23_2 := blk_frozen BK43.out 2
     have hfz23_3 := blk_frozen BK43.out 3
     go_wp2
     go_loopg [6, 57] kj2 (fun kq v6 v57 w' => ∃ (x6_2 : Int) (x57_2 : Int), v6 = .int .i64 x6_2 ∧ v57 = .int .i64 x57_2 ∧ Aside0 (impl_nodeOk.l0 kq a1 x6_2 l0_3 (l0_3.length : Int) x57_2 = some (r1, r2)) ∧ Aside0 (kq ≤ kj2) ∧ Aside0 (w'.heap[gb43]? = some (.cells #[.string a0_0, .string a0_1, .string a0_2, (.slice A0_3 l0_3.length c0_3)] 24 (0, 0))) ∧ Aside0 (Below w.heap.size w w'))
     case atStart => exact ⟨(1), (0), rs_, rs_, H', ⟨Nat.le_refl _⟩, ⟨vb_ BK43.out⟩, ⟨bG_ GE43.out⟩⟩
     case round =>
      clear H'
      try clear c22
      try clear hcz23_0
      try clear hcz23_1
      try clear hcz23_2
      try clear hcz23_3
      try clear hfz23_0
      try clear hfz23_1
      try clear hfz23_2
      try clear hfz23_3
      obtain ⟨x6_2, x57_2, rfl, rfl, HA, HK2, BK43, HB⟩ := hrel
      cases gk with
      | zero => exact absurd HA.out (by simp [impl_nodeOk.l0])
      | succ k2 =>
       have H := HA.out
       clear HA
       simp only [impl_nodeOk.l0] at H
       by_cases c24 : x57_2 < (l0_3.length : Int)
       rotate_left
       · rw [if_neg c24] at H
         have c24b0 := decide_eq_false c24
         clear c24
         simp only [Option.some.injEq, Prod.mk.injEq] at H
         obtain ⟨rfl, rfl⟩ := H
         go_wp2
         go_ret2
         (try rw [show (a0_2.toList == ([] : List UInt8)) = a0_2.toList.isEmpty from by cases a0_2.toList <;> rfl])   -- as the walk has it
         exact ⟨rr_, bG_ GE43.out⟩
       rw [if_pos c24] at H
       have c24b0 := decide_eq_true c24
       clear c24
       by_cases c25 : 0 ≤ x57_2
       rotate_left
       · exact absurd H (by rw [if_neg c25]; simp)
       rw [if_pos c25] at H
       have c25b0 := decide_eq_true c25
       clear c25
       by_cases c26 : x57_2 < (l0_3.length : Int)
       rotate_left
       · exact absurd H (by rw [if_neg c26]; simp)
       rw [if_pos c26] at H
       have c26b0 := decide_eq_true c26
       clear c26
       obtain ⟨⟨t45, t49⟩, A27, H⟩ := bo_ H
       (try dsimp only at H)
       by_cases c28 : t49 = true
       · subst c28
         rw [if_pos rfl] at H
         by_cases c29 : (wrap64 (x6_2 + t45)) > 20
         · rw [if_pos c29] at H
           have c29b0 : decide (20 < (wrap64 (x6_2 + t45))) = true := decide_eq_true c29
           clear c29
           simp only [Option.some.injEq, Prod.mk.injEq] at H
           obtain ⟨rfl, rfl⟩ := H
           have p42 : 0 ≤ (x57_2 : Int) := od_
           have q42 : x57_2 < (l0_3.length : Int) := od_
           obtain ⟨ad42, A42_3, c42_3, e42, hx42_0, hx42_1, hx42_2, hx42_3, hl42_3, hi42_3⟩ := at_T24 HR0_3.out x57_2 p42 q42
           cases e42
           replace hx42_0 := bc_ HB.out hx42_0
           replace hx42_1 := bc_ HB.out hx42_1
           replace hx42_2 := bc_ HB.out hx42_2
           replace hx42_3 := bc_ HB.out hx42_3
           have HR42_3 := A_ hi42_3
           have HC42_3 := A_ hl42_3
           clear hi42_3 hl42_3
           replace p42 := eq_true p42
           replace q42 := eq_true q42
           go_wp2_with (first | ((with_reducible refine gd_ (N := 8) rfl ?_); (try (refine gate_guard (by rfl) ?_; dsimp only)); refine bx_ (N := 8) (cs := #[.string (⟨#[]⟩ : ByteArray), .string (⟨#[]⟩ : ByteArray), .string (⟨#[]⟩ : ByteArray), .slice none 0 0]) (t := 24) ?_; intro gb44 hg w30 hbox hb; have BK44 := A_ (hbox); have GW44 := A_ (ge_ hg (bG_ GE43.out) : w.heap.size ≤ gb44); have GE44 := A_ (ge_ hg (bG_ GE43.out) : w.heap.size ≤ gb44); replace HB := A_ (below_step (bG_ GE43.out) hb); have NB206_211 := A_ (gm_ hg BK43.out); have NB211_206 := A_ (gn_ hg BK43.out); clear hb hbox hg; have hnb31 := NB211_206.out; have hnc31 := NB206_211.out; obtain ⟨hcz32_0, hcz32_1, hcz32_2, hcz32_3, hfz32_0, hfz32_1, hfz32_2, hfz32_3⟩ := cz4_ BK44.out) | ((with_reducible refine gc_ (f := 49) rfl ?_); refine gL_ (some 65) Tryz.func49 #[.agg #[.string ((rd_T24 l0_3 x57_2).f0), .string ((rd_T24 l0_3 x57_2).f1), .string ((rd_T24 l0_3 x57_2).f2), .slice A42_3 ((rd_T24 l0_3 x57_2).f3).length c42_3], .int .i64 (wrap64 (a1 + 1))] ?_; (with_reducible refine (ih k2 (by have := HJ2.out; have := HK2.out; omega) ((rd_T24 l0_3 x57_2).f0) ((rd_T24 l0_3 x57_2).f1) ((rd_T24 l0_3 x57_2).f2) _ _ ((rd_T24 l0_3 x57_2).f3) (wrap64 (a1 + 1)) t45 true _ ?s1 ?s2 A27.out).mono ?_); (case s1 => exact Kd.C_below HR42_3.out (by repeat (first | (with_reducible first | exact HB.out | apply below_alloc | apply pw_below_drewN | apply below_drew1 | refine below_set ?_ GE43.out | refine below_set ?_ GE44.out) | exact HB.out))); (case s2 => exact HC42_3.out); rintro e w33 ⟨rfl, hb⟩; refine ⟨_, rfl, ?_⟩; replace HB := A_ (below_step (by repeat (first | (with_reducible first | exact HB.out | apply below_alloc | apply pw_below_drewN | apply below_drew1 | refine below_set ?_ GE43.out | refine below_set ?_ GE44.out) | exact HB.out)) hb); clear hb))
           go_ret2
           (try rw [show (a0_2.toList == ([] : List UInt8)) = a0_2.toList.isEmpty from by cases a0_2.toList <;> rfl])   -- as the walk has it
           exact ⟨rr_, by repeat (first | (with_reducible first | exact HB.out | apply below_alloc | apply pw_below_drewN | apply below_drew1 | refine below_set ?_ GE43.out | refine below_set ?_ GE44.out) | exact HB.out)⟩
         rw [if_neg c29] at H
         have c29b0 : decide (20 < (wrap64 (x6_2 + t45))) = false := decide_eq_false c29
         clear c29
         have H' := A_ H
         clear H
         have p42 : 0 ≤ (x57_2 : Int) := od_
         have q42 : x57_2 < (l0_3.length : Int) := od_
         obtain ⟨ad42, A42_3, c42_3, e42, hx42_0, hx42_1, hx42_2, hx42_3, hl42_3, hi42_3⟩ := at_T24 HR0_3.out x57_2 p42 q42
         cases e42
         replace hx42_0 := bc_ HB.out hx42_0
         replace hx42_1 := bc_ HB.out hx42_1
         replace hx42_2 := bc_ HB.out hx42_2
         replace hx42_3 := bc_ HB.out hx42_3
         have HR42_3 := A_ hi42_3
         have HC42_3 := A_ hl42_3
         clear hi42_3 hl42_3
         replace p42 := eq_true p42
         replace q42 := eq_true q42
         go_wp2_with (first | ((with_reducible refine gd_ (N := 8) rfl ?_); (try (refine gate_guard (by rfl) ?_; dsimp only)); refine bx_ (N := 8) (cs := #[.string (⟨#[]⟩ : ByteArray), .string (⟨#[]⟩ : ByteArray), .string (⟨#[]⟩ : ByteArray), .slice none 0 0]) (t := 24) ?_; intro gb44 hg w34 hbox hb; have BK44 := A_ (hbox); have GW44 := A_ (ge_ hg (bG_ GE43.out) : w.heap.size ≤ gb44); have GE44 := A_ (ge_ hg (bG_ GE43.out) : w.heap.size ≤ gb44); replace HB := A_ (below_step (bG_ GE43.out) hb); have NB206_211 := A_ (gm_ hg BK43.out); have NB211_206 := A_ (gn_ hg BK43.out); replace BK43 := A_ (bw_ BK43.out hb); clear hb hbox hg; have hnb35 := NB211_206.out; have hnc35 := NB206_211.out; obtain ⟨hcz36_0, hcz36_1, hcz36_2, hcz36_3, hfz36_0, hfz36_1, hfz36_2, hfz36_3⟩ := cz4_ BK44.out) | ((with_reducible refine gc_ (f := 49) rfl ?_); refine gL_ (some 65) Tryz.func49 #[.agg #[.string ((rd_T24 l0_3 x57_2).f0), .string ((rd_T24 l0_3 x57_2).f1), .string ((rd_T24 l0_3 x57_2).f2), .slice A42_3 ((rd_T24 l0_3 x57_2).f3).length c42_3], .int .i64 (wrap64 (a1 + 1))] ?_; (with_reducible refine (ih k2 (by have := HJ2.out; have := HK2.out; omega) ((rd_T24 l0_3 x57_2).f0) ((rd_T24 l0_3 x57_2).f1) ((rd_T24 l0_3 x57_2).f2) _ _ ((rd_T24 l0_3 x57_2).f3) (wrap64 (a1 + 1)) t45 true _ ?s1 ?s2 A27.out).mono ?_); (case s1 => exact Kd.C_below HR42_3.out (by repeat (first | (with_reducible first | exact HB.out | apply below_alloc | apply pw_below_drewN | apply below_drew1 | refine below_set ?_ GE43.out | refine below_set ?_ GE44.out) | exact HB.out))); (case s2 => exact HC42_3.out); rintro e w37 ⟨rfl, hb⟩; refine ⟨_, rfl, ?_⟩; replace BK43 := A_ (blk_below (g := gb43) (o := .cells #[.string a0_0, .string a0_1, .string a0_2, .slice (some ad42) l0_3.length c0_3] 24 (0, 0)) (by (with_reducible repeat (first | refine blk_drewN ?_ _ | refine blk_drew ?_ | refine blk_alloc ?_ _)); refine blk_far ?_ NB206_211.out _; (with_reducible repeat (first | refine blk_drewN ?_ _ | refine blk_drew ?_ | refine blk_alloc ?_ _)); refine blk_far ?_ NB206_211.out _; (with_reducible repeat (first | refine blk_drewN ?_ _ | refine blk_drew ?_ | refine blk_alloc ?_ _)); refine blk_far ?_ NB206_211.out _; (with_reducible repeat (first | refine blk_drewN ?_ _ | refine blk_drew ?_ | refine blk_alloc ?_ _)); refine blk_far ?_ NB206_211.out _; (with_reducible repeat (first | refine blk_drewN ?_ _ | refine blk_drew ?_ | refine blk_alloc ?_ _)); exact BK43.out) hb); replace HB := A_ (below_step (by repeat (first | (with_reducible first | exact HB.out | apply below_alloc | apply pw_below_drewN | apply below_drew1 | refine below_set ?_ GE43.out | refine below_set ?_ GE44.out) | exact HB.out)) hb); clear hb))
         go_roundg k2
         case measure => have := HJ2.out; have := HK2.out; omega
         case rel => exact ⟨(wrap64 (x6_2 + t45)), (wrap64 (x57_2 + 1)), rs_, rs_, H', ⟨by have := HJ2.out; have := HK2.out; omega⟩, ⟨vb_ BK43.out⟩, ⟨by repeat (first | (with_reducible first | exact HB.out | apply below_alloc | apply pw_below_drewN | apply below_drew1 | refine below_set ?_ GE43.out | refine below_set ?_ GE44.out) | exact HB.out)⟩⟩
       · replace c28 := Bool.eq_false_iff.mpr c28
         subst c28
         rw [if_neg nf_] at H
         simp only [Option.some.injEq, Prod.mk.injEq] at H
         obtain ⟨rfl, rfl⟩ := H
         have p42 : 0 ≤ (x57_2 : Int) := od_
         have q42 : x57_2 < (l0_3.length : Int) := od_
         obtain ⟨ad42, A42_3, c42_3, e42, hx42_0, hx42_1, hx42_2, hx42_3, hl42_3, hi42_3⟩ := at_T24 HR0_3.out x57_2 p42 q42
         cases e42
         replace hx42_0 := bc_ HB.out hx42_0
         replace hx42_1 := bc_ HB.out hx42_1
         replace hx42_2 := bc_ HB.out hx42_2
         replace hx42_3 := bc_ HB.out hx42_3
         have HR42_3 := A_ hi42_3
         have HC42_3 := A_ hl42_3
         clear hi42_3 hl42_3
         replace p42 := eq_true p42
         replace q42 := eq_true q42
         go_wp2_with (first | ((with_reducible refine gd_ (N := 8) rfl ?_); (try (refine gate_guard (by rfl) ?_; dsimp only)); refine bx_ (N := 8) (cs := #[.string (⟨#[]⟩ : ByteArray), .string (⟨#[]⟩ : ByteArray), .string (⟨#[]⟩ : ByteArray), .slice none 0 0]) (t := 24) ?_; intro gb44 hg w38 hbox hb; have BK44 := A_ (hbox); have GW44 := A_ (ge_ hg (bG_ GE43.out) : w.heap.size ≤ gb44); have GE44 := A_ (ge_ hg (bG_ GE43.out) : w.heap.size ≤ gb44); replace HB := A_ (below_step (bG_ GE43.out) hb); have NB206_211 := A_ (gm_ hg BK43.out); have NB211_206 := A_ (gn_ hg BK43.out); clear hb hbox hg; have hnb39 := NB211_206.out; have hnc39 := NB206_211.out; obtain ⟨hcz40_0, hcz40_1, hcz40_2, hcz40_3, hfz40_0, hfz40_1, hfz40_2, hfz40_3⟩ := cz4_ BK44.out) | ((with_reducible refine gc_ (f := 49) rfl ?_); refine gL_ (some 65) Tryz.func49 #[.agg #[.string ((rd_T24 l0_3 x57_2).f0), .string ((rd_T24 l0_3 x57_2).f1), .string ((rd_T24 l0_3 x57_2).f2), .slice A42_3 ((rd_T24 l0_3 x57_2).f3).length c42_3], .int .i64 (wrap64 (a1 + 1))] ?_; (with_reducible refine (ih k2 (by have := HJ2.out; have := HK2.out; omega) ((rd_T24 l0_3 x57_2).f0) ((rd_T24 l0_3 x57_2).f1) ((rd_T24 l0_3 x57_2).f2) _ _ ((rd_T24 l0_3 x57_2).f3) (wrap64 (a1 + 1)) t45 false _ ?s1 ?s2 A27.out).mono ?_); (case s1 => exact Kd.C_below HR42_3.out (by repeat (first | (with_reducible first | exact HB.out | apply below_alloc | apply pw_below_drewN | apply below_drew1 | refine below_set ?_ GE43.out | refine below_set ?_ GE44.out) | exact HB.out))); (case s2 => exact HC42_3.out); rintro e w41 ⟨rfl, hb⟩; refine ⟨_, rfl, ?_⟩; replace HB := A_ (below_step (by repeat (first | (with_reducible first | exact HB.out | apply below_alloc | apply pw_below_drewN | apply below_drew1 | refine below_set ?_ GE43.out | refine below_set ?_ GE44.out) | exact HB.out)) hb); clear hb))
         go_ret2
         (try rw [show (a0_2.toList == ([] : List UInt8)) = a0_2.toList.isEmpty from by cases a0_2.toList <;> rfl])   -- as the walk has it
         exact ⟨rr_, by repeat (first | (with_reducible first | exact HB.out | apply below_alloc | apply pw_below_drewN | apply below_drew1 | refine below_set ?_ GE43.out | refine below_set ?_ GE44.out) | exact HB.out)⟩
def impl_NodeOk.f (k : Nat) (a0_0 : ByteArray) (a0_1 : ByteArray) (a0_2 : ByteArray) (l0_3 : List (S24)) : Option (Bool) := (impl_nodeOk.f k a0_0 a0_1 a0_2 l0_3 1).bind fun bt215 => (some bt215.2)
theorem impl_NodeOk.calls (k : Nat) (a0_0 : ByteArray) (a0_1 : ByteArray) (a0_2 : ByteArray) (A0_3 : Option Addr) (c0_3 : Nat) (l0_3 : List (S24)) (r : Bool) (w : World) (hr0_3 : Kd.C k24 w A0_3 l0_3.length l0_3) (hc0_3 : l0_3.length ≤ c0_3) (h : impl_NodeOk.f k a0_0 a0_1 a0_2 l0_3 = some r) :
 Calls Tryz.prog 19 #[.agg #[.string a0_0, .string a0_1, .string a0_2, .slice A0_3 l0_3.length c0_3]] w fun e w' => e = .returned (.bool r) ∧ Below w.heap.size w w' := by
 have hu24 := Tryz.underlying24
 have HR0_3 := A_ hr0_3
 have HC0_3 := A_ hc0_3
 clear hr0_3 hc0_3
 have HB := A_ (Below.refl w.heap.size w)
 have H : ((impl_nodeOk.f k a0_0 a0_1 a0_2 l0_3 1).bind fun bt7 => (some bt7.2)) = some r := h
 clear h
 obtain ⟨⟨t7, t8⟩, A2, H⟩ := bo_ H
 (try dsimp only at H)
 obtain rfl := si_ H
 go_enter Tryz.func19, Tryz.ntmps19
 go_wp2_with (first | ((with_reducible refine gd_ (N := 1) rfl ?_); refine bx_ (N := 1) (cs := #[.string a0_0, .string a0_1, .string a0_2, .slice A0_3 l0_3.length c0_3]) (t := 24) ?_; intro gb6 hg w3 hbox hb; have BK6 := A_ (hbox); have GW6 := A_ (ge_ hg bB_ : w.heap.size ≤ gb6); have GE6 := A_ (ge_ hg bB_ : w.heap.size ≤ gb6); replace HB := A_ (below_step bB_ hb); clear hb hbox hg; obtain ⟨hcz4_0, hcz4_1, hcz4_2, hcz4_3, hfz4_0, hfz4_1, hfz4_2, hfz4_3⟩ := cz4_ BK6.out) | ((with_reducible refine gc_ (f := 49) rfl ?_); refine gL_ (some 7) Tryz.func49 #[.agg #[.string a0_0, .string a0_1, .string a0_2, .slice A0_3 l0_3.length c0_3], .int .i64 1] ?_; (with_reducible refine (impl_nodeOk.calls k a0_0 a0_1 a0_2 _ _ l0_3 1 t7 t8 _ ?s1 ?s2 A2.out).mono ?_); (case s1 => exact cC_ (Kd.C_below HR0_3.out HB.out)); (case s2 => exact HC0_3.out); rintro e w5 ⟨rfl, hb⟩; refine ⟨_, rfl, ?_⟩; replace HB := A_ (below_step (bG_ GE6.out) hb); clear hb))
 go_ret
 exact ⟨rr_, bG_ GE6.out⟩
def impl_named.f (a0 : ByteArray) : Option (ByteArray × Bool) := if a0.toList = ([97, 109, 112] : List UInt8) then (some ((⟨#[38]⟩ : ByteArray), true)) else (if a0.toList = ([108, 116] : List UInt8) then (some ((⟨#[60]⟩ : ByteArray), true)) else (if a0.toList = ([103, 116] : List UInt8) then (some ((⟨#[62]⟩ : ByteArray), true)) else (if a0.toList = ([113, 117, 111, 116] : List UInt8) then (some ((⟨#[34]⟩ : ByteArray), true)) else (if a0.toList = ([97, 112, 111, 115] : List UInt8) then (some ((⟨#[39]⟩ : ByteArray), true)) else ((strings_CutPrefix.f a0 (⟨#[35]⟩ : ByteArray)).bind fun bt217 => ((impl_ParseNum.f bt217.1 126).bind fun bt219 => (if bt217.2 = true then (if bt219.2 = true then (if bt219.1 < 32 then (some ((⟨#[]⟩ : ByteArray), false)) else (some (strOfNums (([(bt219.1) % 256] : List Int)), true))) else (some ((⟨#[]⟩ : ByteArray), false))) else (some ((⟨#[]⟩ : ByteArray), false)))))))))
theorem impl_named.calls (a0 : ByteArray) (r1 : ByteArray) (r2 : Bool) (w : World) (hGT : GT w) (hGE : GE w) (h : impl_named.f a0 = some (r1, r2)) :
 Calls Tryz.prog 87 #[.string a0] w fun e w' => e = .returned (.tuple #[.string r1, .bool r2]) ∧ Below w.heap.size w w' := by
 have HGT := A_ hGT
 have HGE := A_ hGE
 clear hGT hGE
 have HB := A_ (Below.refl w.heap.size w)
 have H : (if a0.toList = ([97, 109, 112] : List UInt8) then (some ((⟨#[38]⟩ : ByteArray), true)) else (if a0.toList = ([108, 116] : List UInt8) then (some ((⟨#[60]⟩ : ByteArray), true)) else (if a0.toList = ([103, 116] : List UInt8) then (some ((⟨#[62]⟩ : ByteArray), true)) else (if a0.toList = ([113, 117, 111, 116] : List UInt8) then (some ((⟨#[34]⟩ : ByteArray), true)) else (if a0.toList = ([97, 112, 111, 115] : List UInt8) then (some ((⟨#[39]⟩ : ByteArray), true)) else ((strings_CutPrefix.f a0 (⟨#[35]⟩ : ByteArray)).bind fun bt23 => ((impl_ParseNum.f bt23.1 126).bind fun bt24 => (if bt23.2 = true then (if bt24.2 = true then (if bt24.1 < 32 then (some ((⟨#[]⟩ : ByteArray), false)) else (some (strOfNums (([(bt24.1) % 256] : List Int)), true))) else (some ((⟨#[]⟩ : ByteArray), false))) else (some ((⟨#[]⟩ : ByteArray), false)))))))))) = some (r1, r2) := h
 clear h
 by_cases c2 : a0.toList = ([97, 109, 112] : List UInt8)
 · rw [if_pos c2] at H
   obtain ⟨c2b0, c2b1⟩ := eT_ c2
   clear c2
   simp only [Option.some.injEq, Prod.mk.injEq] at H
   obtain ⟨rfl, rfl⟩ := H
   go_enter Tryz.func87, Tryz.ntmps87
   go_wp2
   go_ret2
   exact ⟨rr_, bB_⟩
 rw [if_neg c2] at H
 obtain ⟨c2b0, c2b1⟩ := eF_ c2
 by_cases c3 : a0.toList = ([108, 116] : List UInt8)
 · rw [if_pos c3] at H
   obtain ⟨c3b0, c3b1⟩ := eT_ c3
   clear c3
   simp only [Option.some.injEq, Prod.mk.injEq] at H
   obtain ⟨rfl, rfl⟩ := H
   go_enter Tryz.func87, Tryz.ntmps87
   go_wp2
   go_ret2
   exact ⟨rr_, bB_⟩
 rw [if_neg c3] at H
 obtain ⟨c3b0, c3b1⟩ := eF_ c3
 by_cases c4 : a0.toList = ([103, 116] : List UInt8)
 · rw [if_pos c4] at H
   obtain ⟨c4b0, c4b1⟩ := eT_ c4
   clear c4
   simp only [Option.some.injEq, Prod.mk.injEq] at H
   obtain ⟨rfl, rfl⟩ := H
   go_enter Tryz.func87, Tryz.ntmps87
   go_wp2
   go_ret2
   exact ⟨rr_, bB_⟩
 rw [if_neg c4] at H
 obtain ⟨c4b0, c4b1⟩ := eF_ c4
 by_cases c5 : a0.toList = ([113, 117, 111, 116] : List UInt8)
 · rw [if_pos c5] at H
   obtain ⟨c5b0, c5b1⟩ := eT_ c5
   clear c5
   simp only [Option.some.injEq, Prod.mk.injEq] at H
   obtain ⟨rfl, rfl⟩ := H
   go_enter Tryz.func87, Tryz.ntmps87
   go_wp2
   go_ret2
   exact ⟨rr_, bB_⟩
 rw [if_neg c5] at H
 obtain ⟨c5b0, c5b1⟩ := eF_ c5
 by_cases c6 : a0.toList = ([97, 112, 111, 115] : List UInt8)
 · rw [if_pos c6] at H
   obtain ⟨c6b0, c6b1⟩ := eT_ c6
   clear c6
   simp only [Option.some.injEq, Prod.mk.injEq] at H
   obtain ⟨rfl, rfl⟩ := H
   go_enter Tryz.func87, Tryz.ntmps87
   go_wp2
   go_ret2
   exact ⟨rr_, bB_⟩
 rw [if_neg c6] at H
 obtain ⟨c6b0, c6b1⟩ := eF_ c6
 obtain ⟨⟨t23, t27⟩, A7, H⟩ := bo_ H
 (try dsimp only at H)
 obtain ⟨⟨t24, t26⟩, A8, H⟩ := bo_ H
 (try dsimp only at H)
 by_cases c9 : t27 = true
 · subst c9
   rw [if_pos rfl] at H
   by_cases c10 : t26 = true
   · subst c10
     rw [if_pos rfl] at H
     by_cases c11 : t24 < 32
     · rw [if_pos c11] at H
       have c11b0 := decide_eq_true c11
       clear c11
       simp only [Option.some.injEq, Prod.mk.injEq] at H
       obtain ⟨rfl, rfl⟩ := H
       go_enter Tryz.func87, Tryz.ntmps87
       go_wp2_with (first | ((with_reducible refine gc_ (f := 82) rfl ?_); refine gL_ (some 21) Tryz.func82 #[.string a0, .string (⟨#[35]⟩ : ByteArray)] ?_; (with_reducible refine (strings_CutPrefix.calls a0 (⟨#[35]⟩ : ByteArray) t23 true _ A7.out).mono ?_); rintro e w12 ⟨rfl, hb⟩; refine ⟨_, rfl, ?_⟩; replace HB := A_ (below_step bB_ hb); clear hb) | ((with_reducible refine gc_ (f := 101) rfl ?_); refine gL_ (some 26) Tryz.func101 #[.string t23, .int .i64 126] ?_; (with_reducible refine (impl_ParseNum.calls t23 126 t24 true _ ?gT18 ?gE18 A8.out).mono ?_); (case gT18 => exact gT_ HGT.out bB_); (case gE18 => exact gE_ HGE.out bB_); rintro e w13 ⟨rfl, hb⟩; refine ⟨_, rfl, ?_⟩; replace HB := A_ (below_step bB_ hb); clear hb))
       go_ret2
       exact ⟨rr_, bB_⟩
     rw [if_neg c11] at H
     have c11b0 := decide_eq_false c11
     clear c11
     obtain ⟨y25, hy25⟩ : ∃ y_ : List Int, y_ = (([(t24) % 256] : List Int)) := ⟨_, rfl⟩
     replace H : (some (strOfNums y25, true)) = some (r1, r2) := hy_ hy25 H
     have Ny25 := A_ hy25
     clear hy25
     simp only [Option.some.injEq, Prod.mk.injEq] at H
     obtain ⟨rfl, rfl⟩ := H
     go_enter Tryz.func87, Tryz.ntmps87
     go_wp2_with (first | ((with_reducible refine gc_ (f := 82) rfl ?_); refine gL_ (some 21) Tryz.func82 #[.string a0, .string (⟨#[35]⟩ : ByteArray)] ?_; (with_reducible refine (strings_CutPrefix.calls a0 (⟨#[35]⟩ : ByteArray) t23 true _ A7.out).mono ?_); rintro e w14 ⟨rfl, hb⟩; refine ⟨_, rfl, ?_⟩; replace HB := A_ (below_step bB_ hb); clear hb) | ((with_reducible refine gc_ (f := 101) rfl ?_); refine gL_ (some 26) Tryz.func101 #[.string t23, .int .i64 126] ?_; (with_reducible refine (impl_ParseNum.calls t23 126 t24 true _ ?gT19 ?gE19 A8.out).mono ?_); (case gT19 => exact gT_ HGT.out bB_); (case gE19 => exact gE_ HGE.out bB_); rintro e w15 ⟨rfl, hb⟩; refine ⟨_, rfl, ?_⟩; replace HB := A_ (below_step bB_ hb); clear hb) | ((with_reducible refine gd_ (N := 41) rfl ?_); refine Kd.R_lit (Kd.int .u8) _ 5 ?hg (N := 41) ?hd (xs := ([(t24) % 256] : List Int)) (inner := [.int .u8 ((t24) % 256)]) (ok := fun _ => True) (okp := fun _ => True) ?hr ?hp (fun _ hk => hk) trivial (Below.refl _ _) (Nat.le_refl _) (by simp) ?_; (case hd => rfl); (case hg => rfl); (case hr => first | (go_simp; done) | (go_simp; rfl)); (case hp => exact (Reps.one (show Kd.M (Kd.int .u8) _ _ _ ((t24) % 256) [.int .u8 ((t24) % 256)] from rfl) (Reps.none _ _))); intro v29 w16 ho17 hb hg_ hnew_; clear hg_ hnew_; (first | rw [← Ny25.out] at ho17 | (simp only [Int.reduceToNat] at ho17; rw [← Ny25.out] at ho17)); have HO28 := A_ (Kd.R_lower ho17 (below_size bB_)); replace HB := A_ (below_step bB_ hb); clear hb ho17; have hcv18 := own_string (P := Tryz.prog) Tryz.underlying30 Tryz.underlying5 Tryz.underlying9 (Kd.own_of_R HO28.out)))
     go_ret2
     exact ⟨rr_, bB_⟩
   · replace c10 := Bool.eq_false_iff.mpr c10
     subst c10
     rw [if_neg nf_] at H
     simp only [Option.some.injEq, Prod.mk.injEq] at H
     obtain ⟨rfl, rfl⟩ := H
     go_enter Tryz.func87, Tryz.ntmps87
     go_wp2_with (first | ((with_reducible refine gc_ (f := 82) rfl ?_); refine gL_ (some 21) Tryz.func82 #[.string a0, .string (⟨#[35]⟩ : ByteArray)] ?_; (with_reducible refine (strings_CutPrefix.calls a0 (⟨#[35]⟩ : ByteArray) t23 true _ A7.out).mono ?_); rintro e w19 ⟨rfl, hb⟩; refine ⟨_, rfl, ?_⟩; replace HB := A_ (below_step bB_ hb); clear hb) | ((with_reducible refine gc_ (f := 101) rfl ?_); refine gL_ (some 26) Tryz.func101 #[.string t23, .int .i64 126] ?_; (with_reducible refine (impl_ParseNum.calls t23 126 t24 false _ ?gT20 ?gE20 A8.out).mono ?_); (case gT20 => exact gT_ HGT.out bB_); (case gE20 => exact gE_ HGE.out bB_); rintro e w20 ⟨rfl, hb⟩; refine ⟨_, rfl, ?_⟩; replace HB := A_ (below_step bB_ hb); clear hb))
     go_ret2
     exact ⟨rr_, bB_⟩
 · replace c9 := Bool.eq_false_iff.mpr c9
   subst c9
   rw [if_neg nf_] at H
   simp only [Option.some.injEq, Prod.mk.injEq] at H
   obtain ⟨rfl, rfl⟩ := H
   go_enter Tryz.func87, Tryz.ntmps87
   go_wp2_with (first | ((with_reducible refine gc_ (f := 82) rfl ?_); refine gL_ (some 21) Tryz.func82 #[.string a0, .string (⟨#[35]⟩ : ByteArray)] ?_; (with_reducible refine (strings_CutPrefix.calls a0 (⟨#[35]⟩ : ByteArray) t23 false _ A7.out).mono ?_); rintro e w21 ⟨rfl, hb⟩; refine ⟨_, rfl, ?_⟩; replace HB := A_ (below_step bB_ hb); clear hb) | ((with_reducible refine gc_ (f := 101) rfl ?_); refine gL_ (some 26) Tryz.func101 #[.string t23, .int .i64 126] ?_; (with_reducible refine (impl_ParseNum.calls t23 126 t24 t26 _ ?gT21 ?gE21 A8.out).mono ?_); (case gT21 => exact gT_ HGT.out bB_); (case gE21 => exact gE_ HGE.out bB_); rintro e w22 ⟨rfl, hb⟩; refine ⟨_, rfl, ?_⟩; replace HB := A_ (below_step bB_ hb); clear hb))
   go_ret2
   exact ⟨rr_, bB_⟩
end Go.Proofs.YtegkokdncakadaaGreatDoor.Q
