/- A printed walk's contract told more sharply: the result's elements' rows lie apart. No condition. -/
import Derived.Test.YtbgggcgjijljkaaVFnCopiedG26
namespace Go.Proofs.Ytbgggcgjijljkaa.Q
open Go.RowKit Go.Proofs.YtbgggcgjijljkaaW.PrintWords Go.Proofs.YtbgggcgjijljkaaW.PrintLast Go.Proofs.YtbgggcgjijljkaaW.PrintMore
attribute [local go_sem] max2_int min2_int max_two min_two max_three min_three max_four min_four
set_option linter.unusedVariables false
set_option linter.unusedSimpArgs false
abbrev spec_PutFileX.f (k : Nat) (l0 : List (S57)) (l1 : List ByteArray) (a2 : ByteArray) (a3 : Int) : Option ((List (S57)) × Int) := spec_PutFile.f k l0 l1 a2 a3
theorem spec_PutFileX.isSome_set (W : World) (p : Addr) (u : Value) (a : Addr) : ((W.setCell p u).cell? a).isSome = (W.cell? a).isSome := by
 unfold World.cell? World.setCell
 simp only [Array.getElem?_modify]
 by_cases h : p.block = a.block
 . simp only [h, if_true]
   cases hb : W.heap[a.block]? with
   | none => simp
   | some o =>
    cases o with
    | cells c e f =>
     simp only [Option.map_some]
     by_cases hs : a.spot.isSome = true
     . simp [hs]
     . by_cases hp : p.spot.isSome = true
       . simp [hs, hp]
       . simp [hs, hp, Array.getElem?_setIfInBounds]
         split
         . rename_i he; rw [he]; by_cases hc : a.off < c.size <;> simp [hc]
         . rfl
    | _ => simp
 . simp only [h, if_false]
set_option maxHeartbeats 8000000 in
set_option maxRecDepth 100000 in
theorem spec_PutFileX.calls (k : Nat) (A0 : Option Addr) (c0 : Nat) (l0 : List (S57)) (A1 : Option Addr) (c1 : Nat) (l1 : List ByteArray) (a2 : ByteArray) (a3 : Int) (r1 : List (S57)) (r2 : Int) (w : World) (hr0 : Kd.C k57 w A0 l0.length l0) (hc0 : l0.length <= c0) (hr1 : Kd.C Kd.string w A1 l1.length l1) (hc1 : l1.length <= c1) (h : spec_PutFileX.f k l0 l1 a2 a3 = some (r1, r2)) :
 Calls Try.prog 26 #[.slice A0 l0.length c0, .slice A1 l1.length c1, .string a2, .int .i64 a3] w fun e w' => ∃ v0_ : Value, e = .returned (.tuple #[v0_, .int .i64 r2]) /\ Kd.S k57 57 w' w.heap.size (fun _ => True) v0_ r1 /\ Below w.heap.size w w' := by
 have hu57 := Try.underlying57
 have HR0 := A_ hr0
 have HC0 := A_ hc0
 clear hr0 hc0
 have HR1 := A_ hr1
 have HC1 := A_ hc1
 clear hr1 hc1
 have HB := A_ (Below.refl w.heap.size w)
 have H : ((spec_l11May.f k l0 l1 a3).bind fun t47 => ((spec_FindRes.f k l0 l1).bind fun t44 => (if t47 = 0 then ((spec_IsColl.f k l0 l1).bind fun t49 => (if t49 = true then (spec_PutFile.j0 k l0 l1 a2 a3 405 t44) else ((spec_Above.f l1).bind fun t46 => ((spec_IsColl.f k l0 t46).bind fun t50 => (if t50 = true then (if (a2.size : Int) > 200 then (spec_PutFile.j0 k l0 l1 a2 a3 413 t44) else (if t44 < 0 then (if (l0.length : Int) >= 12 then (spec_PutFile.j0 k l0 l1 a2 a3 507 t44) else (spec_PutFile.j0 k l0 l1 a2 a3 t47 t44)) else (spec_PutFile.j0 k l0 l1 a2 a3 t47 t44))) else (spec_PutFile.j0 k l0 l1 a2 a3 409 t44)))))) else (spec_PutFile.j0 k l0 l1 a2 a3 t47 t44)))) = some (r1, r2) := h
 clear h
 obtain ⟨t47, A5, H⟩ := bo_ H
 (try dsimp only at H)
 obtain ⟨t44, A6, H⟩ := bo_ H
 (try dsimp only at H)
 have HC7 := A_ H
 clear H
 go_enter Try.func26, Try.ntmps26
 have hss_ := spec_PutFileX.isSome_set
 go_upto_block 0 with (first | ((with_reducible refine gc_ (f := 60) rfl ?_); refine gL_ (some 16) Try.func60 #[.slice A0 l0.length c0, .slice A1 l1.length c1, .int .i64 a3] ?_; (with_reducible refine (spec_l11May.calls k _ _ l0 _ _ l1 a3 t47 _ ?s1 ?s2 ?s3 ?s4 A5.out).mono ?_); (case s1 => exact cC_ HR0.out); (case s2 => exact HC0.out); (case s3 => exact cC_ HR1.out); (case s4 => exact HC1.out); rintro e w8 ⟨rfl, hb⟩; refine ⟨_, rfl, ?_⟩; replace HB := A_ (below_step bB_ hb); clear hb) | ((with_reducible refine gc_ (f := 61) rfl ?_); refine gL_ (some 19) Try.func61 #[.slice A0 l0.length c0, .slice A1 l1.length c1] ?_; (with_reducible refine (spec_FindRes.calls k _ _ l0 _ _ l1 t44 _ ?s1 ?s2 ?s3 ?s4 A6.out).mono ?_); (case s1 => exact cC_ (Kd.C_below HR0.out HB.out)); (case s2 => exact HC0.out); (case s3 => exact cC_ (Kd.C_below HR1.out HB.out)); (case s4 => exact HC1.out); rintro e w' ⟨rfl, ⟨nd, rfl⟩⟩; refine ⟨_, rfl, ?_⟩))
 (try simp only [Act.put, List.setIfInBounds_toArray, List.set_cons_zero, List.set_cons_succ])
 go_cut [10] (fun v10 wc => ∃ (kq : Nat) (x10_6 : Int), v10 = .int .i64 x10_6 /\ Aside0 (spec_PutFile.j0 kq l0 l1 a2 a3 x10_6 t44 = some (r1, r2)) /\ Aside0 (kq <= k) /\ Aside0 (Below w.heap.size w wc))
 case first =>
  have H := HC7.out
  clear HC7
  by_cases c9 : t47 = 0
  rotate_left
  . rw [if_neg c9] at H
    obtain ⟨c9b0, c9b1⟩ := eF_ c9
    (first | rw [c9b0] | (simp only [i64_w, i32_w]; rw [c9b0]) | skip)
    have H' := A_ H
    clear H
    go_wp2
    go_meet
    case rel => exact ⟨_, (t47), rs_, H', ⟨by first | omega | exact Nat.le_refl _⟩, ⟨bB_⟩⟩
  rw [if_pos c9] at H
  obtain ⟨c9b0, c9b1⟩ := eT_ c9
  clear c9
  (first | rw [c9b0] | (simp only [i64_w, i32_w]; rw [c9b0]) | skip)
  obtain ⟨t49, A10, H⟩ := bo_ H
  (try dsimp only at H)
  by_cases c11 : t49 = true
  . subst c11
    rw [if_pos rfl] at H
    have H' := A_ H
    clear H
    go_wp2_with (first | ((with_reducible refine gc_ (f := 73) rfl ?_); refine gL_ (some 26) Try.func73 #[.slice A0 l0.length c0, .slice A1 l1.length c1] ?_; (with_reducible refine (spec_IsColl.calls k _ _ l0 _ _ l1 true _ ?s1 ?s2 ?s3 ?s4 A10.out).mono ?_); (case s1 => exact cC_ (Kd.C_below HR0.out HB.out)); (case s2 => exact HC0.out); (case s3 => exact cC_ (Kd.C_below HR1.out HB.out)); (case s4 => exact HC1.out); rintro e w' ⟨rfl, ⟨nd, rfl⟩⟩; refine ⟨_, rfl, ?_⟩))
    go_meet
    case rel => exact ⟨_, (405), rs_, H', ⟨by first | omega | exact Nat.le_refl _⟩, ⟨bB_⟩⟩
  . replace c11 := Bool.eq_false_iff.mpr c11
    subst c11
    rw [if_neg nf_] at H
    obtain ⟨t46, A12, H⟩ := bo_ H
    (try dsimp only at H)
    obtain ⟨t50, A13, H⟩ := bo_ H
    (try dsimp only at H)
    by_cases c14 : t50 = true
    . subst c14
      rw [if_pos rfl] at H
      by_cases c15 : (a2.size : Int) > 200
      . rw [if_pos c15] at H
        have c15b0 : decide (200 < (a2.size : Int)) = true := decide_eq_true c15
        have c15b1 : decide (200 < a2.size) = true := decide_eq_true (by omega)
        clear c15
        have H' := A_ H
        clear H
        go_wp2_with (first | ((with_reducible refine gc_ (f := 73) rfl ?_); refine gL_ (some 26) Try.func73 #[.slice A0 l0.length c0, .slice A1 l1.length c1] ?_; (with_reducible refine (spec_IsColl.calls k _ _ l0 _ _ l1 false _ ?s1 ?s2 ?s3 ?s4 A10.out).mono ?_); (case s1 => exact cC_ (Kd.C_below HR0.out HB.out)); (case s2 => exact HC0.out); (case s3 => exact cC_ (Kd.C_below HR1.out HB.out)); (case s4 => exact HC1.out); rintro e w' ⟨rfl, ⟨nd, rfl⟩⟩; refine ⟨_, rfl, ?_⟩) | ((with_reducible refine gc_ (f := 74) rfl ?_); refine gL_ (some 30) Try.func74 #[.slice A1 l1.length c1] ?_; (with_reducible refine (spec_Above.calls _ _ l1 t46 _ ?s1 ?s2 A12.out).mono ?_); (case s1 => exact cC_ (Kd.C_below HR1.out bB_)); (case s2 => exact HC1.out); rintro e w16 ⟨v48, rfl, ho0, hb⟩; refine ⟨_, rfl, ?_⟩; have HO45 := A_ (Kd.R_lower ho0 (below_size bB_)); replace HB := A_ (below_step bB_ hb); clear hb ho0; obtain ⟨Ao17, co17, eo17⟩ := Kd.R_slice HO45.out; subst eo17) | ((with_reducible refine gc_ (f := 73) rfl ?_); refine gL_ (some 31) Try.func73 #[.slice A0 l0.length c0, .slice Ao17 t46.length co17] ?_; (with_reducible refine (spec_IsColl.calls k _ _ l0 _ _ t46 true _ ?s1 ?s2 ?s3 ?s4 A13.out).mono ?_); (case s1 => exact cC_ (Kd.C_below HR0.out HB.out)); (case s2 => exact HC0.out); (case s3 => exact cC_ (Kd.R_reads' HO45.out).2.2); (case s4 => exact (Kd.R_reads' HO45.out).2.1); rintro e w' ⟨rfl, ⟨nd, rfl⟩⟩; refine ⟨_, rfl, ?_⟩))
        go_meet
        case rel => exact ⟨_, (413), rs_, H', ⟨by first | omega | exact Nat.le_refl _⟩, ⟨bB_⟩⟩
      rw [if_neg c15] at H
      have c15b0 : decide (200 < (a2.size : Int)) = false := decide_eq_false c15
      have c15b1 : decide (200 < a2.size) = false := decide_eq_false (by omega)
      clear c15
      by_cases c18 : t44 < 0
      rotate_left
      . rw [if_neg c18] at H
        have c18b0 := decide_eq_false c18
        clear c18
        have H' := A_ H
        clear H
        go_wp2_with (first | ((with_reducible refine gc_ (f := 73) rfl ?_); refine gL_ (some 26) Try.func73 #[.slice A0 l0.length c0, .slice A1 l1.length c1] ?_; (with_reducible refine (spec_IsColl.calls k _ _ l0 _ _ l1 false _ ?s1 ?s2 ?s3 ?s4 A10.out).mono ?_); (case s1 => exact cC_ (Kd.C_below HR0.out HB.out)); (case s2 => exact HC0.out); (case s3 => exact cC_ (Kd.C_below HR1.out HB.out)); (case s4 => exact HC1.out); rintro e w' ⟨rfl, ⟨nd, rfl⟩⟩; refine ⟨_, rfl, ?_⟩) | ((with_reducible refine gc_ (f := 74) rfl ?_); refine gL_ (some 30) Try.func74 #[.slice A1 l1.length c1] ?_; (with_reducible refine (spec_Above.calls _ _ l1 t46 _ ?s1 ?s2 A12.out).mono ?_); (case s1 => exact cC_ (Kd.C_below HR1.out bB_)); (case s2 => exact HC1.out); rintro e w24 ⟨v48, rfl, ho0, hb⟩; refine ⟨_, rfl, ?_⟩; have HO45 := A_ (Kd.R_lower ho0 (below_size bB_)); replace HB := A_ (below_step bB_ hb); clear hb ho0; obtain ⟨Ao25, co25, eo25⟩ := Kd.R_slice HO45.out; subst eo25) | ((with_reducible refine gc_ (f := 73) rfl ?_); refine gL_ (some 31) Try.func73 #[.slice A0 l0.length c0, .slice Ao25 t46.length co25] ?_; (with_reducible refine (spec_IsColl.calls k _ _ l0 _ _ t46 true _ ?s1 ?s2 ?s3 ?s4 A13.out).mono ?_); (case s1 => exact cC_ (Kd.C_below HR0.out HB.out)); (case s2 => exact HC0.out); (case s3 => exact cC_ (Kd.R_reads' HO45.out).2.2); (case s4 => exact (Kd.R_reads' HO45.out).2.1); rintro e w' ⟨rfl, ⟨nd, rfl⟩⟩; refine ⟨_, rfl, ?_⟩))
        go_meet
        case rel => exact ⟨_, (t47), rs_, H', ⟨by first | omega | exact Nat.le_refl _⟩, ⟨bB_⟩⟩
      rw [if_pos c18] at H
      have c18b0 := decide_eq_true c18
      clear c18
      by_cases c19 : (l0.length : Int) >= 12
      . rw [if_pos c19] at H
        have c19b0 : decide (12 <= (l0.length : Int)) = true := decide_eq_true c19
        have c19b1 : decide (12 <= l0.length) = true := decide_eq_true (by omega)
        clear c19
        have H' := A_ H
        clear H
        go_wp2_with (first | ((with_reducible refine gc_ (f := 73) rfl ?_); refine gL_ (some 26) Try.func73 #[.slice A0 l0.length c0, .slice A1 l1.length c1] ?_; (with_reducible refine (spec_IsColl.calls k _ _ l0 _ _ l1 false _ ?s1 ?s2 ?s3 ?s4 A10.out).mono ?_); (case s1 => exact cC_ (Kd.C_below HR0.out HB.out)); (case s2 => exact HC0.out); (case s3 => exact cC_ (Kd.C_below HR1.out HB.out)); (case s4 => exact HC1.out); rintro e w' ⟨rfl, ⟨nd, rfl⟩⟩; refine ⟨_, rfl, ?_⟩) | ((with_reducible refine gc_ (f := 74) rfl ?_); refine gL_ (some 30) Try.func74 #[.slice A1 l1.length c1] ?_; (with_reducible refine (spec_Above.calls _ _ l1 t46 _ ?s1 ?s2 A12.out).mono ?_); (case s1 => exact cC_ (Kd.C_below HR1.out bB_)); (case s2 => exact HC1.out); rintro e w20 ⟨v48, rfl, ho0, hb⟩; refine ⟨_, rfl, ?_⟩; have HO45 := A_ (Kd.R_lower ho0 (below_size bB_)); replace HB := A_ (below_step bB_ hb); clear hb ho0; obtain ⟨Ao21, co21, eo21⟩ := Kd.R_slice HO45.out; subst eo21) | ((with_reducible refine gc_ (f := 73) rfl ?_); refine gL_ (some 31) Try.func73 #[.slice A0 l0.length c0, .slice Ao21 t46.length co21] ?_; (with_reducible refine (spec_IsColl.calls k _ _ l0 _ _ t46 true _ ?s1 ?s2 ?s3 ?s4 A13.out).mono ?_); (case s1 => exact cC_ (Kd.C_below HR0.out HB.out)); (case s2 => exact HC0.out); (case s3 => exact cC_ (Kd.R_reads' HO45.out).2.2); (case s4 => exact (Kd.R_reads' HO45.out).2.1); rintro e w' ⟨rfl, ⟨nd, rfl⟩⟩; refine ⟨_, rfl, ?_⟩))
        go_meet
        case rel => exact ⟨_, (507), rs_, H', ⟨by first | omega | exact Nat.le_refl _⟩, ⟨bB_⟩⟩
      rw [if_neg c19] at H
      have c19b0 : decide (12 <= (l0.length : Int)) = false := decide_eq_false c19
      have c19b1 : decide (12 <= l0.length) = false := decide_eq_false (by omega)
      clear c19
      have H' := A_ H
      clear H
      go_wp2_with (first | ((with_reducible refine gc_ (f := 73) rfl ?_); refine gL_ (some 26) Try.func73 #[.slice A0 l0.length c0, .slice A1 l1.length c1] ?_; (with_reducible refine (spec_IsColl.calls k _ _ l0 _ _ l1 false _ ?s1 ?s2 ?s3 ?s4 A10.out).mono ?_); (case s1 => exact cC_ (Kd.C_below HR0.out HB.out)); (case s2 => exact HC0.out); (case s3 => exact cC_ (Kd.C_below HR1.out HB.out)); (case s4 => exact HC1.out); rintro e w' ⟨rfl, ⟨nd, rfl⟩⟩; refine ⟨_, rfl, ?_⟩) | ((with_reducible refine gc_ (f := 74) rfl ?_); refine gL_ (some 30) Try.func74 #[.slice A1 l1.length c1] ?_; (with_reducible refine (spec_Above.calls _ _ l1 t46 _ ?s1 ?s2 A12.out).mono ?_); (case s1 => exact cC_ (Kd.C_below HR1.out bB_)); (case s2 => exact HC1.out); rintro e w22 ⟨v48, rfl, ho0, hb⟩; refine ⟨_, rfl, ?_⟩; have HO45 := A_ (Kd.R_lower ho0 (below_size bB_)); replace HB := A_ (below_step bB_ hb); clear hb ho0; obtain ⟨Ao23, co23, eo23⟩ := Kd.R_slice HO45.out; subst eo23) | ((with_reducible refine gc_ (f := 73) rfl ?_); refine gL_ (some 31) Try.func73 #[.slice A0 l0.length c0, .slice Ao23 t46.length co23] ?_; (with_reducible refine (spec_IsColl.calls k _ _ l0 _ _ t46 true _ ?s1 ?s2 ?s3 ?s4 A13.out).mono ?_); (case s1 => exact cC_ (Kd.C_below HR0.out HB.out)); (case s2 => exact HC0.out); (case s3 => exact cC_ (Kd.R_reads' HO45.out).2.2); (case s4 => exact (Kd.R_reads' HO45.out).2.1); rintro e w' ⟨rfl, ⟨nd, rfl⟩⟩; refine ⟨_, rfl, ?_⟩))
      go_meet
      case rel => exact ⟨_, (t47), rs_, H', ⟨by first | omega | exact Nat.le_refl _⟩, ⟨bB_⟩⟩
    . replace c14 := Bool.eq_false_iff.mpr c14
      subst c14
      rw [if_neg nf_] at H
      have H' := A_ H
      clear H
      go_wp2_with (first | ((with_reducible refine gc_ (f := 73) rfl ?_); refine gL_ (some 26) Try.func73 #[.slice A0 l0.length c0, .slice A1 l1.length c1] ?_; (with_reducible refine (spec_IsColl.calls k _ _ l0 _ _ l1 false _ ?s1 ?s2 ?s3 ?s4 A10.out).mono ?_); (case s1 => exact cC_ (Kd.C_below HR0.out HB.out)); (case s2 => exact HC0.out); (case s3 => exact cC_ (Kd.C_below HR1.out HB.out)); (case s4 => exact HC1.out); rintro e w' ⟨rfl, ⟨nd, rfl⟩⟩; refine ⟨_, rfl, ?_⟩) | ((with_reducible refine gc_ (f := 74) rfl ?_); refine gL_ (some 30) Try.func74 #[.slice A1 l1.length c1] ?_; (with_reducible refine (spec_Above.calls _ _ l1 t46 _ ?s1 ?s2 A12.out).mono ?_); (case s1 => exact cC_ (Kd.C_below HR1.out bB_)); (case s2 => exact HC1.out); rintro e w26 ⟨v48, rfl, ho0, hb⟩; refine ⟨_, rfl, ?_⟩; have HO45 := A_ (Kd.R_lower ho0 (below_size bB_)); replace HB := A_ (below_step bB_ hb); clear hb ho0; obtain ⟨Ao27, co27, eo27⟩ := Kd.R_slice HO45.out; subst eo27) | ((with_reducible refine gc_ (f := 73) rfl ?_); refine gL_ (some 31) Try.func73 #[.slice A0 l0.length c0, .slice Ao27 t46.length co27] ?_; (with_reducible refine (spec_IsColl.calls k _ _ l0 _ _ t46 false _ ?s1 ?s2 ?s3 ?s4 A13.out).mono ?_); (case s1 => exact cC_ (Kd.C_below HR0.out HB.out)); (case s2 => exact HC0.out); (case s3 => exact cC_ (Kd.R_reads' HO45.out).2.2); (case s4 => exact (Kd.R_reads' HO45.out).2.1); rintro e w' ⟨rfl, ⟨nd, rfl⟩⟩; refine ⟨_, rfl, ?_⟩))
      go_meet
      case rel => exact ⟨_, (409), rs_, H', ⟨by first | omega | exact Nat.le_refl _⟩, ⟨bB_⟩⟩
 case rest =>
  clear HC7
  try clear c1
  obtain ⟨kq, x10_6, rfl, HA, HJ6, HB⟩ := hcut
  cases kq with
  | zero => exact absurd HA.out (by simp [spec_PutFile.j0])
  | succ kj6 =>
   have H := HA.out
   clear HA
   simp only [spec_PutFile.j0] at H
   by_cases c28 : x10_6 = 0
   rotate_left
   . rw [if_neg c28] at H
     obtain ⟨c28b0, c28b1⟩ := eF_ c28
     obtain ⟨t51, A40, H⟩ := bo_ H
     (try dsimp only at H)
     simp only [Option.some.injEq, Prod.mk.injEq] at H
     obtain ⟨rfl, rfl⟩ := H
     go_wp2_with (first | ((with_reducible refine gc_ (f := 62) rfl ?_); refine gL_ (some 48) Try.func62 #[.slice A0 l0.length c0] ?_; (with_reducible refine (spec_l10CopyAll.calls kj6 _ _ l0 t51 _ ?s1 ?s2 A40.out).mono ?_); (case s1 => exact cC_ (Kd.C_below HR0.out HB.out)); (case s2 => exact HC0.out); rintro e w41 ⟨v58, rfl, ho0, hb⟩; refine ⟨_, rfl, ?_⟩; have HO52 := A_ (Kd.S_lower ho0 (below_size bB_)); replace HB := A_ (below_step bB_ hb); clear hb ho0))
     go_ret2
     exact ⟨_, rr_, vS_ HO52.out, bB_⟩
   rw [if_pos c28] at H
   obtain ⟨c28b0, c28b1⟩ := eT_ c28
   clear c28
   by_cases c29 : t44 < 0
   . rw [if_pos c29] at H
     have c29b0 := decide_eq_true c29
     clear c29
     obtain ⟨t53, A30, H⟩ := bo_ H
     (try dsimp only at H)
     simp only [Option.some.injEq, Prod.mk.injEq] at H
     obtain ⟨rfl, rfl⟩ := H
     go_wp2_with (first | ((with_reducible refine gd_ (N := 12) rfl ?_); (try (refine gate_guard (by rfl) ?_; dsimp only)); refine bx_ (N := 12) (cs := #[.slice none 0 0, .bool false, .string (⟨#[]⟩ : ByteArray), .int .i64 0, .slice none 0 0]) (t := 57) ?_; intro gb43 hg w31 hbox hb; have BK43 := A_ (hbox); have GW43 := A_ (ge_ hg bB_ : w.heap.size <= gb43); have GE43 := A_ (ge_ hg bB_ : w.heap.size <= gb43); replace HB := A_ (below_step bB_ hb); clear hb hbox hg; obtain ⟨hcz32_0, hcz32_1, hcz32_2, hcz32_3, hcz32_4, hfz32_0, hfz32_1, hfz32_2, hfz32_3, hfz32_4⟩ := cz5_ BK43.out) | ((with_reducible refine gc_ (f := 75) rfl ?_); refine gL_ (some 58) Try.func75 #[.slice A0 l0.length c0, .agg #[.slice A1 l1.length c1, .bool false, .string a2, .int .i64 a3, .slice none 0 0]] ?_; (refine (spec_l11Put.calls kj6 _ _ l0 _ _ l1 false a2 a3 _ _ ([] : List (S72)) t53 _ ?s1 ?s2 ?s3 ?s4 ?s5 ?s6 A30.out).mono ?_); (case s1 => exact Kd.C_below HR0.out (bG_ GE43.out)); (case s2 => exact HC0.out); (case s3 => exact Kd.C_below HR1.out (bG_ GE43.out)); (case s4 => exact HC1.out); (case s5 => exact Kd.C_nil _ _); (case s6 => exact Nat.le_refl _); rintro e w33 ⟨v59, rfl, ho0, hb⟩; refine ⟨_, rfl, ?_⟩; have HO54 := A_ (Kd.S_lower (Kd.S_newB ho0 (g := gb43) (o := .cells #[.slice A1 l1.length c1, .bool false, .string a2, .int .i64 a3, .slice none 0 0] 57 (0, 0)) (by (with_reducible repeat (first | refine blk_drewN ?_ _ | refine blk_drew ?_ | refine blk_alloc ?_ _)); with_reducible exact p5_01234_ (vb_ BK43.out))) (below_size (bG_ GE43.out))); replace HB := A_ (below_step (bG_ GE43.out) hb); clear hb ho0))
     go_ret2
     exact ⟨_, rr_, by (with_reducible repeat (first | apply Kd.S_alloc | apply Kd.S_drewN | apply Kd.S_drew)); exact Kd.S_mono HO54.out (fun _ hk => trivial), bG_ GE43.out⟩
   rw [if_neg c29] at H
   have c29b0 := decide_eq_false c29
   clear c29
   by_cases c34 : 0 <= t44
   rotate_left
   . exact absurd H (by rw [if_neg c34]; simp)
   rw [if_pos c34] at H
   have c34b0 := decide_eq_true c34
   clear c34
   by_cases c35 : t44 < (l0.length : Int)
   rotate_left
   . exact absurd H (by rw [if_neg c35]; simp)
   rw [if_pos c35] at H
   have c35b0 := decide_eq_true c35
   clear c35
   obtain ⟨t55, A36, H⟩ := bo_ H
   (try dsimp only at H)
   simp only [Option.some.injEq, Prod.mk.injEq] at H
   obtain ⟨rfl, rfl⟩ := H
   go_wp2_with (first | ((with_reducible refine gd_ (N := 12) rfl ?_); (try (refine gate_guard (by rfl) ?_; dsimp only)); refine bx_ (N := 12) (cs := #[.slice none 0 0, .bool false, .string (⟨#[]⟩ : ByteArray), .int .i64 0, .slice none 0 0]) (t := 57) ?_; intro gb43 hg w37 hbox hb; have BK43 := A_ (hbox); have GW43 := A_ (ge_ hg bB_ : w.heap.size <= gb43); have GE43 := A_ (ge_ hg bB_ : w.heap.size <= gb43); replace HB := A_ (below_step bB_ hb); clear hb hbox hg; obtain ⟨hcz38_0, hcz38_1, hcz38_2, hcz38_3, hcz38_4, hfz38_0, hfz38_1, hfz38_2, hfz38_3, hfz38_4⟩ := cz5_ BK43.out; have p42 : 0 <= (t44 : Int) := od_; have q42 : t44 < (l0.length : Int) := od_; obtain ⟨ad42, A42_0, c42_0, A42_4, c42_4, e42, hx42_0, hx42_1, hx42_2, hx42_3, hx42_4, hl42_0, hi42_0, hl42_4, hi42_4⟩ := at_T57 HR0.out t44 p42 q42; cases e42; have hn42_0 : ad42.block ≠ gb43 := Nat.ne_of_lt (Nat.lt_of_lt_of_le (by have := World.block_lt_of_cell? _ _ hx42_0; first | rwa [add_block] at this | exact this) GW43.out); have hn42_1 : ad42.block ≠ gb43 := Nat.ne_of_lt (Nat.lt_of_lt_of_le (by have := World.block_lt_of_cell? _ _ hx42_0; first | rwa [add_block] at this | exact this) GW43.out); have hn42_2 : ad42.block ≠ gb43 := Nat.ne_of_lt (Nat.lt_of_lt_of_le (by have := World.block_lt_of_cell? _ _ hx42_0; first | rwa [add_block] at this | exact this) GW43.out); have hn42_3 : ad42.block ≠ gb43 := Nat.ne_of_lt (Nat.lt_of_lt_of_le (by have := World.block_lt_of_cell? _ _ hx42_0; first | rwa [add_block] at this | exact this) GW43.out); have hn42_4 : ad42.block ≠ gb43 := Nat.ne_of_lt (Nat.lt_of_lt_of_le (by have := World.block_lt_of_cell? _ _ hx42_0; first | rwa [add_block] at this | exact this) GW43.out); have hbw_ : Below w.heap.size w (((((w37.setCell ⟨gb43, 0, none⟩ (.slice A1 l1.length c1)).setCell ⟨gb43, 1, none⟩ (.bool false)).setCell ⟨gb43, 2, none⟩ (.string a2)).setCell ⟨gb43, 3, none⟩ (.int .i64 a3)).setCell ⟨gb43, 4, none⟩ (.slice none 0 0)) := (by repeat (first | (with_reducible exact HB.out) | refine below_set ?_ GE43.out)); replace hx42_0 := (hbw_.cell (World.block_lt_of_cell? w _ hx42_0)).trans hx42_0; replace hx42_1 := (hbw_.cell (World.block_lt_of_cell? w _ hx42_1)).trans hx42_1; replace hx42_2 := (hbw_.cell (World.block_lt_of_cell? w _ hx42_2)).trans hx42_2; replace hx42_3 := (hbw_.cell (World.block_lt_of_cell? w _ hx42_3)).trans hx42_3; replace hx42_4 := (hbw_.cell (World.block_lt_of_cell? w _ hx42_4)).trans hx42_4; clear hbw_; clear hi42_0 hl42_0; have HR42_4 := A_ hi42_4; have HC42_4 := A_ hl42_4; clear hi42_4 hl42_4; clear hn42_0; clear hn42_1; clear hn42_2; clear hn42_3; clear hn42_4; replace p42 := eq_true p42; replace q42 := eq_true q42) | ((with_reducible refine gc_ (f := 75) rfl ?_); refine gL_ (some 67) Try.func75 #[.slice (some ad42) l0.length c0, .agg #[.slice A1 l1.length c1, .bool false, .string a2, .int .i64 a3, .slice A42_4 ((rd_T57 l0 t44).f4).length c42_4]] ?_; (with_reducible refine (spec_l11Put.calls kj6 _ _ l0 _ _ l1 false a2 a3 _ _ ((rd_T57 l0 t44).f4) t55 _ ?s1 ?s2 ?s3 ?s4 ?s5 ?s6 A36.out).mono ?_); (case s1 => exact Kd.C_below HR0.out (bG_ GE43.out)); (case s2 => exact HC0.out); (case s3 => exact Kd.C_below HR1.out (bG_ GE43.out)); (case s4 => exact HC1.out); (case s5 => exact Kd.C_below HR42_4.out (bG_ GE43.out)); (case s6 => exact HC42_4.out); rintro e w39 ⟨v60, rfl, ho0, hb⟩; refine ⟨_, rfl, ?_⟩; have n0_ := A_ (Kd.S_lower ho0 (below_size (bG_ GE43.out))); have n2_ := A_ (below_step (bG_ GE43.out) hb); clear BK43; clear HB; have HO56 := n0_; have HB := n2_; clear n0_ n2_; clear hb ho0))
   go_ret2
   exact ⟨_, rr_, by (with_reducible repeat (first | apply Kd.S_alloc | apply Kd.S_drewN | apply Kd.S_drew)); exact Kd.S_mono HO56.out (fun _ hk => trivial), bG_ GE43.out⟩
attribute [local go_sem] max2_int min2_int max_two min_two max_three min_three max_four min_four
mutual
def spec_l12One.l0 : Nat -> List (S72) -> List (S72) -> Bool -> Int -> Bool -> ByteArray -> ByteArray -> ByteArray -> Option ((List (S72)))
 | 0, _, _, _, _, _, _, _, _ => none
 | k + 1, x0, x5, x6, x7, x691000, x691001, x691002, x691003 => if x7 < (x0.length : Int) then (if x6 = true then (spec_l12One.j1 k x0 x5 x6 x7 false x691000 x691001 x691002 x691003) else (if 0 <= x7 then ((spec_l10LessProp.f ((rd_T72 x0 x7).f0) ((rd_T72 x0 x7).f1) ((rd_T72 x0 x7).f2) x691001 x691002 x691003).bind fun t698 => (spec_l12One.j1 k x0 x5 x6 x7 (!t698) x691000 x691001 x691002 x691003)) else (none))) else (if x6 = true then (some x5) else (if x5.length < 2932031007402 then (some (x5 ++ [(⟨x691001, x691002, x691003⟩ : S72)])) else (none)))
def spec_l12One.j1 : Nat -> List (S72) -> List (S72) -> Bool -> Int -> Bool -> Bool -> ByteArray -> ByteArray -> ByteArray -> Option ((List (S72)))
 | 0, _, _, _, _, _, _, _, _, _ => none
 | k + 1, x0, x5, x6, x7, x28, x691000, x691001, x691002, x691003 => if x28 = true then (if x5.length < 2932031007402 then ((some (x5 ++ [(⟨x691001, x691002, x691003⟩ : S72)] : List (S72))).bind fun y699 => (if 0 <= x7 then (if x7 < (x0.length : Int) then (if ((rd_T72 x0 x7).f0).toList = x691001.toList then (if ((rd_T72 x0 x7).f1).toList = x691002.toList then (spec_l12One.l0 k x0 y699 true (wrap64 (x7 + 1)) x691000 x691001 x691002 x691003) else (if y699.length < 2932031007402 then (spec_l12One.l0 k x0 (y699 ++ [(⟨(rd_T72 x0 x7).f0, (rd_T72 x0 x7).f1, (rd_T72 x0 x7).f2⟩ : S72)]) true (wrap64 (x7 + 1)) x691000 x691001 x691002 x691003) else (none))) else (if y699.length < 2932031007402 then (spec_l12One.l0 k x0 (y699 ++ [(⟨(rd_T72 x0 x7).f0, (rd_T72 x0 x7).f1, (rd_T72 x0 x7).f2⟩ : S72)]) true (wrap64 (x7 + 1)) x691000 x691001 x691002 x691003) else (none))) else (none)) else (none))) else (none)) else (if 0 <= x7 then (if x7 < (x0.length : Int) then (if ((rd_T72 x0 x7).f0).toList = x691001.toList then (if ((rd_T72 x0 x7).f1).toList = x691002.toList then (spec_l12One.l0 k x0 x5 x6 (wrap64 (x7 + 1)) x691000 x691001 x691002 x691003) else (if x5.length < 2932031007402 then (spec_l12One.l0 k x0 (x5 ++ [(⟨(rd_T72 x0 x7).f0, (rd_T72 x0 x7).f1, (rd_T72 x0 x7).f2⟩ : S72)]) x6 (wrap64 (x7 + 1)) x691000 x691001 x691002 x691003) else (none))) else (if x5.length < 2932031007402 then (spec_l12One.l0 k x0 (x5 ++ [(⟨(rd_T72 x0 x7).f0, (rd_T72 x0 x7).f1, (rd_T72 x0 x7).f2⟩ : S72)]) x6 (wrap64 (x7 + 1)) x691000 x691001 x691002 x691003) else (none))) else (none)) else (none))
end
def spec_l12One.f (k : Nat) (l0 : List (S72)) (a1_0 : Bool) (a1_1 : ByteArray) (a1_2 : ByteArray) (a1_3 : ByteArray) : Option ((List (S72))) := spec_l12One.l0 k l0 (([] : List (S72))) a1_0 0 a1_0 a1_1 a1_2 a1_3
def spec_l12One.T6 : Bool × List (List Nat × List Nat) := (true, [([], []), ([0], [0]), ([1], [1]), ([2], [2]), ([2], [2]), ([3, 4, 2], [2, 3, 4]), ([5, 2], [2, 5]), ([2], [2]), ([7, 2], [2, 7]), ([6, 8, 2, 2], [2, 6, 8]), ([9, 2], [2, 9]), ([2, 10], [2, 10])])
def spec_l12One.B6 : List Nat := [0, 1, 3, 7, 7, 31, 63, 7, 135, 511, 1023, 2047]
theorem spec_l12One.tab6 : rtab .any (opsOf Try.f96 6) = spec_l12One.T6 := by kernel_rfl
theorem spec_l12One.bits6 : waitsOk spec_l12One.T6.2 spec_l12One.B6 = true := by kernel_rfl
def spec_l12One.T9 : Bool × List (List Nat × List Nat) := (true, [([], []), ([], []), ([0, 1], [0, 1]), ([2], [2]), ([3], [3]), ([], []), ([5], [5]), ([6], [6]), ([4, 7], [4, 7]), ([8], [8]), ([9], [9]), ([9], [9]), ([10, 11, 9], [9, 10, 11]), ([12, 9], [9, 12]), ([13, 9], [9, 13]), ([9], [9]), ([15, 9], [9, 15]), ([16, 9], [9, 16]), ([14, 17, 9], [9, 14, 17]), ([9, 18], [9, 18])])
def spec_l12One.B9 : List Nat := [0, 0, 3, 7, 15, 0, 32, 96, 255, 511, 1023, 1023, 4095, 8191, 16383, 1023, 33791, 99327, 262143, 524287]
theorem spec_l12One.tab9 : rtab .any (opsOf Try.f96 9) = spec_l12One.T9 := by kernel_rfl
theorem spec_l12One.bits9 : waitsOk spec_l12One.T9.2 spec_l12One.B9 = true := by kernel_rfl
set_option maxHeartbeats 8000000 in
set_option maxRecDepth 100000 in
theorem spec_l12One.calls (k : Nat) (A0 : Option Addr) (c0 : Nat) (l0 : List (S72)) (a1_0 : Bool) (a1_1 : ByteArray) (a1_2 : ByteArray) (a1_3 : ByteArray) (r : List (S72)) (w : World) (hr0 : Kd.C k72 w A0 l0.length l0) (hc0 : l0.length <= c0) (h : spec_l12One.f k l0 a1_0 a1_1 a1_2 a1_3 = some r) :
 Calls Try.prog 96 #[.slice A0 l0.length c0, .agg #[.bool a1_0, .string a1_1, .string a1_2, .string a1_3]] w fun e w' => ∃ v0_ : Value, e = .returned (v0_) /\ Kd.R k72 72 w' w.heap.size (fun _ => True) v0_ r /\ Below w.heap.size w w' := by
 have hu74 := Try.underlying74
 have hu72 := Try.underlying72
 have HR0 := A_ hr0
 clear hr0 hc0
 have HB := A_ (Below.refl w.heap.size w)
 have H : (spec_l12One.l0 k l0 (([] : List (S72))) a1_0 0 a1_0 a1_1 a1_2 a1_3) = some r := h
 clear h
 obtain ⟨y60, hy60⟩ : ∃ y_ : List (S72), y_ = (([] : List (S72))) := ⟨_, rfl⟩
 replace H : (spec_l12One.l0 k l0 y60 a1_0 0 a1_0 a1_1 a1_2 a1_3) = some r := hy_ hy60 H
 have Ny60 := A_ hy60
 clear hy60
 have H' := A_ H
 clear H
 go_enter Try.func96, Try.ntmps96
 go_wp2_with (first | ((with_reducible refine gd_ (N := 3) rfl ?_); refine bx_ (N := 3) (cs := #[.bool a1_0, .string a1_1, .string a1_2, .string a1_3]) (t := 74) ?_; intro gb2 hg w3 hbox hb; have BK2 := A_ (hbox); have GW2 := A_ (ge_ hg bB_ : w.heap.size <= gb2); have GE2 := A_ (ge_ hg bB_ : w.heap.size <= gb2); replace HB := A_ (below_step bB_ hb); clear hb hbox hg) | ((with_reducible refine gd_ (N := 8) rfl ?_); refine Kd.R_lit k72 _ 72 ?hg (N := 8) ?hd (xs := ([] : List (S72))) (inner := []) (ok := fun _ => True) (okp := fun _ => True) ?hr ?hp (fun _ hk => hk) trivial (Below.refl _ _) (Nat.le_refl _) (by simp) ?_; (case hd => rfl); (case hg => rfl); (case hr => first | (go_simp; done) | (go_simp; rfl)); (case hp => exact (Reps.none _ _)); intro v77 w4 ho5 hb hg_ hnew_; clear hg_ hnew_; (first | rw [← Ny60.out] at ho5 | (simp only [Int.reduceToNat] at ho5; rw [← Ny60.out] at ho5)); have HO69 := A_ (Kd.R_lower ho5 (below_size (bG_ GE2.out))); replace BK2 := A_ (bw_ BK2.out hb); replace HB := A_ (below_step (bG_ GE2.out) hb); clear hb ho5; obtain ⟨hcz6_0, hcz6_1, hcz6_2, hcz6_3, hfz6_0, hfz6_1, hfz6_2, hfz6_3⟩ := cz4_ BK2.out))
 go_loopg [5, 6, 7] k (fun kq v5 v6 v7 w' => ∃ (x5_1 : List (S72)) (x6_1 : Bool) (x7_1 : Int), v6 = .bool x6_1 /\ v7 = .int .i64 x7_1 /\ Aside0 (spec_l12One.l0 kq l0 x5_1 x6_1 x7_1 a1_0 a1_1 a1_2 a1_3 = some r) /\ Aside0 (kq <= k) /\ Aside0 (Kd.R k72 72 w' w.heap.size (fun _ => True) v5 x5_1) /\ Aside0 (w'.heap[gb2]? = some (.cells #[.bool a1_0, .string a1_1, .string a1_2, .string a1_3] 74 (0, 0))) /\ Aside0 (Below w.heap.size w w'))
 case atStart => exact ⟨(y60), (a1_0), (0), rs_, rs_, H', ⟨Nat.le_refl _⟩, ⟨vR_ HO69.out⟩, ⟨vb_ BK2.out⟩, ⟨bG_ GE2.out⟩⟩
 case round =>
  clear H'
  try clear hcz6_0
  try clear hcz6_1
  try clear hcz6_2
  try clear hcz6_3
  try clear hfz6_0
  try clear hfz6_1
  try clear hfz6_2
  try clear hfz6_3
  obtain ⟨x5_1, x6_1, x7_1, rfl, rfl, HA, HK1, HO_5, BK2, HB⟩ := hrel
  cases gk with
  | zero => exact absurd HA.out (by simp [spec_l12One.l0])
  | succ k1 =>
   have H := HA.out
   clear HA
   simp only [spec_l12One.l0] at H
   by_cases c7 : x7_1 < (l0.length : Int)
   rotate_left
   . rw [if_neg c7] at H
     have c7b0 := decide_eq_false c7
     clear c7
     by_cases c45 : x6_1 = true
     . subst c45
       rw [if_pos rfl] at H
       obtain rfl := si_ H
       go_wp2
       go_ret
       exact ⟨_, rr_, vR_ HO_5.out, bG_ GE2.out⟩
     . replace c45 := Bool.eq_false_iff.mpr c45
       subst c45
       rw [if_neg nf_] at H
       by_cases c46 : x5_1.length < 2932031007402
       rotate_left
       . exact absurd H (by rw [if_neg c46]; simp)
       rw [if_pos c46] at H
       have LMc46 := A_ c46
       clear c46
       obtain ⟨y66, hy66⟩ : ∃ y_ : List (S72), y_ = (x5_1 ++ [(⟨a1_1, a1_2, a1_3⟩ : S72)]) := ⟨_, rfl⟩
       replace H : (some y66) = some r := hy_ hy66 H
       have Ny66 := A_ hy66
       clear hy66
       obtain rfl := si_ H
       have hcz47_0 : wr.cell? ⟨gb2, 0, none⟩ = some (.bool a1_0) := bl_ BK2.out 0
       have hcz47_1 : wr.cell? ⟨gb2, 1, none⟩ = some (.string a1_1) := bl_ BK2.out 1
       have hcz47_2 : wr.cell? ⟨gb2, 2, none⟩ = some (.string a1_2) := bl_ BK2.out 2
       have hcz47_3 : wr.cell? ⟨gb2, 3, none⟩ = some (.string a1_3) := bl_ BK2.out 3
       have hfz47_0 := blk_frozen BK2.out 0
       have hfz47_1 := blk_frozen BK2.out 1
       have hfz47_2 := blk_frozen BK2.out 2
       have hfz47_3 := blk_frozen BK2.out 3
       go_wp2_with (first | ((with_reducible refine gate_builtin (b := .append) (xs := #[.tmp 63, .tmp 66]) rfl ?_); at_builtin; refine Kd.R_append k72 (w0 := w) w.heap.size rfl (.tmp 63) (.tmp 66) 55 72 (.agg #[(.string ⟨#[]⟩), (.string ⟨#[]⟩), (.string ⟨#[]⟩)]) 48 rfl Try.underlying55 info72 rfl (by decide) (by omega) u5 x5_1 (⟨a1_1, a1_2, a1_3⟩ : S72) [.string a1_1, .string a1_2, .string a1_3] (fun _ => True) (fun _ => False) rfl rfl ?aP (fun _ hk => hk.elim) ?aF ?aO ?aB ?aS ?aL ?_; (case aP => exact k72_mkM _ _ _ (⟨a1_1, a1_2, a1_3⟩ : S72)); (case aB => exact (bG_ GE2.out)); (case aF => exact (fun _ _ => trivial)); (case aO => exact (vR_ HO_5.out)); (case aS => exact (below_size (bG_ GE2.out))); (case aL => have := LMc46.out; omega); intro v78 w48 ho hb hg hat; rw [← Ny66.out] at ho; replace HB := A_ (hb); have HO70 := A_ (ho); clear HO_5; clear ho hb hg hat))
       go_ret
       exact ⟨_, rr_, vR_ HO70.out, bG_ GE2.out⟩
   rw [if_pos c7] at H
   have c7b0 := decide_eq_true c7
   clear c7
   have HC8 := A_ H
   clear H
   go_upto_region 6 with (fail)
   go_cut [28] (fun v28 wc => ∃ (kq : Nat) (x28_7 : Bool), v28 = .bool x28_7 /\ Aside0 (spec_l12One.j1 kq l0 x5_1 x6_1 x7_1 x28_7 a1_0 a1_1 a1_2 a1_3 = some r) /\ Aside0 (kq <= k1) /\ Aside0 (Kd.R k72 72 wc w.heap.size (fun _ => True) u5 x5_1) /\ Aside0 (wc.heap[gb2]? = some (.cells #[.bool a1_0, .string a1_1, .string a1_2, .string a1_3] 74 (0, 0))) /\ Aside0 (Below w.heap.size w wc))
   case first =>
    have H := HC8.out
    clear HC8
    by_cases c9 : x6_1 = true
    . subst c9
      rw [if_pos rfl] at H
      have H' := A_ H
      clear H
      try go_wp2
      replace HO_5 := A_ (Kd.R_drew HO_5.out)
      replace BK2 := A_ (blk_drew BK2.out)
      replace HB := A_ (below_drew1 HB.out)
      refine start_ (n := 12) (S := fun w' => True) (ds := []) #[false, false, false, false, false, false, false, false, false, false, false, false] (by kernel_rfl) rfl rfl trivial (fun hHeld => ?_); refine with_tabW spec_l12One.tab6 spec_l12One.bits6 (fun HT_ HW_ => ?_)
      generalize wr.drew = w10 at HO_5 BK2 HB hHeld ⊢
      refine pu_ (i := 0) (N := some 17) ?_
      refine pu_ (i := 1) (N := some 18) ?_
      refine pu_ (i := 2) (N := some 19) ?_
      refine pn_ (i := 3) (N := some 20) ?_
      refine pn_ (i := 4) (N := some 21) ?_
      refine pn_ (i := 5) (N := some 22) ?_
      refine pn_ (i := 6) (N := some 23) ?_
      refine pn_ (i := 7) (N := some 24) ?_
      refine pn_ (i := 8) (N := some 25) ?_
      refine pn_ (i := 9) (N := some 26) ?_
      refine pn_ (i := 10) (N := some 27) ?_
      refine pu_ (i := 11) (N := some 28) ?_
      refine done_ (done_of HT_.out (by kernel_rfl)) ?_
      (try clear hHeld)
      try go_wp2
      go_meet
      case rel => exact ⟨_, (false), rs_, H', ⟨by have := HK1.out; first | omega | exact Nat.le_refl _⟩, ⟨vR_ HO_5.out⟩, ⟨vb_ BK2.out⟩, ⟨bG_ GE2.out⟩⟩
    . replace c9 := Bool.eq_false_iff.mpr c9
      subst c9
      rw [if_neg nf_] at H
      by_cases c11 : 0 <= x7_1
      rotate_left
      . exact absurd H (by rw [if_neg c11]; simp)
      rw [if_pos c11] at H
      have c11b0 := decide_eq_true c11
      clear c11
      (first | rw [c11b0] | (simp only [i64_w, i32_w]; rw [c11b0]) | skip)
      obtain ⟨t68, A12, H⟩ := bo_ H
      (try dsimp only at H)
      have H' := A_ H
      clear H
      try go_wp2
      replace HO_5 := A_ (Kd.R_drew HO_5.out)
      replace BK2 := A_ (blk_drew BK2.out)
      replace HB := A_ (below_drew1 HB.out)
      have p53 : 0 <= (x7_1 : Int) := od_
      have q53 : x7_1 < (l0.length : Int) := od_
      obtain ⟨ad53, e53, hx53_0, hx53_1, hx53_2⟩ := at_T72 HR0.out x7_1 p53 q53
      have hw53_2 := hx53_2
      have hw53_1 := hx53_1
      have hw53_0 := hx53_0
      cases e53
      replace hx53_0 := bc_ HB.out hx53_0
      replace hx53_1 := bc_ HB.out hx53_1
      replace hx53_2 := bc_ HB.out hx53_2
      replace p53 := eq_true p53
      replace q53 := eq_true q53
      refine st7_ (n := 12) (ds := []) (bl_ BK2.out 0) (bl_ BK2.out 1) (bl_ BK2.out 2) (bl_ BK2.out 3) (be_ hw53_0) (be_ hw53_1) (be_ hw53_2) (fun hHeld => ?_); refine with_tabW spec_l12One.tab6 spec_l12One.bits6 (fun HT_ HW_ => ?_)
      generalize wr.drew = w13 at HO_5 BK2 HB hx53_0 hx53_1 hx53_2 hHeld ⊢
      refine pu_ (i := 0) (N := some 17) ?_
      refine pu_ (i := 1) (N := some 18) ?_
      refine pu_ (i := 2) (N := some 19) ?_
      refine pu_ (i := 3) (N := some 20) ?_
      refine pu_ (i := 4) (N := some 21) ?_
      refine pu_ (i := 5) (N := some 22) ?_
      refine pu_ (i := 7) (N := some 24) ?_
      refine tk_ (i := 6) (N := some 23) hHeld ?_
      refine tk_ (i := 8) (N := some 25) hHeld ?_
      refine on_ (i := 9) (N := some 26) (fun K hK => ?_)
      refine goes_ Try.func127 (by kernel_rfl) rfl #[.agg #[.string ((rd_T72 l0 x7_1).f0), .string ((rd_T72 l0 x7_1).f1), .string ((rd_T72 l0 x7_1).f2)], .agg #[.string a1_1, .string a1_2, .string a1_3]] (by rfl) rfl rfl ml_ ?_
      with_reducible refine (spec_l10LessProp.calls ((rd_T72 l0 x7_1).f0) ((rd_T72 l0 x7_1).f1) ((rd_T72 l0 x7_1).f2) a1_1 a1_2 a1_3 t68 _ A12.out).mono ?_
      rintro e w14 ⟨rfl, hb⟩
      refine ⟨_, rfl, ?_⟩
      replace HO_5 := A_ (Kd.R_below (vR_ HO_5.out) hb)
      replace BK2 := A_ (bw_ BK2.out hb)
      replace HB := A_ (below_step (bG_ GE2.out) hb)
      clear hb
      refine hK.out _ _ ⟨bl_ BK2.out 0, bl_ BK2.out 1, bl_ BK2.out 2, bl_ BK2.out 3, (be_ hw53_0), (be_ hw53_1), (be_ hw53_2)⟩ (fun hHeld => ?_)
      clear hK K
      refine no_ (some 26) ?_
      refine pu_ (i := 10) (N := some 27) ?_
      refine pu_ (i := 11) (N := some 28) ?_
      refine done_ (done_of HT_.out (by kernel_rfl)) ?_
      (try clear hHeld)
      try go_wp2
      go_meet
      case rel => exact ⟨_, (!t68), rs_, H', ⟨by have := HK1.out; first | omega | exact Nat.le_refl _⟩, ⟨vR_ HO_5.out⟩, ⟨vb_ BK2.out⟩, ⟨bG_ GE2.out⟩⟩
   case rest =>
    clear HC8
    try clear c7
    try clear c7b0
    try clear hcz6_0
    try clear hcz6_1
    try clear hcz6_2
    try clear hcz6_3
    try clear hfz6_0
    try clear hfz6_1
    try clear hfz6_2
    try clear hfz6_3
    obtain ⟨kq, x28_7, rfl, HA, HJ7, HO_5, BK2, HB⟩ := hcut
    cases kq with
    | zero => exact absurd HA.out (by simp [spec_l12One.j1])
    | succ kj7 =>
     have H := HA.out
     clear HA
     simp only [spec_l12One.j1] at H
     by_cases c15 : x28_7 = true
     . subst c15
       rw [if_pos rfl] at H
       by_cases c16 : x5_1.length < 2932031007402
       rotate_left
       . exact absurd H (by rw [if_neg c16]; simp)
       rw [if_pos c16] at H
       have LMc16 := A_ c16
       clear c16
       obtain ⟨y54, hy54⟩ : ∃ y_ : List (S72), y_ = (x5_1 ++ [(⟨a1_1, a1_2, a1_3⟩ : S72)]) := ⟨_, rfl⟩
       replace H : (if 0 <= x7_1 then (if x7_1 < (l0.length : Int) then (if ((rd_T72 l0 x7_1).f0).toList = a1_1.toList then (if ((rd_T72 l0 x7_1).f1).toList = a1_2.toList then (spec_l12One.l0 kj7 l0 y54 true (wrap64 (x7_1 + 1)) a1_0 a1_1 a1_2 a1_3) else (if y54.length < 2932031007402 then (spec_l12One.l0 kj7 l0 (y54 ++ [(⟨(rd_T72 l0 x7_1).f0, (rd_T72 l0 x7_1).f1, (rd_T72 l0 x7_1).f2⟩ : S72)]) true (wrap64 (x7_1 + 1)) a1_0 a1_1 a1_2 a1_3) else (none))) else (if y54.length < 2932031007402 then (spec_l12One.l0 kj7 l0 (y54 ++ [(⟨(rd_T72 l0 x7_1).f0, (rd_T72 l0 x7_1).f1, (rd_T72 l0 x7_1).f2⟩ : S72)]) true (wrap64 (x7_1 + 1)) a1_0 a1_1 a1_2 a1_3) else (none))) else (none)) else (none)) = some r := hy_ hy54 H
       have Ny54 := A_ hy54
       clear hy54
       by_cases c17 : 0 <= x7_1
       rotate_left
       . exact absurd H (by rw [if_neg c17]; simp)
       rw [if_pos c17] at H
       have c17b0 := decide_eq_true c17
       clear c17
       by_cases c18 : x7_1 < (l0.length : Int)
       rotate_left
       . exact absurd H (by rw [if_neg c18]; simp)
       rw [if_pos c18] at H
       have c18b0 := decide_eq_true c18
       clear c18
       by_cases c19 : ((rd_T72 l0 x7_1).f0).toList = a1_1.toList
       rotate_left
       . rw [if_neg c19] at H
         obtain ⟨c19b0, c19b1⟩ := eF_ c19
         by_cases c29 : y54.length < 2932031007402
         rotate_left
         . exact absurd H (by rw [if_neg c29]; simp)
         rw [if_pos c29] at H
         have LMc29 := A_ c29
         clear c29
         obtain ⟨y61, hy61⟩ : ∃ y_ : List (S72), y_ = (y54 ++ [(⟨(rd_T72 l0 x7_1).f0, (rd_T72 l0 x7_1).f1, (rd_T72 l0 x7_1).f2⟩ : S72)]) := ⟨_, rfl⟩
         replace H : (spec_l12One.l0 kj7 l0 y61 true (wrap64 (x7_1 + 1)) a1_0 a1_1 a1_2 a1_3) = some r := hy_ hy61 H
         have Ny61 := A_ hy61
         clear hy61
         have H' := A_ H
         clear H
         have hcz30_0 : wc.cell? ⟨gb2, 0, none⟩ = some (.bool a1_0) := bl_ BK2.out 0
         have hcz30_1 : wc.cell? ⟨gb2, 1, none⟩ = some (.string a1_1) := bl_ BK2.out 1
         have hcz30_2 : wc.cell? ⟨gb2, 2, none⟩ = some (.string a1_2) := bl_ BK2.out 2
         have hcz30_3 : wc.cell? ⟨gb2, 3, none⟩ = some (.string a1_3) := bl_ BK2.out 3
         have hfz30_0 := blk_frozen BK2.out 0
         have hfz30_1 := blk_frozen BK2.out 1
         have hfz30_2 := blk_frozen BK2.out 2
         have hfz30_3 := blk_frozen BK2.out 3
         try go_wp2_with (first | ((with_reducible refine gate_builtin (b := .append) (xs := #[.tmp 29, .tmp 32]) rfl ?_); at_builtin; refine Kd.R_append k72 (w0 := w) w.heap.size rfl (.tmp 29) (.tmp 32) 55 72 (.agg #[(.string ⟨#[]⟩), (.string ⟨#[]⟩), (.string ⟨#[]⟩)]) 48 rfl Try.underlying55 info72 rfl (by decide) (by omega) u5 x5_1 (⟨a1_1, a1_2, a1_3⟩ : S72) [.string a1_1, .string a1_2, .string a1_3] (fun _ => True) (fun _ => False) rfl rfl ?aP (fun _ hk => hk.elim) ?aF ?aO ?aB ?aS ?aL ?_; (case aP => exact k72_mkM _ _ _ (⟨a1_1, a1_2, a1_3⟩ : S72)); (case aB => exact (bG_ GE2.out)); (case aF => exact (fun _ _ => trivial)); (case aO => exact (vR_ HO_5.out)); (case aS => exact (below_size (bG_ GE2.out))); (case aL => have := LMc16.out; omega); intro v67 w31 ho hb hg hat; rw [← Ny54.out] at ho; replace BK2 := A_ (blk_grown (g := gb2) (o := .cells #[.bool a1_0, .string a1_1, .string a1_2, .string a1_3] 74 (0, 0)) (vb_ BK2.out) hg (Kd.R_ne HO_5.out BK2.out (by decide))); replace HB := A_ (hb); have HO59 := A_ (ho); clear HO_5; clear ho hb hg hat))
         replace HO59 := A_ (Kd.R_drew HO59.out)
         replace BK2 := A_ (blk_drew BK2.out)
         replace HB := A_ (below_drew1 HB.out)
         have p49 : 0 <= (x7_1 : Int) := od_
         have q49 : x7_1 < (l0.length : Int) := od_
         obtain ⟨ad49, e49, hx49_0, hx49_1, hx49_2⟩ := at_T72 HR0.out x7_1 p49 q49
         have hw49_2 := hx49_2
         have hw49_1 := hx49_1
         have hw49_0 := hx49_0
         cases e49
         replace hx49_0 := bc_ HB.out hx49_0
         replace hx49_1 := bc_ HB.out hx49_1
         replace hx49_2 := bc_ HB.out hx49_2
         replace p49 := eq_true p49
         replace q49 := eq_true q49
         refine st7_ (n := 20) (ds := []) (bl_ BK2.out 0) (bl_ BK2.out 1) (bl_ BK2.out 2) (bl_ BK2.out 3) (be_ hw49_0) (be_ hw49_1) (be_ hw49_2) (fun hHeld => ?_); refine with_tabW spec_l12One.tab9 spec_l12One.bits9 (fun HT_ HW_ => ?_)
         generalize w31.drew = w32 at HO59 BK2 HB hx49_0 hx49_1 hx49_2 hHeld ⊢
         refine pu_ (i := 0) (N := some 34) ?_
         refine pu_ (i := 1) (N := some 35) ?_
         refine pu_ (i := 2) (N := some 36) ?_
         refine pu_ (i := 3) (N := some 37) ?_
         refine pu_ (i := 5) (N := some 39) ?_
         refine pu_ (i := 6) (N := some 40) ?_
         refine tk_ (i := 4) (N := some 38) hHeld ?_
         refine tk_ (i := 7) (N := some 41) hHeld ?_
         refine pu_ (i := 8) (N := some 42) ?_
         refine pu_ (i := 9) (N := some 43) ?_
         refine pn_ (i := 10) (N := some 44) ?_
         refine pn_ (i := 11) (N := some 45) ?_
         refine pn_ (i := 12) (N := some 46) ?_
         refine pn_ (i := 13) (N := some 47) ?_
         refine pn_ (i := 14) (N := some 48) ?_
         refine pn_ (i := 15) (N := some 49) ?_
         refine pn_ (i := 16) (N := some 50) ?_
         refine pn_ (i := 17) (N := some 51) ?_
         refine pn_ (i := 18) (N := some 52) ?_
         refine pu_ (i := 19) (N := some 53) ?_
         refine done_ (done_of HT_.out (by kernel_rfl)) ?_
         (try clear hHeld)
         have p55 : 0 <= (x7_1 : Int) := od_
         have q55 : x7_1 < (l0.length : Int) := od_
         obtain ⟨ad55, e55, hx55_0, hx55_1, hx55_2⟩ := at_T72 HR0.out x7_1 p55 q55
         obtain rfl : ad49 = ad55 := (by injection e55)
         replace hx55_0 := bc_ HB.out hx55_0
         replace hx55_1 := bc_ HB.out hx55_1
         replace hx55_2 := bc_ HB.out hx55_2
         replace p55 := eq_true p55
         replace q55 := eq_true q55
         try go_wp2_with (first | ((with_reducible refine gate_builtin (b := .append) (xs := #[.tmp 54, .tmp 59]) rfl ?_); at_builtin; refine Kd.R_append k72 (w0 := w) w.heap.size rfl (.tmp 54) (.tmp 59) 55 72 (.agg #[(.string ⟨#[]⟩), (.string ⟨#[]⟩), (.string ⟨#[]⟩)]) 48 rfl Try.underlying55 info72 rfl (by decide) (by omega) v67 y54 (⟨(rd_T72 l0 x7_1).f0, (rd_T72 l0 x7_1).f1, (rd_T72 l0 x7_1).f2⟩ : S72) [.string ((rd_T72 l0 x7_1).f0), .string ((rd_T72 l0 x7_1).f1), .string ((rd_T72 l0 x7_1).f2)] (fun _ => True) (fun _ => False) rfl rfl ?aP (fun _ hk => hk.elim) ?aF ?aO ?aB ?aS ?aL ?_; (case aP => exact k72_mkM _ _ _ (⟨(rd_T72 l0 x7_1).f0, (rd_T72 l0 x7_1).f1, (rd_T72 l0 x7_1).f2⟩ : S72)); (case aB => exact (bG_ GE2.out)); (case aF => exact (fun _ _ => trivial)); (case aO => exact (vR_ HO59.out)); (case aS => exact (below_size (bG_ GE2.out))); (case aL => have := LMc29.out; omega); intro v79 w33 ho hb hg hat; rw [← Ny61.out] at ho; replace BK2 := A_ (blk_grown (g := gb2) (o := .cells #[.bool a1_0, .string a1_1, .string a1_2, .string a1_3] 74 (0, 0)) (vb_ BK2.out) hg (Kd.R_ne HO59.out BK2.out (by decide))); replace HB := A_ (hb); have HO71 := A_ (ho); clear HO59; clear ho hb hg hat))
         go_roundg kj7
         case measure => have := HK1.out; have := HJ7.out; omega
         case rel => exact ⟨(y61), (true), (wrap64 (x7_1 + 1)), rs_, rs_, H', ⟨by have := HK1.out; have := HJ7.out; omega⟩, ⟨vR_ HO71.out⟩, ⟨vb_ BK2.out⟩, ⟨bG_ GE2.out⟩⟩
       rw [if_pos c19] at H
       obtain ⟨c19b0, c19b1⟩ := eT_ c19
       clear c19
       by_cases c20 : ((rd_T72 l0 x7_1).f1).toList = a1_2.toList
       . rw [if_pos c20] at H
         obtain ⟨c20b0, c20b1⟩ := eT_ c20
         clear c20
         have H' := A_ H
         clear H
         have hcz21_0 : wc.cell? ⟨gb2, 0, none⟩ = some (.bool a1_0) := bl_ BK2.out 0
         have hcz21_1 : wc.cell? ⟨gb2, 1, none⟩ = some (.string a1_1) := bl_ BK2.out 1
         have hcz21_2 : wc.cell? ⟨gb2, 2, none⟩ = some (.string a1_2) := bl_ BK2.out 2
         have hcz21_3 : wc.cell? ⟨gb2, 3, none⟩ = some (.string a1_3) := bl_ BK2.out 3
         have hfz21_0 := blk_frozen BK2.out 0
         have hfz21_1 := blk_frozen BK2.out 1
         have hfz21_2 := blk_frozen BK2.out 2
         have hfz21_3 := blk_frozen BK2.out 3
         try go_wp2_with (first | ((with_reducible refine gate_builtin (b := .append) (xs := #[.tmp 29, .tmp 32]) rfl ?_); at_builtin; refine Kd.R_append k72 (w0 := w) w.heap.size rfl (.tmp 29) (.tmp 32) 55 72 (.agg #[(.string ⟨#[]⟩), (.string ⟨#[]⟩), (.string ⟨#[]⟩)]) 48 rfl Try.underlying55 info72 rfl (by decide) (by omega) u5 x5_1 (⟨a1_1, a1_2, a1_3⟩ : S72) [.string a1_1, .string a1_2, .string a1_3] (fun _ => True) (fun _ => False) rfl rfl ?aP (fun _ hk => hk.elim) ?aF ?aO ?aB ?aS ?aL ?_; (case aP => exact k72_mkM _ _ _ (⟨a1_1, a1_2, a1_3⟩ : S72)); (case aB => exact (bG_ GE2.out)); (case aF => exact (fun _ _ => trivial)); (case aO => exact (vR_ HO_5.out)); (case aS => exact (below_size (bG_ GE2.out))); (case aL => have := LMc16.out; omega); intro v67 w22 ho hb hg hat; rw [← Ny54.out] at ho; replace BK2 := A_ (blk_grown (g := gb2) (o := .cells #[.bool a1_0, .string a1_1, .string a1_2, .string a1_3] 74 (0, 0)) (vb_ BK2.out) hg (Kd.R_ne HO_5.out BK2.out (by decide))); replace HB := A_ (hb); have HO59 := A_ (ho); clear HO_5; clear ho hb hg hat))
         replace HO59 := A_ (Kd.R_drew HO59.out)
         replace BK2 := A_ (blk_drew BK2.out)
         replace HB := A_ (below_drew1 HB.out)
         have p49 : 0 <= (x7_1 : Int) := od_
         have q49 : x7_1 < (l0.length : Int) := od_
         obtain ⟨ad49, e49, hx49_0, hx49_1, hx49_2⟩ := at_T72 HR0.out x7_1 p49 q49
         have hw49_2 := hx49_2
         have hw49_1 := hx49_1
         have hw49_0 := hx49_0
         cases e49
         replace hx49_0 := bc_ HB.out hx49_0
         replace hx49_1 := bc_ HB.out hx49_1
         replace hx49_2 := bc_ HB.out hx49_2
         replace p49 := eq_true p49
         replace q49 := eq_true q49
         have p51 : 0 <= (x7_1 : Int) := od_
         have q51 : x7_1 < (l0.length : Int) := od_
         obtain ⟨ad51, e51, hx51_0, hx51_1, hx51_2⟩ := at_T72 HR0.out x7_1 p51 q51
         have hw51_2 := hx51_2
         have hw51_1 := hx51_1
         have hw51_0 := hx51_0
         obtain rfl : ad49 = ad51 := (by injection e51)
         replace hx51_0 := bc_ HB.out hx51_0
         replace hx51_1 := bc_ HB.out hx51_1
         replace hx51_2 := bc_ HB.out hx51_2
         replace p51 := eq_true p51
         replace q51 := eq_true q51
         refine st10_ (n := 20) (ds := []) (bl_ BK2.out 0) (bl_ BK2.out 1) (bl_ BK2.out 2) (bl_ BK2.out 3) (be_ hw49_0) (be_ hw49_1) (be_ hw49_2) (be_ hw51_0) (be_ hw51_1) (be_ hw51_2) (fun hHeld => ?_); refine with_tabW spec_l12One.tab9 spec_l12One.bits9 (fun HT_ HW_ => ?_)
         generalize w22.drew = w23 at HO59 BK2 HB hx49_0 hx49_1 hx49_2 hx51_0 hx51_1 hx51_2 hHeld ⊢
         refine pu_ (i := 0) (N := some 34) ?_
         refine pu_ (i := 1) (N := some 35) ?_
         refine pu_ (i := 2) (N := some 36) ?_
         refine pu_ (i := 3) (N := some 37) ?_
         refine pu_ (i := 5) (N := some 39) ?_
         refine pu_ (i := 6) (N := some 40) ?_
         refine tk_ (i := 4) (N := some 38) hHeld ?_
         refine tk_ (i := 7) (N := some 41) hHeld ?_
         refine pu_ (i := 8) (N := some 42) ?_
         refine pu_ (i := 9) (N := some 43) ?_
         refine pu_ (i := 10) (N := some 44) ?_
         refine pu_ (i := 11) (N := some 45) ?_
         refine pu_ (i := 12) (N := some 46) ?_
         refine pu_ (i := 13) (N := some 47) ?_
         refine pu_ (i := 15) (N := some 49) ?_
         refine pu_ (i := 16) (N := some 50) ?_
         refine tk_ (i := 14) (N := some 48) hHeld ?_
         refine tk_ (i := 17) (N := some 51) hHeld ?_
         refine pu_ (i := 18) (N := some 52) ?_
         refine pu_ (i := 19) (N := some 53) ?_
         refine done_ (done_of HT_.out (by kernel_rfl)) ?_
         (try clear hHeld)
         try go_wp2
         go_roundg kj7
         case measure => have := HK1.out; have := HJ7.out; omega
         case rel => exact ⟨(y54), (true), (wrap64 (x7_1 + 1)), rs_, rs_, H', ⟨by have := HK1.out; have := HJ7.out; omega⟩, ⟨vR_ HO59.out⟩, ⟨vb_ BK2.out⟩, ⟨bG_ GE2.out⟩⟩
       rw [if_neg c20] at H
       obtain ⟨c20b0, c20b1⟩ := eF_ c20
       by_cases c24 : y54.length < 2932031007402
       rotate_left
       . exact absurd H (by rw [if_neg c24]; simp)
       rw [if_pos c24] at H
       have LMc24 := A_ c24
       clear c24
       obtain ⟨y62, hy62⟩ : ∃ y_ : List (S72), y_ = (y54 ++ [(⟨(rd_T72 l0 x7_1).f0, (rd_T72 l0 x7_1).f1, (rd_T72 l0 x7_1).f2⟩ : S72)]) := ⟨_, rfl⟩
       replace H : (spec_l12One.l0 kj7 l0 y62 true (wrap64 (x7_1 + 1)) a1_0 a1_1 a1_2 a1_3) = some r := hy_ hy62 H
       have Ny62 := A_ hy62
       clear hy62
       have H' := A_ H
       clear H
       have hcz25_0 : wc.cell? ⟨gb2, 0, none⟩ = some (.bool a1_0) := bl_ BK2.out 0
       have hcz25_1 : wc.cell? ⟨gb2, 1, none⟩ = some (.string a1_1) := bl_ BK2.out 1
       have hcz25_2 : wc.cell? ⟨gb2, 2, none⟩ = some (.string a1_2) := bl_ BK2.out 2
       have hcz25_3 : wc.cell? ⟨gb2, 3, none⟩ = some (.string a1_3) := bl_ BK2.out 3
       have hfz25_0 := blk_frozen BK2.out 0
       have hfz25_1 := blk_frozen BK2.out 1
       have hfz25_2 := blk_frozen BK2.out 2
       have hfz25_3 := blk_frozen BK2.out 3
       try go_wp2_with (first | ((with_reducible refine gate_builtin (b := .append) (xs := #[.tmp 29, .tmp 32]) rfl ?_); at_builtin; refine Kd.R_append k72 (w0 := w) w.heap.size rfl (.tmp 29) (.tmp 32) 55 72 (.agg #[(.string ⟨#[]⟩), (.string ⟨#[]⟩), (.string ⟨#[]⟩)]) 48 rfl Try.underlying55 info72 rfl (by decide) (by omega) u5 x5_1 (⟨a1_1, a1_2, a1_3⟩ : S72) [.string a1_1, .string a1_2, .string a1_3] (fun _ => True) (fun _ => False) rfl rfl ?aP (fun _ hk => hk.elim) ?aF ?aO ?aB ?aS ?aL ?_; (case aP => exact k72_mkM _ _ _ (⟨a1_1, a1_2, a1_3⟩ : S72)); (case aB => exact (bG_ GE2.out)); (case aF => exact (fun _ _ => trivial)); (case aO => exact (vR_ HO_5.out)); (case aS => exact (below_size (bG_ GE2.out))); (case aL => have := LMc16.out; omega); intro v67 w26 ho hb hg hat; rw [← Ny54.out] at ho; replace BK2 := A_ (blk_grown (g := gb2) (o := .cells #[.bool a1_0, .string a1_1, .string a1_2, .string a1_3] 74 (0, 0)) (vb_ BK2.out) hg (Kd.R_ne HO_5.out BK2.out (by decide))); replace HB := A_ (hb); have HO59 := A_ (ho); clear HO_5; clear ho hb hg hat))
       replace HO59 := A_ (Kd.R_drew HO59.out)
       replace BK2 := A_ (blk_drew BK2.out)
       replace HB := A_ (below_drew1 HB.out)
       have p49 : 0 <= (x7_1 : Int) := od_
       have q49 : x7_1 < (l0.length : Int) := od_
       obtain ⟨ad49, e49, hx49_0, hx49_1, hx49_2⟩ := at_T72 HR0.out x7_1 p49 q49
       have hw49_2 := hx49_2
       have hw49_1 := hx49_1
       have hw49_0 := hx49_0
       cases e49
       replace hx49_0 := bc_ HB.out hx49_0
       replace hx49_1 := bc_ HB.out hx49_1
       replace hx49_2 := bc_ HB.out hx49_2
       replace p49 := eq_true p49
       replace q49 := eq_true q49
       have p51 : 0 <= (x7_1 : Int) := od_
       have q51 : x7_1 < (l0.length : Int) := od_
       obtain ⟨ad51, e51, hx51_0, hx51_1, hx51_2⟩ := at_T72 HR0.out x7_1 p51 q51
       have hw51_2 := hx51_2
       have hw51_1 := hx51_1
       have hw51_0 := hx51_0
       obtain rfl : ad49 = ad51 := (by injection e51)
       replace hx51_0 := bc_ HB.out hx51_0
       replace hx51_1 := bc_ HB.out hx51_1
       replace hx51_2 := bc_ HB.out hx51_2
       replace p51 := eq_true p51
       replace q51 := eq_true q51
       refine st10_ (n := 20) (ds := []) (bl_ BK2.out 0) (bl_ BK2.out 1) (bl_ BK2.out 2) (bl_ BK2.out 3) (be_ hw49_0) (be_ hw49_1) (be_ hw49_2) (be_ hw51_0) (be_ hw51_1) (be_ hw51_2) (fun hHeld => ?_); refine with_tabW spec_l12One.tab9 spec_l12One.bits9 (fun HT_ HW_ => ?_)
       generalize w26.drew = w27 at HO59 BK2 HB hx49_0 hx49_1 hx49_2 hx51_0 hx51_1 hx51_2 hHeld ⊢
       refine pu_ (i := 0) (N := some 34) ?_
       refine pu_ (i := 1) (N := some 35) ?_
       refine pu_ (i := 2) (N := some 36) ?_
       refine pu_ (i := 3) (N := some 37) ?_
       refine pu_ (i := 5) (N := some 39) ?_
       refine pu_ (i := 6) (N := some 40) ?_
       refine tk_ (i := 4) (N := some 38) hHeld ?_
       refine tk_ (i := 7) (N := some 41) hHeld ?_
       refine pu_ (i := 8) (N := some 42) ?_
       refine pu_ (i := 9) (N := some 43) ?_
       refine pu_ (i := 10) (N := some 44) ?_
       refine pu_ (i := 11) (N := some 45) ?_
       refine pu_ (i := 12) (N := some 46) ?_
       refine pu_ (i := 13) (N := some 47) ?_
       refine pu_ (i := 15) (N := some 49) ?_
       refine pu_ (i := 16) (N := some 50) ?_
       refine tk_ (i := 14) (N := some 48) hHeld ?_
       refine tk_ (i := 17) (N := some 51) hHeld ?_
       refine pu_ (i := 18) (N := some 52) ?_
       refine pu_ (i := 19) (N := some 53) ?_
       refine done_ (done_of HT_.out (by kernel_rfl)) ?_
       (try clear hHeld)
       have p56 : 0 <= (x7_1 : Int) := od_
       have q56 : x7_1 < (l0.length : Int) := od_
       obtain ⟨ad56, e56, hx56_0, hx56_1, hx56_2⟩ := at_T72 HR0.out x7_1 p56 q56
       obtain rfl : ad49 = ad56 := (by injection e56)
       replace hx56_0 := bc_ HB.out hx56_0
       replace hx56_1 := bc_ HB.out hx56_1
       replace hx56_2 := bc_ HB.out hx56_2
       replace p56 := eq_true p56
       replace q56 := eq_true q56
       try go_wp2_with (first | ((with_reducible refine gate_builtin (b := .append) (xs := #[.tmp 54, .tmp 59]) rfl ?_); at_builtin; refine Kd.R_append k72 (w0 := w) w.heap.size rfl (.tmp 54) (.tmp 59) 55 72 (.agg #[(.string ⟨#[]⟩), (.string ⟨#[]⟩), (.string ⟨#[]⟩)]) 48 rfl Try.underlying55 info72 rfl (by decide) (by omega) v67 y54 (⟨(rd_T72 l0 x7_1).f0, (rd_T72 l0 x7_1).f1, (rd_T72 l0 x7_1).f2⟩ : S72) [.string ((rd_T72 l0 x7_1).f0), .string ((rd_T72 l0 x7_1).f1), .string ((rd_T72 l0 x7_1).f2)] (fun _ => True) (fun _ => False) rfl rfl ?aP (fun _ hk => hk.elim) ?aF ?aO ?aB ?aS ?aL ?_; (case aP => exact k72_mkM _ _ _ (⟨(rd_T72 l0 x7_1).f0, (rd_T72 l0 x7_1).f1, (rd_T72 l0 x7_1).f2⟩ : S72)); (case aB => exact (bG_ GE2.out)); (case aF => exact (fun _ _ => trivial)); (case aO => exact (vR_ HO59.out)); (case aS => exact (below_size (bG_ GE2.out))); (case aL => have := LMc24.out; omega); intro v80 w28 ho hb hg hat; rw [← Ny62.out] at ho; replace BK2 := A_ (blk_grown (g := gb2) (o := .cells #[.bool a1_0, .string a1_1, .string a1_2, .string a1_3] 74 (0, 0)) (vb_ BK2.out) hg (Kd.R_ne HO59.out BK2.out (by decide))); replace HB := A_ (hb); have HO73 := A_ (ho); clear HO59; clear ho hb hg hat))
       go_roundg kj7
       case measure => have := HK1.out; have := HJ7.out; omega
       case rel => exact ⟨(y62), (true), (wrap64 (x7_1 + 1)), rs_, rs_, H', ⟨by have := HK1.out; have := HJ7.out; omega⟩, ⟨vR_ HO73.out⟩, ⟨vb_ BK2.out⟩, ⟨bG_ GE2.out⟩⟩
     . replace c15 := Bool.eq_false_iff.mpr c15
       subst c15
       rw [if_neg nf_] at H
       by_cases c34 : 0 <= x7_1
       rotate_left
       . exact absurd H (by rw [if_neg c34]; simp)
       rw [if_pos c34] at H
       have c34b0 := decide_eq_true c34
       clear c34
       by_cases c35 : x7_1 < (l0.length : Int)
       rotate_left
       . exact absurd H (by rw [if_neg c35]; simp)
       rw [if_pos c35] at H
       have c35b0 := decide_eq_true c35
       clear c35
       by_cases c36 : ((rd_T72 l0 x7_1).f0).toList = a1_1.toList
       rotate_left
       . rw [if_neg c36] at H
         obtain ⟨c36b0, c36b1⟩ := eF_ c36
         by_cases c42 : x5_1.length < 2932031007402
         rotate_left
         . exact absurd H (by rw [if_neg c42]; simp)
         rw [if_pos c42] at H
         have LMc42 := A_ c42
         clear c42
         obtain ⟨y63, hy63⟩ : ∃ y_ : List (S72), y_ = (x5_1 ++ [(⟨(rd_T72 l0 x7_1).f0, (rd_T72 l0 x7_1).f1, (rd_T72 l0 x7_1).f2⟩ : S72)]) := ⟨_, rfl⟩
         replace H : (spec_l12One.l0 kj7 l0 y63 x6_1 (wrap64 (x7_1 + 1)) a1_0 a1_1 a1_2 a1_3) = some r := hy_ hy63 H
         have Ny63 := A_ hy63
         clear hy63
         have H' := A_ H
         clear H
         try go_wp2
         replace HO_5 := A_ (Kd.R_drew HO_5.out)
         replace BK2 := A_ (blk_drew BK2.out)
         replace HB := A_ (below_drew1 HB.out)
         have p50 : 0 <= (x7_1 : Int) := od_
         have q50 : x7_1 < (l0.length : Int) := od_
         obtain ⟨ad50, e50, hx50_0, hx50_1, hx50_2⟩ := at_T72 HR0.out x7_1 p50 q50
         have hw50_2 := hx50_2
         have hw50_1 := hx50_1
         have hw50_0 := hx50_0
         cases e50
         replace hx50_0 := bc_ HB.out hx50_0
         replace hx50_1 := bc_ HB.out hx50_1
         replace hx50_2 := bc_ HB.out hx50_2
         replace p50 := eq_true p50
         replace q50 := eq_true q50
         refine st7_ (n := 20) (ds := []) (bl_ BK2.out 0) (bl_ BK2.out 1) (bl_ BK2.out 2) (bl_ BK2.out 3) (be_ hw50_0) (be_ hw50_1) (be_ hw50_2) (fun hHeld => ?_); refine with_tabW spec_l12One.tab9 spec_l12One.bits9 (fun HT_ HW_ => ?_)
         generalize wc.drew = w43 at HO_5 BK2 HB hx50_0 hx50_1 hx50_2 hHeld ⊢
         refine pu_ (i := 0) (N := some 34) ?_
         refine pu_ (i := 1) (N := some 35) ?_
         refine pu_ (i := 2) (N := some 36) ?_
         refine pu_ (i := 3) (N := some 37) ?_
         refine pu_ (i := 5) (N := some 39) ?_
         refine pu_ (i := 6) (N := some 40) ?_
         refine tk_ (i := 4) (N := some 38) hHeld ?_
         refine tk_ (i := 7) (N := some 41) hHeld ?_
         refine pu_ (i := 8) (N := some 42) ?_
         refine pu_ (i := 9) (N := some 43) ?_
         refine pn_ (i := 10) (N := some 44) ?_
         refine pn_ (i := 11) (N := some 45) ?_
         refine pn_ (i := 12) (N := some 46) ?_
         refine pn_ (i := 13) (N := some 47) ?_
         refine pn_ (i := 14) (N := some 48) ?_
         refine pn_ (i := 15) (N := some 49) ?_
         refine pn_ (i := 16) (N := some 50) ?_
         refine pn_ (i := 17) (N := some 51) ?_
         refine pn_ (i := 18) (N := some 52) ?_
         refine pu_ (i := 19) (N := some 53) ?_
         refine done_ (done_of HT_.out (by kernel_rfl)) ?_
         (try clear hHeld)
         have p57 : 0 <= (x7_1 : Int) := od_
         have q57 : x7_1 < (l0.length : Int) := od_
         obtain ⟨ad57, e57, hx57_0, hx57_1, hx57_2⟩ := at_T72 HR0.out x7_1 p57 q57
         obtain rfl : ad50 = ad57 := (by injection e57)
         replace hx57_0 := bc_ HB.out hx57_0
         replace hx57_1 := bc_ HB.out hx57_1
         replace hx57_2 := bc_ HB.out hx57_2
         replace p57 := eq_true p57
         replace q57 := eq_true q57
         try go_wp2_with (first | ((with_reducible refine gate_builtin (b := .append) (xs := #[.tmp 54, .tmp 59]) rfl ?_); at_builtin; refine Kd.R_append k72 (w0 := w) w.heap.size rfl (.tmp 54) (.tmp 59) 55 72 (.agg #[(.string ⟨#[]⟩), (.string ⟨#[]⟩), (.string ⟨#[]⟩)]) 48 rfl Try.underlying55 info72 rfl (by decide) (by omega) u5 x5_1 (⟨(rd_T72 l0 x7_1).f0, (rd_T72 l0 x7_1).f1, (rd_T72 l0 x7_1).f2⟩ : S72) [.string ((rd_T72 l0 x7_1).f0), .string ((rd_T72 l0 x7_1).f1), .string ((rd_T72 l0 x7_1).f2)] (fun _ => True) (fun _ => False) rfl rfl ?aP (fun _ hk => hk.elim) ?aF ?aO ?aB ?aS ?aL ?_; (case aP => exact k72_mkM _ _ _ (⟨(rd_T72 l0 x7_1).f0, (rd_T72 l0 x7_1).f1, (rd_T72 l0 x7_1).f2⟩ : S72)); (case aB => exact (bG_ GE2.out)); (case aF => exact (fun _ _ => trivial)); (case aO => exact (vR_ HO_5.out)); (case aS => exact (below_size (bG_ GE2.out))); (case aL => have := LMc42.out; omega); intro v81 w44 ho hb hg hat; rw [← Ny63.out] at ho; replace BK2 := A_ (blk_grown (g := gb2) (o := .cells #[.bool a1_0, .string a1_1, .string a1_2, .string a1_3] 74 (0, 0)) (vb_ BK2.out) hg (Kd.R_ne HO_5.out BK2.out (by decide))); replace HB := A_ (hb); have HO75 := A_ (ho); clear HO_5; clear ho hb hg hat))
         go_roundg kj7
         case measure => have := HK1.out; have := HJ7.out; omega
         case rel => exact ⟨(y63), (x6_1), (wrap64 (x7_1 + 1)), rs_, rs_, H', ⟨by have := HK1.out; have := HJ7.out; omega⟩, ⟨vR_ HO75.out⟩, ⟨vb_ BK2.out⟩, ⟨bG_ GE2.out⟩⟩
       rw [if_pos c36] at H
       obtain ⟨c36b0, c36b1⟩ := eT_ c36
       clear c36
       by_cases c37 : ((rd_T72 l0 x7_1).f1).toList = a1_2.toList
       . rw [if_pos c37] at H
         obtain ⟨c37b0, c37b1⟩ := eT_ c37
         clear c37
         have H' := A_ H
         clear H
         try go_wp2
         replace HO_5 := A_ (Kd.R_drew HO_5.out)
         replace BK2 := A_ (blk_drew BK2.out)
         replace HB := A_ (below_drew1 HB.out)
         have p50 : 0 <= (x7_1 : Int) := od_
         have q50 : x7_1 < (l0.length : Int) := od_
         obtain ⟨ad50, e50, hx50_0, hx50_1, hx50_2⟩ := at_T72 HR0.out x7_1 p50 q50
         have hw50_2 := hx50_2
         have hw50_1 := hx50_1
         have hw50_0 := hx50_0
         cases e50
         replace hx50_0 := bc_ HB.out hx50_0
         replace hx50_1 := bc_ HB.out hx50_1
         replace hx50_2 := bc_ HB.out hx50_2
         replace p50 := eq_true p50
         replace q50 := eq_true q50
         have p52 : 0 <= (x7_1 : Int) := od_
         have q52 : x7_1 < (l0.length : Int) := od_
         obtain ⟨ad52, e52, hx52_0, hx52_1, hx52_2⟩ := at_T72 HR0.out x7_1 p52 q52
         have hw52_2 := hx52_2
         have hw52_1 := hx52_1
         have hw52_0 := hx52_0
         obtain rfl : ad50 = ad52 := (by injection e52)
         replace hx52_0 := bc_ HB.out hx52_0
         replace hx52_1 := bc_ HB.out hx52_1
         replace hx52_2 := bc_ HB.out hx52_2
         replace p52 := eq_true p52
         replace q52 := eq_true q52
         refine st10_ (n := 20) (ds := []) (bl_ BK2.out 0) (bl_ BK2.out 1) (bl_ BK2.out 2) (bl_ BK2.out 3) (be_ hw50_0) (be_ hw50_1) (be_ hw50_2) (be_ hw52_0) (be_ hw52_1) (be_ hw52_2) (fun hHeld => ?_); refine with_tabW spec_l12One.tab9 spec_l12One.bits9 (fun HT_ HW_ => ?_)
         generalize wc.drew = w38 at HO_5 BK2 HB hx50_0 hx50_1 hx50_2 hx52_0 hx52_1 hx52_2 hHeld ⊢
         refine pu_ (i := 0) (N := some 34) ?_
         refine pu_ (i := 1) (N := some 35) ?_
         refine pu_ (i := 2) (N := some 36) ?_
         refine pu_ (i := 3) (N := some 37) ?_
         refine pu_ (i := 5) (N := some 39) ?_
         refine pu_ (i := 6) (N := some 40) ?_
         refine tk_ (i := 4) (N := some 38) hHeld ?_
         refine tk_ (i := 7) (N := some 41) hHeld ?_
         refine pu_ (i := 8) (N := some 42) ?_
         refine pu_ (i := 9) (N := some 43) ?_
         refine pu_ (i := 10) (N := some 44) ?_
         refine pu_ (i := 11) (N := some 45) ?_
         refine pu_ (i := 12) (N := some 46) ?_
         refine pu_ (i := 13) (N := some 47) ?_
         refine pu_ (i := 15) (N := some 49) ?_
         refine pu_ (i := 16) (N := some 50) ?_
         refine tk_ (i := 14) (N := some 48) hHeld ?_
         refine tk_ (i := 17) (N := some 51) hHeld ?_
         refine pu_ (i := 18) (N := some 52) ?_
         refine pu_ (i := 19) (N := some 53) ?_
         refine done_ (done_of HT_.out (by kernel_rfl)) ?_
         (try clear hHeld)
         try go_wp2
         go_roundg kj7
         case measure => have := HK1.out; have := HJ7.out; omega
         case rel => exact ⟨(x5_1), (x6_1), (wrap64 (x7_1 + 1)), rs_, rs_, H', ⟨by have := HK1.out; have := HJ7.out; omega⟩, ⟨vR_ HO_5.out⟩, ⟨vb_ BK2.out⟩, ⟨bG_ GE2.out⟩⟩
       rw [if_neg c37] at H
       obtain ⟨c37b0, c37b1⟩ := eF_ c37
       by_cases c39 : x5_1.length < 2932031007402
       rotate_left
       . exact absurd H (by rw [if_neg c39]; simp)
       rw [if_pos c39] at H
       have LMc39 := A_ c39
       clear c39
       obtain ⟨y65, hy65⟩ : ∃ y_ : List (S72), y_ = (x5_1 ++ [(⟨(rd_T72 l0 x7_1).f0, (rd_T72 l0 x7_1).f1, (rd_T72 l0 x7_1).f2⟩ : S72)]) := ⟨_, rfl⟩
       replace H : (spec_l12One.l0 kj7 l0 y65 x6_1 (wrap64 (x7_1 + 1)) a1_0 a1_1 a1_2 a1_3) = some r := hy_ hy65 H
       have Ny65 := A_ hy65
       clear hy65
       have H' := A_ H
       clear H
       try go_wp2
       replace HO_5 := A_ (Kd.R_drew HO_5.out)
       replace BK2 := A_ (blk_drew BK2.out)
       replace HB := A_ (below_drew1 HB.out)
       have p50 : 0 <= (x7_1 : Int) := od_
       have q50 : x7_1 < (l0.length : Int) := od_
       obtain ⟨ad50, e50, hx50_0, hx50_1, hx50_2⟩ := at_T72 HR0.out x7_1 p50 q50
       have hw50_2 := hx50_2
       have hw50_1 := hx50_1
       have hw50_0 := hx50_0
       cases e50
       replace hx50_0 := bc_ HB.out hx50_0
       replace hx50_1 := bc_ HB.out hx50_1
       replace hx50_2 := bc_ HB.out hx50_2
       replace p50 := eq_true p50
       replace q50 := eq_true q50
       have p52 : 0 <= (x7_1 : Int) := od_
       have q52 : x7_1 < (l0.length : Int) := od_
       obtain ⟨ad52, e52, hx52_0, hx52_1, hx52_2⟩ := at_T72 HR0.out x7_1 p52 q52
       have hw52_2 := hx52_2
       have hw52_1 := hx52_1
       have hw52_0 := hx52_0
       obtain rfl : ad50 = ad52 := (by injection e52)
       replace hx52_0 := bc_ HB.out hx52_0
       replace hx52_1 := bc_ HB.out hx52_1
       replace hx52_2 := bc_ HB.out hx52_2
       replace p52 := eq_true p52
       replace q52 := eq_true q52
       refine st10_ (n := 20) (ds := []) (bl_ BK2.out 0) (bl_ BK2.out 1) (bl_ BK2.out 2) (bl_ BK2.out 3) (be_ hw50_0) (be_ hw50_1) (be_ hw50_2) (be_ hw52_0) (be_ hw52_1) (be_ hw52_2) (fun hHeld => ?_); refine with_tabW spec_l12One.tab9 spec_l12One.bits9 (fun HT_ HW_ => ?_)
       generalize wc.drew = w40 at HO_5 BK2 HB hx50_0 hx50_1 hx50_2 hx52_0 hx52_1 hx52_2 hHeld ⊢
       refine pu_ (i := 0) (N := some 34) ?_
       refine pu_ (i := 1) (N := some 35) ?_
       refine pu_ (i := 2) (N := some 36) ?_
       refine pu_ (i := 3) (N := some 37) ?_
       refine pu_ (i := 5) (N := some 39) ?_
       refine pu_ (i := 6) (N := some 40) ?_
       refine tk_ (i := 4) (N := some 38) hHeld ?_
       refine tk_ (i := 7) (N := some 41) hHeld ?_
       refine pu_ (i := 8) (N := some 42) ?_
       refine pu_ (i := 9) (N := some 43) ?_
       refine pu_ (i := 10) (N := some 44) ?_
       refine pu_ (i := 11) (N := some 45) ?_
       refine pu_ (i := 12) (N := some 46) ?_
       refine pu_ (i := 13) (N := some 47) ?_
       refine pu_ (i := 15) (N := some 49) ?_
       refine pu_ (i := 16) (N := some 50) ?_
       refine tk_ (i := 14) (N := some 48) hHeld ?_
       refine tk_ (i := 17) (N := some 51) hHeld ?_
       refine pu_ (i := 18) (N := some 52) ?_
       refine pu_ (i := 19) (N := some 53) ?_
       refine done_ (done_of HT_.out (by kernel_rfl)) ?_
       (try clear hHeld)
       have p58 : 0 <= (x7_1 : Int) := od_
       have q58 : x7_1 < (l0.length : Int) := od_
       obtain ⟨ad58, e58, hx58_0, hx58_1, hx58_2⟩ := at_T72 HR0.out x7_1 p58 q58
       obtain rfl : ad50 = ad58 := (by injection e58)
       replace hx58_0 := bc_ HB.out hx58_0
       replace hx58_1 := bc_ HB.out hx58_1
       replace hx58_2 := bc_ HB.out hx58_2
       replace p58 := eq_true p58
       replace q58 := eq_true q58
       try go_wp2_with (first | ((with_reducible refine gate_builtin (b := .append) (xs := #[.tmp 54, .tmp 59]) rfl ?_); at_builtin; refine Kd.R_append k72 (w0 := w) w.heap.size rfl (.tmp 54) (.tmp 59) 55 72 (.agg #[(.string ⟨#[]⟩), (.string ⟨#[]⟩), (.string ⟨#[]⟩)]) 48 rfl Try.underlying55 info72 rfl (by decide) (by omega) u5 x5_1 (⟨(rd_T72 l0 x7_1).f0, (rd_T72 l0 x7_1).f1, (rd_T72 l0 x7_1).f2⟩ : S72) [.string ((rd_T72 l0 x7_1).f0), .string ((rd_T72 l0 x7_1).f1), .string ((rd_T72 l0 x7_1).f2)] (fun _ => True) (fun _ => False) rfl rfl ?aP (fun _ hk => hk.elim) ?aF ?aO ?aB ?aS ?aL ?_; (case aP => exact k72_mkM _ _ _ (⟨(rd_T72 l0 x7_1).f0, (rd_T72 l0 x7_1).f1, (rd_T72 l0 x7_1).f2⟩ : S72)); (case aB => exact (bG_ GE2.out)); (case aF => exact (fun _ _ => trivial)); (case aO => exact (vR_ HO_5.out)); (case aS => exact (below_size (bG_ GE2.out))); (case aL => have := LMc39.out; omega); intro v82 w41 ho hb hg hat; rw [← Ny65.out] at ho; replace BK2 := A_ (blk_grown (g := gb2) (o := .cells #[.bool a1_0, .string a1_1, .string a1_2, .string a1_3] 74 (0, 0)) (vb_ BK2.out) hg (Kd.R_ne HO_5.out BK2.out (by decide))); replace HB := A_ (hb); have HO76 := A_ (ho); clear HO_5; clear ho hb hg hat))
       go_roundg kj7
       case measure => have := HK1.out; have := HJ7.out; omega
       case rel => exact ⟨(y65), (x6_1), (wrap64 (x7_1 + 1)), rs_, rs_, H', ⟨by have := HK1.out; have := HJ7.out; omega⟩, ⟨vR_ HO76.out⟩, ⟨vb_ BK2.out⟩, ⟨bG_ GE2.out⟩⟩
set_option maxHeartbeats 8000000
set_option maxRecDepth 100000
def spec_SetProps.l0 : Nat -> List (S72) -> List (S74) -> List (S72) -> Int -> Option ((List (S72)) × Bool)
 | 0, _, _, _, _ => none
 | k + 1, x0, x1, x6, x7 => if x7 < (x1.length : Int) then (if 0 <= x7 then ((spec_l10Prop.f k ((rd_T74 x1 x7).f1.f0) ((rd_T74 x1 x7).f1.f1) ((rd_T74 x1 x7).f1.f2)).bind fun t736 => (if t736 = true then ((spec_l12One.f k x6 ((rd_T74 x1 x7).f0) ((rd_T74 x1 x7).f1.f0) ((rd_T74 x1 x7).f1.f1) ((rd_T74 x1 x7).f1.f2)).bind fun t738 => (spec_SetProps.l0 k x0 x1 t738 (wrap64 (x7 + 1)))) else ((some (([] : List (S72)) : List (S72))).bind fun y741 => (if y741.length + x0.length < 2932031007402 then (some ((y741 ++ x0), false)) else (none))))) else (none)) else ((spec_PropsOk.f k x6).bind fun t728 => (if t728 = true then (some (x6, true)) else ((some (([] : List (S72)) : List (S72))).bind fun y729 => (if y729.length + x0.length < 2932031007402 then (some ((y729 ++ x0), false)) else (none)))))
def spec_SetProps.f (k : Nat) (l0 : List (S72)) (l1 : List (S74)) : Option ((List (S72)) × Bool) := (some (([] : List (S72)) : List (S72))).bind fun y722 => (if y722.length + l0.length < 2932031007402 then (spec_SetProps.l0 k l0 l1 (y722 ++ l0) 0) else (none))
theorem spec_SetProps.calls (k : Nat) (A0 : Option Addr) (c0 : Nat) (l0 : List (S72)) (A1 : Option Addr) (c1 : Nat) (l1 : List (S74)) (r1 : List (S72)) (r2 : Bool) (w : World) (hr0 : Kd.C k72 w A0 l0.length l0) (hc0 : l0.length <= c0) (hr1 : Kd.C k74 w A1 l1.length l1) (hc1 : l1.length <= c1) (h : spec_SetProps.f k l0 l1 = some (r1, r2)) :
 Calls Try.prog 54 #[.slice A0 l0.length c0, .slice A1 l1.length c1] w fun e w' => ∃ v0_ : Value, e = .returned (.tuple #[v0_, .bool r2]) /\ Kd.R k72 72 w' w.heap.size (fun _ => True) v0_ r1 /\ Below w.heap.size w w' := by
 have hu72 := Try.underlying72
 have hu74 := Try.underlying74
 have HR0 := A_ hr0
 clear hr0 hc0
 have HR1 := A_ hr1
 clear hr1 hc1
 have HB := A_ (Below.refl w.heap.size w)
 have H : ((some (([] : List (S72)) : List (S72))).bind fun y32 => (if y32.length + l0.length < 2932031007402 then (spec_SetProps.l0 k l0 l1 (y32 ++ l0) 0) else (none))) = some (r1, r2) := h
 clear h
 obtain ⟨y32, hy32⟩ : ∃ y_ : List (S72), y_ = (([] : List (S72))) := ⟨_, rfl⟩
 replace H : (if y32.length + l0.length < 2932031007402 then (spec_SetProps.l0 k l0 l1 (y32 ++ l0) 0) else (none)) = some (r1, r2) := hy_ hy32 H
 have Ny32 := A_ hy32
 clear hy32
 by_cases c3 : y32.length + l0.length < 2932031007402
 rotate_left
 . exact absurd H (by rw [if_neg c3]; simp)
 rw [if_pos c3] at H
 have LMc3 := A_ c3
 clear c3
 obtain ⟨y35, hy35⟩ : ∃ y_ : List (S72), y_ = (y32 ++ l0) := ⟨_, rfl⟩
 replace H : (spec_SetProps.l0 k l0 l1 y35 0) = some (r1, r2) := hy_ hy35 H
 have Ny35 := A_ hy35
 clear hy35
 have H' := A_ H
 clear H
 go_enter Try.func54, Try.ntmps54
 go_wp2_with (first | ((with_reducible refine gd_ (N := 8) rfl ?_); refine Kd.R_lit k72 _ 72 ?hg (N := 8) ?hd (xs := ([] : List (S72))) (inner := []) (ok := fun _ => True) (okp := fun _ => True) ?hr ?hp (fun _ hk => hk) trivial (Below.refl _ _) (Nat.le_refl _) (by simp) ?_; (case hd => rfl); (case hg => rfl); (case hr => first | (go_simp; done) | (go_simp; rfl)); (case hp => exact (Reps.none _ _)); intro v42 w4 ho5 hb hg_ hnew_; clear hg_ hnew_; (first | rw [← Ny32.out] at ho5 | (simp only [Int.reduceToNat] at ho5; rw [← Ny32.out] at ho5)); have HO38 := A_ (Kd.R_lower ho5 (below_size bB_)); replace HB := A_ (below_step bB_ hb); clear hb ho5) | ((with_reducible refine gate_builtin (b := .append) (xs := #[.tmp 8, .tmp 9]) rfl ?_); at_builtin; refine Kd.R_append_rows k72 (w0 := w) w.heap.size rfl (.tmp 8) (.tmp 9) 55 72 (.agg #[(.string ⟨#[]⟩), (.string ⟨#[]⟩), (.string ⟨#[]⟩)]) 48 rfl Try.underlying55 info72 rfl (by decide) (by omega) v42 y32 l0 _ _ _ (fun _ => True) (fun _ => False) rfl rfl ?aO ?aR (fun _ _ h => h) (fun _ h => h.elim) ?aF ?aB ?aS ?aL ?_; (case aR => exact cC_ (Kd.C_below HR0.out HB.out)); (case aB => exact bB_); (case aF => exact (fun _ _ => trivial)); (case aO => exact (vR_ HO38.out)); (case aS => exact (below_size bB_)); (case aL => have := LMc3.out; omega); intro v51 w6 ho hb hg hat; rw [← Ny35.out] at ho; replace HB := A_ (hb); have HO43 := A_ (ho); clear HO38; clear ho hb hg hat))
 go_loopg [6, 7] k (fun kq v6 v7 w' => ∃ (x6_1 : List (S72)) (x7_1 : Int), v7 = .int .i64 x7_1 /\ Aside0 (spec_SetProps.l0 kq l0 l1 x6_1 x7_1 = some (r1, r2)) /\ Aside0 (kq <= k) /\ Aside0 (Kd.R k72 72 w' w.heap.size (fun _ => True) v6 x6_1) /\ Aside0 (Below w.heap.size w w'))
 case atStart => exact ⟨(y35), (0), rs_, H', ⟨Nat.le_refl _⟩, ⟨vR_ HO43.out⟩, ⟨bB_⟩⟩
 case round =>
  clear H'
  try clear c3
  obtain ⟨x6_1, x7_1, rfl, HA, HK1, HO_6, HB⟩ := hrel
  cases gk with
  | zero => exact absurd HA.out (by simp [spec_SetProps.l0])
  | succ k1 =>
   have H := HA.out
   clear HA
   simp only [spec_SetProps.l0] at H
   by_cases c7 : x7_1 < (l1.length : Int)
   rotate_left
   . rw [if_neg c7] at H
     have c7b0 := decide_eq_false c7
     clear c7
     obtain ⟨t44, A20, H⟩ := bo_ H
     (try dsimp only at H)
     by_cases c21 : t44 = true
     . subst c21
       rw [if_pos rfl] at H
       simp only [Option.some.injEq, Prod.mk.injEq] at H
       obtain ⟨rfl, rfl⟩ := H
       obtain ⟨Ao22, co22, eo22⟩ := Kd.R_slice HO_6.out
       subst eo22
       go_wp2_with (first | ((with_reducible refine gc_ (f := 97) rfl ?_); refine gL_ (some 34) Try.func97 #[.slice Ao22 x6_1.length co22] ?_; (with_reducible refine (spec_PropsOk.calls k1 _ _ x6_1 true _ ?s1 ?s2 A20.out).mono ?_); (case s1 => exact cC_ (Kd.R_reads' HO_6.out).2.2); (case s2 => exact (Kd.R_reads' HO_6.out).2.1); rintro e w23 ⟨rfl, hb⟩; refine ⟨_, rfl, ?_⟩; replace HO_6 := A_ (Kd.R_below (vR_ HO_6.out) hb); replace HB := A_ (below_step bB_ hb); clear hb))
       go_ret2
       exact ⟨_, rr_, vR_ HO_6.out, bB_⟩
     . replace c21 := Bool.eq_false_iff.mpr c21
       subst c21
       rw [if_neg nf_] at H
       obtain ⟨y33, hy33⟩ : ∃ y_ : List (S72), y_ = (([] : List (S72))) := ⟨_, rfl⟩
       replace H : (if y33.length + l0.length < 2932031007402 then (some ((y33 ++ l0), false)) else (none)) = some (r1, r2) := hy_ hy33 H
       have Ny33 := A_ hy33
       clear hy33
       by_cases c24 : y33.length + l0.length < 2932031007402
       rotate_left
       . exact absurd H (by rw [if_neg c24]; simp)
       rw [if_pos c24] at H
       have LMc24 := A_ c24
       clear c24
       obtain ⟨y36, hy36⟩ : ∃ y_ : List (S72), y_ = (y33 ++ l0) := ⟨_, rfl⟩
       replace H : (some (y36, false)) = some (r1, r2) := hy_ hy36 H
       have Ny36 := A_ hy36
       clear hy36
       simp only [Option.some.injEq, Prod.mk.injEq] at H
       obtain ⟨rfl, rfl⟩ := H
       obtain ⟨Ao25, co25, eo25⟩ := Kd.R_slice HO_6.out
       subst eo25
       go_wp2_with (first | ((with_reducible refine gc_ (f := 97) rfl ?_); refine gL_ (some 34) Try.func97 #[.slice Ao25 x6_1.length co25] ?_; (with_reducible refine (spec_PropsOk.calls k1 _ _ x6_1 false _ ?s1 ?s2 A20.out).mono ?_); (case s1 => exact cC_ (Kd.R_reads' HO_6.out).2.2); (case s2 => exact (Kd.R_reads' HO_6.out).2.1); rintro e w26 ⟨rfl, hb⟩; refine ⟨_, rfl, ?_⟩; replace HO_6 := A_ (Kd.R_below (vR_ HO_6.out) hb); replace HB := A_ (below_step bB_ hb); clear hb) | ((with_reducible refine gd_ (N := 36) rfl ?_); refine Kd.R_lit k72 _ 72 ?hg (N := 36) ?hd (xs := ([] : List (S72))) (inner := []) (ok := fun _ => True) (okp := fun _ => True) ?hr ?hp (fun _ hk => hk) trivial (Below.refl _ _) (Nat.le_refl _) (by simp) ?_; (case hd => rfl); (case hg => rfl); (case hr => first | (go_simp; done) | (go_simp; rfl)); (case hp => exact (Reps.none _ _)); intro v45 w27 ho28 hb hg_ hnew_; clear hg_ hnew_; (first | rw [← Ny33.out] at ho28 | (simp only [Int.reduceToNat] at ho28; rw [← Ny33.out] at ho28)); have HO39 := A_ (Kd.R_lower (Kd.R_new' ho28 (Kd.R_lt (vR_ HO_6.out))) (below_size bB_)); replace HO_6 := A_ (Kd.R_elder' (vR_ HO_6.out) (kb_ ho28) hb); replace HB := A_ (below_step bB_ hb); clear hb ho28) | ((with_reducible refine gate_builtin (b := .append) (xs := #[.tmp 36, .tmp 37]) rfl ?_); at_builtin; refine Kd.R_append_rows k72 (w0 := w) w.heap.size rfl (.tmp 36) (.tmp 37) 55 72 (.agg #[(.string ⟨#[]⟩), (.string ⟨#[]⟩), (.string ⟨#[]⟩)]) 48 rfl Try.underlying55 info72 rfl (by decide) (by omega) v45 y33 l0 _ _ _ (fun k_ => some k_ ≠ (.slice Ao25 x6_1.length co25 : Value).ownBlock) (fun _ => False) rfl rfl ?aO ?aR (fun _ _ h => h) (fun _ h => h.elim) ?aF ?aB ?aS ?aL ?_; (case aR => exact cC_ (Kd.C_below HR0.out HB.out)); (case aB => exact bB_); (case aF => exact (fun k_ hk => Kd.fresh' (Kd.R_lt (vR_ HO_6.out)) k_ hk)); (case aO => exact (by (with_reducible repeat (first | apply Kd.R_alloc | apply Kd.R_drewN | apply Kd.R_drew)); exact Kd.R_mono HO39.out (fun _ hk => hk.2))); (case aS => exact (below_size bB_)); (case aL => have := LMc24.out; omega); intro v52 w29 ho hb hg hat; rw [← Ny36.out] at ho; replace HB := A_ (hb); have HO46 := A_ (ho); clear HO39; clear ho hb hg hat))
       go_ret2
       exact ⟨_, rr_, by (with_reducible repeat (first | apply Kd.R_alloc | apply Kd.R_drewN | apply Kd.R_drew)); exact Kd.R_mono HO46.out (fun _ hk => trivial), bB_⟩
   rw [if_pos c7] at H
   have c7b0 := decide_eq_true c7
   clear c7
   by_cases c8 : 0 <= x7_1
   rotate_left
   . exact absurd H (by rw [if_neg c8]; simp)
   rw [if_pos c8] at H
   have c8b0 := decide_eq_true c8
   clear c8
   obtain ⟨t47, A9, H⟩ := bo_ H
   (try dsimp only at H)
   by_cases c10 : t47 = true
   . subst c10
     rw [if_pos rfl] at H
     obtain ⟨t40, A11, H⟩ := bo_ H
     (try dsimp only at H)
     have H' := A_ H
     clear H
     have p30 : 0 <= (x7_1 : Int) := od_
     have q30 : x7_1 < (l1.length : Int) := od_
     obtain ⟨ad30, e30, hx30_0, hx30_1, hx30_2, hx30_3⟩ := at_T74 HR1.out x7_1 p30 q30
     cases e30
     replace hx30_0 := bc_ HB.out hx30_0
     replace hx30_1 := bc_ HB.out hx30_1
     replace hx30_2 := bc_ HB.out hx30_2
     replace hx30_3 := bc_ HB.out hx30_3
     replace p30 := eq_true p30
     replace q30 := eq_true q30
     go_wp2_with (first | ((with_reducible refine gc_ (f := 95) rfl ?_); refine gL_ (some 22) Try.func95 #[.agg #[.string ((rd_T74 l1 x7_1).f1.f0), .string ((rd_T74 l1 x7_1).f1.f1), .string ((rd_T74 l1 x7_1).f1.f2)]] ?_; (with_reducible refine (spec_l10Prop.calls k1 ((rd_T74 l1 x7_1).f1.f0) ((rd_T74 l1 x7_1).f1.f1) ((rd_T74 l1 x7_1).f1.f2) true _ A9.out).mono ?_); rintro e w12 ⟨rfl, hb⟩; refine ⟨_, rfl, ?_⟩; replace HO_6 := A_ (Kd.R_below (vR_ HO_6.out) hb); replace HB := A_ (below_step bB_ hb); clear hb; have p31 : 0 <= (x7_1 : Int) := od_; have q31 : x7_1 < (l1.length : Int) := od_; obtain ⟨ad31, e31, hx31_0, hx31_1, hx31_2, hx31_3⟩ := at_T74 HR1.out x7_1 p31 q31; obtain rfl : ad30 = ad31 := (by injection e31); replace hx31_0 := bc_ HB.out hx31_0; replace hx31_1 := bc_ HB.out hx31_1; replace hx31_2 := bc_ HB.out hx31_2; replace hx31_3 := bc_ HB.out hx31_3; replace p31 := eq_true p31; replace q31 := eq_true q31; obtain ⟨Ao13, co13, eo13⟩ := Kd.R_slice HO_6.out; subst eo13) | ((with_reducible refine gc_ (f := 96) rfl ?_); refine gL_ (some 32) Try.func96 #[.slice Ao13 x6_1.length co13, .agg #[.bool ((rd_T74 l1 x7_1).f0), .string ((rd_T74 l1 x7_1).f1.f0), .string ((rd_T74 l1 x7_1).f1.f1), .string ((rd_T74 l1 x7_1).f1.f2)]] ?_; (with_reducible refine (spec_l12One.calls k1 _ _ x6_1 ((rd_T74 l1 x7_1).f0) ((rd_T74 l1 x7_1).f1.f0) ((rd_T74 l1 x7_1).f1.f1) ((rd_T74 l1 x7_1).f1.f2) t40 _ ?s1 ?s2 A11.out).mono ?_); (case s1 => exact cC_ (Kd.R_reads' HO_6.out).2.2); (case s2 => exact (Kd.R_reads' HO_6.out).2.1); rintro e w14 ⟨v53, rfl, ho0, hb⟩; refine ⟨_, rfl, ?_⟩; have HO48 := A_ (Kd.R_lower (Kd.R_new' ho0 (Kd.R_lt (vR_ HO_6.out))) (below_size bB_)); replace HB := A_ (below_step bB_ hb); clear hb ho0))
     go_roundg k1
     case measure => have := HK1.out; omega
     case rel => exact ⟨(t40), (wrap64 (x7_1 + 1)), rs_, H', ⟨by have := HK1.out; omega⟩, ⟨by (with_reducible repeat (first | apply Kd.R_alloc | apply Kd.R_drewN | apply Kd.R_drew)); exact Kd.R_mono HO48.out (fun _ hk => trivial)⟩, ⟨bB_⟩⟩
   . replace c10 := Bool.eq_false_iff.mpr c10
     subst c10
     rw [if_neg nf_] at H
     obtain ⟨y34, hy34⟩ : ∃ y_ : List (S72), y_ = (([] : List (S72))) := ⟨_, rfl⟩
     replace H : (if y34.length + l0.length < 2932031007402 then (some ((y34 ++ l0), false)) else (none)) = some (r1, r2) := hy_ hy34 H
     have Ny34 := A_ hy34
     clear hy34
     by_cases c15 : y34.length + l0.length < 2932031007402
     rotate_left
     . exact absurd H (by rw [if_neg c15]; simp)
     rw [if_pos c15] at H
     have LMc15 := A_ c15
     clear c15
     obtain ⟨y37, hy37⟩ : ∃ y_ : List (S72), y_ = (y34 ++ l0) := ⟨_, rfl⟩
     replace H : (some (y37, false)) = some (r1, r2) := hy_ hy37 H
     have Ny37 := A_ hy37
     clear hy37
     simp only [Option.some.injEq, Prod.mk.injEq] at H
     obtain ⟨rfl, rfl⟩ := H
     have p30 : 0 <= (x7_1 : Int) := od_
     have q30 : x7_1 < (l1.length : Int) := od_
     obtain ⟨ad30, e30, hx30_0, hx30_1, hx30_2, hx30_3⟩ := at_T74 HR1.out x7_1 p30 q30
     cases e30
     replace hx30_0 := bc_ HB.out hx30_0
     replace hx30_1 := bc_ HB.out hx30_1
     replace hx30_2 := bc_ HB.out hx30_2
     replace hx30_3 := bc_ HB.out hx30_3
     replace p30 := eq_true p30
     replace q30 := eq_true q30
     go_wp2_with (first | ((with_reducible refine gc_ (f := 95) rfl ?_); refine gL_ (some 22) Try.func95 #[.agg #[.string ((rd_T74 l1 x7_1).f1.f0), .string ((rd_T74 l1 x7_1).f1.f1), .string ((rd_T74 l1 x7_1).f1.f2)]] ?_; (with_reducible refine (spec_l10Prop.calls k1 ((rd_T74 l1 x7_1).f1.f0) ((rd_T74 l1 x7_1).f1.f1) ((rd_T74 l1 x7_1).f1.f2) false _ A9.out).mono ?_); rintro e w16 ⟨rfl, hb⟩; refine ⟨_, rfl, ?_⟩; replace HO_6 := A_ (Kd.R_below (vR_ HO_6.out) hb); replace HB := A_ (below_step bB_ hb); clear hb) | ((with_reducible refine gd_ (N := 24) rfl ?_); refine Kd.R_lit k72 _ 72 ?hg (N := 24) ?hd (xs := ([] : List (S72))) (inner := []) (ok := fun _ => True) (okp := fun _ => True) ?hr ?hp (fun _ hk => hk) trivial (Below.refl _ _) (Nat.le_refl _) (by simp) ?_; (case hd => rfl); (case hg => rfl); (case hr => first | (go_simp; done) | (go_simp; rfl)); (case hp => exact (Reps.none _ _)); intro v49 w17 ho18 hb hg_ hnew_; clear hg_ hnew_; (first | rw [← Ny34.out] at ho18 | (simp only [Int.reduceToNat] at ho18; rw [← Ny34.out] at ho18)); have HO41 := A_ (Kd.R_lower (Kd.R_new' ho18 (Kd.R_lt (vR_ HO_6.out))) (below_size bB_)); replace HO_6 := A_ (Kd.R_elder' (vR_ HO_6.out) (kb_ ho18) hb); replace HB := A_ (below_step bB_ hb); clear hb ho18) | ((with_reducible refine gate_builtin (b := .append) (xs := #[.tmp 24, .tmp 25]) rfl ?_); at_builtin; refine Kd.R_append_rows k72 (w0 := w) w.heap.size rfl (.tmp 24) (.tmp 25) 55 72 (.agg #[(.string ⟨#[]⟩), (.string ⟨#[]⟩), (.string ⟨#[]⟩)]) 48 rfl Try.underlying55 info72 rfl (by decide) (by omega) v49 y34 l0 _ _ _ (fun k_ => some k_ ≠ (u6 : Value).ownBlock) (fun _ => False) rfl rfl ?aO ?aR (fun _ _ h => h) (fun _ h => h.elim) ?aF ?aB ?aS ?aL ?_; (case aR => exact cC_ (Kd.C_below HR0.out HB.out)); (case aB => exact bB_); (case aF => exact (fun k_ hk => Kd.fresh' (Kd.R_lt (vR_ HO_6.out)) k_ hk)); (case aO => exact (by (with_reducible repeat (first | apply Kd.R_alloc | apply Kd.R_drewN | apply Kd.R_drew)); exact Kd.R_mono HO41.out (fun _ hk => hk.2))); (case aS => exact (below_size bB_)); (case aL => have := LMc15.out; omega); intro v54 w19 ho hb hg hat; rw [← Ny37.out] at ho; replace HB := A_ (hb); have HO50 := A_ (ho); clear HO41; clear ho hb hg hat))
     go_ret2
     exact ⟨_, rr_, by (with_reducible repeat (first | apply Kd.R_alloc | apply Kd.R_drewN | apply Kd.R_drew)); exact Kd.R_mono HO50.out (fun _ hk => trivial), bB_⟩
mutual
def impl_copied.j0 : Nat -> List (S57) -> List ByteArray -> List ByteArray -> Bool -> Int -> Bool -> Bool -> Option ((List (S57)) × Int)
  | 0, _, _, _, _, _, _, _ => none
  | k + 1, x0, x1, x2, x3, x4, x12, x20 => if x20 = true then (some (([] : List (S57)), 404)) else (if (x1.length : Int) = 0 then (impl_copied.j1 k x0 x1 x2 x3 x4 x12 true) else (if (x2.length : Int) = 0 then (impl_copied.j1 k x0 x1 x2 x3 x4 x12 true) else ((impl_isAt.f k x1 x2).bind fun t977 => (if t977 = true then (impl_copied.j1 k x0 x1 x2 x3 x4 x12 true) else ((impl_isAt.f k x2 x1).bind fun t978 => (impl_copied.j1 k x0 x1 x2 x3 x4 x12 t978))))))
def impl_copied.j1 : Nat -> List (S57) -> List ByteArray -> List ByteArray -> Bool -> Int -> Bool -> Bool -> Option ((List (S57)) × Int)
  | 0, _, _, _, _, _, _, _ => none
  | k + 1, x0, x1, x2, x3, x4, x12, x30 => if x30 = true then (some (([] : List (S57)), 403)) else (if x12 = true then (impl_copied.j2 k x0 x1 x2 x4 x12 (!x3)) else (impl_copied.j2 k x0 x1 x2 x4 x12 false))
def impl_copied.j2 : Nat -> List (S57) -> List ByteArray -> List ByteArray -> Int -> Bool -> Bool -> Option ((List (S57)) × Int)
  | 0, _, _, _, _, _, _ => none
  | k + 1, x0, x1, x2, x4, x12, x49 => if x49 = true then (some (([] : List (S57)), 412)) else ((impl_Above.f x2).bind fun t979 => ((impl_IsColl.f k x0 t979).bind fun t982 => (if t982 = true then ((impl_without.f k x0 x2).bind fun t983 => ((impl_DeepOf.f k x0 x1).bind fun t986 => (impl_copied.l0 k x1 x2 x4 x12 t983 t986 (t986.length : Int) 0))) else (some (([] : List (S57)), 409)))))
def impl_copied.l0 : Nat -> List ByteArray -> List ByteArray -> Int -> Bool -> List (S57) -> List (S57) -> Int -> Int -> Option ((List (S57)) × Int)
  | 0, _, _, _, _, _, _, _, _ => none
  | k + 1, x1, x2, x4, x12, x13, x66, x67, x68 => if x68 < x67 then (if 0 <= x68 then (if x68 < (x66.length : Int) then ((impl_copyPath.f x2).bind fun t991 => (if 0 <= (x1.length : Int) then (if (x1.length : Int) <= (((rd_T57 x66 x68).f0).length : Int) then ((some (((rd_T57 x66 x68).f0).drop ((x1.length : Int) : Int).toNat : List ByteArray)).bind fun y994 => (if t991.length + y994.length < 8796093022208 then ((some (t991 ++ y994 : List ByteArray)).bind fun y999 => ((impl_PathOk.f k y999).bind fun t1002 => (if t1002 = true then ((impl_withRes.f k x13 y999 ((rd_T57 x66 x68).f1) ((rd_T57 x66 x68).f2) x4 ((rd_T57 x66 x68).f4)).bind fun t1003 => (impl_copied.l0 k x1 x2 x4 x12 t1003 x66 x67 (wrap64 (x68 + 1)))) else (some (([] : List (S57)), 409))))) else (none))) else (none)) else (none))) else (none)) else (none)) else (if x12 = true then (some (x13, 204)) else (some (x13, 201)))
end
def impl_copied.f (k : Nat) (l0 : List (S57)) (l1 : List ByteArray) (l2 : List ByteArray) (a3 : Bool) (a4 : Int) : Option ((List (S57)) × Int) := (impl_FindRes.f k l0 l2).bind fun t975 => (if (l1.length : Int) > 0 then ((impl_FindRes.f k l0 l1).bind fun t976 => (impl_copied.j0 k l0 l1 l2 a3 a4 (decide (t975 >= 0)) (decide (t976 < 0)))) else (impl_copied.j0 k l0 l1 l2 a3 a4 (decide (t975 >= 0)) false))
def impl_copied.T14 : Bool × List (List Nat × List Nat) := (true, [([], []), ([0], [0]), ([], []), ([2], [2]), ([], []), ([4], [4]), ([3, 5], [3, 5]), ([1, 6, 1], [1, 6]), ([0, 1, 2, 3, 4, 5, 6, 7], []), ([8, 7, 7, 0, 1, 2, 3, 4, 5, 6, 7], [7, 8])])
def impl_copied.B14 : List Nat := [0, 1, 0, 4, 0, 16, 60, 127, 255, 511]
theorem impl_copied.tab14 : rtab .any (opsOf Try.f83 14) = impl_copied.T14 := by kernel_rfl
theorem impl_copied.bits14 : waitsOk impl_copied.T14.2 impl_copied.B14 = true := by kernel_rfl
end Go.Proofs.Ytbgggcgjijljkaa.Q
