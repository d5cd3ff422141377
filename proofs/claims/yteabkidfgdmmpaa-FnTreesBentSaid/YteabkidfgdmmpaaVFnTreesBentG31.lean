-- PRINTED by print.py (a twelfth state) out of the translation. Not trusted: Lean checks it.
import Derived.Test.YteabkidfgdmmpaaVFnTreesBentG30
set_option maxHeartbeats 8000000
set_option maxRecDepth 100000
namespace Go.Proofs.Yteabkidfgdmmpaa.Q
open Go.RowKit Go.Proofs.YteabkidfgdmmpaaW.PrintWords Go.Proofs.YteabkidfgdmmpaaW.PrintLast Go.Proofs.YteabkidfgdmmpaaW.PrintMore
attribute [local go_sem] max2_int min2_int max_two min_two max_three min_three max_four min_four   -- for this text's walks alone
set_option linter.unusedVariables false
set_option linter.unusedSimpArgs false
theorem bIQx261_ {P : Prop} (h : P := by repeat (first | (with_reducible first | exact HI0.out | apply IsS94.alloc | apply IsS94.drewN | apply IsS94.drew | apply IsS94.set_1 | apply IsS94.set_2) | exact HI0.out)) : P := h
theorem bIQx262_ {P : Prop} (h : P := by repeat (first | (with_reducible first | exact HB.out | apply below_alloc | apply pw_below_drewN | apply below_drew1 | refine below_set ?_ (IsS94.ge HI0.out)) | exact HB.out)) : P := h
def spec_PutFile.j0 : Nat → List (S59) → List ByteArray → ByteArray → Int → Int → Int → Option ((List (S59)) × Int)
 | 0, _, _, _, _, _, _ => none
 | k + 1, x0, x1, x2, x3, x10, x11 => if x10 = 0 then (if x11 < 0 then ((spec_l11Put.f k x0 x1 false x2 x3 ([] : List (S71))).bind fun t887 => (some (t887, 201))) else (if 0 ≤ x11 then (if x11 < (x0.length : Int) then ((spec_l11Put.f k x0 x1 false x2 x3 ((rd_T59 x0 x11).f4)).bind fun t891 => (some (t891, 204))) else (none)) else (none))) else ((spec_l10CopyAll.f k x0).bind fun t883 => (some (t883, x10)))
def spec_PutFile.f (k : Nat) (l0 : List (S59)) (l1 : List ByteArray) (a2 : ByteArray) (a3 : Int) : Option ((List (S59)) × Int) := (spec_l11May.f k l0 l1 a3).bind fun t876 => ((spec_FindRes.f k l0 l1).bind fun t877 => (if t876 = 0 then ((spec_IsColl.f k l0 l1).bind fun t878 => (if t878 = true then (spec_PutFile.j0 k l0 l1 a2 a3 405 t877) else ((spec_Above.f l1).bind fun t879 => ((spec_IsColl.f k l0 t879).bind fun t882 => (if t882 = true then (if (a2.size : Int) > 200 then (spec_PutFile.j0 k l0 l1 a2 a3 413 t877) else (if t877 < 0 then (if (l0.length : Int) ≥ 12 then (spec_PutFile.j0 k l0 l1 a2 a3 507 t877) else (spec_PutFile.j0 k l0 l1 a2 a3 t876 t877)) else (spec_PutFile.j0 k l0 l1 a2 a3 t876 t877))) else (spec_PutFile.j0 k l0 l1 a2 a3 409 t877)))))) else (spec_PutFile.j0 k l0 l1 a2 a3 t876 t877)))
theorem spec_PutFile.isSome_set (W : World) (p : Addr) (u : Value) (a : Addr) : ((W.setCell p u).cell? a).isSome = (W.cell? a).isSome := by
 unfold World.cell? World.setCell
 simp only [Array.getElem?_modify]
 by_cases h : p.block = a.block
 · simp only [h, if_true]
   cases hb : W.heap[a.block]? with
   | none => simp
   | some o =>
    cases o with
    | cells c e f =>
     simp only [Option.map_some]
     by_cases hs : a.spot.isSome = true
     · simp [hs]
     · by_cases hp : p.spot.isSome = true
       · simp [hs, hp]
       · simp [hs, hp, Array.getElem?_setIfInBounds]
         split
         · rename_i he; rw [he]; by_cases hc : a.off < c.size <;> simp [hc]
         · rfl
    | _ => simp
 · simp only [h, if_false]
theorem spec_PutFile.calls (k : Nat) (A0 : Option Addr) (c0 : Nat) (l0 : List (S59)) (A1 : Option Addr) (c1 : Nat) (l1 : List ByteArray) (a2 : ByteArray) (a3 : Int) (r1 : List (S59)) (r2 : Int) (w : World) (hr0 : Kd.C k59 w A0 l0.length l0) (hc0 : l0.length ≤ c0) (hr1 : Kd.C Kd.string w A1 l1.length l1) (hc1 : l1.length ≤ c1) (h : spec_PutFile.f k l0 l1 a2 a3 = some (r1, r2)) :
 Calls Try.prog 104 #[.slice A0 l0.length c0, .slice A1 l1.length c1, .string a2, .int .i64 a3] w fun e w' => ∃ v0_ : Value, e = .returned (.tuple #[v0_, .int .i64 r2]) ∧ Kd.S k59 59 w' w.heap.size (fun _ => True) v0_ r1 ∧ Below w.heap.size w w' := by
 have hu59 := Try.underlying59
 have HR0 := A_ hr0
 have HC0 := A_ hc0
 clear hr0 hc0
 have HR1 := A_ hr1
 have HC1 := A_ hc1
 clear hr1 hc1
 have HB := A_ (Below.refl w.heap.size w)
 have H : ((spec_l11May.f k l0 l1 a3).bind fun t876 => ((spec_FindRes.f k l0 l1).bind fun t877 => (if t876 = 0 then ((spec_IsColl.f k l0 l1).bind fun t878 => (if t878 = true then (spec_PutFile.j0 k l0 l1 a2 a3 405 t877) else ((spec_Above.f l1).bind fun t879 => ((spec_IsColl.f k l0 t879).bind fun t882 => (if t882 = true then (if (a2.size : Int) > 200 then (spec_PutFile.j0 k l0 l1 a2 a3 413 t877) else (if t877 < 0 then (if (l0.length : Int) ≥ 12 then (spec_PutFile.j0 k l0 l1 a2 a3 507 t877) else (spec_PutFile.j0 k l0 l1 a2 a3 t876 t877)) else (spec_PutFile.j0 k l0 l1 a2 a3 t876 t877))) else (spec_PutFile.j0 k l0 l1 a2 a3 409 t877)))))) else (spec_PutFile.j0 k l0 l1 a2 a3 t876 t877)))) = some (r1, r2) := h
 clear h
 obtain ⟨t876, A5, H⟩ := bo_ H
 (try dsimp only at H)
 obtain ⟨t877, A6, H⟩ := bo_ H
 (try dsimp only at H)
 have HC7 := A_ H
 clear H
 go_enter Try.func104, Try.ntmps104
 have hss_ := spec_PutFile.isSome_set
 go_upto_block 0 with (first | ((with_reducible refine gc_ (f := 119) rfl ?_); refine gL_ (some 16) Try.func119 #[.slice A0 l0.length c0, .slice A1 l1.length c1, .int .i64 a3] ?_; (with_reducible refine (spec_l11May.calls k _ _ l0 _ _ l1 a3 t876 _ ?s1 ?s2 ?s3 ?s4 A5.out).mono ?_); (case s1 => exact cC_ HR0.out); (case s2 => exact HC0.out); (case s3 => exact cC_ HR1.out); (case s4 => exact HC1.out); rintro e w8 ⟨rfl, hb⟩; refine ⟨_, rfl, ?_⟩; replace HB := A_ (below_step bB_ hb); (try clear hb)) | ((with_reducible refine gc_ (f := 36) rfl ?_); refine gL_ (some 19) Try.func36 #[.slice A0 l0.length c0, .slice A1 l1.length c1] ?_; (with_reducible refine (spec_FindRes.calls k _ _ l0 _ _ l1 t877 _ ?s1 ?s2 ?s3 ?s4 A6.out).mono ?_); (case s1 => exact cC_ (Kd.C_below HR0.out HB.out)); (case s2 => exact HC0.out); (case s3 => exact cC_ (Kd.C_below HR1.out HB.out)); (case s4 => exact HC1.out); rintro e w' ⟨rfl, ⟨nd, rfl⟩⟩; refine ⟨_, rfl, ?_⟩))
 (try simp only [Act.put, List.setIfInBounds_toArray, List.set_cons_zero, List.set_cons_succ])
 go_cut [10] (fun v10 wc => ∃ (kq : Nat) (x10_6 : Int), v10 = .int .i64 x10_6 ∧ Aside0 (spec_PutFile.j0 kq l0 l1 a2 a3 x10_6 t877 = some (r1, r2)) ∧ Aside0 (kq ≤ k) ∧ Aside0 (Below w.heap.size w wc))
 case first =>
  have H := HC7.out
  clear HC7
  by_cases c9 : t876 = 0
  rotate_left
  · rw [if_neg c9] at H
    have c9b0 : (t876 == 0) = false := beq_eq_false_iff_ne.mpr c9
    have c9b1 : (t876 != 0) = true := bne_iff_ne.mpr c9
    (first | rw [c9b0] | (simp only [i64_w, i32_w]; rw [c9b0]) | skip)
    have H' := A_ H
    clear H
    go_wp2
    go_meet
    case rel => exact ⟨_, (t876), rs_, H', ⟨by first | omega | exact Nat.le_refl _⟩, ⟨bB_⟩⟩
  rw [if_pos c9] at H
  have c9b0 : (t876 == 0) = true := beq_iff_eq.mpr c9
  have c9b1 : (t876 != 0) = false := bne_eq_false_iff_eq.mpr c9
  clear c9
  (first | rw [c9b0] | (simp only [i64_w, i32_w]; rw [c9b0]) | skip)
  obtain ⟨t878, A10, H⟩ := bo_ H
  (try dsimp only at H)
  by_cases c11 : t878 = true
  · subst c11
    rw [if_pos rfl] at H
    have H' := A_ H
    clear H
    go_wp2_with (first | ((with_reducible refine gc_ (f := 38) rfl ?_); refine gL_ (some 26) Try.func38 #[.slice A0 l0.length c0, .slice A1 l1.length c1] ?_; (with_reducible refine (spec_IsColl.calls k _ _ l0 _ _ l1 true _ ?s1 ?s2 ?s3 ?s4 A10.out).mono ?_); (case s1 => exact cC_ (Kd.C_below HR0.out HB.out)); (case s2 => exact HC0.out); (case s3 => exact cC_ (Kd.C_below HR1.out HB.out)); (case s4 => exact HC1.out); rintro e w' ⟨rfl, ⟨nd, rfl⟩⟩; refine ⟨_, rfl, ?_⟩))
    go_meet
    case rel => exact ⟨_, (405), rs_, H', ⟨by first | omega | exact Nat.le_refl _⟩, ⟨bB_⟩⟩
  · replace c11 := Bool.eq_false_iff.mpr c11
    subst c11
    rw [if_neg nf_] at H
    obtain ⟨t879, A12, H⟩ := bo_ H
    (try dsimp only at H)
    obtain ⟨t882, A13, H⟩ := bo_ H
    (try dsimp only at H)
    by_cases c14 : t882 = true
    · subst c14
      rw [if_pos rfl] at H
      by_cases c15 : (a2.size : Int) > 200
      · rw [if_pos c15] at H
        have c15b0 : decide (200 < (a2.size : Int)) = true := decide_eq_true c15
        have c15b1 : decide (200 < a2.size) = true := decide_eq_true (by omega)
        clear c15
        have H' := A_ H
        clear H
        go_wp2_with (first | ((with_reducible refine gc_ (f := 38) rfl ?_); refine gL_ (some 26) Try.func38 #[.slice A0 l0.length c0, .slice A1 l1.length c1] ?_; (with_reducible refine (spec_IsColl.calls k _ _ l0 _ _ l1 false _ ?s1 ?s2 ?s3 ?s4 A10.out).mono ?_); (case s1 => exact cC_ (Kd.C_below HR0.out HB.out)); (case s2 => exact HC0.out); (case s3 => exact cC_ (Kd.C_below HR1.out HB.out)); (case s4 => exact HC1.out); rintro e w' ⟨rfl, ⟨nd, rfl⟩⟩; refine ⟨_, rfl, ?_⟩) | ((with_reducible refine gc_ (f := 20) rfl ?_); refine gL_ (some 30) Try.func20 #[.slice A1 l1.length c1] ?_; (with_reducible refine (spec_Above.calls _ _ l1 t879 _ ?s1 ?s2 A12.out).mono ?_); (case s1 => exact cC_ (Kd.C_below HR1.out bB_)); (case s2 => exact HC1.out); rintro e w16 ⟨v880, rfl, ho0, hb⟩; refine ⟨_, rfl, ?_⟩; have HO881 := A_ (Kd.R_lower ho0 (below_size bB_)); replace HB := A_ (below_step bB_ hb); (try clear hb); (try clear ho0); obtain ⟨Ao17, co17, eo17⟩ := Kd.R_slice HO881.out; subst eo17) | ((with_reducible refine gc_ (f := 38) rfl ?_); refine gL_ (some 31) Try.func38 #[.slice A0 l0.length c0, .slice Ao17 t879.length co17] ?_; (with_reducible refine (spec_IsColl.calls k _ _ l0 _ _ t879 true _ ?s1 ?s2 ?s3 ?s4 A13.out).mono ?_); (case s1 => exact cC_ (Kd.C_below HR0.out HB.out)); (case s2 => exact HC0.out); (case s3 => exact cC_ (Kd.R_reads' HO881.out).2.2); (case s4 => exact (Kd.R_reads' HO881.out).2.1); rintro e w' ⟨rfl, ⟨nd, rfl⟩⟩; refine ⟨_, rfl, ?_⟩))
        go_meet
        case rel => exact ⟨_, (413), rs_, H', ⟨by first | omega | exact Nat.le_refl _⟩, ⟨bB_⟩⟩
      rw [if_neg c15] at H
      have c15b0 : decide (200 < (a2.size : Int)) = false := decide_eq_false c15
      have c15b1 : decide (200 < a2.size) = false := decide_eq_false (by omega)
      clear c15
      by_cases c18 : t877 < 0
      rotate_left
      · rw [if_neg c18] at H
        have c18b0 : decide (t877 < 0) = false := decide_eq_false c18
        clear c18
        have H' := A_ H
        clear H
        go_wp2_with (first | ((with_reducible refine gc_ (f := 38) rfl ?_); refine gL_ (some 26) Try.func38 #[.slice A0 l0.length c0, .slice A1 l1.length c1] ?_; (with_reducible refine (spec_IsColl.calls k _ _ l0 _ _ l1 false _ ?s1 ?s2 ?s3 ?s4 A10.out).mono ?_); (case s1 => exact cC_ (Kd.C_below HR0.out HB.out)); (case s2 => exact HC0.out); (case s3 => exact cC_ (Kd.C_below HR1.out HB.out)); (case s4 => exact HC1.out); rintro e w' ⟨rfl, ⟨nd, rfl⟩⟩; refine ⟨_, rfl, ?_⟩) | ((with_reducible refine gc_ (f := 20) rfl ?_); refine gL_ (some 30) Try.func20 #[.slice A1 l1.length c1] ?_; (with_reducible refine (spec_Above.calls _ _ l1 t879 _ ?s1 ?s2 A12.out).mono ?_); (case s1 => exact cC_ (Kd.C_below HR1.out bB_)); (case s2 => exact HC1.out); rintro e w24 ⟨v880, rfl, ho0, hb⟩; refine ⟨_, rfl, ?_⟩; have HO881 := A_ (Kd.R_lower ho0 (below_size bB_)); replace HB := A_ (below_step bB_ hb); (try clear hb); (try clear ho0); obtain ⟨Ao25, co25, eo25⟩ := Kd.R_slice HO881.out; subst eo25) | ((with_reducible refine gc_ (f := 38) rfl ?_); refine gL_ (some 31) Try.func38 #[.slice A0 l0.length c0, .slice Ao25 t879.length co25] ?_; (with_reducible refine (spec_IsColl.calls k _ _ l0 _ _ t879 true _ ?s1 ?s2 ?s3 ?s4 A13.out).mono ?_); (case s1 => exact cC_ (Kd.C_below HR0.out HB.out)); (case s2 => exact HC0.out); (case s3 => exact cC_ (Kd.R_reads' HO881.out).2.2); (case s4 => exact (Kd.R_reads' HO881.out).2.1); rintro e w' ⟨rfl, ⟨nd, rfl⟩⟩; refine ⟨_, rfl, ?_⟩))
        go_meet
        case rel => exact ⟨_, (t876), rs_, H', ⟨by first | omega | exact Nat.le_refl _⟩, ⟨bB_⟩⟩
      rw [if_pos c18] at H
      have c18b0 : decide (t877 < 0) = true := decide_eq_true c18
      clear c18
      by_cases c19 : (l0.length : Int) ≥ 12
      · rw [if_pos c19] at H
        have c19b0 : decide (12 ≤ (l0.length : Int)) = true := decide_eq_true c19
        have c19b1 : decide (12 ≤ l0.length) = true := decide_eq_true (by omega)
        clear c19
        have H' := A_ H
        clear H
        go_wp2_with (first | ((with_reducible refine gc_ (f := 38) rfl ?_); refine gL_ (some 26) Try.func38 #[.slice A0 l0.length c0, .slice A1 l1.length c1] ?_; (with_reducible refine (spec_IsColl.calls k _ _ l0 _ _ l1 false _ ?s1 ?s2 ?s3 ?s4 A10.out).mono ?_); (case s1 => exact cC_ (Kd.C_below HR0.out HB.out)); (case s2 => exact HC0.out); (case s3 => exact cC_ (Kd.C_below HR1.out HB.out)); (case s4 => exact HC1.out); rintro e w' ⟨rfl, ⟨nd, rfl⟩⟩; refine ⟨_, rfl, ?_⟩) | ((with_reducible refine gc_ (f := 20) rfl ?_); refine gL_ (some 30) Try.func20 #[.slice A1 l1.length c1] ?_; (with_reducible refine (spec_Above.calls _ _ l1 t879 _ ?s1 ?s2 A12.out).mono ?_); (case s1 => exact cC_ (Kd.C_below HR1.out bB_)); (case s2 => exact HC1.out); rintro e w20 ⟨v880, rfl, ho0, hb⟩; refine ⟨_, rfl, ?_⟩; have HO881 := A_ (Kd.R_lower ho0 (below_size bB_)); replace HB := A_ (below_step bB_ hb); (try clear hb); (try clear ho0); obtain ⟨Ao21, co21, eo21⟩ := Kd.R_slice HO881.out; subst eo21) | ((with_reducible refine gc_ (f := 38) rfl ?_); refine gL_ (some 31) Try.func38 #[.slice A0 l0.length c0, .slice Ao21 t879.length co21] ?_; (with_reducible refine (spec_IsColl.calls k _ _ l0 _ _ t879 true _ ?s1 ?s2 ?s3 ?s4 A13.out).mono ?_); (case s1 => exact cC_ (Kd.C_below HR0.out HB.out)); (case s2 => exact HC0.out); (case s3 => exact cC_ (Kd.R_reads' HO881.out).2.2); (case s4 => exact (Kd.R_reads' HO881.out).2.1); rintro e w' ⟨rfl, ⟨nd, rfl⟩⟩; refine ⟨_, rfl, ?_⟩))
        go_meet
        case rel => exact ⟨_, (507), rs_, H', ⟨by first | omega | exact Nat.le_refl _⟩, ⟨bB_⟩⟩
      rw [if_neg c19] at H
      have c19b0 : decide (12 ≤ (l0.length : Int)) = false := decide_eq_false c19
      have c19b1 : decide (12 ≤ l0.length) = false := decide_eq_false (by omega)
      clear c19
      have H' := A_ H
      clear H
      go_wp2_with (first | ((with_reducible refine gc_ (f := 38) rfl ?_); refine gL_ (some 26) Try.func38 #[.slice A0 l0.length c0, .slice A1 l1.length c1] ?_; (with_reducible refine (spec_IsColl.calls k _ _ l0 _ _ l1 false _ ?s1 ?s2 ?s3 ?s4 A10.out).mono ?_); (case s1 => exact cC_ (Kd.C_below HR0.out HB.out)); (case s2 => exact HC0.out); (case s3 => exact cC_ (Kd.C_below HR1.out HB.out)); (case s4 => exact HC1.out); rintro e w' ⟨rfl, ⟨nd, rfl⟩⟩; refine ⟨_, rfl, ?_⟩) | ((with_reducible refine gc_ (f := 20) rfl ?_); refine gL_ (some 30) Try.func20 #[.slice A1 l1.length c1] ?_; (with_reducible refine (spec_Above.calls _ _ l1 t879 _ ?s1 ?s2 A12.out).mono ?_); (case s1 => exact cC_ (Kd.C_below HR1.out bB_)); (case s2 => exact HC1.out); rintro e w22 ⟨v880, rfl, ho0, hb⟩; refine ⟨_, rfl, ?_⟩; have HO881 := A_ (Kd.R_lower ho0 (below_size bB_)); replace HB := A_ (below_step bB_ hb); (try clear hb); (try clear ho0); obtain ⟨Ao23, co23, eo23⟩ := Kd.R_slice HO881.out; subst eo23) | ((with_reducible refine gc_ (f := 38) rfl ?_); refine gL_ (some 31) Try.func38 #[.slice A0 l0.length c0, .slice Ao23 t879.length co23] ?_; (with_reducible refine (spec_IsColl.calls k _ _ l0 _ _ t879 true _ ?s1 ?s2 ?s3 ?s4 A13.out).mono ?_); (case s1 => exact cC_ (Kd.C_below HR0.out HB.out)); (case s2 => exact HC0.out); (case s3 => exact cC_ (Kd.R_reads' HO881.out).2.2); (case s4 => exact (Kd.R_reads' HO881.out).2.1); rintro e w' ⟨rfl, ⟨nd, rfl⟩⟩; refine ⟨_, rfl, ?_⟩))
      go_meet
      case rel => exact ⟨_, (t876), rs_, H', ⟨by first | omega | exact Nat.le_refl _⟩, ⟨bB_⟩⟩
    · replace c14 := Bool.eq_false_iff.mpr c14
      subst c14
      rw [if_neg nf_] at H
      have H' := A_ H
      clear H
      go_wp2_with (first | ((with_reducible refine gc_ (f := 38) rfl ?_); refine gL_ (some 26) Try.func38 #[.slice A0 l0.length c0, .slice A1 l1.length c1] ?_; (with_reducible refine (spec_IsColl.calls k _ _ l0 _ _ l1 false _ ?s1 ?s2 ?s3 ?s4 A10.out).mono ?_); (case s1 => exact cC_ (Kd.C_below HR0.out HB.out)); (case s2 => exact HC0.out); (case s3 => exact cC_ (Kd.C_below HR1.out HB.out)); (case s4 => exact HC1.out); rintro e w' ⟨rfl, ⟨nd, rfl⟩⟩; refine ⟨_, rfl, ?_⟩) | ((with_reducible refine gc_ (f := 20) rfl ?_); refine gL_ (some 30) Try.func20 #[.slice A1 l1.length c1] ?_; (with_reducible refine (spec_Above.calls _ _ l1 t879 _ ?s1 ?s2 A12.out).mono ?_); (case s1 => exact cC_ (Kd.C_below HR1.out bB_)); (case s2 => exact HC1.out); rintro e w26 ⟨v880, rfl, ho0, hb⟩; refine ⟨_, rfl, ?_⟩; have HO881 := A_ (Kd.R_lower ho0 (below_size bB_)); replace HB := A_ (below_step bB_ hb); (try clear hb); (try clear ho0); obtain ⟨Ao27, co27, eo27⟩ := Kd.R_slice HO881.out; subst eo27) | ((with_reducible refine gc_ (f := 38) rfl ?_); refine gL_ (some 31) Try.func38 #[.slice A0 l0.length c0, .slice Ao27 t879.length co27] ?_; (with_reducible refine (spec_IsColl.calls k _ _ l0 _ _ t879 false _ ?s1 ?s2 ?s3 ?s4 A13.out).mono ?_); (case s1 => exact cC_ (Kd.C_below HR0.out HB.out)); (case s2 => exact HC0.out); (case s3 => exact cC_ (Kd.R_reads' HO881.out).2.2); (case s4 => exact (Kd.R_reads' HO881.out).2.1); rintro e w' ⟨rfl, ⟨nd, rfl⟩⟩; refine ⟨_, rfl, ?_⟩))
      go_meet
      case rel => exact ⟨_, (409), rs_, H', ⟨by first | omega | exact Nat.le_refl _⟩, ⟨bB_⟩⟩
 case rest =>
  clear HC7
  try clear c1
  try clear c2
  try clear p2
  try clear c3
  try clear c9
  try clear c9b0
  try clear c9b1
  try clear c10
  try clear c11
  try clear c14
  try clear c15
  try clear c15b0
  try clear c15b1
  try clear c18
  try clear c18b0
  try clear c19
  try clear c19b0
  try clear c19b1
  try clear c20
  obtain ⟨kq, x10_6, rfl, HA, HJ6, HB⟩ := hcut
  cases kq with
  | zero => exact absurd HA.out (by simp [spec_PutFile.j0])
  | succ kj6 =>
   have H := HA.out
   clear HA
   simp only [spec_PutFile.j0] at H
   by_cases c28 : x10_6 = 0
   rotate_left
   · rw [if_neg c28] at H
     have c28b0 : (x10_6 == 0) = false := beq_eq_false_iff_ne.mpr c28
     have c28b1 : (x10_6 != 0) = true := bne_iff_ne.mpr c28
     obtain ⟨t883, A40, H⟩ := bo_ H
     (try dsimp only at H)
     simp only [Option.some.injEq, Prod.mk.injEq] at H
     obtain ⟨rfl, rfl⟩ := H
     go_wp2_with (first | ((with_reducible refine gc_ (f := 120) rfl ?_); refine gL_ (some 48) Try.func120 #[.slice A0 l0.length c0] ?_; (with_reducible refine (spec_l10CopyAll.calls kj6 _ _ l0 t883 _ ?s1 ?s2 A40.out).mono ?_); (case s1 => exact cC_ (Kd.C_below HR0.out HB.out)); (case s2 => exact HC0.out); rintro e w41 ⟨v884, rfl, ho0, hb⟩; refine ⟨_, rfl, ?_⟩; have HO885 := A_ (Kd.S_lower ho0 (below_size bB_)); replace HB := A_ (below_step bB_ hb); (try clear hb); (try clear ho0)))
     go_ret2
     exact ⟨_, rr_, by (with_reducible repeat (first | apply Kd.S_alloc | apply Kd.S_drewN | apply Kd.S_drew)); exact HO885.out, bB_⟩
   rw [if_pos c28] at H
   have c28b0 : (x10_6 == 0) = true := beq_iff_eq.mpr c28
   have c28b1 : (x10_6 != 0) = false := bne_eq_false_iff_eq.mpr c28
   clear c28
   by_cases c29 : t877 < 0
   · rw [if_pos c29] at H
     have c29b0 : decide (t877 < 0) = true := decide_eq_true c29
     clear c29
     obtain ⟨t887, A30, H⟩ := bo_ H
     (try dsimp only at H)
     simp only [Option.some.injEq, Prod.mk.injEq] at H
     obtain ⟨rfl, rfl⟩ := H
     go_wp2_with (first | ((with_reducible refine gd_ (N := 12) rfl ?_); (try (refine gate_guard (by rfl) ?_; dsimp only)); refine bx_ (N := 12) (cs := #[.slice none 0 0, .bool false, .string (⟨#[]⟩ : ByteArray), .int .i64 0, .slice none 0 0]) (t := 59) ?_; intro gb886 hg w31 hbox hb; have BK886 := A_ (hbox); have GW886 := A_ (ge_ hg bB_ : w.heap.size ≤ gb886); have GE886 := A_ (ge_ hg bB_ : w.heap.size ≤ gb886); replace HB := A_ (below_step bB_ hb); clear hb hbox hg; obtain ⟨hcz32_0, hcz32_1, hcz32_2, hcz32_3, hcz32_4, hfz32_0, hfz32_1, hfz32_2, hfz32_3, hfz32_4⟩ := cz5_ BK886.out) | ((with_reducible refine gc_ (f := 121) rfl ?_); refine gL_ (some 58) Try.func121 #[.slice A0 l0.length c0, .agg #[.slice A1 l1.length c1, .bool false, .string a2, .int .i64 a3, .slice none 0 0]] ?_; (refine (spec_l11Put.calls kj6 _ _ l0 _ _ l1 false a2 a3 _ _ ([] : List (S71)) t887 _ ?s1 ?s2 ?s3 ?s4 ?s5 ?s6 A30.out).mono ?_); (case s1 => exact Kd.C_below HR0.out (bG_ GE886.out)); (case s2 => exact HC0.out); (case s3 => exact Kd.C_below HR1.out (bG_ GE886.out)); (case s4 => exact HC1.out); (case s5 => exact Kd.C_nil _ _); (case s6 => exact Nat.le_refl _); rintro e w33 ⟨v888, rfl, ho0, hb⟩; refine ⟨_, rfl, ?_⟩; have HO889 := A_ (Kd.S_lower (Kd.S_newB ho0 (g := gb886) (o := .cells #[.slice A1 l1.length c1, .bool false, .string a2, .int .i64 a3, .slice none 0 0] 59 (0, 0)) (by (with_reducible repeat (first | refine blk_drewN ?_ _ | refine blk_drew ?_ | refine blk_alloc ?_ _)); refine blk_put (cs := #[.slice A1 l1.length c1, .bool false, .string a2, .int .i64 a3, .slice none 0 0]) ?_ 4 _ rfl; (with_reducible repeat (first | refine blk_drewN ?_ _ | refine blk_drew ?_ | refine blk_alloc ?_ _)); refine blk_put (cs := #[.slice A1 l1.length c1, .bool false, .string a2, .int .i64 0, .slice none 0 0]) ?_ 3 _ rfl; (with_reducible repeat (first | refine blk_drewN ?_ _ | refine blk_drew ?_ | refine blk_alloc ?_ _)); refine blk_put (cs := #[.slice A1 l1.length c1, .bool false, .string (⟨#[]⟩ : ByteArray), .int .i64 0, .slice none 0 0]) ?_ 2 _ rfl; (with_reducible repeat (first | refine blk_drewN ?_ _ | refine blk_drew ?_ | refine blk_alloc ?_ _)); refine blk_put (cs := #[.slice A1 l1.length c1, .bool false, .string (⟨#[]⟩ : ByteArray), .int .i64 0, .slice none 0 0]) ?_ 1 _ rfl; (with_reducible repeat (first | refine blk_drewN ?_ _ | refine blk_drew ?_ | refine blk_alloc ?_ _)); refine blk_put (cs := #[.slice none 0 0, .bool false, .string (⟨#[]⟩ : ByteArray), .int .i64 0, .slice none 0 0]) ?_ 0 _ rfl; (with_reducible repeat (first | refine blk_drewN ?_ _ | refine blk_drew ?_ | refine blk_alloc ?_ _)); exact BK886.out)) (below_size (bG_ GE886.out))); replace BK886 := A_ (blk_below (g := gb886) (o := .cells #[.slice A1 l1.length c1, .bool false, .string a2, .int .i64 a3, .slice none 0 0] 59 (0, 0)) (by (with_reducible repeat (first | refine blk_drewN ?_ _ | refine blk_drew ?_ | refine blk_alloc ?_ _)); refine blk_put (cs := #[.slice A1 l1.length c1, .bool false, .string a2, .int .i64 a3, .slice none 0 0]) ?_ 4 _ rfl; (with_reducible repeat (first | refine blk_drewN ?_ _ | refine blk_drew ?_ | refine blk_alloc ?_ _)); refine blk_put (cs := #[.slice A1 l1.length c1, .bool false, .string a2, .int .i64 0, .slice none 0 0]) ?_ 3 _ rfl; (with_reducible repeat (first | refine blk_drewN ?_ _ | refine blk_drew ?_ | refine blk_alloc ?_ _)); refine blk_put (cs := #[.slice A1 l1.length c1, .bool false, .string (⟨#[]⟩ : ByteArray), .int .i64 0, .slice none 0 0]) ?_ 2 _ rfl; (with_reducible repeat (first | refine blk_drewN ?_ _ | refine blk_drew ?_ | refine blk_alloc ?_ _)); refine blk_put (cs := #[.slice A1 l1.length c1, .bool false, .string (⟨#[]⟩ : ByteArray), .int .i64 0, .slice none 0 0]) ?_ 1 _ rfl; (with_reducible repeat (first | refine blk_drewN ?_ _ | refine blk_drew ?_ | refine blk_alloc ?_ _)); refine blk_put (cs := #[.slice none 0 0, .bool false, .string (⟨#[]⟩ : ByteArray), .int .i64 0, .slice none 0 0]) ?_ 0 _ rfl; (with_reducible repeat (first | refine blk_drewN ?_ _ | refine blk_drew ?_ | refine blk_alloc ?_ _)); exact BK886.out) hb); replace HB := A_ (below_step (bG_ GE886.out) hb); (try clear hb); (try clear ho0)))
     go_ret2
     exact ⟨_, rr_, by (with_reducible repeat (first | apply Kd.S_alloc | apply Kd.S_drewN | apply Kd.S_drew)); exact Kd.S_mono HO889.out (fun _ hk => trivial), bG_ GE886.out⟩
   rw [if_neg c29] at H
   have c29b0 : decide (t877 < 0) = false := decide_eq_false c29
   clear c29
   by_cases c34 : 0 ≤ t877
   rotate_left
   · exact absurd H (by rw [if_neg c34]; simp)
   rw [if_pos c34] at H
   have c34b0 : decide (0 ≤ t877) = true := decide_eq_true c34
   clear c34
   by_cases c35 : t877 < (l0.length : Int)
   rotate_left
   · exact absurd H (by rw [if_neg c35]; simp)
   rw [if_pos c35] at H
   have c35b0 : decide (t877 < (l0.length : Int)) = true := decide_eq_true c35
   clear c35
   obtain ⟨t891, A36, H⟩ := bo_ H
   (try dsimp only at H)
   simp only [Option.some.injEq, Prod.mk.injEq] at H
   obtain ⟨rfl, rfl⟩ := H
   go_wp2_with (first | ((with_reducible refine gd_ (N := 12) rfl ?_); (try (refine gate_guard (by rfl) ?_; dsimp only)); refine bx_ (N := 12) (cs := #[.slice none 0 0, .bool false, .string (⟨#[]⟩ : ByteArray), .int .i64 0, .slice none 0 0]) (t := 59) ?_; intro gb886 hg w37 hbox hb; have BK886 := A_ (hbox); have GW886 := A_ (ge_ hg bB_ : w.heap.size ≤ gb886); have GE886 := A_ (ge_ hg bB_ : w.heap.size ≤ gb886); replace HB := A_ (below_step bB_ hb); clear hb hbox hg; obtain ⟨hcz38_0, hcz38_1, hcz38_2, hcz38_3, hcz38_4, hfz38_0, hfz38_1, hfz38_2, hfz38_3, hfz38_4⟩ := cz5_ BK886.out; have p890 : 0 ≤ (t877 : Int) := od_; have q890 : t877 < (l0.length : Int) := od_; obtain ⟨ad890, A890_0, c890_0, A890_4, c890_4, e890, hx890_0, hx890_1, hx890_2, hx890_3, hx890_4, hl890_0, hi890_0, hl890_4, hi890_4⟩ := at_T59 HR0.out t877 p890 q890; cases e890; have hn890_0 : ad890.block ≠ gb886 := Nat.ne_of_lt (Nat.lt_of_lt_of_le (by have := World.block_lt_of_cell? _ _ hx890_0; first | rwa [add_block] at this | exact this) GW886.out); have hn890_1 : ad890.block ≠ gb886 := Nat.ne_of_lt (Nat.lt_of_lt_of_le (by have := World.block_lt_of_cell? _ _ hx890_0; first | rwa [add_block] at this | exact this) GW886.out); have hn890_2 : ad890.block ≠ gb886 := Nat.ne_of_lt (Nat.lt_of_lt_of_le (by have := World.block_lt_of_cell? _ _ hx890_0; first | rwa [add_block] at this | exact this) GW886.out); have hn890_3 : ad890.block ≠ gb886 := Nat.ne_of_lt (Nat.lt_of_lt_of_le (by have := World.block_lt_of_cell? _ _ hx890_0; first | rwa [add_block] at this | exact this) GW886.out); have hn890_4 : ad890.block ≠ gb886 := Nat.ne_of_lt (Nat.lt_of_lt_of_le (by have := World.block_lt_of_cell? _ _ hx890_0; first | rwa [add_block] at this | exact this) GW886.out); replace hx890_0 := bc_ HB.out hx890_0; replace hx890_1 := bc_ HB.out hx890_1; replace hx890_2 := bc_ HB.out hx890_2; replace hx890_3 := bc_ HB.out hx890_3; replace hx890_4 := bc_ HB.out hx890_4; have HR890_0 := A_ hi890_0; have HC890_0 := A_ hl890_0; clear hi890_0 hl890_0; have HR890_4 := A_ hi890_4; have HC890_4 := A_ hl890_4; clear hi890_4 hl890_4; replace hx890_0 := (cell_far (p := ⟨gb886, 0, none⟩) (by first | (rw [add_block]; exact hn890_0) | (show (Addr.add _ _).block ≠ _; rw [add_block]; exact hn890_0) | exact hn890_0) (.slice A1 l1.length c1)).trans hx890_0; replace hx890_1 := (cell_far (p := ⟨gb886, 0, none⟩) (by first | (rw [add_block]; exact hn890_0) | (show (Addr.add _ _).block ≠ _; rw [add_block]; exact hn890_0) | exact hn890_0) (.slice A1 l1.length c1)).trans hx890_1; replace hx890_2 := (cell_far (p := ⟨gb886, 0, none⟩) (by first | (rw [add_block]; exact hn890_0) | (show (Addr.add _ _).block ≠ _; rw [add_block]; exact hn890_0) | exact hn890_0) (.slice A1 l1.length c1)).trans hx890_2; replace hx890_3 := (cell_far (p := ⟨gb886, 0, none⟩) (by first | (rw [add_block]; exact hn890_0) | (show (Addr.add _ _).block ≠ _; rw [add_block]; exact hn890_0) | exact hn890_0) (.slice A1 l1.length c1)).trans hx890_3; replace hx890_4 := (cell_far (p := ⟨gb886, 0, none⟩) (by first | (rw [add_block]; exact hn890_0) | (show (Addr.add _ _).block ≠ _; rw [add_block]; exact hn890_0) | exact hn890_0) (.slice A1 l1.length c1)).trans hx890_4; replace hx890_0 := (cell_far (p := ⟨gb886, 1, none⟩) (by first | (rw [add_block]; exact hn890_1) | (show (Addr.add _ _).block ≠ _; rw [add_block]; exact hn890_1) | exact hn890_1) (.bool false)).trans hx890_0; replace hx890_1 := (cell_far (p := ⟨gb886, 1, none⟩) (by first | (rw [add_block]; exact hn890_1) | (show (Addr.add _ _).block ≠ _; rw [add_block]; exact hn890_1) | exact hn890_1) (.bool false)).trans hx890_1; replace hx890_2 := (cell_far (p := ⟨gb886, 1, none⟩) (by first | (rw [add_block]; exact hn890_1) | (show (Addr.add _ _).block ≠ _; rw [add_block]; exact hn890_1) | exact hn890_1) (.bool false)).trans hx890_2; replace hx890_3 := (cell_far (p := ⟨gb886, 1, none⟩) (by first | (rw [add_block]; exact hn890_1) | (show (Addr.add _ _).block ≠ _; rw [add_block]; exact hn890_1) | exact hn890_1) (.bool false)).trans hx890_3; replace hx890_4 := (cell_far (p := ⟨gb886, 1, none⟩) (by first | (rw [add_block]; exact hn890_1) | (show (Addr.add _ _).block ≠ _; rw [add_block]; exact hn890_1) | exact hn890_1) (.bool false)).trans hx890_4; replace hx890_0 := (cell_far (p := ⟨gb886, 2, none⟩) (by first | (rw [add_block]; exact hn890_2) | (show (Addr.add _ _).block ≠ _; rw [add_block]; exact hn890_2) | exact hn890_2) (.string a2)).trans hx890_0; replace hx890_1 := (cell_far (p := ⟨gb886, 2, none⟩) (by first | (rw [add_block]; exact hn890_2) | (show (Addr.add _ _).block ≠ _; rw [add_block]; exact hn890_2) | exact hn890_2) (.string a2)).trans hx890_1; replace hx890_2 := (cell_far (p := ⟨gb886, 2, none⟩) (by first | (rw [add_block]; exact hn890_2) | (show (Addr.add _ _).block ≠ _; rw [add_block]; exact hn890_2) | exact hn890_2) (.string a2)).trans hx890_2; replace hx890_3 := (cell_far (p := ⟨gb886, 2, none⟩) (by first | (rw [add_block]; exact hn890_2) | (show (Addr.add _ _).block ≠ _; rw [add_block]; exact hn890_2) | exact hn890_2) (.string a2)).trans hx890_3; replace hx890_4 := (cell_far (p := ⟨gb886, 2, none⟩) (by first | (rw [add_block]; exact hn890_2) | (show (Addr.add _ _).block ≠ _; rw [add_block]; exact hn890_2) | exact hn890_2) (.string a2)).trans hx890_4; replace hx890_0 := (cell_far (p := ⟨gb886, 3, none⟩) (by first | (rw [add_block]; exact hn890_3) | (show (Addr.add _ _).block ≠ _; rw [add_block]; exact hn890_3) | exact hn890_3) (.int .i64 a3)).trans hx890_0; replace hx890_1 := (cell_far (p := ⟨gb886, 3, none⟩) (by first | (rw [add_block]; exact hn890_3) | (show (Addr.add _ _).block ≠ _; rw [add_block]; exact hn890_3) | exact hn890_3) (.int .i64 a3)).trans hx890_1; replace hx890_2 := (cell_far (p := ⟨gb886, 3, none⟩) (by first | (rw [add_block]; exact hn890_3) | (show (Addr.add _ _).block ≠ _; rw [add_block]; exact hn890_3) | exact hn890_3) (.int .i64 a3)).trans hx890_2; replace hx890_3 := (cell_far (p := ⟨gb886, 3, none⟩) (by first | (rw [add_block]; exact hn890_3) | (show (Addr.add _ _).block ≠ _; rw [add_block]; exact hn890_3) | exact hn890_3) (.int .i64 a3)).trans hx890_3; replace hx890_4 := (cell_far (p := ⟨gb886, 3, none⟩) (by first | (rw [add_block]; exact hn890_3) | (show (Addr.add _ _).block ≠ _; rw [add_block]; exact hn890_3) | exact hn890_3) (.int .i64 a3)).trans hx890_4; replace hx890_0 := (cell_far (p := ⟨gb886, 4, none⟩) (by first | (rw [add_block]; exact hn890_4) | (show (Addr.add _ _).block ≠ _; rw [add_block]; exact hn890_4) | exact hn890_4) (.slice none 0 0)).trans hx890_0; replace hx890_1 := (cell_far (p := ⟨gb886, 4, none⟩) (by first | (rw [add_block]; exact hn890_4) | (show (Addr.add _ _).block ≠ _; rw [add_block]; exact hn890_4) | exact hn890_4) (.slice none 0 0)).trans hx890_1; replace hx890_2 := (cell_far (p := ⟨gb886, 4, none⟩) (by first | (rw [add_block]; exact hn890_4) | (show (Addr.add _ _).block ≠ _; rw [add_block]; exact hn890_4) | exact hn890_4) (.slice none 0 0)).trans hx890_2; replace hx890_3 := (cell_far (p := ⟨gb886, 4, none⟩) (by first | (rw [add_block]; exact hn890_4) | (show (Addr.add _ _).block ≠ _; rw [add_block]; exact hn890_4) | exact hn890_4) (.slice none 0 0)).trans hx890_3; replace hx890_4 := (cell_far (p := ⟨gb886, 4, none⟩) (by first | (rw [add_block]; exact hn890_4) | (show (Addr.add _ _).block ≠ _; rw [add_block]; exact hn890_4) | exact hn890_4) (.slice none 0 0)).trans hx890_4; clear hn890_0; clear hn890_1; clear hn890_2; clear hn890_3; clear hn890_4; replace p890 := eq_true p890; replace q890 := eq_true q890) | ((with_reducible refine gc_ (f := 121) rfl ?_); refine gL_ (some 67) Try.func121 #[.slice (some ad890) l0.length c0, .agg #[.slice A1 l1.length c1, .bool false, .string a2, .int .i64 a3, .slice A890_4 ((rd_T59 l0 t877).f4).length c890_4]] ?_; (with_reducible refine (spec_l11Put.calls kj6 _ _ l0 _ _ l1 false a2 a3 _ _ ((rd_T59 l0 t877).f4) t891 _ ?s1 ?s2 ?s3 ?s4 ?s5 ?s6 A36.out).mono ?_); (case s1 => exact Kd.C_below HR0.out (bG_ GE886.out)); (case s2 => exact HC0.out); (case s3 => exact Kd.C_below HR1.out (bG_ GE886.out)); (case s4 => exact HC1.out); (case s5 => exact Kd.C_below HR890_4.out (bG_ GE886.out)); (case s6 => exact HC890_4.out); rintro e w39 ⟨v892, rfl, ho0, hb⟩; refine ⟨_, rfl, ?_⟩; have HO893 := A_ (Kd.S_lower (Kd.S_newB ho0 (g := gb886) (o := .cells #[.slice A1 l1.length c1, .bool false, .string a2, .int .i64 a3, .slice A890_4 ((rd_T59 l0 t877).f4).length c890_4] 59 (0, 0)) (by (with_reducible repeat (first | refine blk_drewN ?_ _ | refine blk_drew ?_ | refine blk_alloc ?_ _)); refine blk_put (cs := #[.slice A1 l1.length c1, .bool false, .string a2, .int .i64 a3, .slice none 0 0]) ?_ 4 _ rfl; (with_reducible repeat (first | refine blk_drewN ?_ _ | refine blk_drew ?_ | refine blk_alloc ?_ _)); refine blk_put (cs := #[.slice A1 l1.length c1, .bool false, .string a2, .int .i64 a3, .slice none 0 0]) ?_ 4 _ rfl; (with_reducible repeat (first | refine blk_drewN ?_ _ | refine blk_drew ?_ | refine blk_alloc ?_ _)); refine blk_put (cs := #[.slice A1 l1.length c1, .bool false, .string a2, .int .i64 0, .slice none 0 0]) ?_ 3 _ rfl; (with_reducible repeat (first | refine blk_drewN ?_ _ | refine blk_drew ?_ | refine blk_alloc ?_ _)); refine blk_put (cs := #[.slice A1 l1.length c1, .bool false, .string (⟨#[]⟩ : ByteArray), .int .i64 0, .slice none 0 0]) ?_ 2 _ rfl; (with_reducible repeat (first | refine blk_drewN ?_ _ | refine blk_drew ?_ | refine blk_alloc ?_ _)); refine blk_put (cs := #[.slice A1 l1.length c1, .bool false, .string (⟨#[]⟩ : ByteArray), .int .i64 0, .slice none 0 0]) ?_ 1 _ rfl; (with_reducible repeat (first | refine blk_drewN ?_ _ | refine blk_drew ?_ | refine blk_alloc ?_ _)); refine blk_put (cs := #[.slice none 0 0, .bool false, .string (⟨#[]⟩ : ByteArray), .int .i64 0, .slice none 0 0]) ?_ 0 _ rfl; (with_reducible repeat (first | refine blk_drewN ?_ _ | refine blk_drew ?_ | refine blk_alloc ?_ _)); exact BK886.out)) (below_size (bG_ GE886.out))); replace BK886 := A_ (blk_below (g := gb886) (o := .cells #[.slice A1 l1.length c1, .bool false, .string a2, .int .i64 a3, .slice A890_4 ((rd_T59 l0 t877).f4).length c890_4] 59 (0, 0)) (by (with_reducible repeat (first | refine blk_drewN ?_ _ | refine blk_drew ?_ | refine blk_alloc ?_ _)); refine blk_put (cs := #[.slice A1 l1.length c1, .bool false, .string a2, .int .i64 a3, .slice none 0 0]) ?_ 4 _ rfl; (with_reducible repeat (first | refine blk_drewN ?_ _ | refine blk_drew ?_ | refine blk_alloc ?_ _)); refine blk_put (cs := #[.slice A1 l1.length c1, .bool false, .string a2, .int .i64 a3, .slice none 0 0]) ?_ 4 _ rfl; (with_reducible repeat (first | refine blk_drewN ?_ _ | refine blk_drew ?_ | refine blk_alloc ?_ _)); refine blk_put (cs := #[.slice A1 l1.length c1, .bool false, .string a2, .int .i64 0, .slice none 0 0]) ?_ 3 _ rfl; (with_reducible repeat (first | refine blk_drewN ?_ _ | refine blk_drew ?_ | refine blk_alloc ?_ _)); refine blk_put (cs := #[.slice A1 l1.length c1, .bool false, .string (⟨#[]⟩ : ByteArray), .int .i64 0, .slice none 0 0]) ?_ 2 _ rfl; (with_reducible repeat (first | refine blk_drewN ?_ _ | refine blk_drew ?_ | refine blk_alloc ?_ _)); refine blk_put (cs := #[.slice A1 l1.length c1, .bool false, .string (⟨#[]⟩ : ByteArray), .int .i64 0, .slice none 0 0]) ?_ 1 _ rfl; (with_reducible repeat (first | refine blk_drewN ?_ _ | refine blk_drew ?_ | refine blk_alloc ?_ _)); refine blk_put (cs := #[.slice none 0 0, .bool false, .string (⟨#[]⟩ : ByteArray), .int .i64 0, .slice none 0 0]) ?_ 0 _ rfl; (with_reducible repeat (first | refine blk_drewN ?_ _ | refine blk_drew ?_ | refine blk_alloc ?_ _)); exact BK886.out) hb); replace HB := A_ (below_step (bG_ GE886.out) hb); (try clear hb); (try clear ho0)))
   go_ret2
   exact ⟨_, rr_, by (with_reducible repeat (first | apply Kd.S_alloc | apply Kd.S_drewN | apply Kd.S_drew)); exact Kd.S_mono HO893.out (fun _ hk => trivial), bG_ GE886.out⟩
mutual
def spec_l10Draw.l0 : Nat → List (S59) → Int → List Int → Int → Int → Option ((List (S59)) × Int × Int)
 | 0, _, _, _, _, _ => none
 | k + 1, x3, x4, x1000, x1001, x1002 => if x4 > 0 then ((spec_l10Path.f k x1000 x1001 x1002 x3).bind fun bt900 => ((spec_l1Once.f x1000 bt900.2.1 bt900.2.2 2).bind fun bt905 => (if bt905.1 = true then ((spec_l1Below.f x1000 bt905.2.1 bt905.2.2 9).bind fun bt908 => ((spec_MakeColl.f k x3 bt900.1 bt908.1).bind fun bt911 => (spec_l10Draw.j1 k bt911.1 x4 x1000 bt908.2.1 bt908.2.2))) else ((spec_l1Str.f x1000 bt905.2.1 bt905.2.2 (([(⟨#[]⟩ : ByteArray), (⟨#[120]⟩ : ByteArray), (⟨#[104, 101, 108, 108, 111]⟩ : ByteArray)] : List ByteArray))).bind fun bt918 => ((spec_l1Below.f x1000 bt918.2.1 bt918.2.2 9).bind fun bt921 => ((spec_PutFile.f k x3 bt900.1 bt918.1 bt921.1).bind fun bt924 => (spec_l10Draw.j1 k bt924.1 x4 x1000 bt921.2.1 bt921.2.2))))))) else (some (x3, x1001, x1002))
def spec_l10Draw.j1 : Nat → List (S59) → Int → List Int → Int → Int → Option ((List (S59)) × Int × Int)
 | 0, _, _, _, _, _ => none
 | k + 1, x3, x4, x1000, x1001, x1002 => if (x3.length : Int) > 0 then ((spec_l1Once.f x1000 x1001 x1002 3).bind fun bt928 => (spec_l10Draw.j2 k x3 x4 bt928.1 x1000 bt928.2.1 bt928.2.2)) else (spec_l10Draw.j2 k x3 x4 false x1000 x1001 x1002)
def spec_l10Draw.j2 : Nat → List (S59) → Int → Bool → List Int → Int → Int → Option ((List (S59)) × Int × Int)
 | 0, _, _, _, _, _, _ => none
 | k + 1, x3, x4, x43, x1000, x1001, x1002 => if x43 = true then ((spec_l1Below.f x1000 x1001 x1002 (x3.length : Int)).bind fun bt931 => ((spec_l10Props.f k x1000 bt931.2.1 bt931.2.2).bind fun bt934 => (if 0 ≤ bt931.1 then (if bt931.1 < (x3.length : Int) then (spec_l10Draw.l0 k (x3.set (bt931.1 : Int).toNat (⟨(rd_T59 x3 bt931.1).f0, (rd_T59 x3 bt931.1).f1, (rd_T59 x3 bt931.1).f2, (rd_T59 x3 bt931.1).f3, bt934.1⟩ : S59)) (wrap64 (x4 - 1)) x1000 bt934.2.1 bt934.2.2) else (none)) else (none)))) else (spec_l10Draw.l0 k x3 (wrap64 (x4 - 1)) x1000 x1001 x1002)
end
def spec_l10Draw.f (k : Nat) (s0_0 : List Int) (s0_1 : Int) (s0_2 : Int) : Option ((List (S59)) × Int × Int) := (spec_l1Below.f s0_0 s0_1 s0_2 10).bind fun bt897 => (spec_l10Draw.l0 k (([] : List (S59))) bt897.1 s0_0 bt897.2.1 bt897.2.2)
theorem spec_l10Draw.calls (k : Nat) (g : Nat) (s0_0 : List Int) (s0_1 : Int) (s0_2 : Int) (r1 : List (S59)) (r2 : Int) (r3 : Int) (w0 w : World) (hI : IsS94 w0 w g s0_0 s0_1 s0_2) (hB : Below w0.heap.size w0 w) (h : spec_l10Draw.f k s0_0 s0_1 s0_2 = some (r1, r2, r3)) :
 Calls Try.prog 86 #[.pointer (some ⟨g, 0, none⟩)] w fun e w' => ∃ v0_ : Value, e = .returned (v0_) ∧ Kd.S k59 59 w' w.heap.size (fun _ => True) v0_ r1 ∧ IsS94 w0 w' g s0_0 r2 r3 ∧ Below w0.heap.size w0 w' ∧ KeepBut w w' g none := by
 have HI0 := A_ hI
 have HK := A_ (KeepBut.refl w g none)
 have HL := A_ hB.size
 clear hI
 have HW0 := A_ hB.size
 have HB := A_ hB
 clear hB
 have H : ((spec_l1Below.f s0_0 s0_1 s0_2 10).bind fun bt897 => (spec_l10Draw.l0 k (([] : List (S59))) bt897.1 s0_0 bt897.2.1 bt897.2.2)) = some (r1, r2, r3) := h
 clear h
 obtain ⟨y894, hy894⟩ : ∃ y_ : List (S59), y_ = (([] : List (S59))) := ⟨_, rfl⟩
 replace H : ((spec_l1Below.f s0_0 s0_1 s0_2 10).bind fun bt897 => (spec_l10Draw.l0 k y894 bt897.1 s0_0 bt897.2.1 bt897.2.2)) = some (r1, r2, r3) := hy_ hy894 H
 have Ny894 := A_ hy894
 clear hy894
 obtain ⟨⟨t897, t898, t899⟩, A2, H⟩ := bo_ H
 (try dsimp only at H)
 have H' := A_ H
 clear H
 go_enter Try.func86, Try.ntmps86
 go_wp2_with (first | ((with_reducible refine gd_ (N := 6) rfl ?_); refine Kd.S_lit k59 _ 59 ?hg (N := 6) ?hd (xs := ([] : List (S59))) (inner := []) (ok := fun _ => True) (okp := fun _ => True) ?hr ?hp (fun _ hk => hk) trivial (Below.refl _ _) (Nat.le_refl _) (by simp) ?_; (case hd => rfl); (case hg => rfl); (case hr => first | (go_simp; done) | (go_simp; rfl)); (case hp => exact (Reps.none _ _)); intro v895 w3 ho4 hb hg_ hnew_; clear hg_ hnew_; (first | rw [← Ny894.out] at ho4 | (simp only [Int.reduceToNat] at ho4; rw [← Ny894.out] at ho4)); have HO896 := A_ (Kd.S_lower ho4 (keep_size (w := w) (g := g) (row := none) bK_)); replace HK := A_ (KeepBut.trans bK_ (KeepBut.of_below hb g none) (.inl rfl)); replace HB := A_ (below_step bIQx262_ hb); replace HI0 := A_ (IsS94.below bIQx261_ hb); clear hb ho4) | ((with_reducible refine gc_ (f := 102) rfl ?_); refine gL_ (some 8) Try.func102 #[.pointer (some ⟨g, 0, none⟩), .int .i64 10] ?_; (with_reducible refine (spec_l1Below.calls g s0_0 s0_1 s0_2 10 t897 t898 t899 w0 _ ?s1 ?s2 A2.out).mono ?_); (case s1 => exact bIQx261_); (case s2 => exact bIQx262_); rintro e w5 ⟨rfl, hi, hb, hk⟩; refine ⟨_, rfl, ?_⟩; replace HO896 := A_ (Kd.S_mono (Kd.S_keep (IsS94.apartS (show IsS94 w0 _ g s0_0 s0_1 s0_2 from bIQx261_) (vS_ HO896.out) (by decide)) hk (fun _ h => h.2)) (fun _ h => h.1)); replace HK := A_ (KeepBut.trans bK_ hk (.inl rfl)); replace HB := A_ (hb); replace HI0 := A_ (hi); (try clear hb); (try clear hk); (try clear hi)))
 go_loopg [3, 4] k (fun kq v3 v4 w' => ∃ (x3_1 : List (S59)) (x4_1 : Int) (x1001_1 : Int) (x1002_1 : Int), v4 = .int .i64 x4_1 ∧ Aside0 (spec_l10Draw.l0 kq x3_1 x4_1 s0_0 x1001_1 x1002_1 = some (r1, r2, r3)) ∧ Aside0 (kq ≤ k) ∧ Aside0 (Kd.S k59 59 w' w.heap.size (fun _ => True) v3 x3_1) ∧ Aside0 (IsS94 w0 w' g s0_0 x1001_1 x1002_1) ∧ Aside0 (KeepBut w w' g none) ∧ Aside0 (Below w0.heap.size w0 w'))
 case atStart => exact ⟨(y894), (t897), (t898), (t899), rs_, H', ⟨Nat.le_refl _⟩, ⟨vS_ HO896.out⟩, ⟨bIQx261_⟩, ⟨bK_⟩, ⟨bIQx262_⟩⟩
 case round =>
  clear H'
  try clear c1
  try clear p2
  obtain ⟨x3_1, x4_1, x1001_1, x1002_1, rfl, HA, HK1, HO_3, HI0, HK, HB⟩ := hrel
  cases gk with
  | zero => exact absurd HA.out (by simp [spec_l10Draw.l0])
  | succ k1 =>
   have H := HA.out
   clear HA
   simp only [spec_l10Draw.l0] at H
   by_cases c6 : x4_1 > 0
   rotate_left
   · rw [if_neg c6] at H
     have c6b0 : decide (0 < x4_1) = false := decide_eq_false c6
     clear c6
     simp only [Option.some.injEq, Prod.mk.injEq] at H
     obtain ⟨rfl, rfl, rfl⟩ := H
     go_wp2
     go_ret
     exact ⟨_, rr_, by (with_reducible repeat (first | apply Kd.S_alloc | apply Kd.S_drewN | apply Kd.S_drew)); exact HO_3.out, bIQx261_, bIQx262_, bK_⟩
   rw [if_pos c6] at H
   have c6b0 : decide (0 < x4_1) = true := decide_eq_true c6
   clear c6
   obtain ⟨⟨t900, t903, t904⟩, A7, H⟩ := bo_ H
   (try dsimp only at H)
   obtain ⟨⟨t905, t906, t907⟩, A8, H⟩ := bo_ H
   (try dsimp only at H)
   have HC9 := A_ H
   clear H
   obtain ⟨Ao10, co10, eo10⟩ := Kd.S_slice HO_3.out
   subst eo10
   go_upto_if 17 with (first | ((with_reducible refine gc_ (f := 87) rfl ?_); refine gL_ (some 15) Try.func87 #[.pointer (some ⟨g, 0, none⟩), .slice Ao10 x3_1.length co10] ?_; (with_reducible refine (spec_l10Path.calls k1 g s0_0 x1001_1 x1002_1 _ _ x3_1 t900 t903 t904 w0 _ ?s1 ?s2 ?s3 ?s4 A7.out).mono ?_); (case s1 => exact bIQx261_); (case s2 => exact bIQx262_); (case s3 => exact Kd.C_foot_own ((Kd.S_R (IsS94.apartS (show IsS94 w0 _ g s0_0 x1001_1 x1002_1 from bIQx261_) (vS_ HO_3.out) (by decide)))) (fun _ h_ => h_.2)); (case s4 => exact (Kd.S_reads' HO_3.out).2.1); rintro e w11 ⟨v901, rfl, ho0, hi, hb, hk⟩; refine ⟨_, rfl, ?_⟩; replace HO_3 := A_ (Kd.S_mono (Kd.S_told (Kd.S_oldK (IsS94.apartS (show IsS94 w0 _ g s0_0 x1001_1 x1002_1 from bIQx261_) (vS_ HO_3.out) (by decide)) hk) (kb_ ho0)) (fun _ h_ => h_.1)); have HO902 := A_ (Kd.R_lower ho0 (keep_size (w := w) (g := g) (row := none) bK_)); replace HK := A_ (KeepBut.trans bK_ hk (.inl rfl)); replace HB := A_ (hb); replace HI0 := A_ (hi); (try clear hb); (try clear hk); (try clear hi); (try clear ho0)) | ((with_reducible refine gc_ (f := 90) rfl ?_); refine gL_ (some 17) Try.func90 #[.pointer (some ⟨g, 0, none⟩), .int .i64 2] ?_; (with_reducible refine (spec_l1Once.calls g s0_0 t903 t904 2 t905 t906 t907 w0 _ ?s1 ?s2 A8.out).mono ?_); (case s1 => exact bIQx261_); (case s2 => exact bIQx262_); rintro e w12 ⟨rfl, hi, hb, hk⟩; refine ⟨_, rfl, ?_⟩; replace HO_3 := A_ (Kd.S_mono (Kd.S_keep (IsS94.apartS (show IsS94 w0 _ g s0_0 t903 t904 from bIQx261_) (vS_ HO_3.out) (by decide)) hk (fun _ h => h.2)) (fun _ h => h.1)); replace HO902 := A_ (Kd.R_mono (Kd.R_keep (IsS94.apart (show IsS94 w0 _ g s0_0 t903 t904 from bIQx261_) (vR_ HO902.out) (by decide)) hk (fun _ h => h.2)) (fun _ h => h.1)); replace HK := A_ (KeepBut.trans bK_ hk (.inl rfl)); replace HB := A_ (hb); replace HI0 := A_ (hi); (try clear hb); (try clear hk); (try clear hi)))
   (try simp only [Act.put, List.setIfInBounds_toArray, List.set_cons_zero, List.set_cons_succ])
   go_cut [3] (fun v3 wc => ∃ (kq : Nat) (x3_8 : List (S59)) (x1001_8 : Int) (x1002_8 : Int), Aside0 (spec_l10Draw.j1 kq x3_8 x4_1 s0_0 x1001_8 x1002_8 = some (r1, r2, r3)) ∧ Aside0 (kq ≤ k1) ∧ Aside0 (Kd.S k59 59 wc w.heap.size (fun _ => True) v3 x3_8) ∧ Aside0 (IsS94 w0 wc g s0_0 x1001_8 x1002_8) ∧ Aside0 (KeepBut w wc g none) ∧ Aside0 (Below w0.heap.size w0 wc))
   case first =>
    have H := HC9.out
    clear HC9
    by_cases c13 : t905 = true
    · subst c13
      rw [if_pos rfl] at H
      obtain ⟨⟨t908, t909, t910⟩, A14, H⟩ := bo_ H
      (try dsimp only at H)
      obtain ⟨⟨t911, t914⟩, A15, H⟩ := bo_ H
      (try dsimp only at H)
      have H' := A_ H
      clear H
      go_wp2_with (first | ((with_reducible refine gc_ (f := 102) rfl ?_); refine gL_ (some 22) Try.func102 #[.pointer (some ⟨g, 0, none⟩), .int .i64 9] ?_; (with_reducible refine (spec_l1Below.calls g s0_0 t906 t907 9 t908 t909 t910 w0 _ ?s1 ?s2 A14.out).mono ?_); (case s1 => exact bIQx261_); (case s2 => exact bIQx262_); rintro e w16 ⟨rfl, hi, hb, hk⟩; refine ⟨_, rfl, ?_⟩; replace HO_3 := A_ (Kd.S_mono (Kd.S_keep (IsS94.apartS (show IsS94 w0 _ g s0_0 t906 t907 from bIQx261_) (vS_ HO_3.out) (by decide)) hk (fun _ h => h.2)) (fun _ h => h.1)); replace HO902 := A_ (Kd.R_mono (Kd.R_keep (IsS94.apart (show IsS94 w0 _ g s0_0 t906 t907 from bIQx261_) (vR_ HO902.out) (by decide)) hk (fun _ h => h.2)) (fun _ h => h.1)); replace HK := A_ (KeepBut.trans bK_ hk (.inl rfl)); replace HB := A_ (hb); replace HI0 := A_ (hi); (try clear hb); (try clear hk); (try clear hi); obtain ⟨Ao17, co17, eo17⟩ := Kd.R_slice HO902.out; subst eo17) | ((with_reducible refine gc_ (f := 103) rfl ?_); refine gL_ (some 23) Try.func103 #[.slice Ao10 x3_1.length co10, .slice Ao17 t900.length co17, .int .i64 t908] ?_; (with_reducible refine (spec_MakeColl.calls k1 (fun k_ => ((True ∧ some k_ ≠ (.slice Ao17 t900.length co17 : Value).ownBlock) ∧ k_ ≠ g)) _ _ x3_1 (fun k_ => some k_ = (.slice Ao17 t900.length co17 : Value).ownBlock) _ _ t900 t908 t911 t914 _ ?s1 ?s2 A15.out).mono ?_); (case s1 => exact Kd.S_V (IsS94.apartS HI0.out (HO_3.out) (by decide))); (case s2 => exact Kd.R_V (Kd.R_tight rfl (IsS94.apart HI0.out (Kd.R_apart' (HO902.out) (Kd.S_typed HO_3.out) (by decide)) (by decide)))); rintro e w18 ⟨v912, rfl, ho0, hb⟩; refine ⟨_, rfl, ?_⟩; have HO913 := A_ (Kd.S_lower (Kd.S_new' (Kd.S_new' (Kd.S_mono (ok' := fun k_ => True) ho0 (fun _ hk_ => trivial)) (Kd.S_lt (vS_ HO_3.out))) (Kd.R_lt (vR_ HO902.out))) (keep_size (w := w) (g := g) (row := none) bK_)); replace HO_3 := A_ (Kd.S_elder' (vS_ HO_3.out) (kb_ ho0) hb); replace HO902 := A_ (Kd.R_below (vR_ HO902.out) hb); replace HK := A_ (KeepBut.trans bK_ (KeepBut.of_below hb g none) (.inl rfl)); replace HB := A_ (below_step bIQx262_ hb); replace HI0 := A_ (IsS94.below bIQx261_ hb); (try clear hb); (try clear hk); (try clear hi); (try clear ho0)))
      go_meet
      case rel => exact ⟨_, (t911), (t909), (t910), H', ⟨by have := HK1.out; first | omega | exact Nat.le_refl _⟩, ⟨by (with_reducible repeat (first | apply Kd.S_alloc | apply Kd.S_drewN | apply Kd.S_drew)); exact Kd.S_mono HO913.out (fun _ hk => trivial)⟩, ⟨bIQx261_⟩, ⟨bK_⟩, ⟨bIQx262_⟩⟩
    · replace c13 := Bool.eq_false_iff.mpr c13
      subst c13
      rw [if_neg nf_] at H
      obtain ⟨y915, hy915⟩ : ∃ y_ : List ByteArray, y_ = (([(⟨#[]⟩ : ByteArray), (⟨#[120]⟩ : ByteArray), (⟨#[104, 101, 108, 108, 111]⟩ : ByteArray)] : List ByteArray)) := ⟨_, rfl⟩
      replace H : ((spec_l1Str.f s0_0 t906 t907 y915).bind fun bt918 => ((spec_l1Below.f s0_0 bt918.2.1 bt918.2.2 9).bind fun bt921 => ((spec_PutFile.f k1 x3_1 t900 bt918.1 bt921.1).bind fun bt924 => (spec_l10Draw.j1 k1 bt924.1 x4_1 s0_0 bt921.2.1 bt921.2.2)))) = some (r1, r2, r3) := hy_ hy915 H
      have Ny915 := A_ hy915
      clear hy915
      obtain ⟨⟨t918, t919, t920⟩, A19, H⟩ := bo_ H
      (try dsimp only at H)
      obtain ⟨⟨t921, t922, t923⟩, A20, H⟩ := bo_ H
      (try dsimp only at H)
      obtain ⟨⟨t924, t925⟩, A21, H⟩ := bo_ H
      (try dsimp only at H)
      have H' := A_ H
      clear H
      go_wp2_with (first | ((with_reducible refine gd_ (N := 30) rfl ?_); refine Kd.R_lit Kd.string _ 9 ?hg (N := 30) ?hd (xs := ([(⟨#[]⟩ : ByteArray), (⟨#[120]⟩ : ByteArray), (⟨#[104, 101, 108, 108, 111]⟩ : ByteArray)] : List ByteArray)) (inner := [.string (⟨#[]⟩ : ByteArray), .string (⟨#[120]⟩ : ByteArray), .string (⟨#[104, 101, 108, 108, 111]⟩ : ByteArray)]) (ok := fun _ => True) (okp := fun _ => True) ?hr ?hp (fun _ hk => hk) trivial (Below.refl _ _) (Nat.le_refl _) (by simp) ?_; (case hd => rfl); (case hg => rfl); (case hr => first | (go_simp; done) | (go_simp; rfl)); (case hp => exact (Reps.one (show Kd.M Kd.string _ _ _ (⟨#[]⟩ : ByteArray) [.string (⟨#[]⟩ : ByteArray)] from rfl) (Reps.one (show Kd.M Kd.string _ _ _ (⟨#[120]⟩ : ByteArray) [.string (⟨#[120]⟩ : ByteArray)] from rfl) (Reps.one (show Kd.M Kd.string _ _ _ (⟨#[104, 101, 108, 108, 111]⟩ : ByteArray) [.string (⟨#[104, 101, 108, 108, 111]⟩ : ByteArray)] from rfl) (Reps.none _ _))))); intro v916 w22 ho23 hb hg_ hnew_; clear hg_ hnew_; (first | rw [← Ny915.out] at ho23 | (simp only [Int.reduceToNat] at ho23; rw [← Ny915.out] at ho23)); replace HO_3 := A_ (Kd.S_elder' (vS_ HO_3.out) (kb_ ho23) hb); have HO917 := A_ (Kd.R_lower (Kd.R_new' ho23 (Kd.R_lt (vR_ HO902.out))) (keep_size (w := w) (g := g) (row := none) bK_)); replace HO902 := A_ (Kd.R_elder' (vR_ HO902.out) (kb_ ho23) hb); replace HK := A_ (KeepBut.trans bK_ (KeepBut.of_below hb g none) (.inl rfl)); replace HB := A_ (below_step bIQx262_ hb); replace HI0 := A_ (IsS94.below bIQx261_ hb); clear hb ho23; obtain ⟨Ao24, co24, eo24⟩ := Kd.R_slice HO917.out; subst eo24) | ((with_reducible refine gc_ (f := 91) rfl ?_); refine gL_ (some 31) Try.func91 #[.pointer (some ⟨g, 0, none⟩), .slice Ao24 y915.length co24] ?_; (with_reducible refine (spec_l1Str.calls g s0_0 t906 t907 _ _ y915 t918 t919 t920 w0 _ ?s1 ?s2 ?s3 ?s4 ?s5 A19.out).mono ?_); (case s1 => exact bIQx261_); (case s2 => exact bIQx262_); (case s3 => exact cC_ (Kd.R_reads' HO917.out).2.2); (case s4 => exact (Kd.R_reads' HO917.out).2.1); (case s5 => exact far_slice (IsS94.own_ne HI0.out HO917.out (by decide))); rintro e w25 ⟨rfl, hi, hb, hk⟩; refine ⟨_, rfl, ?_⟩; replace HO_3 := A_ (Kd.S_mono (Kd.S_keep (IsS94.apartS (show IsS94 w0 _ g s0_0 t906 t907 from bIQx261_) (vS_ HO_3.out) (by decide)) hk (fun _ h => h.2)) (fun _ h => h.1)); replace HO902 := A_ (Kd.R_mono (Kd.R_keep (IsS94.apart (show IsS94 w0 _ g s0_0 t906 t907 from bIQx261_) (vR_ HO902.out) (by decide)) hk (fun _ h => h.2)) (fun _ h => h.1)); replace HO917 := A_ (Kd.R_mono (Kd.R_keep (IsS94.apart (show IsS94 w0 _ g s0_0 t906 t907 from bIQx261_) (vR_ HO917.out) (by decide)) hk (fun _ h => h.2)) (fun _ h => h.1)); replace HK := A_ (KeepBut.trans bK_ hk (.inl rfl)); replace HB := A_ (hb); replace HI0 := A_ (hi); (try clear hb); (try clear hk); (try clear hi)) | ((with_reducible refine gc_ (f := 102) rfl ?_); refine gL_ (some 33) Try.func102 #[.pointer (some ⟨g, 0, none⟩), .int .i64 9] ?_; (with_reducible refine (spec_l1Below.calls g s0_0 t919 t920 9 t921 t922 t923 w0 _ ?s1 ?s2 A20.out).mono ?_); (case s1 => exact bIQx261_); (case s2 => exact bIQx262_); rintro e w26 ⟨rfl, hi, hb, hk⟩; refine ⟨_, rfl, ?_⟩; replace HO_3 := A_ (Kd.S_mono (Kd.S_keep (IsS94.apartS (show IsS94 w0 _ g s0_0 t919 t920 from bIQx261_) (vS_ HO_3.out) (by decide)) hk (fun _ h => h.2)) (fun _ h => h.1)); replace HO902 := A_ (Kd.R_mono (Kd.R_keep (IsS94.apart (show IsS94 w0 _ g s0_0 t919 t920 from bIQx261_) (vR_ HO902.out) (by decide)) hk (fun _ h => h.2)) (fun _ h => h.1)); replace HO917 := A_ (Kd.R_mono (Kd.R_keep (IsS94.apart (show IsS94 w0 _ g s0_0 t919 t920 from bIQx261_) (vR_ HO917.out) (by decide)) hk (fun _ h => h.2)) (fun _ h => h.1)); replace HK := A_ (KeepBut.trans bK_ hk (.inl rfl)); replace HB := A_ (hb); replace HI0 := A_ (hi); (try clear hb); (try clear hk); (try clear hi); obtain ⟨Ao27, co27, eo27⟩ := Kd.R_slice HO902.out; subst eo27) | ((with_reducible refine gc_ (f := 104) rfl ?_); refine gL_ (some 34) Try.func104 #[.slice Ao10 x3_1.length co10, .slice Ao27 t900.length co27, .string t918, .int .i64 t921] ?_; (with_reducible refine (spec_PutFile.calls k1 _ _ x3_1 _ _ t900 t918 t921 t924 t925 _ ?s1 ?s2 ?s3 ?s4 A21.out).mono ?_); (case s1 => exact cC_ (Kd.S_reads' HO_3.out).2.2); (case s2 => exact (Kd.S_reads' HO_3.out).2.1); (case s3 => exact cC_ (Kd.R_reads' HO902.out).2.2); (case s4 => exact (Kd.R_reads' HO902.out).2.1); rintro e w28 ⟨v926, rfl, ho0, hb⟩; refine ⟨_, rfl, ?_⟩; have HO927 := A_ (Kd.S_lower (Kd.S_new' (Kd.S_new' (Kd.S_new' ho0 (Kd.S_lt (vS_ HO_3.out))) (Kd.R_lt (vR_ HO902.out))) (Kd.R_lt (vR_ HO917.out))) (keep_size (w := w) (g := g) (row := none) bK_)); replace HO_3 := A_ (Kd.S_elder' (vS_ HO_3.out) (kb_ ho0) hb); replace HO902 := A_ (Kd.R_below (vR_ HO902.out) hb); replace HO917 := A_ (Kd.R_below (vR_ HO917.out) hb); replace HK := A_ (KeepBut.trans bK_ (KeepBut.of_below hb g none) (.inl rfl)); replace HB := A_ (below_step bIQx262_ hb); replace HI0 := A_ (IsS94.below bIQx261_ hb); (try clear hb); (try clear hk); (try clear hi); (try clear ho0)))
      go_meet
      case rel => exact ⟨_, (t924), (t922), (t923), H', ⟨by have := HK1.out; first | omega | exact Nat.le_refl _⟩, ⟨by (with_reducible repeat (first | apply Kd.S_alloc | apply Kd.S_drewN | apply Kd.S_drew)); exact Kd.S_mono HO927.out (fun _ hk => trivial)⟩, ⟨bIQx261_⟩, ⟨bK_⟩, ⟨bIQx262_⟩⟩
   case rest =>
    clear HC9
    try clear c1
    try clear p2
    try clear c6
    try clear c6b0
    try clear c8
    try clear c9
    try clear c10
    try clear c13
    try clear p2
    obtain ⟨kq, x3_8, x1001_8, x1002_8, HA, HJ8, HO_3, HI0, HK, HB⟩ := hcut
    cases kq with
    | zero => exact absurd HA.out (by simp [spec_l10Draw.j1])
    | succ kj8 =>
     have H := HA.out
     clear HA
     simp only [spec_l10Draw.j1] at H
     have HC29 := A_ H
     clear H
     go_upto_region 9 with (fail)
     go_cut [43] (fun v43 wc => ∃ (kq : Nat) (x43_28 : Bool) (x1001_28 : Int) (x1002_28 : Int), v43 = .bool x43_28 ∧ Aside0 (spec_l10Draw.j2 kq x3_8 x4_1 x43_28 s0_0 x1001_28 x1002_28 = some (r1, r2, r3)) ∧ Aside0 (kq ≤ kj8) ∧ Aside0 (Kd.S k59 59 wc w.heap.size (fun _ => True) u3 x3_8) ∧ Aside0 (IsS94 w0 wc g s0_0 x1001_28 x1002_28) ∧ Aside0 (KeepBut w wc g none) ∧ Aside0 (Below w0.heap.size w0 wc))
     case first =>
      have H := HC29.out
      clear HC29
      by_cases c30 : (x3_8.length : Int) > 0
      rotate_left
      · rw [if_neg c30] at H
        have c30b0 : decide (0 < (x3_8.length : Int)) = false := decide_eq_false c30
        have c30b1 : decide (0 < x3_8.length) = false := decide_eq_false (by omega)
        clear c30
        (first | rw [c30b0] | (simp only [i64_w, i32_w]; rw [c30b0]) | skip)
        have H' := A_ H
        clear H
        obtain ⟨Ao34, co34, eo34⟩ := Kd.S_slice HO_3.out
        subst eo34
        go_wp2
        go_meet
        case rel => exact ⟨_, (false), (x1001_8), (x1002_8), rs_, H', ⟨by have := HK1.out; have := HJ8.out; first | omega | exact Nat.le_refl _⟩, ⟨vS_ HO_3.out⟩, ⟨bIQx261_⟩, ⟨bK_⟩, ⟨bIQx262_⟩⟩
      rw [if_pos c30] at H
      have c30b0 : decide (0 < (x3_8.length : Int)) = true := decide_eq_true c30
      have c30b1 : decide (0 < x3_8.length) = true := decide_eq_true (by omega)
      clear c30
      (first | rw [c30b0] | (simp only [i64_w, i32_w]; rw [c30b0]) | skip)
      obtain ⟨⟨t928, t929, t930⟩, A31, H⟩ := bo_ H
      (try dsimp only at H)
      have H' := A_ H
      clear H
      obtain ⟨Ao32, co32, eo32⟩ := Kd.S_slice HO_3.out
      subst eo32
      go_wp2_with (first | (go_at_call 90; (with_reducible refine (spec_l1Once.calls g s0_0 x1001_8 x1002_8 3 t928 t929 t930 w0 _ ?s1 ?s2 A31.out).mono ?_); (case s1 => exact bIQx261_); (case s2 => exact bIQx262_); rintro e w33 ⟨rfl, hi, hb, hk⟩; replace HO_3 := A_ (Kd.S_mono (Kd.S_keep (IsS94.apartS (show IsS94 w0 _ g s0_0 x1001_8 x1002_8 from bIQx261_) (vS_ HO_3.out) (by decide)) hk (fun _ h => h.2)) (fun _ h => h.1)); replace HK := A_ (KeepBut.trans bK_ hk (.inl rfl)); replace HB := A_ (hb); replace HI0 := A_ (hi); (try clear hb); (try clear hk); (try clear hi)))
      go_meet
      case rel => exact ⟨_, (t928), (t929), (t930), rs_, H', ⟨by have := HK1.out; have := HJ8.out; first | omega | exact Nat.le_refl _⟩, ⟨vS_ HO_3.out⟩, ⟨bIQx261_⟩, ⟨bK_⟩, ⟨bIQx262_⟩⟩
     case rest =>
      clear HC29
      try clear c1
      try clear p2
      try clear c3
      try clear c6
      try clear c6b0
      try clear c8
      try clear c9
      try clear c10
      try clear c13
      try clear c30
      try clear c30b0
      try clear c30b1
      try clear p2
      obtain ⟨kq, x43_28, x1001_28, x1002_28, rfl, HA, HJ28, HO_3, HI0, HK, HB⟩ := hcut
      cases kq with
      | zero => exact absurd HA.out (by simp [spec_l10Draw.j2])
      | succ kj28 =>
       have H := HA.out
       clear HA
       simp only [spec_l10Draw.j2] at H
       by_cases c35 : x43_28 = true
       · subst c35
         rw [if_pos rfl] at H
         obtain ⟨⟨t931, t932, t933⟩, A36, H⟩ := bo_ H
         (try dsimp only at H)
         obtain ⟨⟨t934, t937, t938⟩, A37, H⟩ := bo_ H
         (try dsimp only at H)
         by_cases c38 : 0 ≤ t931
         rotate_left
         · exact absurd H (by rw [if_neg c38]; simp)
         rw [if_pos c38] at H
         have c38b0 : decide (0 ≤ t931) = true := decide_eq_true c38
         clear c38
         by_cases c39 : t931 < (x3_8.length : Int)
         rotate_left
         · exact absurd H (by rw [if_neg c39]; simp)
         rw [if_pos c39] at H
         have c39b0 : decide (t931 < (x3_8.length : Int)) = true := decide_eq_true c39
         clear c39
         obtain ⟨y939, hy939⟩ : ∃ y_ : List (S59), y_ = (x3_8.set (t931 : Int).toNat (⟨(rd_T59 x3_8 t931).f0, (rd_T59 x3_8 t931).f1, (rd_T59 x3_8 t931).f2, (rd_T59 x3_8 t931).f3, t934⟩ : S59)) := ⟨_, rfl⟩
         replace H : (spec_l10Draw.l0 kj28 y939 (wrap64 (x4_1 - 1)) s0_0 t937 t938) = some (r1, r2, r3) := hy_ hy939 H
         have Ny939 := A_ hy939
         clear hy939
         have H' := A_ H
         clear H
         obtain ⟨Ao41, co41, eo41⟩ := Kd.S_slice HO_3.out
         subst eo41
         go_wp2_with (first | ((with_reducible refine gc_ (f := 102) rfl ?_); refine gL_ (some 48) Try.func102 #[.pointer (some ⟨g, 0, none⟩), .int .i64 (x3_8.length : Int)] ?_; (with_reducible refine (spec_l1Below.calls g s0_0 x1001_28 x1002_28 (x3_8.length : Int) t931 t932 t933 w0 _ ?s1 ?s2 A36.out).mono ?_); (case s1 => exact bIQx261_); (case s2 => exact bIQx262_); rintro e w42 ⟨rfl, hi, hb, hk⟩; refine ⟨_, rfl, ?_⟩; replace HO_3 := A_ (Kd.S_mono (Kd.S_keep (IsS94.apartS (show IsS94 w0 _ g s0_0 x1001_28 x1002_28 from bIQx261_) (vS_ HO_3.out) (by decide)) hk (fun _ h => h.2)) (fun _ h => h.1)); replace HK := A_ (KeepBut.trans bK_ hk (.inl rfl)); replace HB := A_ (hb); replace HI0 := A_ (hi); (try clear hb); (try clear hk); (try clear hi)) | ((with_reducible refine gc_ (f := 89) rfl ?_); refine gL_ (some 50) Try.func89 #[.pointer (some ⟨g, 0, none⟩)] ?_; (with_reducible refine (spec_l10Props.calls kj28 g s0_0 t932 t933 t934 t937 t938 w0 _ ?s1 ?s2 A37.out).mono ?_); (case s1 => exact bIQx261_); (case s2 => exact bIQx262_); rintro e w43 ⟨v935, rfl, ho0, hi, hb, hk⟩; refine ⟨_, rfl, ?_⟩; replace HO_3 := A_ (Kd.S_mono (Kd.S_told (Kd.S_oldK (IsS94.apartS (show IsS94 w0 _ g s0_0 t932 t933 from bIQx261_) (vS_ HO_3.out) (by decide)) hk) (kb_ ho0)) (fun _ h_ => h_.1)); have HO936 := A_ (Kd.R_lower ho0 (keep_size (w := w) (g := g) (row := none) bK_)); replace HK := A_ (KeepBut.trans bK_ hk (.inl rfl)); replace HB := A_ (hb); replace HI0 := A_ (hi); (try clear hb); (try clear hk); (try clear hi); (try clear ho0); have p40 : 0 ≤ (t931 : Int) := od_; have q40 : (t931 : Int) < ((x3_8.length : Int) : Int) := od_; obtain ⟨go40, co40, eo40, gb40, gl40, cl40, HG40⟩ := Kd.S_form HO_3.out (by omega); (first | cases eo40 | (injection eo40 with ea_ en_ ec_; (first | subst ea_ | (injection ea_ with ea_; subst ea_)); subst ec_; clear en_)); have GB40 := A_ gb40; have GG40 := A_ HG40; clear gb40 gl40 HG40; obtain ⟨_, ce40, hcl40, hM40, hcc40, hfr40, _, _⟩ := Kd.S_elem HO_3.out z59 (t931 : Int) p40 q40; obtain ⟨ve40_0, ve40_4, rfl, ge40_0, ge40_4⟩ := k59_openM hM40; have hx40_0 : w43.cell? ⟨go40, (t931 : Int).toNat * 5, none⟩ = some (ve40_0) := hcc40 0 _ rfl; have hx40_1 : w43.cell? ⟨go40, (t931 : Int).toNat * 5 + 1, none⟩ = some (.bool ((rd_T59 x3_8 t931).f1)) := hcc40 1 _ rfl; have hx40_2 : w43.cell? ⟨go40, (t931 : Int).toNat * 5 + 2, none⟩ = some (.string ((rd_T59 x3_8 t931).f2)) := hcc40 2 _ rfl; have hx40_3 : w43.cell? ⟨go40, (t931 : Int).toNat * 5 + 3, none⟩ = some (.int .i64 ((rd_T59 x3_8 t931).f3)) := hcc40 3 _ rfl; have hx40_4 : w43.cell? ⟨go40, (t931 : Int).toNat * 5 + 4, none⟩ = some (ve40_4) := hcc40 4 _ rfl; have hf40_0 : w43.frozen? ⟨go40, (t931 : Int).toNat * 5, none⟩ = false := hfr40 0; have hf40_1 : w43.frozen? ⟨go40, (t931 : Int).toNat * 5 + 1, none⟩ = false := hfr40 1; have hf40_2 : w43.frozen? ⟨go40, (t931 : Int).toNat * 5 + 2, none⟩ = false := hfr40 2; have hf40_3 : w43.frozen? ⟨go40, (t931 : Int).toNat * 5 + 3, none⟩ = false := hfr40 3; have hf40_4 : w43.frozen? ⟨go40, (t931 : Int).toNat * 5 + 4, none⟩ = false := hfr40 4; (try clear hcl40); (try clear hcc40); (try clear hfr40); (try clear hM40); replace p40 := eq_true p40; replace q40 := eq_true q40; obtain ⟨Ao46, co46, eo46⟩ := Kd.R_slice HO936.out; subst eo46; have n_ := A_ (Kd.S_mono (ok' := (fun k_ => some k_ ≠ (.slice Ao46 t934.length co46 : Value).ownBlock)) HO_3.out (fun k_ hk => hk.2)); clear HO_3; have HO_3 := n_; clear n_; have HX44 := A_ (show Kd.S k59 59 w43 w.heap.size (fun k_ => ((fun _ => True)) k_ ∧ ¬ ((fun k_ => some k_ = (.slice Ao46 t934.length co46 : Value).ownBlock)) k_) (.slice (some ⟨go40, 0, none⟩) x3_8.length co41) x3_8 from (by (with_reducible repeat (first | apply Kd.S_alloc | apply Kd.S_drewN | apply Kd.S_drew)); exact Kd.S_mono HO_3.out (fun k_ hk => ⟨trivial, fun e_ => hk e_⟩))); obtain ⟨oki44, ce44, hcl44, hM44, hcc44, hfr44, hoki44, hH44⟩ := Kd.S_elem HX44.out z59 (t931 : Int) od_ (by have h_ : (t931 : Int) < ((x3_8.length : Int) : Int) := od_; first | exact h_ | (have e_ := (Kd.S_reads' HO_3.out).1; omega) | simpa using h_); obtain ⟨ve44_0, ve44_4, rfl, ge44_0, ge44_4⟩ := k59_openM hM44; have HP44 := Kd.S_seg hH44 od_ (by have h_ : (t931 : Int) < ((x3_8.length : Int) : Int) := od_; first | exact h_ | (have e_ := (Kd.S_reads' HO_3.out).1; omega) | simpa using h_) (seg := [.slice Ao46 t934.length co46]) (j := 4) (show 5 ≤ 5 from by decide) (x' := (⟨(rd_T59 x3_8 t931).f0, (rd_T59 x3_8 t931).f1, (rd_T59 x3_8 t931).f2, (rd_T59 x3_8 t931).f3, t934⟩ : S59)) (k59_mkM _ _ _ (⟨(rd_T59 x3_8 t931).f0, (rd_T59 x3_8 t931).f1, (rd_T59 x3_8 t931).f2, (rd_T59 x3_8 t931).f3, t934⟩ : S59) (Kd.R_mono ge44_0 (fun _ h_ => Or.inl h_)) (Kd.R_mono (Kd.R_tight rfl (Kd.R_mono (ok' := fun k_ => ((fun _ => True)) k_ ∧ k_ ≠ go40) (Kd.R_apart' (HO936.out) (Kd.S_typed HO_3.out) (by decide)) (fun k_ hk => ⟨trivial, fun e_ => (hk.2) (by rw [e_]; rfl)⟩))) (fun _ h_ => Or.inr (h_)))) (fun _ hk => hk) (fun k_ hk_ => ((Kd.R_mono (ok' := fun k_ => ((fun _ => True)) k_ ∧ k_ ≠ go40) (Kd.R_apart' (HO936.out) (Kd.S_typed HO_3.out) (by decide)) (fun k_ hk => ⟨trivial, fun e_ => (hk.2) (by rw [e_]; rfl)⟩))).1 k_ hk_.symm); have hx44_4 := hcc44 4 _ rfl; (try simp only [show (k59).sz = 5 from rfl, Nat.mul_one, Nat.add_zero] at hx44_4); have hf44_4 := hfr44 4; (try simp only [show (k59).sz = 5 from rfl, Nat.mul_one, Nat.add_zero] at hf44_4); (try clear hcl44); (try clear hcc44); (try clear hfr44); (try clear hM44); (try clear hoki44); (try clear hH44)) | ((with_reducible refine gate_store (t := 31) (p := 52) rfl ?_); refine store_event (t := 31) (p := 52) (v := ?vo_w45) (w1 := (w43.setCell ⟨go40, (t931 : Int).toNat * 5 + 4, none⟩ (.slice Ao46 t934.length co46))) ?hg ?ho ?hn ?hr ?_; (case ho => rfl); (case hg => rfl); (case hn => rfl); (case hr => first | (go_simp; done) | (go_simp; rfl)); intro w45 hw; have hg : w43.grownBy w45 (some go40) := (by rw [hw]; exact HP44.2); have hp_ : Kd.S k59 59 w45 w.heap.size (fun _ => True) (.slice (some ⟨go40, 0, none⟩) x3_8.length co41) y939 := (by rw [hw, Ny939.out]; exact HP44.1); clear HP44; replace HI0 := A_ (IsS94.grown bIQx261_ hg (IsS94.own_neS HI0.out HO_3.out (by decide))); replace HB := A_ ((by rw [hw]; exact below_set (HB.out) (Nat.le_trans HL.out GB40.out) : Below w0.heap.size w0 w45)); replace HK := A_ (KeepBut.trans bK_ (KeepBut.of_grown hg g) (Kd.S_base2 HO_3.out)); replace HO_3 := A_ (hp_); clear HO936; clear hg hw hp_))
         go_roundg kj28
         case measure => have := HK1.out; have := HJ8.out; have := HJ28.out; omega
         case rel => exact ⟨(y939), (wrap64 (x4_1 - 1)), (t937), (t938), rs_, H', ⟨by have := HK1.out; have := HJ8.out; have := HJ28.out; omega⟩, ⟨vS_ HO_3.out⟩, ⟨bIQx261_⟩, ⟨bK_⟩, ⟨bIQx262_⟩⟩
       · replace c35 := Bool.eq_false_iff.mpr c35
         subst c35
         rw [if_neg nf_] at H
         have H' := A_ H
         clear H
         go_wp2
         go_roundg kj28
         case measure => have := HK1.out; have := HJ8.out; have := HJ28.out; omega
         case rel => exact ⟨(x3_8), (wrap64 (x4_1 - 1)), (x1001_28), (x1002_28), rs_, H', ⟨by have := HK1.out; have := HJ8.out; have := HJ28.out; omega⟩, ⟨vS_ HO_3.out⟩, ⟨bIQx261_⟩, ⟨bK_⟩, ⟨bIQx262_⟩⟩
set_option maxHeartbeats 8000000
set_option maxRecDepth 100000
theorem bIQx280_ {P : Prop} (h : P := by repeat (first | (with_reducible first | exact HI0.out | apply IsS94.alloc | apply IsS94.drewN | apply IsS94.drew | apply IsS94.set_1 | apply IsS94.set_2) | exact HI0.out)) : P := h
theorem bIQx281_ {P : Prop} (h : P := by repeat (first | (with_reducible first | exact HB.out | apply below_alloc | apply pw_below_drewN | apply below_drew1 | refine below_set ?_ (IsS94.ge HI0.out)) | exact HB.out)) : P := h
def spec_l2Any.l0 : Nat → List ByteArray → List Int → Int → Int → Option (List ByteArray × Int × Int)
 | 0, _, _, _, _ => none
 | k + 1, x3, x1000, x1001, x1002 => (spec_l1Below.f x1000 x1001 x1002 2).bind fun bt1008 => (if (x3.length : Int) < (wrap64 (4 + bt1008.1)) then (if x3.length < 8796093022208 then (spec_l2Any.l0 k (x3 ++ [(⟨#[113]⟩ : ByteArray)]) x1000 bt1008.2.1 bt1008.2.2) else (none)) else (some (x3, bt1008.2.1, bt1008.2.2)))
def spec_l2Any.f (k : Nat) (s0_0 : List Int) (s0_1 : Int) (s0_2 : Int) : Option (List ByteArray × Int × Int) := (spec_l2Draw.f k s0_0 s0_1 s0_2).bind fun bt991 => ((spec_l1Below.f s0_0 bt991.2.1 bt991.2.2 8).bind fun bt996 => (if bt996.1 = 0 then ((spec_l1Str.f s0_0 bt996.2.1 bt996.2.2 (([(⟨#[]⟩ : ByteArray), (⟨#[46]⟩ : ByteArray), (⟨#[46, 46]⟩ : ByteArray), (⟨#[97, 47, 98]⟩ : ByteArray), (⟨#[110, 105, 110, 101, 98, 121, 116, 101, 115]⟩ : ByteArray), (⟨#[31]⟩ : ByteArray), (⟨#[101, 105, 103, 104, 116, 98, 121, 56]⟩ : ByteArray)] : List ByteArray))).bind fun bt1002 => (if bt991.1.length < 8796093022208 then (some ((bt991.1 ++ [bt1002.1]), bt1002.2.1, bt1002.2.2)) else (none))) else (if bt996.1 = 1 then (spec_l2Any.l0 k bt991.1 s0_0 bt996.2.1 bt996.2.2) else (some (bt991.1, bt996.2.1, bt996.2.2)))))
theorem spec_l2Any.calls (k : Nat) (g : Nat) (s0_0 : List Int) (s0_1 : Int) (s0_2 : Int) (r1 : List ByteArray) (r2 : Int) (r3 : Int) (w0 w : World) (hI : IsS94 w0 w g s0_0 s0_1 s0_2) (hB : Below w0.heap.size w0 w) (h : spec_l2Any.f k s0_0 s0_1 s0_2 = some (r1, r2, r3)) :
 Calls Try.prog 93 #[.pointer (some ⟨g, 0, none⟩)] w fun e w' => ∃ v0_ : Value, e = .returned (v0_) ∧ Kd.R Kd.string 9 w' w.heap.size (fun _ => True) v0_ r1 ∧ IsS94 w0 w' g s0_0 r2 r3 ∧ Below w0.heap.size w0 w' ∧ KeepBut w w' g none := by
 have HI0 := A_ hI
 have HK := A_ (KeepBut.refl w g none)
 have HL := A_ hB.size
 clear hI
 have HW0 := A_ hB.size
 have HB := A_ hB
 clear hB
 have H : ((spec_l2Draw.f k s0_0 s0_1 s0_2).bind fun bt991 => ((spec_l1Below.f s0_0 bt991.2.1 bt991.2.2 8).bind fun bt996 => (if bt996.1 = 0 then ((spec_l1Str.f s0_0 bt996.2.1 bt996.2.2 (([(⟨#[]⟩ : ByteArray), (⟨#[46]⟩ : ByteArray), (⟨#[46, 46]⟩ : ByteArray), (⟨#[97, 47, 98]⟩ : ByteArray), (⟨#[110, 105, 110, 101, 98, 121, 116, 101, 115]⟩ : ByteArray), (⟨#[31]⟩ : ByteArray), (⟨#[101, 105, 103, 104, 116, 98, 121, 56]⟩ : ByteArray)] : List ByteArray))).bind fun bt1002 => (if bt991.1.length < 8796093022208 then (some ((bt991.1 ++ [bt1002.1]), bt1002.2.1, bt1002.2.2)) else (none))) else (if bt996.1 = 1 then (spec_l2Any.l0 k bt991.1 s0_0 bt996.2.1 bt996.2.2) else (some (bt991.1, bt996.2.1, bt996.2.2)))))) = some (r1, r2, r3) := h
 clear h
 obtain ⟨⟨t991, t994, t995⟩, A2, H⟩ := bo_ H
 (try dsimp only at H)
 obtain ⟨⟨t996, t997, t998⟩, A3, H⟩ := bo_ H
 (try dsimp only at H)
 by_cases c4 : t996 = 0
 · rw [if_pos c4] at H
   have c4b0 : (t996 == 0) = true := beq_iff_eq.mpr c4
   have c4b1 : (t996 != 0) = false := bne_eq_false_iff_eq.mpr c4
   clear c4
   obtain ⟨y999, hy999⟩ : ∃ y_ : List ByteArray, y_ = (([(⟨#[]⟩ : ByteArray), (⟨#[46]⟩ : ByteArray), (⟨#[46, 46]⟩ : ByteArray), (⟨#[97, 47, 98]⟩ : ByteArray), (⟨#[110, 105, 110, 101, 98, 121, 116, 101, 115]⟩ : ByteArray), (⟨#[31]⟩ : ByteArray), (⟨#[101, 105, 103, 104, 116, 98, 121, 56]⟩ : ByteArray)] : List ByteArray)) := ⟨_, rfl⟩
   replace H : ((spec_l1Str.f s0_0 t997 t998 y999).bind fun bt1002 => (if t991.length < 8796093022208 then (some ((t991 ++ [bt1002.1]), bt1002.2.1, bt1002.2.2)) else (none))) = some (r1, r2, r3) := hy_ hy999 H
   have Ny999 := A_ hy999
   clear hy999
   obtain ⟨⟨t1002, t1003, t1004⟩, A5, H⟩ := bo_ H
   (try dsimp only at H)
   by_cases c6 : t991.length < 8796093022208
   rotate_left
   · exact absurd H (by rw [if_neg c6]; simp)
   rw [if_pos c6] at H
   have LMc6 := A_ c6
   clear c6
   obtain ⟨y1005, hy1005⟩ : ∃ y_ : List ByteArray, y_ = (t991 ++ [t1002]) := ⟨_, rfl⟩
   replace H : (some (y1005, t1003, t1004)) = some (r1, r2, r3) := hy_ hy1005 H
   have Ny1005 := A_ hy1005
   clear hy1005
   simp only [Option.some.injEq, Prod.mk.injEq] at H
   obtain ⟨rfl, rfl, rfl⟩ := H
   go_enter Try.func93, Try.ntmps93
   go_wp2_with (first | ((with_reducible refine gc_ (f := 106) rfl ?_); refine gL_ (some 5) Try.func106 #[.pointer (some ⟨g, 0, none⟩)] ?_; (with_reducible refine (spec_l2Draw.calls k g s0_0 s0_1 s0_2 t991 t994 t995 w0 _ ?s1 ?s2 A2.out).mono ?_); (case s1 => exact bIQx280_); (case s2 => exact bIQx281_); rintro e w7 ⟨v992, rfl, ho0, hi, hb, hk⟩; refine ⟨_, rfl, ?_⟩; have HO993 := A_ (Kd.R_lower ho0 (keep_size (w := w) (g := g) (row := none) bK_)); replace HK := A_ (KeepBut.trans bK_ hk (.inl rfl)); replace HB := A_ (hb); replace HI0 := A_ (hi); (try clear hb); (try clear hk); (try clear hi); (try clear ho0)) | ((with_reducible refine gc_ (f := 102) rfl ?_); refine gL_ (some 7) Try.func102 #[.pointer (some ⟨g, 0, none⟩), .int .i64 8] ?_; (with_reducible refine (spec_l1Below.calls g s0_0 t994 t995 8 t996 t997 t998 w0 _ ?s1 ?s2 A3.out).mono ?_); (case s1 => exact bIQx280_); (case s2 => exact bIQx281_); rintro e w8 ⟨rfl, hi, hb, hk⟩; refine ⟨_, rfl, ?_⟩; replace HO993 := A_ (Kd.R_mono (Kd.R_keep (IsS94.apart (show IsS94 w0 _ g s0_0 t994 t995 from bIQx280_) (vR_ HO993.out) (by decide)) hk (fun _ h => h.2)) (fun _ h => h.1)); replace HK := A_ (KeepBut.trans bK_ hk (.inl rfl)); replace HB := A_ (hb); replace HI0 := A_ (hi); (try clear hb); (try clear hk); (try clear hi)) | ((with_reducible refine gd_ (N := 12) rfl ?_); refine Kd.R_lit Kd.string _ 9 ?hg (N := 12) ?hd (xs := ([(⟨#[]⟩ : ByteArray), (⟨#[46]⟩ : ByteArray), (⟨#[46, 46]⟩ : ByteArray), (⟨#[97, 47, 98]⟩ : ByteArray), (⟨#[110, 105, 110, 101, 98, 121, 116, 101, 115]⟩ : ByteArray), (⟨#[31]⟩ : ByteArray), (⟨#[101, 105, 103, 104, 116, 98, 121, 56]⟩ : ByteArray)] : List ByteArray)) (inner := [.string (⟨#[]⟩ : ByteArray), .string (⟨#[46]⟩ : ByteArray), .string (⟨#[46, 46]⟩ : ByteArray), .string (⟨#[97, 47, 98]⟩ : ByteArray), .string (⟨#[110, 105, 110, 101, 98, 121, 116, 101, 115]⟩ : ByteArray), .string (⟨#[31]⟩ : ByteArray), .string (⟨#[101, 105, 103, 104, 116, 98, 121, 56]⟩ : ByteArray)]) (ok := fun _ => True) (okp := fun _ => True) ?hr ?hp (fun _ hk => hk) trivial (Below.refl _ _) (Nat.le_refl _) (by simp) ?_; (case hd => rfl); (case hg => rfl); (case hr => first | (go_simp; done) | (go_simp; rfl)); (case hp => exact (Reps.one (show Kd.M Kd.string _ _ _ (⟨#[]⟩ : ByteArray) [.string (⟨#[]⟩ : ByteArray)] from rfl) (Reps.one (show Kd.M Kd.string _ _ _ (⟨#[46]⟩ : ByteArray) [.string (⟨#[46]⟩ : ByteArray)] from rfl) (Reps.one (show Kd.M Kd.string _ _ _ (⟨#[46, 46]⟩ : ByteArray) [.string (⟨#[46, 46]⟩ : ByteArray)] from rfl) (Reps.one (show Kd.M Kd.string _ _ _ (⟨#[97, 47, 98]⟩ : ByteArray) [.string (⟨#[97, 47, 98]⟩ : ByteArray)] from rfl) (Reps.one (show Kd.M Kd.string _ _ _ (⟨#[110, 105, 110, 101, 98, 121, 116, 101, 115]⟩ : ByteArray) [.string (⟨#[110, 105, 110, 101, 98, 121, 116, 101, 115]⟩ : ByteArray)] from rfl) (Reps.one (show Kd.M Kd.string _ _ _ (⟨#[31]⟩ : ByteArray) [.string (⟨#[31]⟩ : ByteArray)] from rfl) (Reps.one (show Kd.M Kd.string _ _ _ (⟨#[101, 105, 103, 104, 116, 98, 121, 56]⟩ : ByteArray) [.string (⟨#[101, 105, 103, 104, 116, 98, 121, 56]⟩ : ByteArray)] from rfl) (Reps.none _ _))))))))); intro v1000 w9 ho10 hb hg_ hnew_; clear hg_ hnew_; (first | rw [← Ny999.out] at ho10 | (simp only [Int.reduceToNat] at ho10; rw [← Ny999.out] at ho10)); have HO1001 := A_ (Kd.R_lower (Kd.R_new' ho10 (Kd.R_lt (vR_ HO993.out))) (keep_size (w := w) (g := g) (row := none) bK_)); replace HO993 := A_ (Kd.R_elder' (vR_ HO993.out) (kb_ ho10) hb); replace HK := A_ (KeepBut.trans bK_ (KeepBut.of_below hb g none) (.inl rfl)); replace HB := A_ (below_step bIQx281_ hb); replace HI0 := A_ (IsS94.below bIQx280_ hb); clear hb ho10; obtain ⟨Ao11, co11, eo11⟩ := Kd.R_slice HO1001.out; subst eo11) | ((with_reducible refine gc_ (f := 91) rfl ?_); refine gL_ (some 13) Try.func91 #[.pointer (some ⟨g, 0, none⟩), .slice Ao11 y999.length co11] ?_; (with_reducible refine (spec_l1Str.calls g s0_0 t997 t998 _ _ y999 t1002 t1003 t1004 w0 _ ?s1 ?s2 ?s3 ?s4 ?s5 A5.out).mono ?_); (case s1 => exact bIQx280_); (case s2 => exact bIQx281_); (case s3 => exact cC_ (Kd.R_reads' HO1001.out).2.2); (case s4 => exact (Kd.R_reads' HO1001.out).2.1); (case s5 => exact far_slice (IsS94.own_ne HI0.out HO1001.out (by decide))); rintro e w12 ⟨rfl, hi, hb, hk⟩; refine ⟨_, rfl, ?_⟩; replace HO993 := A_ (Kd.R_mono (Kd.R_keep (IsS94.apart (show IsS94 w0 _ g s0_0 t997 t998 from bIQx280_) (vR_ HO993.out) (by decide)) hk (fun _ h => h.2)) (fun _ h => h.1)); replace HO1001 := A_ (Kd.R_mono (Kd.R_keep (IsS94.apart (show IsS94 w0 _ g s0_0 t997 t998 from bIQx280_) (vR_ HO1001.out) (by decide)) hk (fun _ h => h.2)) (fun _ h => h.1)); replace HK := A_ (KeepBut.trans bK_ hk (.inl rfl)); replace HB := A_ (hb); replace HI0 := A_ (hi); (try clear hb); (try clear hk); (try clear hi)) | ((with_reducible refine gate_builtin (b := .append) (xs := #[.tmp 10, .tmp 14]) rfl ?_); at_builtin; refine Kd.R_append Kd.string w.heap.size rfl (.tmp 10) (.tmp 14) 22 9 (.string ⟨#[]⟩) 16 rfl Try.underlying22 info9 rfl (by decide) (by omega) v992 t991 t1002 [.string t1002] (fun k_ => some k_ ≠ (.slice Ao11 y999.length co11 : Value).ownBlock) (fun _ => False) rfl rfl ?aP (fun _ hk => hk.elim) ?aF ?aO (Below.refl _ _) ?aS ?aL ?_; (case aP => exact rfl); (case aF => exact (fun k_ hk => Kd.fresh' (Kd.R_lt (vR_ HO1001.out)) k_ hk)); (case aO => exact (by (with_reducible repeat (first | apply Kd.R_alloc | apply Kd.R_drewN | apply Kd.R_drew)); exact Kd.R_mono HO993.out (fun _ hk => hk.2))); (case aS => exact (keep_size (w := w) (g := g) (row := none) bK_)); (case aL => have := LMc6.out; omega); intro v1006 w13 ho hb hg hat; rw [← Ny1005.out] at ho; replace HO1001 := A_ (Kd.R_after (ok := (fun _ => True)) (vR_ HO1001.out) hg hat); replace HB := A_ (below_weaken bIQx281_ HL.out hb); replace HI0 := A_ (IsS94.grown bIQx280_ hg (IsS94.own_ne HI0.out HO993.out (by decide))); replace HK := A_ (KeepBut.trans bK_ (KeepBut.of_grown hg g) (Kd.R_base2 HO993.out)); have HO1007 := A_ (ho); clear HO993; clear ho hb hg hat))
   go_ret
   exact ⟨_, rr_, by (with_reducible repeat (first | apply Kd.R_alloc | apply Kd.R_drewN | apply Kd.R_drew)); exact Kd.R_mono HO1007.out (fun _ hk => trivial), bIQx280_, bIQx281_, bK_⟩
 rw [if_neg c4] at H
 have c4b0 : (t996 == 0) = false := beq_eq_false_iff_ne.mpr c4
 have c4b1 : (t996 != 0) = true := bne_iff_ne.mpr c4
 by_cases c14 : t996 = 1
 rotate_left
 · rw [if_neg c14] at H
   have c14b0 : (t996 == 1) = false := beq_eq_false_iff_ne.mpr c14
   have c14b1 : (t996 != 1) = true := bne_iff_ne.mpr c14
   simp only [Option.some.injEq, Prod.mk.injEq] at H
   obtain ⟨rfl, rfl, rfl⟩ := H
   go_enter Try.func93, Try.ntmps93
   go_wp2_with (first | ((with_reducible refine gc_ (f := 106) rfl ?_); refine gL_ (some 5) Try.func106 #[.pointer (some ⟨g, 0, none⟩)] ?_; (with_reducible refine (spec_l2Draw.calls k g s0_0 s0_1 s0_2 t991 t994 t995 w0 _ ?s1 ?s2 A2.out).mono ?_); (case s1 => exact bIQx280_); (case s2 => exact bIQx281_); rintro e w25 ⟨v992, rfl, ho0, hi, hb, hk⟩; refine ⟨_, rfl, ?_⟩; have HO993 := A_ (Kd.R_lower ho0 (keep_size (w := w) (g := g) (row := none) bK_)); replace HK := A_ (KeepBut.trans bK_ hk (.inl rfl)); replace HB := A_ (hb); replace HI0 := A_ (hi); (try clear hb); (try clear hk); (try clear hi); (try clear ho0)) | ((with_reducible refine gc_ (f := 102) rfl ?_); refine gL_ (some 7) Try.func102 #[.pointer (some ⟨g, 0, none⟩), .int .i64 8] ?_; (with_reducible refine (spec_l1Below.calls g s0_0 t994 t995 8 t996 t997 t998 w0 _ ?s1 ?s2 A3.out).mono ?_); (case s1 => exact bIQx280_); (case s2 => exact bIQx281_); rintro e w26 ⟨rfl, hi, hb, hk⟩; refine ⟨_, rfl, ?_⟩; replace HO993 := A_ (Kd.R_mono (Kd.R_keep (IsS94.apart (show IsS94 w0 _ g s0_0 t994 t995 from bIQx280_) (vR_ HO993.out) (by decide)) hk (fun _ h => h.2)) (fun _ h => h.1)); replace HK := A_ (KeepBut.trans bK_ hk (.inl rfl)); replace HB := A_ (hb); replace HI0 := A_ (hi); (try clear hb); (try clear hk); (try clear hi)))
   go_ret
   exact ⟨_, rr_, by (with_reducible repeat (first | apply Kd.R_alloc | apply Kd.R_drewN | apply Kd.R_drew)); exact HO993.out, bIQx280_, bIQx281_, bK_⟩
 rw [if_pos c14] at H
 have c14b0 : (t996 == 1) = true := beq_iff_eq.mpr c14
 have c14b1 : (t996 != 1) = false := bne_eq_false_iff_eq.mpr c14
 clear c14
 have H' := A_ H
 clear H
 go_enter Try.func93, Try.ntmps93
 go_wp2_with (first | ((with_reducible refine gc_ (f := 106) rfl ?_); refine gL_ (some 5) Try.func106 #[.pointer (some ⟨g, 0, none⟩)] ?_; (with_reducible refine (spec_l2Draw.calls k g s0_0 s0_1 s0_2 t991 t994 t995 w0 _ ?s1 ?s2 A2.out).mono ?_); (case s1 => exact bIQx280_); (case s2 => exact bIQx281_); rintro e w15 ⟨v992, rfl, ho0, hi, hb, hk⟩; refine ⟨_, rfl, ?_⟩; have HO993 := A_ (Kd.R_lower ho0 (keep_size (w := w) (g := g) (row := none) bK_)); replace HK := A_ (KeepBut.trans bK_ hk (.inl rfl)); replace HB := A_ (hb); replace HI0 := A_ (hi); (try clear hb); (try clear hk); (try clear hi); (try clear ho0)) | ((with_reducible refine gc_ (f := 102) rfl ?_); refine gL_ (some 7) Try.func102 #[.pointer (some ⟨g, 0, none⟩), .int .i64 8] ?_; (with_reducible refine (spec_l1Below.calls g s0_0 t994 t995 8 t996 t997 t998 w0 _ ?s1 ?s2 A3.out).mono ?_); (case s1 => exact bIQx280_); (case s2 => exact bIQx281_); rintro e w16 ⟨rfl, hi, hb, hk⟩; refine ⟨_, rfl, ?_⟩; replace HO993 := A_ (Kd.R_mono (Kd.R_keep (IsS94.apart (show IsS94 w0 _ g s0_0 t994 t995 from bIQx280_) (vR_ HO993.out) (by decide)) hk (fun _ h => h.2)) (fun _ h => h.1)); replace HK := A_ (KeepBut.trans bK_ hk (.inl rfl)); replace HB := A_ (hb); replace HI0 := A_ (hi); (try clear hb); (try clear hk); (try clear hi)))
 go_loopg [3] k (fun kq v3 w' => ∃ (x3_1 : List ByteArray) (x1001_1 : Int) (x1002_1 : Int), Aside0 (spec_l2Any.l0 kq x3_1 s0_0 x1001_1 x1002_1 = some (r1, r2, r3)) ∧ Aside0 (kq ≤ k) ∧ Aside0 (Kd.R Kd.string 9 w' w.heap.size (fun _ => True) v3 x3_1) ∧ Aside0 (IsS94 w0 w' g s0_0 x1001_1 x1002_1) ∧ Aside0 (KeepBut w w' g none) ∧ Aside0 (Below w0.heap.size w0 w'))
 case atStart => exact ⟨(t991), (t997), (t998), H', ⟨Nat.le_refl _⟩, ⟨vR_ HO993.out⟩, ⟨bIQx280_⟩, ⟨bK_⟩, ⟨bIQx281_⟩⟩
 case round =>
  clear H'
  try clear c1
  try clear p2
  try clear c4
  try clear c4b0
  try clear c4b1
  try clear c6
  try clear c9
  try clear c10
  try clear c14
  try clear c14b0
  try clear c14b1
  obtain ⟨x3_1, x1001_1, x1002_1, HA, HK1, HO_3, HI0, HK, HB⟩ := hrel
  cases gk with
  | zero => exact absurd HA.out (by simp [spec_l2Any.l0])
  | succ k1 =>
   have H := HA.out
   clear HA
   simp only [spec_l2Any.l0] at H
   obtain ⟨⟨t1008, t1009, t1010⟩, A17, H⟩ := bo_ H
   (try dsimp only at H)
   by_cases c18 : (x3_1.length : Int) < (wrap64 (4 + t1008))
   rotate_left
   · rw [if_neg c18] at H
     have c18b0 : decide ((x3_1.length : Int) < (wrap64 (4 + t1008))) = false := decide_eq_false c18
     clear c18
     simp only [Option.some.injEq, Prod.mk.injEq] at H
     obtain ⟨rfl, rfl, rfl⟩ := H
     obtain ⟨Ao23, co23, eo23⟩ := Kd.R_slice HO_3.out
     subst eo23
     go_wp2_with (first | ((with_reducible refine gc_ (f := 102) rfl ?_); refine gL_ (some 21) Try.func102 #[.pointer (some ⟨g, 0, none⟩), .int .i64 2] ?_; (with_reducible refine (spec_l1Below.calls g s0_0 x1001_1 x1002_1 2 t1008 t1009 t1010 w0 _ ?s1 ?s2 A17.out).mono ?_); (case s1 => exact bIQx280_); (case s2 => exact bIQx281_); rintro e w24 ⟨rfl, hi, hb, hk⟩; refine ⟨_, rfl, ?_⟩; replace HO_3 := A_ (Kd.R_mono (Kd.R_keep (IsS94.apart (show IsS94 w0 _ g s0_0 x1001_1 x1002_1 from bIQx280_) (vR_ HO_3.out) (by decide)) hk (fun _ h => h.2)) (fun _ h => h.1)); replace HK := A_ (KeepBut.trans bK_ hk (.inl rfl)); replace HB := A_ (hb); replace HI0 := A_ (hi); (try clear hb); (try clear hk); (try clear hi)))
     go_ret
     exact ⟨_, rr_, by (with_reducible repeat (first | apply Kd.R_alloc | apply Kd.R_drewN | apply Kd.R_drew)); exact HO_3.out, bIQx280_, bIQx281_, bK_⟩
   rw [if_pos c18] at H
   have c18b0 : decide ((x3_1.length : Int) < (wrap64 (4 + t1008))) = true := decide_eq_true c18
   clear c18
   by_cases c19 : x3_1.length < 8796093022208
   rotate_left
   · exact absurd H (by rw [if_neg c19]; simp)
   rw [if_pos c19] at H
   have LMc19 := A_ c19
   clear c19
   obtain ⟨y1011, hy1011⟩ : ∃ y_ : List ByteArray, y_ = (x3_1 ++ [(⟨#[113]⟩ : ByteArray)]) := ⟨_, rfl⟩
   replace H : (spec_l2Any.l0 k1 y1011 s0_0 t1009 t1010) = some (r1, r2, r3) := hy_ hy1011 H
   have Ny1011 := A_ hy1011
   clear hy1011
   have H' := A_ H
   clear H
   obtain ⟨Ao20, co20, eo20⟩ := Kd.R_slice HO_3.out
   subst eo20
   go_wp2_with (first | ((with_reducible refine gc_ (f := 102) rfl ?_); refine gL_ (some 21) Try.func102 #[.pointer (some ⟨g, 0, none⟩), .int .i64 2] ?_; (with_reducible refine (spec_l1Below.calls g s0_0 x1001_1 x1002_1 2 t1008 t1009 t1010 w0 _ ?s1 ?s2 A17.out).mono ?_); (case s1 => exact bIQx280_); (case s2 => exact bIQx281_); rintro e w21 ⟨rfl, hi, hb, hk⟩; refine ⟨_, rfl, ?_⟩; replace HO_3 := A_ (Kd.R_mono (Kd.R_keep (IsS94.apart (show IsS94 w0 _ g s0_0 x1001_1 x1002_1 from bIQx280_) (vR_ HO_3.out) (by decide)) hk (fun _ h => h.2)) (fun _ h => h.1)); replace HK := A_ (KeepBut.trans bK_ hk (.inl rfl)); replace HB := A_ (hb); replace HI0 := A_ (hi); (try clear hb); (try clear hk); (try clear hi)) | ((with_reducible refine gate_builtin (b := .append) (xs := #[.tmp 24, .tmp 25]) rfl ?_); at_builtin; refine Kd.R_append Kd.string w.heap.size rfl (.tmp 24) (.tmp 25) 22 9 (.string ⟨#[]⟩) 16 rfl Try.underlying22 info9 rfl (by decide) (by omega) (.slice Ao20 x3_1.length co20) x3_1 (⟨#[113]⟩ : ByteArray) [.string (⟨#[113]⟩ : ByteArray)] (fun _ => True) (fun _ => False) rfl rfl ?aP (fun _ hk => hk.elim) ?aF ?aO (Below.refl _ _) ?aS ?aL ?_; (case aP => exact rfl); (case aF => exact (fun _ _ => trivial)); (case aO => exact (vR_ HO_3.out)); (case aS => exact (keep_size (w := w) (g := g) (row := none) bK_)); (case aL => have := LMc19.out; omega); intro v1012 w22 ho hb hg hat; rw [← Ny1011.out] at ho; replace HB := A_ (below_weaken bIQx281_ HL.out hb); replace HI0 := A_ (IsS94.grown bIQx280_ hg (IsS94.own_ne HI0.out HO_3.out (by decide))); replace HK := A_ (KeepBut.trans bK_ (KeepBut.of_grown hg g) (Kd.R_base2 HO_3.out)); have HO1013 := A_ (ho); clear HO_3; clear ho hb hg hat))
   go_roundg k1
   case measure => have := HK1.out; omega
   case rel => exact ⟨(y1011), (t1009), (t1010), H', ⟨by have := HK1.out; omega⟩, ⟨vR_ HO1013.out⟩, ⟨bIQx280_⟩, ⟨bK_⟩, ⟨bIQx281_⟩⟩
def spec_l1Int.f (s0_0 : List Int) (s0_1 : Int) (s0_2 : Int) (l1 : List Int) : Option (Int × Int × Int) := (spec_l1Below.f s0_0 s0_1 s0_2 (l1.length : Int)).bind fun bt1014 => (if 0 ≤ bt1014.1 then (if bt1014.1 < (l1.length : Int) then (some (rd l1 bt1014.1, bt1014.2.1, bt1014.2.2)) else (none)) else (none))
theorem spec_l1Int.calls (g : Nat) (s0_0 : List Int) (s0_1 : Int) (s0_2 : Int) (A1 : Option Addr) (c1 : Nat) (l1 : List Int) (r1 : Int) (r2 : Int) (r3 : Int) (w0 w : World) (hI : IsS94 w0 w g s0_0 s0_1 s0_2) (hB : Below w0.heap.size w0 w) (hr1 : Kd.C (Kd.int .i64) w A1 l1.length l1) (hc1 : l1.length ≤ c1) (hf1 : ∀ ad, A1 = some ad → 0 < l1.length → ad.block ≠ g) (h : spec_l1Int.f s0_0 s0_1 s0_2 l1 = some (r1, r2, r3)) :
 Calls Try.prog 107 #[.pointer (some ⟨g, 0, none⟩), .slice A1 l1.length c1] w fun e w' => e = .returned (.int .i64 r1) ∧ IsS94 w0 w' g s0_0 r2 r3 ∧ Below w0.heap.size w0 w' ∧ KeepBut w w' g none := by
 have HR1 := A_ hr1
 have HC1 := A_ hc1
 clear hr1 hc1
 have HI0 := A_ hI
 have HK := A_ (KeepBut.refl w g none)
 have HL := A_ hB.size
 clear hI
 have HW0 := A_ hB.size
 have HB := A_ hB
 clear hB
 have H : ((spec_l1Below.f s0_0 s0_1 s0_2 (l1.length : Int)).bind fun bt1014 => (if 0 ≤ bt1014.1 then (if bt1014.1 < (l1.length : Int) then (some (rd l1 bt1014.1, bt1014.2.1, bt1014.2.2)) else (none)) else (none))) = some (r1, r2, r3) := h
 clear h
 obtain ⟨⟨t1014, t1015, t1016⟩, A3, H⟩ := bo_ H
 (try dsimp only at H)
 by_cases c4 : 0 ≤ t1014
 rotate_left
 · exact absurd H (by rw [if_neg c4]; simp)
 rw [if_pos c4] at H
 have c4b0 : decide (0 ≤ t1014) = true := decide_eq_true c4
 clear c4
 by_cases c5 : t1014 < (l1.length : Int)
 rotate_left
 · exact absurd H (by rw [if_neg c5]; simp)
 rw [if_pos c5] at H
 have c5b0 : decide (t1014 < (l1.length : Int)) = true := decide_eq_true c5
 clear c5
 simp only [Option.some.injEq, Prod.mk.injEq] at H
 obtain ⟨rfl, rfl, rfl⟩ := H
 go_enter Try.func107, Try.ntmps107
 go_wp2_with (first | ((with_reducible refine gc_ (f := 102) rfl ?_); refine gL_ (some 9) Try.func102 #[.pointer (some ⟨g, 0, none⟩), .int .i64 (l1.length : Int)] ?_; (with_reducible refine (spec_l1Below.calls g s0_0 s0_1 s0_2 (l1.length : Int) t1014 t1015 t1016 w0 _ ?s1 ?s2 A3.out).mono ?_); (case s1 => exact bIQx280_); (case s2 => exact bIQx281_); rintro e w6 ⟨rfl, hi, hb, hk⟩; refine ⟨_, rfl, ?_⟩; replace HK := A_ (KeepBut.trans bK_ hk (.inl rfl)); replace HB := A_ (hb); replace HI0 := A_ (hi); (try clear hb); (try clear hk); (try clear hi); have p1017 : 0 ≤ (t1014 : Int) := od_; have q1017 : t1014 < (l1.length : Int) := od_; obtain ⟨ad1017, e1017, hx1017_0⟩ := Kd.at_int HR1.out t1014 p1017 q1017; cases e1017; replace hx1017_0 := keep_cell HK.out hx1017_0 (by first | (rw [add_block]; exact hf1 _ rfl (by omega)) | exact hf1 _ rfl (by omega) | exact hf1 ad1017 rfl (by omega)); replace p1017 := eq_true p1017; replace q1017 := eq_true q1017))
 go_ret
 exact ⟨rr_, bIQx280_, bIQx281_, bK_⟩
mutual
def spec_NumText.j0 : Nat → Int → Option (ByteArray)
 | 0, _ => none
 | k + 1, x0 => spec_NumText.l0 k x0 (strOfNums (([(wrap64 (48 + (Int.tmod x0 10))) % 256] : List Int)))
def spec_NumText.l0 : Nat → Int → ByteArray → Option (ByteArray)
 | 0, _, _ => none
 | k + 1, x0, x3 => if x0 > 9 then ((some (([(wrap64 (48 + (Int.tmod (wrap64 (Int.tdiv x0 10)) 10))) % 256] : List Int) : List Int)).bind fun y1021 => (if (strOfNums y1021).size + x3.size ≤ 9223372036854775807 then (spec_NumText.l0 k (wrap64 (Int.tdiv x0 10)) ((strOfNums y1021) ++ x3)) else (none))) else (some x3)
end
def spec_NumText.f (k : Nat) (a0 : Int) : Option (ByteArray) := if a0 < 0 then (spec_NumText.j0 k 0) else (spec_NumText.j0 k a0)
theorem spec_NumText.calls (k : Nat) (a0 : Int) (r : ByteArray) (w : World) (h : spec_NumText.f k a0 = some r) :
 Calls Try.prog 109 #[.int .i64 a0] w fun e w' => e = .returned (.string r) ∧ Below w.heap.size w w' := by
 have HB := A_ (Below.refl w.heap.size w)
 have H : (if a0 < 0 then (spec_NumText.j0 k 0) else (spec_NumText.j0 k a0)) = some r := h
 clear h
 have HC2 := A_ H
 clear H
 go_enter Try.func109, Try.ntmps109
 go_upto_if 5 with (fail)
 go_cut [0] (fun v0 wc => ∃ (kq : Nat) (x0_1 : Int), v0 = .int .i64 x0_1 ∧ Aside0 (spec_NumText.j0 kq x0_1 = some r) ∧ Aside0 (kq ≤ k) ∧ Aside0 (Below w.heap.size w wc))
 case first =>
  have H := HC2.out
  clear HC2
  by_cases c3 : a0 < 0
  · rw [if_pos c3] at H
    have c3b0 : decide (a0 < 0) = true := decide_eq_true c3
    clear c3
    (first | rw [c3b0] | (simp only [i64_w, i32_w]; rw [c3b0]) | skip)
    have H' := A_ H
    clear H
    go_wp2
    go_meet
    case rel => exact ⟨_, (0), rs_, H', ⟨by first | omega | exact Nat.le_refl _⟩, ⟨bB_⟩⟩
  rw [if_neg c3] at H
  have c3b0 : decide (a0 < 0) = false := decide_eq_false c3
  clear c3
  (first | rw [c3b0] | (simp only [i64_w, i32_w]; rw [c3b0]) | skip)
  have H' := A_ H
  clear H
  go_wp2
  go_meet
  case rel => exact ⟨_, (a0), rs_, H', ⟨by first | omega | exact Nat.le_refl _⟩, ⟨bB_⟩⟩
 case rest =>
  clear HC2
  try clear c1
  try clear p2
  try clear c3
  try clear c3b0
  obtain ⟨kq, x0_1, rfl, HA, HJ1, HB⟩ := hcut
  cases kq with
  | zero => exact absurd HA.out (by simp [spec_NumText.j0])
  | succ kj1 =>
   have H := HA.out
   clear HA
   simp only [spec_NumText.j0] at H
   obtain ⟨y1018, hy1018⟩ : ∃ y_ : List Int, y_ = (([(wrap64 (48 + (Int.tmod x0_1 10))) % 256] : List Int)) := ⟨_, rfl⟩
   replace H : (spec_NumText.l0 kj1 x0_1 (strOfNums y1018)) = some r := hy_ hy1018 H
   have Ny1018 := A_ hy1018
   clear hy1018
   have H' := A_ H
   clear H
   go_wp2_with (first | ((with_reducible refine gd_ (N := 10) rfl ?_); refine Kd.R_lit (Kd.int .u8) _ 5 ?hg (N := 10) ?hd (xs := ([(wrap64 (48 + (Int.tmod x0_1 10))) % 256] : List Int)) (inner := [.int .u8 ((wrap64 (48 + (Int.tmod x0_1 10))) % 256)]) (ok := fun _ => True) (okp := fun _ => True) ?hr ?hp (fun _ hk => hk) trivial (Below.refl _ _) (Nat.le_refl _) (by simp) ?_; (case hd => rfl); (case hg => rfl); (case hr => first | (go_simp; done) | (go_simp; rfl)); (case hp => exact (Reps.one (show Kd.M (Kd.int .u8) _ _ _ ((wrap64 (48 + (Int.tmod x0_1 10))) % 256) [.int .u8 ((wrap64 (48 + (Int.tmod x0_1 10))) % 256)] from rfl) (Reps.none _ _))); intro v1019 w4 ho5 hb hg_ hnew_; clear hg_ hnew_; (first | rw [← Ny1018.out] at ho5 | (simp only [Int.reduceToNat] at ho5; rw [← Ny1018.out] at ho5)); have HO1020 := A_ (Kd.R_lower ho5 (below_size bB_)); replace HB := A_ (below_step bB_ hb); clear hb ho5; have hcv6 := own_string (P := Try.prog) Try.underlying54 Try.underlying5 Try.underlying9 (Kd.own_of_R HO1020.out)))
   go_loopg [0, 3] kj1 (fun kq v0 v3 w' => ∃ (x0_2 : Int) (x3_2 : ByteArray), v0 = .int .i64 x0_2 ∧ v3 = .string x3_2 ∧ Aside0 (spec_NumText.l0 kq x0_2 x3_2 = some r) ∧ Aside0 (kq ≤ kj1) ∧ Aside0 (Below w.heap.size w w'))
   case atStart => exact ⟨(x0_1), (strOfNums y1018), rs_, rs_, H', ⟨Nat.le_refl _⟩, ⟨bB_⟩⟩
   case round =>
    clear H'
    try clear c1
    try clear p2
    try clear c3
    try clear c3b0
    try clear p6
    try clear hcv6
    try clear p2
    obtain ⟨x0_2, x3_2, rfl, rfl, HA, HK2, HB⟩ := hrel
    cases gk with
    | zero => exact absurd HA.out (by simp [spec_NumText.l0])
    | succ k2 =>
     have H := HA.out
     clear HA
     simp only [spec_NumText.l0] at H
     by_cases c7 : x0_2 > 9
     rotate_left
     · rw [if_neg c7] at H
       have c7b0 : decide (9 < x0_2) = false := decide_eq_false c7
       clear c7
       obtain rfl := si_ H
       go_wp2
       go_ret
       exact ⟨rr_, bB_⟩
     rw [if_pos c7] at H
     have c7b0 : decide (9 < x0_2) = true := decide_eq_true c7
     clear c7
     obtain ⟨y1021, hy1021⟩ : ∃ y_ : List Int, y_ = (([(wrap64 (48 + (Int.tmod (wrap64 (Int.tdiv x0_2 10)) 10))) % 256] : List Int)) := ⟨_, rfl⟩
     replace H : (if (strOfNums y1021).size + x3_2.size ≤ 9223372036854775807 then (spec_NumText.l0 k2 (wrap64 (Int.tdiv x0_2 10)) ((strOfNums y1021) ++ x3_2)) else (none)) = some r := hy_ hy1021 H
     have Ny1021 := A_ hy1021
     clear hy1021
     by_cases c8 : (strOfNums y1021).size + x3_2.size ≤ 9223372036854775807
     rotate_left
     · exact absurd H (by rw [if_neg c8]; simp)
     rw [if_pos c8] at H
     have c8b0 := eq_true c8
     have c8b1 : decide ((strOfNums y1021).size + x3_2.size ≤ 9223372036854775807) = true := decide_eq_true c8
     try have c8b2 : (9223372036854775807 < (strOfNums y1021).size + x3_2.size) = False := eq_false (Nat.not_lt.2 c8)
     have H' := A_ H
     clear H
     go_wp2_with (first | ((with_reducible refine gd_ (N := 20) rfl ?_); refine Kd.R_lit (Kd.int .u8) _ 5 ?hg (N := 20) ?hd (xs := ([(wrap64 (48 + (Int.tmod (wrap64 (Int.tdiv x0_2 10)) 10))) % 256] : List Int)) (inner := [.int .u8 ((wrap64 (48 + (Int.tmod (wrap64 (Int.tdiv x0_2 10)) 10))) % 256)]) (ok := fun _ => True) (okp := fun _ => True) ?hr ?hp (fun _ hk => hk) trivial (Below.refl _ _) (Nat.le_refl _) (by simp) ?_; (case hd => rfl); (case hg => rfl); (case hr => first | (go_simp; done) | (go_simp; rfl)); (case hp => exact (Reps.one (show Kd.M (Kd.int .u8) _ _ _ ((wrap64 (48 + (Int.tmod (wrap64 (Int.tdiv x0_2 10)) 10))) % 256) [.int .u8 ((wrap64 (48 + (Int.tmod (wrap64 (Int.tdiv x0_2 10)) 10))) % 256)] from rfl) (Reps.none _ _))); intro v1022 w9 ho10 hb hg_ hnew_; clear hg_ hnew_; (first | rw [← Ny1021.out] at ho10 | (simp only [Int.reduceToNat] at ho10; rw [← Ny1021.out] at ho10)); have HO1023 := A_ (Kd.R_lower ho10 (below_size bB_)); replace HB := A_ (below_step bB_ hb); clear hb ho10; have hcv11 := own_string (P := Try.prog) Try.underlying54 Try.underlying5 Try.underlying9 (Kd.own_of_R HO1023.out)))
     go_roundg k2
     case measure => have := HJ1.out; have := HK2.out; omega
     case rel => exact ⟨(wrap64 (Int.tdiv x0_2 10)), ((strOfNums y1021) ++ x3_2), rs_, rs_, H', ⟨by have := HJ1.out; have := HK2.out; omega⟩, ⟨bB_⟩⟩
end Go.Proofs.Yteabkidfgdmmpaa.Q
