-- PRINTED by print.py (a twelfth state) out of the translation. Not trusted: Lean checks it.
import Derived.Test.YtegkokdncakadaaGreatDoorVParseNodeG24
set_option maxHeartbeats 8000000
set_option maxRecDepth 100000
namespace Go.Proofs.YtegkokdncakadaaGreatDoor.Q
open Go.RowKit Go.Proofs.YtegkokdncakadaaGreatDoorW.PrintWords Go.Proofs.YtegkokdncakadaaGreatDoorW.PrintLast Go.Proofs.YtegkokdncakadaaGreatDoorW.PrintMore
attribute [local go_sem] max2_int min2_int max_two min_two max_three min_three max_four min_four   -- for this text's walks alone
set_option linter.unusedVariables false
set_option linter.unusedSimpArgs false
def impl_Unescape.l0 : Nat → ByteArray → ByteArray → Option (ByteArray × Bool)
 | 0, _, _ => none
 | k + 1, x0, x4 => (strings_Cut.f x0 (⟨#[38]⟩ : ByteArray)).bind fun bt225 => (if x4.size + bt225.1.size ≤ 9223372036854775807 then (if bt225.2.2 = true then ((strings_Cut.f bt225.2.1 (⟨#[59]⟩ : ByteArray)).bind fun bt228 => ((impl_named.f bt228.1).bind fun bt231 => (if bt228.2.2 = true then (if bt231.2 = true then (if (x4 ++ bt225.1).size + bt231.1.size ≤ 9223372036854775807 then (impl_Unescape.l0 k bt228.2.1 ((x4 ++ bt225.1) ++ bt231.1)) else (none)) else (some ((⟨#[]⟩ : ByteArray), false))) else (some ((⟨#[]⟩ : ByteArray), false))))) else (some (x4 ++ bt225.1, true))) else (none))
def impl_Unescape.f (k : Nat) (a0 : ByteArray) : Option (ByteArray × Bool) := (strings_Contains.f a0 (⟨#[60]⟩ : ByteArray)).bind fun t224 => (if t224 = true then (some ((⟨#[]⟩ : ByteArray), false)) else (impl_Unescape.l0 k a0 (⟨#[]⟩ : ByteArray)))
theorem impl_Unescape.calls (k : Nat) (a0 : ByteArray) (r1 : ByteArray) (r2 : Bool) (w : World) (hGT : GT w) (hGM : GM w) (hGE : GE w) (h : impl_Unescape.f k a0 = some (r1, r2)) :
 Calls Tryz.prog 64 #[.string a0] w fun e w' => e = .returned (.tuple #[.string r1, .bool r2]) ∧ Below w.heap.size w w' := by
 have HGT := A_ hGT
 have HGM := A_ hGM
 have HGE := A_ hGE
 clear hGT hGM hGE
 have HB := A_ (Below.refl w.heap.size w)
 have H : ((strings_Contains.f a0 (⟨#[60]⟩ : ByteArray)).bind fun t37 => (if t37 = true then (some ((⟨#[]⟩ : ByteArray), false)) else (impl_Unescape.l0 k a0 (⟨#[]⟩ : ByteArray)))) = some (r1, r2) := h
 clear h
 obtain ⟨t37, A2, H⟩ := bo_ H
 (try dsimp only at H)
 by_cases c3 : t37 = true
 · subst c3
   rw [if_pos rfl] at H
   simp only [Option.some.injEq, Prod.mk.injEq] at H
   obtain ⟨rfl, rfl⟩ := H
   go_enter Tryz.func64, Tryz.ntmps64
   go_wp2_with (first | ((with_reducible refine gc_ (f := 86) rfl ?_); refine gL_ (some 14) Tryz.func86 #[.string a0, .string (⟨#[60]⟩ : ByteArray)] ?_; (with_reducible refine (strings_Contains.calls a0 (⟨#[60]⟩ : ByteArray) true _ A2.out).mono ?_); rintro e w' ⟨rfl, ⟨nd, rfl⟩⟩; refine ⟨_, rfl, ?_⟩))
   go_ret2
   exact ⟨rr_, bB_⟩
 · replace c3 := Bool.eq_false_iff.mpr c3
   subst c3
   rw [if_neg nf_] at H
   have H' := A_ H
   clear H
   go_enter Tryz.func64, Tryz.ntmps64
   go_wp2_with (first | ((with_reducible refine gc_ (f := 86) rfl ?_); refine gL_ (some 14) Tryz.func86 #[.string a0, .string (⟨#[60]⟩ : ByteArray)] ?_; (with_reducible refine (strings_Contains.calls a0 (⟨#[60]⟩ : ByteArray) false _ A2.out).mono ?_); rintro e w' ⟨rfl, ⟨nd, rfl⟩⟩; refine ⟨_, rfl, ?_⟩))
   go_loopg [0, 4] k (fun kq v0 v4 w' => ∃ (x0_1 : ByteArray) (x4_1 : ByteArray), v0 = .string x0_1 ∧ v4 = .string x4_1 ∧ Aside0 (impl_Unescape.l0 kq x0_1 x4_1 = some (r1, r2)) ∧ Aside0 (kq ≤ k) ∧ Aside0 (Below w.heap.size w w'))
   case atStart => exact ⟨(a0), ((⟨#[]⟩ : ByteArray)), rs_, rs_, H', ⟨Nat.le_refl _⟩, ⟨bB_⟩⟩
   case round =>
    clear H'
    try clear c3
    obtain ⟨x0_1, x4_1, rfl, rfl, HA, HK1, HB⟩ := hrel
    cases gk with
    | zero => exact absurd HA.out (by simp [impl_Unescape.l0])
    | succ k1 =>
     have H := HA.out
     clear HA
     simp only [impl_Unescape.l0] at H
     obtain ⟨⟨t32, t33, t39⟩, A4, H⟩ := bo_ H
     (try dsimp only at H)
     by_cases c5 : x4_1.size + t32.size ≤ 9223372036854775807
     rotate_left
     · exact absurd H (by rw [if_neg c5]; simp)
     rw [if_pos c5] at H
     have c5b0 := eq_true c5
     have c5b1 := decide_eq_true c5
     try have c5b2 : (9223372036854775807 < x4_1.size + t32.size) = False := eq_false (Nat.not_lt.2 c5)
     by_cases c6 : t39 = true
     · subst c6
       rw [if_pos rfl] at H
       obtain ⟨⟨t34, t36, t40⟩, A7, H⟩ := bo_ H
       (try dsimp only at H)
       obtain ⟨⟨t35, t38⟩, A8, H⟩ := bo_ H
       (try dsimp only at H)
       by_cases c9 : t40 = true
       · subst c9
         rw [if_pos rfl] at H
         by_cases c10 : t38 = true
         · subst c10
           rw [if_pos rfl] at H
           by_cases c11 : (x4_1 ++ t32).size + t35.size ≤ 9223372036854775807
           rotate_left
           · exact absurd H (by rw [if_neg c11]; simp)
           rw [if_pos c11] at H
           have c11b0 := eq_true c11
           have c11b1 := decide_eq_true c11
           try have c11b2 : (9223372036854775807 < (x4_1 ++ t32).size + t35.size) = False := eq_false (Nat.not_lt.2 c11)
           try have c11b3 : (9223372036854775807 < x4_1.size + t32.size + t35.size) = False := eq_false (Nat.not_lt.2 (by have h_ := c11; simp only [ByteArray.size_append] at h_; exact h_))
           have H' := A_ H
           clear H
           go_wp2_with (first | ((with_reducible refine gc_ (f := 84) rfl ?_); refine gL_ (some 17) Tryz.func84 #[.string x0_1, .string (⟨#[38]⟩ : ByteArray)] ?_; (with_reducible refine (strings_Cut.calls x0_1 (⟨#[38]⟩ : ByteArray) t32 t33 true _ ?gM22 A4.out).mono ?_); (case gM22 => exact gM_ HGM.out bB_); rintro e w12 ⟨rfl, hb⟩; refine ⟨_, rfl, ?_⟩; replace HB := A_ (below_step bB_ hb); clear hb) | ((with_reducible refine gc_ (f := 84) rfl ?_); refine gL_ (some 29) Tryz.func84 #[.string t33, .string (⟨#[59]⟩ : ByteArray)] ?_; (with_reducible refine (strings_Cut.calls t33 (⟨#[59]⟩ : ByteArray) t34 t36 true _ ?gM23 A7.out).mono ?_); (case gM23 => exact gM_ HGM.out bB_); rintro e w13 ⟨rfl, hb⟩; refine ⟨_, rfl, ?_⟩; replace HB := A_ (below_step bB_ hb); clear hb) | ((with_reducible refine gc_ (f := 87) rfl ?_); refine gL_ (some 35) Tryz.func87 #[.string t34] ?_; (with_reducible refine (impl_named.calls t34 t35 true _ ?gT24 ?gE24 A8.out).mono ?_); (case gT24 => exact gT_ HGT.out bB_); (case gE24 => exact gE_ HGE.out bB_); rintro e w14 ⟨rfl, hb⟩; refine ⟨_, rfl, ?_⟩; replace HB := A_ (below_step bB_ hb); clear hb))
           go_roundg k1
           case measure => have := HK1.out; omega
           case rel => exact ⟨(t36), ((x4_1 ++ t32) ++ t35), rs_, rs_, H', ⟨by have := HK1.out; omega⟩, ⟨bB_⟩⟩
         · replace c10 := Bool.eq_false_iff.mpr c10
           subst c10
           rw [if_neg nf_] at H
           simp only [Option.some.injEq, Prod.mk.injEq] at H
           obtain ⟨rfl, rfl⟩ := H
           go_wp2_with (first | ((with_reducible refine gc_ (f := 84) rfl ?_); refine gL_ (some 17) Tryz.func84 #[.string x0_1, .string (⟨#[38]⟩ : ByteArray)] ?_; (with_reducible refine (strings_Cut.calls x0_1 (⟨#[38]⟩ : ByteArray) t32 t33 true _ ?gM25 A4.out).mono ?_); (case gM25 => exact gM_ HGM.out bB_); rintro e w15 ⟨rfl, hb⟩; refine ⟨_, rfl, ?_⟩; replace HB := A_ (below_step bB_ hb); clear hb) | ((with_reducible refine gc_ (f := 84) rfl ?_); refine gL_ (some 29) Tryz.func84 #[.string t33, .string (⟨#[59]⟩ : ByteArray)] ?_; (with_reducible refine (strings_Cut.calls t33 (⟨#[59]⟩ : ByteArray) t34 t36 true _ ?gM26 A7.out).mono ?_); (case gM26 => exact gM_ HGM.out bB_); rintro e w16 ⟨rfl, hb⟩; refine ⟨_, rfl, ?_⟩; replace HB := A_ (below_step bB_ hb); clear hb) | ((with_reducible refine gc_ (f := 87) rfl ?_); refine gL_ (some 35) Tryz.func87 #[.string t34] ?_; (with_reducible refine (impl_named.calls t34 t35 false _ ?gT27 ?gE27 A8.out).mono ?_); (case gT27 => exact gT_ HGT.out bB_); (case gE27 => exact gE_ HGE.out bB_); rintro e w17 ⟨rfl, hb⟩; refine ⟨_, rfl, ?_⟩; replace HB := A_ (below_step bB_ hb); clear hb))
           go_ret2
           exact ⟨rr_, bB_⟩
       · replace c9 := Bool.eq_false_iff.mpr c9
         subst c9
         rw [if_neg nf_] at H
         simp only [Option.some.injEq, Prod.mk.injEq] at H
         obtain ⟨rfl, rfl⟩ := H
         go_wp2_with (first | ((with_reducible refine gc_ (f := 84) rfl ?_); refine gL_ (some 17) Tryz.func84 #[.string x0_1, .string (⟨#[38]⟩ : ByteArray)] ?_; (with_reducible refine (strings_Cut.calls x0_1 (⟨#[38]⟩ : ByteArray) t32 t33 true _ ?gM28 A4.out).mono ?_); (case gM28 => exact gM_ HGM.out bB_); rintro e w18 ⟨rfl, hb⟩; refine ⟨_, rfl, ?_⟩; replace HB := A_ (below_step bB_ hb); clear hb) | ((with_reducible refine gc_ (f := 84) rfl ?_); refine gL_ (some 29) Tryz.func84 #[.string t33, .string (⟨#[59]⟩ : ByteArray)] ?_; (with_reducible refine (strings_Cut.calls t33 (⟨#[59]⟩ : ByteArray) t34 t36 false _ ?gM29 A7.out).mono ?_); (case gM29 => exact gM_ HGM.out bB_); rintro e w19 ⟨rfl, hb⟩; refine ⟨_, rfl, ?_⟩; replace HB := A_ (below_step bB_ hb); clear hb) | ((with_reducible refine gc_ (f := 87) rfl ?_); refine gL_ (some 35) Tryz.func87 #[.string t34] ?_; (with_reducible refine (impl_named.calls t34 t35 t38 _ ?gT30 ?gE30 A8.out).mono ?_); (case gT30 => exact gT_ HGT.out bB_); (case gE30 => exact gE_ HGE.out bB_); rintro e w20 ⟨rfl, hb⟩; refine ⟨_, rfl, ?_⟩; replace HB := A_ (below_step bB_ hb); clear hb))
         go_ret2
         exact ⟨rr_, bB_⟩
     · replace c6 := Bool.eq_false_iff.mpr c6
       subst c6
       rw [if_neg nf_] at H
       simp only [Option.some.injEq, Prod.mk.injEq] at H
       obtain ⟨rfl, rfl⟩ := H
       go_wp2_with (first | ((with_reducible refine gc_ (f := 84) rfl ?_); refine gL_ (some 17) Tryz.func84 #[.string x0_1, .string (⟨#[38]⟩ : ByteArray)] ?_; (with_reducible refine (strings_Cut.calls x0_1 (⟨#[38]⟩ : ByteArray) t32 t33 false _ ?gM31 A4.out).mono ?_); (case gM31 => exact gM_ HGM.out bB_); rintro e w21 ⟨rfl, hb⟩; refine ⟨_, rfl, ?_⟩; replace HB := A_ (below_step bB_ hb); clear hb))
       go_ret2
       exact ⟨rr_, bB_⟩
def impl_nameAt.l0 : Nat → ByteArray → Int → Option (ByteArray × ByteArray)
 | 0, _, _ => none
 | k + 1, x0, x4 => if x4 < (x0.size : Int) then (if 0 ≤ x4 then ((impl_isSmall.f (bt x0 x4)).bind fun t233 => (if t233 = true then (impl_nameAt.l0 k x0 (wrap64 (x4 + 1))) else ((impl_isDigit.f (bt x0 x4)).bind fun t234 => (if t234 = true then (impl_nameAt.l0 k x0 (wrap64 (x4 + 1))) else (if (bt x0 x4) = 45 then (impl_nameAt.l0 k x0 (wrap64 (x4 + 1))) else (if x4 ≤ (x0.size : Int) then (some (x0.extract 0 (x4 : Int).toNat, x0.extract (x4 : Int).toNat x0.size)) else (none))))))) else (none)) else (if 0 ≤ x4 then (if x4 ≤ (x0.size : Int) then (some (x0.extract 0 (x4 : Int).toNat, x0.extract (x4 : Int).toNat x0.size)) else (none)) else (none))
def impl_nameAt.f (k : Nat) (a0 : ByteArray) : Option (ByteArray × ByteArray) := impl_nameAt.l0 k a0 0
theorem impl_nameAt.calls (k : Nat) (a0 : ByteArray) (r1 : ByteArray) (r2 : ByteArray) (w : World) (h : impl_nameAt.f k a0 = some (r1, r2)) :
 Calls Tryz.prog 83 #[.string a0] w fun e w' => e = .returned (.tuple #[.string r1, .string r2]) ∧ Drawn0 w w' := by
 have H : (impl_nameAt.l0 k a0 0) = some (r1, r2) := h
 clear h
 have H' := A_ H
 clear H
 go_enter Tryz.func83, Tryz.ntmps83
 go_wp2
 repeat (go_quiet (fail); try go_wp2)
 go_loopg [4] k (fun kq v4 w' => ∃ (x4_1 : Int), v4 = .int .i64 x4_1 ∧ Aside0 (impl_nameAt.l0 kq a0 x4_1 = some (r1, r2)) ∧ Aside0 (kq ≤ k) ∧ Drawn0 w w')
 case atStart => exact ⟨(0), rs_, H', ⟨Nat.le_refl _⟩, dr_⟩
 case round =>
  clear H'
  obtain ⟨x4_1, rfl, HA, HK1, ⟨m1, rfl⟩⟩ := hrel
  cases gk with
  | zero => exact absurd HA.out (by simp [impl_nameAt.l0])
  | succ k1 =>
   have H := HA.out
   clear HA
   simp only [impl_nameAt.l0] at H
   by_cases c2 : x4_1 < (a0.size : Int)
   rotate_left
   · rw [if_neg c2] at H
     have c2b0 := decide_eq_false c2
     clear c2
     by_cases c16 : 0 ≤ x4_1
     rotate_left
     · exact absurd H (by rw [if_neg c16]; simp)
     rw [if_pos c16] at H
     have c16b0 := eq_true c16
     have c16b1 := decide_eq_true c16
     clear c16
     by_cases c17 : x4_1 ≤ (a0.size : Int)
     rotate_left
     · exact absurd H (by rw [if_neg c17]; simp)
     rw [if_pos c17] at H
     have c17b0 := eq_true c17
     have c17b1 := decide_eq_true c17
     clear c17
     have c18b0 := eq_true (od_ : 0 ≤ x4_1)
     have c19b0 := eq_true (od_ : x4_1 ≤ (a0.size : Int))
     simp only [Option.some.injEq, Prod.mk.injEq] at H
     obtain ⟨rfl, rfl⟩ := H
     go_wp2
     repeat (go_quiet (fail); try go_wp2)
     go_ret2
     exact ⟨rs_, dr_⟩
   rw [if_pos c2] at H
   have c2b0 := decide_eq_true c2
   clear c2
   by_cases c3 : 0 ≤ x4_1
   rotate_left
   · exact absurd H (by rw [if_neg c3]; simp)
   rw [if_pos c3] at H
   have c3b0 := decide_eq_true c3
   clear c3
   obtain ⟨t20, A5, H⟩ := bo_ H
   (try dsimp only at H)
   by_cases c6 : t20 = true
   · subst c6
     rw [if_pos rfl] at H
     have H' := A_ H
     clear H
     have p4 : 0 ≤ (x4_1 : Int) := od_
     have q4 : x4_1 < (a0.size : Int) := od_
     have hx4 := bt_at a0 x4_1
     replace p4 := eq_true p4
     replace q4 := eq_true q4
     go_wp2_with (first | (go_at_call 89; (with_reducible refine (impl_isSmall.calls (bt a0 x4_1) true _ A5.out).mono ?_); rintro e w' ⟨rfl, ⟨nd, rfl⟩⟩; (try first | exact ⟨rfl, _, World.drewN_drewN _ _ _⟩ | exact ⟨rfl, _, Eq.trans (World.drewN_drewN _ _ _) (congrArg (World.drewN _) (Nat.add_assoc _ _ _))⟩)))
     repeat (go_quiet (first | (go_at_call 89; (with_reducible refine (impl_isSmall.calls (bt a0 x4_1) true _ A5.out).mono ?_); rintro e w' ⟨rfl, ⟨nd, rfl⟩⟩; (try first | exact ⟨rfl, _, World.drewN_drewN _ _ _⟩ | exact ⟨rfl, _, Eq.trans (World.drewN_drewN _ _ _) (congrArg (World.drewN _) (Nat.add_assoc _ _ _))⟩))); try go_wp2_with (first | (go_at_call 89; (with_reducible refine (impl_isSmall.calls (bt a0 x4_1) true _ A5.out).mono ?_); rintro e w' ⟨rfl, ⟨nd, rfl⟩⟩; (try first | exact ⟨rfl, _, World.drewN_drewN _ _ _⟩ | exact ⟨rfl, _, Eq.trans (World.drewN_drewN _ _ _) (congrArg (World.drewN _) (Nat.add_assoc _ _ _))⟩))))
     go_roundg k1
     case measure => have := HK1.out; omega
     case rel => exact ⟨(wrap64 (x4_1 + 1)), rs_, H', ⟨by have := HK1.out; omega⟩, dr_⟩
   · replace c6 := Bool.eq_false_iff.mpr c6
     subst c6
     rw [if_neg nf_] at H
     obtain ⟨t21, A8, H⟩ := bo_ H
     (try dsimp only at H)
     by_cases c9 : t21 = true
     · subst c9
       rw [if_pos rfl] at H
       have H' := A_ H
       clear H
       have p4 : 0 ≤ (x4_1 : Int) := od_
       have q4 : x4_1 < (a0.size : Int) := od_
       have hx4 := bt_at a0 x4_1
       replace p4 := eq_true p4
       replace q4 := eq_true q4
       go_wp2_with (first | (go_at_call 89; (with_reducible refine (impl_isSmall.calls (bt a0 x4_1) false _ A5.out).mono ?_); rintro e w' ⟨rfl, ⟨nd, rfl⟩⟩; (try first | exact ⟨rfl, _, World.drewN_drewN _ _ _⟩ | exact ⟨rfl, _, Eq.trans (World.drewN_drewN _ _ _) (congrArg (World.drewN _) (Nat.add_assoc _ _ _))⟩); have p7 : 0 ≤ (x4_1 : Int) := od_; have q7 : x4_1 < (a0.size : Int) := od_; have hx7 := bt_at a0 x4_1; replace p7 := eq_true p7; replace q7 := eq_true q7) | (go_at_call 90; (with_reducible refine (impl_isDigit.calls (bt a0 x4_1) true _ A8.out).mono ?_); rintro e w' ⟨rfl, ⟨nd, rfl⟩⟩; (try first | exact ⟨rfl, _, World.drewN_drewN _ _ _⟩ | exact ⟨rfl, _, Eq.trans (World.drewN_drewN _ _ _) (congrArg (World.drewN _) (Nat.add_assoc _ _ _))⟩)))
       repeat (go_quiet (first | (go_at_call 89; (with_reducible refine (impl_isSmall.calls (bt a0 x4_1) false _ A5.out).mono ?_); rintro e w' ⟨rfl, ⟨nd, rfl⟩⟩; (try first | exact ⟨rfl, _, World.drewN_drewN _ _ _⟩ | exact ⟨rfl, _, Eq.trans (World.drewN_drewN _ _ _) (congrArg (World.drewN _) (Nat.add_assoc _ _ _))⟩); have p7 : 0 ≤ (x4_1 : Int) := od_; have q7 : x4_1 < (a0.size : Int) := od_; have hx7 := bt_at a0 x4_1; replace p7 := eq_true p7; replace q7 := eq_true q7) | (go_at_call 90; (with_reducible refine (impl_isDigit.calls (bt a0 x4_1) true _ A8.out).mono ?_); rintro e w' ⟨rfl, ⟨nd, rfl⟩⟩; (try first | exact ⟨rfl, _, World.drewN_drewN _ _ _⟩ | exact ⟨rfl, _, Eq.trans (World.drewN_drewN _ _ _) (congrArg (World.drewN _) (Nat.add_assoc _ _ _))⟩))); try go_wp2_with (first | (go_at_call 89; (with_reducible refine (impl_isSmall.calls (bt a0 x4_1) false _ A5.out).mono ?_); rintro e w' ⟨rfl, ⟨nd, rfl⟩⟩; (try first | exact ⟨rfl, _, World.drewN_drewN _ _ _⟩ | exact ⟨rfl, _, Eq.trans (World.drewN_drewN _ _ _) (congrArg (World.drewN _) (Nat.add_assoc _ _ _))⟩); have p7 : 0 ≤ (x4_1 : Int) := od_; have q7 : x4_1 < (a0.size : Int) := od_; have hx7 := bt_at a0 x4_1; replace p7 := eq_true p7; replace q7 := eq_true q7) | (go_at_call 90; (with_reducible refine (impl_isDigit.calls (bt a0 x4_1) true _ A8.out).mono ?_); rintro e w' ⟨rfl, ⟨nd, rfl⟩⟩; (try first | exact ⟨rfl, _, World.drewN_drewN _ _ _⟩ | exact ⟨rfl, _, Eq.trans (World.drewN_drewN _ _ _) (congrArg (World.drewN _) (Nat.add_assoc _ _ _))⟩))))
       go_roundg k1
       case measure => have := HK1.out; omega
       case rel => exact ⟨(wrap64 (x4_1 + 1)), rs_, H', ⟨by have := HK1.out; omega⟩, dr_⟩
     · replace c9 := Bool.eq_false_iff.mpr c9
       subst c9
       rw [if_neg nf_] at H
       by_cases c11 : (bt a0 x4_1) = 45
       · rw [if_pos c11] at H
         obtain ⟨c11b0, c11b1⟩ := eT_ c11
         clear c11
         have H' := A_ H
         clear H
         have p4 : 0 ≤ (x4_1 : Int) := od_
         have q4 : x4_1 < (a0.size : Int) := od_
         have hx4 := bt_at a0 x4_1
         replace p4 := eq_true p4
         replace q4 := eq_true q4
         go_wp2_with (first | (go_at_call 89; (with_reducible refine (impl_isSmall.calls (bt a0 x4_1) false _ A5.out).mono ?_); rintro e w' ⟨rfl, ⟨nd, rfl⟩⟩; (try first | exact ⟨rfl, _, World.drewN_drewN _ _ _⟩ | exact ⟨rfl, _, Eq.trans (World.drewN_drewN _ _ _) (congrArg (World.drewN _) (Nat.add_assoc _ _ _))⟩); have p7 : 0 ≤ (x4_1 : Int) := od_; have q7 : x4_1 < (a0.size : Int) := od_; have hx7 := bt_at a0 x4_1; replace p7 := eq_true p7; replace q7 := eq_true q7) | (go_at_call 90; (with_reducible refine (impl_isDigit.calls (bt a0 x4_1) false _ A8.out).mono ?_); rintro e w' ⟨rfl, ⟨nd, rfl⟩⟩; (try first | exact ⟨rfl, _, World.drewN_drewN _ _ _⟩ | exact ⟨rfl, _, Eq.trans (World.drewN_drewN _ _ _) (congrArg (World.drewN _) (Nat.add_assoc _ _ _))⟩); have p10 : 0 ≤ (x4_1 : Int) := od_; have q10 : x4_1 < (a0.size : Int) := od_; have hx10 := bt_at a0 x4_1; replace p10 := eq_true p10; replace q10 := eq_true q10))
         repeat (go_quiet (first | (go_at_call 89; (with_reducible refine (impl_isSmall.calls (bt a0 x4_1) false _ A5.out).mono ?_); rintro e w' ⟨rfl, ⟨nd, rfl⟩⟩; (try first | exact ⟨rfl, _, World.drewN_drewN _ _ _⟩ | exact ⟨rfl, _, Eq.trans (World.drewN_drewN _ _ _) (congrArg (World.drewN _) (Nat.add_assoc _ _ _))⟩); have p7 : 0 ≤ (x4_1 : Int) := od_; have q7 : x4_1 < (a0.size : Int) := od_; have hx7 := bt_at a0 x4_1; replace p7 := eq_true p7; replace q7 := eq_true q7) | (go_at_call 90; (with_reducible refine (impl_isDigit.calls (bt a0 x4_1) false _ A8.out).mono ?_); rintro e w' ⟨rfl, ⟨nd, rfl⟩⟩; (try first | exact ⟨rfl, _, World.drewN_drewN _ _ _⟩ | exact ⟨rfl, _, Eq.trans (World.drewN_drewN _ _ _) (congrArg (World.drewN _) (Nat.add_assoc _ _ _))⟩); have p10 : 0 ≤ (x4_1 : Int) := od_; have q10 : x4_1 < (a0.size : Int) := od_; have hx10 := bt_at a0 x4_1; replace p10 := eq_true p10; replace q10 := eq_true q10)); try go_wp2_with (first | (go_at_call 89; (with_reducible refine (impl_isSmall.calls (bt a0 x4_1) false _ A5.out).mono ?_); rintro e w' ⟨rfl, ⟨nd, rfl⟩⟩; (try first | exact ⟨rfl, _, World.drewN_drewN _ _ _⟩ | exact ⟨rfl, _, Eq.trans (World.drewN_drewN _ _ _) (congrArg (World.drewN _) (Nat.add_assoc _ _ _))⟩); have p7 : 0 ≤ (x4_1 : Int) := od_; have q7 : x4_1 < (a0.size : Int) := od_; have hx7 := bt_at a0 x4_1; replace p7 := eq_true p7; replace q7 := eq_true q7) | (go_at_call 90; (with_reducible refine (impl_isDigit.calls (bt a0 x4_1) false _ A8.out).mono ?_); rintro e w' ⟨rfl, ⟨nd, rfl⟩⟩; (try first | exact ⟨rfl, _, World.drewN_drewN _ _ _⟩ | exact ⟨rfl, _, Eq.trans (World.drewN_drewN _ _ _) (congrArg (World.drewN _) (Nat.add_assoc _ _ _))⟩); have p10 : 0 ≤ (x4_1 : Int) := od_; have q10 : x4_1 < (a0.size : Int) := od_; have hx10 := bt_at a0 x4_1; replace p10 := eq_true p10; replace q10 := eq_true q10)))
         go_roundg k1
         case measure => have := HK1.out; omega
         case rel => exact ⟨(wrap64 (x4_1 + 1)), rs_, H', ⟨by have := HK1.out; omega⟩, dr_⟩
       rw [if_neg c11] at H
       obtain ⟨c11b0, c11b1⟩ := eF_ c11
       have c12b0 := eq_true (od_ : 0 ≤ x4_1)
       by_cases c13 : x4_1 ≤ (a0.size : Int)
       rotate_left
       · exact absurd H (by rw [if_neg c13]; simp)
       rw [if_pos c13] at H
       have c13b0 := eq_true c13
       have c13b1 := decide_eq_true c13
       clear c13
       have c14b0 := eq_true (od_ : 0 ≤ x4_1)
       have c15b0 := eq_true (od_ : x4_1 ≤ (a0.size : Int))
       simp only [Option.some.injEq, Prod.mk.injEq] at H
       obtain ⟨rfl, rfl⟩ := H
       have p4 : 0 ≤ (x4_1 : Int) := od_
       have q4 : x4_1 < (a0.size : Int) := od_
       have hx4 := bt_at a0 x4_1
       replace p4 := eq_true p4
       replace q4 := eq_true q4
       go_wp2_with (first | (go_at_call 89; (with_reducible refine (impl_isSmall.calls (bt a0 x4_1) false _ A5.out).mono ?_); rintro e w' ⟨rfl, ⟨nd, rfl⟩⟩; (try first | exact ⟨rfl, _, World.drewN_drewN _ _ _⟩ | exact ⟨rfl, _, Eq.trans (World.drewN_drewN _ _ _) (congrArg (World.drewN _) (Nat.add_assoc _ _ _))⟩); have p7 : 0 ≤ (x4_1 : Int) := od_; have q7 : x4_1 < (a0.size : Int) := od_; have hx7 := bt_at a0 x4_1; replace p7 := eq_true p7; replace q7 := eq_true q7) | (go_at_call 90; (with_reducible refine (impl_isDigit.calls (bt a0 x4_1) false _ A8.out).mono ?_); rintro e w' ⟨rfl, ⟨nd, rfl⟩⟩; (try first | exact ⟨rfl, _, World.drewN_drewN _ _ _⟩ | exact ⟨rfl, _, Eq.trans (World.drewN_drewN _ _ _) (congrArg (World.drewN _) (Nat.add_assoc _ _ _))⟩); have p10 : 0 ≤ (x4_1 : Int) := od_; have q10 : x4_1 < (a0.size : Int) := od_; have hx10 := bt_at a0 x4_1; replace p10 := eq_true p10; replace q10 := eq_true q10))
       repeat (go_quiet (first | (go_at_call 89; (with_reducible refine (impl_isSmall.calls (bt a0 x4_1) false _ A5.out).mono ?_); rintro e w' ⟨rfl, ⟨nd, rfl⟩⟩; (try first | exact ⟨rfl, _, World.drewN_drewN _ _ _⟩ | exact ⟨rfl, _, Eq.trans (World.drewN_drewN _ _ _) (congrArg (World.drewN _) (Nat.add_assoc _ _ _))⟩); have p7 : 0 ≤ (x4_1 : Int) := od_; have q7 : x4_1 < (a0.size : Int) := od_; have hx7 := bt_at a0 x4_1; replace p7 := eq_true p7; replace q7 := eq_true q7) | (go_at_call 90; (with_reducible refine (impl_isDigit.calls (bt a0 x4_1) false _ A8.out).mono ?_); rintro e w' ⟨rfl, ⟨nd, rfl⟩⟩; (try first | exact ⟨rfl, _, World.drewN_drewN _ _ _⟩ | exact ⟨rfl, _, Eq.trans (World.drewN_drewN _ _ _) (congrArg (World.drewN _) (Nat.add_assoc _ _ _))⟩); have p10 : 0 ≤ (x4_1 : Int) := od_; have q10 : x4_1 < (a0.size : Int) := od_; have hx10 := bt_at a0 x4_1; replace p10 := eq_true p10; replace q10 := eq_true q10)); try go_wp2_with (first | (go_at_call 89; (with_reducible refine (impl_isSmall.calls (bt a0 x4_1) false _ A5.out).mono ?_); rintro e w' ⟨rfl, ⟨nd, rfl⟩⟩; (try first | exact ⟨rfl, _, World.drewN_drewN _ _ _⟩ | exact ⟨rfl, _, Eq.trans (World.drewN_drewN _ _ _) (congrArg (World.drewN _) (Nat.add_assoc _ _ _))⟩); have p7 : 0 ≤ (x4_1 : Int) := od_; have q7 : x4_1 < (a0.size : Int) := od_; have hx7 := bt_at a0 x4_1; replace p7 := eq_true p7; replace q7 := eq_true q7) | (go_at_call 90; (with_reducible refine (impl_isDigit.calls (bt a0 x4_1) false _ A8.out).mono ?_); rintro e w' ⟨rfl, ⟨nd, rfl⟩⟩; (try first | exact ⟨rfl, _, World.drewN_drewN _ _ _⟩ | exact ⟨rfl, _, Eq.trans (World.drewN_drewN _ _ _) (congrArg (World.drewN _) (Nat.add_assoc _ _ _))⟩); have p10 : 0 ≤ (x4_1 : Int) := od_; have q10 : x4_1 < (a0.size : Int) := od_; have hx10 := bt_at a0 x4_1; replace p10 := eq_true p10; replace q10 := eq_true q10)))
       go_ret2
       exact ⟨rs_, dr_⟩
def impl_markAt.j0 : Nat → ByteArray → ByteArray → Int → ByteArray → ByteArray → Bool → ByteArray → Option (Int × ByteArray × ByteArray × Bool × ByteArray × ByteArray × Bool)
 | 0, _, _, _, _, _, _, _ => none
 | k + 1, x11, x12, x244000, x244001, x244002, x244003, x244004 => (strings_CutPrefix.f x12 (⟨#[47, 62]⟩ : ByteArray)).bind fun bt253 => (if bt253.2 = true then ((impl_SmallName.f k x11).bind fun t255 => (some (3, x244001, x244002, x244003, x244004, bt253.1, t255))) else ((strings_CutPrefix.f x12 (⟨#[62]⟩ : ByteArray)).bind fun bt256 => (if bt256.2 = true then ((impl_SmallName.f k x11).bind fun t258 => (some (x244000, x244001, x244002, x244003, x244004, bt256.1, t258))) else (some (x244000, x244001, x244002, x244003, x244004, bt256.1, false)))))
def impl_markAt.f (k : Nat) (a0 : ByteArray) : Option (Int × ByteArray × ByteArray × Bool × ByteArray × ByteArray × Bool) := (strings_CutPrefix.f a0 (⟨#[60, 47]⟩ : ByteArray)).bind fun bt236 => (if bt236.2 = true then ((impl_nameAt.f k bt236.1).bind fun bt238 => ((strings_CutPrefix.f bt238.2 (⟨#[62]⟩ : ByteArray)).bind fun bt240 => (if bt240.2 = true then ((impl_SmallName.f k bt238.1).bind fun t242 => (some (2, bt238.1, (⟨#[]⟩ : ByteArray), false, (⟨#[]⟩ : ByteArray), bt240.1, t242))) else (some (2, bt238.1, (⟨#[]⟩ : ByteArray), false, (⟨#[]⟩ : ByteArray), bt240.1, false))))) else (if 1 ≤ (a0.size : Int) then ((impl_nameAt.f k (a0.extract 1 a0.size)).bind fun bt244 => ((strings_CutPrefix.f bt244.2 (⟨#[32, 120, 109, 108, 110, 115, 61, 34]⟩ : ByteArray)).bind fun bt246 => (if bt246.2 = true then ((strings_Cut.f bt246.1 (⟨#[34]⟩ : ByteArray)).bind fun bt248 => ((impl_Unescape.f k bt248.1).bind fun bt251 => (if bt248.2.2 = true then (if bt251.2 = true then (if (bt251.1.size : Int) > 20 then (some (0, (⟨#[]⟩ : ByteArray), (⟨#[]⟩ : ByteArray), false, (⟨#[]⟩ : ByteArray), (⟨#[]⟩ : ByteArray), false)) else (impl_markAt.j0 k bt244.1 bt248.2.1 1 bt244.1 bt251.1 true (⟨#[]⟩ : ByteArray))) else (some (0, (⟨#[]⟩ : ByteArray), (⟨#[]⟩ : ByteArray), false, (⟨#[]⟩ : ByteArray), (⟨#[]⟩ : ByteArray), false))) else (some (0, (⟨#[]⟩ : ByteArray), (⟨#[]⟩ : ByteArray), false, (⟨#[]⟩ : ByteArray), (⟨#[]⟩ : ByteArray), false))))) else (impl_markAt.j0 k bt244.1 bt244.2 1 bt244.1 (⟨#[]⟩ : ByteArray) false (⟨#[]⟩ : ByteArray))))) else (none)))
def impl_markAt.T22 : Bool × List (List Nat × List Nat) := (true, [([], []), ([], []), ([], []), ([2], [2]), ([3], [3]), ([4, 3, 3], [3, 4]), ([3, 5], [3, 5]), ([0, 5, 0], [0]), ([1, 7, 0, 1, 7], [1]), ([6, 8, 0, 1, 2, 3, 4, 5, 6, 7, 8], [6])])
def impl_markAt.B22 : List Nat := [0, 0, 0, 4, 12, 28, 60, 61, 191, 511]
theorem impl_markAt.tab22 : rtab .any (opsOf Tryz.f62 22) = impl_markAt.T22 := by kernel_rfl
theorem impl_markAt.bits22 : waitsOk impl_markAt.T22.2 impl_markAt.B22 = true := by kernel_rfl
set_option maxHeartbeats 8000000 in
set_option maxRecDepth 100000 in
theorem impl_markAt.calls (k : Nat) (a0 : ByteArray) (r1 : Int) (r2 : ByteArray) (r3 : ByteArray) (r4 : Bool) (r5 : ByteArray) (r6 : ByteArray) (r7 : Bool) (w : World) (hGT : GT w) (hGM : GM w) (hGE : GE w) (h : impl_markAt.f k a0 = some (r1, r2, r3, r4, r5, r6, r7)) :
 Calls Tryz.prog 62 #[.string a0] w fun e w' => e = .returned (.tuple #[.agg #[.int .i64 r1, .string r2, .string r3, .bool r4, .string r5], .string r6, .bool r7]) ∧ Below w.heap.size w w' := by
 have HGT := A_ hGT
 have HGM := A_ hGM
 have HGE := A_ hGE
 clear hGT hGM hGE
 have hu82 := Tryz.underlying82
 have HB := A_ (Below.refl w.heap.size w)
 have H : ((strings_CutPrefix.f a0 (⟨#[60, 47]⟩ : ByteArray)).bind fun bt88 => (if bt88.2 = true then ((impl_nameAt.f k bt88.1).bind fun bt84 => ((strings_CutPrefix.f bt84.2 (⟨#[62]⟩ : ByteArray)).bind fun bt89 => (if bt89.2 = true then ((impl_SmallName.f k bt84.1).bind fun t93 => (some (2, bt84.1, (⟨#[]⟩ : ByteArray), false, (⟨#[]⟩ : ByteArray), bt89.1, t93))) else (some (2, bt84.1, (⟨#[]⟩ : ByteArray), false, (⟨#[]⟩ : ByteArray), bt89.1, false))))) else (if 1 ≤ (a0.size : Int) then ((impl_nameAt.f k (a0.extract 1 a0.size)).bind fun bt83 => ((strings_CutPrefix.f bt83.2 (⟨#[32, 120, 109, 108, 110, 115, 61, 34]⟩ : ByteArray)).bind fun bt87 => (if bt87.2 = true then ((strings_Cut.f bt87.1 (⟨#[34]⟩ : ByteArray)).bind fun bt85 => ((impl_Unescape.f k bt85.1).bind fun bt86 => (if bt85.2.2 = true then (if bt86.2 = true then (if (bt86.1.size : Int) > 20 then (some (0, (⟨#[]⟩ : ByteArray), (⟨#[]⟩ : ByteArray), false, (⟨#[]⟩ : ByteArray), (⟨#[]⟩ : ByteArray), false)) else (impl_markAt.j0 k bt83.1 bt85.2.1 1 bt83.1 bt86.1 true (⟨#[]⟩ : ByteArray))) else (some (0, (⟨#[]⟩ : ByteArray), (⟨#[]⟩ : ByteArray), false, (⟨#[]⟩ : ByteArray), (⟨#[]⟩ : ByteArray), false))) else (some (0, (⟨#[]⟩ : ByteArray), (⟨#[]⟩ : ByteArray), false, (⟨#[]⟩ : ByteArray), (⟨#[]⟩ : ByteArray), false))))) else (impl_markAt.j0 k bt83.1 bt83.2 1 bt83.1 (⟨#[]⟩ : ByteArray) false (⟨#[]⟩ : ByteArray))))) else (none)))) = some (r1, r2, r3, r4, r5, r6, r7) := h
 clear h
 obtain ⟨⟨t88, t98⟩, A2, H⟩ := bo_ H
 (try dsimp only at H)
 by_cases c3 : t98 = true
 · subst c3
   rw [if_pos rfl] at H
   obtain ⟨⟨t84, t90⟩, A4, H⟩ := bo_ H
   (try dsimp only at H)
   obtain ⟨⟨t89, t99⟩, A5, H⟩ := bo_ H
   (try dsimp only at H)
   by_cases c6 : t99 = true
   · subst c6
     rw [if_pos rfl] at H
     obtain ⟨t93, A7, H⟩ := bo_ H
     (try dsimp only at H)
     simp only [Option.some.injEq, Prod.mk.injEq] at H
     obtain ⟨rfl, rfl, rfl, rfl, rfl, rfl, rfl⟩ := H
     go_enter Tryz.func62, Tryz.ntmps62
     go_wp2_with (first | ((with_reducible refine gd_ (N := 2) rfl ?_); (try (refine gate_guard (by rfl) ?_; dsimp only)); refine bx_ (N := 2) (cs := #[.int .i64 0, .string (⟨#[]⟩ : ByteArray), .string (⟨#[]⟩ : ByteArray), .bool false, .string (⟨#[]⟩ : ByteArray)]) (t := 82) ?_; intro gb80 hg w8 hbox hb; have BK80 := A_ (hbox); have GW80 := A_ (ge_ hg bB_ : w.heap.size ≤ gb80); have GE80 := A_ (ge_ hg bB_ : w.heap.size ≤ gb80); replace HB := A_ (below_step bB_ hb); clear hb hbox hg) | ((with_reducible refine gc_ (f := 82) rfl ?_); refine gL_ (some 25) Tryz.func82 #[.string a0, .string (⟨#[60, 47]⟩ : ByteArray)] ?_; (with_reducible refine (strings_CutPrefix.calls a0 (⟨#[60, 47]⟩ : ByteArray) t88 true _ A2.out).mono ?_); rintro e w9 ⟨rfl, hb⟩; refine ⟨_, rfl, ?_⟩; replace BK80 := A_ (bw_ BK80.out hb); replace HB := A_ (below_step (bG_ GE80.out) hb); clear hb) | ((with_reducible refine gc_ (f := 83) rfl ?_); refine gL_ (some 31) Tryz.func83 #[.string t88] ?_; (with_reducible refine (impl_nameAt.calls k t88 t84 t90 _ A4.out).mono ?_); rintro e w' ⟨rfl, ⟨nd, rfl⟩⟩; refine ⟨_, rfl, ?_⟩; (try (rw [drewN_self w9]; generalize hq_ : World.drewN w9 _ = w9; have n0_ : Aside0 (w9.heap[gb80]? = some (.cells #[.int .i64 0, .string (⟨#[]⟩ : ByteArray), .string (⟨#[]⟩ : ByteArray), .bool false, .string (⟨#[]⟩ : ByteArray)] 82 (0, 0))) := ⟨by rw [← hq_]; exact (vb_ BK80.out)⟩; have n1_ : Aside0 (Below w.heap.size w w9) := ⟨by rw [← hq_]; exact (bG_ GE80.out)⟩; clear BK80 HB hq_; have BK80 := n0_; have HB := n1_; clear n0_ n1_))) | ((with_reducible refine gc_ (f := 82) rfl ?_); refine gL_ (some 36) Tryz.func82 #[.string t90, .string (⟨#[62]⟩ : ByteArray)] ?_; (with_reducible refine (strings_CutPrefix.calls t90 (⟨#[62]⟩ : ByteArray) t89 true _ A5.out).mono ?_); rintro e w10 ⟨rfl, hb⟩; refine ⟨_, rfl, ?_⟩; replace BK80 := A_ (bw_ BK80.out hb); replace HB := A_ (below_step (bG_ GE80.out) hb); clear hb) | (go_at_call 70; (with_reducible refine (impl_SmallName.calls k t84 t93 _ A7.out).mono ?_); rintro e w' ⟨rfl, ⟨nd, rfl⟩⟩; (try (rw [drewN_self w10]; generalize hq_ : World.drewN w10 _ = w10; have n0_ : Aside0 (w10.heap[gb80]? = some (.cells #[.int .i64 0, .string (⟨#[]⟩ : ByteArray), .string (⟨#[]⟩ : ByteArray), .bool false, .string (⟨#[]⟩ : ByteArray)] 82 (0, 0))) := ⟨by rw [← hq_]; exact (vb_ BK80.out)⟩; have n1_ : Aside0 (Below w.heap.size w w10) := ⟨by rw [← hq_]; exact (bG_ GE80.out)⟩; clear BK80 HB hq_; have BK80 := n0_; have HB := n1_; clear n0_ n1_)); obtain ⟨hcz11_0, hcz11_1, hcz11_2, hcz11_3, hcz11_4, hfz11_0, hfz11_1, hfz11_2, hfz11_3, hfz11_4⟩ := cz5_ BK80.out))
     refine bodyPost_ret (results_ctt rfl _ _ gb80 82 #[.int .i64 2, .string t84, .string (⟨#[]⟩ : ByteArray), .bool false, .string (⟨#[]⟩ : ByteArray)] (0, 0) _ rfl (by (with_reducible repeat (first | refine blk_drewN ?_ _ | refine blk_drew ?_ | refine blk_alloc ?_ _)); refine blk_put (cs := #[.int .i64 2, .string t84, .string (⟨#[]⟩ : ByteArray), .bool false, .string (⟨#[]⟩ : ByteArray)]) ?_ 4 _ rfl; (with_reducible repeat (first | refine blk_drewN ?_ _ | refine blk_drew ?_ | refine blk_alloc ?_ _)); refine blk_put (cs := #[.int .i64 2, .string t84, .string (⟨#[]⟩ : ByteArray), .bool false, .string (⟨#[]⟩ : ByteArray)]) ?_ 3 _ rfl; (with_reducible repeat (first | refine blk_drewN ?_ _ | refine blk_drew ?_ | refine blk_alloc ?_ _)); refine blk_put (cs := #[.int .i64 2, .string t84, .string (⟨#[]⟩ : ByteArray), .bool false, .string (⟨#[]⟩ : ByteArray)]) ?_ 2 _ rfl; (with_reducible repeat (first | refine blk_drewN ?_ _ | refine blk_drew ?_ | refine blk_alloc ?_ _)); refine blk_put (cs := #[.int .i64 2, .string (⟨#[]⟩ : ByteArray), .string (⟨#[]⟩ : ByteArray), .bool false, .string (⟨#[]⟩ : ByteArray)]) ?_ 1 _ rfl; (with_reducible repeat (first | refine blk_drewN ?_ _ | refine blk_drew ?_ | refine blk_alloc ?_ _)); refine blk_put (cs := #[.int .i64 0, .string (⟨#[]⟩ : ByteArray), .string (⟨#[]⟩ : ByteArray), .bool false, .string (⟨#[]⟩ : ByteArray)]) ?_ 0 _ rfl; (with_reducible repeat (first | refine blk_drewN ?_ _ | refine blk_drew ?_ | refine blk_alloc ?_ _)); exact BK80.out) Tryz.underlying82 rfl (by kernel_rfl)) rfl ?_
     exact ⟨rr_, bG_ GE80.out⟩
   · replace c6 := Bool.eq_false_iff.mpr c6
     subst c6
     rw [if_neg nf_] at H
     simp only [Option.some.injEq, Prod.mk.injEq] at H
     obtain ⟨rfl, rfl, rfl, rfl, rfl, rfl, rfl⟩ := H
     go_enter Tryz.func62, Tryz.ntmps62
     go_wp2_with (first | ((with_reducible refine gd_ (N := 2) rfl ?_); (try (refine gate_guard (by rfl) ?_; dsimp only)); refine bx_ (N := 2) (cs := #[.int .i64 0, .string (⟨#[]⟩ : ByteArray), .string (⟨#[]⟩ : ByteArray), .bool false, .string (⟨#[]⟩ : ByteArray)]) (t := 82) ?_; intro gb80 hg w12 hbox hb; have BK80 := A_ (hbox); have GW80 := A_ (ge_ hg bB_ : w.heap.size ≤ gb80); have GE80 := A_ (ge_ hg bB_ : w.heap.size ≤ gb80); replace HB := A_ (below_step bB_ hb); clear hb hbox hg) | ((with_reducible refine gc_ (f := 82) rfl ?_); refine gL_ (some 25) Tryz.func82 #[.string a0, .string (⟨#[60, 47]⟩ : ByteArray)] ?_; (with_reducible refine (strings_CutPrefix.calls a0 (⟨#[60, 47]⟩ : ByteArray) t88 true _ A2.out).mono ?_); rintro e w13 ⟨rfl, hb⟩; refine ⟨_, rfl, ?_⟩; replace BK80 := A_ (bw_ BK80.out hb); replace HB := A_ (below_step (bG_ GE80.out) hb); clear hb) | ((with_reducible refine gc_ (f := 83) rfl ?_); refine gL_ (some 31) Tryz.func83 #[.string t88] ?_; (with_reducible refine (impl_nameAt.calls k t88 t84 t90 _ A4.out).mono ?_); rintro e w' ⟨rfl, ⟨nd, rfl⟩⟩; refine ⟨_, rfl, ?_⟩; (try (rw [drewN_self w13]; generalize hq_ : World.drewN w13 _ = w13; have n0_ : Aside0 (w13.heap[gb80]? = some (.cells #[.int .i64 0, .string (⟨#[]⟩ : ByteArray), .string (⟨#[]⟩ : ByteArray), .bool false, .string (⟨#[]⟩ : ByteArray)] 82 (0, 0))) := ⟨by rw [← hq_]; exact (vb_ BK80.out)⟩; have n1_ : Aside0 (Below w.heap.size w w13) := ⟨by rw [← hq_]; exact (bG_ GE80.out)⟩; clear BK80 HB hq_; have BK80 := n0_; have HB := n1_; clear n0_ n1_))) | ((with_reducible refine gc_ (f := 82) rfl ?_); refine gL_ (some 36) Tryz.func82 #[.string t90, .string (⟨#[62]⟩ : ByteArray)] ?_; (with_reducible refine (strings_CutPrefix.calls t90 (⟨#[62]⟩ : ByteArray) t89 false _ A5.out).mono ?_); rintro e w14 ⟨rfl, hb⟩; refine ⟨_, rfl, ?_⟩; replace BK80 := A_ (bw_ BK80.out hb); replace HB := A_ (below_step (bG_ GE80.out) hb); clear hb; obtain ⟨hcz15_0, hcz15_1, hcz15_2, hcz15_3, hcz15_4, hfz15_0, hfz15_1, hfz15_2, hfz15_3, hfz15_4⟩ := cz5_ BK80.out))
     refine bodyPost_ret (results_ctt rfl _ _ gb80 82 #[.int .i64 2, .string t84, .string (⟨#[]⟩ : ByteArray), .bool false, .string (⟨#[]⟩ : ByteArray)] (0, 0) _ rfl (by (with_reducible repeat (first | refine blk_drewN ?_ _ | refine blk_drew ?_ | refine blk_alloc ?_ _)); refine blk_put (cs := #[.int .i64 2, .string t84, .string (⟨#[]⟩ : ByteArray), .bool false, .string (⟨#[]⟩ : ByteArray)]) ?_ 4 _ rfl; (with_reducible repeat (first | refine blk_drewN ?_ _ | refine blk_drew ?_ | refine blk_alloc ?_ _)); refine blk_put (cs := #[.int .i64 2, .string t84, .string (⟨#[]⟩ : ByteArray), .bool false, .string (⟨#[]⟩ : ByteArray)]) ?_ 3 _ rfl; (with_reducible repeat (first | refine blk_drewN ?_ _ | refine blk_drew ?_ | refine blk_alloc ?_ _)); refine blk_put (cs := #[.int .i64 2, .string t84, .string (⟨#[]⟩ : ByteArray), .bool false, .string (⟨#[]⟩ : ByteArray)]) ?_ 2 _ rfl; (with_reducible repeat (first | refine blk_drewN ?_ _ | refine blk_drew ?_ | refine blk_alloc ?_ _)); refine blk_put (cs := #[.int .i64 2, .string (⟨#[]⟩ : ByteArray), .string (⟨#[]⟩ : ByteArray), .bool false, .string (⟨#[]⟩ : ByteArray)]) ?_ 1 _ rfl; (with_reducible repeat (first | refine blk_drewN ?_ _ | refine blk_drew ?_ | refine blk_alloc ?_ _)); refine blk_put (cs := #[.int .i64 0, .string (⟨#[]⟩ : ByteArray), .string (⟨#[]⟩ : ByteArray), .bool false, .string (⟨#[]⟩ : ByteArray)]) ?_ 0 _ rfl; (with_reducible repeat (first | refine blk_drewN ?_ _ | refine blk_drew ?_ | refine blk_alloc ?_ _)); exact BK80.out) Tryz.underlying82 rfl (by kernel_rfl)) rfl ?_
     exact ⟨rr_, bG_ GE80.out⟩
 · replace c3 := Bool.eq_false_iff.mpr c3
   subst c3
   rw [if_neg nf_] at H
   by_cases c16 : 1 ≤ (a0.size : Int)
   rotate_left
   · exact absurd H (by rw [if_neg c16]; simp)
   rw [if_pos c16] at H
   have c16b0 := eq_true c16
   have c16b1 := decide_eq_true c16
   clear c16
   obtain ⟨⟨t83, t92⟩, A17, H⟩ := bo_ H
   (try dsimp only at H)
   obtain ⟨⟨t87, t95⟩, A18, H⟩ := bo_ H
   (try dsimp only at H)
   have HC19 := A_ H
   clear H
   go_enter Tryz.func62, Tryz.ntmps62
   go_upto_if 61 with (first | ((with_reducible refine gd_ (N := 2) rfl ?_); (try (refine gate_guard (by rfl) ?_; dsimp only)); refine bx_ (N := 2) (cs := #[.int .i64 0, .string (⟨#[]⟩ : ByteArray), .string (⟨#[]⟩ : ByteArray), .bool false, .string (⟨#[]⟩ : ByteArray)]) (t := 82) ?_; intro gb80 hg w20 hbox hb; have BK80 := A_ (hbox); have GW80 := A_ (ge_ hg bB_ : w.heap.size ≤ gb80); have GE80 := A_ (ge_ hg bB_ : w.heap.size ≤ gb80); replace HB := A_ (below_step bB_ hb); clear hb hbox hg) | ((with_reducible refine gc_ (f := 82) rfl ?_); refine gL_ (some 25) Tryz.func82 #[.string a0, .string (⟨#[60, 47]⟩ : ByteArray)] ?_; (with_reducible refine (strings_CutPrefix.calls a0 (⟨#[60, 47]⟩ : ByteArray) t88 false _ A2.out).mono ?_); rintro e w21 ⟨rfl, hb⟩; refine ⟨_, rfl, ?_⟩; replace BK80 := A_ (bw_ BK80.out hb); replace HB := A_ (below_step (bG_ GE80.out) hb); clear hb) | ((with_reducible refine gd_ (N := 10) rfl ?_); (try (refine gate_guard (by rfl) ?_; dsimp only)); refine bx_ (N := 10) (cs := #[.int .i64 0, .string (⟨#[]⟩ : ByteArray), .string (⟨#[]⟩ : ByteArray), .bool false, .string (⟨#[]⟩ : ByteArray)]) (t := 82) ?_; intro gb81 hg w22 hbox hb; have BK81 := A_ (hbox); have GW81 := A_ (ge_ hg (bG_ GE80.out) : w.heap.size ≤ gb81); have GE81 := A_ (ge_ hg (bG_ GE80.out) : w.heap.size ≤ gb81); replace HB := A_ (below_step (bG_ GE80.out) hb); have NB235_243 := A_ (gm_ hg BK80.out); have NB243_235 := A_ (gn_ hg BK80.out); replace BK80 := A_ (bw_ BK80.out hb); clear hb hbox hg; have hnb23 := NB243_235.out; have hnc23 := NB235_243.out; obtain ⟨hcz24_0, hcz24_1, hcz24_2, hcz24_3, hcz24_4, hfz24_0, hfz24_1, hfz24_2, hfz24_3, hfz24_4⟩ := cz5_ BK81.out) | ((with_reducible refine gc_ (f := 83) rfl ?_); refine gL_ (some 51) Tryz.func83 #[.string (a0.extract 1 a0.size)] ?_; (with_reducible refine (impl_nameAt.calls k (a0.extract 1 a0.size) t83 t92 _ A17.out).mono ?_); rintro e w' ⟨rfl, ⟨nd, rfl⟩⟩; refine ⟨_, rfl, ?_⟩) | ((with_reducible refine gc_ (f := 82) rfl ?_); refine gL_ (some 58) Tryz.func82 #[.string t92, .string (⟨#[32, 120, 109, 108, 110, 115, 61, 34]⟩ : ByteArray)] ?_; (with_reducible refine (strings_CutPrefix.calls t92 (⟨#[32, 120, 109, 108, 110, 115, 61, 34]⟩ : ByteArray) t87 t95 _ A18.out).mono ?_); rintro e w25 ⟨rfl, hb⟩; refine ⟨_, rfl, ?_⟩; replace BK80 := A_ (blk_below (g := gb80) (o := .cells #[.int .i64 0, .string (⟨#[]⟩ : ByteArray), .string (⟨#[]⟩ : ByteArray), .bool false, .string (⟨#[]⟩ : ByteArray)] 82 (0, 0)) (by (with_reducible repeat (first | refine blk_drewN ?_ _ | refine blk_drew ?_ | refine blk_alloc ?_ _)); refine blk_far ?_ NB235_243.out _; (with_reducible repeat (first | refine blk_drewN ?_ _ | refine blk_drew ?_ | refine blk_alloc ?_ _)); refine blk_far ?_ NB235_243.out _; (with_reducible repeat (first | refine blk_drewN ?_ _ | refine blk_drew ?_ | refine blk_alloc ?_ _)); refine blk_far ?_ NB235_243.out _; (with_reducible repeat (first | refine blk_drewN ?_ _ | refine blk_drew ?_ | refine blk_alloc ?_ _)); refine blk_far ?_ NB235_243.out _; (with_reducible repeat (first | refine blk_drewN ?_ _ | refine blk_drew ?_ | refine blk_alloc ?_ _)); refine blk_far ?_ NB235_243.out _; (with_reducible repeat (first | refine blk_drewN ?_ _ | refine blk_drew ?_ | refine blk_alloc ?_ _)); refine blk_far ?_ NB235_243.out _; (with_reducible repeat (first | refine blk_drewN ?_ _ | refine blk_drew ?_ | refine blk_alloc ?_ _)); exact BK80.out) hb); replace BK81 := A_ (blk_below (g := gb81) (o := .cells #[.int .i64 1, .string t83, .string (⟨#[]⟩ : ByteArray), .bool false, .string (⟨#[]⟩ : ByteArray)] 82 (0, 0)) (by (with_reducible repeat (first | refine blk_drewN ?_ _ | refine blk_drew ?_ | refine blk_alloc ?_ _)); refine blk_put (cs := #[.int .i64 1, .string (⟨#[]⟩ : ByteArray), .string (⟨#[]⟩ : ByteArray), .bool false, .string (⟨#[]⟩ : ByteArray)]) ?_ 1 _ rfl; (with_reducible repeat (first | refine blk_drewN ?_ _ | refine blk_drew ?_ | refine blk_alloc ?_ _)); refine blk_put (cs := #[.int .i64 1, .string (⟨#[]⟩ : ByteArray), .string (⟨#[]⟩ : ByteArray), .bool false, .string (⟨#[]⟩ : ByteArray)]) ?_ 4 _ rfl; (with_reducible repeat (first | refine blk_drewN ?_ _ | refine blk_drew ?_ | refine blk_alloc ?_ _)); refine blk_put (cs := #[.int .i64 1, .string (⟨#[]⟩ : ByteArray), .string (⟨#[]⟩ : ByteArray), .bool false, .string (⟨#[]⟩ : ByteArray)]) ?_ 3 _ rfl; (with_reducible repeat (first | refine blk_drewN ?_ _ | refine blk_drew ?_ | refine blk_alloc ?_ _)); refine blk_put (cs := #[.int .i64 1, .string (⟨#[]⟩ : ByteArray), .string (⟨#[]⟩ : ByteArray), .bool false, .string (⟨#[]⟩ : ByteArray)]) ?_ 2 _ rfl; (with_reducible repeat (first | refine blk_drewN ?_ _ | refine blk_drew ?_ | refine blk_alloc ?_ _)); refine blk_put (cs := #[.int .i64 1, .string (⟨#[]⟩ : ByteArray), .string (⟨#[]⟩ : ByteArray), .bool false, .string (⟨#[]⟩ : ByteArray)]) ?_ 1 _ rfl; (with_reducible repeat (first | refine blk_drewN ?_ _ | refine blk_drew ?_ | refine blk_alloc ?_ _)); refine blk_put (cs := #[.int .i64 0, .string (⟨#[]⟩ : ByteArray), .string (⟨#[]⟩ : ByteArray), .bool false, .string (⟨#[]⟩ : ByteArray)]) ?_ 0 _ rfl; (with_reducible repeat (first | refine blk_drewN ?_ _ | refine blk_drew ?_ | refine blk_alloc ?_ _)); exact BK81.out) hb); replace HB := A_ (below_step (by repeat (first | (with_reducible first | exact HB.out | apply below_alloc | apply pw_below_drewN | apply below_drew1 | refine below_set ?_ GE80.out | refine below_set ?_ GE81.out) | exact HB.out)) hb); clear hb))
   (try simp only [Act.put, List.setIfInBounds_toArray, List.set_cons_zero, List.set_cons_succ])
   go_cut [12] (fun v12 wc => ∃ (kq : Nat) (x12_18 : ByteArray) (x236000_18 : Int) (x236001_18 : ByteArray) (x236002_18 : ByteArray) (x236003_18 : Bool) (x236004_18 : ByteArray) (x244002_18 : ByteArray) (x244003_18 : Bool), v12 = .string x12_18 ∧ Aside0 (impl_markAt.j0 kq t83 x12_18 1 t83 x244002_18 x244003_18 (⟨#[]⟩ : ByteArray) = some (r1, r2, r3, r4, r5, r6, r7)) ∧ Aside0 (kq ≤ k) ∧ Aside0 (wc.heap[gb80]? = some (.cells #[.int .i64 x236000_18, .string x236001_18, .string x236002_18, .bool x236003_18, .string x236004_18] 82 (0, 0))) ∧ Aside0 (wc.heap[gb81]? = some (.cells #[.int .i64 1, .string t83, .string x244002_18, .bool x244003_18, .string (⟨#[]⟩ : ByteArray)] 82 (0, 0))) ∧ Aside0 (Below w.heap.size w wc))
   case first =>
    have H := HC19.out
    clear HC19
    by_cases c26 : t95 = true
    · subst c26
      rw [if_pos rfl] at H
      obtain ⟨⟨t85, t91, t1d⟩, A27, H⟩ := bo_ H
      (try dsimp only at H)
      obtain ⟨⟨t86, t96⟩, A28, H⟩ := bo_ H
      (try dsimp only at H)
      by_cases c29 : t1d = true
      · subst c29
        rw [if_pos rfl] at H
        by_cases c30 : t96 = true
        · subst c30
          rw [if_pos rfl] at H
          by_cases c31 : (t86.size : Int) > 20
          rotate_left
          · rw [if_neg c31] at H
            have c31b0 : decide (20 < (t86.size : Int)) = false := decide_eq_false c31
            have c31b1 : decide (20 < t86.size) = false := decide_eq_false (by omega)
            clear c31
            (first | rw [c31b0] | (simp only [i64_w, i32_w]; rw [c31b0]) | skip)
            have H' := A_ H
            clear H
            go_wp2_with (first | ((with_reducible refine gc_ (f := 84) rfl ?_); refine gL_ (some 64) Tryz.func84 #[.string t87, .string (⟨#[34]⟩ : ByteArray)] ?_; (with_reducible refine (strings_Cut.calls t87 (⟨#[34]⟩ : ByteArray) t85 t91 true _ ?gM3 A27.out).mono ?_); (case gM3 => exact gM_ HGM.out (by repeat (first | (with_reducible first | exact HB.out | apply below_alloc | apply pw_below_drewN | apply below_drew1 | refine below_set ?_ GE80.out | refine below_set ?_ GE81.out) | exact HB.out))); rintro e w36 ⟨rfl, hb⟩; refine ⟨_, rfl, ?_⟩; replace BK80 := A_ (bw_ BK80.out hb); replace BK81 := A_ (bw_ BK81.out hb); replace HB := A_ (below_step (by repeat (first | (with_reducible first | exact HB.out | apply below_alloc | apply pw_below_drewN | apply below_drew1 | refine below_set ?_ GE80.out | refine below_set ?_ GE81.out) | exact HB.out)) hb); clear hb) | ((with_reducible refine gc_ (f := 64) rfl ?_); refine gL_ (some 70) Tryz.func64 #[.string t85] ?_; (with_reducible refine (impl_Unescape.calls k t85 t86 true _ ?gT4 ?gM4 ?gE4 A28.out).mono ?_); (case gT4 => exact gT_ HGT.out (by repeat (first | (with_reducible first | exact HB.out | apply below_alloc | apply pw_below_drewN | apply below_drew1 | refine below_set ?_ GE80.out | refine below_set ?_ GE81.out) | exact HB.out))); (case gM4 => exact gM_ HGM.out (by repeat (first | (with_reducible first | exact HB.out | apply below_alloc | apply pw_below_drewN | apply below_drew1 | refine below_set ?_ GE80.out | refine below_set ?_ GE81.out) | exact HB.out))); (case gE4 => exact gE_ HGE.out (by repeat (first | (with_reducible first | exact HB.out | apply below_alloc | apply pw_below_drewN | apply below_drew1 | refine below_set ?_ GE80.out | refine below_set ?_ GE81.out) | exact HB.out))); rintro e w37 ⟨rfl, hb⟩; refine ⟨_, rfl, ?_⟩; replace BK80 := A_ (bw_ BK80.out hb); replace BK81 := A_ (bw_ BK81.out hb); replace HB := A_ (below_step (by repeat (first | (with_reducible first | exact HB.out | apply below_alloc | apply pw_below_drewN | apply below_drew1 | refine below_set ?_ GE80.out | refine below_set ?_ GE81.out) | exact HB.out)) hb); clear hb; have hnb38 := NB243_235.out; have hnc38 := NB235_243.out; obtain ⟨hcz39_0, hcz39_1, hcz39_2, hcz39_3, hcz39_4, hfz39_0, hfz39_1, hfz39_2, hfz39_3, hfz39_4⟩ := cz5_ BK81.out))
            go_meet
            case rel => exact ⟨_, (t91), (0), ((⟨#[]⟩ : ByteArray)), ((⟨#[]⟩ : ByteArray)), (false), ((⟨#[]⟩ : ByteArray)), (t86), (true), rs_, H', ⟨by first | omega | exact Nat.le_refl _⟩, ⟨by (with_reducible repeat (first | refine blk_drewN ?_ _ | refine blk_drew ?_ | refine blk_alloc ?_ _)); refine blk_far ?_ NB235_243.out _; (with_reducible repeat (first | refine blk_drewN ?_ _ | refine blk_drew ?_ | refine blk_alloc ?_ _)); refine blk_far ?_ NB235_243.out _; (with_reducible repeat (first | refine blk_drewN ?_ _ | refine blk_drew ?_ | refine blk_alloc ?_ _)); exact BK80.out⟩, ⟨by (with_reducible repeat (first | refine blk_drewN ?_ _ | refine blk_drew ?_ | refine blk_alloc ?_ _)); refine blk_put (cs := #[.int .i64 1, .string t83, .string (⟨#[]⟩ : ByteArray), .bool true, .string (⟨#[]⟩ : ByteArray)]) ?_ 2 _ rfl; (with_reducible repeat (first | refine blk_drewN ?_ _ | refine blk_drew ?_ | refine blk_alloc ?_ _)); refine blk_put (cs := #[.int .i64 1, .string t83, .string (⟨#[]⟩ : ByteArray), .bool false, .string (⟨#[]⟩ : ByteArray)]) ?_ 3 _ rfl; (with_reducible repeat (first | refine blk_drewN ?_ _ | refine blk_drew ?_ | refine blk_alloc ?_ _)); exact BK81.out⟩, ⟨by repeat (first | (with_reducible first | exact HB.out | apply below_alloc | apply pw_below_drewN | apply below_drew1 | refine below_set ?_ GE80.out | refine below_set ?_ GE81.out) | exact HB.out)⟩⟩
          rw [if_pos c31] at H
          have c31b0 : decide (20 < (t86.size : Int)) = true := decide_eq_true c31
          have c31b1 : decide (20 < t86.size) = true := decide_eq_true (by omega)
          clear c31
          (first | rw [c31b0] | (simp only [i64_w, i32_w]; rw [c31b0]) | skip)
          simp only [Option.some.injEq, Prod.mk.injEq] at H
          obtain ⟨rfl, rfl, rfl, rfl, rfl, rfl, rfl⟩ := H
          go_wp2_with (first | ((with_reducible refine gc_ (f := 84) rfl ?_); refine gL_ (some 64) Tryz.func84 #[.string t87, .string (⟨#[34]⟩ : ByteArray)] ?_; (with_reducible refine (strings_Cut.calls t87 (⟨#[34]⟩ : ByteArray) t85 t91 true _ ?gM1 A27.out).mono ?_); (case gM1 => exact gM_ HGM.out (by repeat (first | (with_reducible first | exact HB.out | apply below_alloc | apply pw_below_drewN | apply below_drew1 | refine below_set ?_ GE80.out | refine below_set ?_ GE81.out) | exact HB.out))); rintro e w32 ⟨rfl, hb⟩; refine ⟨_, rfl, ?_⟩; replace BK80 := A_ (bw_ BK80.out hb); replace HB := A_ (below_step (by repeat (first | (with_reducible first | exact HB.out | apply below_alloc | apply pw_below_drewN | apply below_drew1 | refine below_set ?_ GE80.out | refine below_set ?_ GE81.out) | exact HB.out)) hb); clear hb) | ((with_reducible refine gc_ (f := 64) rfl ?_); refine gL_ (some 70) Tryz.func64 #[.string t85] ?_; (with_reducible refine (impl_Unescape.calls k t85 t86 true _ ?gT2 ?gM2 ?gE2 A28.out).mono ?_); (case gT2 => exact gT_ HGT.out (by repeat (first | (with_reducible first | exact HB.out | apply below_alloc | apply pw_below_drewN | apply below_drew1 | refine below_set ?_ GE80.out | refine below_set ?_ GE81.out) | exact HB.out))); (case gM2 => exact gM_ HGM.out (by repeat (first | (with_reducible first | exact HB.out | apply below_alloc | apply pw_below_drewN | apply below_drew1 | refine below_set ?_ GE80.out | refine below_set ?_ GE81.out) | exact HB.out))); (case gE2 => exact gE_ HGE.out (by repeat (first | (with_reducible first | exact HB.out | apply below_alloc | apply pw_below_drewN | apply below_drew1 | refine below_set ?_ GE80.out | refine below_set ?_ GE81.out) | exact HB.out))); rintro e w33 ⟨rfl, hb⟩; refine ⟨_, rfl, ?_⟩; replace BK80 := A_ (bw_ BK80.out hb); replace HB := A_ (below_step (by repeat (first | (with_reducible first | exact HB.out | apply below_alloc | apply pw_below_drewN | apply below_drew1 | refine below_set ?_ GE80.out | refine below_set ?_ GE81.out) | exact HB.out)) hb); clear hb; have hnb34 := NB235_243.out; have hnc34 := NB243_235.out; obtain ⟨hcz35_0, hcz35_1, hcz35_2, hcz35_3, hcz35_4, hfz35_0, hfz35_1, hfz35_2, hfz35_3, hfz35_4⟩ := cz5_ BK80.out))
          refine bodyPost_ret (results_ctt rfl _ _ gb80 82 #[.int .i64 0, .string (⟨#[]⟩ : ByteArray), .string (⟨#[]⟩ : ByteArray), .bool false, .string (⟨#[]⟩ : ByteArray)] (0, 0) _ rfl (by (with_reducible repeat (first | refine blk_drewN ?_ _ | refine blk_drew ?_ | refine blk_alloc ?_ _)); refine blk_put (cs := #[.int .i64 0, .string (⟨#[]⟩ : ByteArray), .string (⟨#[]⟩ : ByteArray), .bool false, .string (⟨#[]⟩ : ByteArray)]) ?_ 4 _ rfl; (with_reducible repeat (first | refine blk_drewN ?_ _ | refine blk_drew ?_ | refine blk_alloc ?_ _)); refine blk_put (cs := #[.int .i64 0, .string (⟨#[]⟩ : ByteArray), .string (⟨#[]⟩ : ByteArray), .bool false, .string (⟨#[]⟩ : ByteArray)]) ?_ 3 _ rfl; (with_reducible repeat (first | refine blk_drewN ?_ _ | refine blk_drew ?_ | refine blk_alloc ?_ _)); refine blk_put (cs := #[.int .i64 0, .string (⟨#[]⟩ : ByteArray), .string (⟨#[]⟩ : ByteArray), .bool false, .string (⟨#[]⟩ : ByteArray)]) ?_ 2 _ rfl; (with_reducible repeat (first | refine blk_drewN ?_ _ | refine blk_drew ?_ | refine blk_alloc ?_ _)); refine blk_put (cs := #[.int .i64 0, .string (⟨#[]⟩ : ByteArray), .string (⟨#[]⟩ : ByteArray), .bool false, .string (⟨#[]⟩ : ByteArray)]) ?_ 1 _ rfl; (with_reducible repeat (first | refine blk_drewN ?_ _ | refine blk_drew ?_ | refine blk_alloc ?_ _)); refine blk_put (cs := #[.int .i64 0, .string (⟨#[]⟩ : ByteArray), .string (⟨#[]⟩ : ByteArray), .bool false, .string (⟨#[]⟩ : ByteArray)]) ?_ 0 _ rfl; (with_reducible repeat (first | refine blk_drewN ?_ _ | refine blk_drew ?_ | refine blk_alloc ?_ _)); exact BK80.out) Tryz.underlying82 rfl (by kernel_rfl)) rfl ?_
          exact ⟨rr_, by repeat (first | (with_reducible first | exact HB.out | apply below_alloc | apply pw_below_drewN | apply below_drew1 | refine below_set ?_ GE80.out | refine below_set ?_ GE81.out) | exact HB.out)⟩
        · replace c30 := Bool.eq_false_iff.mpr c30
          subst c30
          rw [if_neg nf_] at H
          simp only [Option.some.injEq, Prod.mk.injEq] at H
          obtain ⟨rfl, rfl, rfl, rfl, rfl, rfl, rfl⟩ := H
          go_wp2_with (first | ((with_reducible refine gc_ (f := 84) rfl ?_); refine gL_ (some 64) Tryz.func84 #[.string t87, .string (⟨#[34]⟩ : ByteArray)] ?_; (with_reducible refine (strings_Cut.calls t87 (⟨#[34]⟩ : ByteArray) t85 t91 true _ ?gM5 A27.out).mono ?_); (case gM5 => exact gM_ HGM.out (by repeat (first | (with_reducible first | exact HB.out | apply below_alloc | apply pw_below_drewN | apply below_drew1 | refine below_set ?_ GE80.out | refine below_set ?_ GE81.out) | exact HB.out))); rintro e w40 ⟨rfl, hb⟩; refine ⟨_, rfl, ?_⟩; replace BK80 := A_ (bw_ BK80.out hb); replace HB := A_ (below_step (by repeat (first | (with_reducible first | exact HB.out | apply below_alloc | apply pw_below_drewN | apply below_drew1 | refine below_set ?_ GE80.out | refine below_set ?_ GE81.out) | exact HB.out)) hb); clear hb) | ((with_reducible refine gc_ (f := 64) rfl ?_); refine gL_ (some 70) Tryz.func64 #[.string t85] ?_; (with_reducible refine (impl_Unescape.calls k t85 t86 false _ ?gT6 ?gM6 ?gE6 A28.out).mono ?_); (case gT6 => exact gT_ HGT.out (by repeat (first | (with_reducible first | exact HB.out | apply below_alloc | apply pw_below_drewN | apply below_drew1 | refine below_set ?_ GE80.out | refine below_set ?_ GE81.out) | exact HB.out))); (case gM6 => exact gM_ HGM.out (by repeat (first | (with_reducible first | exact HB.out | apply below_alloc | apply pw_below_drewN | apply below_drew1 | refine below_set ?_ GE80.out | refine below_set ?_ GE81.out) | exact HB.out))); (case gE6 => exact gE_ HGE.out (by repeat (first | (with_reducible first | exact HB.out | apply below_alloc | apply pw_below_drewN | apply below_drew1 | refine below_set ?_ GE80.out | refine below_set ?_ GE81.out) | exact HB.out))); rintro e w41 ⟨rfl, hb⟩; refine ⟨_, rfl, ?_⟩; replace BK80 := A_ (bw_ BK80.out hb); replace HB := A_ (below_step (by repeat (first | (with_reducible first | exact HB.out | apply below_alloc | apply pw_below_drewN | apply below_drew1 | refine below_set ?_ GE80.out | refine below_set ?_ GE81.out) | exact HB.out)) hb); clear hb; have hnb42 := NB235_243.out; have hnc42 := NB243_235.out; obtain ⟨hcz43_0, hcz43_1, hcz43_2, hcz43_3, hcz43_4, hfz43_0, hfz43_1, hfz43_2, hfz43_3, hfz43_4⟩ := cz5_ BK80.out))
          refine bodyPost_ret (results_ctt rfl _ _ gb80 82 #[.int .i64 0, .string (⟨#[]⟩ : ByteArray), .string (⟨#[]⟩ : ByteArray), .bool false, .string (⟨#[]⟩ : ByteArray)] (0, 0) _ rfl (by (with_reducible repeat (first | refine blk_drewN ?_ _ | refine blk_drew ?_ | refine blk_alloc ?_ _)); refine blk_put (cs := #[.int .i64 0, .string (⟨#[]⟩ : ByteArray), .string (⟨#[]⟩ : ByteArray), .bool false, .string (⟨#[]⟩ : ByteArray)]) ?_ 4 _ rfl; (with_reducible repeat (first | refine blk_drewN ?_ _ | refine blk_drew ?_ | refine blk_alloc ?_ _)); refine blk_put (cs := #[.int .i64 0, .string (⟨#[]⟩ : ByteArray), .string (⟨#[]⟩ : ByteArray), .bool false, .string (⟨#[]⟩ : ByteArray)]) ?_ 3 _ rfl; (with_reducible repeat (first | refine blk_drewN ?_ _ | refine blk_drew ?_ | refine blk_alloc ?_ _)); refine blk_put (cs := #[.int .i64 0, .string (⟨#[]⟩ : ByteArray), .string (⟨#[]⟩ : ByteArray), .bool false, .string (⟨#[]⟩ : ByteArray)]) ?_ 2 _ rfl; (with_reducible repeat (first | refine blk_drewN ?_ _ | refine blk_drew ?_ | refine blk_alloc ?_ _)); refine blk_put (cs := #[.int .i64 0, .string (⟨#[]⟩ : ByteArray), .string (⟨#[]⟩ : ByteArray), .bool false, .string (⟨#[]⟩ : ByteArray)]) ?_ 1 _ rfl; (with_reducible repeat (first | refine blk_drewN ?_ _ | refine blk_drew ?_ | refine blk_alloc ?_ _)); refine blk_put (cs := #[.int .i64 0, .string (⟨#[]⟩ : ByteArray), .string (⟨#[]⟩ : ByteArray), .bool false, .string (⟨#[]⟩ : ByteArray)]) ?_ 0 _ rfl; (with_reducible repeat (first | refine blk_drewN ?_ _ | refine blk_drew ?_ | refine blk_alloc ?_ _)); exact BK80.out) Tryz.underlying82 rfl (by kernel_rfl)) rfl ?_
          exact ⟨rr_, by repeat (first | (with_reducible first | exact HB.out | apply below_alloc | apply pw_below_drewN | apply below_drew1 | refine below_set ?_ GE80.out | refine below_set ?_ GE81.out) | exact HB.out)⟩
      · replace c29 := Bool.eq_false_iff.mpr c29
        subst c29
        rw [if_neg nf_] at H
        simp only [Option.some.injEq, Prod.mk.injEq] at H
        obtain ⟨rfl, rfl, rfl, rfl, rfl, rfl, rfl⟩ := H
        go_wp2_with (first | ((with_reducible refine gc_ (f := 84) rfl ?_); refine gL_ (some 64) Tryz.func84 #[.string t87, .string (⟨#[34]⟩ : ByteArray)] ?_; (with_reducible refine (strings_Cut.calls t87 (⟨#[34]⟩ : ByteArray) t85 t91 false _ ?gM7 A27.out).mono ?_); (case gM7 => exact gM_ HGM.out (by repeat (first | (with_reducible first | exact HB.out | apply below_alloc | apply pw_below_drewN | apply below_drew1 | refine below_set ?_ GE80.out | refine below_set ?_ GE81.out) | exact HB.out))); rintro e w44 ⟨rfl, hb⟩; refine ⟨_, rfl, ?_⟩; replace BK80 := A_ (bw_ BK80.out hb); replace HB := A_ (below_step (by repeat (first | (with_reducible first | exact HB.out | apply below_alloc | apply pw_below_drewN | apply below_drew1 | refine below_set ?_ GE80.out | refine below_set ?_ GE81.out) | exact HB.out)) hb); clear hb) | ((with_reducible refine gc_ (f := 64) rfl ?_); refine gL_ (some 70) Tryz.func64 #[.string t85] ?_; (with_reducible refine (impl_Unescape.calls k t85 t86 t96 _ ?gT8 ?gM8 ?gE8 A28.out).mono ?_); (case gT8 => exact gT_ HGT.out (by repeat (first | (with_reducible first | exact HB.out | apply below_alloc | apply pw_below_drewN | apply below_drew1 | refine below_set ?_ GE80.out | refine below_set ?_ GE81.out) | exact HB.out))); (case gM8 => exact gM_ HGM.out (by repeat (first | (with_reducible first | exact HB.out | apply below_alloc | apply pw_below_drewN | apply below_drew1 | refine below_set ?_ GE80.out | refine below_set ?_ GE81.out) | exact HB.out))); (case gE8 => exact gE_ HGE.out (by repeat (first | (with_reducible first | exact HB.out | apply below_alloc | apply pw_below_drewN | apply below_drew1 | refine below_set ?_ GE80.out | refine below_set ?_ GE81.out) | exact HB.out))); rintro e w45 ⟨rfl, hb⟩; refine ⟨_, rfl, ?_⟩; replace BK80 := A_ (bw_ BK80.out hb); replace HB := A_ (below_step (by repeat (first | (with_reducible first | exact HB.out | apply below_alloc | apply pw_below_drewN | apply below_drew1 | refine below_set ?_ GE80.out | refine below_set ?_ GE81.out) | exact HB.out)) hb); clear hb; have hnb46 := NB235_243.out; have hnc46 := NB243_235.out; obtain ⟨hcz47_0, hcz47_1, hcz47_2, hcz47_3, hcz47_4, hfz47_0, hfz47_1, hfz47_2, hfz47_3, hfz47_4⟩ := cz5_ BK80.out))
        refine bodyPost_ret (results_ctt rfl _ _ gb80 82 #[.int .i64 0, .string (⟨#[]⟩ : ByteArray), .string (⟨#[]⟩ : ByteArray), .bool false, .string (⟨#[]⟩ : ByteArray)] (0, 0) _ rfl (by (with_reducible repeat (first | refine blk_drewN ?_ _ | refine blk_drew ?_ | refine blk_alloc ?_ _)); refine blk_put (cs := #[.int .i64 0, .string (⟨#[]⟩ : ByteArray), .string (⟨#[]⟩ : ByteArray), .bool false, .string (⟨#[]⟩ : ByteArray)]) ?_ 4 _ rfl; (with_reducible repeat (first | refine blk_drewN ?_ _ | refine blk_drew ?_ | refine blk_alloc ?_ _)); refine blk_put (cs := #[.int .i64 0, .string (⟨#[]⟩ : ByteArray), .string (⟨#[]⟩ : ByteArray), .bool false, .string (⟨#[]⟩ : ByteArray)]) ?_ 3 _ rfl; (with_reducible repeat (first | refine blk_drewN ?_ _ | refine blk_drew ?_ | refine blk_alloc ?_ _)); refine blk_put (cs := #[.int .i64 0, .string (⟨#[]⟩ : ByteArray), .string (⟨#[]⟩ : ByteArray), .bool false, .string (⟨#[]⟩ : ByteArray)]) ?_ 2 _ rfl; (with_reducible repeat (first | refine blk_drewN ?_ _ | refine blk_drew ?_ | refine blk_alloc ?_ _)); refine blk_put (cs := #[.int .i64 0, .string (⟨#[]⟩ : ByteArray), .string (⟨#[]⟩ : ByteArray), .bool false, .string (⟨#[]⟩ : ByteArray)]) ?_ 1 _ rfl; (with_reducible repeat (first | refine blk_drewN ?_ _ | refine blk_drew ?_ | refine blk_alloc ?_ _)); refine blk_put (cs := #[.int .i64 0, .string (⟨#[]⟩ : ByteArray), .string (⟨#[]⟩ : ByteArray), .bool false, .string (⟨#[]⟩ : ByteArray)]) ?_ 0 _ rfl; (with_reducible repeat (first | refine blk_drewN ?_ _ | refine blk_drew ?_ | refine blk_alloc ?_ _)); exact BK80.out) Tryz.underlying82 rfl (by kernel_rfl)) rfl ?_
        exact ⟨rr_, by repeat (first | (with_reducible first | exact HB.out | apply below_alloc | apply pw_below_drewN | apply below_drew1 | refine below_set ?_ GE80.out | refine below_set ?_ GE81.out) | exact HB.out)⟩
    · replace c26 := Bool.eq_false_iff.mpr c26
      subst c26
      rw [if_neg nf_] at H
      have H' := A_ H
      clear H
      go_wp2
      go_meet
      case rel => exact ⟨_, (t92), (0), ((⟨#[]⟩ : ByteArray)), ((⟨#[]⟩ : ByteArray)), (false), ((⟨#[]⟩ : ByteArray)), ((⟨#[]⟩ : ByteArray)), (false), rs_, H', ⟨by first | omega | exact Nat.le_refl _⟩, ⟨vb_ BK80.out⟩, ⟨vb_ BK81.out⟩, ⟨by repeat (first | (with_reducible first | exact HB.out | apply below_alloc | apply pw_below_drewN | apply below_drew1 | refine below_set ?_ GE80.out | refine below_set ?_ GE81.out) | exact HB.out)⟩⟩
   case rest =>
    clear HC19
    try clear c3
    try clear c16
    try clear c16b0
    try clear c16b1
    try clear hcz24_0
    try clear hcz24_1
    try clear hcz24_2
    try clear hcz24_3
    try clear hcz24_4
    try clear hfz24_0
    try clear hfz24_1
    try clear hfz24_2
    try clear hfz24_3
    try clear hfz24_4
    obtain ⟨kq, x12_18, x236000_18, x236001_18, x236002_18, x236003_18, x236004_18, x244002_18, x244003_18, rfl, HA, HJ18, BK80, BK81, HB⟩ := hcut
    cases kq with
    | zero => exact absurd HA.out (by simp [impl_markAt.j0])
    | succ kj18 =>
     have H := HA.out
     clear HA
     simp only [impl_markAt.j0] at H
     obtain ⟨⟨t94, t2d⟩, A48, H⟩ := bo_ H
     (try dsimp only at H)
     by_cases c49 : t2d = true
     · subst c49
       rw [if_pos rfl] at H
       obtain ⟨t3d, A50, H⟩ := bo_ H
       (try dsimp only at H)
       simp only [Option.some.injEq, Prod.mk.injEq] at H
       obtain ⟨rfl, rfl, rfl, rfl, rfl, rfl, rfl⟩ := H
       try go_wp2_with (first | ((with_reducible refine gc_ (f := 82) rfl ?_); refine gL_ (some 91) Tryz.func82 #[.string x12_18, .string (⟨#[47, 62]⟩ : ByteArray)] ?_; (with_reducible refine (strings_CutPrefix.calls x12_18 (⟨#[47, 62]⟩ : ByteArray) t94 true _ A48.out).mono ?_); rintro e w51 ⟨rfl, hb⟩; refine ⟨_, rfl, ?_⟩; replace BK80 := A_ (bw_ BK80.out hb); replace BK81 := A_ (bw_ BK81.out hb); replace HB := A_ (below_step (by repeat (first | (with_reducible first | exact HB.out | apply below_alloc | apply pw_below_drewN | apply below_drew1 | refine below_set ?_ GE80.out | refine below_set ?_ GE81.out) | exact HB.out)) hb); clear hb; have hnb52 := NB243_235.out; have hnc52 := NB235_243.out; obtain ⟨hcz53_0, hcz53_1, hcz53_2, hcz53_3, hcz53_4, hfz53_0, hfz53_1, hfz53_2, hfz53_3, hfz53_4⟩ := cz5_ BK81.out))
       obtain ⟨w54, hW_⟩ : ∃ w_, w_ = (w51.setCell ⟨gb81, 0, none⟩ (.int .i64 3)) := ⟨_, rfl⟩
       have n0_ : Aside0 (w54.heap[gb80]? = some (.cells #[.int .i64 x236000_18, .string x236001_18, .string x236002_18, .bool x236003_18, .string x236004_18] 82 (0, 0))) := ⟨by rw [hW_]; (with_reducible repeat (first | refine blk_drewN ?_ _ | refine blk_drew ?_ | refine blk_alloc ?_ _)); refine blk_far ?_ NB235_243.out _; (with_reducible repeat (first | refine blk_drewN ?_ _ | refine blk_drew ?_ | refine blk_alloc ?_ _)); exact BK80.out⟩
       have n1_ : Aside0 (w54.heap[gb81]? = some (.cells #[.int .i64 3, .string t83, .string x244002_18, .bool x244003_18, .string (⟨#[]⟩ : ByteArray)] 82 (0, 0))) := ⟨by rw [hW_]; (with_reducible repeat (first | refine blk_drewN ?_ _ | refine blk_drew ?_ | refine blk_alloc ?_ _)); refine blk_put (cs := #[.int .i64 1, .string t83, .string x244002_18, .bool x244003_18, .string (⟨#[]⟩ : ByteArray)]) ?_ 0 _ rfl; (with_reducible repeat (first | refine blk_drewN ?_ _ | refine blk_drew ?_ | refine blk_alloc ?_ _)); exact BK81.out⟩
       have n2_ : Aside0 (Below w.heap.size w w54) := ⟨by rw [hW_]; repeat (first | (with_reducible first | exact HB.out | apply below_alloc | apply pw_below_drewN | apply below_drew1 | refine below_set ?_ GE80.out | refine below_set ?_ GE81.out) | exact HB.out)⟩
       (try clear BK80)
       (try clear BK81)
       (try clear HB)
       rw [← hW_]
       clear hW_
       have BK80 := n0_
       have BK81 := n1_
       have HB := n2_
       clear n0_ n1_ n2_
       replace BK80 := A_ (blk_drew BK80.out)
       replace BK81 := A_ (blk_drew BK81.out)
       replace HB := A_ (below_drew1 HB.out)
       refine st5_ (n := 7) (ds := []) (bl_ BK81.out 0) (bl_ BK81.out 1) (bl_ BK81.out 2) (bl_ BK81.out 3) (bl_ BK81.out 4) (fun hHeld => ?_)
       generalize w54.drew = w55 at BK80 BK81 HB hHeld ⊢
       refine pu_ (i := 1) (N := some 97) ?_
       refine pu_ (i := 2) (N := some 98) ?_
       refine tk_ (i := 0) (N := some 96) hHeld ?_
       refine on_ (i := 3) (N := some 99) (fun K hK => ?_)
       refine goes_ Tryz.func70 (by kernel_rfl) rfl #[.string t83] (by rfl) rfl rfl ml_ ?_
       with_reducible refine (impl_SmallName.calls kj18 t83 t3d _ A50.out).mono ?_
       rintro e w' ⟨rfl, ⟨nd, rfl⟩⟩
       refine ⟨_, rfl, ?_⟩
       refine hK.out _ _ (hl_ BK81.out) (fun hHeld => ?_)
       clear hK K
       refine no_ (some 99) ?_
       refine on_ (i := 4) (N := none) (fun K hK => ?_)
       have hs56 : w55.cell? ⟨gb80, 0, none⟩ = some (.int .i64 x236000_18) := bl_ BK80.out 0
       have hfs56 := blk_frozen BK80.out 0
       have hns56_1 := NB243_235.out
       have hms56_1 := NB235_243.out
       have hs57 : w55.cell? ⟨gb80, 1, none⟩ = some (.string x236001_18) := bl_ BK80.out 1
       have hfs57 := blk_frozen BK80.out 1
       have hns57_1 := NB243_235.out
       have hms57_1 := NB235_243.out
       have hs58 : w55.cell? ⟨gb80, 2, none⟩ = some (.string x236002_18) := bl_ BK80.out 2
       have hfs58 := blk_frozen BK80.out 2
       have hns58_1 := NB243_235.out
       have hms58_1 := NB235_243.out
       have hs59 : w55.cell? ⟨gb80, 3, none⟩ = some (.bool x236003_18) := bl_ BK80.out 3
       have hfs59 := blk_frozen BK80.out 3
       have hns59_1 := NB243_235.out
       have hms59_1 := NB235_243.out
       have hs60 : w55.cell? ⟨gb80, 4, none⟩ = some (.string x236004_18) := bl_ BK80.out 4
       have hfs60 := blk_frozen BK80.out 4
       have hns60_1 := NB243_235.out
       have hms60_1 := NB235_243.out
       refine skip_ (w1 := ?_) (by rfl) rfl ?_ ?_
       rotate_left
       · go_simp
         rfl
       refine hK.out _ _ ⟨((cell_far (p := ⟨gb80, _, none⟩) NB243_235.out _).trans (((cell_far (p := ⟨gb80, _, none⟩) NB243_235.out _).trans (((cell_far (p := ⟨gb80, _, none⟩) NB243_235.out _).trans (((cell_far (p := ⟨gb80, _, none⟩) NB243_235.out _).trans (((cell_far (p := ⟨gb80, _, none⟩) NB243_235.out _).trans (hHeld.1)))))))))), ((cell_far (p := ⟨gb80, _, none⟩) NB243_235.out _).trans (((cell_far (p := ⟨gb80, _, none⟩) NB243_235.out _).trans (((cell_far (p := ⟨gb80, _, none⟩) NB243_235.out _).trans (((cell_far (p := ⟨gb80, _, none⟩) NB243_235.out _).trans (((cell_far (p := ⟨gb80, _, none⟩) NB243_235.out _).trans (hHeld.2.1)))))))))), ((cell_far (p := ⟨gb80, _, none⟩) NB243_235.out _).trans (((cell_far (p := ⟨gb80, _, none⟩) NB243_235.out _).trans (((cell_far (p := ⟨gb80, _, none⟩) NB243_235.out _).trans (((cell_far (p := ⟨gb80, _, none⟩) NB243_235.out _).trans (((cell_far (p := ⟨gb80, _, none⟩) NB243_235.out _).trans (hHeld.2.2.1)))))))))), ((cell_far (p := ⟨gb80, _, none⟩) NB243_235.out _).trans (((cell_far (p := ⟨gb80, _, none⟩) NB243_235.out _).trans (((cell_far (p := ⟨gb80, _, none⟩) NB243_235.out _).trans (((cell_far (p := ⟨gb80, _, none⟩) NB243_235.out _).trans (((cell_far (p := ⟨gb80, _, none⟩) NB243_235.out _).trans (hHeld.2.2.2.1)))))))))), ((cell_far (p := ⟨gb80, _, none⟩) NB243_235.out _).trans (((cell_far (p := ⟨gb80, _, none⟩) NB243_235.out _).trans (((cell_far (p := ⟨gb80, _, none⟩) NB243_235.out _).trans (((cell_far (p := ⟨gb80, _, none⟩) NB243_235.out _).trans (((cell_far (p := ⟨gb80, _, none⟩) NB243_235.out _).trans (hHeld.2.2.2.2))))))))))⟩ (fun hHeld => ?_)
       clear hK K
       refine pu_ (i := 5) (N := some 3) ?_
       refine pu_ (i := 6) (N := some 4) ?_
       refine done_ (by kernel_rfl) ?_
       try go_wp2
       refine bodyPost_ret (results_ctt rfl _ _ gb80 82 #[.int .i64 3, .string t83, .string x244002_18, .bool x244003_18, .string (⟨#[]⟩ : ByteArray)] (0, 0) _ rfl (by (with_reducible repeat (first | refine blk_drewN ?_ _ | refine blk_drew ?_ | refine blk_alloc ?_ _)); refine blk_put (cs := #[.int .i64 3, .string t83, .string x244002_18, .bool x244003_18, .string x236004_18]) ?_ 4 _ rfl; (with_reducible repeat (first | refine blk_drewN ?_ _ | refine blk_drew ?_ | refine blk_alloc ?_ _)); refine blk_put (cs := #[.int .i64 3, .string t83, .string x244002_18, .bool x236003_18, .string x236004_18]) ?_ 3 _ rfl; (with_reducible repeat (first | refine blk_drewN ?_ _ | refine blk_drew ?_ | refine blk_alloc ?_ _)); refine blk_put (cs := #[.int .i64 3, .string t83, .string x236002_18, .bool x236003_18, .string x236004_18]) ?_ 2 _ rfl; (with_reducible repeat (first | refine blk_drewN ?_ _ | refine blk_drew ?_ | refine blk_alloc ?_ _)); refine blk_put (cs := #[.int .i64 3, .string x236001_18, .string x236002_18, .bool x236003_18, .string x236004_18]) ?_ 1 _ rfl; (with_reducible repeat (first | refine blk_drewN ?_ _ | refine blk_drew ?_ | refine blk_alloc ?_ _)); refine blk_put (cs := #[.int .i64 x236000_18, .string x236001_18, .string x236002_18, .bool x236003_18, .string x236004_18]) ?_ 0 _ rfl; (with_reducible repeat (first | refine blk_drewN ?_ _ | refine blk_drew ?_ | refine blk_alloc ?_ _)); exact BK80.out) Tryz.underlying82 rfl (by kernel_rfl)) rfl ?_
       exact ⟨rr_, by repeat (first | (with_reducible first | exact HB.out | apply below_alloc | apply pw_below_drewN | apply below_drew1 | refine below_set ?_ GE80.out | refine below_set ?_ GE81.out) | exact HB.out)⟩
     · replace c49 := Bool.eq_false_iff.mpr c49
       subst c49
       rw [if_neg nf_] at H
       obtain ⟨⟨t97, t4d⟩, A61, H⟩ := bo_ H
       (try dsimp only at H)
       by_cases c62 : t4d = true
       · subst c62
         rw [if_pos rfl] at H
         obtain ⟨t5d, A63, H⟩ := bo_ H
         (try dsimp only at H)
         simp only [Option.some.injEq, Prod.mk.injEq] at H
         obtain ⟨rfl, rfl, rfl, rfl, rfl, rfl, rfl⟩ := H
         try go_wp2_with (first | ((with_reducible refine gc_ (f := 82) rfl ?_); refine gL_ (some 91) Tryz.func82 #[.string x12_18, .string (⟨#[47, 62]⟩ : ByteArray)] ?_; (with_reducible refine (strings_CutPrefix.calls x12_18 (⟨#[47, 62]⟩ : ByteArray) t94 false _ A48.out).mono ?_); rintro e w64 ⟨rfl, hb⟩; refine ⟨_, rfl, ?_⟩; replace BK80 := A_ (bw_ BK80.out hb); replace BK81 := A_ (bw_ BK81.out hb); replace HB := A_ (below_step (by repeat (first | (with_reducible first | exact HB.out | apply below_alloc | apply pw_below_drewN | apply below_drew1 | refine below_set ?_ GE80.out | refine below_set ?_ GE81.out) | exact HB.out)) hb); clear hb) | ((with_reducible refine gc_ (f := 82) rfl ?_); refine gL_ (some 102) Tryz.func82 #[.string x12_18, .string (⟨#[62]⟩ : ByteArray)] ?_; (with_reducible refine (strings_CutPrefix.calls x12_18 (⟨#[62]⟩ : ByteArray) t97 true _ A61.out).mono ?_); rintro e w65 ⟨rfl, hb⟩; refine ⟨_, rfl, ?_⟩; replace BK80 := A_ (bw_ BK80.out hb); replace BK81 := A_ (bw_ BK81.out hb); replace HB := A_ (below_step (by repeat (first | (with_reducible first | exact HB.out | apply below_alloc | apply pw_below_drewN | apply below_drew1 | refine below_set ?_ GE80.out | refine below_set ?_ GE81.out) | exact HB.out)) hb); clear hb))
         replace BK80 := A_ (blk_drew BK80.out)
         replace BK81 := A_ (blk_drew BK81.out)
         replace HB := A_ (below_drew1 HB.out)
         refine st5_ (n := 10) (ds := []) (bl_ BK81.out 0) (bl_ BK81.out 1) (bl_ BK81.out 2) (bl_ BK81.out 3) (bl_ BK81.out 4) (fun hHeld => ?_); refine with_tabW impl_markAt.tab22 impl_markAt.bits22 (fun HT_ HW_ => ?_)
         generalize w65.drew = w66 at BK80 BK81 HB hHeld ⊢
         refine pu_ (i := 1) (N := some 106) ?_
         refine pu_ (i := 2) (N := some 107) ?_
         refine pu_ (i := 3) (N := some 108) ?_
         refine pu_ (i := 4) (N := some 109) ?_
         refine tk_ (i := 0) (N := some 105) hHeld ?_
         refine on_ (i := 5) (N := some 110) (fun K hK => ?_)
         refine goes_ Tryz.func70 (by kernel_rfl) rfl #[.string t83] (by rfl) rfl rfl ml_ ?_
         with_reducible refine (impl_SmallName.calls kj18 t83 t5d _ A63.out).mono ?_
         rintro e w' ⟨rfl, ⟨nd, rfl⟩⟩
         refine ⟨_, rfl, ?_⟩
         refine hK.out _ _ (hl_ BK81.out) (fun hHeld => ?_)
         clear hK K
         refine no_ (some 110) ?_
         refine pu_ (i := 6) (N := some 111) ?_
         refine on_ (i := 7) (N := none) (fun K hK => ?_)
         have hs67 : w66.cell? ⟨gb80, 0, none⟩ = some (.int .i64 x236000_18) := bl_ BK80.out 0
         have hfs67 := blk_frozen BK80.out 0
         have hns67_1 := NB243_235.out
         have hms67_1 := NB235_243.out
         have hs68 : w66.cell? ⟨gb80, 1, none⟩ = some (.string x236001_18) := bl_ BK80.out 1
         have hfs68 := blk_frozen BK80.out 1
         have hns68_1 := NB243_235.out
         have hms68_1 := NB235_243.out
         have hs69 : w66.cell? ⟨gb80, 2, none⟩ = some (.string x236002_18) := bl_ BK80.out 2
         have hfs69 := blk_frozen BK80.out 2
         have hns69_1 := NB243_235.out
         have hms69_1 := NB235_243.out
         have hs70 : w66.cell? ⟨gb80, 3, none⟩ = some (.bool x236003_18) := bl_ BK80.out 3
         have hfs70 := blk_frozen BK80.out 3
         have hns70_1 := NB243_235.out
         have hms70_1 := NB235_243.out
         have hs71 : w66.cell? ⟨gb80, 4, none⟩ = some (.string x236004_18) := bl_ BK80.out 4
         have hfs71 := blk_frozen BK80.out 4
         have hns71_1 := NB243_235.out
         have hms71_1 := NB235_243.out
         refine skip_ (w1 := ?_) (by rfl) rfl ?_ ?_
         rotate_left
         · go_simp
           rfl
         refine hK.out _ _ ⟨((cell_far (p := ⟨gb80, _, none⟩) NB243_235.out _).trans (((cell_far (p := ⟨gb80, _, none⟩) NB243_235.out _).trans (((cell_far (p := ⟨gb80, _, none⟩) NB243_235.out _).trans (((cell_far (p := ⟨gb80, _, none⟩) NB243_235.out _).trans (((cell_far (p := ⟨gb80, _, none⟩) NB243_235.out _).trans (hHeld.1)))))))))), ((cell_far (p := ⟨gb80, _, none⟩) NB243_235.out _).trans (((cell_far (p := ⟨gb80, _, none⟩) NB243_235.out _).trans (((cell_far (p := ⟨gb80, _, none⟩) NB243_235.out _).trans (((cell_far (p := ⟨gb80, _, none⟩) NB243_235.out _).trans (((cell_far (p := ⟨gb80, _, none⟩) NB243_235.out _).trans (hHeld.2.1)))))))))), ((cell_far (p := ⟨gb80, _, none⟩) NB243_235.out _).trans (((cell_far (p := ⟨gb80, _, none⟩) NB243_235.out _).trans (((cell_far (p := ⟨gb80, _, none⟩) NB243_235.out _).trans (((cell_far (p := ⟨gb80, _, none⟩) NB243_235.out _).trans (((cell_far (p := ⟨gb80, _, none⟩) NB243_235.out _).trans (hHeld.2.2.1)))))))))), ((cell_far (p := ⟨gb80, _, none⟩) NB243_235.out _).trans (((cell_far (p := ⟨gb80, _, none⟩) NB243_235.out _).trans (((cell_far (p := ⟨gb80, _, none⟩) NB243_235.out _).trans (((cell_far (p := ⟨gb80, _, none⟩) NB243_235.out _).trans (((cell_far (p := ⟨gb80, _, none⟩) NB243_235.out _).trans (hHeld.2.2.2.1)))))))))), ((cell_far (p := ⟨gb80, _, none⟩) NB243_235.out _).trans (((cell_far (p := ⟨gb80, _, none⟩) NB243_235.out _).trans (((cell_far (p := ⟨gb80, _, none⟩) NB243_235.out _).trans (((cell_far (p := ⟨gb80, _, none⟩) NB243_235.out _).trans (((cell_far (p := ⟨gb80, _, none⟩) NB243_235.out _).trans (hHeld.2.2.2.2))))))))))⟩ (fun hHeld => ?_)
         clear hK K
         refine pu_ (i := 8) (N := some 3) ?_
         refine pu_ (i := 9) (N := some 4) ?_
         refine done_ (done_of HT_.out (by kernel_rfl)) ?_
         (try clear hHeld)
         try go_wp2
         refine bodyPost_ret (results_ctt rfl _ _ gb80 82 #[.int .i64 1, .string t83, .string x244002_18, .bool x244003_18, .string (⟨#[]⟩ : ByteArray)] (0, 0) _ rfl (by (with_reducible repeat (first | refine blk_drewN ?_ _ | refine blk_drew ?_ | refine blk_alloc ?_ _)); refine blk_put (cs := #[.int .i64 1, .string t83, .string x244002_18, .bool x244003_18, .string x236004_18]) ?_ 4 _ rfl; (with_reducible repeat (first | refine blk_drewN ?_ _ | refine blk_drew ?_ | refine blk_alloc ?_ _)); refine blk_put (cs := #[.int .i64 1, .string t83, .string x244002_18, .bool x236003_18, .string x236004_18]) ?_ 3 _ rfl; (with_reducible repeat (first | refine blk_drewN ?_ _ | refine blk_drew ?_ | refine blk_alloc ?_ _)); refine blk_put (cs := #[.int .i64 1, .string t83, .string x236002_18, .bool x236003_18, .string x236004_18]) ?_ 2 _ rfl; (with_reducible repeat (first | refine blk_drewN ?_ _ | refine blk_drew ?_ | refine blk_alloc ?_ _)); refine blk_put (cs := #[.int .i64 1, .string x236001_18, .string x236002_18, .bool x236003_18, .string x236004_18]) ?_ 1 _ rfl; (with_reducible repeat (first | refine blk_drewN ?_ _ | refine blk_drew ?_ | refine blk_alloc ?_ _)); refine blk_put (cs := #[.int .i64 x236000_18, .string x236001_18, .string x236002_18, .bool x236003_18, .string x236004_18]) ?_ 0 _ rfl; (with_reducible repeat (first | refine blk_drewN ?_ _ | refine blk_drew ?_ | refine blk_alloc ?_ _)); exact BK80.out) Tryz.underlying82 rfl (by kernel_rfl)) rfl ?_
         exact ⟨rr_, by repeat (first | (with_reducible first | exact HB.out | apply below_alloc | apply pw_below_drewN | apply below_drew1 | refine below_set ?_ GE80.out | refine below_set ?_ GE81.out) | exact HB.out)⟩
       · replace c62 := Bool.eq_false_iff.mpr c62
         subst c62
         rw [if_neg nf_] at H
         simp only [Option.some.injEq, Prod.mk.injEq] at H
         obtain ⟨rfl, rfl, rfl, rfl, rfl, rfl, rfl⟩ := H
         try go_wp2_with (first | ((with_reducible refine gc_ (f := 82) rfl ?_); refine gL_ (some 91) Tryz.func82 #[.string x12_18, .string (⟨#[47, 62]⟩ : ByteArray)] ?_; (with_reducible refine (strings_CutPrefix.calls x12_18 (⟨#[47, 62]⟩ : ByteArray) t94 false _ A48.out).mono ?_); rintro e w72 ⟨rfl, hb⟩; refine ⟨_, rfl, ?_⟩; replace BK80 := A_ (bw_ BK80.out hb); replace BK81 := A_ (bw_ BK81.out hb); replace HB := A_ (below_step (by repeat (first | (with_reducible first | exact HB.out | apply below_alloc | apply pw_below_drewN | apply below_drew1 | refine below_set ?_ GE80.out | refine below_set ?_ GE81.out) | exact HB.out)) hb); clear hb) | ((with_reducible refine gc_ (f := 82) rfl ?_); refine gL_ (some 102) Tryz.func82 #[.string x12_18, .string (⟨#[62]⟩ : ByteArray)] ?_; (with_reducible refine (strings_CutPrefix.calls x12_18 (⟨#[62]⟩ : ByteArray) t97 false _ A61.out).mono ?_); rintro e w73 ⟨rfl, hb⟩; refine ⟨_, rfl, ?_⟩; replace BK80 := A_ (bw_ BK80.out hb); replace BK81 := A_ (bw_ BK81.out hb); replace HB := A_ (below_step (by repeat (first | (with_reducible first | exact HB.out | apply below_alloc | apply pw_below_drewN | apply below_drew1 | refine below_set ?_ GE80.out | refine below_set ?_ GE81.out) | exact HB.out)) hb); clear hb))
         replace BK80 := A_ (blk_drew BK80.out)
         replace BK81 := A_ (blk_drew BK81.out)
         replace HB := A_ (below_drew1 HB.out)
         refine st5_ (n := 10) (ds := []) (bl_ BK81.out 0) (bl_ BK81.out 1) (bl_ BK81.out 2) (bl_ BK81.out 3) (bl_ BK81.out 4) (fun hHeld => ?_); refine with_tabW impl_markAt.tab22 impl_markAt.bits22 (fun HT_ HW_ => ?_)
         generalize w73.drew = w74 at BK80 BK81 HB hHeld ⊢
         refine pu_ (i := 1) (N := some 106) ?_
         refine pu_ (i := 2) (N := some 107) ?_
         refine pu_ (i := 3) (N := some 108) ?_
         refine pn_ (i := 4) (N := some 109) ?_
         refine pn_ (i := 5) (N := some 110) ?_
         refine pu_ (i := 6) (N := some 111) ?_
         refine tk_ (i := 0) (N := some 105) hHeld ?_
         refine on_ (i := 7) (N := none) (fun K hK => ?_)
         have hs75 : w74.cell? ⟨gb80, 0, none⟩ = some (.int .i64 x236000_18) := bl_ BK80.out 0
         have hfs75 := blk_frozen BK80.out 0
         have hns75_1 := NB243_235.out
         have hms75_1 := NB235_243.out
         have hs76 : w74.cell? ⟨gb80, 1, none⟩ = some (.string x236001_18) := bl_ BK80.out 1
         have hfs76 := blk_frozen BK80.out 1
         have hns76_1 := NB243_235.out
         have hms76_1 := NB235_243.out
         have hs77 : w74.cell? ⟨gb80, 2, none⟩ = some (.string x236002_18) := bl_ BK80.out 2
         have hfs77 := blk_frozen BK80.out 2
         have hns77_1 := NB243_235.out
         have hms77_1 := NB235_243.out
         have hs78 : w74.cell? ⟨gb80, 3, none⟩ = some (.bool x236003_18) := bl_ BK80.out 3
         have hfs78 := blk_frozen BK80.out 3
         have hns78_1 := NB243_235.out
         have hms78_1 := NB235_243.out
         have hs79 : w74.cell? ⟨gb80, 4, none⟩ = some (.string x236004_18) := bl_ BK80.out 4
         have hfs79 := blk_frozen BK80.out 4
         have hns79_1 := NB243_235.out
         have hms79_1 := NB235_243.out
         refine skip_ (w1 := ?_) (by rfl) rfl ?_ ?_
         rotate_left
         · go_simp
           rfl
         refine hK.out _ _ ⟨((cell_far (p := ⟨gb80, _, none⟩) NB243_235.out _).trans (((cell_far (p := ⟨gb80, _, none⟩) NB243_235.out _).trans (((cell_far (p := ⟨gb80, _, none⟩) NB243_235.out _).trans (((cell_far (p := ⟨gb80, _, none⟩) NB243_235.out _).trans (((cell_far (p := ⟨gb80, _, none⟩) NB243_235.out _).trans (hHeld.1)))))))))), ((cell_far (p := ⟨gb80, _, none⟩) NB243_235.out _).trans (((cell_far (p := ⟨gb80, _, none⟩) NB243_235.out _).trans (((cell_far (p := ⟨gb80, _, none⟩) NB243_235.out _).trans (((cell_far (p := ⟨gb80, _, none⟩) NB243_235.out _).trans (((cell_far (p := ⟨gb80, _, none⟩) NB243_235.out _).trans (hHeld.2.1)))))))))), ((cell_far (p := ⟨gb80, _, none⟩) NB243_235.out _).trans (((cell_far (p := ⟨gb80, _, none⟩) NB243_235.out _).trans (((cell_far (p := ⟨gb80, _, none⟩) NB243_235.out _).trans (((cell_far (p := ⟨gb80, _, none⟩) NB243_235.out _).trans (((cell_far (p := ⟨gb80, _, none⟩) NB243_235.out _).trans (hHeld.2.2.1)))))))))), ((cell_far (p := ⟨gb80, _, none⟩) NB243_235.out _).trans (((cell_far (p := ⟨gb80, _, none⟩) NB243_235.out _).trans (((cell_far (p := ⟨gb80, _, none⟩) NB243_235.out _).trans (((cell_far (p := ⟨gb80, _, none⟩) NB243_235.out _).trans (((cell_far (p := ⟨gb80, _, none⟩) NB243_235.out _).trans (hHeld.2.2.2.1)))))))))), ((cell_far (p := ⟨gb80, _, none⟩) NB243_235.out _).trans (((cell_far (p := ⟨gb80, _, none⟩) NB243_235.out _).trans (((cell_far (p := ⟨gb80, _, none⟩) NB243_235.out _).trans (((cell_far (p := ⟨gb80, _, none⟩) NB243_235.out _).trans (((cell_far (p := ⟨gb80, _, none⟩) NB243_235.out _).trans (hHeld.2.2.2.2))))))))))⟩ (fun hHeld => ?_)
         clear hK K
         refine pu_ (i := 8) (N := some 3) ?_
         refine pu_ (i := 9) (N := some 4) ?_
         refine done_ (done_of HT_.out (by kernel_rfl)) ?_
         (try clear hHeld)
         try go_wp2
         refine bodyPost_ret (results_ctt rfl _ _ gb80 82 #[.int .i64 1, .string t83, .string x244002_18, .bool x244003_18, .string (⟨#[]⟩ : ByteArray)] (0, 0) _ rfl (by (with_reducible repeat (first | refine blk_drewN ?_ _ | refine blk_drew ?_ | refine blk_alloc ?_ _)); refine blk_put (cs := #[.int .i64 1, .string t83, .string x244002_18, .bool x244003_18, .string x236004_18]) ?_ 4 _ rfl; (with_reducible repeat (first | refine blk_drewN ?_ _ | refine blk_drew ?_ | refine blk_alloc ?_ _)); refine blk_put (cs := #[.int .i64 1, .string t83, .string x244002_18, .bool x236003_18, .string x236004_18]) ?_ 3 _ rfl; (with_reducible repeat (first | refine blk_drewN ?_ _ | refine blk_drew ?_ | refine blk_alloc ?_ _)); refine blk_put (cs := #[.int .i64 1, .string t83, .string x236002_18, .bool x236003_18, .string x236004_18]) ?_ 2 _ rfl; (with_reducible repeat (first | refine blk_drewN ?_ _ | refine blk_drew ?_ | refine blk_alloc ?_ _)); refine blk_put (cs := #[.int .i64 1, .string x236001_18, .string x236002_18, .bool x236003_18, .string x236004_18]) ?_ 1 _ rfl; (with_reducible repeat (first | refine blk_drewN ?_ _ | refine blk_drew ?_ | refine blk_alloc ?_ _)); refine blk_put (cs := #[.int .i64 x236000_18, .string x236001_18, .string x236002_18, .bool x236003_18, .string x236004_18]) ?_ 0 _ rfl; (with_reducible repeat (first | refine blk_drewN ?_ _ | refine blk_drew ?_ | refine blk_alloc ?_ _)); exact BK80.out) Tryz.underlying82 rfl (by kernel_rfl)) rfl ?_
         exact ⟨rr_, by repeat (first | (with_reducible first | exact HB.out | apply below_alloc | apply pw_below_drewN | apply below_drew1 | refine below_set ?_ GE80.out | refine below_set ?_ GE81.out) | exact HB.out)⟩
end Go.Proofs.YtegkokdncakadaaGreatDoor.Q
