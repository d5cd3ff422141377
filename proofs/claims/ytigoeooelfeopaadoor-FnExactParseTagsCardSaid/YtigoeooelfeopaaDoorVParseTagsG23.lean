-- PRINTED by print.py (a twelfth state) out of the translation. Not trusted: Lean checks it.
import Derived.Test.YtigoeooelfeopaaDoorVParseTagsG22
import Derived.Laws.Strings
import Derived.Lib.SlTrimSet
import Derived.Lib.IndexMore
import Derived.Lib.IndexBytes
set_option maxHeartbeats 8000000
set_option maxRecDepth 100000
namespace Go.Proofs.YtigoeooelfeopaaDoor.Q
open Go.RowKit Go.Proofs.YtigoeooelfeopaaDoorW.PrintWords Go.Proofs.YtigoeooelfeopaaDoorW.PrintLast Go.Proofs.YtigoeooelfeopaaDoorW.PrintMore
attribute [local go_sem] max2_int min2_int max_two min_two max_three min_three max_four min_four   -- for this text's walks alone
set_option linter.unusedVariables false
set_option linter.unusedSimpArgs false
theorem bIQx60_ {P : Prop} (h : P := by repeat (first | (with_reducible first | exact HB.out | apply below_alloc | apply pw_below_drewN | apply below_drew1) | exact HB.out)) : P := h
def laws_markStringS.l0 : Nat → List ByteArray → Int → Int → Option (Int × List ByteArray)
 | 0, _, _, _ => none
 | k + 1, x0, x1, x5 => if x5 < (x0.length : Int) then ((laws_markText.f k x1).bind fun t176 => (if 0 ≤ x5 then (laws_markStringS.l0 k (x0.set (x5 : Int).toNat t176) (wrap64 (x1 + 1)) (wrap64 (x5 + 1))) else (none))) else (some (x1, x0))
def laws_markStringS.f (k : Nat) (l0 : List ByteArray) (a1 : Int) : Option (Int × List ByteArray) := laws_markStringS.l0 k l0 a1 0
theorem laws_markStringS.calls (k : Nat) (P0_ : Nat → Prop) (u9000_ : Value) (l0 : List ByteArray) (a1 : Int) (r1 : Int) (r2 : List ByteArray) (w0 w : World) (hB : Below w0.heap.size w0 w) (ho0 : Kd.R Kd.string 9 w w0.heap.size P0_ u9000_ l0) (h : laws_markStringS.f k l0 a1 = some (r1, r2)) :
 Calls Tryd.prog 15 #[u9000_, .int .i64 a1] w fun e w' => e = .returned (.int .i64 r1) ∧ Kd.R Kd.string 9 w' w0.heap.size (fun k_ => (P0_ k_ ∨ w.heap.size ≤ k_)) u9000_ r2 ∧ Below w0.heap.size w0 w' ∧ Kept w w' (fun k_ => P0_ k_) := by
 have HO0 := A_ (show Kd.R Kd.string 9 w w0.heap.size (fun k_ => (P0_ k_ ∨ w.heap.size ≤ k_)) u9000_ l0 from Kd.R_mono ho0 (fun k_ hk => (.inl hk)))
 have HK := A_ (Kept.refl w (fun k_ => P0_ k_))
 have HW0 := A_ hB.size
 have HB := A_ hB
 clear hB
 have H : (laws_markStringS.l0 k l0 a1 0) = some (r1, r2) := h
 clear h
 have H' := A_ H
 clear H
 go_enter Tryd.func15, Tryd.ntmps15
 go_wp2
 go_loopg [1, 5] k (fun kq v1 v5 w' => ∃ (x0_1 : List ByteArray) (x1_1 : Int) (x5_1 : Int), v1 = .int .i64 x1_1 ∧ v5 = .int .i64 x5_1 ∧ Aside0 (laws_markStringS.l0 kq x0_1 x1_1 x5_1 = some (r1, r2)) ∧ Aside0 (kq ≤ k) ∧ Aside0 (Kd.R Kd.string 9 w' w0.heap.size (fun k_ => (P0_ k_ ∨ w.heap.size ≤ k_)) u9000_ x0_1) ∧ Aside0 (Kept w w' (fun k_ => P0_ k_)) ∧ Aside0 (Below w0.heap.size w0 w'))
 case atStart => exact ⟨(l0), (a1), (0), rs_, rs_, H', ⟨Nat.le_refl _⟩, ⟨vR_ HO0.out⟩, ⟨by repeat (first | (with_reducible first | exact HK.out | apply Kept.alloc | apply Kept.drewN | apply Kept.drew) | exact HK.out)⟩, ⟨bB_⟩⟩
 case round =>
  clear H'
  try clear c1
  try clear p2
  obtain ⟨x0_1, x1_1, x5_1, rfl, rfl, HA, HK1, HO_0, HK, HB⟩ := hrel
  cases gk with
  | zero => exact absurd HA.out (by simp [laws_markStringS.l0])
  | succ k1 =>
   have H := HA.out
   clear HA
   simp only [laws_markStringS.l0] at H
   by_cases c3 : x5_1 < (x0_1.length : Int)
   rotate_left
   · rw [if_neg c3] at H
     have c3b0 : decide (x5_1 < (x0_1.length : Int)) = false := decide_eq_false c3
     clear c3
     simp only [Option.some.injEq, Prod.mk.injEq] at H
     obtain ⟨rfl, rfl⟩ := H
     obtain ⟨Ao11, co11, eo11⟩ := Kd.R_slice HO_0.out
     subst eo11
     go_wp2
     go_ret
     exact ⟨rr_, by (with_reducible repeat (first | apply Kd.R_alloc | apply Kd.R_drewN | apply Kd.R_drew)); exact HO_0.out, bB_, by repeat (first | (with_reducible first | exact HK.out | apply Kept.alloc | apply Kept.drewN | apply Kept.drew) | exact HK.out)⟩
   rw [if_pos c3] at H
   have c3b0 : decide (x5_1 < (x0_1.length : Int)) = true := decide_eq_true c3
   clear c3
   obtain ⟨t176, A4, H⟩ := bo_ H
   (try dsimp only at H)
   by_cases c5 : 0 ≤ x5_1
   rotate_left
   · exact absurd H (by rw [if_neg c5]; simp)
   rw [if_pos c5] at H
   have c5b0 : decide (0 ≤ x5_1) = true := decide_eq_true c5
   clear c5
   obtain ⟨y177, hy177⟩ : ∃ y_ : List ByteArray, y_ = (x0_1.set (x5_1 : Int).toNat t176) := ⟨_, rfl⟩
   replace H : (laws_markStringS.l0 k1 y177 (wrap64 (x1_1 + 1)) (wrap64 (x5_1 + 1))) = some (r1, r2) := hy_ hy177 H
   have Ny177 := A_ hy177
   clear hy177
   have H' := A_ H
   clear H
   obtain ⟨Ao7, co7, eo7⟩ := Kd.R_slice HO_0.out
   subst eo7
   go_wp2_with (first | ((with_reducible refine gc_ (f := 37) rfl ?_); refine gL_ (some 15) Tryd.func37 #[.int .i64 x1_1] ?_; (with_reducible refine (laws_markText.calls k1 x1_1 t176 _ A4.out).mono ?_); rintro e w8 ⟨rfl, hb⟩; refine ⟨_, rfl, ?_⟩; replace HO_0 := A_ (Kd.R_below (vR_ HO_0.out) hb); replace HK := A_ (Kept.below (S := (fun k_ => P0_ k_)) (by repeat (first | (with_reducible first | exact HK.out | apply Kept.alloc | apply Kept.drewN | apply Kept.drew) | exact HK.out)) hb); replace HB := A_ (below_step bB_ hb); (try clear hb); have p6 : 0 ≤ (x5_1 : Int) := od_; have q6 : (x5_1 : Int) < ((x0_1.length : Int) : Int) := od_; obtain ⟨go6, co6, eo6, gb6, gl6, cl6, HG6⟩ := Kd.R_form HO_0.out (by omega); (first | cases eo6 | (injection eo6 with ea_ en_ ec_; (first | subst ea_ | (injection ea_ with ea_; subst ea_)); subst ec_; clear en_)); have GB6 := A_ gb6; have GG6 := A_ HG6; clear gb6 gl6 HG6; have HMgo6 := A_ (show (P0_ go6 ∨ w.heap.size ≤ go6) from (HO_0.out.1 _ rfl)); obtain ⟨hx6_0, hf6_0⟩ := Kd.R_celln (⟨#[]⟩ : ByteArray) HO_0.out (x5_1 : Int) p6 q6; replace p6 := eq_true p6; replace q6 := eq_true q6; obtain ⟨hy9_, hz9_⟩ := Kd.R_celln (⟨#[]⟩ : ByteArray) HO_0.out (x5_1 : Int) od_ od_; have HP9 := Kd.R_putg HO_0.out (x5_1 : Int) t176) | ((with_reducible refine gate_store (t := 9) (p := 16) rfl ?_); refine store_event (t := 9) (p := 16) (v := ?vo_w10) (w1 := (w8.setCell ⟨go6, (x5_1 : Int).toNat, none⟩ (.string t176))) ?hg ?ho ?hn ?hr ?_; (case ho => rfl); (case hg => rfl); (case hn => rfl); (case hr => first | (go_simp; done) | (go_simp; rfl)); intro w10 hw; have hg : w8.grownBy w10 (some go6) := (by rw [hw]; exact HP9.2); have hp_ : Kd.R Kd.string 9 w10 w0.heap.size (fun k_ => (P0_ k_ ∨ w.heap.size ≤ k_)) (.slice (some ⟨go6, 0, none⟩) x0_1.length co7) y177 := (by rw [hw, Ny177.out]; exact HP9.1); clear HP9; replace HB := A_ ((by rw [hw]; exact below_set (HB.out) GB6.out : Below w0.heap.size w0 w10)); replace HK := A_ (Kept.of_grown (S := (fun k_ => P0_ k_)) hg (by repeat (first | (with_reducible first | exact HK.out | apply Kept.alloc | apply Kept.drewN | apply Kept.drew) | exact HK.out)) (fun k_ e_ => (HO_0.out.1 k_ e_))); replace HO_0 := A_ (hp_); clear hg hw hp_))
   go_roundg k1
   case measure => have := HK1.out; omega
   case rel => exact ⟨(y177), (wrap64 (x1_1 + 1)), (wrap64 (x5_1 + 1)), rs_, rs_, H', ⟨by have := HK1.out; omega⟩, ⟨vR_ HO_0.out⟩, ⟨by repeat (first | (with_reducible first | exact HK.out | apply Kept.alloc | apply Kept.drewN | apply Kept.drew) | exact HK.out)⟩, ⟨bB_⟩⟩
def laws_heldStringS.l0 : Nat → List ByteArray → Int → Int → Option (Int)
 | 0, _, _, _ => none
 | k + 1, x0, x1, x5 => if x5 < (x0.length : Int) then (if 0 ≤ x5 then ((laws_markText.f k x1).bind fun t179 => (if (rdOf ByteArray.empty x0 x5).toList = t179.toList then (laws_heldStringS.l0 k x0 (wrap64 (x1 + 1)) (wrap64 (x5 + 1))) else (some (-1)))) else (none)) else (some x1)
def laws_heldStringS.f (k : Nat) (l0 : List ByteArray) (a1 : Int) : Option (Int) := laws_heldStringS.l0 k l0 a1 0
theorem laws_heldStringS.calls (k : Nat) (A0 : Option Addr) (c0 : Nat) (l0 : List ByteArray) (a1 : Int) (r : Int) (w : World) (hr0 : Kd.C Kd.string w A0 l0.length l0) (hc0 : l0.length ≤ c0) (h : laws_heldStringS.f k l0 a1 = some r) :
 Calls Tryd.prog 16 #[.slice A0 l0.length c0, .int .i64 a1] w fun e w' => e = .returned (.int .i64 r) ∧ Below w.heap.size w w' := by
 have HR0 := A_ hr0
 have HC0 := A_ hc0
 clear hr0 hc0
 have HB := A_ (Below.refl w.heap.size w)
 have H : (laws_heldStringS.l0 k l0 a1 0) = some r := h
 clear h
 have H' := A_ H
 clear H
 go_enter Tryd.func16, Tryd.ntmps16
 go_wp2
 go_loopg [1, 5] k (fun kq v1 v5 w' => ∃ (x1_1 : Int) (x5_1 : Int), v1 = .int .i64 x1_1 ∧ v5 = .int .i64 x5_1 ∧ Aside0 (laws_heldStringS.l0 kq l0 x1_1 x5_1 = some r) ∧ Aside0 (kq ≤ k) ∧ Aside0 (Below w.heap.size w w'))
 case atStart => exact ⟨(a1), (0), rs_, rs_, H', ⟨Nat.le_refl _⟩, ⟨bB_⟩⟩
 case round =>
  clear H'
  try clear c1
  try clear p2
  obtain ⟨x1_1, x5_1, rfl, rfl, HA, HK1, HB⟩ := hrel
  cases gk with
  | zero => exact absurd HA.out (by simp [laws_heldStringS.l0])
  | succ k1 =>
   have H := HA.out
   clear HA
   simp only [laws_heldStringS.l0] at H
   by_cases c3 : x5_1 < (l0.length : Int)
   rotate_left
   · rw [if_neg c3] at H
     have c3b0 : decide (x5_1 < (l0.length : Int)) = false := decide_eq_false c3
     clear c3
     obtain rfl := si_ H
     go_wp2
     go_ret
     exact ⟨rr_, bB_⟩
   rw [if_pos c3] at H
   have c3b0 : decide (x5_1 < (l0.length : Int)) = true := decide_eq_true c3
   clear c3
   by_cases c4 : 0 ≤ x5_1
   rotate_left
   · exact absurd H (by rw [if_neg c4]; simp)
   rw [if_pos c4] at H
   have c4b0 : decide (0 ≤ x5_1) = true := decide_eq_true c4
   clear c4
   obtain ⟨t179, A5, H⟩ := bo_ H
   (try dsimp only at H)
   by_cases c6 : (rdOf ByteArray.empty l0 x5_1).toList = t179.toList
   rotate_left
   · rw [if_neg c6] at H
     have c6b0 : ((rdOf ByteArray.empty l0 x5_1).toList == t179.toList) = false := beq_eq_false_iff_ne.mpr c6
     have c6b1 : ((rdOf ByteArray.empty l0 x5_1).toList != t179.toList) = true := bne_iff_ne.mpr c6
     obtain rfl := si_ H
     try go_wp2
     replace HB := A_ (below_drew1 HB.out)
     have p178 : 0 ≤ (x5_1 : Int) := od_
     have q178 : x5_1 < (l0.length : Int) := od_
     obtain ⟨ad178, e178, hx178_0⟩ := Kd.at_string HR0.out x5_1 p178 q178
     have hw178_0 := hx178_0
     cases e178
     replace hx178_0 := bc_ HB.out hx178_0
     replace p178 := eq_true p178
     replace q178 := eq_true q178
     refine start_ (n := 7) (S := fun w' => w'.cell? (ad178.add (x5_1).toNat) = some (.string (rdOf ByteArray.empty l0 x5_1))) (ds := []) #[false, false, false, false, false, false, false] (by kernel_rfl) rfl rfl ((be_ hw178_0)) (fun hHeld => ?_)
     generalize wr.drew = w9 at HB hx178_0 hHeld ⊢
     refine pu_ (i := 0) (N := some 12) ?_
     refine pu_ (i := 1) (N := some 13) ?_
     refine pu_ (i := 2) (N := some 14) ?_
     refine pu_ (i := 4) (N := some 16) ?_
     refine take_ (i := 3) (N := some 15) (v := ?_) (a' := ?_) #[true, true, true, true, true, false, false] rfl rfl (by kernel_rfl) (fun _ _ _ h => h) (Or.inl ⟨by rfl, ?_⟩) hHeld ?_ ?_
     rotate_left
     · intro w' s0
       go_simp
       with_reducible rfl
     rotate_left
     · simp only [Act.put, List.setIfInBounds_toArray, List.set_cons_zero, List.set_cons_succ, i64_w, i32_w]
       rfl
     refine on_ (i := 5) (N := some 17) (fun K hK => ?_)
     refine goes_ Tryd.func37 (by kernel_rfl) rfl #[.int .i64 x1_1] (by rfl) rfl rfl ml_ ?_
     with_reducible refine (laws_markText.calls k1 x1_1 t179 _ A5.out).mono ?_
     rintro e w10 ⟨rfl, hb⟩
     refine ⟨_, rfl, ?_⟩
     replace HB := A_ (below_step bB_ hb)
     (try clear hb)
     (try clear hb2)
     (try clear hk)
     (try clear hi)
     refine hK.out _ _ ((be_ hw178_0)) (fun hHeld => ?_)
     clear hK K
     refine no_ (some 17) ?_
     refine pu_ (i := 6) (N := some 18) ?_
     refine done_ (by kernel_rfl) ?_
     try go_wp2
     go_ret
     exact ⟨rr_, bB_⟩
   rw [if_pos c6] at H
   have c6b0 : ((rdOf ByteArray.empty l0 x5_1).toList == t179.toList) = true := beq_iff_eq.mpr c6
   have c6b1 : ((rdOf ByteArray.empty l0 x5_1).toList != t179.toList) = false := bne_eq_false_iff_eq.mpr c6
   clear c6
   have H' := A_ H
   clear H
   try go_wp2
   replace HB := A_ (below_drew1 HB.out)
   have p178 : 0 ≤ (x5_1 : Int) := od_
   have q178 : x5_1 < (l0.length : Int) := od_
   obtain ⟨ad178, e178, hx178_0⟩ := Kd.at_string HR0.out x5_1 p178 q178
   have hw178_0 := hx178_0
   cases e178
   replace hx178_0 := bc_ HB.out hx178_0
   replace p178 := eq_true p178
   replace q178 := eq_true q178
   refine start_ (n := 7) (S := fun w' => w'.cell? (ad178.add (x5_1).toNat) = some (.string (rdOf ByteArray.empty l0 x5_1))) (ds := []) #[false, false, false, false, false, false, false] (by kernel_rfl) rfl rfl ((be_ hw178_0)) (fun hHeld => ?_)
   generalize wr.drew = w7 at HB hx178_0 hHeld ⊢
   refine pu_ (i := 0) (N := some 12) ?_
   refine pu_ (i := 1) (N := some 13) ?_
   refine pu_ (i := 2) (N := some 14) ?_
   refine pu_ (i := 4) (N := some 16) ?_
   refine take_ (i := 3) (N := some 15) (v := ?_) (a' := ?_) #[true, true, true, true, true, false, false] rfl rfl (by kernel_rfl) (fun _ _ _ h => h) (Or.inl ⟨by rfl, ?_⟩) hHeld ?_ ?_
   rotate_left
   · intro w' s0
     go_simp
     with_reducible rfl
   rotate_left
   · simp only [Act.put, List.setIfInBounds_toArray, List.set_cons_zero, List.set_cons_succ, i64_w, i32_w]
     rfl
   refine on_ (i := 5) (N := some 17) (fun K hK => ?_)
   refine goes_ Tryd.func37 (by kernel_rfl) rfl #[.int .i64 x1_1] (by rfl) rfl rfl ml_ ?_
   with_reducible refine (laws_markText.calls k1 x1_1 t179 _ A5.out).mono ?_
   rintro e w8 ⟨rfl, hb⟩
   refine ⟨_, rfl, ?_⟩
   replace HB := A_ (below_step bB_ hb)
   (try clear hb)
   (try clear hb2)
   (try clear hk)
   (try clear hi)
   refine hK.out _ _ ((be_ hw178_0)) (fun hHeld => ?_)
   clear hK K
   refine no_ (some 17) ?_
   refine pu_ (i := 6) (N := some 18) ?_
   refine done_ (by kernel_rfl) ?_
   try go_wp2
   go_roundg k1
   case measure => have := HK1.out; omega
   case rel => exact ⟨(wrap64 (x1_1 + 1)), (wrap64 (x5_1 + 1)), rs_, rs_, H', ⟨by have := HK1.out; omega⟩, ⟨bB_⟩⟩
mutual
def laws_FnExactParseTags.j0 : Nat → ByteArray → List ByteArray → Bool → List ByteArray → Bool → Option (Bool)
 | 0, _, _, _, _, _ => none
 | k + 1, x0, x3, x4, x5, x32 => if x32 = true then (some false) else ((laws_markStringS.f k x5 1).bind fun bt189 => ((laws_heldStringS.f k bt189.2 1).bind fun t191 => (if t191 < 0 then (some false) else (if t191 = bt189.1 then ((impl_ParseTags.f k x0).bind fun bt192 => ((laws_eqStringS.f k bt192.1 x3).bind fun t196 => (if t196 = true then (laws_FnExactParseTags.j1 k bt189.2 bt189.1 (bt192.2 != x4)) else (laws_FnExactParseTags.j1 k bt189.2 bt189.1 true)))) else (some false)))))
def laws_FnExactParseTags.j1 : Nat → List ByteArray → Int → Bool → Option (Bool)
 | 0, _, _, _ => none
 | k + 1, x5, x7, x57 => if x57 = true then (some false) else ((laws_heldStringS.f k x5 1).bind fun t197 => (if t197 < 0 then (some false) else (if t197 = x7 then (some true) else (some false))))
end
def laws_FnExactParseTags.f (k : Nat) (a0 : ByteArray) : Option (Bool) := if (a0.size : Int) > 1048576 then (some true) else ((spec_ParseTags.f k a0).bind fun bt180 => ((impl_ParseTags.f k a0).bind fun bt184 => ((laws_eqStringS.f k bt184.1 bt180.1).bind fun t188 => (if t188 = true then (laws_FnExactParseTags.j0 k a0 bt180.1 bt180.2 bt184.1 (bt184.2 != bt180.2)) else (laws_FnExactParseTags.j0 k a0 bt180.1 bt180.2 bt184.1 true)))))
theorem laws_FnExactParseTags.calls (k : Nat) (a0 : ByteArray) (r : Bool) (w : World) (hGM : GM w) (h : laws_FnExactParseTags.f k a0 = some r) :
 Calls Tryd.prog 5 #[.string a0] w fun e w' => e = .returned (.bool r) ∧ Below w.heap.size w w' := by
 have HGM := A_ hGM
 clear hGM
 have HB := A_ (Below.refl w.heap.size w)
 have H : (if (a0.size : Int) > 1048576 then (some true) else ((spec_ParseTags.f k a0).bind fun bt180 => ((impl_ParseTags.f k a0).bind fun bt184 => ((laws_eqStringS.f k bt184.1 bt180.1).bind fun t188 => (if t188 = true then (laws_FnExactParseTags.j0 k a0 bt180.1 bt180.2 bt184.1 (bt184.2 != bt180.2)) else (laws_FnExactParseTags.j0 k a0 bt180.1 bt180.2 bt184.1 true)))))) = some r := h
 clear h
 by_cases c2 : (a0.size : Int) > 1048576
 · rw [if_pos c2] at H
   have c2b0 : decide (1048576 < (a0.size : Int)) = true := decide_eq_true c2
   have c2b1 : decide (1048576 < a0.size) = true := decide_eq_true (by omega)
   clear c2
   obtain rfl := si_ H
   go_enter Tryd.func5, Tryd.ntmps5
   go_wp2
   go_ret
   exact ⟨rr_, bB_⟩
 rw [if_neg c2] at H
 have c2b0 : decide (1048576 < (a0.size : Int)) = false := decide_eq_false c2
 have c2b1 : decide (1048576 < a0.size) = false := decide_eq_false (by omega)
 clear c2
 obtain ⟨⟨t180, t181⟩, A3, H⟩ := bo_ H
 (try dsimp only at H)
 obtain ⟨⟨t184, t185⟩, A4, H⟩ := bo_ H
 (try dsimp only at H)
 have HC5 := A_ H
 clear H
 go_enter Tryd.func5, Tryd.ntmps5
 go_upto_region 5 with (first | ((with_reducible refine gc_ (f := 12) rfl ?_); refine gL_ (some 16) Tryd.func12 #[.string a0] ?_; (with_reducible refine (spec_ParseTags.calls k a0 t180 t181 _ A3.out).mono ?_); rintro e w6 ⟨v182, rfl, ho0, hb⟩; refine ⟨_, rfl, ?_⟩; have HO183 := A_ (Kd.R_lower ho0 (below_size bB_)); replace HB := A_ (below_step bB_ hb); (try clear hb); (try clear ho0)) | ((with_reducible refine gc_ (f := 13) rfl ?_); refine gL_ (some 21) Tryd.func13 #[.string a0] ?_; (with_reducible refine (impl_ParseTags.calls k a0 t184 t185 _ ?gM39 A4.out).mono ?_); (case gM39 => exact gM_ HGM.out bB_); rintro e w7 ⟨v186, rfl, ho0, hb⟩; refine ⟨_, rfl, ?_⟩; have HO187 := A_ (Kd.R_lower (Kd.R_new' ho0 (Kd.R_lt (vR_ HO183.out))) (below_size bB_)); replace HO183 := A_ (Kd.R_elder' (vR_ HO183.out) (kb_ ho0) hb); replace HB := A_ (below_step bB_ hb); (try clear hb); (try clear ho0)))
 (try simp only [Act.put, List.setIfInBounds_toArray, List.set_cons_zero, List.set_cons_succ])
 go_cut [32] (fun v32 wc => ∃ (kq : Nat) (x32_4 : Bool), v32 = .bool x32_4 ∧ Aside0 (laws_FnExactParseTags.j0 kq a0 t180 t181 t184 x32_4 = some r) ∧ Aside0 (kq ≤ k) ∧ Aside0 (Kd.R Kd.string 9 wc w.heap.size (fun k_ => some k_ ≠ (v186 : Value).ownBlock) v182 t180) ∧ Aside0 (Kd.R Kd.string 9 wc w.heap.size (fun k_ => some k_ ≠ (v182 : Value).ownBlock) v186 t184) ∧ Aside0 (Below w.heap.size w wc))
 case first =>
  have H := HC5.out
  clear HC5
  obtain ⟨t188, A8, H⟩ := bo_ H
  (try dsimp only at H)
  by_cases c9 : t188 = true
  · subst c9
    rw [if_pos rfl] at H
    have H' := A_ H
    clear H
    obtain ⟨Ao10, co10, eo10⟩ := Kd.R_slice HO187.out
    subst eo10
    obtain ⟨Ao11, co11, eo11⟩ := Kd.R_slice HO183.out
    subst eo11
    go_wp2_with (first | ((with_reducible refine gc_ (f := 14) rfl ?_); refine gL_ (some 26) Tryd.func14 #[.slice Ao10 t184.length co10, .slice Ao11 t180.length co11] ?_; (with_reducible refine (laws_eqStringS.calls k _ _ t184 _ _ t180 true _ ?s1 ?s2 ?s3 ?s4 A8.out).mono ?_); (case s1 => exact cC_ (Kd.R_reads' HO187.out).2.2); (case s2 => exact (Kd.R_reads' HO187.out).2.1); (case s3 => exact cC_ (Kd.R_reads' HO183.out).2.2); (case s4 => exact (Kd.R_reads' HO183.out).2.1); rintro e w' ⟨rfl, ⟨nd, rfl⟩⟩; refine ⟨_, rfl, ?_⟩))
    go_meet
    case rel => exact ⟨_, ((t185 != t181)), rs_, H', ⟨by first | omega | exact Nat.le_refl _⟩, ⟨by (with_reducible repeat (first | apply Kd.R_alloc | apply Kd.R_drewN | apply Kd.R_drew)); exact Kd.R_mono HO183.out (fun _ hk => hk.2)⟩, ⟨by (with_reducible repeat (first | apply Kd.R_alloc | apply Kd.R_drewN | apply Kd.R_drew)); exact Kd.R_mono HO187.out (fun _ hk => hk.2)⟩, ⟨bB_⟩⟩
  · replace c9 := Bool.eq_false_iff.mpr c9
    subst c9
    rw [if_neg nf_] at H
    have H' := A_ H
    clear H
    obtain ⟨Ao12, co12, eo12⟩ := Kd.R_slice HO187.out
    subst eo12
    obtain ⟨Ao13, co13, eo13⟩ := Kd.R_slice HO183.out
    subst eo13
    go_wp2_with (first | ((with_reducible refine gc_ (f := 14) rfl ?_); refine gL_ (some 26) Tryd.func14 #[.slice Ao12 t184.length co12, .slice Ao13 t180.length co13] ?_; (with_reducible refine (laws_eqStringS.calls k _ _ t184 _ _ t180 false _ ?s1 ?s2 ?s3 ?s4 A8.out).mono ?_); (case s1 => exact cC_ (Kd.R_reads' HO187.out).2.2); (case s2 => exact (Kd.R_reads' HO187.out).2.1); (case s3 => exact cC_ (Kd.R_reads' HO183.out).2.2); (case s4 => exact (Kd.R_reads' HO183.out).2.1); rintro e w' ⟨rfl, ⟨nd, rfl⟩⟩; refine ⟨_, rfl, ?_⟩))
    go_meet
    case rel => exact ⟨_, (true), rs_, H', ⟨by first | omega | exact Nat.le_refl _⟩, ⟨by (with_reducible repeat (first | apply Kd.R_alloc | apply Kd.R_drewN | apply Kd.R_drew)); exact Kd.R_mono HO183.out (fun _ hk => hk.2)⟩, ⟨by (with_reducible repeat (first | apply Kd.R_alloc | apply Kd.R_drewN | apply Kd.R_drew)); exact Kd.R_mono HO187.out (fun _ hk => hk.2)⟩, ⟨bB_⟩⟩
 case rest =>
  clear HC5
  try clear c1
  try clear c2
  try clear c2b0
  try clear c2b1
  try clear p2
  try clear c5
  try clear c9
  try clear c12
  try clear c13
  obtain ⟨kq, x32_4, rfl, HA, HJ4, HO_3, HO_5, HB⟩ := hcut
  cases kq with
  | zero => exact absurd HA.out (by simp [laws_FnExactParseTags.j0])
  | succ kj4 =>
   have H := HA.out
   clear HA
   simp only [laws_FnExactParseTags.j0] at H
   by_cases c14 : x32_4 = true
   · subst c14
     rw [if_pos rfl] at H
     obtain rfl := si_ H
     go_wp2
     go_ret
     exact ⟨rr_, bB_⟩
   · replace c14 := Bool.eq_false_iff.mpr c14
     subst c14
     rw [if_neg nf_] at H
     obtain ⟨⟨t189, t190⟩, A15, H⟩ := bo_ H
     (try dsimp only at H)
     obtain ⟨t191, A16, H⟩ := bo_ H
     (try dsimp only at H)
     by_cases c17 : t191 < 0
     · rw [if_pos c17] at H
       have c17b0 : decide (t191 < 0) = true := decide_eq_true c17
       clear c17
       obtain rfl := si_ H
       obtain ⟨Ao18, co18, eo18⟩ := Kd.R_slice HO_5.out
       subst eo18
       go_wp2_with (first | ((with_reducible refine gc_ (f := 15) rfl ?_); refine gL_ (some 35) Tryd.func15 #[.slice Ao18 t184.length co18, .int .i64 1] ?_; (with_reducible refine (laws_markStringS.calls kj4 (fun k_ => some k_ = (.slice Ao18 t184.length co18 : Value).ownBlock) (.slice Ao18 t184.length co18) t184 1 t189 t190 w _ ?s1 ?s2 A15.out).mono ?_); (case s1 => exact bIQx60_); (case s2 => exact Kd.R_tight rfl HO_5.out); rintro e w19 ⟨rfl, hy0, hb, hkp⟩; refine ⟨_, rfl, ?_⟩; replace HO_3 := A_ (Kd.R_mono (ok' := fun k_ => some k_ ≠ (.slice Ao18 t184.length co18 : Value).ownBlock) (Kd.R_keptB (HO_3.out) hkp (fun k_ hk_ hs_ => (hk_) hs_)) (fun k_ hk_ => hk_.1)); replace HO_5 := A_ (Kd.R_reok rfl hy0 (fun k_ e_ => HO_5.out.1 k_ e_)); replace HB := A_ (hb); (try clear hb); (try clear hkp); (try clear hy0)) | ((with_reducible refine gc_ (f := 16) rfl ?_); refine goesL_ (some 38) rfl rfl Tryd.func16 (by kernel_rfl) rfl #[.slice Ao18 t190.length co18, .int .i64 1] rfl (by (try simp only [List.map_toArray, List.map_cons, List.map_nil]); first | done | (rw [show t190.length = t184.length from (Kd.R_reads' HO_5.out).1.symm] <;> rfl) | rfl | (simp only [List.length_drop, List.length_take]; rfl)) ?_; (with_reducible refine (laws_heldStringS.calls kj4 _ _ t190 1 t191 _ ?s1 ?s2 A16.out).mono ?_); (case s1 => exact cC_ (Kd.R_reads' HO_5.out).2.2); (case s2 => rw [show t190.length = t184.length from (Kd.R_reads' HO_5.out).1.symm]; exact (Kd.R_reads' HO_5.out).2.1); rintro e w20 ⟨rfl, hb⟩; refine ⟨_, rfl, ?_⟩; replace HO_3 := A_ (Kd.R_below (vR_ HO_3.out) hb); replace HO_5 := A_ (Kd.R_below (vR_ HO_5.out) hb); replace HB := A_ (below_step bB_ hb); (try clear hb)))
       go_ret
       exact ⟨rr_, bB_⟩
     rw [if_neg c17] at H
     have c17b0 : decide (t191 < 0) = false := decide_eq_false c17
     clear c17
     by_cases c21 : t191 = t189
     rotate_left
     · rw [if_neg c21] at H
       have c21b0 : (t191 == t189) = false := beq_eq_false_iff_ne.mpr c21
       have c21b1 : (t191 != t189) = true := bne_iff_ne.mpr c21
       obtain rfl := si_ H
       obtain ⟨Ao41, co41, eo41⟩ := Kd.R_slice HO_5.out
       subst eo41
       go_wp2_with (first | ((with_reducible refine gc_ (f := 15) rfl ?_); refine gL_ (some 35) Tryd.func15 #[.slice Ao41 t184.length co41, .int .i64 1] ?_; (with_reducible refine (laws_markStringS.calls kj4 (fun k_ => some k_ = (.slice Ao41 t184.length co41 : Value).ownBlock) (.slice Ao41 t184.length co41) t184 1 t189 t190 w _ ?s1 ?s2 A15.out).mono ?_); (case s1 => exact bIQx60_); (case s2 => exact Kd.R_tight rfl HO_5.out); rintro e w42 ⟨rfl, hy0, hb, hkp⟩; refine ⟨_, rfl, ?_⟩; replace HO_3 := A_ (Kd.R_mono (ok' := fun k_ => some k_ ≠ (.slice Ao41 t184.length co41 : Value).ownBlock) (Kd.R_keptB (HO_3.out) hkp (fun k_ hk_ hs_ => (hk_) hs_)) (fun k_ hk_ => hk_.1)); replace HO_5 := A_ (Kd.R_reok rfl hy0 (fun k_ e_ => HO_5.out.1 k_ e_)); replace HB := A_ (hb); (try clear hb); (try clear hkp); (try clear hy0)) | ((with_reducible refine gc_ (f := 16) rfl ?_); refine goesL_ (some 38) rfl rfl Tryd.func16 (by kernel_rfl) rfl #[.slice Ao41 t190.length co41, .int .i64 1] rfl (by (try simp only [List.map_toArray, List.map_cons, List.map_nil]); first | done | (rw [show t190.length = t184.length from (Kd.R_reads' HO_5.out).1.symm] <;> rfl) | rfl | (simp only [List.length_drop, List.length_take]; rfl)) ?_; (with_reducible refine (laws_heldStringS.calls kj4 _ _ t190 1 t191 _ ?s1 ?s2 A16.out).mono ?_); (case s1 => exact cC_ (Kd.R_reads' HO_5.out).2.2); (case s2 => rw [show t190.length = t184.length from (Kd.R_reads' HO_5.out).1.symm]; exact (Kd.R_reads' HO_5.out).2.1); rintro e w43 ⟨rfl, hb⟩; refine ⟨_, rfl, ?_⟩; replace HO_3 := A_ (Kd.R_below (vR_ HO_3.out) hb); replace HO_5 := A_ (Kd.R_below (vR_ HO_5.out) hb); replace HB := A_ (below_step bB_ hb); (try clear hb)))
       go_ret
       exact ⟨rr_, bB_⟩
     rw [if_pos c21] at H
     have c21b0 : (t191 == t189) = true := beq_iff_eq.mpr c21
     have c21b1 : (t191 != t189) = false := bne_eq_false_iff_eq.mpr c21
     clear c21
     obtain ⟨⟨t192, t193⟩, A22, H⟩ := bo_ H
     (try dsimp only at H)
     have HC23 := A_ H
     clear H
     obtain ⟨Ao24, co24, eo24⟩ := Kd.R_slice HO_5.out
     subst eo24
     go_upto_region 16 with (first | ((with_reducible refine gc_ (f := 15) rfl ?_); refine gL_ (some 35) Tryd.func15 #[.slice Ao24 t184.length co24, .int .i64 1] ?_; (with_reducible refine (laws_markStringS.calls kj4 (fun k_ => some k_ = (.slice Ao24 t184.length co24 : Value).ownBlock) (.slice Ao24 t184.length co24) t184 1 t189 t190 w _ ?s1 ?s2 A15.out).mono ?_); (case s1 => exact bIQx60_); (case s2 => exact Kd.R_tight rfl HO_5.out); rintro e w25 ⟨rfl, hy0, hb, hkp⟩; refine ⟨_, rfl, ?_⟩; replace HO_3 := A_ (Kd.R_mono (ok' := fun k_ => some k_ ≠ (.slice Ao24 t184.length co24 : Value).ownBlock) (Kd.R_keptB (HO_3.out) hkp (fun k_ hk_ hs_ => (hk_) hs_)) (fun k_ hk_ => hk_.1)); replace HO_5 := A_ (Kd.R_reok rfl hy0 (fun k_ e_ => HO_5.out.1 k_ e_)); replace HB := A_ (hb); (try clear hb); (try clear hkp); (try clear hy0)) | ((with_reducible refine gc_ (f := 16) rfl ?_); refine goesL_ (some 38) rfl rfl Tryd.func16 (by kernel_rfl) rfl #[.slice Ao24 t190.length co24, .int .i64 1] rfl (by (try simp only [List.map_toArray, List.map_cons, List.map_nil]); first | done | (rw [show t190.length = t184.length from (Kd.R_reads' HO_5.out).1.symm] <;> rfl) | rfl | (simp only [List.length_drop, List.length_take]; rfl)) ?_; (with_reducible refine (laws_heldStringS.calls kj4 _ _ t190 1 t191 _ ?s1 ?s2 A16.out).mono ?_); (case s1 => exact cC_ (Kd.R_reads' HO_5.out).2.2); (case s2 => rw [show t190.length = t184.length from (Kd.R_reads' HO_5.out).1.symm]; exact (Kd.R_reads' HO_5.out).2.1); rintro e w26 ⟨rfl, hb⟩; refine ⟨_, rfl, ?_⟩; replace HO_3 := A_ (Kd.R_below (vR_ HO_3.out) hb); replace HO_5 := A_ (Kd.R_below (vR_ HO_5.out) hb); replace HB := A_ (below_step bB_ hb); (try clear hb)) | ((with_reducible refine gc_ (f := 13) rfl ?_); refine gL_ (some 46) Tryd.func13 #[.string a0] ?_; (with_reducible refine (impl_ParseTags.calls kj4 a0 t192 t193 _ ?gM40 A22.out).mono ?_); (case gM40 => exact gM_ HGM.out bB_); rintro e w27 ⟨v194, rfl, ho0, hb⟩; refine ⟨_, rfl, ?_⟩; have HO195 := A_ (Kd.R_lower (Kd.R_new' (Kd.R_new' ho0 (Kd.R_lt (vR_ HO_3.out))) (Kd.R_lt (vR_ HO_5.out))) (below_size bB_)); replace HO_3 := A_ (Kd.R_elder' (vR_ HO_3.out) (kb_ ho0) hb); replace HO_5 := A_ (Kd.R_elder' (vR_ HO_5.out) (kb_ ho0) hb); replace HB := A_ (below_step bB_ hb); (try clear hb); (try clear ho0)))
     (try simp only [Act.put, List.setIfInBounds_toArray, List.set_cons_zero, List.set_cons_succ])
     go_cut [57] (fun v57 wc => ∃ (kq : Nat) (x57_22 : Bool), v57 = .bool x57_22 ∧ Aside0 (laws_FnExactParseTags.j1 kq t190 t189 x57_22 = some r) ∧ Aside0 (kq ≤ kj4) ∧ Aside0 (Kd.R Kd.string 9 wc w.heap.size (fun _ => True) (.slice Ao24 t184.length co24) t190) ∧ Aside0 (Below w.heap.size w wc))
     case first =>
      have H := HC23.out
      clear HC23
      obtain ⟨t196, A28, H⟩ := bo_ H
      (try dsimp only at H)
      by_cases c29 : t196 = true
      · subst c29
        rw [if_pos rfl] at H
        have H' := A_ H
        clear H
        obtain ⟨Ao30, co30, eo30⟩ := Kd.R_slice HO195.out
        subst eo30
        obtain ⟨Ao31, co31, eo31⟩ := Kd.R_slice HO_3.out
        subst eo31
        go_wp2_with (first | ((with_reducible refine gc_ (f := 14) rfl ?_); refine gL_ (some 51) Tryd.func14 #[.slice Ao30 t192.length co30, .slice Ao31 t180.length co31] ?_; (with_reducible refine (laws_eqStringS.calls kj4 _ _ t192 _ _ t180 true _ ?s1 ?s2 ?s3 ?s4 A28.out).mono ?_); (case s1 => exact cC_ (Kd.R_reads' HO195.out).2.2); (case s2 => exact (Kd.R_reads' HO195.out).2.1); (case s3 => exact cC_ (Kd.R_reads' HO_3.out).2.2); (case s4 => exact (Kd.R_reads' HO_3.out).2.1); rintro e w' ⟨rfl, ⟨nd, rfl⟩⟩; refine ⟨_, rfl, ?_⟩))
        go_meet
        case rel => exact ⟨_, ((t193 != t181)), rs_, H', ⟨by have := HJ4.out; first | omega | exact Nat.le_refl _⟩, ⟨by (with_reducible repeat (first | apply Kd.R_alloc | apply Kd.R_drewN | apply Kd.R_drew)); exact Kd.R_mono HO_5.out (fun _ hk => trivial)⟩, ⟨bB_⟩⟩
      · replace c29 := Bool.eq_false_iff.mpr c29
        subst c29
        rw [if_neg nf_] at H
        have H' := A_ H
        clear H
        obtain ⟨Ao32, co32, eo32⟩ := Kd.R_slice HO195.out
        subst eo32
        obtain ⟨Ao33, co33, eo33⟩ := Kd.R_slice HO_3.out
        subst eo33
        go_wp2_with (first | ((with_reducible refine gc_ (f := 14) rfl ?_); refine gL_ (some 51) Tryd.func14 #[.slice Ao32 t192.length co32, .slice Ao33 t180.length co33] ?_; (with_reducible refine (laws_eqStringS.calls kj4 _ _ t192 _ _ t180 false _ ?s1 ?s2 ?s3 ?s4 A28.out).mono ?_); (case s1 => exact cC_ (Kd.R_reads' HO195.out).2.2); (case s2 => exact (Kd.R_reads' HO195.out).2.1); (case s3 => exact cC_ (Kd.R_reads' HO_3.out).2.2); (case s4 => exact (Kd.R_reads' HO_3.out).2.1); rintro e w' ⟨rfl, ⟨nd, rfl⟩⟩; refine ⟨_, rfl, ?_⟩))
        go_meet
        case rel => exact ⟨_, (true), rs_, H', ⟨by have := HJ4.out; first | omega | exact Nat.le_refl _⟩, ⟨by (with_reducible repeat (first | apply Kd.R_alloc | apply Kd.R_drewN | apply Kd.R_drew)); exact Kd.R_mono HO_5.out (fun _ hk => trivial)⟩, ⟨bB_⟩⟩
     case rest =>
      clear HC23
      try clear c1
      try clear c2
      try clear c2b0
      try clear c2b1
      try clear p2
      try clear c5
      try clear c9
      try clear c12
      try clear c13
      try clear c14
      try clear c15
      try clear c16
      try clear c17
      try clear c17b0
      try clear c21
      try clear c21b0
      try clear c21b1
      try clear c29
      try clear p2
      obtain ⟨kq, x57_22, rfl, HA, HJ22, HO_5, HB⟩ := hcut
      have hl5_22 := (Kd.R_reads' HO_5.out).1
      rw [hl5_22] at HO_5
      (try simp only [hl5_22])
      cases kq with
      | zero => exact absurd HA.out (by simp [laws_FnExactParseTags.j1])
      | succ kj22 =>
       have H := HA.out
       clear HA
       simp only [laws_FnExactParseTags.j1] at H
       by_cases c34 : x57_22 = true
       · subst c34
         rw [if_pos rfl] at H
         obtain rfl := si_ H
         go_wp2
         go_ret
         exact ⟨rr_, bB_⟩
       · replace c34 := Bool.eq_false_iff.mpr c34
         subst c34
         rw [if_neg nf_] at H
         obtain ⟨t197, A35, H⟩ := bo_ H
         (try dsimp only at H)
         by_cases c36 : t197 < 0
         · rw [if_pos c36] at H
           have c36b0 : decide (t197 < 0) = true := decide_eq_true c36
           clear c36
           obtain rfl := si_ H
           go_wp2_with (first | ((with_reducible refine gc_ (f := 16) rfl ?_); refine gL_ (some 60) Tryd.func16 #[.slice Ao24 t190.length co24, .int .i64 1] ?_; (with_reducible refine (laws_heldStringS.calls kj22 _ _ t190 1 t197 _ ?s1 ?s2 A35.out).mono ?_); (case s1 => exact cC_ (Kd.R_reads' HO_5.out).2.2); (case s2 => exact (Kd.R_reads' HO_5.out).2.1); rintro e w37 ⟨rfl, hb⟩; refine ⟨_, rfl, ?_⟩; replace HO_5 := A_ (Kd.R_below (vR_ HO_5.out) hb); replace HB := A_ (below_step bB_ hb); (try clear hb)))
           go_ret
           exact ⟨rr_, bB_⟩
         rw [if_neg c36] at H
         have c36b0 : decide (t197 < 0) = false := decide_eq_false c36
         clear c36
         by_cases c38 : t197 = t189
         rotate_left
         · rw [if_neg c38] at H
           have c38b0 : (t197 == t189) = false := beq_eq_false_iff_ne.mpr c38
           have c38b1 : (t197 != t189) = true := bne_iff_ne.mpr c38
           obtain rfl := si_ H
           go_wp2_with (first | ((with_reducible refine gc_ (f := 16) rfl ?_); refine gL_ (some 60) Tryd.func16 #[.slice Ao24 t190.length co24, .int .i64 1] ?_; (with_reducible refine (laws_heldStringS.calls kj22 _ _ t190 1 t197 _ ?s1 ?s2 A35.out).mono ?_); (case s1 => exact cC_ (Kd.R_reads' HO_5.out).2.2); (case s2 => exact (Kd.R_reads' HO_5.out).2.1); rintro e w40 ⟨rfl, hb⟩; refine ⟨_, rfl, ?_⟩; replace HO_5 := A_ (Kd.R_below (vR_ HO_5.out) hb); replace HB := A_ (below_step bB_ hb); (try clear hb)))
           go_ret
           exact ⟨rr_, bB_⟩
         rw [if_pos c38] at H
         have c38b0 : (t197 == t189) = true := beq_iff_eq.mpr c38
         have c38b1 : (t197 != t189) = false := bne_eq_false_iff_eq.mpr c38
         clear c38
         obtain rfl := si_ H
         go_wp2_with (first | ((with_reducible refine gc_ (f := 16) rfl ?_); refine gL_ (some 60) Tryd.func16 #[.slice Ao24 t190.length co24, .int .i64 1] ?_; (with_reducible refine (laws_heldStringS.calls kj22 _ _ t190 1 t197 _ ?s1 ?s2 A35.out).mono ?_); (case s1 => exact cC_ (Kd.R_reads' HO_5.out).2.2); (case s2 => exact (Kd.R_reads' HO_5.out).2.1); rintro e w39 ⟨rfl, hb⟩; refine ⟨_, rfl, ?_⟩; replace HO_5 := A_ (Kd.R_below (vR_ HO_5.out) hb); replace HB := A_ (below_step bB_ hb); (try clear hb)))
         go_ret
         exact ⟨rr_, bB_⟩
end Go.Proofs.YtigoeooelfeopaaDoor.Q

/- What a reading of a struct says of its cells. No condition. -/
namespace Go.Proofs.YtigoeooelfeopaaDoor.Q
open Go.RowKit Go.ChangeShapes Go.WideShapes Go.Proofs.YtigoeooelfeopaaDoorW.PrintWords Go.Proofs.YtigoeooelfeopaaDoor
set_option linter.unusedVariables false
set_option linter.unusedSimpArgs false
structure S35 where
  f0 : List (S93)
  f1 : List (S96)
  f2 : Int
  f3 : Int
  f4 : List Int
  f5 : List Int
def z35 : S35 := ⟨([] : List (S93)), ([] : List (S96)), (0 : Int), (0 : Int), ([] : List Int), ([] : List Int)⟩
instance : Inhabited S147 := ⟨z147⟩
instance : Inhabited S93 := ⟨z93⟩
instance : Inhabited S96 := ⟨z96⟩
instance : Inhabited S35 := ⟨z35⟩
instance : Inhabited S103 := ⟨z103⟩
set_option maxHeartbeats 8000000
set_option maxRecDepth 100000
open Go.RowKit Go.Proofs.YtigoeooelfeopaaDoorW.PrintWords Go.Proofs.YtigoeooelfeopaaDoorW.PrintLast Go.Proofs.YtigoeooelfeopaaDoorW.PrintMore
attribute [local go_sem] max2_int min2_int max_two min_two max_three min_three max_four min_four   -- for this text's walks alone
theorem bIQx140_ {P : Prop} (h : P := by repeat (first | (with_reducible first | exact HB.out | apply below_alloc | apply pw_below_drewN | apply below_drew1 | refine below_set ?_ (IsS106.ge HI0.out)) | exact HB.out)) : P := h
theorem bIQx141_ {P : Prop} (h : P := by repeat (first | (with_reducible first | exact HI0.out | apply IsS106.alloc | apply IsS106.drewN | apply IsS106.drew | apply IsS106.set_0 | apply IsS106.set_1 | apply IsS106.set_2) | exact HI0.out)) : P := h
def spec_l7At.f (a0 : ByteArray) (a1 : Int) (a2 : ByteArray) : Option (Bool) := if (wrap64 (a1 + (a2.size : Int))) ≤ (a0.size : Int) then (if 0 ≤ a1 then (if a1 ≤ (wrap64 (a1 + (a2.size : Int))) then (some ((a0.extract (a1 : Int).toNat ((wrap64 (a1 + (a2.size : Int))) : Int).toNat).toList == a2.toList)) else (none)) else (none)) else (some false)
def IsS106 (w0 W : World) (g : Nat) (f0 : ByteArray) (f1 : Int) (f2 : Bool) : Prop := W.heap[g]? = some (.cells #[.string f0, .int .i64 f1, .bool f2] 106 (0, 0)) ∧ w0.heap.size ≤ g
theorem IsS106.grown {w0 W : World} {g : Nat} {f0 : ByteArray} {f1 : Int} {f2 : Bool} {W1 : World} {row : Option Nat} (h : IsS106 w0 W g f0 f1 f2) (hw : W.grownBy W1 row) (hne : some g ≠ row) : IsS106 w0 W1 g f0 f1 f2 := by
 obtain ⟨hb, hg⟩ := h
 exact ⟨blk_grown hb hw hne, hg⟩
theorem IsS106.kept {w0 W : World} {g : Nat} {f0 : ByteArray} {f1 : Int} {f2 : Bool} {W1 : World} {S : Nat → Prop} (h : IsS106 w0 W g f0 f1 f2) (hk : Kept W W1 S) (hne : ¬ S g) : IsS106 w0 W1 g f0 f1 f2 := by
 obtain ⟨hb, hg⟩ := h
 exact ⟨blk_kept hb hk hne, hg⟩
theorem IsS106.below {w0 W : World} {g : Nat} {f0 : ByteArray} {f1 : Int} {f2 : Bool} {W1 : World} (h : IsS106 w0 W g f0 f1 f2) (hw : Below W.heap.size W W1) : IsS106 w0 W1 g f0 f1 f2 := h.grown (grown_of_below hw none) (by simp)
theorem IsS106.alloc {w0 W : World} {g : Nat} {f0 : ByteArray} {f1 : Int} {f2 : Bool} (h : IsS106 w0 W g f0 f1 f2) (o : Obj) : IsS106 w0 (W.alloc o) g f0 f1 f2 := h.below (below_alloc (Below.refl _ _) o)
theorem IsS106.drewN {w0 W : World} {g : Nat} {f0 : ByteArray} {f1 : Int} {f2 : Bool} (h : IsS106 w0 W g f0 f1 f2) (m : Nat) : IsS106 w0 (W.drewN m) g f0 f1 f2 := h
theorem IsS106.drew {w0 W : World} {g : Nat} {f0 : ByteArray} {f1 : Int} {f2 : Bool} (h : IsS106 w0 W g f0 f1 f2) : IsS106 w0 W.drew g f0 f1 f2 := h
theorem IsS106.apart {w0 W : World} {g : Nat} {f0 : ByteArray} {f1 : Int} {f2 : Bool} {α : Type} {d : Kd α} {e : Nat} {base : Nat} {ok : Nat → Prop} {v : Value} {xs : List α} (h : IsS106 w0 W g f0 f1 f2) (ho : d.R e W base ok v xs) (ht : ∀ q, q ∈ e :: d.E → q ≠ 106) : d.R e W base (fun k => ok k ∧ k ≠ g) v xs := by
 obtain ⟨hb, hg⟩ := h
 exact Kd.R_types ho hb ht
theorem IsS106.ge {w0 W : World} {g : Nat} {f0 : ByteArray} {f1 : Int} {f2 : Bool} (h : IsS106 w0 W g f0 f1 f2) : w0.heap.size ≤ g := by
 obtain ⟨hb, hg⟩ := h
 exact hg
theorem IsS106.set_0 {w0 W : World} {g : Nat} {f0 : ByteArray} {f1 : Int} {f2 : Bool} (h : IsS106 w0 W g f0 f1 f2) (x : ByteArray) : IsS106 w0 (W.setCell ⟨g, 0, none⟩ (.string x)) g x f1 f2 := by
 obtain ⟨hb, hg⟩ := h
 exact ⟨by simpa using blk_set hb 0 (.string x), hg⟩
theorem IsS106.set_1 {w0 W : World} {g : Nat} {f0 : ByteArray} {f1 : Int} {f2 : Bool} (h : IsS106 w0 W g f0 f1 f2) (x : Int) : IsS106 w0 (W.setCell ⟨g, 1, none⟩ (.int .i64 x)) g f0 x f2 := by
 obtain ⟨hb, hg⟩ := h
 exact ⟨by simpa using blk_set hb 1 (.int .i64 x), hg⟩
theorem IsS106.set_2 {w0 W : World} {g : Nat} {f0 : ByteArray} {f1 : Int} {f2 : Bool} (h : IsS106 w0 W g f0 f1 f2) (x : Bool) : IsS106 w0 (W.setCell ⟨g, 2, none⟩ (.bool x)) g f0 f1 x := by
 obtain ⟨hb, hg⟩ := h
 exact ⟨by simpa using blk_set hb 2 (.bool x), hg⟩
theorem IsS106.new (w0 W : World) (f0 : ByteArray) (f1 : Int) (f2 : Bool) (hB : Below w0.heap.size w0 W) : IsS106 w0 (W.alloc (.cells #[.string f0, .int .i64 f1, .bool f2] 106)) W.heap.size f0 f1 f2 := ⟨by simpa using heap_alloc_new W _, hB.size⟩
end Go.Proofs.YtigoeooelfeopaaDoor.Q

/- Small lemmas for plain laws over rounds: indices as lengths of what was passed, bytes' equality. No condition. -/
set_option linter.unusedSimpArgs false
set_option linter.unusedVariables false
namespace Go.Proofs.YtigoeooelfeopaaDoor.L
open Go.RowKit Go.Proofs.YtigoeooelfeopaaDoorW.PrintWords Go.Proofs.YtigoeooelfeopaaDoorW.PrintLast
theorem ba_toList (s : ByteArray) : s.toList = s.data.toList := ByteArray.toList_eq s
theorem ba_inj {a b : ByteArray} (h : a.toList = b.toList) : a = b := by
  rw [ba_toList, ba_toList] at h
  cases a with | mk x => cases b with | mk y => congr 1; exact Array.toList_inj.1 h
theorem ba_eq {a b : ByteArray} : (a.toList = b.toList) = (a = b) := propext ⟨ba_inj, fun h => by rw [h]⟩
theorem maxLen_eq : maxLen = 9223372036854775807 := by decide
theorem wrap_id {x : Int} (h0 : -9223372036854775808 ≤ x) (h1 : x < 9223372036854775808) : wrap64 x = x := by
  unfold wrap64
  omega
section
variable {α : Type} {l pre suf : List α} {a : α}
theorem lt_at (h : l = pre ++ a :: suf) : ((pre.length : Nat) : Int) < (l.length : Int) := by subst h; simp; omega
theorem rd_at (d : α) (h : l = pre ++ a :: suf) : rdOf d l (pre.length : Int) = a := by subst h; simp [rdOf, List.getD_eq_getElem?_getD]
theorem next_at (h : l = pre ++ a :: suf) (hl : l.length ≤ maxLen) : wrap64 ((pre.length : Int) + 1) = ((pre ++ [a]).length : Int) := by
  have : l.length = pre.length + 1 + suf.length := by subst h; simp; omega
  rw [maxLen_eq] at hl
  rw [wrap_id (by omega) (by omega)]
  simp
theorem snoc_at (h : l = pre ++ a :: suf) : l = (pre ++ [a]) ++ suf := by subst h; simp
theorem end_at (h : l = pre ++ []) : ¬ ((pre.length : Nat) : Int) < (l.length : Int) := by subst h; simp
theorem set_at {b : α} (h : l = pre ++ a :: suf) : l.set ((pre.length : Nat) : Int).toNat b = (pre ++ [b]) ++ suf := by subst h; simp
theorem nonneg_at (n : Nat) : (0 : Int) ≤ (n : Int) := Int.natCast_nonneg n
end
theorem ev_cast {α : Type} {g : Nat → Option α} {r s : α} (h : Ev g r) (e : r = s) : Ev g s := e ▸ h
end Go.Proofs.YtigoeooelfeopaaDoor.L

/- Texts byte by byte: plain texts, small names, as the program and the reference have them. No condition. -/
set_option linter.unusedSimpArgs false
set_option linter.unusedVariables false
namespace Go.Proofs.YtigoeooelfeopaaDoor.L
open Go.RowKit Go.Proofs.YtigoeooelfeopaaDoorW.PrintWords Go.Proofs.YtigoeooelfeopaaDoorW.PrintLast Go.Proofs.YtigoeooelfeopaaDoor.Q
abbrev bl (s : ByteArray) : List UInt8 := s.data.toList
theorem bl_len (s : ByteArray) : (bl s).length = s.size := data_length s
theorem bl_inj {s t : ByteArray} (h : bl s = bl t) : s = t := ba_inj (by rw [ba_toList, ba_toList]; exact h)
section
variable {s : ByteArray} {pre suf : List UInt8} {c : UInt8}
theorem blt_at (h : bl s = pre ++ c :: suf) : ((pre.length : Nat) : Int) < (s.size : Int) := by
  have := bl_len s
  rw [h] at this
  simp at this
  omega
theorem bend_at (h : bl s = pre ++ []) : ¬ ((pre.length : Nat) : Int) < (s.size : Int) := by
  have := bl_len s
  rw [h] at this
  simp at this
  omega
theorem bt_at' (h : bl s = pre ++ c :: suf) : bt s (pre.length : Int) = (c.toNat : Int) := by
  have hlt := blt_at h
  have h2 : pre.length < s.size := by omega
  rw [← bt_at s (pre.length : Int) (by simpa using h2)]
  have h3 : pre.length < (bl s).length := by rw [bl_len]; exact h2
  have h4 : (bl s)[pre.length] = c := by simp [h]
  have h5 : s[pre.length]'h2 = (bl s)[pre.length] := by
    show s.data[pre.length] = _
    simp
  simp only [Int.toNat_natCast, h5, h4]
theorem bnext_at (h : bl s = pre ++ c :: suf) (hs : s.size ≤ maxLen) : wrap64 ((pre.length : Int) + 1) = ((pre ++ [c]).length : Int) := by
  have := blt_at h
  rw [maxLen_eq] at hs
  rw [wrap_id (by omega) (by omega)]
  simp
end
theorem byte_bounds (c : UInt8) : 0 ≤ (c.toNat : Int) ∧ (c.toNat : Int) ≤ 255 := ⟨by omega, by have := c.toNat_lt; omega⟩
theorem wrap_byte (c : UInt8) : wrap64 (c.toNat : Int) = (c.toNat : Int) := wrap_id (by omega) (by have := byte_bounds c; omega)
def inB (lo hi : Int) (c : UInt8) : Bool := decide (lo ≤ (c.toNat : Int) ∧ (c.toNat : Int) ≤ hi)
theorem specIn (a b c : Int) : spec_l1In.f a b c = some (decide (b ≤ a ∧ a ≤ c)) := by
  unfold spec_l1In.f
  by_cases h : a ≥ b
  · rw [if_pos h]; simp [show b ≤ a from h]
  · rw [if_neg h]; simp [show ¬ b ≤ a from h]
theorem implIn (a b c : Int) : impl_in.f a b c = some (decide (b ≤ a ∧ a ≤ c)) := by
  unfold impl_in.f
  by_cases h : a ≥ b
  · rw [if_pos h]; simp [show b ≤ a from h]
  · rw [if_neg h]; simp [show ¬ b ≤ a from h]
theorem implIsPlain (c : UInt8) : impl_isPlain.f (c.toNat : Int) = some (inB 32 126 c) := by
  unfold impl_isPlain.f inB
  by_cases h : (c.toNat : Int) ≥ 32
  · rw [if_pos h]; simp only [show (32 : Int) ≤ c.toNat from h, true_and]
  · rw [if_neg h]; simp only [show ¬ (32 : Int) ≤ c.toNat from h, false_and, decide_false]
def plainL (l : List UInt8) : Bool := l.all (inB 32 126)
theorem specPlain_loop {s : ByteArray} (hs : s.size ≤ maxLen) : ∀ (suf pre : List UInt8), bl s = pre ++ suf → Ev (fun k => spec_Plain.l0 k s pre.length) (plainL suf) := by
  intro suf
  induction suf with
  | nil =>
    intro pre h
    refine Ev.step (fun k => spec_Plain.l0.eq_2 ..) ?_
    simp only [if_neg (bend_at h)]
    exact Ev.now _
  | cons c suf ih =>
    intro pre h
    refine Ev.step (fun k => spec_Plain.l0.eq_2 ..) ?_
    simp only [if_pos (blt_at h), if_pos (nonneg_at _), bt_at' h, wrap_byte, specIn, Option.bind_some, bnext_at h hs]
    have := ih (pre ++ [c]) (snoc_at h)
    simp only [plainL, List.all_cons, inB] at this ⊢
    by_cases e : (32 : Int) ≤ c.toNat ∧ (c.toNat : Int) ≤ 126
    · simp only [e, and_self, decide_true, if_true, Bool.true_and]
      exact this
    · simp only [e, decide_false, Bool.false_eq_true, if_false, Bool.false_and]
      exact Ev.now _
theorem specPlain {s : ByteArray} (hs : s.size ≤ maxLen) : Ev (fun k => spec_Plain.f k s) (plainL (bl s)) := specPlain_loop hs _ [] rfl
theorem implPlain_loop {s : ByteArray} (hs : s.size ≤ maxLen) : ∀ (suf pre : List UInt8), bl s = pre ++ suf → Ev (fun k => impl_Plain.l0 k s pre.length) (plainL suf) := by
  intro suf
  induction suf with
  | nil =>
    intro pre h
    refine Ev.step (fun k => impl_Plain.l0.eq_2 ..) ?_
    simp only [if_neg (bend_at h)]
    exact Ev.now _
  | cons c suf ih =>
    intro pre h
    refine Ev.step (fun k => impl_Plain.l0.eq_2 ..) ?_
    simp only [if_pos (blt_at h), if_pos (nonneg_at _), bt_at' h, implIsPlain, Option.bind_some, bnext_at h hs]
    have := ih (pre ++ [c]) (snoc_at h)
    simp only [plainL, List.all_cons] at this ⊢
    by_cases e : inB 32 126 c = true
    · simp only [e, if_true, Bool.true_and]
      exact this
    · simp only [e, if_false, Bool.false_and]
      exact Ev.now _
theorem implPlain {s : ByteArray} (hs : s.size ≤ maxLen) : Ev (fun k => impl_Plain.f k s) (plainL (bl s)) := implPlain_loop hs _ [] rfl
end Go.Proofs.YtigoeooelfeopaaDoor.L

/- Texts as lists of bytes: cut, trimmed, their first places. No condition. -/
set_option linter.unusedSimpArgs false
set_option linter.unusedVariables false
namespace Go.Proofs.YtigoeooelfeopaaDoor.L
open Go.RowKit Go.Proofs.YtigoeooelfeopaaDoorW.PrintWords Go.Proofs.YtigoeooelfeopaaDoorW.PrintLast Go.Proofs.YtigoeooelfeopaaDoor.Q
abbrev ofL (l : List UInt8) : ByteArray := ⟨l.toArray⟩
theorem bl_ofL (l : List UInt8) : bl (ofL l) = l := by simp
theorem ofL_bl (s : ByteArray) : ofL (bl s) = s := bl_inj (bl_ofL _)
theorem size_ofL (l : List UInt8) : (ofL l).size = l.length := by rw [← bl_len, bl_ofL]
theorem of_bl {s : ByteArray} {l : List UInt8} (h : bl s = l) : s = ofL l := by rw [← h, ofL_bl]
theorem bl_extract (s : ByteArray) (i j : Nat) : bl (s.extract i j) = ((bl s).take j).drop i := by
  show (s.extract i j).data.toList = _
  rw [ByteArray.data_extract, Array.toList_extract, List.extract_eq_take_drop, List.drop_take]
theorem tl_eq (s : ByteArray) (l : List UInt8) : (s.toList = l) = (bl s = l) := by rw [ba_toList]
theorem eq_byte (c : UInt8) (n : Nat) (hn : n < 256) : ((c.toNat : Int) = (n : Int)) = (c = UInt8.ofNat n) := by
  apply propext
  constructor
  · intro h
    apply UInt8.toNat_inj.1
    rw [UInt8.toNat_ofNat']
    omega
  · rintro rfl
    rw [UInt8.toNat_ofNat']
    omega
theorem index_hit {u body rest : List UInt8} {c : UInt8} (h : u = body ++ c :: rest) (hn : c ∉ body) : Lib.indexByte u c = body.length := by
  subst h
  induction body with
  | nil => simp [Lib.indexByte]
  | cons b body ih =>
    have h1 : ¬ b = c := fun e => hn (by simp [e])
    have := ih (fun hm => hn (List.mem_cons_of_mem _ hm))
    simp only [List.cons_append, Lib.indexByte, beq_iff_eq, h1, if_false, this]
    rw [if_neg (by omega)]
    simp
theorem index_miss {u : List UInt8} {c : UInt8} (hn : c ∉ u) : Lib.indexByte u c = -1 := by
  induction u with
  | nil => simp [Lib.indexByte]
  | cons b u ih =>
    have h1 : ¬ b = c := fun e => hn (by simp [e])
    have := ih (fun hm => hn (List.mem_cons_of_mem _ hm))
    simp only [Lib.indexByte, beq_iff_eq, h1, if_false, this, if_true]
theorem cut_hit {u body rest : List UInt8} {c : UInt8} (h : u = body ++ c :: rest) (hn : c ∉ body) : Lib.cut u [c] = (body, rest, true) := by
  unfold Lib.cut
  rw [Lib.index_one, index_hit h hn, if_pos (by omega)]
  subst h
  simp
theorem cut_miss {u : List UInt8} {c : UInt8} (hn : c ∉ u) : Lib.cut u [c] = (u, [], false) := by
  unfold Lib.cut
  rw [Lib.index_one, index_miss hn, if_neg (by omega)]
theorem first_of {u : List UInt8} {c : UInt8} (h : c ∈ u) : ∃ body rest, u = body ++ c :: rest ∧ c ∉ body := by
  induction u with
  | nil => simp at h
  | cons b u ih =>
    by_cases e : b = c
    · exact ⟨[], u, by simp [e], by simp⟩
    · have h2 : c ∈ u := by
        rcases List.mem_cons.1 h with h | h
        · exact absurd h.symm e
        · exact h
      obtain ⟨body, rest, h3, h4⟩ := ih h2
      exact ⟨b :: body, rest, by rw [h3]; rfl, fun hm => (List.mem_cons.1 hm).elim (fun h => e h.symm) h4⟩
theorem pre_cons (c : UInt8) (u : List UInt8) : Lib.hasPrefix (c :: u) [c] = true ∧ Lib.trimPrefix (c :: u) [c] = u := by
  have : Lib.hasPrefix (c :: u) [c] = true := by simp [Lib.hasPrefix]
  exact ⟨this, by simp [Lib.trimPrefix, this]⟩
theorem pre_not {u : List UInt8} {c : UInt8} (h : ∀ v, u ≠ c :: v) : Lib.hasPrefix u [c] = false ∧ Lib.trimPrefix u [c] = u := by
  have : Lib.hasPrefix u [c] = false := by
    cases u with
    | nil => simp [Lib.hasPrefix]
    | cons b u =>
      have : ¬ c = b := fun e => h u (by rw [e])
      simp [Lib.hasPrefix, List.isPrefixOf, this]
  exact ⟨this, by simp [Lib.trimPrefix, this]⟩
def blank (c : UInt8) : Bool := c == 32 || c == 9
def Blank (l : List UInt8) : Prop := ∀ c ∈ l, blank c = true
def Tight (m : List UInt8) : Prop := m = [] ∨ (∃ c r, m = c :: r ∧ blank c = false) ∧ (∃ r c, m = r ++ [c] ∧ blank c = false)
def trm (l : List UInt8) : List UInt8 := Lib.trimS l [32, 9]
theorem blank_fun : (fun c : UInt8 => ([32, 9] : List UInt8).contains c) = blank := by
  funext c
  simp only [blank, List.contains, List.elem]
  cases h1 : (c == 32) <;> cases h2 : (c == 9) <;> simp_all
theorem Blank.append {a b : List UInt8} (ha : Blank a) (hb : Blank b) : Blank (a ++ b) := fun c hc => (List.mem_append.1 hc).elim (ha c) (hb c)
theorem Blank.left {a b : List UInt8} (h : Blank (a ++ b)) : Blank a := fun c hc => h c (List.mem_append_left _ hc)
theorem drop_blank {a m : List UInt8} (ha : Blank a) : (a ++ m).dropWhile blank = m.dropWhile blank := List.dropWhile_append_of_pos ha
theorem trm_of {a m b : List UInt8} (ha : Blank a) (hb : Blank b) (hm : Tight m) : trm (a ++ m ++ b) = m := by
  unfold trm Lib.trimS Lib.trimLeftS Lib.trimRightS
  rw [blank_fun, List.reverse_append, drop_blank (fun c hc => hb c (List.mem_reverse.1 hc)), List.reverse_append]
  rcases hm with rfl | ⟨⟨c, r, h1, h2⟩, ⟨r', c', h3, h4⟩⟩
  · simp only [List.reverse_nil, List.nil_append]
    have : a.reverse.dropWhile blank = [] := by
      have := drop_blank (a := a.reverse) (m := []) (fun c hc => ha c (List.mem_reverse.1 hc))
      simpa using this
    rw [this]; rfl
  · rw [h3, List.reverse_append]
    simp only [List.reverse_cons, List.reverse_nil, List.nil_append, List.cons_append]
    rw [List.dropWhile_cons_of_neg (by simp [h4])]
    simp only [List.reverse_cons, List.reverse_append, List.reverse_reverse, List.append_assoc]
    rw [drop_blank ha, ← h3, h1, List.dropWhile_cons_of_neg (by simp [h2])]
theorem tight_split (l : List UInt8) : ∃ a m b, l = a ++ m ++ b ∧ Blank a ∧ Blank b ∧ Tight m ∧ (m = [] → b = []) := by
  induction l with
  | nil => exact ⟨[], [], [], rfl, fun _ h => by simp at h, fun _ h => by simp at h, .inl rfl, fun _ => rfl⟩
  | cons c l ih =>
    obtain ⟨a, m, b, rfl, ha, hb, hm, h0⟩ := ih
    cases hc : blank c with
    | true => exact ⟨c :: a, m, b, rfl, fun x hx => (List.mem_cons.1 hx).elim (fun h => h ▸ hc) (ha x), hb, hm, h0⟩
    | false =>
      rcases hm with rfl | ⟨⟨d, r, h1, h2⟩, ⟨r', d', h3, h4⟩⟩
      · obtain rfl := h0 rfl
        exact ⟨[], [c], a, by simp, fun _ h => by simp at h, ha, .inr ⟨⟨c, [], rfl, hc⟩, ⟨[], c, rfl, hc⟩⟩, fun h => by simp at h⟩
      · exact ⟨[], c :: (a ++ m), b, by simp, fun _ h => by simp at h, hb, .inr ⟨⟨c, a ++ m, rfl, hc⟩, ⟨c :: (a ++ r'), d', by rw [h3]; simp, h4⟩⟩, fun h => by simp at h⟩
theorem trm_split (l : List UInt8) : ∃ a b, l = a ++ trm l ++ b ∧ Blank a ∧ Blank b ∧ Tight (trm l) ∧ (trm l = [] → b = []) := by
  obtain ⟨a, m, b, h, ha, hb, hm, h0⟩ := tight_split l
  have e : trm l = m := by rw [h]; exact trm_of ha hb hm
  rw [e]
  exact ⟨a, b, h, ha, hb, hm, h0⟩
theorem trm_blank {l : List UInt8} (h : Blank l) : trm l = [] := by
  have := trm_of (a := l) (m := []) (b := []) h (fun _ h => by simp at h) (.inl rfl)
  simpa using this
theorem trm_right {l b : List UInt8} (hb : Blank b) : trm (l ++ b) = trm l := by
  obtain ⟨a, b', h, ha, hb', hm, _⟩ := trm_split l
  have := trm_of ha (hb'.append hb) hm
  rw [← List.append_assoc, ← h] at this
  exact this
theorem trm_left {l a : List UInt8} (ha : Blank a) : trm (a ++ l) = trm l := by
  obtain ⟨a', b, h, ha', hb, hm, _⟩ := trm_split l
  have := trm_of (ha.append ha') hb hm
  rw [List.append_assoc, List.append_assoc, ← List.append_assoc a', ← h] at this
  exact this
theorem trm_length (l : List UInt8) : (trm l).length ≤ l.length := by
  obtain ⟨a, b, h, _⟩ := trm_split l
  have := congrArg List.length h
  simp only [List.length_append] at this
  omega
theorem trm_tight {m : List UInt8} (h : Tight m) : trm m = m := by
  have := trm_of (a := []) (b := []) (fun _ h => by simp at h) (fun _ h => by simp at h) h
  simpa using this
theorem trm_front {m w : List UInt8} (hm : Tight m) (h0 : m ≠ []) : ∃ rest b, trm (m ++ w) = m ++ rest ∧ w = rest ++ b ∧ Blank b := by
  obtain ⟨a, v, b, rfl, ha, hb, hv, _⟩ := tight_split w
  rcases hm with rfl | ⟨⟨c, r, h1, h2⟩, ⟨r', c', h3, h4⟩⟩
  · exact absurd rfl h0
  rcases hv with rfl | ⟨_, ⟨r2, c2, h5, h6⟩⟩
  · refine ⟨[], a ++ b, ?_, by simp, ha.append hb⟩
    rw [List.append_nil, List.append_nil, trm_right (ha.append hb), trm_tight (.inr ⟨⟨c, r, h1, h2⟩, ⟨r', c', h3, h4⟩⟩)]
  · refine ⟨a ++ v, b, ?_, rfl, hb⟩
    rw [← List.append_assoc, trm_right hb]
    exact trm_tight (.inr ⟨⟨c, r ++ (a ++ v), by rw [h1]; rfl, h2⟩, ⟨m ++ a ++ r2, c2, by rw [h5]; simp, h6⟩⟩)
theorem tl_cons {s : ByteArray} {c : UInt8} {r : List UInt8} (h : bl s = c :: r) : (0 : Int) < (s.size : Int) ∧ bt s 0 = (c.toNat : Int) ∧ bl (s.extract 1 s.size) = r := by
  have hl := bl_len s
  rw [h] at hl
  simp only [List.length_cons] at hl
  refine ⟨by omega, ?_, ?_⟩
  · have := bt_at' (s := s) (pre := []) (c := c) (suf := r) (by simpa using h)
    simpa using this
  · rw [bl_extract, h, ← hl]
    simp
theorem tl_last {s : ByteArray} {c : UInt8} {r : List UInt8} (h : bl s = r ++ [c]) (hs : s.size ≤ maxLen) : (0 : Int) < (s.size : Int) ∧ wrap64 ((s.size : Int) - 1) = (r.length : Int) ∧ bt s (r.length : Int) = (c.toNat : Int) ∧ bl (s.extract 0 r.length) = r := by
  have hl := bl_len s
  rw [h] at hl
  simp only [List.length_append, List.length_cons, List.length_nil] at hl
  rw [maxLen_eq] at hs
  refine ⟨by omega, ?_, bt_at' h, ?_⟩
  · rw [wrap_id (by omega) (by omega)]; omega
  · rw [bl_extract, h]; simp
theorem specBlank (c : UInt8) : spec_l1Blank.f (c.toNat : Int) = some (blank c) := by
  unfold spec_l1Blank.f blank
  have e1 := eq_byte c 32 (by omega)
  have e2 := eq_byte c 9 (by omega)
  by_cases h1 : c = 32
  · subst h1; rfl
  · rw [if_neg (by rw [show ((32 : Int)) = ((32 : Nat) : Int) from rfl, e1]; exact h1)]
    by_cases h2 : c = 9
    · subst h2; rfl
    · have : ¬ (c.toNat : Int) = 9 := by rw [show ((9 : Int)) = ((9 : Nat) : Int) from rfl, e2]; exact h2
      have e : ((c.toNat : Int) == 9) = false := beq_eq_false_iff_ne.mpr this
      rw [e, beq_eq_false_iff_ne.mpr h1, beq_eq_false_iff_ne.mpr h2]; rfl
theorem specTrimR : ∀ (n : Nat) (s : ByteArray) (m b : List UInt8), b.length = n → s.size ≤ maxLen → bl s = m ++ b → Blank b → (m = [] ∨ ∃ r c, m = r ++ [c] ∧ blank c = false) → Ev (fun k => spec_Trim.l1 k s) (ofL m) := by
  intro n
  induction n with
  | zero =>
    intro s m b hb hs h _ hm
    obtain rfl := List.length_eq_zero_iff.1 hb
    rw [List.append_nil] at h
    refine Ev.step (fun k => spec_Trim.l1.eq_2 ..) ?_
    rw [← of_bl h]
    rcases hm with rfl | ⟨r, c, rfl, hc⟩
    · have : s.size = 0 := by rw [← bl_len, h]; rfl
      simp only [if_neg (show ¬ ((s.size : Nat) : Int) > 0 by omega)]
      exact Ev.now _
    · obtain ⟨h1, h2, h3, h4⟩ := tl_last h hs
      have hl := bl_len s
      rw [h] at hl
      simp only [List.length_append, List.length_cons, List.length_nil] at hl
      simp only [h2, h3, specBlank, hc, Option.bind_some, if_pos (show (s.size : Int) > 0 by omega), if_pos (nonneg_at _), if_pos (show ((r.length : Nat) : Int) < (s.size : Int) by omega), Bool.false_eq_true, if_false]
      exact Ev.now _
  | succ n ih =>
    intro s m b hb hs h hbl hm
    have hne : b ≠ [] := fun e => by rw [e] at hb; simp at hb
    obtain ⟨b', c, rfl⟩ : ∃ b' c, b = b' ++ [c] := ⟨b.dropLast, b.getLast hne, (List.dropLast_concat_getLast hne).symm⟩
    rw [← List.append_assoc] at h
    obtain ⟨h1, h2, h3, h4⟩ := tl_last h hs
    have hl := bl_len s
    rw [h] at hl
    simp only [List.length_append, List.length_cons, List.length_nil] at hl hb
    have hs2 : (s.extract 0 (m ++ b').length).size ≤ maxLen := by rw [← bl_len, h4]; simp only [List.length_append]; omega
    refine Ev.step (fun k => spec_Trim.l1.eq_2 ..) ?_
    simp only [h2, h3, specBlank, hbl c (by simp), Option.bind_some, if_pos (show (s.size : Int) > 0 by omega), if_pos (nonneg_at _), if_pos (show (((m ++ b').length : Nat) : Int) < (s.size : Int) by simp only [List.length_append]; omega), if_pos (show (((m ++ b').length : Nat) : Int) ≤ (s.size : Int) by simp only [List.length_append]; omega), if_true, Int.toNat_natCast]
    exact ih _ m b' (by omega) hs2 h4 hbl.left hm
theorem specTrimL : ∀ (a : List UInt8) (s : ByteArray) (m b : List UInt8), s.size ≤ maxLen → bl s = a ++ (m ++ b) → Blank a → Blank b → Tight m → (m = [] → b = []) → Ev (fun k => spec_Trim.l0 k s) (ofL m) := by
  intro a
  induction a with
  | nil =>
    intro s m b hs h _ hb hm h0
    rw [List.nil_append] at h
    have hj : Ev (fun k => spec_Trim.j1 k s) (ofL m) := Ev.step (fun k => spec_Trim.j1.eq_2 ..) (specTrimR _ s m b rfl hs h hb (hm.elim .inl (fun h => .inr h.2)))
    refine Ev.step (fun k => spec_Trim.l0.eq_2 ..) ?_
    rcases hm with rfl | ⟨⟨c, r, rfl, hc⟩, _⟩
    · obtain rfl := h0 rfl
      have : s.size = 0 := by rw [← bl_len, h]; rfl
      simp only [if_neg (show ¬ ((s.size : Nat) : Int) > 0 by omega)]
      exact hj
    · obtain ⟨h1, h2, _⟩ := tl_cons (s := s) (c := c) (r := r ++ b) (by rw [h]; rfl)
      simp only [h2, specBlank, hc, Option.bind_some, if_pos (show (s.size : Int) > 0 by omega), if_pos h1, Bool.false_eq_true, if_false]
      exact hj
  | cons c a ih =>
    intro s m b hs h ha hb hm h0
    obtain ⟨h1, h2, h3⟩ := tl_cons (s := s) (c := c) (r := a ++ (m ++ b)) (by rw [h]; rfl)
    have hl := bl_len s
    rw [h] at hl
    simp only [List.length_append, List.length_cons] at hl
    refine Ev.step (fun k => spec_Trim.l0.eq_2 ..) ?_
    simp only [h2, specBlank, ha c (by simp), Option.bind_some, if_pos (show (s.size : Int) > 0 by omega), if_pos h1, if_true, if_pos (show (1 : Int) ≤ (s.size : Int) by omega)]
    exact ih _ m b (by rw [← bl_len, h3]; simp only [List.length_append]; omega) h3 (fun x hx => ha x (List.mem_cons_of_mem _ hx)) hb hm h0
theorem specTrim {s : ByteArray} (hs : s.size ≤ maxLen) : Ev (fun k => spec_Trim.f k s) (ofL (trm (bl s))) := by
  obtain ⟨a, b, h, ha, hb, hm, h0⟩ := trm_split (bl s)
  exact specTrimL a s _ b hs (by rw [← List.append_assoc]; exact h) ha hb hm h0
theorem implTrim {s : ByteArray} (hs : s.size ≤ maxLen) : impl_Trim.f s = some (ofL (trm (bl s))) := by
  rw [maxLen_eq] at hs
  unfold impl_Trim.f strings_Trim.f
  rw [if_pos ⟨hs, by decide, by decide⟩]
  rfl
end Go.Proofs.YtigoeooelfeopaaDoor.L

/- Lists of marks: what the program reads is what the reference splits. No condition. -/
set_option linter.unusedSimpArgs false
set_option linter.unusedVariables false
namespace Go.Proofs.YtigoeooelfeopaaDoor.L
open Go.RowKit Go.Proofs.YtigoeooelfeopaaDoorW.PrintWords Go.Proofs.YtigoeooelfeopaaDoorW.PrintLast Go.Proofs.YtigoeooelfeopaaDoor.Q
def tog (c : UInt8) (q : Bool) : Bool := if c = 34 then !q else q
def one : Bool → List UInt8 → List UInt8 × Option (List UInt8)
  | _, [] => ([], none)
  | q, c :: r => if c = 44 ∧ q = false then ([], some r) else (c :: (one (tog c q) r).1, (one (tog c q) r).2)
def pcs : Bool → List UInt8 → List (List UInt8)
  | _, [] => [[]]
  | q, c :: r => if c = 44 ∧ q = false then [] :: pcs false r else (c :: (pcs (tog c q) r).headD []) :: (pcs (tog c q) r).tail
theorem pcs_cons (q : Bool) (c : UInt8) (r : List UInt8) : pcs q (c :: r) = if c = 44 ∧ q = false then [] :: pcs false r else (c :: (pcs (tog c q) r).headD []) :: (pcs (tog c q) r).tail := rfl
theorem one_cons (q : Bool) (c : UInt8) (r : List UInt8) : one q (c :: r) = if c = 44 ∧ q = false then ([], some r) else (c :: (one (tog c q) r).1, (one (tog c q) r).2) := rfl
theorem pcs_one : ∀ (s : List UInt8) (q : Bool), pcs q s = (one q s).1 :: (match (one q s).2 with | none => [] | some r => pcs false r) := by
  intro s
  induction s with
  | nil => intro q; rfl
  | cons c s ih =>
    intro q
    rw [pcs_cons, one_cons]
    by_cases h : c = 44 ∧ q = false
    · rw [if_pos h, if_pos h]
    · rw [if_neg h, if_neg h, ih]; rfl
theorem one_back : ∀ (s : List UInt8) (q : Bool), s = (one q s).1 ++ (match (one q s).2 with | none => [] | some r => 44 :: r) := by
  intro s
  induction s with
  | nil => intro q; rfl
  | cons c s ih =>
    intro q
    rw [one_cons]
    by_cases h : c = 44 ∧ q = false
    · rw [if_pos h, h.1]; rfl
    · rw [if_neg h, List.cons_append, ← ih]
theorem one_pass : ∀ (a s : List UInt8), (∀ c ∈ a, c ≠ 44 ∧ c ≠ 34) → one false (a ++ s) = (a ++ (one false s).1, (one false s).2) := by
  intro a
  induction a with
  | nil => intro s _; rfl
  | cons c a ih =>
    intro s h
    have h1 := h c (by simp)
    have e : tog c false = false := by simp [tog, h1.2]
    rw [List.cons_append, one_cons, if_neg (fun x => h1.1 x.1), e, ih s (fun x hx => h x (List.mem_cons_of_mem _ hx))]
    rfl
theorem one_in : ∀ (body s : List UInt8), 34 ∉ body → one true (body ++ 34 :: s) = (body ++ 34 :: (one false s).1, (one false s).2) := by
  intro body
  induction body with
  | nil => intro s _; rw [List.nil_append, one_cons, if_neg (by simp)]; rfl
  | cons c body ih =>
    intro s h
    have h1 : c ≠ 34 := fun e => h (by simp [e])
    have e : tog c true = true := by simp [tog, h1]
    rw [List.cons_append, one_cons, if_neg (by simp), e, ih s (fun hm => h (List.mem_cons_of_mem _ hm))]
    rfl
theorem blank_ne {c : UInt8} (h : blank c = true) : c ≠ 44 ∧ c ≠ 34 := by
  constructor <;> rintro rfl <;> revert h <;> decide
theorem one_mark {a body s : List UInt8} (ha : Blank a) (hb : 34 ∉ body) : one false (a ++ (34 :: (body ++ 34 :: s))) = (a ++ (34 :: (body ++ 34 :: (one false s).1)), (one false s).2) := by
  rw [one_pass _ _ (fun c hc => blank_ne (ha c hc))]
  have : one false (34 :: (body ++ 34 :: s)) = (34 :: (body ++ 34 :: (one false s).1), (one false s).2) := by
    rw [one_cons, if_neg (by simp), show tog 34 false = true from rfl, one_in _ _ hb]
  rw [this]
def IsTag (t body : List UInt8) : Prop := t = 34 :: (body ++ [34]) ∧ 34 ∉ body ∧ body.length ≤ 10 ∧ plainL body = true
noncomputable def isTag (t : List UInt8) : Bool := @decide (∃ body, IsTag t body) (Classical.propDecidable _)
theorem isTag_iff {t : List UInt8} : isTag t = true ↔ ∃ body, IsTag t body := by unfold isTag; exact @decide_eq_true_iff _ (Classical.propDecidable _)
theorem tight_tag (body : List UInt8) : Tight (34 :: (body ++ [34])) := .inr ⟨⟨34, body ++ [34], rfl, rfl⟩, ⟨34 :: body, 34, rfl, rfl⟩⟩
def AtTag (x body rest : List UInt8) (least : Nat) : Prop := x = 34 :: (body ++ 34 :: rest) ∧ 34 ∉ body ∧ least ≤ body.length ∧ body.length ≤ 10 ∧ plainL body = true
theorem first_eq {b b' r r' : List UInt8} (h : b ++ 34 :: r = b' ++ 34 :: r') (hb : (34 : UInt8) ∉ b) (hb' : (34 : UInt8) ∉ b') : b = b' ∧ r = r' := by
  have e1 := index_hit (u := b ++ 34 :: r) rfl hb
  have e2 := index_hit (u := b ++ 34 :: r) h hb'
  have hl : b.length = b'.length := by omega
  obtain ⟨h1, h2⟩ := List.append_inj h hl
  exact ⟨h1, by injection h2⟩
theorem no_tag {body y : List UInt8} (hb : (34 : UInt8) ∉ body) (hy : y ≠ []) : isTag (34 :: (body ++ 34 :: y)) = false := by
  cases h : isTag (34 :: (body ++ 34 :: y)) with
  | false => rfl
  | true =>
    obtain ⟨b', h1, h2, _, _⟩ := isTag_iff.1 h
    injection h1 with _ h1
    exact absurd (first_eq h1 hb h2).2 hy
noncomputable def tagsOut (out : List ByteArray) (ps : List (List UInt8)) : List ByteArray × Bool :=
  if (ps.all fun p => isTag (trm p)) = true ∧ out.length + ps.length ≤ 5 then (out ++ ps.map (fun p => ofL (trm p)), true) else ([], false)
theorem implTagAt_ok {s : ByteArray} {body rest : List UInt8} {least : Nat} (hs : s.size ≤ 1048576) (h : AtTag (bl s) body rest least) : Ev (fun k => impl_tagAt.f k s (least : Int)) (ofL (34 :: (body ++ [34])), ofL rest, true) := by
  obtain ⟨h1, h2, h3, h4, h5⟩ := h
  have hl := bl_len s
  rw [h1] at hl
  simp only [List.length_cons, List.length_append] at hl
  unfold impl_tagAt.f strings_CutPrefix.f
  have e1 : (⟨#[34]⟩ : ByteArray).data.toList = [34] := rfl
  have e2 : s.data.toList = 34 :: (body ++ 34 :: rest) := h1
  have e3 : (ofL (body ++ 34 :: rest)).data.toList = body ++ 34 :: rest := bl_ofL _
  simp only [e1, e2, (pre_cons 34 (body ++ 34 :: rest)).1, (pre_cons 34 (body ++ 34 :: rest)).2, Option.bind_some, strings_Cut.f, e3, cut_hit rfl h2, size_ofL, List.length_append, List.length_cons, if_pos (show body.length + (rest.length + 1) < 4294967281 by omega), if_true, implIn]
  rw [show decide ((least : Int) ≤ ((body.length : Nat) : Int) ∧ ((body.length : Nat) : Int) ≤ 10) = true from decide_eq_true ⟨by omega, by omega⟩]
  simp only [if_true]
  have hp := implPlain (s := ofL body) (by rw [size_ofL, maxLen_eq]; omega)
  rw [bl_ofL, h5] at hp
  refine Ev.bind hp ?_
  have hw : wrap64 (((body.length : Nat) : Int) + 2) = ((body.length + 2 : Nat) : Int) := by rw [wrap_id (by omega) (by omega)]; omega
  simp only [if_true, hw, if_pos (nonneg_at _), if_pos (show ((body.length + 2 : Nat) : Int) ≤ (s.size : Int) by omega), Int.toNat_natCast]
  have hx : s.extract 0 (body.length + 2) = ofL (34 :: (body ++ [34])) := by
    apply bl_inj
    rw [bl_extract, h1, bl_ofL]
    have : (34 :: (body ++ 34 :: rest)) = (34 :: (body ++ [34])) ++ rest := by simp
    rw [this, List.take_append_of_le_length (by simp), List.take_of_length_le (by simp)]
    rfl
  rw [hx]
  exact Ev.now _
theorem implTagAt_no {s : ByteArray} {least : Nat} (hs : s.size ≤ 1048576) (h : ∀ body rest, ¬ AtTag (bl s) body rest least) : Ev (fun k => impl_tagAt.f k s (least : Int)) ((⟨#[]⟩ : ByteArray), (⟨#[]⟩ : ByteArray), false) := by
  unfold impl_tagAt.f strings_CutPrefix.f
  have e1 : (⟨#[34]⟩ : ByteArray).data.toList = [34] := rfl
  by_cases c0 : ∃ u, bl s = 34 :: u
  · obtain ⟨u, hu⟩ := c0
    have e2 : s.data.toList = 34 :: u := hu
    have hl := bl_len s
    rw [hu] at hl
    simp only [List.length_cons] at hl
    have e3 : (ofL u).data.toList = u := bl_ofL _
    simp only [e1, e2, (pre_cons 34 u).1, (pre_cons 34 u).2, Option.bind_some, strings_Cut.f, e3, size_ofL, if_pos (show u.length < 4294967281 by omega), if_true]
    by_cases c1 : (34 : UInt8) ∈ u
    · obtain ⟨body, rest, h1, h2⟩ := first_of c1
      simp only [cut_hit h1 h2, if_true, size_ofL, implIn, Option.bind_some]
      have hbl : body.length ≤ u.length := by rw [h1]; simp
      by_cases c2 : (least : Int) ≤ ((body.length : Nat) : Int) ∧ ((body.length : Nat) : Int) ≤ 10
      · simp only [c2, and_self, decide_true, if_true]
        have hp := implPlain (s := ofL body) (by rw [size_ofL, maxLen_eq]; omega)
        rw [bl_ofL] at hp
        refine Ev.bind hp ?_
        have c3 : plainL body = false := by
          cases c3 : plainL body with
          | false => rfl
          | true => exact absurd ⟨by rw [hu, h1], h2, by omega, by omega, c3⟩ (h body rest)
        simp only [c3, Bool.false_eq_true, if_false]
        exact Ev.now _
      · simp only [c2, decide_false, Bool.false_eq_true, if_false]
        exact Ev.now _
    · simp only [cut_miss c1, Bool.false_eq_true, if_false]
      exact Ev.now _
  · have e4 := pre_not (u := bl s) (c := 34) (fun v e => c0 ⟨v, e⟩)
    have e5 : Lib.hasPrefix s.data.toList [34] = false := e4.1
    have hl := bl_len s
    have e6 : (Lib.trimPrefix s.data.toList [34]) = bl s := e4.2
    simp only [e1, e5, e6, Option.bind_some, strings_Cut.f, size_ofL, if_pos (show (bl s).length < 4294967281 by omega), Bool.false_eq_true, if_false]
    exact Ev.now _
end Go.Proofs.YtigoeooelfeopaaDoor.L

/- Lists of marks: the reference's split and the program's reading come to the same. No condition. -/
set_option linter.unusedSimpArgs false
set_option linter.unusedVariables false
namespace Go.Proofs.YtigoeooelfeopaaDoor.L
open Go.RowKit Go.Proofs.YtigoeooelfeopaaDoorW.PrintWords Go.Proofs.YtigoeooelfeopaaDoorW.PrintLast Go.Proofs.YtigoeooelfeopaaDoor.Q
theorem isTag_ends (c d : UInt8) (mid : List UInt8) : isTag (c :: (mid ++ [d])) = (decide (c = 34) && (decide (d = 34) && (decide (mid.length ≤ 10) && (plainL mid && decide (34 ∉ mid))))) := by
  cases h : isTag (c :: (mid ++ [d])) with
  | true =>
    obtain ⟨body, h1, h2, h3, h4⟩ := isTag_iff.1 h
    injection h1 with e1 h1
    obtain ⟨e2, e3⟩ := List.append_inj' h1 rfl
    injection e3 with e3 _
    subst e1; subst e2; subst e3
    simp [h2, h3, h4]
  | false =>
    symm
    apply Bool.eq_false_iff.2
    intro h2
    simp only [Bool.and_eq_true, decide_eq_true_eq] at h2
    obtain ⟨e1, e2, e3, e4, e5⟩ := h2
    subst e1; subst e2
    have := isTag_iff.2 ⟨mid, rfl, e5, e3, e4⟩
    rw [h] at this
    cases this
theorem isTag_short {t : List UInt8} (h : t.length < 2) : isTag t = false := by
  cases e : isTag t with
  | false => rfl
  | true =>
    obtain ⟨body, h1, _⟩ := isTag_iff.1 e
    rw [h1] at h
    simp at h
    omega
theorem cut_mid (done cur suf : List UInt8) : ((done ++ (cur ++ suf)).take (done ++ cur).length).drop done.length = cur := by
  rw [← List.append_assoc, List.take_left, List.drop_left]
theorem eq34 (c : UInt8) : ((c.toNat : Int) = 34) = (c = 34) := eq_byte c 34 (by omega)
theorem eq44 (c : UInt8) : ((c.toNat : Int) = 44) = (c = 44) := eq_byte c 44 (by omega)
theorem tagLoop {s : ByteArray} (hs : s.size ≤ maxLen) : ∀ (suf pre : List UInt8) (d : UInt8), bl s = (34 :: pre) ++ (suf ++ [d]) → Ev (fun k => spec_l9Tag.l0 k s ((34 :: pre : List UInt8).length : Int)) (decide (34 ∉ suf)) := by
  intro suf
  induction suf with
  | nil =>
    intro pre d h
    obtain ⟨_, h2, _, _⟩ := tl_last (s := s) (r := 34 :: pre) (c := d) (by simpa using h) hs
    refine Ev.step (fun k => spec_l9Tag.l0.eq_2 ..) ?_
    simp only [h2, if_neg (Int.lt_irrefl _)]
    exact Ev.now _
  | cons c suf ih =>
    intro pre d h
    have h' : bl s = (34 :: pre) ++ c :: (suf ++ [d]) := by rw [h]; rfl
    obtain ⟨_, h2, _, _⟩ := tl_last (s := s) (r := 34 :: pre ++ c :: suf) (c := d) (by rw [h']; simp) hs
    refine Ev.step (fun k => spec_l9Tag.l0.eq_2 ..) ?_
    simp only [h2, if_pos (show (((34 :: pre : List UInt8).length : Nat) : Int) < (((34 :: pre ++ c :: suf : List UInt8).length : Nat) : Int) by simp only [List.length_append, List.length_cons]; omega), if_pos (nonneg_at _), if_pos (blt_at h'), bt_at' h', eq34, bnext_at h' hs]
    by_cases e : c = 34
    · simp only [e, if_true, List.mem_cons, true_or, not_true_eq_false, decide_false]
      exact Ev.now _
    · have e' : ¬ (34 : UInt8) = c := fun x => e x.symm
      simp only [e, if_false, List.mem_cons, e', false_or]
      exact ih (pre ++ [c]) d (by rw [h']; simp)
theorem specTag {s : ByteArray} (hs : s.size ≤ 1048576) : Ev (fun k => spec_l9Tag.f k s) (isTag (bl s)) := by
  have hm : s.size ≤ maxLen := by rw [maxLen_eq]; omega
  have hl := bl_len s
  have hj : Ev (fun k => spec_l9Tag.j0 k s true) false := by
    refine Ev.step (fun k => spec_l9Tag.j0.eq_2 ..) ?_
    simp only [if_true]
    exact Ev.now _
  unfold spec_l9Tag.f
  by_cases c0 : (s.size : Int) < 2
  · simp only [if_pos c0]
    rw [isTag_short (by omega)]
    exact hj
  · simp only [if_neg c0]
    obtain ⟨c, r, h1⟩ : ∃ c r, bl s = c :: r := by
      cases h : bl s with
      | nil => rw [h] at hl; simp at hl; omega
      | cons c r => exact ⟨c, r, rfl⟩
    have hr : r ≠ [] := fun e => by rw [h1, e] at hl; simp at hl; omega
    obtain ⟨mid, d, rfl⟩ : ∃ mid d, r = mid ++ [d] := ⟨r.dropLast, r.getLast hr, (List.dropLast_concat_getLast hr).symm⟩
    obtain ⟨g1, g2, _⟩ := tl_cons h1
    obtain ⟨_, g3, g4, _⟩ := tl_last (s := s) (r := c :: mid) (c := d) (by rw [h1]; rfl) hm
    rw [h1] at hl
    simp only [List.length_cons, List.length_append, List.length_nil] at hl
    rw [h1, isTag_ends]
    simp only [if_pos g1, g2, g3, g4, eq34, if_pos (nonneg_at _), if_pos (show (((c :: mid : List UInt8).length : Nat) : Int) < (s.size : Int) by simp only [List.length_cons]; omega)]
    by_cases c1 : c = 34
    · simp only [if_pos c1]
      by_cases c2 : d = 34
      · simp only [if_pos c2]
        by_cases c3 : (s.size : Int) > 12
        · simp only [if_pos c3]
          rw [show decide (mid.length ≤ 10) = false from decide_eq_false (by omega)]
          simp only [Bool.false_and, Bool.and_false]
          exact hj
        · simp only [if_neg c3]
          refine Ev.bind (specPlain hm) ?_
          have hp : plainL (bl s) = plainL mid := by
            rw [h1, c1, c2]
            simp only [plainL, List.all_cons, List.all_append, List.all_nil, Bool.and_true]
            rw [show inB 32 126 34 = true by decide]
            simp
          rw [hp, decide_eq_true c1, decide_eq_true c2, show decide (mid.length ≤ 10) = true from decide_eq_true (by omega)]
          simp only [Bool.true_and]
          cases hq : plainL mid with
          | false => simp only [Bool.not_false, Bool.false_and]; exact hj
          | true =>
            simp only [Bool.not_true, Bool.true_and]
            refine Ev.step (fun k => spec_l9Tag.j0.eq_2 ..) ?_
            simp only [Bool.false_eq_true, if_false]
            have := tagLoop (s := s) hm mid [] d (by rw [h1, c1]; rfl)
            simpa using this
      · simp only [if_neg c2]
        rw [decide_eq_false c2]
        simp only [Bool.false_and, Bool.and_false]
        exact hj
    · simp only [if_neg c1]
      rw [decide_eq_false c1]
      simp only [Bool.false_and]
      exact hj
theorem splitLoop {s : ByteArray} (hs : s.size ≤ 1048576) : ∀ (suf cur done : List UInt8) (out : List ByteArray) (q : Bool), bl s = done ++ (cur ++ suf) → out.length ≤ done.length →
    Ev (fun k => spec_l9Split.l0 k s out (done.length : Int) q ((done ++ cur).length : Int)) (out ++ ((cur ++ (pcs q suf).headD []) :: (pcs q suf).tail).map (fun p => ofL (trm p))) := by
  have hm : s.size ≤ maxLen := by rw [maxLen_eq]; omega
  intro suf
  induction suf with
  | nil =>
    intro cur done out q h ho
    have hl := bl_len s
    rw [h] at hl
    simp only [List.append_nil, List.length_append] at hl
    have hx : bl (s.extract done.length (done ++ cur).length) = cur := by rw [bl_extract, h, cut_mid]
    have ht := specTrim (s := s.extract done.length (done ++ cur).length) (by rw [← bl_len, hx, maxLen_eq]; omega)
    rw [hx] at ht
    refine Ev.step (fun k => spec_l9Split.l0.eq_2 ..) ?_
    simp only [if_pos (show (((done ++ cur).length : Nat) : Int) ≤ (s.size : Int) by simp only [List.length_append]; omega), if_pos (show (((done ++ cur).length : Nat) : Int) = (s.size : Int) by simp only [List.length_append]; omega)]
    refine Ev.step (fun k => spec_l9Split.j1.eq_2 ..) ?_
    simp only [if_true, if_pos (nonneg_at _), if_pos (show ((done.length : Nat) : Int) ≤ (((done ++ cur).length : Nat) : Int) by simp only [List.length_append]; omega), if_pos (show (((done ++ cur).length : Nat) : Int) ≤ (s.size : Int) by simp only [List.length_append]; omega), Int.toNat_natCast]
    refine Ev.bind ht ?_
    simp only [if_pos (show out.length < 8796093022208 by omega)]
    refine Ev.step (fun k => spec_l9Split.l0.eq_2 ..) ?_
    have hw : wrap64 ((((done ++ cur).length : Nat) : Int) + 1) = (((done ++ cur).length : Nat) : Int) + 1 := by simp only [List.length_append]; exact wrap_id (by omega) (by omega)
    simp only [hw, if_neg (show ¬ (((done ++ cur).length : Nat) : Int) + 1 ≤ (s.size : Int) by simp only [List.length_append]; omega)]
    simp only [pcs, List.headD_cons, List.tail_cons, List.append_nil, List.map_cons, List.map_nil]
    exact Ev.now _
  | cons c suf ih =>
    intro cur done out q h ho
    have hl := bl_len s
    rw [h] at hl
    simp only [List.length_append, List.length_cons] at hl
    have h' : bl s = (done ++ cur) ++ c :: suf := by rw [h]; simp
    have hlt := blt_at h'
    refine Ev.step (fun k => spec_l9Split.l0.eq_2 ..) ?_
    simp only [if_pos (show (((done ++ cur).length : Nat) : Int) ≤ (s.size : Int) by omega), if_neg (show ¬ (((done ++ cur).length : Nat) : Int) = (s.size : Int) by omega), if_pos (nonneg_at _), if_pos hlt, bt_at' h', eq44]
    have go : c ≠ 44 ∨ q = true → Ev (fun k => spec_l9Split.j1 k s out (done.length : Int) q ((done ++ cur).length : Int) false) (out ++ ((cur ++ (pcs q (c :: suf)).headD []) :: (pcs q (c :: suf)).tail).map (fun p => ofL (trm p))) := by
      intro hc
      refine Ev.step (fun k => spec_l9Split.j1.eq_2 ..) ?_
      simp only [Bool.false_eq_true, if_false, if_pos (nonneg_at _), if_pos hlt, bt_at' h', eq34, bnext_at h' hm]
      have e : pcs q (c :: suf) = (c :: (pcs (tog c q) suf).headD []) :: (pcs (tog c q) suf).tail := by
        rw [pcs_cons, if_neg]
        rintro ⟨e1, e2⟩
        rcases hc with hc | hc
        · exact hc e1
        · rw [e2] at hc; cases hc
      rw [e]
      have i1 := ih (cur ++ [c]) done out (tog c q) (by rw [h]; simp) ho
      simp only [List.headD_cons, List.tail_cons, List.append_assoc, List.singleton_append] at i1 ⊢
      by_cases c3 : c = 34
      · simp only [if_pos c3]
        simp only [tog, if_pos c3] at i1 ⊢
        exact i1
      · simp only [if_neg c3]
        simp only [tog, if_neg c3] at i1 ⊢
        exact i1
    by_cases c1 : c = 44
    · simp only [if_pos c1]
      cases q with
      | true => exact go (.inr rfl)
      | false =>
        have hx : bl (s.extract done.length (done ++ cur).length) = cur := by rw [bl_extract, h, cut_mid]
        have ht := specTrim (s := s.extract done.length (done ++ cur).length) (by rw [← bl_len, hx, maxLen_eq]; omega)
        rw [hx] at ht
        simp only [Bool.not_false]
        refine Ev.step (fun k => spec_l9Split.j1.eq_2 ..) ?_
        simp only [if_true, if_pos (nonneg_at _), if_pos (show ((done.length : Nat) : Int) ≤ (((done ++ cur).length : Nat) : Int) by simp only [List.length_append]; omega), if_pos (show (((done ++ cur).length : Nat) : Int) ≤ (s.size : Int) by omega), Int.toNat_natCast]
        refine Ev.bind ht ?_
        simp only [if_pos (show out.length < 8796093022208 by omega), bnext_at h' hm]
        have i1 := ih [] (done ++ cur ++ [c]) (out ++ [ofL (trm cur)]) false (by rw [h']; simp) (by simp only [List.length_append, List.length_cons, List.length_nil]; omega)
        rw [pcs_cons, if_pos ⟨c1, rfl⟩]
        simp only [List.append_nil, List.nil_append, List.headD_cons, List.tail_cons, List.map_cons, List.append_assoc, List.singleton_append] at i1 ⊢
        have e2 : (pcs false suf).headD [] :: (pcs false suf).tail = pcs false suf := by rw [pcs_one]; rfl
        rw [← List.map_cons (f := fun p => ofL (trm p)) (a := (pcs false suf).headD []), e2] at i1
        exact i1
    · simp only [if_neg c1]
      exact go (.inl c1)
theorem specSplit {s : ByteArray} (hs : s.size ≤ 1048576) : Ev (fun k => spec_l9Split.f k s) ((pcs false (bl s)).map (fun p => ofL (trm p))) := by
  have := splitLoop hs (bl s) [] [] [] false (by simp) (Nat.le_refl _)
  have e2 : (pcs false (bl s)).headD [] :: (pcs false (bl s)).tail = pcs false (bl s) := by rw [pcs_one]; rfl
  simp only [List.nil_append, e2] at this
  unfold spec_l9Split.f
  simpa using this
theorem pcs_length : ∀ (s : List UInt8) (q : Bool), (pcs q s).length ≤ s.length + 1 := by
  intro s
  induction s with
  | nil => intro q; exact Nat.le_refl _
  | cons c s ih =>
    intro q
    rw [pcs_cons]
    split
    · have := ih false; simp only [List.length_cons]; omega
    · have := ih (tog c q); simp only [List.length_cons, List.length_tail]; omega
theorem pcs_sizes : ∀ (s : List UInt8) (q : Bool) (p : List UInt8), p ∈ pcs q s → p.length ≤ s.length := by
  intro s
  induction s with
  | nil => intro q p hp; simp only [pcs, List.mem_singleton] at hp; rw [hp]; exact Nat.le_refl _
  | cons c s ih =>
    intro q p hp
    rw [pcs_cons] at hp
    split at hp
    · rcases List.mem_cons.1 hp with rfl | hp
      · simp
      · have := ih _ _ hp; simp only [List.length_cons]; omega
    · have e2 : ∀ q, pcs q s = (pcs q s).headD [] :: (pcs q s).tail := fun q => by rw [pcs_one]; rfl
      rcases List.mem_cons.1 hp with rfl | hp
      · have := ih (tog c q) ((pcs (tog c q) s).headD []) (by rw [e2]; exact List.mem_cons_self); simp only [List.length_cons]; omega
      · have := ih (tog c q) p (by rw [e2]; exact List.mem_cons_of_mem _ hp); simp only [List.length_cons]; omega
theorem specTags {s : ByteArray} (hs : s.size ≤ 1048576) : Ev (fun k => spec_ParseTags.f k s) (if bl s = [42] then ([(⟨#[42]⟩ : ByteArray)], true) else tagsOut [] (pcs false (bl s))) := by
  unfold spec_ParseTags.f
  simp only [tl_eq]
  by_cases c0 : bl s = [42]
  · simp only [if_pos c0]; exact Ev.now _
  simp only [if_neg c0]
  refine Ev.bind (specSplit hs) ?_
  have hl := bl_len s
  have hp := pcs_length (bl s) false
  have key : ∀ (suf pre : List (List UInt8)), pcs false (bl s) = pre ++ suf → (pre.all fun p => isTag (trm p)) = true → Ev (fun k => spec_ParseTags.l0 k ((pcs false (bl s)).map (fun p => ofL (trm p))) (pre.length : Int)) (tagsOut [] (pcs false (bl s))) := by
    intro suf
    induction suf with
    | nil =>
      intro pre h ha
      rw [List.append_nil] at h
      refine Ev.step (fun k => spec_ParseTags.l0.eq_2 ..) ?_
      simp only [List.length_map, if_neg (show ¬ ((pre.length : Nat) : Int) < ((pcs false (bl s)).length : Int) by rw [h]; omega)]
      unfold tagsOut
      by_cases c1 : ((pcs false (bl s)).length : Int) > 5
      · simp only [if_pos c1]
        rw [if_neg (by rintro ⟨_, h2⟩; simp only [List.length_nil] at h2; omega)]
        exact Ev.now _
      · simp only [if_neg c1]
        rw [if_pos ⟨by rw [h]; exact ha, by simp only [List.length_nil]; omega⟩]
        exact Ev.now _
    | cons p suf ih =>
      intro pre h ha
      have h2 : (pcs false (bl s)).map (fun p => ofL (trm p)) = pre.map (fun p => ofL (trm p)) ++ ofL (trm p) :: suf.map (fun p => ofL (trm p)) := by rw [h]; simp
      have hl2 : ((pcs false (bl s)).map (fun p => ofL (trm p))).length ≤ maxLen := by rw [List.length_map, maxLen_eq]; omega
      have e1 : ((pre.map (fun p => ofL (trm p))).length : Nat) = pre.length := List.length_map _
      have r1 := rd_at ByteArray.empty h2
      have r2 := lt_at h2
      have r3 := next_at h2 hl2
      rw [e1] at r1 r2 r3
      refine Ev.step (fun k => spec_ParseTags.l0.eq_2 ..) ?_
      simp only [if_pos r2, if_pos (nonneg_at _), r1]
      have hz : p.length ≤ (bl s).length := pcs_sizes _ _ _ (by rw [h]; simp)
      have hz2 := trm_length p
      have ht := specTag (s := ofL (trm p)) (by rw [size_ofL]; omega)
      rw [bl_ofL] at ht
      refine Ev.bind ht ?_
      cases hq : isTag (trm p) with
      | false =>
        simp only [Bool.false_eq_true, if_false]
        unfold tagsOut
        rw [if_neg (by rintro ⟨h3, _⟩; rw [h] at h3; simp [hq] at h3)]
        exact Ev.now _
      | true =>
        simp only [if_true, r3]
        have := ih (pre ++ [p]) (by rw [h]; simp) (by simp [ha, hq])
        simpa using this
  have := key _ [] rfl rfl
  simpa using this
theorem implSame {r b : List UInt8} (hb : Blank b) (hl : (r ++ b).length ≤ 1048576) (out : List ByteArray) (k : Nat) : impl_ParseTags.l0 k (ofL r) out = impl_ParseTags.l0 k (ofL (r ++ b)) out := by
  rw [List.length_append] at hl
  cases k with
  | zero => rw [impl_ParseTags.l0.eq_1, impl_ParseTags.l0.eq_1]
  | succ k =>
    rw [impl_ParseTags.l0.eq_2, impl_ParseTags.l0.eq_2, implTrim (s := ofL r) (by rw [size_ofL, maxLen_eq]; omega), implTrim (s := ofL (r ++ b)) (by rw [size_ofL, maxLen_eq, List.length_append]; omega), bl_ofL, bl_ofL, trm_right hb]
theorem implLoop : ∀ (n : Nat) (x : List UInt8) (out : List ByteArray), x.length ≤ n → x.length ≤ 1048576 → Ev (fun k => impl_ParseTags.l0 k (ofL x) out) (tagsOut out (pcs false x)) := by
  intro n
  induction n with
  | zero =>
    intro x out hn hx
    obtain rfl := List.length_eq_zero_iff.1 (Nat.le_zero.1 hn)
    refine Ev.step (fun k => impl_ParseTags.l0.eq_2 ..) ?_
    simp only [implTrim (s := ofL []) (by rw [size_ofL, maxLen_eq]; simp), bl_ofL, trm_blank (l := []) (fun _ h => by simp at h), Option.bind_some]
    have hno := implTagAt_no (s := ofL []) (least := 0) (by rw [size_ofL]; simp) (fun body rest h => by have := h.1; rw [bl_ofL] at this; cases this)
    refine Ev.bind hno ?_
    simp only [Bool.false_eq_true, if_false]
    refine Ev.step (fun k => impl_ParseTags.j1.eq_2 ..) ?_
    simp only [if_true]
    have : tagsOut out (pcs false []) = ([], false) := by
      unfold tagsOut
      rw [if_neg]
      rintro ⟨h1, _⟩
      simp only [pcs, List.all_cons, List.all_nil, Bool.and_true, trm_blank (l := []) (fun _ h => by simp at h)] at h1
      rw [isTag_short (by simp)] at h1
      cases h1
    rw [this]
    exact Ev.now _
  | succ n ih =>
    intro x out hn hx
    obtain ⟨a, b, hxs, ha, hb, hti, _⟩ := trm_split x
    have hlt := trm_length x
    refine Ev.step (fun k => impl_ParseTags.l0.eq_2 ..) ?_
    simp only [implTrim (s := ofL x) (by rw [size_ofL, maxLen_eq]; omega), bl_ofL, Option.bind_some]
    by_cases c0 : ∃ body rest, AtTag (trm x) body rest 0
    · obtain ⟨body, rest, hat⟩ := c0
      have hok := implTagAt_ok (s := ofL (trm x)) (least := 0) (by rw [size_ofL]; omega) (by rw [bl_ofL]; exact hat)
      obtain ⟨h1, h2, _, h4, h5⟩ := hat
      refine Ev.bind hok ?_
      simp only [if_true]
      have hx2 : x = a ++ (34 :: (body ++ 34 :: (rest ++ b))) := by
        have hxs' := hxs
        rw [h1] at hxs'
        rw [hxs']
        simp
      have hlen := congrArg List.length hx2
      simp only [List.length_append, List.length_cons] at hlen
      have hone := one_mark (s := rest ++ b) ha h2
      rw [← hx2] at hone
      have hpcs := pcs_one x false
      rw [hone] at hpcs
      have hist : isTag (34 :: (body ++ [34])) = true := isTag_iff.2 ⟨body, rfl, h2, h4, h5⟩
      refine Ev.step (fun k => impl_ParseTags.j1.eq_2 ..) ?_
      by_cases c5 : (out.length : Int) ≥ 5
      · simp only [c5, decide_true, if_true]
        have : tagsOut out (pcs false x) = ([], false) := by
          unfold tagsOut
          rw [if_neg]
          rintro ⟨_, h6⟩
          rw [hpcs, List.length_cons] at h6
          omega
        rw [this]
        exact Ev.now _
      · simp only [c5, decide_false, Bool.false_eq_true, if_false, if_pos (show out.length < 8796093022208 by omega), Option.bind_some]
        simp only [implTrim (s := ofL rest) (by rw [size_ofL, maxLen_eq]; omega), bl_ofL, Option.bind_some, tl_eq]
        obtain ⟨a', b', hr, ha', hb', hti', _⟩ := trm_split rest
        cases ht : trm rest with
        | nil =>
          simp only [if_true]
          have hbz : Blank (rest ++ b) := by
            rw [ht, List.append_nil] at hr
            rw [hr]
            exact (ha'.append hb').append hb
          have hz : one false (rest ++ b) = (rest ++ b, none) := by
            have := one_pass (rest ++ b) [] (fun c hc => blank_ne (hbz c hc))
            rw [List.append_nil] at this
            rw [this]
            show ((rest ++ b) ++ [], none) = _
            rw [List.append_nil]
          rw [hz] at hpcs
          have htp : trm (a ++ (34 :: (body ++ 34 :: (rest ++ b)))) = 34 :: (body ++ [34]) := by
            have := trm_of ha hbz (tight_tag body)
            simpa using this
          have : tagsOut out (pcs false x) = (out ++ [ofL (34 :: (body ++ [34]))], true) := by
            unfold tagsOut
            rw [hpcs]
            simp only [List.all_cons, List.all_nil, Bool.and_true, htp, hist, List.length_cons, List.length_nil, List.map_cons, List.map_nil]
            rw [if_pos ⟨trivial, by omega⟩]
          rw [this]
          exact Ev.now _
        | cons c r =>
          have hcb : blank c = false := by
            rcases hti' with h | ⟨⟨c', r', h, hc'⟩, _⟩
            · rw [ht] at h; cases h
            · rw [ht] at h; injection h with h6 h7; rw [h6]; exact hc'
          obtain ⟨g1, g2, g3⟩ := tl_cons (s := ofL (c :: r)) (c := c) (r := r) (bl_ofL _)
          simp only [List.cons_ne_nil, if_false, if_pos g1, g2, eq44]
          rw [ht] at hr
          have hrl := congrArg List.length hr
          simp only [List.length_append, List.length_cons] at hrl
          by_cases c1 : c = 44
          · subst c1
            simp only [if_true, if_pos (show (1 : Int) ≤ ((ofL ((44 : UInt8) :: r)).size : Int) by rw [size_ofL]; simp only [List.length_cons]; omega)]
            rw [of_bl g3]
            have hz : one false (rest ++ b) = (a', some (r ++ (b' ++ b))) := by
              have e1 : rest ++ b = a' ++ (44 :: (r ++ (b' ++ b))) := by
                have : rest ++ b = (a' ++ 44 :: r ++ b') ++ b := by rw [← hr]
                rw [this]; simp
              rw [e1, one_pass _ _ (fun c hc => blank_ne (ha' c hc)), one_cons, if_pos ⟨rfl, rfl⟩]
              show (a' ++ [], _) = _
              rw [List.append_nil]
            rw [hz] at hpcs
            have htp : trm (a ++ (34 :: (body ++ 34 :: a'))) = 34 :: (body ++ [34]) := by
              have := trm_of ha ha' (tight_tag body)
              simpa using this
            have hi := ih (r ++ (b' ++ b)) (out ++ [ofL (34 :: (body ++ [34]))]) (by simp only [List.length_append]; omega) (by simp only [List.length_append]; omega)
            have : tagsOut out (pcs false x) = tagsOut (out ++ [ofL (34 :: (body ++ [34]))]) (pcs false (r ++ (b' ++ b))) := by
              rw [hpcs]
              unfold tagsOut
              simp only [List.all_cons, htp, hist, Bool.true_and, List.length_cons, List.length_append, List.length_nil, List.map_cons, List.append_assoc, List.singleton_append]
              by_cases c9 : ((pcs false (r ++ (b' ++ b))).all fun p => isTag (trm p)) = true ∧ out.length + ((pcs false (r ++ (b' ++ b))).length + 1) ≤ 5
              · rw [if_pos c9, if_pos ⟨c9.1, by omega⟩]
              · rw [if_neg c9, if_neg (fun h => c9 ⟨h.1, by omega⟩)]
            rw [this]
            refine Ev.congr (fun k => ?_) hi
            exact implSame (hb'.append hb) (by simp only [List.length_append]; omega) _ k
          · simp only [c1, if_false]
            have hz : ∃ w, (one false (rest ++ b)).1 = a' ++ c :: w := by
              have e1 : rest ++ b = a' ++ (c :: (r ++ (b' ++ b))) := by
                have : rest ++ b = (a' ++ c :: r ++ b') ++ b := by rw [← hr]
                rw [this]; simp
              rw [e1, one_pass _ _ (fun c hc => blank_ne (ha' c hc)), one_cons, if_neg (fun h => c1 h.1)]
              exact ⟨_, rfl⟩
            obtain ⟨w, hw⟩ := hz
            have hno : isTag (trm (a ++ (34 :: (body ++ 34 :: (one false (rest ++ b)).1)))) = false := by
              rw [hw, trm_left ha]
              have e2 : (34 :: (body ++ 34 :: (a' ++ c :: w))) = (34 :: (body ++ 34 :: (a' ++ [c]))) ++ w := by simp
              have hti3 : Tight (34 :: (body ++ 34 :: (a' ++ [c]))) := .inr ⟨⟨34, _, rfl, rfl⟩, ⟨34 :: (body ++ 34 :: a'), c, by simp, hcb⟩⟩
              obtain ⟨rest2, b2, h7, _, _⟩ := trm_front (w := w) hti3 (by simp)
              rw [e2, h7]
              have e3 : (34 :: (body ++ 34 :: (a' ++ [c]))) ++ rest2 = 34 :: (body ++ 34 :: (a' ++ c :: rest2)) := by simp
              rw [e3]
              exact no_tag h2 (by simp)
            have : tagsOut out (pcs false x) = ([], false) := by
              unfold tagsOut
              rw [if_neg]
              rintro ⟨h8, _⟩
              rw [hpcs] at h8
              simp only [List.all_cons, hno, Bool.false_and] at h8
              cases h8
            rw [this]
            exact Ev.now _
    · have hno := implTagAt_no (s := ofL (trm x)) (least := 0) (by rw [size_ofL]; omega) (fun body rest h => c0 ⟨body, rest, by rw [bl_ofL] at h; exact h⟩)
      refine Ev.bind hno ?_
      simp only [Bool.false_eq_true, if_false]
      refine Ev.step (fun k => impl_ParseTags.j1.eq_2 ..) ?_
      simp only [if_true]
      have hnt : isTag (trm (one false x).1) = false := by
        cases h : isTag (trm (one false x).1) with
        | false => rfl
        | true =>
          exfalso
          obtain ⟨body, h1, h2, h3, h4⟩ := isTag_iff.1 h
          obtain ⟨a1, b1, h5, ha1, hb1, _, _⟩ := trm_split (one false x).1
          have h6 := one_back x false
          rw [h5, h1] at h6
          apply c0
          have h7 : ∃ w, x = a1 ++ ((34 :: (body ++ [34])) ++ w) := ⟨_, by rw [h6, List.append_assoc, List.append_assoc]⟩
          obtain ⟨w, h7⟩ := h7
          obtain ⟨rest, b2, h8, _, _⟩ := trm_front (w := w) (tight_tag body) (by simp)
          refine ⟨body, rest, ?_, h2, Nat.zero_le _, h3, h4⟩
          rw [h7, trm_left ha1, h8]
          simp
      have : tagsOut out (pcs false x) = ([], false) := by
        unfold tagsOut
        rw [if_neg]
        rintro ⟨h8, _⟩
        rw [pcs_one] at h8
        simp only [List.all_cons, hnt, Bool.false_and] at h8
        cases h8
      rw [this]
      exact Ev.now _
theorem implTags {s : ByteArray} (hs : s.size ≤ 1048576) : Ev (fun k => impl_ParseTags.f k s) (if bl s = [42] then ([(⟨#[42]⟩ : ByteArray)], true) else tagsOut [] (pcs false (bl s))) := by
  unfold impl_ParseTags.f
  simp only [tl_eq]
  by_cases c0 : bl s = [42]
  · simp only [if_pos c0]; exact Ev.now _
  simp only [if_neg c0]
  have hl := bl_len s
  have := implLoop (bl s).length (bl s) [] (Nat.le_refl _) (by omega)
  rw [ofL_bl] at this
  exact this
theorem bothTags {s : ByteArray} (hs : s.size ≤ 1048576) : ∃ r, Ev (fun k => spec_ParseTags.f k s) r ∧ Ev (fun k => impl_ParseTags.f k s) r ∧ r.1.length ≤ 5 ∧ (∀ t ∈ r.1, t.size ≤ 1048576) := by
  have hl := bl_len s
  refine ⟨_, specTags hs, implTags hs, ?_, ?_⟩
  · split
    · simp
    · unfold tagsOut
      split
      · rename_i h; simp only [List.nil_append, List.length_map]; have := h.2; simp only [List.length_nil] at this; omega
      · simp
  · intro t ht
    split at ht
    · simp only [List.mem_singleton] at ht; rw [ht]; decide
    · unfold tagsOut at ht
      split at ht
      · simp only [List.nil_append, List.mem_map] at ht
        obtain ⟨p, hp, rfl⟩ := ht
        have h1 := pcs_sizes _ _ _ hp
        have h2 := trm_length p
        rw [size_ofL]; omega
      · simp at ht
end Go.Proofs.YtigoeooelfeopaaDoor.L

/- The laws' own functions over lists of texts: their size, their copy, their equality. No condition. -/
set_option linter.unusedSimpArgs false
set_option linter.unusedVariables false
namespace Go.Proofs.YtigoeooelfeopaaDoor.L
open Go.RowKit Go.Proofs.YtigoeooelfeopaaDoorW.PrintWords Go.Proofs.YtigoeooelfeopaaDoorW.PrintLast Go.Proofs.YtigoeooelfeopaaDoor.Q
theorem eqS_loop {a b : List ByteArray} (hl : a.length ≤ maxLen) : ∀ (su sv pu pv : List ByteArray), a = pu ++ su → b = pv ++ sv → pu.length = pv.length → su.length = sv.length →
    Ev (fun k => laws_eqStringS.l0 k a b pu.length) (decide (su = sv)) := by
  intro su
  induction su with
  | nil =>
    intro sv pu pv h h' hp hs
    obtain rfl : sv = [] := by simpa using hs.symm
    refine Ev.step (fun k => laws_eqStringS.l0.eq_2 ..) ?_
    simp only [if_neg (end_at h)]
    exact Ev.now _
  | cons x su ih =>
    intro sv pu pv h h' hp hs
    cases sv with
    | nil => simp at hs
    | cons y sv =>
      refine Ev.step (fun k => laws_eqStringS.l0.eq_2 ..) ?_
      have h3 := rd_at ByteArray.empty h'
      have h4 := lt_at h'
      rw [← hp] at h3 h4
      by_cases e : x = y
      · subst e
        simp only [if_pos (lt_at h), if_pos (nonneg_at _), if_pos h4, rd_at _ h, h3, if_true, next_at h hl, List.cons.injEq, true_and]
        exact ih sv (pu ++ [x]) (pv ++ [x]) (snoc_at h) (snoc_at h') (by simp [hp]) (by simpa using hs)
      · simp only [if_pos (lt_at h), if_pos (nonneg_at _), if_pos h4, rd_at _ h, h3, ba_eq, if_neg e, List.cons.injEq, e, false_and, decide_false]
        exact Ev.now _
theorem eqS {a b : List ByteArray} (hl : a.length ≤ maxLen) : Ev (fun k => laws_eqStringS.f k a b) (decide (a = b)) := by
  unfold laws_eqStringS.f
  by_cases e : (a.length : Int) = (b.length : Int)
  · simp only [if_pos e]
    exact eqS_loop hl a b [] [] rfl rfl rfl (by omega)
  · simp only [if_neg e]
    rw [show decide (a = b) = false from decide_eq_false (fun h => e (by rw [h]))]
    exact Ev.now _
end Go.Proofs.YtigoeooelfeopaaDoor.L

/- The laws' marks on lists of texts: what they write, and that it is found again. No condition. -/
set_option linter.unusedSimpArgs false
set_option linter.unusedVariables false
namespace Go.Proofs.YtigoeooelfeopaaDoor.L
open Go.RowKit Go.Proofs.YtigoeooelfeopaaDoorW.PrintWords Go.Proofs.YtigoeooelfeopaaDoorW.PrintLast Go.Proofs.YtigoeooelfeopaaDoor.Q
theorem strOfNums_size (n : Int) : (strOfNums [n]).size = 1 := rfl
theorem mark_loop : ∀ (d : Nat) (k : Nat) (i : Int) (s : ByteArray), 0 ≤ i → i < 10 ^ d → i < 9223372036854775808 → d < k → s.size + d + 1 ≤ 9223372036854775807 → ∃ t, laws_markText.l0 k i s = some t := by
  intro d
  induction d with
  | zero =>
    intro k i s h0 h1 hb hk hs
    obtain ⟨k, rfl⟩ : ∃ m, k = m + 1 := ⟨k - 1, by omega⟩
    simp only [laws_markText.l0]
    rw [if_neg (by simp at h1; omega), if_pos (by omega)]
    exact ⟨_, rfl⟩
  | succ d ih =>
    intro k i s h0 h1 hb hk hs
    obtain ⟨k, rfl⟩ : ∃ m, k = m + 1 := ⟨k - 1, by omega⟩
    simp only [laws_markText.l0, Option.bind_some]
    by_cases hi : i > 0
    · rw [if_pos hi, if_pos (by rw [strOfNums_size]; omega)]
      have hd : Int.tdiv i 10 = i / 10 := Int.tdiv_eq_ediv_of_nonneg h0
      have hq : 0 ≤ i / 10 ∧ i / 10 ≤ i := ⟨by omega, by omega⟩
      rw [hd, wrap_id (by omega) (by omega)]
      refine ih k _ _ hq.1 ?_ (by omega) (by omega) ?_
      · rw [Int.pow_succ] at h1; omega
      · rw [ByteArray.size_append, strOfNums_size]; omega
    · rw [if_neg hi, if_pos (by omega)]
      exact ⟨_, rfl⟩
theorem mark_some {i : Int} (h0 : 0 ≤ i) (h1 : i < 1152921504606846976) : ∃ t, ∀ k, 32 ≤ k → laws_markText.f k i = some t := by
  have h : ∃ t, laws_markText.f 32 i = some t := by
    unfold laws_markText.f
    by_cases e : i ≤ 0
    · rw [if_pos e]; exact ⟨_, rfl⟩
    · rw [if_neg e]
      exact mark_loop 19 32 i _ h0 (by omega) (by omega) (by omega) (by show 0 + 19 + 1 ≤ _; omega)
  obtain ⟨t, ht⟩ := h
  exact ⟨t, fun k hk => at_rounds (fun k => laws_markText.mono i k) hk ht⟩
noncomputable def mt (i : Int) : ByteArray := by
  classical
  exact if h : 0 ≤ i ∧ i < 1152921504606846976 then Classical.choose (mark_some h.1 h.2) else ⟨#[]⟩
theorem mt_spec {i : Int} (h0 : 0 ≤ i) (h1 : i < 1152921504606846976) {k : Nat} (hk : 32 ≤ k) : laws_markText.f k i = some (mt i) := by
  unfold mt
  rw [dif_pos ⟨h0, h1⟩]
  exact Classical.choose_spec (mark_some h0 h1) k hk
theorem mt_ev {i : Int} (h0 : 0 ≤ i) (h1 : i < 1152921504606846976) : Ev (fun k => laws_markText.f k i) (mt i) := ⟨32, fun _ hk => mt_spec h0 h1 hk⟩
noncomputable def marks : Nat → Int → List ByteArray
  | 0, _ => []
  | n + 1, i => mt i :: marks n (i + 1)
theorem marks_length (n : Nat) (i : Int) : (marks n i).length = n := by
  induction n generalizing i with
  | zero => rfl
  | succ n ih => simp [marks, ih]
theorem markS {l : List ByteArray} (hl : l.length ≤ 1048576) {a : Int} (h0 : 0 ≤ a) (h1 : a ≤ 70368744177664) : Ev (fun k => laws_markStringS.f k l a) (a + l.length, marks l.length a) := by
  have key : ∀ (suf pre : List ByteArray) (x : List ByteArray) (i : Int), x = pre ++ suf → x.length ≤ 1048576 → 0 ≤ i → i + suf.length ≤ 70368745226240 → Ev (fun k => laws_markStringS.l0 k x i pre.length) (i + suf.length, pre ++ marks suf.length i) := by
    intro suf
    induction suf with
    | nil =>
      intro pre x i h hx h0 h1
      refine Ev.step (fun k => laws_markStringS.l0.eq_2 ..) ?_
      simp only [if_neg (end_at h)]
      rw [List.append_nil] at h
      rw [h]
      simp only [List.length_nil, Int.natCast_zero, Int.add_zero, marks, List.append_nil]
      exact Ev.now _
    | cons b suf ih =>
      intro pre x i h hx h0 h1
      rw [List.length_cons] at h1
      refine Ev.step (fun k => laws_markStringS.l0.eq_2 ..) ?_
      simp only [if_pos (lt_at h)]
      refine Ev.bind (mt_ev h0 (by omega)) ?_
      simp only [if_pos (nonneg_at _), set_at h, next_at h (show x.length ≤ maxLen by rw [maxLen_eq]; omega), wrap_id (x := i + 1) (by omega) (by omega)]
      have := ih (pre ++ [mt i]) (pre ++ [mt i] ++ suf) (i + 1) rfl (by rw [h] at hx; simpa using hx) (by omega) (by omega)
      rw [show (pre ++ [b]).length = (pre ++ [mt i]).length by simp]
      refine ev_cast this ?_
      simp only [List.length_cons, marks, Prod.mk.injEq]
      exact ⟨by omega, by simp⟩
  have := key l [] l a rfl hl h0 (by omega)
  simpa [laws_markStringS.f] using this
theorem heldS {n : Nat} (hn : n ≤ 1048576) {a : Int} (h0 : 0 ≤ a) (h1 : a ≤ 70368744177664) : Ev (fun k => laws_heldStringS.f k (marks n a) a) (a + n) := by
  have key : ∀ (m : Nat) (pre x : List ByteArray) (i : Int), x = pre ++ marks m i → x.length ≤ 1048576 → 0 ≤ i → i + m ≤ 70368745226240 → Ev (fun k => laws_heldStringS.l0 k x i pre.length) (i + m) := by
    intro m
    induction m with
    | zero =>
      intro pre x i h hx h0 h1
      refine Ev.step (fun k => laws_heldStringS.l0.eq_2 ..) ?_
      simp only [if_neg (end_at h)]
      exact ev_cast (Ev.now _) (by simp)
    | succ m ih =>
      intro pre x i h hx h0 h1
      simp only [marks] at h
      refine Ev.step (fun k => laws_heldStringS.l0.eq_2 ..) ?_
      simp only [if_pos (lt_at h), if_pos (nonneg_at _)]
      refine Ev.bind (mt_ev h0 (by omega)) ?_
      simp only [rd_at _ h, if_true, next_at h (show x.length ≤ maxLen by rw [maxLen_eq]; omega), wrap_id (x := i + 1) (by omega) (by omega)]
      refine ev_cast (ih (pre ++ [mt i]) x (i + 1) (snoc_at h) hx (by omega) (by omega)) ?_
      omega
  exact key n [] _ a rfl (by rw [marks_length]; exact hn) h0 (by omega)
end Go.Proofs.YtigoeooelfeopaaDoor.L

/- The law FnExactParseTags computes true: the program and the reference say the same, and nothing is shared. No condition. -/
set_option linter.unusedSimpArgs false
set_option linter.unusedVariables false
namespace Go.Proofs.YtigoeooelfeopaaDoor.Pure
open Go.RowKit Go.Proofs.YtigoeooelfeopaaDoorW.PrintWords Go.Proofs.YtigoeooelfeopaaDoorW.PrintLast Go.Proofs.YtigoeooelfeopaaDoor.Q Go.Proofs.YtigoeooelfeopaaDoor.L
theorem FnExactParseTags : ∀ (x0 : ByteArray), (fun s : ByteArray => s.size ≤ maxLen) x0 → ∃ k, laws_FnExactParseTags.f k x0 = some true := by
  intro x0 g0
  apply Ev.rounds
  unfold laws_FnExactParseTags.f
  by_cases c0 : (x0.size : Int) > 1048576
  · simp only [if_pos c0]; exact Ev.now _
  simp only [if_neg c0]
  obtain ⟨r, e1, e2, hl, _⟩ := bothTags (s := x0) (by omega)
  have hb : r.1.length ≤ 1048576 := by omega
  have hm : r.1.length ≤ maxLen := by rw [maxLen_eq]; omega
  refine Ev.bind e1 ?_
  refine Ev.bind e2 ?_
  refine Ev.bind (eqS hm) ?_
  simp only [decide_true, if_true, bne_self_eq_false]
  refine Ev.step (fun k => laws_FnExactParseTags.j0.eq_2 ..) ?_
  simp only [Bool.false_eq_true, if_false]
  refine Ev.bind (markS hb (by omega) (by omega)) ?_
  refine Ev.bind (heldS hb (by omega) (by omega)) ?_
  simp only [if_neg (show ¬ (1 + (r.1.length : Int)) < 0 by omega), if_true]
  refine Ev.bind e2 ?_
  refine Ev.bind (eqS hm) ?_
  simp only [decide_true, if_true, bne_self_eq_false]
  refine Ev.step (fun k => laws_FnExactParseTags.j1.eq_2 ..) ?_
  simp only [Bool.false_eq_true, if_false]
  refine Ev.bind (heldS hb (by omega) (by omega)) ?_
  simp only [if_neg (show ¬ (1 + (r.1.length : Int)) < 0 by omega), if_true]
  exact Ev.now _
end Go.Proofs.YtigoeooelfeopaaDoor.Pure
