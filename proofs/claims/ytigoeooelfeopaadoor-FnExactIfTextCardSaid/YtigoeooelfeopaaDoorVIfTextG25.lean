-- PRINTED by print.py (a twelfth state) out of the translation. Not trusted: Lean checks it.
import Derived.Test.YtigoeooelfeopaaDoorVIfTextG24
set_option maxHeartbeats 8000000
set_option maxRecDepth 100000
namespace Go.Proofs.YtigoeooelfeopaaDoor.Q
open Go.RowKit Go.Proofs.YtigoeooelfeopaaDoorW.PrintWords Go.Proofs.YtigoeooelfeopaaDoorW.PrintLast Go.Proofs.YtigoeooelfeopaaDoorW.PrintMore
attribute [local go_sem] max2_int min2_int max_two min_two max_three min_three max_four min_four   -- for this text's walks alone
set_option linter.unusedVariables false
set_option linter.unusedSimpArgs false
def laws_toCondS.l0 : Nat → List (S103) → List (S79) → Int → Option ((List (S79)))
 | 0, _, _, _ => none
 | k + 1, x0, x3, x4 => if x4 < (x0.length : Int) then (if 0 ≤ x4 then ((laws_toCond.f ((rd_T103 x0 x4).f0) ((rd_T103 x0 x4).f1) ((rd_T103 x0 x4).f2)).bind fun bt517 => (if x4 < (x3.length : Int) then (laws_toCondS.l0 k x0 (x3.set (x4 : Int).toNat (⟨bt517.1, bt517.2.1, bt517.2.2⟩ : S79)) (wrap64 (x4 + 1))) else (none))) else (none)) else (some x3)
def laws_toCondS.f (k : Nat) (l0 : List (S103)) : Option ((List (S79))) := if 0 ≤ (l0.length : Int) then (if ((l0.length : Int) : Int).toNat ≤ 8796093022208 then (laws_toCondS.l0 k l0 (List.replicate ((l0.length : Int) : Int).toNat z79) 0) else (none)) else (none)
theorem laws_toCondS.calls (k : Nat) (A0 : Option Addr) (c0 : Nat) (l0 : List (S103)) (r : List (S79)) (w : World) (hr0 : Kd.C k103 w A0 l0.length l0) (hc0 : l0.length ≤ c0) (h : laws_toCondS.f k l0 = some r) :
 Calls Tryd.prog 53 #[.slice A0 l0.length c0] w fun e w' => ∃ v0_ : Value, e = .returned (v0_) ∧ Kd.R k79 79 w' w.heap.size (fun _ => True) v0_ r ∧ Below w.heap.size w w' := by
 have hu103 := Tryd.underlying103
 have hu79 := Tryd.underlying79
 have HR0 := A_ hr0
 have HC0 := A_ hc0
 clear hr0 hc0
 have HB := A_ (Below.refl w.heap.size w)
 have H : (if 0 ≤ (l0.length : Int) then (if ((l0.length : Int) : Int).toNat ≤ 8796093022208 then (laws_toCondS.l0 k l0 (List.replicate ((l0.length : Int) : Int).toNat z79) 0) else (none)) else (none)) = some r := h
 clear h
 by_cases c2 : 0 ≤ (l0.length : Int)
 rotate_left
 · exact absurd H (by rw [if_neg c2]; simp)
 rw [if_pos c2] at H
 have c2b0 := eq_true c2
 have c2b1 : decide (0 ≤ (l0.length : Int)) = true := decide_eq_true c2
 clear c2
 by_cases c3 : ((l0.length : Int) : Int).toNat ≤ 8796093022208
 rotate_left
 · exact absurd H (by rw [if_neg c3]; simp)
 rw [if_pos c3] at H
 have c3b0 := eq_true c3
 have c3b1 : decide (((l0.length : Int) : Int).toNat ≤ 8796093022208) = true := decide_eq_true c3
 clear c3
 obtain ⟨y513, hy513⟩ : ∃ y_ : List (S79), y_ = (List.replicate ((l0.length : Int) : Int).toNat z79) := ⟨_, rfl⟩
 replace H : (laws_toCondS.l0 k l0 y513 0) = some r := hy_ hy513 H
 have Ny513 := A_ hy513
 clear hy513
 have H' := A_ H
 clear H
 go_enter Tryd.func53, Tryd.ntmps53
 go_wp2_with (first | ((with_reducible refine gd_ (N := 7) rfl ?_); refine Kd.R_make k79 _ 79 rfl (N := 7) rfl 76 _ _ rfl (l0.length : Int) rfl rfl Tryd.underlying76 (.agg #[(.bool false), (.int .i64 0), (.string ⟨#[]⟩)]) 32 info79 rfl (by decide) (by omega) z79 (ok := fun _ => True) (okp := fun _ => True) (k79_mkM _ _ _ z79 ) (fun _ hk => hk) trivial od_ (Nat.le_trans (Nat.mul_le_mul_right _ (od_ : (l0.length : Int).toNat ≤ 8796093022208)) (by omega)) (Below.refl _ _) (Nat.le_refl _) ?_; intro v514 w4 ho5 hb hg_ hnew_; clear hg_ hnew_; (first | rw [← Ny513.out] at ho5 | (simp only [Int.reduceToNat] at ho5; rw [← Ny513.out] at ho5)); have HO515 := A_ (Kd.R_lower ho5 (below_size bB_)); replace HB := A_ (below_step bB_ hb); clear hb ho5))
 go_loopg [4] k (fun kq v4 w' => ∃ (x3_1 : List (S79)) (x4_1 : Int), v4 = .int .i64 x4_1 ∧ Aside0 (laws_toCondS.l0 kq l0 x3_1 x4_1 = some r) ∧ Aside0 (kq ≤ k) ∧ Aside0 (Kd.R k79 79 w' w.heap.size (fun _ => True) v514 x3_1) ∧ Aside0 (Below w.heap.size w w'))
 case atStart => exact ⟨(y513), (0), rs_, H', ⟨Nat.le_refl _⟩, ⟨vR_ HO515.out⟩, ⟨bB_⟩⟩
 case round =>
  clear H'
  try clear c2
  try clear c2b0
  try clear c2b1
  try clear p2
  try clear c3
  try clear c3b0
  try clear c3b1
  try clear c5
  obtain ⟨x3_1, x4_1, rfl, HA, HK1, HO_3, HB⟩ := hrel
  cases gk with
  | zero => exact absurd HA.out (by simp [laws_toCondS.l0])
  | succ k1 =>
   have H := HA.out
   clear HA
   simp only [laws_toCondS.l0] at H
   by_cases c6 : x4_1 < (l0.length : Int)
   rotate_left
   · rw [if_neg c6] at H
     have c6b0 : decide (x4_1 < (l0.length : Int)) = false := decide_eq_false c6
     clear c6
     obtain rfl := si_ H
     go_wp2
     go_ret
     exact ⟨_, rr_, by (with_reducible repeat (first | apply Kd.R_alloc | apply Kd.R_drewN | apply Kd.R_drew)); exact HO_3.out, bB_⟩
   rw [if_pos c6] at H
   have c6b0 : decide (x4_1 < (l0.length : Int)) = true := decide_eq_true c6
   clear c6
   by_cases c7 : 0 ≤ x4_1
   rotate_left
   · exact absurd H (by rw [if_neg c7]; simp)
   rw [if_pos c7] at H
   have c7b0 : decide (0 ≤ x4_1) = true := decide_eq_true c7
   clear c7
   obtain ⟨⟨t517, t518, t519⟩, A8, H⟩ := bo_ H
   (try dsimp only at H)
   by_cases c9 : x4_1 < (x3_1.length : Int)
   rotate_left
   · exact absurd H (by rw [if_neg c9]; simp)
   rw [if_pos c9] at H
   have c9b0 : decide (x4_1 < (x3_1.length : Int)) = true := decide_eq_true c9
   clear c9
   obtain ⟨y520, hy520⟩ : ∃ y_ : List (S79), y_ = (x3_1.set (x4_1 : Int).toNat (⟨t517, t518, t519⟩ : S79)) := ⟨_, rfl⟩
   replace H : (laws_toCondS.l0 k1 l0 y520 (wrap64 (x4_1 + 1))) = some r := hy_ hy520 H
   have Ny520 := A_ hy520
   clear hy520
   have H' := A_ H
   clear H
   have p516 : 0 ≤ (x4_1 : Int) := od_
   have q516 : x4_1 < (l0.length : Int) := od_
   obtain ⟨ad516, e516, hx516_0, hx516_1, hx516_2⟩ := at_T103 HR0.out x4_1 p516 q516
   cases e516
   replace hx516_0 := bc_ HB.out hx516_0
   replace hx516_1 := bc_ HB.out hx516_1
   replace hx516_2 := bc_ HB.out hx516_2
   replace p516 := eq_true p516
   replace q516 := eq_true q516
   go_wp2_with (first | ((with_reducible refine gc_ (f := 77) rfl ?_); refine gL_ (some 20) Tryd.func77 #[.agg #[.bool ((rd_T103 l0 x4_1).f0), .int .i64 ((rd_T103 l0 x4_1).f1), .string ((rd_T103 l0 x4_1).f2)]] ?_; (with_reducible refine (laws_toCond.calls ((rd_T103 l0 x4_1).f0) ((rd_T103 l0 x4_1).f1) ((rd_T103 l0 x4_1).f2) t517 t518 t519 _ A8.out).mono ?_); rintro e w11 ⟨rfl, hb⟩; refine ⟨_, rfl, ?_⟩; replace HO_3 := A_ (Kd.R_below (vR_ HO_3.out) hb); replace HB := A_ (below_step bB_ hb); (try clear hb); have p10 : 0 ≤ (x4_1 : Int) := od_; have q10 : (x4_1 : Int) < ((x3_1.length : Int) : Int) := od_; obtain ⟨go10, co10, eo10, gb10, gl10, cl10, HG10⟩ := Kd.R_form HO_3.out (by omega); (first | cases eo10 | (injection eo10 with ea_ en_ ec_; (first | subst ea_ | (injection ea_ with ea_; subst ea_)); subst ec_; clear en_)); have GB10 := A_ gb10; have GG10 := A_ HG10; clear gb10 gl10 HG10; obtain ⟨ce10, hcl10, hM10, hcc10, hfr10⟩ := Kd.R_elem HO_3.out z79 (x4_1 : Int) p10 q10; obtain rfl := k79_openM hM10; have hx10_0 : w11.cell? ⟨go10, (x4_1 : Int).toNat * 3, none⟩ = some (.bool ((rd_T79 x3_1 x4_1).f0)) := hcc10 0 _ rfl; have hx10_1 : w11.cell? ⟨go10, (x4_1 : Int).toNat * 3 + 1, none⟩ = some (.int .i64 ((rd_T79 x3_1 x4_1).f1)) := hcc10 1 _ rfl; have hx10_2 : w11.cell? ⟨go10, (x4_1 : Int).toNat * 3 + 2, none⟩ = some (.string ((rd_T79 x3_1 x4_1).f2)) := hcc10 2 _ rfl; have hf10_0 : w11.frozen? ⟨go10, (x4_1 : Int).toNat * 3, none⟩ = false := hfr10 0; have hf10_1 : w11.frozen? ⟨go10, (x4_1 : Int).toNat * 3 + 1, none⟩ = false := hfr10 1; have hf10_2 : w11.frozen? ⟨go10, (x4_1 : Int).toNat * 3 + 2, none⟩ = false := hfr10 2; (try clear hcl10); (try clear hcc10); (try clear hfr10); (try clear hM10); replace p10 := eq_true p10; replace q10 := eq_true q10; have HX12 := A_ (show Kd.R k79 79 w11 w.heap.size (fun _ => True) (.slice (some ⟨go10, 0, none⟩) x3_1.length co10) x3_1 from (vR_ HO_3.out)); obtain ⟨ce12, hcl12, hM12, hcc12, hfr12⟩ := Kd.R_elem HX12.out z79 (x4_1 : Int) od_ (by have h_ : (x4_1 : Int) < ((x3_1.length : Int) : Int) := od_; first | exact h_ | (have e_ := (Kd.R_reads' HO_3.out).1; omega) | simpa using h_); obtain rfl := k79_openM hM12; have HP12 := Kd.R_seg HX12.out (x4_1 : Int) od_ (by have h_ : (x4_1 : Int) < ((x3_1.length : Int) : Int) := od_; first | exact h_ | (have e_ := (Kd.R_reads' HO_3.out).1; omega) | simpa using h_) (seg := [.bool t517, .int .i64 t518, .string t519]) (j := 0) hcl12 hcc12 (show 3 ≤ 3 from by decide) (x' := (⟨t517, t518, t519⟩ : S79)) (k79_mkM _ _ _ (⟨t517, t518, t519⟩ : S79) ) (fun _ hk => hk); have hx12_0 := hcc12 0 _ rfl; (try simp only [show (k79).sz = 3 from rfl, Nat.mul_one, Nat.add_zero] at hx12_0); have hf12_0 := hfr12 0; (try simp only [show (k79).sz = 3 from rfl, Nat.mul_one, Nat.add_zero] at hf12_0); have hx12_1 := hcc12 1 _ rfl; (try simp only [show (k79).sz = 3 from rfl, Nat.mul_one, Nat.add_zero] at hx12_1); have hf12_1 := hfr12 1; (try simp only [show (k79).sz = 3 from rfl, Nat.mul_one, Nat.add_zero] at hf12_1); have hx12_2 := hcc12 2 _ rfl; (try simp only [show (k79).sz = 3 from rfl, Nat.mul_one, Nat.add_zero] at hx12_2); have hf12_2 := hfr12 2; (try simp only [show (k79).sz = 3 from rfl, Nat.mul_one, Nat.add_zero] at hf12_2); (try clear hcl12); (try clear hcc12); (try clear hfr12); (try clear hM12)) | ((with_reducible refine gate_store (t := 79) (p := 21) rfl ?_); refine store_event (t := 79) (p := 21) (v := ?vo_w13) (w1 := (((w11.setCell ⟨go10, (x4_1 : Int).toNat * 3, none⟩ (.bool t517)).setCell ⟨go10, (x4_1 : Int).toNat * 3 + 1, none⟩ (.int .i64 t518)).setCell ⟨go10, (x4_1 : Int).toNat * 3 + 2, none⟩ (.string t519))) ?hg ?ho ?hn ?hr ?_; (case ho => rfl); (case hg => rfl); (case hn => rfl); (case hr => first | (go_simp; done) | (go_simp; rfl)); intro w13 hw; have hg : w11.grownBy w13 (some go10) := (by rw [hw]; exact HP12.2); have hp_ : Kd.R k79 79 w13 w.heap.size (fun _ => True) (.slice (some ⟨go10, 0, none⟩) x3_1.length co10) y520 := (by rw [hw, Ny520.out]; exact HP12.1); clear HP12; replace HO_3 := A_ (hp_); replace HB := A_ ((by rw [hw]; exact below_set (below_set (below_set (HB.out) GB10.out) GB10.out) GB10.out : Below w.heap.size w w13)); clear hg hw hp_))
   go_roundg k1
   case measure => have := HK1.out; omega
   case rel => exact ⟨(y520), (wrap64 (x4_1 + 1)), rs_, H', ⟨by have := HK1.out; omega⟩, ⟨vR_ HO_3.out⟩, ⟨bB_⟩⟩
def laws_toCondSS.l0 : Nat → List (List (S103)) → List (List (S79)) → Int → Option ((List (List (S79))))
 | 0, _, _, _ => none
 | k + 1, x0, x3, x4 => if x4 < (x0.length : Int) then (if 0 ≤ x4 then ((laws_toCondS.f k (rd_L14 x0 x4)).bind fun t525 => (if x4 < (x3.length : Int) then (laws_toCondSS.l0 k x0 (x3.set (x4 : Int).toNat t525) (wrap64 (x4 + 1))) else (none))) else (none)) else (some x3)
def laws_toCondSS.f (k : Nat) (l0 : List (List (S103))) : Option ((List (List (S79)))) := if 0 ≤ (l0.length : Int) then (if ((l0.length : Int) : Int).toNat ≤ 11728124029610 then (laws_toCondSS.l0 k l0 (List.replicate ((l0.length : Int) : Int).toNat []) 0) else (none)) else (none)
theorem laws_toCondSS.calls (k : Nat) (A0 : Option Addr) (c0 : Nat) (l0 : List (List (S103))) (r : List (List (S79))) (w : World) (hr0 : Kd.C (Kd.slice 103 k103) w A0 l0.length l0) (hc0 : l0.length ≤ c0) (h : laws_toCondSS.f k l0 = some r) :
 Calls Tryd.prog 26 #[.slice A0 l0.length c0] w fun e w' => ∃ v0_ : Value, e = .returned (v0_) ∧ Kd.S (Kd.slice 79 k79) 76 w' w.heap.size (fun _ => True) v0_ r ∧ Below w.heap.size w w' := by
 have HR0 := A_ hr0
 have HC0 := A_ hc0
 clear hr0 hc0
 have HB := A_ (Below.refl w.heap.size w)
 have H : (if 0 ≤ (l0.length : Int) then (if ((l0.length : Int) : Int).toNat ≤ 11728124029610 then (laws_toCondSS.l0 k l0 (List.replicate ((l0.length : Int) : Int).toNat []) 0) else (none)) else (none)) = some r := h
 clear h
 by_cases c2 : 0 ≤ (l0.length : Int)
 rotate_left
 · exact absurd H (by rw [if_neg c2]; simp)
 rw [if_pos c2] at H
 have c2b0 := eq_true c2
 have c2b1 : decide (0 ≤ (l0.length : Int)) = true := decide_eq_true c2
 clear c2
 by_cases c3 : ((l0.length : Int) : Int).toNat ≤ 11728124029610
 rotate_left
 · exact absurd H (by rw [if_neg c3]; simp)
 rw [if_pos c3] at H
 have c3b0 := eq_true c3
 have c3b1 : decide (((l0.length : Int) : Int).toNat ≤ 11728124029610) = true := decide_eq_true c3
 clear c3
 obtain ⟨y521, hy521⟩ : ∃ y_ : List (List (S79)), y_ = (List.replicate ((l0.length : Int) : Int).toNat []) := ⟨_, rfl⟩
 replace H : (laws_toCondSS.l0 k l0 y521 0) = some r := hy_ hy521 H
 have Ny521 := A_ hy521
 clear hy521
 have H' := A_ H
 clear H
 go_enter Tryd.func26, Tryd.ntmps26
 go_wp2_with (first | ((with_reducible refine gd_ (N := 7) rfl ?_); refine Kd.S_make (Kd.slice 79 k79) _ 76 rfl (N := 7) rfl 50 _ _ rfl (l0.length : Int) rfl rfl Tryd.underlying50 (.slice none 0 0) 24 info76 rfl (by decide) (by omega) [] (ok := fun _ => True) (okp := fun _ => True) ⟨_, rfl, Kd.R_nil _ _ _ _ _⟩ (fun _ hk => hk) trivial od_ (Nat.le_trans (Nat.mul_le_mul_right _ (od_ : (l0.length : Int).toNat ≤ 11728124029610)) (by omega)) (Below.refl _ _) (Nat.le_refl _) ?_; intro v522 w4 ho5 hb hg_ hnew_; clear hg_ hnew_; (first | rw [← Ny521.out] at ho5 | (simp only [Int.reduceToNat] at ho5; rw [← Ny521.out] at ho5)); have HO523 := A_ (Kd.S_lower ho5 (below_size bB_)); replace HB := A_ (below_step bB_ hb); clear hb ho5))
 go_loopg [4] k (fun kq v4 w' => ∃ (x3_1 : List (List (S79))) (x4_1 : Int), v4 = .int .i64 x4_1 ∧ Aside0 (laws_toCondSS.l0 kq l0 x3_1 x4_1 = some r) ∧ Aside0 (kq ≤ k) ∧ Aside0 (Kd.S (Kd.slice 79 k79) 76 w' w.heap.size (fun _ => True) v522 x3_1) ∧ Aside0 (Below w.heap.size w w'))
 case atStart => exact ⟨(y521), (0), rs_, H', ⟨Nat.le_refl _⟩, ⟨vS_ HO523.out⟩, ⟨bB_⟩⟩
 case round =>
  clear H'
  try clear c2
  try clear c2b0
  try clear c2b1
  try clear p2
  try clear c3
  try clear c3b0
  try clear c3b1
  obtain ⟨x3_1, x4_1, rfl, HA, HK1, HO_3, HB⟩ := hrel
  cases gk with
  | zero => exact absurd HA.out (by simp [laws_toCondSS.l0])
  | succ k1 =>
   have H := HA.out
   clear HA
   simp only [laws_toCondSS.l0] at H
   by_cases c6 : x4_1 < (l0.length : Int)
   rotate_left
   · rw [if_neg c6] at H
     have c6b0 : decide (x4_1 < (l0.length : Int)) = false := decide_eq_false c6
     clear c6
     obtain rfl := si_ H
     go_wp2
     go_ret
     exact ⟨_, rr_, by (with_reducible repeat (first | apply Kd.S_alloc | apply Kd.S_drewN | apply Kd.S_drew)); exact HO_3.out, bB_⟩
   rw [if_pos c6] at H
   have c6b0 : decide (x4_1 < (l0.length : Int)) = true := decide_eq_true c6
   clear c6
   by_cases c7 : 0 ≤ x4_1
   rotate_left
   · exact absurd H (by rw [if_neg c7]; simp)
   rw [if_pos c7] at H
   have c7b0 : decide (0 ≤ x4_1) = true := decide_eq_true c7
   clear c7
   obtain ⟨t525, A8, H⟩ := bo_ H
   (try dsimp only at H)
   by_cases c9 : x4_1 < (x3_1.length : Int)
   rotate_left
   · exact absurd H (by rw [if_neg c9]; simp)
   rw [if_pos c9] at H
   have c9b0 : decide (x4_1 < (x3_1.length : Int)) = true := decide_eq_true c9
   clear c9
   obtain ⟨y528, hy528⟩ : ∃ y_ : List (List (S79)), y_ = (x3_1.set (x4_1 : Int).toNat t525) := ⟨_, rfl⟩
   replace H : (laws_toCondSS.l0 k1 l0 y528 (wrap64 (x4_1 + 1))) = some r := hy_ hy528 H
   have Ny528 := A_ hy528
   clear hy528
   have H' := A_ H
   clear H
   have p524 : 0 ≤ (x4_1 : Int) := od_
   have q524 : x4_1 < (l0.length : Int) := od_
   obtain ⟨ad524, A524_0, c524_0, e524, hx524_0, hl524_0, hi524_0⟩ := at_L14 HR0.out x4_1 p524 q524
   cases e524
   replace hx524_0 := bc_ HB.out hx524_0
   have HR524_0 := A_ hi524_0
   have HC524_0 := A_ hl524_0
   clear hi524_0 hl524_0
   replace p524 := eq_true p524
   replace q524 := eq_true q524
   go_wp2_with (first | ((with_reducible refine gc_ (f := 53) rfl ?_); refine gL_ (some 20) Tryd.func53 #[.slice A524_0 (rd_L14 l0 x4_1).length c524_0] ?_; (with_reducible refine (laws_toCondS.calls k1 _ _ (rd_L14 l0 x4_1) t525 _ ?s1 ?s2 A8.out).mono ?_); (case s1 => exact cC_ (Kd.C_below HR524_0.out HB.out)); (case s2 => exact HC524_0.out); rintro e w11 ⟨v526, rfl, ho0, hb⟩; refine ⟨_, rfl, ?_⟩; replace HO_3 := A_ (Kd.S_elder' (vS_ HO_3.out) (kb_ ho0) hb); have HO527 := A_ (Kd.R_lower ho0 (below_size bB_)); replace HB := A_ (below_step bB_ hb); (try clear hb); (try clear ho0); have p10 : 0 ≤ (x4_1 : Int) := od_; have q10 : (x4_1 : Int) < ((x3_1.length : Int) : Int) := od_; obtain ⟨go10, co10, eo10, gb10, gl10, cl10, HG10⟩ := Kd.S_form HO_3.out (by omega); (first | cases eo10 | (injection eo10 with ea_ en_ ec_; (first | subst ea_ | (injection ea_ with ea_; subst ea_)); subst ec_; clear en_)); have GB10 := A_ gb10; have GG10 := A_ HG10; clear gb10 gl10 HG10; obtain ⟨_, ce10, hcl10, hM10, hcc10, hfr10, _, _⟩ := Kd.S_elem HO_3.out [] (x4_1 : Int) p10 q10; obtain ⟨ve10_0, rfl, ge10_0⟩ := hM10; have hx10_0 := hcc10 0 _ rfl; have hf10_0 := hfr10 0; (try simp only [show ((Kd.slice 79 k79)).sz = 1 from rfl, Nat.mul_one, Nat.add_zero] at hx10_0); (try simp only [show ((Kd.slice 79 k79)).sz = 1 from rfl, Nat.mul_one, Nat.add_zero] at hf10_0); (try clear hcl10); (try clear hcc10); (try clear hfr10); (try clear hM10); replace p10 := eq_true p10; replace q10 := eq_true q10; obtain ⟨Ao14, co14, eo14⟩ := Kd.R_slice HO527.out; subst eo14; have n_ := A_ (Kd.S_mono (ok' := (fun k_ => some k_ ≠ (.slice Ao14 t525.length co14 : Value).ownBlock)) HO_3.out (fun k_ hk => hk.2)); clear HO_3; have HO_3 := n_; clear n_; have HX12 := A_ (show Kd.S (Kd.slice 79 k79) 76 w11 w.heap.size (fun k_ => ((fun _ => True)) k_ ∧ ¬ ((fun k_ => some k_ = (.slice Ao14 t525.length co14 : Value).ownBlock)) k_) (.slice (some ⟨go10, 0, none⟩) x3_1.length co10) x3_1 from (by (with_reducible repeat (first | apply Kd.S_alloc | apply Kd.S_drewN | apply Kd.S_drew)); exact Kd.S_mono HO_3.out (fun k_ hk => ⟨trivial, fun e_ => hk e_⟩))); obtain ⟨oki12, ce12, hcl12, hM12, hcc12, hfr12, hoki12, hH12⟩ := Kd.S_elem HX12.out [] (x4_1 : Int) od_ (by have h_ : (x4_1 : Int) < ((x3_1.length : Int) : Int) := od_; first | exact h_ | (have e_ := (Kd.S_reads' HO_3.out).1; omega) | simpa using h_); obtain ⟨ve12_0, rfl, ge12_0⟩ := hM12; have HP12 := Kd.S_seg hH12 od_ (by have h_ : (x4_1 : Int) < ((x3_1.length : Int) : Int) := od_; first | exact h_ | (have e_ := (Kd.S_reads' HO_3.out).1; omega) | simpa using h_) (seg := [.slice Ao14 t525.length co14]) (j := 0) (show 1 ≤ 1 from by decide) (x' := t525) (Kd.M_row (Kd.R_mono (Kd.R_tight rfl (Kd.R_mono (ok' := fun k_ => ((fun _ => True)) k_ ∧ k_ ≠ go10) (Kd.R_apart' (HO527.out) (Kd.S_typed HO_3.out) (by decide)) (fun k_ hk => ⟨trivial, fun e_ => (hk.2) (by rw [e_]; rfl)⟩))) (fun _ h_ => Or.inr (h_)))) (fun _ hk => hk) (fun k_ hk_ => ((Kd.R_mono (ok' := fun k_ => ((fun _ => True)) k_ ∧ k_ ≠ go10) (Kd.R_apart' (HO527.out) (Kd.S_typed HO_3.out) (by decide)) (fun k_ hk => ⟨trivial, fun e_ => (hk.2) (by rw [e_]; rfl)⟩))).1 k_ hk_.symm); have hx12_0 := hcc12 0 _ rfl; (try simp only [show ((Kd.slice 79 k79)).sz = 1 from rfl, Nat.mul_one, Nat.add_zero] at hx12_0); have hf12_0 := hfr12 0; (try simp only [show ((Kd.slice 79 k79)).sz = 1 from rfl, Nat.mul_one, Nat.add_zero] at hf12_0); (try clear hcl12); (try clear hcc12); (try clear hfr12); (try clear hM12); (try clear hoki12); (try clear hH12); (try simp only [show ((Kd.slice 79 k79)).sz = 1 from rfl, Nat.mul_one, Nat.add_zero] at HP12)) | ((with_reducible refine gate_store (t := 76) (p := 21) rfl ?_); refine store_event (t := 76) (p := 21) (v := ?vo_w13) (w1 := (w11.setCell ⟨go10, (x4_1 : Int).toNat, none⟩ (.slice Ao14 t525.length co14))) ?hg ?ho ?hn ?hr ?_; (case ho => rfl); (case hg => rfl); (case hn => rfl); (case hr => first | (go_simp; done) | (go_simp; rfl)); intro w13 hw; have hg : w11.grownBy w13 (some go10) := (by rw [hw]; exact HP12.2); have hp_ : Kd.S (Kd.slice 79 k79) 76 w13 w.heap.size (fun _ => True) (.slice (some ⟨go10, 0, none⟩) x3_1.length co10) y528 := (by rw [hw, Ny528.out]; exact HP12.1); clear HP12; replace HO_3 := A_ (hp_); replace HB := A_ ((by rw [hw]; exact below_set (HB.out) GB10.out : Below w.heap.size w w13)); clear HO527; clear hg hw hp_))
   go_roundg k1
   case measure => have := HK1.out; omega
   case rel => exact ⟨(y528), (wrap64 (x4_1 + 1)), rs_, H', ⟨by have := HK1.out; omega⟩, ⟨vS_ HO_3.out⟩, ⟨bB_⟩⟩
def impl_condAt.f (k : Nat) (a0 : ByteArray) : Option (Bool × Int × ByteArray × ByteArray × Bool) := (strings_CutPrefix.f a0 (⟨#[78, 111, 116, 32]⟩ : ByteArray)).bind fun bt531 => ((strings_CutPrefix.f bt531.1 (⟨#[60]⟩ : ByteArray)).bind fun bt533 => (if bt533.2 = true then ((strings_Cut.f bt533.1 (⟨#[62]⟩ : ByteArray)).bind fun bt535 => ((impl_ParseNum.f bt535.1 9999).bind fun bt538 => (if bt535.2.2 = true then (if bt538.2 = true then (some (bt531.2, bt538.1, (⟨#[]⟩ : ByteArray), bt535.2.1, decide (bt538.1 > 0))) else (some (bt531.2, bt538.1, (⟨#[]⟩ : ByteArray), bt535.2.1, false))) else (some (bt531.2, bt538.1, (⟨#[]⟩ : ByteArray), bt535.2.1, false))))) else ((strings_CutPrefix.f bt531.1 (⟨#[91]⟩ : ByteArray)).bind fun bt540 => ((impl_tagAt.f k bt540.1 1).bind fun bt542 => ((strings_CutPrefix.f bt542.2.1 (⟨#[93]⟩ : ByteArray)).bind fun bt545 => (if bt540.2 = true then (if bt542.2.2 = true then (some (bt531.2, 0, bt542.1, bt545.1, bt545.2)) else (some (bt531.2, 0, bt542.1, bt545.1, false))) else (some (bt531.2, 0, bt542.1, bt545.1, false))))))))
theorem impl_condAt.calls (k : Nat) (a0 : ByteArray) (r1 : Bool) (r2 : Int) (r3 : ByteArray) (r4 : ByteArray) (r5 : Bool) (w : World) (hGT : GT w) (hGM : GM w) (hGE : GE w) (h : impl_condAt.f k a0 = some (r1, r2, r3, r4, r5)) :
 Calls Tryd.prog 105 #[.string a0] w fun e w' => e = .returned (.tuple #[.agg #[.bool r1, .int .i64 r2, .string r3], .string r4, .bool r5]) ∧ Below w.heap.size w w' := by
 have HGT := A_ hGT
 have HGM := A_ hGM
 have HGE := A_ hGE
 clear hGT hGM hGE
 have hu79 := Tryd.underlying79
 have HB := A_ (Below.refl w.heap.size w)
 have H : ((strings_CutPrefix.f a0 (⟨#[78, 111, 116, 32]⟩ : ByteArray)).bind fun bt531 => ((strings_CutPrefix.f bt531.1 (⟨#[60]⟩ : ByteArray)).bind fun bt533 => (if bt533.2 = true then ((strings_Cut.f bt533.1 (⟨#[62]⟩ : ByteArray)).bind fun bt535 => ((impl_ParseNum.f bt535.1 9999).bind fun bt538 => (if bt535.2.2 = true then (if bt538.2 = true then (some (bt531.2, bt538.1, (⟨#[]⟩ : ByteArray), bt535.2.1, decide (bt538.1 > 0))) else (some (bt531.2, bt538.1, (⟨#[]⟩ : ByteArray), bt535.2.1, false))) else (some (bt531.2, bt538.1, (⟨#[]⟩ : ByteArray), bt535.2.1, false))))) else ((strings_CutPrefix.f bt531.1 (⟨#[91]⟩ : ByteArray)).bind fun bt540 => ((impl_tagAt.f k bt540.1 1).bind fun bt542 => ((strings_CutPrefix.f bt542.2.1 (⟨#[93]⟩ : ByteArray)).bind fun bt545 => (if bt540.2 = true then (if bt542.2.2 = true then (some (bt531.2, 0, bt542.1, bt545.1, bt545.2)) else (some (bt531.2, 0, bt542.1, bt545.1, false))) else (some (bt531.2, 0, bt542.1, bt545.1, false))))))))) = some (r1, r2, r3, r4, r5) := h
 clear h
 obtain ⟨⟨t531, t532⟩, A2, H⟩ := bo_ H
 (try dsimp only at H)
 obtain ⟨⟨t533, t534⟩, A3, H⟩ := bo_ H
 (try dsimp only at H)
 by_cases c4 : t534 = true
 · subst c4
   rw [if_pos rfl] at H
   obtain ⟨⟨t535, t536, t537⟩, A5, H⟩ := bo_ H
   (try dsimp only at H)
   obtain ⟨⟨t538, t539⟩, A6, H⟩ := bo_ H
   (try dsimp only at H)
   by_cases c7 : t537 = true
   · subst c7
     rw [if_pos rfl] at H
     by_cases c8 : t539 = true
     · subst c8
       rw [if_pos rfl] at H
       simp only [Option.some.injEq, Prod.mk.injEq] at H
       obtain ⟨rfl, rfl, rfl, rfl, rfl⟩ := H
       go_enter Tryd.func105, Tryd.ntmps105
       go_wp2_with (first | ((with_reducible refine gd_ (N := 2) rfl ?_); refine bx_ (N := 2) (cs := #[.bool false, .int .i64 0, .string (⟨#[]⟩ : ByteArray)]) (t := 79) ?_; intro gb529 hg w9 hbox hb; have BK529 := A_ (hbox); have GW529 := A_ (ge_ hg bB_ : w.heap.size ≤ gb529); have GE529 := A_ (ge_ hg bB_ : w.heap.size ≤ gb529); replace HB := A_ (below_step bB_ hb); clear hb hbox hg) | ((with_reducible refine gd_ (N := 5) rfl ?_); refine bx_ (N := 5) (cs := #[.bool false, .int .i64 0, .string (⟨#[]⟩ : ByteArray)]) (t := 79) ?_; intro gb530 hg w10 hbox hb; have BK530 := A_ (hbox); have GW530 := A_ (ge_ hg (bG_ GE529.out) : w.heap.size ≤ gb530); have GE530 := A_ (ge_ hg (bG_ GE529.out) : w.heap.size ≤ gb530); replace HB := A_ (below_step (bG_ GE529.out) hb); have NB529_530 := A_ (gm_ hg BK529.out); have NB530_529 := A_ (gn_ hg BK529.out); replace BK529 := A_ (bw_ BK529.out hb); clear hb hbox hg) | ((with_reducible refine gc_ (f := 61) rfl ?_); refine gL_ (some 21) Tryd.func61 #[.string a0, .string (⟨#[78, 111, 116, 32]⟩ : ByteArray)] ?_; (with_reducible refine (strings_CutPrefix.calls a0 (⟨#[78, 111, 116, 32]⟩ : ByteArray) t531 t532 _ A2.out).mono ?_); rintro e w11 ⟨rfl, hb⟩; refine ⟨_, rfl, ?_⟩; replace BK529 := A_ (bw_ BK529.out hb); replace BK530 := A_ (bw_ BK530.out hb); replace HB := A_ (below_step (by repeat (first | (with_reducible first | exact HB.out | apply below_alloc | apply pw_below_drewN | apply below_drew1 | refine below_set ?_ GE529.out | refine below_set ?_ GE530.out) | exact HB.out)) hb); (try clear hb); have hnb12 := NB530_529.out; have hnc12 := NB529_530.out; obtain ⟨hcz13_0, hcz13_1, hcz13_2, hfz13_0, hfz13_1, hfz13_2⟩ := cz3_ BK530.out) | ((with_reducible refine gc_ (f := 61) rfl ?_); refine gL_ (some 27) Tryd.func61 #[.string t531, .string (⟨#[60]⟩ : ByteArray)] ?_; (with_reducible refine (strings_CutPrefix.calls t531 (⟨#[60]⟩ : ByteArray) t533 true _ A3.out).mono ?_); rintro e w14 ⟨rfl, hb⟩; refine ⟨_, rfl, ?_⟩; replace BK529 := A_ (blk_below (g := gb529) (o := .cells #[.bool false, .int .i64 0, .string (⟨#[]⟩ : ByteArray)] 79 (0, 0)) (by (with_reducible repeat (first | refine blk_drewN ?_ _ | refine blk_drew ?_ | refine blk_alloc ?_ _)); refine blk_far ?_ NB529_530.out _; (with_reducible repeat (first | refine blk_drewN ?_ _ | refine blk_drew ?_ | refine blk_alloc ?_ _)); exact BK529.out) hb); replace BK530 := A_ (blk_below (g := gb530) (o := .cells #[.bool t532, .int .i64 0, .string (⟨#[]⟩ : ByteArray)] 79 (0, 0)) (by (with_reducible repeat (first | refine blk_drewN ?_ _ | refine blk_drew ?_ | refine blk_alloc ?_ _)); refine blk_put (cs := #[.bool false, .int .i64 0, .string (⟨#[]⟩ : ByteArray)]) ?_ 0 _ rfl; (with_reducible repeat (first | refine blk_drewN ?_ _ | refine blk_drew ?_ | refine blk_alloc ?_ _)); exact BK530.out) hb); replace HB := A_ (below_step (by repeat (first | (with_reducible first | exact HB.out | apply below_alloc | apply pw_below_drewN | apply below_drew1 | refine below_set ?_ GE529.out | refine below_set ?_ GE530.out) | exact HB.out)) hb); (try clear hb)) | ((with_reducible refine gc_ (f := 62) rfl ?_); refine gL_ (some 33) Tryd.func62 #[.string t533, .string (⟨#[62]⟩ : ByteArray)] ?_; (with_reducible refine (strings_Cut.calls t533 (⟨#[62]⟩ : ByteArray) t535 t536 true _ ?gM2 A5.out).mono ?_); (case gM2 => exact gM_ HGM.out (by repeat (first | (with_reducible first | exact HB.out | apply below_alloc | apply pw_below_drewN | apply below_drew1 | refine below_set ?_ GE529.out | refine below_set ?_ GE530.out) | exact HB.out))); rintro e w15 ⟨rfl, hb⟩; refine ⟨_, rfl, ?_⟩; replace BK529 := A_ (bw_ BK529.out hb); replace BK530 := A_ (bw_ BK530.out hb); replace HB := A_ (below_step (by repeat (first | (with_reducible first | exact HB.out | apply below_alloc | apply pw_below_drewN | apply below_drew1 | refine below_set ?_ GE529.out | refine below_set ?_ GE530.out) | exact HB.out)) hb); (try clear hb)) | ((with_reducible refine gc_ (f := 120) rfl ?_); refine gL_ (some 39) Tryd.func120 #[.string t535, .int .i64 9999] ?_; (with_reducible refine (impl_ParseNum.calls t535 9999 t538 true _ ?gT3 ?gE3 A6.out).mono ?_); (case gT3 => exact gT_ HGT.out (by repeat (first | (with_reducible first | exact HB.out | apply below_alloc | apply pw_below_drewN | apply below_drew1 | refine below_set ?_ GE529.out | refine below_set ?_ GE530.out) | exact HB.out))); (case gE3 => exact gE_ HGE.out (by repeat (first | (with_reducible first | exact HB.out | apply below_alloc | apply pw_below_drewN | apply below_drew1 | refine below_set ?_ GE529.out | refine below_set ?_ GE530.out) | exact HB.out))); rintro e w16 ⟨rfl, hb⟩; refine ⟨_, rfl, ?_⟩; replace BK529 := A_ (bw_ BK529.out hb); replace BK530 := A_ (bw_ BK530.out hb); replace HB := A_ (below_step (by repeat (first | (with_reducible first | exact HB.out | apply below_alloc | apply pw_below_drewN | apply below_drew1 | refine below_set ?_ GE529.out | refine below_set ?_ GE530.out) | exact HB.out)) hb); (try clear hb); obtain ⟨hcz17_0, hcz17_1, hcz17_2, hfz17_0, hfz17_1, hfz17_2⟩ := cz3_ BK530.out; obtain ⟨hcz18_0, hcz18_1, hcz18_2, hfz18_0, hfz18_1, hfz18_2⟩ := cz3_ BK529.out))
       refine bodyPost_ret (results_ctt rfl _ _ gb529 79 #[.bool t532, .int .i64 t538, .string (⟨#[]⟩ : ByteArray)] (0, 0) _ rfl (by (with_reducible repeat (first | refine blk_drewN ?_ _ | refine blk_drew ?_ | refine blk_alloc ?_ _)); refine blk_put (cs := #[.bool t532, .int .i64 t538, .string (⟨#[]⟩ : ByteArray)]) ?_ 2 _ rfl; (with_reducible repeat (first | refine blk_drewN ?_ _ | refine blk_drew ?_ | refine blk_alloc ?_ _)); refine blk_put (cs := #[.bool t532, .int .i64 0, .string (⟨#[]⟩ : ByteArray)]) ?_ 1 _ rfl; (with_reducible repeat (first | refine blk_drewN ?_ _ | refine blk_drew ?_ | refine blk_alloc ?_ _)); refine blk_put (cs := #[.bool false, .int .i64 0, .string (⟨#[]⟩ : ByteArray)]) ?_ 0 _ rfl; (with_reducible repeat (first | refine blk_drewN ?_ _ | refine blk_drew ?_ | refine blk_alloc ?_ _)); refine blk_far ?_ NB529_530.out _; (with_reducible repeat (first | refine blk_drewN ?_ _ | refine blk_drew ?_ | refine blk_alloc ?_ _)); exact BK529.out) Tryd.underlying79 rfl (by kernel_rfl)) rfl ?_
       exact ⟨rr_, by repeat (first | (with_reducible first | exact HB.out | apply below_alloc | apply pw_below_drewN | apply below_drew1 | refine below_set ?_ GE529.out | refine below_set ?_ GE530.out) | exact HB.out)⟩
     · replace c8 := Bool.eq_false_iff.mpr c8
       subst c8
       rw [if_neg nf_] at H
       simp only [Option.some.injEq, Prod.mk.injEq] at H
       obtain ⟨rfl, rfl, rfl, rfl, rfl⟩ := H
       go_enter Tryd.func105, Tryd.ntmps105
       go_wp2_with (first | ((with_reducible refine gd_ (N := 2) rfl ?_); refine bx_ (N := 2) (cs := #[.bool false, .int .i64 0, .string (⟨#[]⟩ : ByteArray)]) (t := 79) ?_; intro gb529 hg w19 hbox hb; have BK529 := A_ (hbox); have GW529 := A_ (ge_ hg bB_ : w.heap.size ≤ gb529); have GE529 := A_ (ge_ hg bB_ : w.heap.size ≤ gb529); replace HB := A_ (below_step bB_ hb); clear hb hbox hg) | ((with_reducible refine gd_ (N := 5) rfl ?_); refine bx_ (N := 5) (cs := #[.bool false, .int .i64 0, .string (⟨#[]⟩ : ByteArray)]) (t := 79) ?_; intro gb530 hg w20 hbox hb; have BK530 := A_ (hbox); have GW530 := A_ (ge_ hg (bG_ GE529.out) : w.heap.size ≤ gb530); have GE530 := A_ (ge_ hg (bG_ GE529.out) : w.heap.size ≤ gb530); replace HB := A_ (below_step (bG_ GE529.out) hb); have NB529_530 := A_ (gm_ hg BK529.out); have NB530_529 := A_ (gn_ hg BK529.out); replace BK529 := A_ (bw_ BK529.out hb); clear hb hbox hg) | ((with_reducible refine gc_ (f := 61) rfl ?_); refine gL_ (some 21) Tryd.func61 #[.string a0, .string (⟨#[78, 111, 116, 32]⟩ : ByteArray)] ?_; (with_reducible refine (strings_CutPrefix.calls a0 (⟨#[78, 111, 116, 32]⟩ : ByteArray) t531 t532 _ A2.out).mono ?_); rintro e w21 ⟨rfl, hb⟩; refine ⟨_, rfl, ?_⟩; replace BK529 := A_ (bw_ BK529.out hb); replace BK530 := A_ (bw_ BK530.out hb); replace HB := A_ (below_step (by repeat (first | (with_reducible first | exact HB.out | apply below_alloc | apply pw_below_drewN | apply below_drew1 | refine below_set ?_ GE529.out | refine below_set ?_ GE530.out) | exact HB.out)) hb); (try clear hb); have hnb22 := NB530_529.out; have hnc22 := NB529_530.out; obtain ⟨hcz23_0, hcz23_1, hcz23_2, hfz23_0, hfz23_1, hfz23_2⟩ := cz3_ BK530.out) | ((with_reducible refine gc_ (f := 61) rfl ?_); refine gL_ (some 27) Tryd.func61 #[.string t531, .string (⟨#[60]⟩ : ByteArray)] ?_; (with_reducible refine (strings_CutPrefix.calls t531 (⟨#[60]⟩ : ByteArray) t533 true _ A3.out).mono ?_); rintro e w24 ⟨rfl, hb⟩; refine ⟨_, rfl, ?_⟩; replace BK529 := A_ (blk_below (g := gb529) (o := .cells #[.bool false, .int .i64 0, .string (⟨#[]⟩ : ByteArray)] 79 (0, 0)) (by (with_reducible repeat (first | refine blk_drewN ?_ _ | refine blk_drew ?_ | refine blk_alloc ?_ _)); refine blk_far ?_ NB529_530.out _; (with_reducible repeat (first | refine blk_drewN ?_ _ | refine blk_drew ?_ | refine blk_alloc ?_ _)); exact BK529.out) hb); replace BK530 := A_ (blk_below (g := gb530) (o := .cells #[.bool t532, .int .i64 0, .string (⟨#[]⟩ : ByteArray)] 79 (0, 0)) (by (with_reducible repeat (first | refine blk_drewN ?_ _ | refine blk_drew ?_ | refine blk_alloc ?_ _)); refine blk_put (cs := #[.bool false, .int .i64 0, .string (⟨#[]⟩ : ByteArray)]) ?_ 0 _ rfl; (with_reducible repeat (first | refine blk_drewN ?_ _ | refine blk_drew ?_ | refine blk_alloc ?_ _)); exact BK530.out) hb); replace HB := A_ (below_step (by repeat (first | (with_reducible first | exact HB.out | apply below_alloc | apply pw_below_drewN | apply below_drew1 | refine below_set ?_ GE529.out | refine below_set ?_ GE530.out) | exact HB.out)) hb); (try clear hb)) | ((with_reducible refine gc_ (f := 62) rfl ?_); refine gL_ (some 33) Tryd.func62 #[.string t533, .string (⟨#[62]⟩ : ByteArray)] ?_; (with_reducible refine (strings_Cut.calls t533 (⟨#[62]⟩ : ByteArray) t535 t536 true _ ?gM4 A5.out).mono ?_); (case gM4 => exact gM_ HGM.out (by repeat (first | (with_reducible first | exact HB.out | apply below_alloc | apply pw_below_drewN | apply below_drew1 | refine below_set ?_ GE529.out | refine below_set ?_ GE530.out) | exact HB.out))); rintro e w25 ⟨rfl, hb⟩; refine ⟨_, rfl, ?_⟩; replace BK529 := A_ (bw_ BK529.out hb); replace BK530 := A_ (bw_ BK530.out hb); replace HB := A_ (below_step (by repeat (first | (with_reducible first | exact HB.out | apply below_alloc | apply pw_below_drewN | apply below_drew1 | refine below_set ?_ GE529.out | refine below_set ?_ GE530.out) | exact HB.out)) hb); (try clear hb)) | ((with_reducible refine gc_ (f := 120) rfl ?_); refine gL_ (some 39) Tryd.func120 #[.string t535, .int .i64 9999] ?_; (with_reducible refine (impl_ParseNum.calls t535 9999 t538 false _ ?gT5 ?gE5 A6.out).mono ?_); (case gT5 => exact gT_ HGT.out (by repeat (first | (with_reducible first | exact HB.out | apply below_alloc | apply pw_below_drewN | apply below_drew1 | refine below_set ?_ GE529.out | refine below_set ?_ GE530.out) | exact HB.out))); (case gE5 => exact gE_ HGE.out (by repeat (first | (with_reducible first | exact HB.out | apply below_alloc | apply pw_below_drewN | apply below_drew1 | refine below_set ?_ GE529.out | refine below_set ?_ GE530.out) | exact HB.out))); rintro e w26 ⟨rfl, hb⟩; refine ⟨_, rfl, ?_⟩; replace BK529 := A_ (bw_ BK529.out hb); replace BK530 := A_ (bw_ BK530.out hb); replace HB := A_ (below_step (by repeat (first | (with_reducible first | exact HB.out | apply below_alloc | apply pw_below_drewN | apply below_drew1 | refine below_set ?_ GE529.out | refine below_set ?_ GE530.out) | exact HB.out)) hb); (try clear hb); obtain ⟨hcz27_0, hcz27_1, hcz27_2, hfz27_0, hfz27_1, hfz27_2⟩ := cz3_ BK530.out; obtain ⟨hcz28_0, hcz28_1, hcz28_2, hfz28_0, hfz28_1, hfz28_2⟩ := cz3_ BK529.out))
       refine bodyPost_ret (results_ctt rfl _ _ gb529 79 #[.bool t532, .int .i64 t538, .string (⟨#[]⟩ : ByteArray)] (0, 0) _ rfl (by (with_reducible repeat (first | refine blk_drewN ?_ _ | refine blk_drew ?_ | refine blk_alloc ?_ _)); refine blk_put (cs := #[.bool t532, .int .i64 t538, .string (⟨#[]⟩ : ByteArray)]) ?_ 2 _ rfl; (with_reducible repeat (first | refine blk_drewN ?_ _ | refine blk_drew ?_ | refine blk_alloc ?_ _)); refine blk_put (cs := #[.bool t532, .int .i64 0, .string (⟨#[]⟩ : ByteArray)]) ?_ 1 _ rfl; (with_reducible repeat (first | refine blk_drewN ?_ _ | refine blk_drew ?_ | refine blk_alloc ?_ _)); refine blk_put (cs := #[.bool false, .int .i64 0, .string (⟨#[]⟩ : ByteArray)]) ?_ 0 _ rfl; (with_reducible repeat (first | refine blk_drewN ?_ _ | refine blk_drew ?_ | refine blk_alloc ?_ _)); refine blk_far ?_ NB529_530.out _; (with_reducible repeat (first | refine blk_drewN ?_ _ | refine blk_drew ?_ | refine blk_alloc ?_ _)); exact BK529.out) Tryd.underlying79 rfl (by kernel_rfl)) rfl ?_
       exact ⟨rr_, by repeat (first | (with_reducible first | exact HB.out | apply below_alloc | apply pw_below_drewN | apply below_drew1 | refine below_set ?_ GE529.out | refine below_set ?_ GE530.out) | exact HB.out)⟩
   · replace c7 := Bool.eq_false_iff.mpr c7
     subst c7
     rw [if_neg nf_] at H
     simp only [Option.some.injEq, Prod.mk.injEq] at H
     obtain ⟨rfl, rfl, rfl, rfl, rfl⟩ := H
     go_enter Tryd.func105, Tryd.ntmps105
     go_wp2_with (first | ((with_reducible refine gd_ (N := 2) rfl ?_); refine bx_ (N := 2) (cs := #[.bool false, .int .i64 0, .string (⟨#[]⟩ : ByteArray)]) (t := 79) ?_; intro gb529 hg w29 hbox hb; have BK529 := A_ (hbox); have GW529 := A_ (ge_ hg bB_ : w.heap.size ≤ gb529); have GE529 := A_ (ge_ hg bB_ : w.heap.size ≤ gb529); replace HB := A_ (below_step bB_ hb); clear hb hbox hg) | ((with_reducible refine gd_ (N := 5) rfl ?_); refine bx_ (N := 5) (cs := #[.bool false, .int .i64 0, .string (⟨#[]⟩ : ByteArray)]) (t := 79) ?_; intro gb530 hg w30 hbox hb; have BK530 := A_ (hbox); have GW530 := A_ (ge_ hg (bG_ GE529.out) : w.heap.size ≤ gb530); have GE530 := A_ (ge_ hg (bG_ GE529.out) : w.heap.size ≤ gb530); replace HB := A_ (below_step (bG_ GE529.out) hb); have NB529_530 := A_ (gm_ hg BK529.out); have NB530_529 := A_ (gn_ hg BK529.out); replace BK529 := A_ (bw_ BK529.out hb); clear hb hbox hg) | ((with_reducible refine gc_ (f := 61) rfl ?_); refine gL_ (some 21) Tryd.func61 #[.string a0, .string (⟨#[78, 111, 116, 32]⟩ : ByteArray)] ?_; (with_reducible refine (strings_CutPrefix.calls a0 (⟨#[78, 111, 116, 32]⟩ : ByteArray) t531 t532 _ A2.out).mono ?_); rintro e w31 ⟨rfl, hb⟩; refine ⟨_, rfl, ?_⟩; replace BK529 := A_ (bw_ BK529.out hb); replace BK530 := A_ (bw_ BK530.out hb); replace HB := A_ (below_step (by repeat (first | (with_reducible first | exact HB.out | apply below_alloc | apply pw_below_drewN | apply below_drew1 | refine below_set ?_ GE529.out | refine below_set ?_ GE530.out) | exact HB.out)) hb); (try clear hb); have hnb32 := NB530_529.out; have hnc32 := NB529_530.out; obtain ⟨hcz33_0, hcz33_1, hcz33_2, hfz33_0, hfz33_1, hfz33_2⟩ := cz3_ BK530.out) | ((with_reducible refine gc_ (f := 61) rfl ?_); refine gL_ (some 27) Tryd.func61 #[.string t531, .string (⟨#[60]⟩ : ByteArray)] ?_; (with_reducible refine (strings_CutPrefix.calls t531 (⟨#[60]⟩ : ByteArray) t533 true _ A3.out).mono ?_); rintro e w34 ⟨rfl, hb⟩; refine ⟨_, rfl, ?_⟩; replace BK529 := A_ (blk_below (g := gb529) (o := .cells #[.bool false, .int .i64 0, .string (⟨#[]⟩ : ByteArray)] 79 (0, 0)) (by (with_reducible repeat (first | refine blk_drewN ?_ _ | refine blk_drew ?_ | refine blk_alloc ?_ _)); refine blk_far ?_ NB529_530.out _; (with_reducible repeat (first | refine blk_drewN ?_ _ | refine blk_drew ?_ | refine blk_alloc ?_ _)); exact BK529.out) hb); replace BK530 := A_ (blk_below (g := gb530) (o := .cells #[.bool t532, .int .i64 0, .string (⟨#[]⟩ : ByteArray)] 79 (0, 0)) (by (with_reducible repeat (first | refine blk_drewN ?_ _ | refine blk_drew ?_ | refine blk_alloc ?_ _)); refine blk_put (cs := #[.bool false, .int .i64 0, .string (⟨#[]⟩ : ByteArray)]) ?_ 0 _ rfl; (with_reducible repeat (first | refine blk_drewN ?_ _ | refine blk_drew ?_ | refine blk_alloc ?_ _)); exact BK530.out) hb); replace HB := A_ (below_step (by repeat (first | (with_reducible first | exact HB.out | apply below_alloc | apply pw_below_drewN | apply below_drew1 | refine below_set ?_ GE529.out | refine below_set ?_ GE530.out) | exact HB.out)) hb); (try clear hb)) | ((with_reducible refine gc_ (f := 62) rfl ?_); refine gL_ (some 33) Tryd.func62 #[.string t533, .string (⟨#[62]⟩ : ByteArray)] ?_; (with_reducible refine (strings_Cut.calls t533 (⟨#[62]⟩ : ByteArray) t535 t536 false _ ?gM6 A5.out).mono ?_); (case gM6 => exact gM_ HGM.out (by repeat (first | (with_reducible first | exact HB.out | apply below_alloc | apply pw_below_drewN | apply below_drew1 | refine below_set ?_ GE529.out | refine below_set ?_ GE530.out) | exact HB.out))); rintro e w35 ⟨rfl, hb⟩; refine ⟨_, rfl, ?_⟩; replace BK529 := A_ (bw_ BK529.out hb); replace BK530 := A_ (bw_ BK530.out hb); replace HB := A_ (below_step (by repeat (first | (with_reducible first | exact HB.out | apply below_alloc | apply pw_below_drewN | apply below_drew1 | refine below_set ?_ GE529.out | refine below_set ?_ GE530.out) | exact HB.out)) hb); (try clear hb)) | ((with_reducible refine gc_ (f := 120) rfl ?_); refine gL_ (some 39) Tryd.func120 #[.string t535, .int .i64 9999] ?_; (with_reducible refine (impl_ParseNum.calls t535 9999 t538 t539 _ ?gT7 ?gE7 A6.out).mono ?_); (case gT7 => exact gT_ HGT.out (by repeat (first | (with_reducible first | exact HB.out | apply below_alloc | apply pw_below_drewN | apply below_drew1 | refine below_set ?_ GE529.out | refine below_set ?_ GE530.out) | exact HB.out))); (case gE7 => exact gE_ HGE.out (by repeat (first | (with_reducible first | exact HB.out | apply below_alloc | apply pw_below_drewN | apply below_drew1 | refine below_set ?_ GE529.out | refine below_set ?_ GE530.out) | exact HB.out))); rintro e w36 ⟨rfl, hb⟩; refine ⟨_, rfl, ?_⟩; replace BK529 := A_ (bw_ BK529.out hb); replace BK530 := A_ (bw_ BK530.out hb); replace HB := A_ (below_step (by repeat (first | (with_reducible first | exact HB.out | apply below_alloc | apply pw_below_drewN | apply below_drew1 | refine below_set ?_ GE529.out | refine below_set ?_ GE530.out) | exact HB.out)) hb); (try clear hb); obtain ⟨hcz37_0, hcz37_1, hcz37_2, hfz37_0, hfz37_1, hfz37_2⟩ := cz3_ BK530.out; obtain ⟨hcz38_0, hcz38_1, hcz38_2, hfz38_0, hfz38_1, hfz38_2⟩ := cz3_ BK529.out))
     refine bodyPost_ret (results_ctt rfl _ _ gb529 79 #[.bool t532, .int .i64 t538, .string (⟨#[]⟩ : ByteArray)] (0, 0) _ rfl (by (with_reducible repeat (first | refine blk_drewN ?_ _ | refine blk_drew ?_ | refine blk_alloc ?_ _)); refine blk_put (cs := #[.bool t532, .int .i64 t538, .string (⟨#[]⟩ : ByteArray)]) ?_ 2 _ rfl; (with_reducible repeat (first | refine blk_drewN ?_ _ | refine blk_drew ?_ | refine blk_alloc ?_ _)); refine blk_put (cs := #[.bool t532, .int .i64 0, .string (⟨#[]⟩ : ByteArray)]) ?_ 1 _ rfl; (with_reducible repeat (first | refine blk_drewN ?_ _ | refine blk_drew ?_ | refine blk_alloc ?_ _)); refine blk_put (cs := #[.bool false, .int .i64 0, .string (⟨#[]⟩ : ByteArray)]) ?_ 0 _ rfl; (with_reducible repeat (first | refine blk_drewN ?_ _ | refine blk_drew ?_ | refine blk_alloc ?_ _)); refine blk_far ?_ NB529_530.out _; (with_reducible repeat (first | refine blk_drewN ?_ _ | refine blk_drew ?_ | refine blk_alloc ?_ _)); exact BK529.out) Tryd.underlying79 rfl (by kernel_rfl)) rfl ?_
     exact ⟨rr_, by repeat (first | (with_reducible first | exact HB.out | apply below_alloc | apply pw_below_drewN | apply below_drew1 | refine below_set ?_ GE529.out | refine below_set ?_ GE530.out) | exact HB.out)⟩
 · replace c4 := Bool.eq_false_iff.mpr c4
   subst c4
   rw [if_neg nf_] at H
   obtain ⟨⟨t540, t541⟩, A39, H⟩ := bo_ H
   (try dsimp only at H)
   obtain ⟨⟨t542, t543, t544⟩, A40, H⟩ := bo_ H
   (try dsimp only at H)
   obtain ⟨⟨t545, t546⟩, A41, H⟩ := bo_ H
   (try dsimp only at H)
   by_cases c42 : t541 = true
   · subst c42
     rw [if_pos rfl] at H
     by_cases c43 : t544 = true
     · subst c43
       rw [if_pos rfl] at H
       simp only [Option.some.injEq, Prod.mk.injEq] at H
       obtain ⟨rfl, rfl, rfl, rfl, rfl⟩ := H
       go_enter Tryd.func105, Tryd.ntmps105
       go_wp2_with (first | ((with_reducible refine gd_ (N := 2) rfl ?_); refine bx_ (N := 2) (cs := #[.bool false, .int .i64 0, .string (⟨#[]⟩ : ByteArray)]) (t := 79) ?_; intro gb529 hg w44 hbox hb; have BK529 := A_ (hbox); have GW529 := A_ (ge_ hg bB_ : w.heap.size ≤ gb529); have GE529 := A_ (ge_ hg bB_ : w.heap.size ≤ gb529); replace HB := A_ (below_step bB_ hb); clear hb hbox hg) | ((with_reducible refine gd_ (N := 5) rfl ?_); refine bx_ (N := 5) (cs := #[.bool false, .int .i64 0, .string (⟨#[]⟩ : ByteArray)]) (t := 79) ?_; intro gb530 hg w45 hbox hb; have BK530 := A_ (hbox); have GW530 := A_ (ge_ hg (bG_ GE529.out) : w.heap.size ≤ gb530); have GE530 := A_ (ge_ hg (bG_ GE529.out) : w.heap.size ≤ gb530); replace HB := A_ (below_step (bG_ GE529.out) hb); have NB529_530 := A_ (gm_ hg BK529.out); have NB530_529 := A_ (gn_ hg BK529.out); replace BK529 := A_ (bw_ BK529.out hb); clear hb hbox hg) | ((with_reducible refine gc_ (f := 61) rfl ?_); refine gL_ (some 21) Tryd.func61 #[.string a0, .string (⟨#[78, 111, 116, 32]⟩ : ByteArray)] ?_; (with_reducible refine (strings_CutPrefix.calls a0 (⟨#[78, 111, 116, 32]⟩ : ByteArray) t531 t532 _ A2.out).mono ?_); rintro e w46 ⟨rfl, hb⟩; refine ⟨_, rfl, ?_⟩; replace BK529 := A_ (bw_ BK529.out hb); replace BK530 := A_ (bw_ BK530.out hb); replace HB := A_ (below_step (by repeat (first | (with_reducible first | exact HB.out | apply below_alloc | apply pw_below_drewN | apply below_drew1 | refine below_set ?_ GE529.out | refine below_set ?_ GE530.out) | exact HB.out)) hb); (try clear hb); have hnb47 := NB530_529.out; have hnc47 := NB529_530.out; obtain ⟨hcz48_0, hcz48_1, hcz48_2, hfz48_0, hfz48_1, hfz48_2⟩ := cz3_ BK530.out) | ((with_reducible refine gc_ (f := 61) rfl ?_); refine gL_ (some 27) Tryd.func61 #[.string t531, .string (⟨#[60]⟩ : ByteArray)] ?_; (with_reducible refine (strings_CutPrefix.calls t531 (⟨#[60]⟩ : ByteArray) t533 false _ A3.out).mono ?_); rintro e w49 ⟨rfl, hb⟩; refine ⟨_, rfl, ?_⟩; replace BK529 := A_ (blk_below (g := gb529) (o := .cells #[.bool false, .int .i64 0, .string (⟨#[]⟩ : ByteArray)] 79 (0, 0)) (by (with_reducible repeat (first | refine blk_drewN ?_ _ | refine blk_drew ?_ | refine blk_alloc ?_ _)); refine blk_far ?_ NB529_530.out _; (with_reducible repeat (first | refine blk_drewN ?_ _ | refine blk_drew ?_ | refine blk_alloc ?_ _)); exact BK529.out) hb); replace BK530 := A_ (blk_below (g := gb530) (o := .cells #[.bool t532, .int .i64 0, .string (⟨#[]⟩ : ByteArray)] 79 (0, 0)) (by (with_reducible repeat (first | refine blk_drewN ?_ _ | refine blk_drew ?_ | refine blk_alloc ?_ _)); refine blk_put (cs := #[.bool false, .int .i64 0, .string (⟨#[]⟩ : ByteArray)]) ?_ 0 _ rfl; (with_reducible repeat (first | refine blk_drewN ?_ _ | refine blk_drew ?_ | refine blk_alloc ?_ _)); exact BK530.out) hb); replace HB := A_ (below_step (by repeat (first | (with_reducible first | exact HB.out | apply below_alloc | apply pw_below_drewN | apply below_drew1 | refine below_set ?_ GE529.out | refine below_set ?_ GE530.out) | exact HB.out)) hb); (try clear hb)) | ((with_reducible refine gc_ (f := 61) rfl ?_); refine gL_ (some 56) Tryd.func61 #[.string t531, .string (⟨#[91]⟩ : ByteArray)] ?_; (with_reducible refine (strings_CutPrefix.calls t531 (⟨#[91]⟩ : ByteArray) t540 true _ A39.out).mono ?_); rintro e w50 ⟨rfl, hb⟩; refine ⟨_, rfl, ?_⟩; replace BK529 := A_ (bw_ BK529.out hb); replace BK530 := A_ (bw_ BK530.out hb); replace HB := A_ (below_step (by repeat (first | (with_reducible first | exact HB.out | apply below_alloc | apply pw_below_drewN | apply below_drew1 | refine below_set ?_ GE529.out | refine below_set ?_ GE530.out) | exact HB.out)) hb); (try clear hb)) | ((with_reducible refine gc_ (f := 35) rfl ?_); refine gL_ (some 61) Tryd.func35 #[.string t540, .int .i64 1] ?_; (with_reducible refine (impl_tagAt.calls k t540 1 t542 t543 true _ ?gM8 A40.out).mono ?_); (case gM8 => exact gM_ HGM.out (by repeat (first | (with_reducible first | exact HB.out | apply below_alloc | apply pw_below_drewN | apply below_drew1 | refine below_set ?_ GE529.out | refine below_set ?_ GE530.out) | exact HB.out))); rintro e w51 ⟨rfl, hb⟩; refine ⟨_, rfl, ?_⟩; replace BK529 := A_ (bw_ BK529.out hb); replace BK530 := A_ (bw_ BK530.out hb); replace HB := A_ (below_step (by repeat (first | (with_reducible first | exact HB.out | apply below_alloc | apply pw_below_drewN | apply below_drew1 | refine below_set ?_ GE529.out | refine below_set ?_ GE530.out) | exact HB.out)) hb); (try clear hb)) | ((with_reducible refine gc_ (f := 61) rfl ?_); refine gL_ (some 67) Tryd.func61 #[.string t543, .string (⟨#[93]⟩ : ByteArray)] ?_; (with_reducible refine (strings_CutPrefix.calls t543 (⟨#[93]⟩ : ByteArray) t545 t546 _ A41.out).mono ?_); rintro e w52 ⟨rfl, hb⟩; refine ⟨_, rfl, ?_⟩; replace BK529 := A_ (bw_ BK529.out hb); replace BK530 := A_ (bw_ BK530.out hb); replace HB := A_ (below_step (by repeat (first | (with_reducible first | exact HB.out | apply below_alloc | apply pw_below_drewN | apply below_drew1 | refine below_set ?_ GE529.out | refine below_set ?_ GE530.out) | exact HB.out)) hb); (try clear hb); obtain ⟨hcz53_0, hcz53_1, hcz53_2, hfz53_0, hfz53_1, hfz53_2⟩ := cz3_ BK530.out; obtain ⟨hcz54_0, hcz54_1, hcz54_2, hfz54_0, hfz54_1, hfz54_2⟩ := cz3_ BK529.out))
       refine bodyPost_ret (results_ctt rfl _ _ gb529 79 #[.bool t532, .int .i64 0, .string t542] (0, 0) _ rfl (by (with_reducible repeat (first | refine blk_drewN ?_ _ | refine blk_drew ?_ | refine blk_alloc ?_ _)); refine blk_put (cs := #[.bool t532, .int .i64 0, .string (⟨#[]⟩ : ByteArray)]) ?_ 2 _ rfl; (with_reducible repeat (first | refine blk_drewN ?_ _ | refine blk_drew ?_ | refine blk_alloc ?_ _)); refine blk_put (cs := #[.bool t532, .int .i64 0, .string (⟨#[]⟩ : ByteArray)]) ?_ 1 _ rfl; (with_reducible repeat (first | refine blk_drewN ?_ _ | refine blk_drew ?_ | refine blk_alloc ?_ _)); refine blk_put (cs := #[.bool false, .int .i64 0, .string (⟨#[]⟩ : ByteArray)]) ?_ 0 _ rfl; (with_reducible repeat (first | refine blk_drewN ?_ _ | refine blk_drew ?_ | refine blk_alloc ?_ _)); refine blk_far ?_ NB529_530.out _; (with_reducible repeat (first | refine blk_drewN ?_ _ | refine blk_drew ?_ | refine blk_alloc ?_ _)); exact BK529.out) Tryd.underlying79 rfl (by kernel_rfl)) rfl ?_
       exact ⟨rr_, by repeat (first | (with_reducible first | exact HB.out | apply below_alloc | apply pw_below_drewN | apply below_drew1 | refine below_set ?_ GE529.out | refine below_set ?_ GE530.out) | exact HB.out)⟩
     · replace c43 := Bool.eq_false_iff.mpr c43
       subst c43
       rw [if_neg nf_] at H
       simp only [Option.some.injEq, Prod.mk.injEq] at H
       obtain ⟨rfl, rfl, rfl, rfl, rfl⟩ := H
       go_enter Tryd.func105, Tryd.ntmps105
       go_wp2_with (first | ((with_reducible refine gd_ (N := 2) rfl ?_); refine bx_ (N := 2) (cs := #[.bool false, .int .i64 0, .string (⟨#[]⟩ : ByteArray)]) (t := 79) ?_; intro gb529 hg w55 hbox hb; have BK529 := A_ (hbox); have GW529 := A_ (ge_ hg bB_ : w.heap.size ≤ gb529); have GE529 := A_ (ge_ hg bB_ : w.heap.size ≤ gb529); replace HB := A_ (below_step bB_ hb); clear hb hbox hg) | ((with_reducible refine gd_ (N := 5) rfl ?_); refine bx_ (N := 5) (cs := #[.bool false, .int .i64 0, .string (⟨#[]⟩ : ByteArray)]) (t := 79) ?_; intro gb530 hg w56 hbox hb; have BK530 := A_ (hbox); have GW530 := A_ (ge_ hg (bG_ GE529.out) : w.heap.size ≤ gb530); have GE530 := A_ (ge_ hg (bG_ GE529.out) : w.heap.size ≤ gb530); replace HB := A_ (below_step (bG_ GE529.out) hb); have NB529_530 := A_ (gm_ hg BK529.out); have NB530_529 := A_ (gn_ hg BK529.out); replace BK529 := A_ (bw_ BK529.out hb); clear hb hbox hg) | ((with_reducible refine gc_ (f := 61) rfl ?_); refine gL_ (some 21) Tryd.func61 #[.string a0, .string (⟨#[78, 111, 116, 32]⟩ : ByteArray)] ?_; (with_reducible refine (strings_CutPrefix.calls a0 (⟨#[78, 111, 116, 32]⟩ : ByteArray) t531 t532 _ A2.out).mono ?_); rintro e w57 ⟨rfl, hb⟩; refine ⟨_, rfl, ?_⟩; replace BK529 := A_ (bw_ BK529.out hb); replace BK530 := A_ (bw_ BK530.out hb); replace HB := A_ (below_step (by repeat (first | (with_reducible first | exact HB.out | apply below_alloc | apply pw_below_drewN | apply below_drew1 | refine below_set ?_ GE529.out | refine below_set ?_ GE530.out) | exact HB.out)) hb); (try clear hb); have hnb58 := NB530_529.out; have hnc58 := NB529_530.out; obtain ⟨hcz59_0, hcz59_1, hcz59_2, hfz59_0, hfz59_1, hfz59_2⟩ := cz3_ BK530.out) | ((with_reducible refine gc_ (f := 61) rfl ?_); refine gL_ (some 27) Tryd.func61 #[.string t531, .string (⟨#[60]⟩ : ByteArray)] ?_; (with_reducible refine (strings_CutPrefix.calls t531 (⟨#[60]⟩ : ByteArray) t533 false _ A3.out).mono ?_); rintro e w60 ⟨rfl, hb⟩; refine ⟨_, rfl, ?_⟩; replace BK529 := A_ (blk_below (g := gb529) (o := .cells #[.bool false, .int .i64 0, .string (⟨#[]⟩ : ByteArray)] 79 (0, 0)) (by (with_reducible repeat (first | refine blk_drewN ?_ _ | refine blk_drew ?_ | refine blk_alloc ?_ _)); refine blk_far ?_ NB529_530.out _; (with_reducible repeat (first | refine blk_drewN ?_ _ | refine blk_drew ?_ | refine blk_alloc ?_ _)); exact BK529.out) hb); replace BK530 := A_ (blk_below (g := gb530) (o := .cells #[.bool t532, .int .i64 0, .string (⟨#[]⟩ : ByteArray)] 79 (0, 0)) (by (with_reducible repeat (first | refine blk_drewN ?_ _ | refine blk_drew ?_ | refine blk_alloc ?_ _)); refine blk_put (cs := #[.bool false, .int .i64 0, .string (⟨#[]⟩ : ByteArray)]) ?_ 0 _ rfl; (with_reducible repeat (first | refine blk_drewN ?_ _ | refine blk_drew ?_ | refine blk_alloc ?_ _)); exact BK530.out) hb); replace HB := A_ (below_step (by repeat (first | (with_reducible first | exact HB.out | apply below_alloc | apply pw_below_drewN | apply below_drew1 | refine below_set ?_ GE529.out | refine below_set ?_ GE530.out) | exact HB.out)) hb); (try clear hb)) | ((with_reducible refine gc_ (f := 61) rfl ?_); refine gL_ (some 56) Tryd.func61 #[.string t531, .string (⟨#[91]⟩ : ByteArray)] ?_; (with_reducible refine (strings_CutPrefix.calls t531 (⟨#[91]⟩ : ByteArray) t540 true _ A39.out).mono ?_); rintro e w61 ⟨rfl, hb⟩; refine ⟨_, rfl, ?_⟩; replace BK529 := A_ (bw_ BK529.out hb); replace BK530 := A_ (bw_ BK530.out hb); replace HB := A_ (below_step (by repeat (first | (with_reducible first | exact HB.out | apply below_alloc | apply pw_below_drewN | apply below_drew1 | refine below_set ?_ GE529.out | refine below_set ?_ GE530.out) | exact HB.out)) hb); (try clear hb)) | ((with_reducible refine gc_ (f := 35) rfl ?_); refine gL_ (some 61) Tryd.func35 #[.string t540, .int .i64 1] ?_; (with_reducible refine (impl_tagAt.calls k t540 1 t542 t543 false _ ?gM9 A40.out).mono ?_); (case gM9 => exact gM_ HGM.out (by repeat (first | (with_reducible first | exact HB.out | apply below_alloc | apply pw_below_drewN | apply below_drew1 | refine below_set ?_ GE529.out | refine below_set ?_ GE530.out) | exact HB.out))); rintro e w62 ⟨rfl, hb⟩; refine ⟨_, rfl, ?_⟩; replace BK529 := A_ (bw_ BK529.out hb); replace BK530 := A_ (bw_ BK530.out hb); replace HB := A_ (below_step (by repeat (first | (with_reducible first | exact HB.out | apply below_alloc | apply pw_below_drewN | apply below_drew1 | refine below_set ?_ GE529.out | refine below_set ?_ GE530.out) | exact HB.out)) hb); (try clear hb)) | ((with_reducible refine gc_ (f := 61) rfl ?_); refine gL_ (some 67) Tryd.func61 #[.string t543, .string (⟨#[93]⟩ : ByteArray)] ?_; (with_reducible refine (strings_CutPrefix.calls t543 (⟨#[93]⟩ : ByteArray) t545 t546 _ A41.out).mono ?_); rintro e w63 ⟨rfl, hb⟩; refine ⟨_, rfl, ?_⟩; replace BK529 := A_ (bw_ BK529.out hb); replace BK530 := A_ (bw_ BK530.out hb); replace HB := A_ (below_step (by repeat (first | (with_reducible first | exact HB.out | apply below_alloc | apply pw_below_drewN | apply below_drew1 | refine below_set ?_ GE529.out | refine below_set ?_ GE530.out) | exact HB.out)) hb); (try clear hb); obtain ⟨hcz64_0, hcz64_1, hcz64_2, hfz64_0, hfz64_1, hfz64_2⟩ := cz3_ BK530.out; obtain ⟨hcz65_0, hcz65_1, hcz65_2, hfz65_0, hfz65_1, hfz65_2⟩ := cz3_ BK529.out))
       refine bodyPost_ret (results_ctt rfl _ _ gb529 79 #[.bool t532, .int .i64 0, .string t542] (0, 0) _ rfl (by (with_reducible repeat (first | refine blk_drewN ?_ _ | refine blk_drew ?_ | refine blk_alloc ?_ _)); refine blk_put (cs := #[.bool t532, .int .i64 0, .string (⟨#[]⟩ : ByteArray)]) ?_ 2 _ rfl; (with_reducible repeat (first | refine blk_drewN ?_ _ | refine blk_drew ?_ | refine blk_alloc ?_ _)); refine blk_put (cs := #[.bool t532, .int .i64 0, .string (⟨#[]⟩ : ByteArray)]) ?_ 1 _ rfl; (with_reducible repeat (first | refine blk_drewN ?_ _ | refine blk_drew ?_ | refine blk_alloc ?_ _)); refine blk_put (cs := #[.bool false, .int .i64 0, .string (⟨#[]⟩ : ByteArray)]) ?_ 0 _ rfl; (with_reducible repeat (first | refine blk_drewN ?_ _ | refine blk_drew ?_ | refine blk_alloc ?_ _)); refine blk_far ?_ NB529_530.out _; (with_reducible repeat (first | refine blk_drewN ?_ _ | refine blk_drew ?_ | refine blk_alloc ?_ _)); exact BK529.out) Tryd.underlying79 rfl (by kernel_rfl)) rfl ?_
       exact ⟨rr_, by repeat (first | (with_reducible first | exact HB.out | apply below_alloc | apply pw_below_drewN | apply below_drew1 | refine below_set ?_ GE529.out | refine below_set ?_ GE530.out) | exact HB.out)⟩
   · replace c42 := Bool.eq_false_iff.mpr c42
     subst c42
     rw [if_neg nf_] at H
     simp only [Option.some.injEq, Prod.mk.injEq] at H
     obtain ⟨rfl, rfl, rfl, rfl, rfl⟩ := H
     go_enter Tryd.func105, Tryd.ntmps105
     go_wp2_with (first | ((with_reducible refine gd_ (N := 2) rfl ?_); refine bx_ (N := 2) (cs := #[.bool false, .int .i64 0, .string (⟨#[]⟩ : ByteArray)]) (t := 79) ?_; intro gb529 hg w66 hbox hb; have BK529 := A_ (hbox); have GW529 := A_ (ge_ hg bB_ : w.heap.size ≤ gb529); have GE529 := A_ (ge_ hg bB_ : w.heap.size ≤ gb529); replace HB := A_ (below_step bB_ hb); clear hb hbox hg) | ((with_reducible refine gd_ (N := 5) rfl ?_); refine bx_ (N := 5) (cs := #[.bool false, .int .i64 0, .string (⟨#[]⟩ : ByteArray)]) (t := 79) ?_; intro gb530 hg w67 hbox hb; have BK530 := A_ (hbox); have GW530 := A_ (ge_ hg (bG_ GE529.out) : w.heap.size ≤ gb530); have GE530 := A_ (ge_ hg (bG_ GE529.out) : w.heap.size ≤ gb530); replace HB := A_ (below_step (bG_ GE529.out) hb); have NB529_530 := A_ (gm_ hg BK529.out); have NB530_529 := A_ (gn_ hg BK529.out); replace BK529 := A_ (bw_ BK529.out hb); clear hb hbox hg) | ((with_reducible refine gc_ (f := 61) rfl ?_); refine gL_ (some 21) Tryd.func61 #[.string a0, .string (⟨#[78, 111, 116, 32]⟩ : ByteArray)] ?_; (with_reducible refine (strings_CutPrefix.calls a0 (⟨#[78, 111, 116, 32]⟩ : ByteArray) t531 t532 _ A2.out).mono ?_); rintro e w68 ⟨rfl, hb⟩; refine ⟨_, rfl, ?_⟩; replace BK529 := A_ (bw_ BK529.out hb); replace BK530 := A_ (bw_ BK530.out hb); replace HB := A_ (below_step (by repeat (first | (with_reducible first | exact HB.out | apply below_alloc | apply pw_below_drewN | apply below_drew1 | refine below_set ?_ GE529.out | refine below_set ?_ GE530.out) | exact HB.out)) hb); (try clear hb); have hnb69 := NB530_529.out; have hnc69 := NB529_530.out; obtain ⟨hcz70_0, hcz70_1, hcz70_2, hfz70_0, hfz70_1, hfz70_2⟩ := cz3_ BK530.out) | ((with_reducible refine gc_ (f := 61) rfl ?_); refine gL_ (some 27) Tryd.func61 #[.string t531, .string (⟨#[60]⟩ : ByteArray)] ?_; (with_reducible refine (strings_CutPrefix.calls t531 (⟨#[60]⟩ : ByteArray) t533 false _ A3.out).mono ?_); rintro e w71 ⟨rfl, hb⟩; refine ⟨_, rfl, ?_⟩; replace BK529 := A_ (blk_below (g := gb529) (o := .cells #[.bool false, .int .i64 0, .string (⟨#[]⟩ : ByteArray)] 79 (0, 0)) (by (with_reducible repeat (first | refine blk_drewN ?_ _ | refine blk_drew ?_ | refine blk_alloc ?_ _)); refine blk_far ?_ NB529_530.out _; (with_reducible repeat (first | refine blk_drewN ?_ _ | refine blk_drew ?_ | refine blk_alloc ?_ _)); exact BK529.out) hb); replace BK530 := A_ (blk_below (g := gb530) (o := .cells #[.bool t532, .int .i64 0, .string (⟨#[]⟩ : ByteArray)] 79 (0, 0)) (by (with_reducible repeat (first | refine blk_drewN ?_ _ | refine blk_drew ?_ | refine blk_alloc ?_ _)); refine blk_put (cs := #[.bool false, .int .i64 0, .string (⟨#[]⟩ : ByteArray)]) ?_ 0 _ rfl; (with_reducible repeat (first | refine blk_drewN ?_ _ | refine blk_drew ?_ | refine blk_alloc ?_ _)); exact BK530.out) hb); replace HB := A_ (below_step (by repeat (first | (with_reducible first | exact HB.out | apply below_alloc | apply pw_below_drewN | apply below_drew1 | refine below_set ?_ GE529.out | refine below_set ?_ GE530.out) | exact HB.out)) hb); (try clear hb)) | ((with_reducible refine gc_ (f := 61) rfl ?_); refine gL_ (some 56) Tryd.func61 #[.string t531, .string (⟨#[91]⟩ : ByteArray)] ?_; (with_reducible refine (strings_CutPrefix.calls t531 (⟨#[91]⟩ : ByteArray) t540 false _ A39.out).mono ?_); rintro e w72 ⟨rfl, hb⟩; refine ⟨_, rfl, ?_⟩; replace BK529 := A_ (bw_ BK529.out hb); replace BK530 := A_ (bw_ BK530.out hb); replace HB := A_ (below_step (by repeat (first | (with_reducible first | exact HB.out | apply below_alloc | apply pw_below_drewN | apply below_drew1 | refine below_set ?_ GE529.out | refine below_set ?_ GE530.out) | exact HB.out)) hb); (try clear hb)) | ((with_reducible refine gc_ (f := 35) rfl ?_); refine gL_ (some 61) Tryd.func35 #[.string t540, .int .i64 1] ?_; (with_reducible refine (impl_tagAt.calls k t540 1 t542 t543 t544 _ ?gM10 A40.out).mono ?_); (case gM10 => exact gM_ HGM.out (by repeat (first | (with_reducible first | exact HB.out | apply below_alloc | apply pw_below_drewN | apply below_drew1 | refine below_set ?_ GE529.out | refine below_set ?_ GE530.out) | exact HB.out))); rintro e w73 ⟨rfl, hb⟩; refine ⟨_, rfl, ?_⟩; replace BK529 := A_ (bw_ BK529.out hb); replace BK530 := A_ (bw_ BK530.out hb); replace HB := A_ (below_step (by repeat (first | (with_reducible first | exact HB.out | apply below_alloc | apply pw_below_drewN | apply below_drew1 | refine below_set ?_ GE529.out | refine below_set ?_ GE530.out) | exact HB.out)) hb); (try clear hb)) | ((with_reducible refine gc_ (f := 61) rfl ?_); refine gL_ (some 67) Tryd.func61 #[.string t543, .string (⟨#[93]⟩ : ByteArray)] ?_; (with_reducible refine (strings_CutPrefix.calls t543 (⟨#[93]⟩ : ByteArray) t545 t546 _ A41.out).mono ?_); rintro e w74 ⟨rfl, hb⟩; refine ⟨_, rfl, ?_⟩; replace BK529 := A_ (bw_ BK529.out hb); replace BK530 := A_ (bw_ BK530.out hb); replace HB := A_ (below_step (by repeat (first | (with_reducible first | exact HB.out | apply below_alloc | apply pw_below_drewN | apply below_drew1 | refine below_set ?_ GE529.out | refine below_set ?_ GE530.out) | exact HB.out)) hb); (try clear hb); obtain ⟨hcz75_0, hcz75_1, hcz75_2, hfz75_0, hfz75_1, hfz75_2⟩ := cz3_ BK530.out; obtain ⟨hcz76_0, hcz76_1, hcz76_2, hfz76_0, hfz76_1, hfz76_2⟩ := cz3_ BK529.out))
     refine bodyPost_ret (results_ctt rfl _ _ gb529 79 #[.bool t532, .int .i64 0, .string t542] (0, 0) _ rfl (by (with_reducible repeat (first | refine blk_drewN ?_ _ | refine blk_drew ?_ | refine blk_alloc ?_ _)); refine blk_put (cs := #[.bool t532, .int .i64 0, .string (⟨#[]⟩ : ByteArray)]) ?_ 2 _ rfl; (with_reducible repeat (first | refine blk_drewN ?_ _ | refine blk_drew ?_ | refine blk_alloc ?_ _)); refine blk_put (cs := #[.bool t532, .int .i64 0, .string (⟨#[]⟩ : ByteArray)]) ?_ 1 _ rfl; (with_reducible repeat (first | refine blk_drewN ?_ _ | refine blk_drew ?_ | refine blk_alloc ?_ _)); refine blk_put (cs := #[.bool false, .int .i64 0, .string (⟨#[]⟩ : ByteArray)]) ?_ 0 _ rfl; (with_reducible repeat (first | refine blk_drewN ?_ _ | refine blk_drew ?_ | refine blk_alloc ?_ _)); refine blk_far ?_ NB529_530.out _; (with_reducible repeat (first | refine blk_drewN ?_ _ | refine blk_drew ?_ | refine blk_alloc ?_ _)); exact BK529.out) Tryd.underlying79 rfl (by kernel_rfl)) rfl ?_
     exact ⟨rr_, by repeat (first | (with_reducible first | exact HB.out | apply below_alloc | apply pw_below_drewN | apply below_drew1 | refine below_set ?_ GE529.out | refine below_set ?_ GE530.out) | exact HB.out)⟩
mutual
def impl_listAt.l0 : Nat → ByteArray → Bool → List (S79) → Option ((List (S79)) × ByteArray × Bool)
 | 0, _, _, _ => none
 | k + 1, x0, x5, x6 => if x5 = true then (impl_listAt.j1 k x0 x6 (decide ((x6.length : Int) < 4))) else (impl_listAt.j1 k x0 x6 false)
def impl_listAt.j1 : Nat → ByteArray → List (S79) → Bool → Option ((List (S79)) × ByteArray × Bool)
 | 0, _, _, _ => none
 | k + 1, x0, x6, x22 => if x22 = true then ((impl_condAt.f k x0).bind fun bt549 => (if bt549.2.2.2.2 = true then (if x6.length < 4398046511104 then ((some (x6 ++ [(⟨bt549.1, bt549.2.1, bt549.2.2.1⟩ : S79)] : List (S79))).bind fun y555 => ((strings_CutPrefix.f bt549.2.2.2.1 (⟨#[41]⟩ : ByteArray)).bind fun bt558 => (if bt558.2 = true then (some (y555, bt558.1, true)) else ((strings_CutPrefix.f bt549.2.2.2.1 (⟨#[32]⟩ : ByteArray)).bind fun bt560 => (impl_listAt.l0 k bt560.1 bt560.2 y555))))) else (none)) else (some (([] : List (S79)), (⟨#[]⟩ : ByteArray), false)))) else (some (([] : List (S79)), (⟨#[]⟩ : ByteArray), false))
end
def impl_listAt.f (k : Nat) (a0 : ByteArray) : Option ((List (S79)) × ByteArray × Bool) := (strings_CutPrefix.f a0 (⟨#[40]⟩ : ByteArray)).bind fun bt547 => (impl_listAt.l0 k bt547.1 bt547.2 ([] : List (S79)))
theorem impl_listAt.calls (k : Nat) (a0 : ByteArray) (r1 : List (S79)) (r2 : ByteArray) (r3 : Bool) (w : World) (hGT : GT w) (hGM : GM w) (hGE : GE w) (h : impl_listAt.f k a0 = some (r1, r2, r3)) :
 Calls Tryd.prog 81 #[.string a0] w fun e w' => ∃ v0_ : Value, e = .returned (.tuple #[v0_, .string r2, .bool r3]) ∧ Kd.R k79 79 w' w.heap.size (fun _ => True) v0_ r1 ∧ Below w.heap.size w w' := by
 have HGT := A_ hGT
 have HGM := A_ hGM
 have HGE := A_ hGE
 clear hGT hGM hGE
 have hu79 := Tryd.underlying79
 have HB := A_ (Below.refl w.heap.size w)
 have H : ((strings_CutPrefix.f a0 (⟨#[40]⟩ : ByteArray)).bind fun bt547 => (impl_listAt.l0 k bt547.1 bt547.2 ([] : List (S79)))) = some (r1, r2, r3) := h
 clear h
 obtain ⟨⟨t547, t548⟩, A2, H⟩ := bo_ H
 (try dsimp only at H)
 have H' := A_ H
 clear H
 go_enter Tryd.func81, Tryd.ntmps81
 go_wp2_with (first | ((with_reducible refine gc_ (f := 61) rfl ?_); refine gL_ (some 14) Tryd.func61 #[.string a0, .string (⟨#[40]⟩ : ByteArray)] ?_; (with_reducible refine (strings_CutPrefix.calls a0 (⟨#[40]⟩ : ByteArray) t547 t548 _ A2.out).mono ?_); rintro e w3 ⟨rfl, hb⟩; refine ⟨_, rfl, ?_⟩; replace HB := A_ (below_step bB_ hb); (try clear hb)))
 go_loopg [0, 5, 6] k (fun kq v0 v5 v6 w' => ∃ (x0_1 : ByteArray) (x5_1 : Bool) (x6_1 : List (S79)), v0 = .string x0_1 ∧ v5 = .bool x5_1 ∧ Aside0 (impl_listAt.l0 kq x0_1 x5_1 x6_1 = some (r1, r2, r3)) ∧ Aside0 (kq ≤ k) ∧ Aside0 (Kd.R k79 79 w' w.heap.size (fun _ => True) v6 x6_1) ∧ Aside0 (Below w.heap.size w w'))
 case atStart => exact ⟨(t547), (t548), (([] : List (S79))), rs_, rs_, H', ⟨Nat.le_refl _⟩, ⟨by first | exact Kd.R_nil _ _ _ _ _ | exact Kd.N_nil _ _ _ _ _ | exact Kd.V_nil _ _ _ _ _ | exact Kd.Q_nil _ _ _ _ _ | exact Kd.S_nil _ _ _ _ _⟩, ⟨bB_⟩⟩
 case round =>
  clear H'
  try clear p2
  obtain ⟨x0_1, x5_1, x6_1, rfl, rfl, HA, HK1, HO_6, HB⟩ := hrel
  cases gk with
  | zero => exact absurd HA.out (by simp [impl_listAt.l0])
  | succ k1 =>
   have H := HA.out
   clear HA
   simp only [impl_listAt.l0] at H
   have HC4 := A_ H
   clear H
   go_upto_region 3 with (fail)
   go_cut [22] (fun v22 wc => ∃ (kq : Nat) (x22_3 : Bool), v22 = .bool x22_3 ∧ Aside0 (impl_listAt.j1 kq x0_1 x6_1 x22_3 = some (r1, r2, r3)) ∧ Aside0 (kq ≤ k1) ∧ Aside0 (Kd.R k79 79 wc w.heap.size (fun _ => True) u6 x6_1) ∧ Aside0 (Below w.heap.size w wc))
   case first =>
    have H := HC4.out
    clear HC4
    by_cases c5 : x5_1 = true
    · subst c5
      rw [if_pos rfl] at H
      have H' := A_ H
      clear H
      obtain ⟨Ao6, co6, eo6⟩ := Kd.R_slice HO_6.out
      subst eo6
      go_wp2
      go_meet
      case rel => exact ⟨_, (decide ((x6_1.length : Int) < 4)), rs_, H', ⟨by have := HK1.out; first | omega | exact Nat.le_refl _⟩, ⟨vR_ HO_6.out⟩, ⟨bB_⟩⟩
    · replace c5 := Bool.eq_false_iff.mpr c5
      subst c5
      rw [if_neg nf_] at H
      have H' := A_ H
      clear H
      go_wp2
      go_meet
      case rel => exact ⟨_, (false), rs_, H', ⟨by have := HK1.out; first | omega | exact Nat.le_refl _⟩, ⟨vR_ HO_6.out⟩, ⟨bB_⟩⟩
   case rest =>
    clear HC4
    try clear p2
    try clear c5
    try clear c6
    try clear p2
    obtain ⟨kq, x22_3, rfl, HA, HJ3, HO_6, HB⟩ := hcut
    cases kq with
    | zero => exact absurd HA.out (by simp [impl_listAt.j1])
    | succ kj3 =>
     have H := HA.out
     clear HA
     simp only [impl_listAt.j1] at H
     by_cases c7 : x22_3 = true
     · subst c7
       rw [if_pos rfl] at H
       obtain ⟨⟨t549, t550, t551, t552, t553⟩, A8, H⟩ := bo_ H
       (try dsimp only at H)
       by_cases c9 : t553 = true
       · subst c9
         rw [if_pos rfl] at H
         by_cases c10 : x6_1.length < 4398046511104
         rotate_left
         · exact absurd H (by rw [if_neg c10]; simp)
         rw [if_pos c10] at H
         have LMc10 := A_ c10
         clear c10
         obtain ⟨y555, hy555⟩ : ∃ y_ : List (S79), y_ = (x6_1 ++ [(⟨t549, t550, t551⟩ : S79)]) := ⟨_, rfl⟩
         replace H : ((strings_CutPrefix.f t552 (⟨#[41]⟩ : ByteArray)).bind fun bt558 => (if bt558.2 = true then (some (y555, bt558.1, true)) else ((strings_CutPrefix.f t552 (⟨#[32]⟩ : ByteArray)).bind fun bt560 => (impl_listAt.l0 kj3 bt560.1 bt560.2 y555)))) = some (r1, r2, r3) := hy_ hy555 H
         have Ny555 := A_ hy555
         clear hy555
         obtain ⟨⟨t558, t559⟩, A11, H⟩ := bo_ H
         (try dsimp only at H)
         by_cases c12 : t559 = true
         · subst c12
           rw [if_pos rfl] at H
           simp only [Option.some.injEq, Prod.mk.injEq] at H
           obtain ⟨rfl, rfl, rfl⟩ := H
           go_wp2_with (first | ((with_reducible refine gc_ (f := 105) rfl ?_); refine gL_ (some 25) Tryd.func105 #[.string x0_1] ?_; (with_reducible refine (impl_condAt.calls kj3 x0_1 t549 t550 t551 t552 true _ ?gT11 ?gM11 ?gE11 A8.out).mono ?_); (case gT11 => first | exact gT_ HGT.out (bG_ GE554.out) | exact gT_ HGT.out bB_); (case gM11 => first | exact gM_ HGM.out (bG_ GE554.out) | exact gM_ HGM.out bB_); (case gE11 => first | exact gE_ HGE.out (bG_ GE554.out) | exact gE_ HGE.out bB_); rintro e w13 ⟨rfl, hb⟩; refine ⟨_, rfl, ?_⟩; replace HO_6 := A_ (Kd.R_below (vR_ HO_6.out) hb); replace HB := A_ (below_step bB_ hb); (try clear hb); (try clear hk)) | ((with_reducible refine gd_ (N := 7) rfl ?_); (try (refine gate_guard (by rfl) ?_; dsimp only)); refine bx_ (N := 7) (cs := #[.bool false, .int .i64 0, .string (⟨#[]⟩ : ByteArray)]) (t := 79) ?_; intro gb554 hg w14 hbox hb; replace HO_6 := A_ (Kd.R_below (Kd.R_elderB (vR_ HO_6.out) gb554 (Nat.le_of_eq hg.symm)) hb); have BK554 := A_ (hbox); have GW554 := A_ (ge_ hg bB_ : w.heap.size ≤ gb554); have GE554 := A_ (ge_ hg bB_ : w.heap.size ≤ gb554); replace HB := A_ (below_step bB_ hb); clear hb hbox hg; obtain ⟨hcz15_0, hcz15_1, hcz15_2, hfz15_0, hfz15_1, hfz15_2⟩ := cz3_ BK554.out) | ((with_reducible refine gate_builtin (b := .append) (xs := #[.tmp 31, .tmp 33]) rfl ?_); (try (refine gate_guard (by rfl) ?_; dsimp only)); at_builtin; refine Kd.R_append k79 (w0 := w) w.heap.size rfl (.tmp 31) (.tmp 33) 76 79 (.agg #[(.bool false), (.int .i64 0), (.string ⟨#[]⟩)]) 32 rfl Tryd.underlying76 info79 rfl (by decide) (by omega) u6 x6_1 (⟨t549, t550, t551⟩ : S79) [.bool t549, .int .i64 t550, .string t551] (fun k_ => k_ ≠ gb554) (fun _ => False) rfl (by first | (go_simp; done) | (go_simp; rfl)) ?aP (fun _ hk => hk.elim) ?aF ?aO ?aB ?aS ?aL ?_; (case aP => exact k79_mkM _ _ _ (⟨t549, t550, t551⟩ : S79)); (case aB => exact (bG_ GE554.out)); (case aF => exact (fun k_ hk => Kd.freshB (g := gb554) (o := .cells #[.bool t549, .int .i64 t550, .string t551] 79 (0, 0)) (by (with_reducible repeat (first | refine blk_drewN ?_ _ | refine blk_drew ?_ | refine blk_alloc ?_ _)); refine blk_put (cs := #[.bool t549, .int .i64 t550, .string (⟨#[]⟩ : ByteArray)]) ?_ 2 _ rfl; (with_reducible repeat (first | refine blk_drewN ?_ _ | refine blk_drew ?_ | refine blk_alloc ?_ _)); refine blk_put (cs := #[.bool t549, .int .i64 0, .string (⟨#[]⟩ : ByteArray)]) ?_ 1 _ rfl; (with_reducible repeat (first | refine blk_drewN ?_ _ | refine blk_drew ?_ | refine blk_alloc ?_ _)); refine blk_put (cs := #[.bool false, .int .i64 0, .string (⟨#[]⟩ : ByteArray)]) ?_ 0 _ rfl; (with_reducible repeat (first | refine blk_drewN ?_ _ | refine blk_drew ?_ | refine blk_alloc ?_ _)); exact BK554.out) k_ hk)); (case aO => exact (by (with_reducible repeat (first | apply Kd.R_alloc | apply Kd.R_drewN | apply Kd.R_drew)); exact Kd.R_mono (Kd.R_far (p := ⟨gb554, 2, none⟩) (Kd.R_far (p := ⟨gb554, 1, none⟩) (Kd.R_far (p := ⟨gb554, 0, none⟩) (Kd.R_mono HO_6.out (fun k_ hk => (⟨hk, hk.2⟩ : _ ∧ k_ ≠ gb554))) (fun _ hk => hk.2) (.bool t549)) (fun _ hk => hk.2) (.int .i64 t550)) (fun _ hk => hk.2) (.string t551)) (fun _ hk => hk.1.2))); (case aS => exact (below_size (bG_ GE554.out))); (case aL => have := LMc10.out; omega); intro v556 w16 ho hb hg hat; rw [← Ny555.out] at ho; replace BK554 := A_ (blk_grown (g := gb554) (o := .cells #[.bool t549, .int .i64 t550, .string t551] 79 (0, 0)) (by (with_reducible repeat (first | refine blk_drewN ?_ _ | refine blk_drew ?_ | refine blk_alloc ?_ _)); refine blk_put (cs := #[.bool t549, .int .i64 t550, .string (⟨#[]⟩ : ByteArray)]) ?_ 2 _ rfl; (with_reducible repeat (first | refine blk_drewN ?_ _ | refine blk_drew ?_ | refine blk_alloc ?_ _)); refine blk_put (cs := #[.bool t549, .int .i64 0, .string (⟨#[]⟩ : ByteArray)]) ?_ 1 _ rfl; (with_reducible repeat (first | refine blk_drewN ?_ _ | refine blk_drew ?_ | refine blk_alloc ?_ _)); refine blk_put (cs := #[.bool false, .int .i64 0, .string (⟨#[]⟩ : ByteArray)]) ?_ 0 _ rfl; (with_reducible repeat (first | refine blk_drewN ?_ _ | refine blk_drew ?_ | refine blk_alloc ?_ _)); exact BK554.out) hg (Kd.R_away HO_6.out (fun _ hk => hk.2))); replace HB := A_ (hb); have HO557 := A_ (ho); clear HO_6; clear ho hb hg hat) | ((with_reducible refine gc_ (f := 61) rfl ?_); refine gL_ (some 37) Tryd.func61 #[.string t552, .string (⟨#[41]⟩ : ByteArray)] ?_; (with_reducible refine (strings_CutPrefix.calls t552 (⟨#[41]⟩ : ByteArray) t558 true _ A11.out).mono ?_); rintro e w17 ⟨rfl, hb⟩; refine ⟨_, rfl, ?_⟩; replace HO557 := A_ (Kd.R_below (vR_ HO557.out) hb); replace BK554 := A_ (bw_ BK554.out hb); replace HB := A_ (below_step (bG_ GE554.out) hb); (try clear hb); (try clear hk)))
           go_ret3
           exact ⟨_, rr_, by (with_reducible repeat (first | apply Kd.R_alloc | apply Kd.R_drewN | apply Kd.R_drew)); exact Kd.R_mono HO557.out (fun _ hk => trivial), bG_ GE554.out⟩
         · replace c12 := Bool.eq_false_iff.mpr c12
           subst c12
           rw [if_neg nf_] at H
           obtain ⟨⟨t560, t561⟩, A18, H⟩ := bo_ H
           (try dsimp only at H)
           have H' := A_ H
           clear H
           go_wp2_with (first | ((with_reducible refine gc_ (f := 105) rfl ?_); refine gL_ (some 25) Tryd.func105 #[.string x0_1] ?_; (with_reducible refine (impl_condAt.calls kj3 x0_1 t549 t550 t551 t552 true _ ?gT12 ?gM12 ?gE12 A8.out).mono ?_); (case gT12 => first | exact gT_ HGT.out (bG_ GE554.out) | exact gT_ HGT.out bB_); (case gM12 => first | exact gM_ HGM.out (bG_ GE554.out) | exact gM_ HGM.out bB_); (case gE12 => first | exact gE_ HGE.out (bG_ GE554.out) | exact gE_ HGE.out bB_); rintro e w19 ⟨rfl, hb⟩; refine ⟨_, rfl, ?_⟩; replace HO_6 := A_ (Kd.R_below (vR_ HO_6.out) hb); replace HB := A_ (below_step bB_ hb); (try clear hb); (try clear hk)) | ((with_reducible refine gd_ (N := 7) rfl ?_); (try (refine gate_guard (by rfl) ?_; dsimp only)); refine bx_ (N := 7) (cs := #[.bool false, .int .i64 0, .string (⟨#[]⟩ : ByteArray)]) (t := 79) ?_; intro gb554 hg w20 hbox hb; replace HO_6 := A_ (Kd.R_below (Kd.R_elderB (vR_ HO_6.out) gb554 (Nat.le_of_eq hg.symm)) hb); have BK554 := A_ (hbox); have GW554 := A_ (ge_ hg bB_ : w.heap.size ≤ gb554); have GE554 := A_ (ge_ hg bB_ : w.heap.size ≤ gb554); replace HB := A_ (below_step bB_ hb); clear hb hbox hg; obtain ⟨hcz21_0, hcz21_1, hcz21_2, hfz21_0, hfz21_1, hfz21_2⟩ := cz3_ BK554.out) | ((with_reducible refine gate_builtin (b := .append) (xs := #[.tmp 31, .tmp 33]) rfl ?_); (try (refine gate_guard (by rfl) ?_; dsimp only)); at_builtin; refine Kd.R_append k79 (w0 := w) w.heap.size rfl (.tmp 31) (.tmp 33) 76 79 (.agg #[(.bool false), (.int .i64 0), (.string ⟨#[]⟩)]) 32 rfl Tryd.underlying76 info79 rfl (by decide) (by omega) u6 x6_1 (⟨t549, t550, t551⟩ : S79) [.bool t549, .int .i64 t550, .string t551] (fun k_ => k_ ≠ gb554) (fun _ => False) rfl (by first | (go_simp; done) | (go_simp; rfl)) ?aP (fun _ hk => hk.elim) ?aF ?aO ?aB ?aS ?aL ?_; (case aP => exact k79_mkM _ _ _ (⟨t549, t550, t551⟩ : S79)); (case aB => exact (bG_ GE554.out)); (case aF => exact (fun k_ hk => Kd.freshB (g := gb554) (o := .cells #[.bool t549, .int .i64 t550, .string t551] 79 (0, 0)) (by (with_reducible repeat (first | refine blk_drewN ?_ _ | refine blk_drew ?_ | refine blk_alloc ?_ _)); refine blk_put (cs := #[.bool t549, .int .i64 t550, .string (⟨#[]⟩ : ByteArray)]) ?_ 2 _ rfl; (with_reducible repeat (first | refine blk_drewN ?_ _ | refine blk_drew ?_ | refine blk_alloc ?_ _)); refine blk_put (cs := #[.bool t549, .int .i64 0, .string (⟨#[]⟩ : ByteArray)]) ?_ 1 _ rfl; (with_reducible repeat (first | refine blk_drewN ?_ _ | refine blk_drew ?_ | refine blk_alloc ?_ _)); refine blk_put (cs := #[.bool false, .int .i64 0, .string (⟨#[]⟩ : ByteArray)]) ?_ 0 _ rfl; (with_reducible repeat (first | refine blk_drewN ?_ _ | refine blk_drew ?_ | refine blk_alloc ?_ _)); exact BK554.out) k_ hk)); (case aO => exact (by (with_reducible repeat (first | apply Kd.R_alloc | apply Kd.R_drewN | apply Kd.R_drew)); exact Kd.R_mono (Kd.R_far (p := ⟨gb554, 2, none⟩) (Kd.R_far (p := ⟨gb554, 1, none⟩) (Kd.R_far (p := ⟨gb554, 0, none⟩) (Kd.R_mono HO_6.out (fun k_ hk => (⟨hk, hk.2⟩ : _ ∧ k_ ≠ gb554))) (fun _ hk => hk.2) (.bool t549)) (fun _ hk => hk.2) (.int .i64 t550)) (fun _ hk => hk.2) (.string t551)) (fun _ hk => hk.1.2))); (case aS => exact (below_size (bG_ GE554.out))); (case aL => have := LMc10.out; omega); intro v556 w22 ho hb hg hat; rw [← Ny555.out] at ho; replace BK554 := A_ (blk_grown (g := gb554) (o := .cells #[.bool t549, .int .i64 t550, .string t551] 79 (0, 0)) (by (with_reducible repeat (first | refine blk_drewN ?_ _ | refine blk_drew ?_ | refine blk_alloc ?_ _)); refine blk_put (cs := #[.bool t549, .int .i64 t550, .string (⟨#[]⟩ : ByteArray)]) ?_ 2 _ rfl; (with_reducible repeat (first | refine blk_drewN ?_ _ | refine blk_drew ?_ | refine blk_alloc ?_ _)); refine blk_put (cs := #[.bool t549, .int .i64 0, .string (⟨#[]⟩ : ByteArray)]) ?_ 1 _ rfl; (with_reducible repeat (first | refine blk_drewN ?_ _ | refine blk_drew ?_ | refine blk_alloc ?_ _)); refine blk_put (cs := #[.bool false, .int .i64 0, .string (⟨#[]⟩ : ByteArray)]) ?_ 0 _ rfl; (with_reducible repeat (first | refine blk_drewN ?_ _ | refine blk_drew ?_ | refine blk_alloc ?_ _)); exact BK554.out) hg (Kd.R_away HO_6.out (fun _ hk => hk.2))); replace HB := A_ (hb); have HO557 := A_ (ho); clear HO_6; clear ho hb hg hat) | ((with_reducible refine gc_ (f := 61) rfl ?_); refine gL_ (some 37) Tryd.func61 #[.string t552, .string (⟨#[41]⟩ : ByteArray)] ?_; (with_reducible refine (strings_CutPrefix.calls t552 (⟨#[41]⟩ : ByteArray) t558 false _ A11.out).mono ?_); rintro e w23 ⟨rfl, hb⟩; refine ⟨_, rfl, ?_⟩; replace HO557 := A_ (Kd.R_below (vR_ HO557.out) hb); replace BK554 := A_ (bw_ BK554.out hb); replace HB := A_ (below_step (bG_ GE554.out) hb); (try clear hb); (try clear hk)) | ((with_reducible refine gc_ (f := 61) rfl ?_); refine gL_ (some 45) Tryd.func61 #[.string t552, .string (⟨#[32]⟩ : ByteArray)] ?_; (with_reducible refine (strings_CutPrefix.calls t552 (⟨#[32]⟩ : ByteArray) t560 t561 _ A18.out).mono ?_); rintro e w24 ⟨rfl, hb⟩; refine ⟨_, rfl, ?_⟩; replace HO557 := A_ (Kd.R_below (vR_ HO557.out) hb); replace BK554 := A_ (bw_ BK554.out hb); replace HB := A_ (below_step (bG_ GE554.out) hb); (try clear hb); (try clear hk)))
           go_roundg kj3
           case measure => have := HK1.out; have := HJ3.out; omega
           case rel => exact ⟨(t560), (t561), (y555), rs_, rs_, H', ⟨by have := HK1.out; have := HJ3.out; omega⟩, ⟨by (with_reducible repeat (first | apply Kd.R_alloc | apply Kd.R_drewN | apply Kd.R_drew)); exact Kd.R_mono HO557.out (fun _ hk => trivial)⟩, ⟨bG_ GE554.out⟩⟩
       · replace c9 := Bool.eq_false_iff.mpr c9
         subst c9
         rw [if_neg nf_] at H
         simp only [Option.some.injEq, Prod.mk.injEq] at H
         obtain ⟨rfl, rfl, rfl⟩ := H
         go_wp2_with (first | ((with_reducible refine gc_ (f := 105) rfl ?_); refine gL_ (some 25) Tryd.func105 #[.string x0_1] ?_; (with_reducible refine (impl_condAt.calls kj3 x0_1 t549 t550 t551 t552 false _ ?gT13 ?gM13 ?gE13 A8.out).mono ?_); (case gT13 => first | exact gT_ HGT.out (bG_ GE554.out) | exact gT_ HGT.out bB_); (case gM13 => first | exact gM_ HGM.out (bG_ GE554.out) | exact gM_ HGM.out bB_); (case gE13 => first | exact gE_ HGE.out (bG_ GE554.out) | exact gE_ HGE.out bB_); rintro e w25 ⟨rfl, hb⟩; refine ⟨_, rfl, ?_⟩; replace HO_6 := A_ (Kd.R_below (vR_ HO_6.out) hb); replace HB := A_ (below_step bB_ hb); (try clear hb)) | ((with_reducible refine gd_ (N := 7) rfl ?_); (try (refine gate_guard (by rfl) ?_; dsimp only)); refine bx_ (N := 7) (cs := #[.bool false, .int .i64 0, .string (⟨#[]⟩ : ByteArray)]) (t := 79) ?_; intro gb554 hg w26 hbox hb; replace HO_6 := A_ (Kd.R_below (Kd.R_elderB (vR_ HO_6.out) gb554 (Nat.le_of_eq hg.symm)) hb); have BK554 := A_ (hbox); have GW554 := A_ (ge_ hg bB_ : w.heap.size ≤ gb554); have GE554 := A_ (ge_ hg bB_ : w.heap.size ≤ gb554); replace HB := A_ (below_step bB_ hb); clear hb hbox hg; obtain ⟨hcz27_0, hcz27_1, hcz27_2, hfz27_0, hfz27_1, hfz27_2⟩ := cz3_ BK554.out))
         go_ret3
         exact ⟨_, rr_, by first | exact Kd.R_nil _ _ _ _ _ | exact Kd.N_nil _ _ _ _ _ | exact Kd.V_nil _ _ _ _ _ | exact Kd.Q_nil _ _ _ _ _ | exact Kd.S_nil _ _ _ _ _, bG_ GE554.out⟩
     · replace c7 := Bool.eq_false_iff.mpr c7
       subst c7
       rw [if_neg nf_] at H
       simp only [Option.some.injEq, Prod.mk.injEq] at H
       obtain ⟨rfl, rfl, rfl⟩ := H
       go_wp2
       go_ret3
       exact ⟨_, rr_, by first | exact Kd.R_nil _ _ _ _ _ | exact Kd.N_nil _ _ _ _ _ | exact Kd.V_nil _ _ _ _ _ | exact Kd.Q_nil _ _ _ _ _ | exact Kd.S_nil _ _ _ _ _, bB_⟩
mutual
def impl_ParseIf.l0 : Nat → ByteArray → List (List (S79)) → Option ((List (List (S79))) × Bool)
 | 0, _, _ => none
 | k + 1, x0, x4 => (impl_listAt.f k x0).bind fun bt562 => (if bt562.2.2 = true then (impl_ParseIf.j1 k x4 bt562.1 bt562.2.1 (decide ((x4.length : Int) ≥ 4))) else (impl_ParseIf.j1 k x4 bt562.1 bt562.2.1 true))
def impl_ParseIf.j1 : Nat → List (List (S79)) → List (S79) → ByteArray → Bool → Option ((List (List (S79))) × Bool)
 | 0, _, _, _, _ => none
 | k + 1, x4, x5, x6, x20 => if x20 = true then (some (([] : List (List (S79))), false)) else (if x4.length < 5864062014805 then ((some (x4 ++ [x5] : List (List (S79)))).bind fun y567 => (if x6.toList = ([] : List UInt8) then (some (y567, true)) else ((strings_TrimLeft.f x6 (⟨#[32]⟩ : ByteArray)).bind fun t570 => (impl_ParseIf.l0 k t570 y567)))) else (none))
end
def impl_ParseIf.f (k : Nat) (a0 : ByteArray) : Option ((List (List (S79))) × Bool) := impl_ParseIf.l0 k a0 ([] : List (List (S79)))
theorem impl_ParseIf.calls (k : Nat) (a0 : ByteArray) (r1 : List (List (S79))) (r2 : Bool) (w : World) (hGT : GT w) (hGM : GM w) (hGE : GE w) (h : impl_ParseIf.f k a0 = some (r1, r2)) :
 Calls Tryd.prog 55 #[.string a0] w fun e w' => ∃ v0_ : Value, e = .returned (.tuple #[v0_, .bool r2]) ∧ Kd.S (Kd.slice 79 k79) 76 w' w.heap.size (fun _ => True) v0_ r1 ∧ Below w.heap.size w w' := by
 have HGT := A_ hGT
 have HGM := A_ hGM
 have HGE := A_ hGE
 clear hGT hGM hGE
 have HB := A_ (Below.refl w.heap.size w)
 have H : (impl_ParseIf.l0 k a0 ([] : List (List (S79)))) = some (r1, r2) := h
 clear h
 have H' := A_ H
 clear H
 go_enter Tryd.func55, Tryd.ntmps55
 go_wp2
 go_loopg [0, 4] k (fun kq v0 v4 w' => ∃ (x0_1 : ByteArray) (x4_1 : List (List (S79))), v0 = .string x0_1 ∧ Aside0 (impl_ParseIf.l0 kq x0_1 x4_1 = some (r1, r2)) ∧ Aside0 (kq ≤ k) ∧ Aside0 (Kd.S (Kd.slice 79 k79) 76 w' w.heap.size (fun _ => True) v4 x4_1) ∧ Aside0 (Below w.heap.size w w'))
 case atStart => exact ⟨(a0), (([] : List (List (S79)))), rs_, H', ⟨Nat.le_refl _⟩, ⟨by first | exact Kd.S_nil _ _ _ _ _ | exact Kd.N_nil _ _ _ _ _ | exact Kd.V_nil _ _ _ _ _ | exact Kd.Q_nil _ _ _ _ _ | exact Kd.R_nil _ _ _ _ _⟩, ⟨bB_⟩⟩
 case round =>
  clear H'
  obtain ⟨x0_1, x4_1, rfl, HA, HK1, HO_4, HB⟩ := hrel
  cases gk with
  | zero => exact absurd HA.out (by simp [impl_ParseIf.l0])
  | succ k1 =>
   have H := HA.out
   clear HA
   simp only [impl_ParseIf.l0] at H
   obtain ⟨⟨t562, t563, t564⟩, A2, H⟩ := bo_ H
   (try dsimp only at H)
   have HC3 := A_ H
   clear H
   go_upto_region 3 with (first | ((with_reducible refine gc_ (f := 81) rfl ?_); refine gL_ (some 10) Tryd.func81 #[.string x0_1] ?_; (with_reducible refine (impl_listAt.calls k1 x0_1 t562 t563 t564 _ ?gT14 ?gM14 ?gE14 A2.out).mono ?_); (case gT14 => exact gT_ HGT.out bB_); (case gM14 => exact gM_ HGM.out bB_); (case gE14 => exact gE_ HGE.out bB_); rintro e w4 ⟨v565, rfl, ho0, hb⟩; refine ⟨_, rfl, ?_⟩; replace HO_4 := A_ (Kd.S_elder' (vS_ HO_4.out) (kb_ ho0) hb); have HO566 := A_ (Kd.R_lower ho0 (below_size bB_)); replace HB := A_ (below_step bB_ hb); (try clear hb); (try clear ho0)))
   (try simp only [Act.put, List.setIfInBounds_toArray, List.set_cons_zero, List.set_cons_succ])
   go_cut [20] (fun v20 wc => ∃ (kq : Nat) (x20_2 : Bool), v20 = .bool x20_2 ∧ Aside0 (impl_ParseIf.j1 kq x4_1 t562 t563 x20_2 = some (r1, r2)) ∧ Aside0 (kq ≤ k1) ∧ Aside0 (Kd.S (Kd.slice 79 k79) 76 wc w.heap.size (fun k_ => some k_ ≠ (v565 : Value).ownBlock) u4 x4_1) ∧ Aside0 (Kd.R k79 79 wc w.heap.size (fun _ => True) v565 t562) ∧ Aside0 (Below w.heap.size w wc))
   case first =>
    have H := HC3.out
    clear HC3
    by_cases c5 : t564 = true
    · subst c5
      rw [if_pos rfl] at H
      have H' := A_ H
      clear H
      obtain ⟨Ao6, co6, eo6⟩ := Kd.S_slice HO_4.out
      subst eo6
      go_wp2
      go_meet
      case rel => exact ⟨_, (decide ((x4_1.length : Int) ≥ 4)), rs_, H', ⟨by have := HK1.out; first | omega | exact Nat.le_refl _⟩, ⟨by (with_reducible repeat (first | apply Kd.S_alloc | apply Kd.S_drewN | apply Kd.S_drew)); exact Kd.S_mono HO_4.out (fun _ hk => hk.2)⟩, ⟨vR_ HO566.out⟩, ⟨bB_⟩⟩
    · replace c5 := Bool.eq_false_iff.mpr c5
      subst c5
      rw [if_neg nf_] at H
      have H' := A_ H
      clear H
      go_wp2
      go_meet
      case rel => exact ⟨_, (true), rs_, H', ⟨by have := HK1.out; first | omega | exact Nat.le_refl _⟩, ⟨by (with_reducible repeat (first | apply Kd.S_alloc | apply Kd.S_drewN | apply Kd.S_drew)); exact Kd.S_mono HO_4.out (fun _ hk => hk.2)⟩, ⟨vR_ HO566.out⟩, ⟨bB_⟩⟩
   case rest =>
    clear HC3
    try clear p2
    try clear c5
    obtain ⟨kq, x20_2, rfl, HA, HJ2, HO_4, HO_5, HB⟩ := hcut
    cases kq with
    | zero => exact absurd HA.out (by simp [impl_ParseIf.j1])
    | succ kj2 =>
     have H := HA.out
     clear HA
     simp only [impl_ParseIf.j1] at H
     by_cases c7 : x20_2 = true
     · subst c7
       rw [if_pos rfl] at H
       simp only [Option.some.injEq, Prod.mk.injEq] at H
       obtain ⟨rfl, rfl⟩ := H
       go_wp2
       go_ret2
       exact ⟨_, rr_, by first | exact Kd.S_nil _ _ _ _ _ | exact Kd.N_nil _ _ _ _ _ | exact Kd.V_nil _ _ _ _ _ | exact Kd.Q_nil _ _ _ _ _ | exact Kd.R_nil _ _ _ _ _, bB_⟩
     · replace c7 := Bool.eq_false_iff.mpr c7
       subst c7
       rw [if_neg nf_] at H
       by_cases c8 : x4_1.length < 5864062014805
       rotate_left
       · exact absurd H (by rw [if_neg c8]; simp)
       rw [if_pos c8] at H
       have LMc8 := A_ c8
       clear c8
       obtain ⟨y567, hy567⟩ : ∃ y_ : List (List (S79)), y_ = (x4_1 ++ [t562]) := ⟨_, rfl⟩
       replace H : (if t563.toList = ([] : List UInt8) then (some (y567, true)) else ((strings_TrimLeft.f t563 (⟨#[32]⟩ : ByteArray)).bind fun t570 => (impl_ParseIf.l0 kj2 t570 y567))) = some (r1, r2) := hy_ hy567 H
       have Ny567 := A_ hy567
       clear hy567
       by_cases c9 : t563.toList = ([] : List UInt8)
       · rw [if_pos c9] at H
         have c9b0 : (t563.toList == ([] : List UInt8)) = true := beq_iff_eq.mpr c9
         have c9b1 : (t563.toList != ([] : List UInt8)) = false := bne_eq_false_iff_eq.mpr c9
         clear c9
         simp only [Option.some.injEq, Prod.mk.injEq] at H
         obtain ⟨rfl, rfl⟩ := H
         obtain ⟨Ao11, co11, eo11⟩ := Kd.R_slice HO_5.out
         subst eo11
         go_wp2_with (first | ((with_reducible refine gate_builtin (b := .append) (xs := #[.tmp 21, .tmp 23]) rfl ?_); (try (refine gate_guard (by rfl) ?_; dsimp only)); at_builtin; refine Kd.S_append (Kd.slice 79 k79) (w0 := w) w.heap.size rfl (.tmp 21) (.tmp 23) 50 76 (.slice none 0 0) 24 rfl Tryd.underlying50 info76 rfl (by decide) (by omega) u4 x4_1 t562 [.slice Ao11 t562.length co11] (fun _ => True) (fun k_ => some k_ = (.slice Ao11 t562.length co11 : Value).ownBlock) rfl rfl ?aP (fun k_ hk_ => ((Kd.R_mono (ok' := fun k_ => ((fun _ => True)) k_ ∧ some k_ ≠ (u4 : Value).ownBlock) (Kd.R_apart' (HO_5.out) (Kd.S_typed HO_4.out) (by decide)) (fun k_ hk => ⟨trivial, hk.2⟩))).1 k_ hk_.symm) ?aF ?aO ?aB ?aS ?aL ?_; (case aP => exact Kd.M_row (Kd.R_mono (Kd.R_tight rfl (Kd.R_mono (ok' := fun k_ => ((fun _ => True)) k_ ∧ some k_ ≠ (u4 : Value).ownBlock) (Kd.R_apart' (HO_5.out) (Kd.S_typed HO_4.out) (by decide)) (fun k_ hk => ⟨trivial, hk.2⟩))) (fun _ h_ => h_))); (case aB => exact bB_); (case aF => exact (fun _ _ => trivial)); (case aO => exact (by (with_reducible repeat (first | apply Kd.S_alloc | apply Kd.S_drewN | apply Kd.S_drew)); exact Kd.S_mono HO_4.out (fun k_ hk => ⟨trivial, fun e_ => hk e_⟩))); (case aS => exact (below_size bB_)); (case aL => have := LMc8.out; omega); intro v568 w10 ho hb hg hat; rw [← Ny567.out] at ho; replace HB := A_ (hb); have HO569 := A_ (ho); clear HO_4 HO_5; clear ho hb hg hat))
         go_ret2
         exact ⟨_, rr_, by (with_reducible repeat (first | apply Kd.S_alloc | apply Kd.S_drewN | apply Kd.S_drew)); exact HO569.out, bB_⟩
       rw [if_neg c9] at H
       have c9b0 : (t563.toList == ([] : List UInt8)) = false := beq_eq_false_iff_ne.mpr c9
       have c9b1 : (t563.toList != ([] : List UInt8)) = true := bne_iff_ne.mpr c9
       obtain ⟨t570, A12, H⟩ := bo_ H
       (try dsimp only at H)
       have H' := A_ H
       clear H
       obtain ⟨Ao14, co14, eo14⟩ := Kd.R_slice HO_5.out
       subst eo14
       go_wp2_with (first | ((with_reducible refine gate_builtin (b := .append) (xs := #[.tmp 21, .tmp 23]) rfl ?_); (try (refine gate_guard (by rfl) ?_; dsimp only)); at_builtin; refine Kd.S_append (Kd.slice 79 k79) (w0 := w) w.heap.size rfl (.tmp 21) (.tmp 23) 50 76 (.slice none 0 0) 24 rfl Tryd.underlying50 info76 rfl (by decide) (by omega) u4 x4_1 t562 [.slice Ao14 t562.length co14] (fun _ => True) (fun k_ => some k_ = (.slice Ao14 t562.length co14 : Value).ownBlock) rfl rfl ?aP (fun k_ hk_ => ((Kd.R_mono (ok' := fun k_ => ((fun _ => True)) k_ ∧ some k_ ≠ (u4 : Value).ownBlock) (Kd.R_apart' (HO_5.out) (Kd.S_typed HO_4.out) (by decide)) (fun k_ hk => ⟨trivial, hk.2⟩))).1 k_ hk_.symm) ?aF ?aO ?aB ?aS ?aL ?_; (case aP => exact Kd.M_row (Kd.R_mono (Kd.R_tight rfl (Kd.R_mono (ok' := fun k_ => ((fun _ => True)) k_ ∧ some k_ ≠ (u4 : Value).ownBlock) (Kd.R_apart' (HO_5.out) (Kd.S_typed HO_4.out) (by decide)) (fun k_ hk => ⟨trivial, hk.2⟩))) (fun _ h_ => h_))); (case aB => exact bB_); (case aF => exact (fun _ _ => trivial)); (case aO => exact (by (with_reducible repeat (first | apply Kd.S_alloc | apply Kd.S_drewN | apply Kd.S_drew)); exact Kd.S_mono HO_4.out (fun k_ hk => ⟨trivial, fun e_ => hk e_⟩))); (case aS => exact (below_size bB_)); (case aL => have := LMc8.out; omega); intro v568 w13 ho hb hg hat; rw [← Ny567.out] at ho; replace HB := A_ (hb); have HO569 := A_ (ho); clear HO_4 HO_5; clear ho hb hg hat) | ((with_reducible refine gc_ (f := 82) rfl ?_); refine gL_ (some 29) Tryd.func82 #[.string t563, .string (⟨#[32]⟩ : ByteArray)] ?_; (with_reducible refine (strings_TrimLeft.calls t563 (⟨#[32]⟩ : ByteArray) t570 _ A12.out).mono ?_); rintro e w15 ⟨rfl, hb⟩; refine ⟨_, rfl, ?_⟩; replace HO569 := A_ (Kd.S_below (vS_ HO569.out) hb); replace HB := A_ (below_step bB_ hb); (try clear hb)))
       go_roundg kj2
       case measure => have := HK1.out; have := HJ2.out; omega
       case rel => exact ⟨(t570), (y567), rs_, H', ⟨by have := HK1.out; have := HJ2.out; omega⟩, ⟨vS_ HO569.out⟩, ⟨bB_⟩⟩
end Go.Proofs.YtigoeooelfeopaaDoor.Q
