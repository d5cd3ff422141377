-- PRINTED by print.py (a twelfth state) out of the translation. Not trusted: Lean checks it.
import Derived.Test.YtigoeooelfeopaaVSameSrvG26
set_option maxHeartbeats 8000000
set_option maxRecDepth 100000
namespace Go.Proofs.Ytigoeooelfeopaa.Q
open Go.RowKit Go.Proofs.YtigoeooelfeopaaW.PrintWords Go.Proofs.YtigoeooelfeopaaW.PrintLast Go.Proofs.YtigoeooelfeopaaW.PrintMore
attribute [local go_sem] max2_int min2_int max_two min_two max_three min_three max_four min_four   -- for this text's walks alone
set_option linter.unusedVariables false
set_option linter.unusedSimpArgs false
def laws_toLockS.l0 : Nat → List (S90) → List (S82) → Int → Option ((List (S82)))
 | 0, _, _, _ => none
 | k + 1, x0, x3, x4 => if x4 < (x0.length : Int) then (if 0 ≤ x4 then ((laws_toLock.f k ((rd_T90 x0 x4).f0) ((rd_T90 x0 x4).f1) ((rd_T90 x0 x4).f2) ((rd_T90 x0 x4).f3) ((rd_T90 x0 x4).f4)).bind fun bt224 => (if x4 < (x3.length : Int) then (laws_toLockS.l0 k x0 (x3.set (x4 : Int).toNat (⟨bt224.1, bt224.2.1, bt224.2.2.1, bt224.2.2.2.1, bt224.2.2.2.2⟩ : S82)) (wrap64 (x4 + 1))) else (none))) else (none)) else (some x3)
def laws_toLockS.f (k : Nat) (l0 : List (S90)) : Option ((List (S82))) := if 0 ≤ (l0.length : Int) then (if ((l0.length : Int) : Int).toNat ≤ 5864062014805 then (laws_toLockS.l0 k l0 (List.replicate ((l0.length : Int) : Int).toNat z82) 0) else (none)) else (none)
theorem laws_toLockS.calls (k : Nat) (A0 : Option Addr) (c0 : Nat) (l0 : List (S90)) (r : List (S82)) (w : World) (hr0 : Kd.C k90 w A0 l0.length l0) (hc0 : l0.length ≤ c0) (h : laws_toLockS.f k l0 = some r) :
 Calls Try.prog 51 #[.slice A0 l0.length c0] w fun e w' => ∃ v0_ : Value, e = .returned (v0_) ∧ Kd.S k82 82 w' w.heap.size (fun _ => True) v0_ r ∧ Below w.heap.size w w' := by
 have hu90 := Try.underlying90
 have hu82 := Try.underlying82
 have HR0 := A_ hr0
 have HC0 := A_ hc0
 clear hr0 hc0
 have HB := A_ (Below.refl w.heap.size w)
 have H : (if 0 ≤ (l0.length : Int) then (if ((l0.length : Int) : Int).toNat ≤ 5864062014805 then (laws_toLockS.l0 k l0 (List.replicate ((l0.length : Int) : Int).toNat z82) 0) else (none)) else (none)) = some r := h
 clear h
 by_cases c2 : 0 ≤ (l0.length : Int)
 rotate_left
 · exact absurd H (by rw [if_neg c2]; simp)
 rw [if_pos c2] at H
 have c2b0 := eq_true c2
 have c2b1 : decide (0 ≤ (l0.length : Int)) = true := decide_eq_true c2
 clear c2
 by_cases c3 : ((l0.length : Int) : Int).toNat ≤ 5864062014805
 rotate_left
 · exact absurd H (by rw [if_neg c3]; simp)
 rw [if_pos c3] at H
 have c3b0 := eq_true c3
 have c3b1 : decide (((l0.length : Int) : Int).toNat ≤ 5864062014805) = true := decide_eq_true c3
 clear c3
 obtain ⟨y220, hy220⟩ : ∃ y_ : List (S82), y_ = (List.replicate ((l0.length : Int) : Int).toNat z82) := ⟨_, rfl⟩
 replace H : (laws_toLockS.l0 k l0 y220 0) = some r := hy_ hy220 H
 have Ny220 := A_ hy220
 clear hy220
 have H' := A_ H
 clear H
 go_enter Try.func51, Try.ntmps51
 go_wp2_with (first | ((with_reducible refine gd_ (N := 7) rfl ?_); refine Kd.S_make k82 _ 82 rfl (N := 7) rfl 38 _ _ rfl (l0.length : Int) rfl rfl Try.underlying38 (.agg #[(.int .i64 0), (.slice none 0 0), (.bool false), (.bool false), (.int .i64 0)]) 48 info82 rfl (by decide) (by omega) z82 (ok := fun _ => True) (okp := fun _ => True) (k82_mkM _ _ _ z82 (Kd.R_nil _ _ _ _ _)) (fun _ hk => hk) trivial od_ (Nat.le_trans (Nat.mul_le_mul_right _ (od_ : (l0.length : Int).toNat ≤ 5864062014805)) (by omega)) (Below.refl _ _) (Nat.le_refl _) ?_; intro v221 w4 ho5 hb hg_ hnew_; clear hg_ hnew_; (first | rw [← Ny220.out] at ho5 | (simp only [Int.reduceToNat] at ho5; rw [← Ny220.out] at ho5)); have HO222 := A_ (Kd.S_lower ho5 (below_size bB_)); replace HB := A_ (below_step bB_ hb); clear hb ho5))
 go_loopg [4] k (fun kq v4 w' => ∃ (x3_1 : List (S82)) (x4_1 : Int), v4 = .int .i64 x4_1 ∧ Aside0 (laws_toLockS.l0 kq l0 x3_1 x4_1 = some r) ∧ Aside0 (kq ≤ k) ∧ Aside0 (Kd.S k82 82 w' w.heap.size (fun _ => True) v221 x3_1) ∧ Aside0 (Below w.heap.size w w'))
 case atStart => exact ⟨(y220), (0), rs_, H', ⟨Nat.le_refl _⟩, ⟨vS_ HO222.out⟩, ⟨bB_⟩⟩
 case round =>
  clear H'
  try clear c2
  try clear c2b0
  try clear c2b1
  try clear p2
  try clear c3
  try clear c3b0
  try clear c3b1
  try clear c5
  obtain ⟨x3_1, x4_1, rfl, HA, HK1, HO_3, HB⟩ := hrel
  cases gk with
  | zero => exact absurd HA.out (by simp [laws_toLockS.l0])
  | succ k1 =>
   have H := HA.out
   clear HA
   simp only [laws_toLockS.l0] at H
   by_cases c6 : x4_1 < (l0.length : Int)
   rotate_left
   · rw [if_neg c6] at H
     have c6b0 : decide (x4_1 < (l0.length : Int)) = false := decide_eq_false c6
     clear c6
     obtain rfl := si_ H
     go_wp2
     go_ret
     exact ⟨_, rr_, by (with_reducible repeat (first | apply Kd.S_alloc | apply Kd.S_drewN | apply Kd.S_drew)); exact HO_3.out, bB_⟩
   rw [if_pos c6] at H
   have c6b0 : decide (x4_1 < (l0.length : Int)) = true := decide_eq_true c6
   clear c6
   by_cases c7 : 0 ≤ x4_1
   rotate_left
   · exact absurd H (by rw [if_neg c7]; simp)
   rw [if_pos c7] at H
   have c7b0 : decide (0 ≤ x4_1) = true := decide_eq_true c7
   clear c7
   obtain ⟨⟨t224, t225, t228, t229, t230⟩, A8, H⟩ := bo_ H
   (try dsimp only at H)
   by_cases c9 : x4_1 < (x3_1.length : Int)
   rotate_left
   · exact absurd H (by rw [if_neg c9]; simp)
   rw [if_pos c9] at H
   have c9b0 : decide (x4_1 < (x3_1.length : Int)) = true := decide_eq_true c9
   clear c9
   obtain ⟨y231, hy231⟩ : ∃ y_ : List (S82), y_ = (x3_1.set (x4_1 : Int).toNat (⟨t224, t225, t228, t229, t230⟩ : S82)) := ⟨_, rfl⟩
   replace H : (laws_toLockS.l0 k1 l0 y231 (wrap64 (x4_1 + 1))) = some r := hy_ hy231 H
   have Ny231 := A_ hy231
   clear hy231
   have H' := A_ H
   clear H
   have p223 : 0 ≤ (x4_1 : Int) := od_
   have q223 : x4_1 < (l0.length : Int) := od_
   obtain ⟨ad223, A223_1, c223_1, e223, hx223_0, hx223_1, hx223_2, hx223_3, hx223_4, hl223_1, hi223_1⟩ := at_T90 HR0.out x4_1 p223 q223
   cases e223
   replace hx223_0 := bc_ HB.out hx223_0
   replace hx223_1 := bc_ HB.out hx223_1
   replace hx223_2 := bc_ HB.out hx223_2
   replace hx223_3 := bc_ HB.out hx223_3
   replace hx223_4 := bc_ HB.out hx223_4
   have HR223_1 := A_ hi223_1
   have HC223_1 := A_ hl223_1
   clear hi223_1 hl223_1
   replace p223 := eq_true p223
   replace q223 := eq_true q223
   go_wp2_with (first | ((with_reducible refine gc_ (f := 70) rfl ?_); refine gL_ (some 20) Try.func70 #[.agg #[.int .i64 ((rd_T90 l0 x4_1).f0), .slice A223_1 ((rd_T90 l0 x4_1).f1).length c223_1, .bool ((rd_T90 l0 x4_1).f2), .bool ((rd_T90 l0 x4_1).f3), .int .i64 ((rd_T90 l0 x4_1).f4)]] ?_; (with_reducible refine (laws_toLock.calls k1 ((rd_T90 l0 x4_1).f0) _ _ ((rd_T90 l0 x4_1).f1) ((rd_T90 l0 x4_1).f2) ((rd_T90 l0 x4_1).f3) ((rd_T90 l0 x4_1).f4) t224 t225 t228 t229 t230 _ ?s1 ?s2 A8.out).mono ?_); (case s1 => exact cC_ (Kd.C_below HR223_1.out HB.out)); (case s2 => exact HC223_1.out); rintro e w11 ⟨v226, rfl, ho0, hb⟩; refine ⟨_, rfl, ?_⟩; replace HO_3 := A_ (Kd.S_elder' (vS_ HO_3.out) (kb_ ho0) hb); have HO227 := A_ (Kd.R_lower ho0 (below_size bB_)); replace HB := A_ (below_step bB_ hb); (try clear hb); (try clear ho0); have p10 : 0 ≤ (x4_1 : Int) := od_; have q10 : (x4_1 : Int) < ((x3_1.length : Int) : Int) := od_; obtain ⟨go10, co10, eo10, gb10, gl10, cl10, HG10⟩ := Kd.S_form HO_3.out (by omega); (first | cases eo10 | (injection eo10 with ea_ en_ ec_; (first | subst ea_ | (injection ea_ with ea_; subst ea_)); subst ec_; clear en_)); have GB10 := A_ gb10; have GG10 := A_ HG10; clear gb10 gl10 HG10; obtain ⟨_, ce10, hcl10, hM10, hcc10, hfr10, _, _⟩ := Kd.S_elem HO_3.out z82 (x4_1 : Int) p10 q10; obtain ⟨ve10_1, rfl, ge10_1⟩ := k82_openM hM10; have hx10_0 : w11.cell? ⟨go10, (x4_1 : Int).toNat * 5, none⟩ = some (.int .i64 ((rd_T82 x3_1 x4_1).f0)) := hcc10 0 _ rfl; have hx10_1 : w11.cell? ⟨go10, (x4_1 : Int).toNat * 5 + 1, none⟩ = some (ve10_1) := hcc10 1 _ rfl; have hx10_2 : w11.cell? ⟨go10, (x4_1 : Int).toNat * 5 + 2, none⟩ = some (.bool ((rd_T82 x3_1 x4_1).f2)) := hcc10 2 _ rfl; have hx10_3 : w11.cell? ⟨go10, (x4_1 : Int).toNat * 5 + 3, none⟩ = some (.bool ((rd_T82 x3_1 x4_1).f3)) := hcc10 3 _ rfl; have hx10_4 : w11.cell? ⟨go10, (x4_1 : Int).toNat * 5 + 4, none⟩ = some (.int .i64 ((rd_T82 x3_1 x4_1).f4)) := hcc10 4 _ rfl; have hf10_0 : w11.frozen? ⟨go10, (x4_1 : Int).toNat * 5, none⟩ = false := hfr10 0; have hf10_1 : w11.frozen? ⟨go10, (x4_1 : Int).toNat * 5 + 1, none⟩ = false := hfr10 1; have hf10_2 : w11.frozen? ⟨go10, (x4_1 : Int).toNat * 5 + 2, none⟩ = false := hfr10 2; have hf10_3 : w11.frozen? ⟨go10, (x4_1 : Int).toNat * 5 + 3, none⟩ = false := hfr10 3; have hf10_4 : w11.frozen? ⟨go10, (x4_1 : Int).toNat * 5 + 4, none⟩ = false := hfr10 4; (try clear hcl10); (try clear hcc10); (try clear hfr10); (try clear hM10); replace p10 := eq_true p10; replace q10 := eq_true q10; obtain ⟨Ao14, co14, eo14⟩ := Kd.R_slice HO227.out; subst eo14; have n_ := A_ (Kd.S_mono (ok' := (fun k_ => some k_ ≠ (.slice Ao14 t225.length co14 : Value).ownBlock)) HO_3.out (fun k_ hk => hk.2)); clear HO_3; have HO_3 := n_; clear n_; have HX12 := A_ (show Kd.S k82 82 w11 w.heap.size (fun k_ => ((fun _ => True)) k_ ∧ ¬ ((fun k_ => some k_ = (.slice Ao14 t225.length co14 : Value).ownBlock)) k_) (.slice (some ⟨go10, 0, none⟩) x3_1.length co10) x3_1 from (by (with_reducible repeat (first | apply Kd.S_alloc | apply Kd.S_drewN | apply Kd.S_drew)); exact Kd.S_mono HO_3.out (fun k_ hk => ⟨trivial, fun e_ => hk e_⟩))); obtain ⟨oki12, ce12, hcl12, hM12, hcc12, hfr12, hoki12, hH12⟩ := Kd.S_elem HX12.out z82 (x4_1 : Int) od_ (by have h_ : (x4_1 : Int) < ((x3_1.length : Int) : Int) := od_; first | exact h_ | (have e_ := (Kd.S_reads' HO_3.out).1; omega) | simpa using h_); obtain ⟨ve12_1, rfl, ge12_1⟩ := k82_openM hM12; have HP12 := Kd.S_seg hH12 od_ (by have h_ : (x4_1 : Int) < ((x3_1.length : Int) : Int) := od_; first | exact h_ | (have e_ := (Kd.S_reads' HO_3.out).1; omega) | simpa using h_) (seg := [.int .i64 t224, .slice Ao14 t225.length co14, .bool t228, .bool t229, .int .i64 t230]) (j := 0) (show 5 ≤ 5 from by decide) (x' := (⟨t224, t225, t228, t229, t230⟩ : S82)) (k82_mkM _ _ _ (⟨t224, t225, t228, t229, t230⟩ : S82) (Kd.R_mono (Kd.R_tight rfl (Kd.R_mono (ok' := fun k_ => ((fun _ => True)) k_ ∧ k_ ≠ go10) (Kd.R_apart' (HO227.out) (Kd.S_typed HO_3.out) (by decide)) (fun k_ hk => ⟨trivial, fun e_ => (hk.2) (by rw [e_]; rfl)⟩))) (fun _ h_ => Or.inr (h_)))) (fun _ hk => hk) (fun k_ hk_ => ((Kd.R_mono (ok' := fun k_ => ((fun _ => True)) k_ ∧ k_ ≠ go10) (Kd.R_apart' (HO227.out) (Kd.S_typed HO_3.out) (by decide)) (fun k_ hk => ⟨trivial, fun e_ => (hk.2) (by rw [e_]; rfl)⟩))).1 k_ hk_.symm); have hx12_0 := hcc12 0 _ rfl; (try simp only [show (k82).sz = 5 from rfl, Nat.mul_one, Nat.add_zero] at hx12_0); have hf12_0 := hfr12 0; (try simp only [show (k82).sz = 5 from rfl, Nat.mul_one, Nat.add_zero] at hf12_0); have hx12_1 := hcc12 1 _ rfl; (try simp only [show (k82).sz = 5 from rfl, Nat.mul_one, Nat.add_zero] at hx12_1); have hf12_1 := hfr12 1; (try simp only [show (k82).sz = 5 from rfl, Nat.mul_one, Nat.add_zero] at hf12_1); have hx12_2 := hcc12 2 _ rfl; (try simp only [show (k82).sz = 5 from rfl, Nat.mul_one, Nat.add_zero] at hx12_2); have hf12_2 := hfr12 2; (try simp only [show (k82).sz = 5 from rfl, Nat.mul_one, Nat.add_zero] at hf12_2); have hx12_3 := hcc12 3 _ rfl; (try simp only [show (k82).sz = 5 from rfl, Nat.mul_one, Nat.add_zero] at hx12_3); have hf12_3 := hfr12 3; (try simp only [show (k82).sz = 5 from rfl, Nat.mul_one, Nat.add_zero] at hf12_3); have hx12_4 := hcc12 4 _ rfl; (try simp only [show (k82).sz = 5 from rfl, Nat.mul_one, Nat.add_zero] at hx12_4); have hf12_4 := hfr12 4; (try simp only [show (k82).sz = 5 from rfl, Nat.mul_one, Nat.add_zero] at hf12_4); (try clear hcl12); (try clear hcc12); (try clear hfr12); (try clear hM12); (try clear hoki12); (try clear hH12)) | ((with_reducible refine gate_store (t := 82) (p := 21) rfl ?_); refine store_event (t := 82) (p := 21) (v := ?vo_w13) (w1 := (((((w11.setCell ⟨go10, (x4_1 : Int).toNat * 5, none⟩ (.int .i64 t224)).setCell ⟨go10, (x4_1 : Int).toNat * 5 + 1, none⟩ (.slice Ao14 t225.length co14)).setCell ⟨go10, (x4_1 : Int).toNat * 5 + 2, none⟩ (.bool t228)).setCell ⟨go10, (x4_1 : Int).toNat * 5 + 3, none⟩ (.bool t229)).setCell ⟨go10, (x4_1 : Int).toNat * 5 + 4, none⟩ (.int .i64 t230))) ?hg ?ho ?hn ?hr ?_; (case ho => rfl); (case hg => rfl); (case hn => rfl); (case hr => first | (go_simp; done) | (go_simp; rfl)); intro w13 hw; have hg : w11.grownBy w13 (some go10) := (by rw [hw]; exact HP12.2); have hp_ : Kd.S k82 82 w13 w.heap.size (fun _ => True) (.slice (some ⟨go10, 0, none⟩) x3_1.length co10) y231 := (by rw [hw, Ny231.out]; exact HP12.1); clear HP12; replace HO_3 := A_ (hp_); replace HB := A_ ((by rw [hw]; exact below_set (below_set (below_set (below_set (below_set (HB.out) GB10.out) GB10.out) GB10.out) GB10.out) GB10.out : Below w.heap.size w w13)); clear HO227; clear hg hw hp_))
   go_roundg k1
   case measure => have := HK1.out; omega
   case rel => exact ⟨(y231), (wrap64 (x4_1 + 1)), rs_, H', ⟨by have := HK1.out; omega⟩, ⟨vS_ HO_3.out⟩, ⟨bB_⟩⟩
def laws_toSrv.f (k : Nat) (l0_0 : List (S88)) (l0_1 : List (S90)) (a0_2 : Int) (a0_3 : Int) (l0_4 : List Int) (l0_5 : List Int) : Option ((List (S79)) × (List (S82)) × Int × Int × List Int × List Int) := (laws_toResS.f k l0_0).bind fun t235 => ((laws_toLockS.f k l0_1).bind fun t238 => ((laws_toIntS.f k l0_4).bind fun t241 => ((laws_toIntS.f k l0_5).bind fun t244 => (some (t235, t238, a0_2, a0_3, t241, t244)))))
theorem laws_toSrv.calls (k : Nat) (A0_0 : Option Addr) (c0_0 : Nat) (l0_0 : List (S88)) (A0_1 : Option Addr) (c0_1 : Nat) (l0_1 : List (S90)) (a0_2 : Int) (a0_3 : Int) (A0_4 : Option Addr) (c0_4 : Nat) (l0_4 : List Int) (A0_5 : Option Addr) (c0_5 : Nat) (l0_5 : List Int) (r1 : List (S79)) (r2 : List (S82)) (r3 : Int) (r4 : Int) (r5 : List Int) (r6 : List Int) (w : World) (hr0_0 : Kd.C k88 w A0_0 l0_0.length l0_0) (hc0_0 : l0_0.length ≤ c0_0) (hr0_1 : Kd.C k90 w A0_1 l0_1.length l0_1) (hc0_1 : l0_1.length ≤ c0_1) (hr0_4 : Kd.C (Kd.int .i64) w A0_4 l0_4.length l0_4) (hc0_4 : l0_4.length ≤ c0_4) (hr0_5 : Kd.C (Kd.int .i64) w A0_5 l0_5.length l0_5) (hc0_5 : l0_5.length ≤ c0_5) (h : laws_toSrv.f k l0_0 l0_1 a0_2 a0_3 l0_4 l0_5 = some (r1, r2, r3, r4, r5, r6)) :
 Calls Try.prog 29 #[.agg #[.slice A0_0 l0_0.length c0_0, .slice A0_1 l0_1.length c0_1, .int .i64 a0_2, .int .i64 a0_3, .slice A0_4 l0_4.length c0_4, .slice A0_5 l0_5.length c0_5]] w fun e w' => ∃ v0_ v1_ v4_ v5_ : Value, e = .returned (.agg #[v0_, v1_, .int .i64 r3, .int .i64 r4, v4_, v5_]) ∧ Kd.S k79 79 w' w.heap.size (fun _ => True) v0_ r1 ∧ Kd.S k82 82 w' w.heap.size (fun _ => True) v1_ r2 ∧ Kd.R (Kd.int .i64) 3 w' w.heap.size (fun k_ => some k_ ≠ (v5_ : Value).ownBlock) v4_ r5 ∧ Kd.R (Kd.int .i64) 3 w' w.heap.size (fun k_ => some k_ ≠ (v4_ : Value).ownBlock) v5_ r6 ∧ Below w.heap.size w w' := by
 have hu48 := Try.underlying48
 have hu40 := Try.underlying40
 have HR0_0 := A_ hr0_0
 have HC0_0 := A_ hc0_0
 clear hr0_0 hc0_0
 have HR0_1 := A_ hr0_1
 have HC0_1 := A_ hc0_1
 clear hr0_1 hc0_1
 have HR0_4 := A_ hr0_4
 have HC0_4 := A_ hc0_4
 clear hr0_4 hc0_4
 have HR0_5 := A_ hr0_5
 have HC0_5 := A_ hc0_5
 clear hr0_5 hc0_5
 have HB := A_ (Below.refl w.heap.size w)
 have H : ((laws_toResS.f k l0_0).bind fun t235 => ((laws_toLockS.f k l0_1).bind fun t238 => ((laws_toIntS.f k l0_4).bind fun t241 => ((laws_toIntS.f k l0_5).bind fun t244 => (some (t235, t238, a0_2, a0_3, t241, t244)))))) = some (r1, r2, r3, r4, r5, r6) := h
 clear h
 obtain ⟨t235, A2, H⟩ := bo_ H
 (try dsimp only at H)
 obtain ⟨t238, A3, H⟩ := bo_ H
 (try dsimp only at H)
 obtain ⟨t241, A4, H⟩ := bo_ H
 (try dsimp only at H)
 obtain ⟨t244, A5, H⟩ := bo_ H
 (try dsimp only at H)
 simp only [Option.some.injEq, Prod.mk.injEq] at H
 obtain ⟨rfl, rfl, rfl, rfl, rfl, rfl⟩ := H
 go_enter Try.func29, Try.ntmps29
 go_wp2_with (first | ((with_reducible refine gd_ (N := 1) rfl ?_); refine bx_ (N := 1) (cs := #[.slice A0_0 l0_0.length c0_0, .slice A0_1 l0_1.length c0_1, .int .i64 a0_2, .int .i64 a0_3, .slice A0_4 l0_4.length c0_4, .slice A0_5 l0_5.length c0_5]) (t := 48) ?_; intro gb232 hg w6 hbox hb; have BK232 := A_ (hbox); have GW232 := A_ (ge_ hg bB_ : w.heap.size ≤ gb232); have GE232 := A_ (ge_ hg bB_ : w.heap.size ≤ gb232); replace HB := A_ (below_step bB_ hb); clear hb hbox hg) | ((with_reducible refine gd_ (N := 2) rfl ?_); refine bx_ (N := 2) (cs := #[.slice none 0 0, .slice none 0 0, .int .i64 0, .int .i64 0, .slice none 0 0, .slice none 0 0]) (t := 40) ?_; intro gb233 hg w7 hbox hb; have BK233 := A_ (hbox); have GW233 := A_ (ge_ hg (bG_ GE232.out) : w.heap.size ≤ gb233); have GE233 := A_ (ge_ hg (bG_ GE232.out) : w.heap.size ≤ gb233); replace HB := A_ (below_step (bG_ GE232.out) hb); have NB232_233 := A_ (gm_ hg BK232.out); have NB233_232 := A_ (gn_ hg BK232.out); replace BK232 := A_ (bw_ BK232.out hb); clear hb hbox hg) | ((with_reducible refine gd_ (N := 3) rfl ?_); refine bx_ (N := 3) (cs := #[.slice none 0 0, .slice none 0 0, .int .i64 0, .int .i64 0, .slice none 0 0, .slice none 0 0]) (t := 40) ?_; intro gb234 hg w8 hbox hb; have BK234 := A_ (hbox); have GW234 := A_ ((by rw [hg]; exact (below_size (by repeat (first | (with_reducible first | exact HB.out | apply below_alloc | apply pw_below_drewN | apply below_drew1 | refine below_set ?_ GE232.out | refine below_set ?_ GE233.out) | exact HB.out))) : w.heap.size ≤ gb234)); have GE234 := A_ ((by rw [hg]; exact (below_size (by repeat (first | (with_reducible first | exact HB.out | apply below_alloc | apply pw_below_drewN | apply below_drew1 | refine below_set ?_ GE232.out | refine below_set ?_ GE233.out) | exact HB.out))) : w.heap.size ≤ gb234)); replace HB := A_ (below_step (by repeat (first | (with_reducible first | exact HB.out | apply below_alloc | apply pw_below_drewN | apply below_drew1 | refine below_set ?_ GE232.out | refine below_set ?_ GE233.out) | exact HB.out)) hb); have NB232_234 := A_ (gm_ hg BK232.out); have NB234_232 := A_ (gn_ hg BK232.out); replace BK232 := A_ (bw_ BK232.out hb); have NB233_234 := A_ (gm_ hg BK233.out); have NB234_233 := A_ (gn_ hg BK233.out); replace BK233 := A_ (bw_ BK233.out hb); clear hb hbox hg; have hnb9 := NB232_233.out; have hnc9 := NB233_232.out; have hnb10 := NB232_234.out; have hnc10 := NB234_232.out; obtain ⟨hcz11_0, hcz11_1, hcz11_2, hcz11_3, hcz11_4, hcz11_5, hfz11_0, hfz11_1, hfz11_2, hfz11_3, hfz11_4, hfz11_5⟩ := cz6_ BK232.out) | ((with_reducible refine gc_ (f := 50) rfl ?_); refine gL_ (some 6) Try.func50 #[.slice A0_0 l0_0.length c0_0] ?_; (with_reducible refine (laws_toResS.calls k _ _ l0_0 t235 _ ?s1 ?s2 A2.out).mono ?_); (case s1 => exact cC_ (Kd.C_below HR0_0.out HB.out)); (case s2 => exact HC0_0.out); rintro e w12 ⟨v236, rfl, ho0, hb⟩; refine ⟨_, rfl, ?_⟩; have HO237 := A_ (Kd.S_lower ho0 (below_size (by repeat (first | (with_reducible first | exact HB.out | apply below_alloc | apply pw_below_drewN | apply below_drew1 | refine below_set ?_ GE232.out | refine below_set ?_ GE233.out | refine below_set ?_ GE234.out) | exact HB.out)))); replace BK232 := A_ (bw_ BK232.out hb); replace BK233 := A_ (bw_ BK233.out hb); replace BK234 := A_ (bw_ BK234.out hb); replace HB := A_ (below_step (by repeat (first | (with_reducible first | exact HB.out | apply below_alloc | apply pw_below_drewN | apply below_drew1 | refine below_set ?_ GE232.out | refine below_set ?_ GE233.out | refine below_set ?_ GE234.out) | exact HB.out)) hb); (try clear hb); (try clear ho0); obtain ⟨Ao13, co13, eo13⟩ := Kd.S_slice HO237.out; subst eo13; have hnb14 := NB234_233.out; have hnc14 := NB233_234.out; obtain ⟨hcz15_0, hcz15_1, hcz15_2, hcz15_3, hcz15_4, hcz15_5, hfz15_0, hfz15_1, hfz15_2, hfz15_3, hfz15_4, hfz15_5⟩ := cz6_ BK234.out; obtain ⟨hcz16_0, hcz16_1, hcz16_2, hcz16_3, hcz16_4, hcz16_5, hfz16_0, hfz16_1, hfz16_2, hfz16_3, hfz16_4, hfz16_5⟩ := cz6_ BK232.out) | ((with_reducible refine gc_ (f := 51) rfl ?_); refine gL_ (some 10) Try.func51 #[.slice A0_1 l0_1.length c0_1] ?_; (with_reducible refine (laws_toLockS.calls k _ _ l0_1 t238 _ ?s1 ?s2 A3.out).mono ?_); (case s1 => exact Kd.C_below HR0_1.out (by repeat (first | (with_reducible first | exact HB.out | apply below_alloc | apply pw_below_drewN | apply below_drew1 | refine below_set ?_ GE232.out | refine below_set ?_ GE233.out | refine below_set ?_ GE234.out) | exact HB.out))); (case s2 => exact HC0_1.out); rintro e w17 ⟨v239, rfl, ho0, hb⟩; refine ⟨_, rfl, ?_⟩; replace HO237 := A_ (Kd.S_below (by (with_reducible repeat (first | apply Kd.S_alloc | apply Kd.S_drewN | apply Kd.S_drew)); exact (Kd.S_mono (Kd.S_far (p := ⟨gb234, 0, none⟩) (Kd.S_types HO237.out BK234.out (by decide)) (fun _ hk => hk.2) (.slice Ao13 t235.length co13)) (fun _ h_ => h_.1))) hb); have HO240 := A_ (Kd.S_lower ho0 (below_size (by repeat (first | (with_reducible first | exact HB.out | apply below_alloc | apply pw_below_drewN | apply below_drew1 | refine below_set ?_ GE232.out | refine below_set ?_ GE233.out | refine below_set ?_ GE234.out) | exact HB.out)))); replace BK232 := A_ (blk_below (g := gb232) (o := .cells #[.slice A0_0 l0_0.length c0_0, .slice A0_1 l0_1.length c0_1, .int .i64 a0_2, .int .i64 a0_3, .slice A0_4 l0_4.length c0_4, .slice A0_5 l0_5.length c0_5] 48 (0, 0)) (by (with_reducible repeat (first | refine blk_drewN ?_ _ | refine blk_drew ?_ | refine blk_alloc ?_ _)); refine blk_far ?_ NB232_234.out _; (with_reducible repeat (first | refine blk_drewN ?_ _ | refine blk_drew ?_ | refine blk_alloc ?_ _)); exact BK232.out) hb); replace BK233 := A_ (blk_below (g := gb233) (o := .cells #[.slice none 0 0, .slice none 0 0, .int .i64 0, .int .i64 0, .slice none 0 0, .slice none 0 0] 40 (0, 0)) (by (with_reducible repeat (first | refine blk_drewN ?_ _ | refine blk_drew ?_ | refine blk_alloc ?_ _)); refine blk_far ?_ NB233_234.out _; (with_reducible repeat (first | refine blk_drewN ?_ _ | refine blk_drew ?_ | refine blk_alloc ?_ _)); exact BK233.out) hb); replace BK234 := A_ (blk_below (g := gb234) (o := .cells #[.slice Ao13 t235.length co13, .slice none 0 0, .int .i64 0, .int .i64 0, .slice none 0 0, .slice none 0 0] 40 (0, 0)) (by (with_reducible repeat (first | refine blk_drewN ?_ _ | refine blk_drew ?_ | refine blk_alloc ?_ _)); refine blk_put (cs := #[.slice none 0 0, .slice none 0 0, .int .i64 0, .int .i64 0, .slice none 0 0, .slice none 0 0]) ?_ 0 _ rfl; (with_reducible repeat (first | refine blk_drewN ?_ _ | refine blk_drew ?_ | refine blk_alloc ?_ _)); exact BK234.out) hb); replace HB := A_ (below_step (by repeat (first | (with_reducible first | exact HB.out | apply below_alloc | apply pw_below_drewN | apply below_drew1 | refine below_set ?_ GE232.out | refine below_set ?_ GE233.out | refine below_set ?_ GE234.out) | exact HB.out)) hb); (try clear hb); (try clear ho0); obtain ⟨Ao18, co18, eo18⟩ := Kd.S_slice HO240.out; subst eo18; obtain ⟨hcz19_0, hcz19_1, hcz19_2, hcz19_3, hcz19_4, hcz19_5, hfz19_0, hfz19_1, hfz19_2, hfz19_3, hfz19_4, hfz19_5⟩ := cz6_ BK234.out; obtain ⟨hcz20_0, hcz20_1, hcz20_2, hcz20_3, hcz20_4, hcz20_5, hfz20_0, hfz20_1, hfz20_2, hfz20_3, hfz20_4, hfz20_5⟩ := cz6_ BK232.out) | ((with_reducible refine gc_ (f := 13) rfl ?_); refine gL_ (some 20) Try.func13 #[.slice A0_4 l0_4.length c0_4] ?_; (with_reducible refine (laws_toIntS.calls k _ _ l0_4 t241 _ ?s1 ?s2 A4.out).mono ?_); (case s1 => exact Kd.C_below HR0_4.out (by repeat (first | (with_reducible first | exact HB.out | apply below_alloc | apply pw_below_drewN | apply below_drew1 | refine below_set ?_ GE232.out | refine below_set ?_ GE233.out | refine below_set ?_ GE234.out) | exact HB.out))); (case s2 => exact HC0_4.out); rintro e w21 ⟨v242, rfl, ho0, hb⟩; refine ⟨_, rfl, ?_⟩; replace HO237 := A_ (Kd.S_below (by (with_reducible repeat (first | apply Kd.S_alloc | apply Kd.S_drewN | apply Kd.S_drew)); exact (Kd.S_mono (Kd.S_far (p := ⟨gb234, 3, none⟩) (Kd.S_far (p := ⟨gb234, 2, none⟩) (Kd.S_far (p := ⟨gb234, 1, none⟩) (Kd.S_types HO237.out BK234.out (by decide)) (fun _ hk => hk.2) (.slice Ao18 t238.length co18)) (fun _ hk => hk.2) (.int .i64 a0_2)) (fun _ hk => hk.2) (.int .i64 a0_3)) (fun _ h_ => h_.1))) hb); replace HO240 := A_ (Kd.S_below (by (with_reducible repeat (first | apply Kd.S_alloc | apply Kd.S_drewN | apply Kd.S_drew)); exact (Kd.S_mono (Kd.S_far (p := ⟨gb234, 3, none⟩) (Kd.S_far (p := ⟨gb234, 2, none⟩) (Kd.S_far (p := ⟨gb234, 1, none⟩) (Kd.S_types HO240.out BK234.out (by decide)) (fun _ hk => hk.2) (.slice Ao18 t238.length co18)) (fun _ hk => hk.2) (.int .i64 a0_2)) (fun _ hk => hk.2) (.int .i64 a0_3)) (fun _ h_ => h_.1))) hb); have HO243 := A_ (Kd.R_lower ho0 (below_size (by repeat (first | (with_reducible first | exact HB.out | apply below_alloc | apply pw_below_drewN | apply below_drew1 | refine below_set ?_ GE232.out | refine below_set ?_ GE233.out | refine below_set ?_ GE234.out) | exact HB.out)))); replace BK232 := A_ (blk_below (g := gb232) (o := .cells #[.slice A0_0 l0_0.length c0_0, .slice A0_1 l0_1.length c0_1, .int .i64 a0_2, .int .i64 a0_3, .slice A0_4 l0_4.length c0_4, .slice A0_5 l0_5.length c0_5] 48 (0, 0)) (by (with_reducible repeat (first | refine blk_drewN ?_ _ | refine blk_drew ?_ | refine blk_alloc ?_ _)); refine blk_far ?_ NB232_234.out _; (with_reducible repeat (first | refine blk_drewN ?_ _ | refine blk_drew ?_ | refine blk_alloc ?_ _)); refine blk_far ?_ NB232_234.out _; (with_reducible repeat (first | refine blk_drewN ?_ _ | refine blk_drew ?_ | refine blk_alloc ?_ _)); refine blk_far ?_ NB232_234.out _; (with_reducible repeat (first | refine blk_drewN ?_ _ | refine blk_drew ?_ | refine blk_alloc ?_ _)); exact BK232.out) hb); replace BK233 := A_ (blk_below (g := gb233) (o := .cells #[.slice none 0 0, .slice none 0 0, .int .i64 0, .int .i64 0, .slice none 0 0, .slice none 0 0] 40 (0, 0)) (by (with_reducible repeat (first | refine blk_drewN ?_ _ | refine blk_drew ?_ | refine blk_alloc ?_ _)); refine blk_far ?_ NB233_234.out _; (with_reducible repeat (first | refine blk_drewN ?_ _ | refine blk_drew ?_ | refine blk_alloc ?_ _)); refine blk_far ?_ NB233_234.out _; (with_reducible repeat (first | refine blk_drewN ?_ _ | refine blk_drew ?_ | refine blk_alloc ?_ _)); refine blk_far ?_ NB233_234.out _; (with_reducible repeat (first | refine blk_drewN ?_ _ | refine blk_drew ?_ | refine blk_alloc ?_ _)); exact BK233.out) hb); replace BK234 := A_ (blk_below (g := gb234) (o := .cells #[.slice Ao13 t235.length co13, .slice Ao18 t238.length co18, .int .i64 a0_2, .int .i64 a0_3, .slice none 0 0, .slice none 0 0] 40 (0, 0)) (by (with_reducible repeat (first | refine blk_drewN ?_ _ | refine blk_drew ?_ | refine blk_alloc ?_ _)); refine blk_put (cs := #[.slice Ao13 t235.length co13, .slice Ao18 t238.length co18, .int .i64 a0_2, .int .i64 0, .slice none 0 0, .slice none 0 0]) ?_ 3 _ rfl; (with_reducible repeat (first | refine blk_drewN ?_ _ | refine blk_drew ?_ | refine blk_alloc ?_ _)); refine blk_put (cs := #[.slice Ao13 t235.length co13, .slice Ao18 t238.length co18, .int .i64 0, .int .i64 0, .slice none 0 0, .slice none 0 0]) ?_ 2 _ rfl; (with_reducible repeat (first | refine blk_drewN ?_ _ | refine blk_drew ?_ | refine blk_alloc ?_ _)); refine blk_put (cs := #[.slice Ao13 t235.length co13, .slice none 0 0, .int .i64 0, .int .i64 0, .slice none 0 0, .slice none 0 0]) ?_ 1 _ rfl; (with_reducible repeat (first | refine blk_drewN ?_ _ | refine blk_drew ?_ | refine blk_alloc ?_ _)); exact BK234.out) hb); replace HB := A_ (below_step (by repeat (first | (with_reducible first | exact HB.out | apply below_alloc | apply pw_below_drewN | apply below_drew1 | refine below_set ?_ GE232.out | refine below_set ?_ GE233.out | refine below_set ?_ GE234.out) | exact HB.out)) hb); (try clear hb); (try clear ho0); obtain ⟨Ao22, co22, eo22⟩ := Kd.R_slice HO243.out; subst eo22; obtain ⟨hcz23_0, hcz23_1, hcz23_2, hcz23_3, hcz23_4, hcz23_5, hfz23_0, hfz23_1, hfz23_2, hfz23_3, hfz23_4, hfz23_5⟩ := cz6_ BK234.out; obtain ⟨hcz24_0, hcz24_1, hcz24_2, hcz24_3, hcz24_4, hcz24_5, hfz24_0, hfz24_1, hfz24_2, hfz24_3, hfz24_4, hfz24_5⟩ := cz6_ BK232.out) | ((with_reducible refine gc_ (f := 13) rfl ?_); refine gL_ (some 24) Try.func13 #[.slice A0_5 l0_5.length c0_5] ?_; (with_reducible refine (laws_toIntS.calls k _ _ l0_5 t244 _ ?s1 ?s2 A5.out).mono ?_); (case s1 => exact Kd.C_below HR0_5.out (by repeat (first | (with_reducible first | exact HB.out | apply below_alloc | apply pw_below_drewN | apply below_drew1 | refine below_set ?_ GE232.out | refine below_set ?_ GE233.out | refine below_set ?_ GE234.out) | exact HB.out))); (case s2 => exact HC0_5.out); rintro e w25 ⟨v245, rfl, ho0, hb⟩; refine ⟨_, rfl, ?_⟩; replace HO237 := A_ (Kd.S_below (by (with_reducible repeat (first | apply Kd.S_alloc | apply Kd.S_drewN | apply Kd.S_drew)); exact (Kd.S_mono (Kd.S_far (p := ⟨gb234, 4, none⟩) (Kd.S_types HO237.out BK234.out (by decide)) (fun _ hk => hk.2) (.slice Ao22 t241.length co22)) (fun _ h_ => h_.1))) hb); replace HO240 := A_ (Kd.S_below (by (with_reducible repeat (first | apply Kd.S_alloc | apply Kd.S_drewN | apply Kd.S_drew)); exact (Kd.S_mono (Kd.S_far (p := ⟨gb234, 4, none⟩) (Kd.S_types HO240.out BK234.out (by decide)) (fun _ hk => hk.2) (.slice Ao22 t241.length co22)) (fun _ h_ => h_.1))) hb); have HO246 := A_ (Kd.R_lower (Kd.R_new' ho0 (Kd.R_lt (by (with_reducible repeat (first | apply Kd.R_alloc | apply Kd.R_drewN | apply Kd.R_drew)); exact (Kd.R_mono (Kd.R_far (p := ⟨gb234, 4, none⟩) (Kd.R_types HO243.out BK234.out (by decide)) (fun _ hk => hk.2) (.slice Ao22 t241.length co22)) (fun _ h_ => h_.1))))) (below_size (by repeat (first | (with_reducible first | exact HB.out | apply below_alloc | apply pw_below_drewN | apply below_drew1 | refine below_set ?_ GE232.out | refine below_set ?_ GE233.out | refine below_set ?_ GE234.out) | exact HB.out)))); replace HO243 := A_ (Kd.R_elder' (by (with_reducible repeat (first | apply Kd.R_alloc | apply Kd.R_drewN | apply Kd.R_drew)); exact (Kd.R_mono (Kd.R_far (p := ⟨gb234, 4, none⟩) (Kd.R_types HO243.out BK234.out (by decide)) (fun _ hk => hk.2) (.slice Ao22 t241.length co22)) (fun _ h_ => h_.1))) (kb_ ho0) hb); replace BK232 := A_ (blk_below (g := gb232) (o := .cells #[.slice A0_0 l0_0.length c0_0, .slice A0_1 l0_1.length c0_1, .int .i64 a0_2, .int .i64 a0_3, .slice A0_4 l0_4.length c0_4, .slice A0_5 l0_5.length c0_5] 48 (0, 0)) (by (with_reducible repeat (first | refine blk_drewN ?_ _ | refine blk_drew ?_ | refine blk_alloc ?_ _)); refine blk_far ?_ NB232_234.out _; (with_reducible repeat (first | refine blk_drewN ?_ _ | refine blk_drew ?_ | refine blk_alloc ?_ _)); exact BK232.out) hb); replace BK233 := A_ (blk_below (g := gb233) (o := .cells #[.slice none 0 0, .slice none 0 0, .int .i64 0, .int .i64 0, .slice none 0 0, .slice none 0 0] 40 (0, 0)) (by (with_reducible repeat (first | refine blk_drewN ?_ _ | refine blk_drew ?_ | refine blk_alloc ?_ _)); refine blk_far ?_ NB233_234.out _; (with_reducible repeat (first | refine blk_drewN ?_ _ | refine blk_drew ?_ | refine blk_alloc ?_ _)); exact BK233.out) hb); replace BK234 := A_ (blk_below (g := gb234) (o := .cells #[.slice Ao13 t235.length co13, .slice Ao18 t238.length co18, .int .i64 a0_2, .int .i64 a0_3, .slice Ao22 t241.length co22, .slice none 0 0] 40 (0, 0)) (by (with_reducible repeat (first | refine blk_drewN ?_ _ | refine blk_drew ?_ | refine blk_alloc ?_ _)); refine blk_put (cs := #[.slice Ao13 t235.length co13, .slice Ao18 t238.length co18, .int .i64 a0_2, .int .i64 a0_3, .slice none 0 0, .slice none 0 0]) ?_ 4 _ rfl; (with_reducible repeat (first | refine blk_drewN ?_ _ | refine blk_drew ?_ | refine blk_alloc ?_ _)); exact BK234.out) hb); replace HB := A_ (below_step (by repeat (first | (with_reducible first | exact HB.out | apply below_alloc | apply pw_below_drewN | apply below_drew1 | refine below_set ?_ GE232.out | refine below_set ?_ GE233.out | refine below_set ?_ GE234.out) | exact HB.out)) hb); (try clear hb); (try clear ho0); obtain ⟨Ao26, co26, eo26⟩ := Kd.R_slice HO246.out; subst eo26; obtain ⟨hcz27_0, hcz27_1, hcz27_2, hcz27_3, hcz27_4, hcz27_5, hfz27_0, hfz27_1, hfz27_2, hfz27_3, hfz27_4, hfz27_5⟩ := cz6_ BK234.out; obtain ⟨hcz28_0, hcz28_1, hcz28_2, hcz28_3, hcz28_4, hcz28_5, hfz28_0, hfz28_1, hfz28_2, hfz28_3, hfz28_4, hfz28_5⟩ := cz6_ BK233.out))
 refine bodyPost_ret (results_cell_row rfl _ _ gb233 40 #[.slice Ao13 t235.length co13, .slice Ao18 t238.length co18, .int .i64 a0_2, .int .i64 a0_3, .slice Ao22 t241.length co22, .slice Ao26 t244.length co26] (0, 0) _ rfl (by (with_reducible repeat (first | refine blk_drewN ?_ _ | refine blk_drew ?_ | refine blk_alloc ?_ _)); refine blk_put (cs := #[.slice Ao13 t235.length co13, .slice Ao18 t238.length co18, .int .i64 a0_2, .int .i64 a0_3, .slice Ao22 t241.length co22, .slice none 0 0]) ?_ 5 _ rfl; (with_reducible repeat (first | refine blk_drewN ?_ _ | refine blk_drew ?_ | refine blk_alloc ?_ _)); refine blk_put (cs := #[.slice Ao13 t235.length co13, .slice Ao18 t238.length co18, .int .i64 a0_2, .int .i64 a0_3, .slice none 0 0, .slice none 0 0]) ?_ 4 _ rfl; (with_reducible repeat (first | refine blk_drewN ?_ _ | refine blk_drew ?_ | refine blk_alloc ?_ _)); refine blk_put (cs := #[.slice Ao13 t235.length co13, .slice Ao18 t238.length co18, .int .i64 a0_2, .int .i64 0, .slice none 0 0, .slice none 0 0]) ?_ 3 _ rfl; (with_reducible repeat (first | refine blk_drewN ?_ _ | refine blk_drew ?_ | refine blk_alloc ?_ _)); refine blk_put (cs := #[.slice Ao13 t235.length co13, .slice Ao18 t238.length co18, .int .i64 0, .int .i64 0, .slice none 0 0, .slice none 0 0]) ?_ 2 _ rfl; (with_reducible repeat (first | refine blk_drewN ?_ _ | refine blk_drew ?_ | refine blk_alloc ?_ _)); refine blk_put (cs := #[.slice Ao13 t235.length co13, .slice none 0 0, .int .i64 0, .int .i64 0, .slice none 0 0, .slice none 0 0]) ?_ 1 _ rfl; (with_reducible repeat (first | refine blk_drewN ?_ _ | refine blk_drew ?_ | refine blk_alloc ?_ _)); refine blk_put (cs := #[.slice none 0 0, .slice none 0 0, .int .i64 0, .int .i64 0, .slice none 0 0, .slice none 0 0]) ?_ 0 _ rfl; (with_reducible repeat (first | refine blk_drewN ?_ _ | refine blk_drew ?_ | refine blk_alloc ?_ _)); refine blk_far ?_ NB233_234.out _; (with_reducible repeat (first | refine blk_drewN ?_ _ | refine blk_drew ?_ | refine blk_alloc ?_ _)); exact BK233.out) Try.underlying40 rfl (by kernel_rfl)) rfl ?_
 exact ⟨_, _, _, _, rr_, by (with_reducible repeat (first | apply Kd.S_alloc | apply Kd.S_drewN | apply Kd.S_drew)); exact Kd.S_mono (Kd.S_far (p := ⟨gb233, 5, none⟩) (Kd.S_far (p := ⟨gb233, 4, none⟩) (Kd.S_far (p := ⟨gb233, 3, none⟩) (Kd.S_far (p := ⟨gb233, 2, none⟩) (Kd.S_far (p := ⟨gb233, 1, none⟩) (Kd.S_far (p := ⟨gb233, 0, none⟩) (Kd.S_far (p := ⟨gb234, 5, none⟩) (Kd.S_types (Kd.S_types HO237.out BK234.out (by decide)) BK233.out (by decide)) (fun _ hk => hk.1.2) (.slice Ao26 t244.length co26)) (fun _ hk => hk.2) (.slice Ao13 t235.length co13)) (fun _ hk => hk.2) (.slice Ao18 t238.length co18)) (fun _ hk => hk.2) (.int .i64 a0_2)) (fun _ hk => hk.2) (.int .i64 a0_3)) (fun _ hk => hk.2) (.slice Ao22 t241.length co22)) (fun _ hk => hk.2) (.slice Ao26 t244.length co26)) (fun _ hk => trivial), by (with_reducible repeat (first | apply Kd.S_alloc | apply Kd.S_drewN | apply Kd.S_drew)); exact Kd.S_mono (Kd.S_far (p := ⟨gb233, 5, none⟩) (Kd.S_far (p := ⟨gb233, 4, none⟩) (Kd.S_far (p := ⟨gb233, 3, none⟩) (Kd.S_far (p := ⟨gb233, 2, none⟩) (Kd.S_far (p := ⟨gb233, 1, none⟩) (Kd.S_far (p := ⟨gb233, 0, none⟩) (Kd.S_far (p := ⟨gb234, 5, none⟩) (Kd.S_types (Kd.S_types HO240.out BK234.out (by decide)) BK233.out (by decide)) (fun _ hk => hk.1.2) (.slice Ao26 t244.length co26)) (fun _ hk => hk.2) (.slice Ao13 t235.length co13)) (fun _ hk => hk.2) (.slice Ao18 t238.length co18)) (fun _ hk => hk.2) (.int .i64 a0_2)) (fun _ hk => hk.2) (.int .i64 a0_3)) (fun _ hk => hk.2) (.slice Ao22 t241.length co22)) (fun _ hk => hk.2) (.slice Ao26 t244.length co26)) (fun _ hk => trivial), by (with_reducible repeat (first | apply Kd.R_alloc | apply Kd.R_drewN | apply Kd.R_drew)); exact Kd.R_mono (Kd.R_far (p := ⟨gb233, 5, none⟩) (Kd.R_far (p := ⟨gb233, 4, none⟩) (Kd.R_far (p := ⟨gb233, 3, none⟩) (Kd.R_far (p := ⟨gb233, 2, none⟩) (Kd.R_far (p := ⟨gb233, 1, none⟩) (Kd.R_far (p := ⟨gb233, 0, none⟩) (Kd.R_far (p := ⟨gb234, 5, none⟩) (Kd.R_types (Kd.R_types HO243.out BK234.out (by decide)) BK233.out (by decide)) (fun _ hk => hk.1.2) (.slice Ao26 t244.length co26)) (fun _ hk => hk.2) (.slice Ao13 t235.length co13)) (fun _ hk => hk.2) (.slice Ao18 t238.length co18)) (fun _ hk => hk.2) (.int .i64 a0_2)) (fun _ hk => hk.2) (.int .i64 a0_3)) (fun _ hk => hk.2) (.slice Ao22 t241.length co22)) (fun _ hk => hk.2) (.slice Ao26 t244.length co26)) (fun _ hk => hk.1.1.2), by (with_reducible repeat (first | apply Kd.R_alloc | apply Kd.R_drewN | apply Kd.R_drew)); exact Kd.R_mono (Kd.R_far (p := ⟨gb233, 5, none⟩) (Kd.R_far (p := ⟨gb233, 4, none⟩) (Kd.R_far (p := ⟨gb233, 3, none⟩) (Kd.R_far (p := ⟨gb233, 2, none⟩) (Kd.R_far (p := ⟨gb233, 1, none⟩) (Kd.R_far (p := ⟨gb233, 0, none⟩) (Kd.R_far (p := ⟨gb234, 5, none⟩) (Kd.R_types (Kd.R_types HO246.out BK234.out (by decide)) BK233.out (by decide)) (fun _ hk => hk.1.2) (.slice Ao26 t244.length co26)) (fun _ hk => hk.2) (.slice Ao13 t235.length co13)) (fun _ hk => hk.2) (.slice Ao18 t238.length co18)) (fun _ hk => hk.2) (.int .i64 a0_2)) (fun _ hk => hk.2) (.int .i64 a0_3)) (fun _ hk => hk.2) (.slice Ao22 t241.length co22)) (fun _ hk => hk.2) (.slice Ao26 t244.length co26)) (fun _ hk => hk.1.1.2), by repeat (first | (with_reducible first | exact HB.out | apply below_alloc | apply pw_below_drewN | apply below_drew1 | refine below_set ?_ GE232.out | refine below_set ?_ GE233.out | refine below_set ?_ GE234.out) | exact HB.out)⟩
def impl_SamePath.l0 : Nat → List ByteArray → List ByteArray → Int → Int → Option (Bool)
 | 0, _, _, _, _ => none
 | k + 1, x0, x1, x12, x13 => if x13 < x12 then (if 0 ≤ x13 then (if x13 < (x0.length : Int) then (if x13 < (x1.length : Int) then (if (rdOf ByteArray.empty x0 x13).toList = (rdOf ByteArray.empty x1 x13).toList then (impl_SamePath.l0 k x0 x1 x12 (wrap64 (x13 + 1))) else (some false)) else (none)) else (none)) else (none)) else (some true)
def impl_SamePath.f (k : Nat) (l0 : List ByteArray) (l1 : List ByteArray) : Option (Bool) := if (l0.length : Int) = (l1.length : Int) then (impl_SamePath.l0 k l0 l1 (l0.length : Int) 0) else (some false)
theorem impl_SamePath.calls (k : Nat) (A0 : Option Addr) (c0 : Nat) (l0 : List ByteArray) (A1 : Option Addr) (c1 : Nat) (l1 : List ByteArray) (r : Bool) (w : World) (hr0 : Kd.C Kd.string w A0 l0.length l0) (hc0 : l0.length ≤ c0) (hr1 : Kd.C Kd.string w A1 l1.length l1) (hc1 : l1.length ≤ c1) (h : impl_SamePath.f k l0 l1 = some r) :
 Calls Try.prog 72 #[.slice A0 l0.length c0, .slice A1 l1.length c1] w fun e w' => e = .returned (.bool r) ∧ Drawn0 w w' := by
 have HR0 := A_ hr0
 have HC0 := A_ hc0
 clear hr0 hc0
 have HR1 := A_ hr1
 have HC1 := A_ hc1
 clear hr1 hc1
 have H : (if (l0.length : Int) = (l1.length : Int) then (impl_SamePath.l0 k l0 l1 (l0.length : Int) 0) else (some false)) = some r := h
 clear h
 by_cases c3 : (l0.length : Int) = (l1.length : Int)
 rotate_left
 · rw [if_neg c3] at H
   have c3b0 : ((l0.length : Int) == (l1.length : Int)) = false := beq_eq_false_iff_ne.mpr c3
   have c3b1 : ((l0.length : Int) != (l1.length : Int)) = true := bne_iff_ne.mpr c3
   have c3b2 : (l0.length == l1.length) = false := by first | simpa using c3 | (simp at c3 ⊢; omega)
   obtain rfl := si_ H
   go_enter Try.func72, Try.ntmps72
   go_wp2
   repeat (go_quiet (fail); try go_wp2)
   go_ret
   exact ⟨rs_, dr_⟩
 rw [if_pos c3] at H
 have c3b0 : ((l0.length : Int) == (l1.length : Int)) = true := beq_iff_eq.mpr c3
 have c3b1 : ((l0.length : Int) != (l1.length : Int)) = false := bne_eq_false_iff_eq.mpr c3
 have c3b2 : (l0.length == l1.length) = true := by first | simpa using c3 | (simp at c3 ⊢; omega)
 clear c3
 have H' := A_ H
 clear H
 go_enter Try.func72, Try.ntmps72
 go_wp2
 repeat (go_quiet (fail); try go_wp2)
 go_loopg [13] k (fun kq v13 w' => ∃ (x13_1 : Int), v13 = .int .i64 x13_1 ∧ Aside0 (impl_SamePath.l0 kq l0 l1 (l0.length : Int) x13_1 = some r) ∧ Aside0 (kq ≤ k) ∧ Drawn0 w w')
 case atStart => exact ⟨(0), rs_, H', ⟨Nat.le_refl _⟩, dr_⟩
 case round =>
  clear H'
  try clear c1
  try clear p2
  try clear c3
  try clear c3b0
  try clear c3b1
  try clear c3b2
  obtain ⟨x13_1, rfl, HA, HK1, ⟨m1, rfl⟩⟩ := hrel
  cases gk with
  | zero => exact absurd HA.out (by simp [impl_SamePath.l0])
  | succ k1 =>
   have H := HA.out
   clear HA
   simp only [impl_SamePath.l0] at H
   by_cases c4 : x13_1 < (l0.length : Int)
   rotate_left
   · rw [if_neg c4] at H
     have c4b0 : decide (x13_1 < (l0.length : Int)) = false := decide_eq_false c4
     clear c4
     obtain rfl := si_ H
     go_wp2
     repeat (go_quiet (fail); try go_wp2)
     go_ret
     exact ⟨rs_, dr_⟩
   rw [if_pos c4] at H
   have c4b0 : decide (x13_1 < (l0.length : Int)) = true := decide_eq_true c4
   clear c4
   by_cases c5 : 0 ≤ x13_1
   rotate_left
   · exact absurd H (by rw [if_neg c5]; simp)
   rw [if_pos c5] at H
   have c5b0 : decide (0 ≤ x13_1) = true := decide_eq_true c5
   clear c5
   by_cases c6 : x13_1 < (l0.length : Int)
   rotate_left
   · exact absurd H (by rw [if_neg c6]; simp)
   rw [if_pos c6] at H
   have c6b0 : decide (x13_1 < (l0.length : Int)) = true := decide_eq_true c6
   clear c6
   by_cases c7 : x13_1 < (l1.length : Int)
   rotate_left
   · exact absurd H (by rw [if_neg c7]; simp)
   rw [if_pos c7] at H
   have c7b0 : decide (x13_1 < (l1.length : Int)) = true := decide_eq_true c7
   clear c7
   by_cases c8 : (rdOf ByteArray.empty l0 x13_1).toList = (rdOf ByteArray.empty l1 x13_1).toList
   rotate_left
   · rw [if_neg c8] at H
     have c8b0 : ((rdOf ByteArray.empty l0 x13_1).toList == (rdOf ByteArray.empty l1 x13_1).toList) = false := beq_eq_false_iff_ne.mpr c8
     have c8b1 : ((rdOf ByteArray.empty l0 x13_1).toList != (rdOf ByteArray.empty l1 x13_1).toList) = true := bne_iff_ne.mpr c8
     obtain rfl := si_ H
     have p247 : 0 ≤ (x13_1 : Int) := od_
     have q247 : x13_1 < (l0.length : Int) := od_
     obtain ⟨ad247, e247, hx247_0⟩ := Kd.at_string HR0.out x13_1 p247 q247
     cases e247
     replace p247 := eq_true p247
     replace q247 := eq_true q247
     have p248 : 0 ≤ (x13_1 : Int) := od_
     have q248 : x13_1 < (l1.length : Int) := od_
     obtain ⟨ad248, e248, hx248_0⟩ := Kd.at_string HR1.out x13_1 p248 q248
     cases e248
     replace p248 := eq_true p248
     replace q248 := eq_true q248
     go_wp2
     repeat (go_quiet (fail); try go_wp2)
     go_ret
     exact ⟨rs_, dr_⟩
   rw [if_pos c8] at H
   have c8b0 : ((rdOf ByteArray.empty l0 x13_1).toList == (rdOf ByteArray.empty l1 x13_1).toList) = true := beq_iff_eq.mpr c8
   have c8b1 : ((rdOf ByteArray.empty l0 x13_1).toList != (rdOf ByteArray.empty l1 x13_1).toList) = false := bne_eq_false_iff_eq.mpr c8
   clear c8
   have H' := A_ H
   clear H
   have p247 : 0 ≤ (x13_1 : Int) := od_
   have q247 : x13_1 < (l0.length : Int) := od_
   obtain ⟨ad247, e247, hx247_0⟩ := Kd.at_string HR0.out x13_1 p247 q247
   cases e247
   replace p247 := eq_true p247
   replace q247 := eq_true q247
   have p248 : 0 ≤ (x13_1 : Int) := od_
   have q248 : x13_1 < (l1.length : Int) := od_
   obtain ⟨ad248, e248, hx248_0⟩ := Kd.at_string HR1.out x13_1 p248 q248
   cases e248
   replace p248 := eq_true p248
   replace q248 := eq_true q248
   go_wp2
   repeat (go_quiet (fail); try go_wp2)
   go_roundg k1
   case measure => have := HK1.out; omega
   case rel => exact ⟨(wrap64 (x13_1 + 1)), rs_, H', ⟨by have := HK1.out; omega⟩, dr_⟩
attribute [local go_sem high] eqA97
mutual
def impl_sameRes.j0 : Nat → Bool → List ByteArray → Bool → ByteArray → Int → List (S97) → List ByteArray → Bool → ByteArray → Int → List (S97) → Option (Bool)
 | 0, _, _, _, _, _, _, _, _, _, _, _ => none
 | k + 1, x41, x250000, x250001, x250002, x250003, x250004, x251000, x251001, x251002, x251003, x251004 => if x41 = true then (some false) else (impl_sameRes.l0 k (x250004.length : Int) 0 x250000 x250001 x250002 x250003 x250004 x251000 x251001 x251002 x251003 x251004)
def impl_sameRes.l0 : Nat → Int → Int → List ByteArray → Bool → ByteArray → Int → List (S97) → List ByteArray → Bool → ByteArray → Int → List (S97) → Option (Bool)
 | 0, _, _, _, _, _, _, _, _, _, _, _, _ => none
 | k + 1, x44, x45, x250000, x250001, x250002, x250003, x250004, x251000, x251001, x251002, x251003, x251004 => if x45 < x44 then (if 0 ≤ x45 then (if x45 < (x250004.length : Int) then (if x45 < (x251004.length : Int) then (if (!((((rd_T97 x250004 x45).f0).toList) == (((rd_T97 x251004 x45).f0).toList)) || (!((((rd_T97 x250004 x45).f1).toList) == (((rd_T97 x251004 x45).f1).toList)) || (!((((rd_T97 x250004 x45).f2).toList) == (((rd_T97 x251004 x45).f2).toList))))) = true then (some false) else (impl_sameRes.l0 k x44 (wrap64 (x45 + 1)) x250000 x250001 x250002 x250003 x250004 x251000 x251001 x251002 x251003 x251004)) else (none)) else (none)) else (none)) else (some true)
end
def impl_sameRes.f (k : Nat) (l0_0 : List ByteArray) (a0_1 : Bool) (a0_2 : ByteArray) (a0_3 : Int) (l0_4 : List (S97)) (l1_0 : List ByteArray) (a1_1 : Bool) (a1_2 : ByteArray) (a1_3 : Int) (l1_4 : List (S97)) : Option (Bool) := (impl_SamePath.f k l0_0 l1_0).bind fun t251 => (if t251 = true then (if (a0_1 != a1_1) = true then (impl_sameRes.j0 k true l0_0 a0_1 a0_2 a0_3 l0_4 l1_0 a1_1 a1_2 a1_3 l1_4) else (if a0_2.toList = a1_2.toList then (if a0_3 = a1_3 then (impl_sameRes.j0 k ((l0_4.length : Int) != (l1_4.length : Int)) l0_0 a0_1 a0_2 a0_3 l0_4 l1_0 a1_1 a1_2 a1_3 l1_4) else (impl_sameRes.j0 k true l0_0 a0_1 a0_2 a0_3 l0_4 l1_0 a1_1 a1_2 a1_3 l1_4)) else (impl_sameRes.j0 k true l0_0 a0_1 a0_2 a0_3 l0_4 l1_0 a1_1 a1_2 a1_3 l1_4))) else (impl_sameRes.j0 k true l0_0 a0_1 a0_2 a0_3 l0_4 l1_0 a1_1 a1_2 a1_3 l1_4))
set_option maxHeartbeats 8000000 in
set_option maxRecDepth 100000 in
theorem impl_sameRes.calls (k : Nat) (A0_0 : Option Addr) (c0_0 : Nat) (l0_0 : List ByteArray) (a0_1 : Bool) (a0_2 : ByteArray) (a0_3 : Int) (A0_4 : Option Addr) (c0_4 : Nat) (l0_4 : List (S97)) (A1_0 : Option Addr) (c1_0 : Nat) (l1_0 : List ByteArray) (a1_1 : Bool) (a1_2 : ByteArray) (a1_3 : Int) (A1_4 : Option Addr) (c1_4 : Nat) (l1_4 : List (S97)) (r : Bool) (w : World) (hr0_0 : Kd.C Kd.string w A0_0 l0_0.length l0_0) (hc0_0 : l0_0.length ≤ c0_0) (hr0_4 : Kd.C k97 w A0_4 l0_4.length l0_4) (hc0_4 : l0_4.length ≤ c0_4) (hr1_0 : Kd.C Kd.string w A1_0 l1_0.length l1_0) (hc1_0 : l1_0.length ≤ c1_0) (hr1_4 : Kd.C k97 w A1_4 l1_4.length l1_4) (hc1_4 : l1_4.length ≤ c1_4) (h : impl_sameRes.f k l0_0 a0_1 a0_2 a0_3 l0_4 l1_0 a1_1 a1_2 a1_3 l1_4 = some r) :
 Calls Try.prog 71 #[.agg #[.slice A0_0 l0_0.length c0_0, .bool a0_1, .string a0_2, .int .i64 a0_3, .slice A0_4 l0_4.length c0_4], .agg #[.slice A1_0 l1_0.length c1_0, .bool a1_1, .string a1_2, .int .i64 a1_3, .slice A1_4 l1_4.length c1_4]] w fun e w' => e = .returned (.bool r) ∧ Below w.heap.size w w' := by
 have hu79 := Try.underlying79
 have hu97 := Try.underlying97
 have HR0_0 := A_ hr0_0
 have HC0_0 := A_ hc0_0
 clear hr0_0 hc0_0
 have HR0_4 := A_ hr0_4
 have HC0_4 := A_ hc0_4
 clear hr0_4 hc0_4
 have HR1_0 := A_ hr1_0
 have HC1_0 := A_ hc1_0
 clear hr1_0 hc1_0
 have HR1_4 := A_ hr1_4
 have HC1_4 := A_ hc1_4
 clear hr1_4 hc1_4
 have HB := A_ (Below.refl w.heap.size w)
 have H : ((impl_SamePath.f k l0_0 l1_0).bind fun t251 => (if t251 = true then (if (a0_1 != a1_1) = true then (impl_sameRes.j0 k true l0_0 a0_1 a0_2 a0_3 l0_4 l1_0 a1_1 a1_2 a1_3 l1_4) else (if a0_2.toList = a1_2.toList then (if a0_3 = a1_3 then (impl_sameRes.j0 k ((l0_4.length : Int) != (l1_4.length : Int)) l0_0 a0_1 a0_2 a0_3 l0_4 l1_0 a1_1 a1_2 a1_3 l1_4) else (impl_sameRes.j0 k true l0_0 a0_1 a0_2 a0_3 l0_4 l1_0 a1_1 a1_2 a1_3 l1_4)) else (impl_sameRes.j0 k true l0_0 a0_1 a0_2 a0_3 l0_4 l1_0 a1_1 a1_2 a1_3 l1_4))) else (impl_sameRes.j0 k true l0_0 a0_1 a0_2 a0_3 l0_4 l1_0 a1_1 a1_2 a1_3 l1_4))) = some r := h
 clear h
 have HC3 := A_ H
 clear H
 go_enter Try.func71, Try.ntmps71
 go_upto_region 1 with (first | ((with_reducible refine gd_ (N := 2) rfl ?_); (try (refine gate_guard (by rfl) ?_; dsimp only)); refine bx_ (N := 2) (cs := #[.slice A0_0 l0_0.length c0_0, .bool a0_1, .string a0_2, .int .i64 a0_3, .slice A0_4 l0_4.length c0_4]) (t := 79) ?_; intro gb249 hg w4 hbox hb; have BK249 := A_ (hbox); have GW249 := A_ (ge_ hg bB_ : w.heap.size ≤ gb249); have GE249 := A_ (ge_ hg bB_ : w.heap.size ≤ gb249); replace HB := A_ (below_step bB_ hb); clear hb hbox hg) | ((with_reducible refine gd_ (N := 3) rfl ?_); (try (refine gate_guard (by rfl) ?_; dsimp only)); refine bx_ (N := 3) (cs := #[.slice A1_0 l1_0.length c1_0, .bool a1_1, .string a1_2, .int .i64 a1_3, .slice A1_4 l1_4.length c1_4]) (t := 79) ?_; intro gb250 hg w5 hbox hb; have BK250 := A_ (hbox); have GW250 := A_ (ge_ hg (bG_ GE249.out) : w.heap.size ≤ gb250); have GE250 := A_ (ge_ hg (bG_ GE249.out) : w.heap.size ≤ gb250); replace HB := A_ (below_step (bG_ GE249.out) hb); have NB249_250 := A_ (gm_ hg BK249.out); have NB250_249 := A_ (gn_ hg BK249.out); replace BK249 := A_ (bw_ BK249.out hb); clear hb hbox hg))
 repeat (go_quiet (first | ((with_reducible refine gd_ (N := 2) rfl ?_); (try (refine gate_guard (by rfl) ?_; dsimp only)); refine bx_ (N := 2) (cs := #[.slice A0_0 l0_0.length c0_0, .bool a0_1, .string a0_2, .int .i64 a0_3, .slice A0_4 l0_4.length c0_4]) (t := 79) ?_; intro gb249 hg w4 hbox hb; have BK249 := A_ (hbox); have GW249 := A_ (ge_ hg bB_ : w.heap.size ≤ gb249); have GE249 := A_ (ge_ hg bB_ : w.heap.size ≤ gb249); replace HB := A_ (below_step bB_ hb); clear hb hbox hg) | ((with_reducible refine gd_ (N := 3) rfl ?_); (try (refine gate_guard (by rfl) ?_; dsimp only)); refine bx_ (N := 3) (cs := #[.slice A1_0 l1_0.length c1_0, .bool a1_1, .string a1_2, .int .i64 a1_3, .slice A1_4 l1_4.length c1_4]) (t := 79) ?_; intro gb250 hg w5 hbox hb; have BK250 := A_ (hbox); have GW250 := A_ (ge_ hg (bG_ GE249.out) : w.heap.size ≤ gb250); have GE250 := A_ (ge_ hg (bG_ GE249.out) : w.heap.size ≤ gb250); replace HB := A_ (below_step (bG_ GE249.out) hb); have NB249_250 := A_ (gm_ hg BK249.out); have NB250_249 := A_ (gn_ hg BK249.out); replace BK249 := A_ (bw_ BK249.out hb); clear hb hbox hg)); go_upto_region 1 with (first | ((with_reducible refine gd_ (N := 2) rfl ?_); (try (refine gate_guard (by rfl) ?_; dsimp only)); refine bx_ (N := 2) (cs := #[.slice A0_0 l0_0.length c0_0, .bool a0_1, .string a0_2, .int .i64 a0_3, .slice A0_4 l0_4.length c0_4]) (t := 79) ?_; intro gb249 hg w4 hbox hb; have BK249 := A_ (hbox); have GW249 := A_ (ge_ hg bB_ : w.heap.size ≤ gb249); have GE249 := A_ (ge_ hg bB_ : w.heap.size ≤ gb249); replace HB := A_ (below_step bB_ hb); clear hb hbox hg) | ((with_reducible refine gd_ (N := 3) rfl ?_); (try (refine gate_guard (by rfl) ?_; dsimp only)); refine bx_ (N := 3) (cs := #[.slice A1_0 l1_0.length c1_0, .bool a1_1, .string a1_2, .int .i64 a1_3, .slice A1_4 l1_4.length c1_4]) (t := 79) ?_; intro gb250 hg w5 hbox hb; have BK250 := A_ (hbox); have GW250 := A_ (ge_ hg (bG_ GE249.out) : w.heap.size ≤ gb250); have GE250 := A_ (ge_ hg (bG_ GE249.out) : w.heap.size ≤ gb250); replace HB := A_ (below_step (bG_ GE249.out) hb); have NB249_250 := A_ (gm_ hg BK249.out); have NB250_249 := A_ (gn_ hg BK249.out); replace BK249 := A_ (bw_ BK249.out hb); clear hb hbox hg)))
 (try simp only [Act.put, List.setIfInBounds_toArray, List.set_cons_zero, List.set_cons_succ])
 go_cut [41] (fun v41 wc => ∃ (kq : Nat) (x41_2 : Bool), v41 = .bool x41_2 ∧ Aside0 (impl_sameRes.j0 kq x41_2 l0_0 a0_1 a0_2 a0_3 l0_4 l1_0 a1_1 a1_2 a1_3 l1_4 = some r) ∧ Aside0 (kq ≤ k) ∧ Aside0 (wc.heap[gb249]? = some (.cells #[(.slice A0_0 l0_0.length c0_0), .bool a0_1, .string a0_2, .int .i64 a0_3, (.slice A0_4 l0_4.length c0_4)] 79 (0, 0))) ∧ Aside0 (wc.heap[gb250]? = some (.cells #[(.slice A1_0 l1_0.length c1_0), .bool a1_1, .string a1_2, .int .i64 a1_3, (.slice A1_4 l1_4.length c1_4)] 79 (0, 0))) ∧ Aside0 (Below w.heap.size w wc))
 case first =>
  have H := HC3.out
  clear HC3
  obtain ⟨t251, A6, H⟩ := bo_ H
  (try dsimp only at H)
  by_cases c7 : t251 = true
  · subst c7
    rw [if_pos rfl] at H
    by_cases c8 : (a0_1 != a1_1) = true
    · rw [if_pos c8] at H
      have c8b0 : (a0_1 != a1_1) = true := c8
      (try (have c8b1 : decide (a0_1 = a1_1) = false := by simpa using c8))
      (try (have c8b2 : (a0_1 == a1_1) = false := by simpa using c8))
      (try (have c8b3 : ¬ (a0_1 = a1_1) := by simpa using c8))
      clear c8
      (first | rw [c8b0] | (simp only [i64_w, i32_w]; rw [c8b0]) | skip)
      have H' := A_ H
      clear H
      have hnb9 := NB249_250.out
      have hnc9 := NB250_249.out
      obtain ⟨hcz10_0, hcz10_1, hcz10_2, hcz10_3, hcz10_4, hfz10_0, hfz10_1, hfz10_2, hfz10_3, hfz10_4⟩ := cz5_ BK249.out
      obtain ⟨hcz11_0, hcz11_1, hcz11_2, hcz11_3, hcz11_4, hfz11_0, hfz11_1, hfz11_2, hfz11_3, hfz11_4⟩ := cz5_ BK250.out
      go_wp2_with (first | (go_at_call 72; (with_reducible refine (impl_SamePath.calls k _ _ l0_0 _ _ l1_0 true _ ?s1 ?s2 ?s3 ?s4 A6.out).mono ?_); (case s1 => exact cC_ (Kd.C_below HR0_0.out HB.out)); (case s2 => exact HC0_0.out); (case s3 => exact cC_ (Kd.C_below HR1_0.out HB.out)); (case s4 => exact HC1_0.out); rintro e w' ⟨rfl, ⟨nd, rfl⟩⟩; (try first | exact ⟨rfl, _, World.drewN_drewN _ _ _⟩ | exact ⟨rfl, _, Eq.trans (World.drewN_drewN _ _ _) (congrArg (World.drewN _) (Nat.add_assoc _ _ _))⟩)))
      repeat (go_quiet (first | (go_at_call 72; (with_reducible refine (impl_SamePath.calls k _ _ l0_0 _ _ l1_0 true _ ?s1 ?s2 ?s3 ?s4 A6.out).mono ?_); (case s1 => exact cC_ (Kd.C_below HR0_0.out HB.out)); (case s2 => exact HC0_0.out); (case s3 => exact cC_ (Kd.C_below HR1_0.out HB.out)); (case s4 => exact HC1_0.out); rintro e w' ⟨rfl, ⟨nd, rfl⟩⟩; (try first | exact ⟨rfl, _, World.drewN_drewN _ _ _⟩ | exact ⟨rfl, _, Eq.trans (World.drewN_drewN _ _ _) (congrArg (World.drewN _) (Nat.add_assoc _ _ _))⟩))); try go_wp2_with (first | (go_at_call 72; (with_reducible refine (impl_SamePath.calls k _ _ l0_0 _ _ l1_0 true _ ?s1 ?s2 ?s3 ?s4 A6.out).mono ?_); (case s1 => exact cC_ (Kd.C_below HR0_0.out HB.out)); (case s2 => exact HC0_0.out); (case s3 => exact cC_ (Kd.C_below HR1_0.out HB.out)); (case s4 => exact HC1_0.out); rintro e w' ⟨rfl, ⟨nd, rfl⟩⟩; (try first | exact ⟨rfl, _, World.drewN_drewN _ _ _⟩ | exact ⟨rfl, _, Eq.trans (World.drewN_drewN _ _ _) (congrArg (World.drewN _) (Nat.add_assoc _ _ _))⟩))))
      go_meet
      case rel => exact ⟨_, (true), rs_, H', ⟨by first | omega | exact Nat.le_refl _⟩, ⟨vb_ BK249.out⟩, ⟨vb_ BK250.out⟩, ⟨by repeat (first | (with_reducible first | exact HB.out | apply below_alloc | apply pw_below_drewN | apply below_drew1 | refine below_set ?_ GE249.out | refine below_set ?_ GE250.out) | exact HB.out)⟩⟩
    rw [if_neg c8] at H
    have c8b0 : (a0_1 != a1_1) = false := by simpa using c8
    (try (have c8b1 : decide (a0_1 = a1_1) = true := by simpa using c8))
    (try (have c8b2 : (a0_1 == a1_1) = true := by simpa using c8))
    clear c8
    (first | rw [c8b0] | (simp only [i64_w, i32_w]; rw [c8b0]) | skip)
    by_cases c12 : a0_2.toList = a1_2.toList
    rotate_left
    · rw [if_neg c12] at H
      have c12b0 : (a0_2.toList == a1_2.toList) = false := beq_eq_false_iff_ne.mpr c12
      have c12b1 : (a0_2.toList != a1_2.toList) = true := bne_iff_ne.mpr c12
      have H' := A_ H
      clear H
      have hnb20 := NB249_250.out
      have hnc20 := NB250_249.out
      obtain ⟨hcz21_0, hcz21_1, hcz21_2, hcz21_3, hcz21_4, hfz21_0, hfz21_1, hfz21_2, hfz21_3, hfz21_4⟩ := cz5_ BK249.out
      obtain ⟨hcz22_0, hcz22_1, hcz22_2, hcz22_3, hcz22_4, hfz22_0, hfz22_1, hfz22_2, hfz22_3, hfz22_4⟩ := cz5_ BK250.out
      go_wp2_with (first | (go_at_call 72; (with_reducible refine (impl_SamePath.calls k _ _ l0_0 _ _ l1_0 true _ ?s1 ?s2 ?s3 ?s4 A6.out).mono ?_); (case s1 => exact cC_ (Kd.C_below HR0_0.out HB.out)); (case s2 => exact HC0_0.out); (case s3 => exact cC_ (Kd.C_below HR1_0.out HB.out)); (case s4 => exact HC1_0.out); rintro e w' ⟨rfl, ⟨nd, rfl⟩⟩; (try first | exact ⟨rfl, _, World.drewN_drewN _ _ _⟩ | exact ⟨rfl, _, Eq.trans (World.drewN_drewN _ _ _) (congrArg (World.drewN _) (Nat.add_assoc _ _ _))⟩)))
      repeat (go_quiet (first | (go_at_call 72; (with_reducible refine (impl_SamePath.calls k _ _ l0_0 _ _ l1_0 true _ ?s1 ?s2 ?s3 ?s4 A6.out).mono ?_); (case s1 => exact cC_ (Kd.C_below HR0_0.out HB.out)); (case s2 => exact HC0_0.out); (case s3 => exact cC_ (Kd.C_below HR1_0.out HB.out)); (case s4 => exact HC1_0.out); rintro e w' ⟨rfl, ⟨nd, rfl⟩⟩; (try first | exact ⟨rfl, _, World.drewN_drewN _ _ _⟩ | exact ⟨rfl, _, Eq.trans (World.drewN_drewN _ _ _) (congrArg (World.drewN _) (Nat.add_assoc _ _ _))⟩))); try go_wp2_with (first | (go_at_call 72; (with_reducible refine (impl_SamePath.calls k _ _ l0_0 _ _ l1_0 true _ ?s1 ?s2 ?s3 ?s4 A6.out).mono ?_); (case s1 => exact cC_ (Kd.C_below HR0_0.out HB.out)); (case s2 => exact HC0_0.out); (case s3 => exact cC_ (Kd.C_below HR1_0.out HB.out)); (case s4 => exact HC1_0.out); rintro e w' ⟨rfl, ⟨nd, rfl⟩⟩; (try first | exact ⟨rfl, _, World.drewN_drewN _ _ _⟩ | exact ⟨rfl, _, Eq.trans (World.drewN_drewN _ _ _) (congrArg (World.drewN _) (Nat.add_assoc _ _ _))⟩))))
      go_meet
      case rel => exact ⟨_, (true), rs_, H', ⟨by first | omega | exact Nat.le_refl _⟩, ⟨vb_ BK249.out⟩, ⟨vb_ BK250.out⟩, ⟨by repeat (first | (with_reducible first | exact HB.out | apply below_alloc | apply pw_below_drewN | apply below_drew1 | refine below_set ?_ GE249.out | refine below_set ?_ GE250.out) | exact HB.out)⟩⟩
    rw [if_pos c12] at H
    have c12b0 : (a0_2.toList == a1_2.toList) = true := beq_iff_eq.mpr c12
    have c12b1 : (a0_2.toList != a1_2.toList) = false := bne_eq_false_iff_eq.mpr c12
    clear c12
    by_cases c13 : a0_3 = a1_3
    rotate_left
    · rw [if_neg c13] at H
      have c13b0 : (a0_3 == a1_3) = false := beq_eq_false_iff_ne.mpr c13
      have c13b1 : (a0_3 != a1_3) = true := bne_iff_ne.mpr c13
      have H' := A_ H
      clear H
      have hnb17 := NB249_250.out
      have hnc17 := NB250_249.out
      obtain ⟨hcz18_0, hcz18_1, hcz18_2, hcz18_3, hcz18_4, hfz18_0, hfz18_1, hfz18_2, hfz18_3, hfz18_4⟩ := cz5_ BK249.out
      obtain ⟨hcz19_0, hcz19_1, hcz19_2, hcz19_3, hcz19_4, hfz19_0, hfz19_1, hfz19_2, hfz19_3, hfz19_4⟩ := cz5_ BK250.out
      go_wp2_with (first | (go_at_call 72; (with_reducible refine (impl_SamePath.calls k _ _ l0_0 _ _ l1_0 true _ ?s1 ?s2 ?s3 ?s4 A6.out).mono ?_); (case s1 => exact cC_ (Kd.C_below HR0_0.out HB.out)); (case s2 => exact HC0_0.out); (case s3 => exact cC_ (Kd.C_below HR1_0.out HB.out)); (case s4 => exact HC1_0.out); rintro e w' ⟨rfl, ⟨nd, rfl⟩⟩; (try first | exact ⟨rfl, _, World.drewN_drewN _ _ _⟩ | exact ⟨rfl, _, Eq.trans (World.drewN_drewN _ _ _) (congrArg (World.drewN _) (Nat.add_assoc _ _ _))⟩)))
      repeat (go_quiet (first | (go_at_call 72; (with_reducible refine (impl_SamePath.calls k _ _ l0_0 _ _ l1_0 true _ ?s1 ?s2 ?s3 ?s4 A6.out).mono ?_); (case s1 => exact cC_ (Kd.C_below HR0_0.out HB.out)); (case s2 => exact HC0_0.out); (case s3 => exact cC_ (Kd.C_below HR1_0.out HB.out)); (case s4 => exact HC1_0.out); rintro e w' ⟨rfl, ⟨nd, rfl⟩⟩; (try first | exact ⟨rfl, _, World.drewN_drewN _ _ _⟩ | exact ⟨rfl, _, Eq.trans (World.drewN_drewN _ _ _) (congrArg (World.drewN _) (Nat.add_assoc _ _ _))⟩))); try go_wp2_with (first | (go_at_call 72; (with_reducible refine (impl_SamePath.calls k _ _ l0_0 _ _ l1_0 true _ ?s1 ?s2 ?s3 ?s4 A6.out).mono ?_); (case s1 => exact cC_ (Kd.C_below HR0_0.out HB.out)); (case s2 => exact HC0_0.out); (case s3 => exact cC_ (Kd.C_below HR1_0.out HB.out)); (case s4 => exact HC1_0.out); rintro e w' ⟨rfl, ⟨nd, rfl⟩⟩; (try first | exact ⟨rfl, _, World.drewN_drewN _ _ _⟩ | exact ⟨rfl, _, Eq.trans (World.drewN_drewN _ _ _) (congrArg (World.drewN _) (Nat.add_assoc _ _ _))⟩))))
      go_meet
      case rel => exact ⟨_, (true), rs_, H', ⟨by first | omega | exact Nat.le_refl _⟩, ⟨vb_ BK249.out⟩, ⟨vb_ BK250.out⟩, ⟨by repeat (first | (with_reducible first | exact HB.out | apply below_alloc | apply pw_below_drewN | apply below_drew1 | refine below_set ?_ GE249.out | refine below_set ?_ GE250.out) | exact HB.out)⟩⟩
    rw [if_pos c13] at H
    have c13b0 : (a0_3 == a1_3) = true := beq_iff_eq.mpr c13
    have c13b1 : (a0_3 != a1_3) = false := bne_eq_false_iff_eq.mpr c13
    clear c13
    have H' := A_ H
    clear H
    have hnb14 := NB249_250.out
    have hnc14 := NB250_249.out
    obtain ⟨hcz15_0, hcz15_1, hcz15_2, hcz15_3, hcz15_4, hfz15_0, hfz15_1, hfz15_2, hfz15_3, hfz15_4⟩ := cz5_ BK249.out
    obtain ⟨hcz16_0, hcz16_1, hcz16_2, hcz16_3, hcz16_4, hfz16_0, hfz16_1, hfz16_2, hfz16_3, hfz16_4⟩ := cz5_ BK250.out
    go_wp2_with (first | (go_at_call 72; (with_reducible refine (impl_SamePath.calls k _ _ l0_0 _ _ l1_0 true _ ?s1 ?s2 ?s3 ?s4 A6.out).mono ?_); (case s1 => exact cC_ (Kd.C_below HR0_0.out HB.out)); (case s2 => exact HC0_0.out); (case s3 => exact cC_ (Kd.C_below HR1_0.out HB.out)); (case s4 => exact HC1_0.out); rintro e w' ⟨rfl, ⟨nd, rfl⟩⟩; (try first | exact ⟨rfl, _, World.drewN_drewN _ _ _⟩ | exact ⟨rfl, _, Eq.trans (World.drewN_drewN _ _ _) (congrArg (World.drewN _) (Nat.add_assoc _ _ _))⟩)))
    repeat (go_quiet (first | (go_at_call 72; (with_reducible refine (impl_SamePath.calls k _ _ l0_0 _ _ l1_0 true _ ?s1 ?s2 ?s3 ?s4 A6.out).mono ?_); (case s1 => exact cC_ (Kd.C_below HR0_0.out HB.out)); (case s2 => exact HC0_0.out); (case s3 => exact cC_ (Kd.C_below HR1_0.out HB.out)); (case s4 => exact HC1_0.out); rintro e w' ⟨rfl, ⟨nd, rfl⟩⟩; (try first | exact ⟨rfl, _, World.drewN_drewN _ _ _⟩ | exact ⟨rfl, _, Eq.trans (World.drewN_drewN _ _ _) (congrArg (World.drewN _) (Nat.add_assoc _ _ _))⟩))); try go_wp2_with (first | (go_at_call 72; (with_reducible refine (impl_SamePath.calls k _ _ l0_0 _ _ l1_0 true _ ?s1 ?s2 ?s3 ?s4 A6.out).mono ?_); (case s1 => exact cC_ (Kd.C_below HR0_0.out HB.out)); (case s2 => exact HC0_0.out); (case s3 => exact cC_ (Kd.C_below HR1_0.out HB.out)); (case s4 => exact HC1_0.out); rintro e w' ⟨rfl, ⟨nd, rfl⟩⟩; (try first | exact ⟨rfl, _, World.drewN_drewN _ _ _⟩ | exact ⟨rfl, _, Eq.trans (World.drewN_drewN _ _ _) (congrArg (World.drewN _) (Nat.add_assoc _ _ _))⟩))))
    go_meet
    case rel => exact ⟨_, (((l0_4.length : Int) != (l1_4.length : Int))), rs_, H', ⟨by first | omega | exact Nat.le_refl _⟩, ⟨vb_ BK249.out⟩, ⟨vb_ BK250.out⟩, ⟨by repeat (first | (with_reducible first | exact HB.out | apply below_alloc | apply pw_below_drewN | apply below_drew1 | refine below_set ?_ GE249.out | refine below_set ?_ GE250.out) | exact HB.out)⟩⟩
  · replace c7 := Bool.eq_false_iff.mpr c7
    subst c7
    rw [if_neg nf_] at H
    have H' := A_ H
    clear H
    have hnb23 := NB249_250.out
    have hnc23 := NB250_249.out
    obtain ⟨hcz24_0, hcz24_1, hcz24_2, hcz24_3, hcz24_4, hfz24_0, hfz24_1, hfz24_2, hfz24_3, hfz24_4⟩ := cz5_ BK249.out
    obtain ⟨hcz25_0, hcz25_1, hcz25_2, hcz25_3, hcz25_4, hfz25_0, hfz25_1, hfz25_2, hfz25_3, hfz25_4⟩ := cz5_ BK250.out
    go_wp2_with (first | (go_at_call 72; (with_reducible refine (impl_SamePath.calls k _ _ l0_0 _ _ l1_0 false _ ?s1 ?s2 ?s3 ?s4 A6.out).mono ?_); (case s1 => exact cC_ (Kd.C_below HR0_0.out HB.out)); (case s2 => exact HC0_0.out); (case s3 => exact cC_ (Kd.C_below HR1_0.out HB.out)); (case s4 => exact HC1_0.out); rintro e w' ⟨rfl, ⟨nd, rfl⟩⟩; (try first | exact ⟨rfl, _, World.drewN_drewN _ _ _⟩ | exact ⟨rfl, _, Eq.trans (World.drewN_drewN _ _ _) (congrArg (World.drewN _) (Nat.add_assoc _ _ _))⟩)))
    repeat (go_quiet (first | (go_at_call 72; (with_reducible refine (impl_SamePath.calls k _ _ l0_0 _ _ l1_0 false _ ?s1 ?s2 ?s3 ?s4 A6.out).mono ?_); (case s1 => exact cC_ (Kd.C_below HR0_0.out HB.out)); (case s2 => exact HC0_0.out); (case s3 => exact cC_ (Kd.C_below HR1_0.out HB.out)); (case s4 => exact HC1_0.out); rintro e w' ⟨rfl, ⟨nd, rfl⟩⟩; (try first | exact ⟨rfl, _, World.drewN_drewN _ _ _⟩ | exact ⟨rfl, _, Eq.trans (World.drewN_drewN _ _ _) (congrArg (World.drewN _) (Nat.add_assoc _ _ _))⟩))); try go_wp2_with (first | (go_at_call 72; (with_reducible refine (impl_SamePath.calls k _ _ l0_0 _ _ l1_0 false _ ?s1 ?s2 ?s3 ?s4 A6.out).mono ?_); (case s1 => exact cC_ (Kd.C_below HR0_0.out HB.out)); (case s2 => exact HC0_0.out); (case s3 => exact cC_ (Kd.C_below HR1_0.out HB.out)); (case s4 => exact HC1_0.out); rintro e w' ⟨rfl, ⟨nd, rfl⟩⟩; (try first | exact ⟨rfl, _, World.drewN_drewN _ _ _⟩ | exact ⟨rfl, _, Eq.trans (World.drewN_drewN _ _ _) (congrArg (World.drewN _) (Nat.add_assoc _ _ _))⟩))))
    go_meet
    case rel => exact ⟨_, (true), rs_, H', ⟨by first | omega | exact Nat.le_refl _⟩, ⟨vb_ BK249.out⟩, ⟨vb_ BK250.out⟩, ⟨by repeat (first | (with_reducible first | exact HB.out | apply below_alloc | apply pw_below_drewN | apply below_drew1 | refine below_set ?_ GE249.out | refine below_set ?_ GE250.out) | exact HB.out)⟩⟩
 case rest =>
  clear HC3
  try clear c1
  try clear c2
  try clear p2
  try clear c7
  try clear c8
  try clear c8b0
  try clear c8b1
  try clear c8b2
  try clear c9
  try clear c12
  try clear c12b0
  try clear c12b1
  try clear c13
  try clear c13b0
  try clear c13b1
  try clear c14
  try clear c17
  try clear c20
  try clear c23
  try clear hcz10_0
  try clear hcz10_1
  try clear hcz10_2
  try clear hcz10_3
  try clear hcz10_4
  try clear hcz11_0
  try clear hcz11_1
  try clear hcz11_2
  try clear hcz11_3
  try clear hcz11_4
  try clear hcz15_0
  try clear hcz15_1
  try clear hcz15_2
  try clear hcz15_3
  try clear hcz15_4
  try clear hcz16_0
  try clear hcz16_1
  try clear hcz16_2
  try clear hcz16_3
  try clear hcz16_4
  try clear hcz18_0
  try clear hcz18_1
  try clear hcz18_2
  try clear hcz18_3
  try clear hcz18_4
  try clear hcz19_0
  try clear hcz19_1
  try clear hcz19_2
  try clear hcz19_3
  try clear hcz19_4
  try clear hcz21_0
  try clear hcz21_1
  try clear hcz21_2
  try clear hcz21_3
  try clear hcz21_4
  try clear hcz22_0
  try clear hcz22_1
  try clear hcz22_2
  try clear hcz22_3
  try clear hcz22_4
  try clear hcz24_0
  try clear hcz24_1
  try clear hcz24_2
  try clear hcz24_3
  try clear hcz24_4
  try clear hcz25_0
  try clear hcz25_1
  try clear hcz25_2
  try clear hcz25_3
  try clear hcz25_4
  try clear hfz10_0
  try clear hfz10_1
  try clear hfz10_2
  try clear hfz10_3
  try clear hfz10_4
  try clear hfz11_0
  try clear hfz11_1
  try clear hfz11_2
  try clear hfz11_3
  try clear hfz11_4
  try clear hfz15_0
  try clear hfz15_1
  try clear hfz15_2
  try clear hfz15_3
  try clear hfz15_4
  try clear hfz16_0
  try clear hfz16_1
  try clear hfz16_2
  try clear hfz16_3
  try clear hfz16_4
  try clear hfz18_0
  try clear hfz18_1
  try clear hfz18_2
  try clear hfz18_3
  try clear hfz18_4
  try clear hfz19_0
  try clear hfz19_1
  try clear hfz19_2
  try clear hfz19_3
  try clear hfz19_4
  try clear hfz21_0
  try clear hfz21_1
  try clear hfz21_2
  try clear hfz21_3
  try clear hfz21_4
  try clear hfz22_0
  try clear hfz22_1
  try clear hfz22_2
  try clear hfz22_3
  try clear hfz22_4
  try clear hfz24_0
  try clear hfz24_1
  try clear hfz24_2
  try clear hfz24_3
  try clear hfz24_4
  try clear hfz25_0
  try clear hfz25_1
  try clear hfz25_2
  try clear hfz25_3
  try clear hfz25_4
  obtain ⟨kq, x41_2, rfl, HA, HJ2, BK249, BK250, HB⟩ := hcut
  cases kq with
  | zero => exact absurd HA.out (by simp [impl_sameRes.j0])
  | succ kj2 =>
   have H := HA.out
   clear HA
   simp only [impl_sameRes.j0] at H
   by_cases c26 : x41_2 = true
   · subst c26
     rw [if_pos rfl] at H
     obtain rfl := si_ H
     go_wp2
     repeat (go_quiet (fail); try go_wp2)
     go_ret
     exact ⟨rr_, by repeat (first | (with_reducible first | exact HB.out | apply below_alloc | apply pw_below_drewN | apply below_drew1 | refine below_set ?_ GE249.out | refine below_set ?_ GE250.out) | exact HB.out)⟩
   · replace c26 := Bool.eq_false_iff.mpr c26
     subst c26
     rw [if_neg nf_] at H
     have H' := A_ H
     clear H
     have hnb27 := NB249_250.out
     have hnc27 := NB250_249.out
     have hcz28_0 : wc.cell? ⟨gb249, 0, none⟩ = some (.slice A0_0 l0_0.length c0_0) := bl_ BK249.out 0
     have hcz28_1 : wc.cell? ⟨gb249, 1, none⟩ = some (.bool a0_1) := bl_ BK249.out 1
     have hcz28_2 : wc.cell? ⟨gb249, 2, none⟩ = some (.string a0_2) := bl_ BK249.out 2
     have hcz28_3 : wc.cell? ⟨gb249, 3, none⟩ = some (.int .i64 a0_3) := bl_ BK249.out 3
     have hcz28_4 : wc.cell? ⟨gb249, 4, none⟩ = some (.slice A0_4 l0_4.length c0_4) := bl_ BK249.out 4
     have hfz28_0 := blk_frozen BK249.out 0
     have hfz28_1 := blk_frozen BK249.out 1
     have hfz28_2 := blk_frozen BK249.out 2
     have hfz28_3 := blk_frozen BK249.out 3
     have hfz28_4 := blk_frozen BK249.out 4
     go_wp2
     repeat (go_quiet (fail); try go_wp2)
     go_loopg [45] kj2 (fun kq v45 w' => ∃ (x45_2 : Int), v45 = .int .i64 x45_2 ∧ Aside0 (impl_sameRes.l0 kq (l0_4.length : Int) x45_2 l0_0 a0_1 a0_2 a0_3 l0_4 l1_0 a1_1 a1_2 a1_3 l1_4 = some r) ∧ Aside0 (kq ≤ kj2) ∧ Aside0 (w'.heap[gb249]? = some (.cells #[(.slice A0_0 l0_0.length c0_0), .bool a0_1, .string a0_2, .int .i64 a0_3, (.slice A0_4 l0_4.length c0_4)] 79 (0, 0))) ∧ Aside0 (w'.heap[gb250]? = some (.cells #[(.slice A1_0 l1_0.length c1_0), .bool a1_1, .string a1_2, .int .i64 a1_3, (.slice A1_4 l1_4.length c1_4)] 79 (0, 0))) ∧ Aside0 (Below w.heap.size w w'))
     case atStart => exact ⟨(0), rs_, H', ⟨Nat.le_refl _⟩, ⟨vb_ BK249.out⟩, ⟨vb_ BK250.out⟩, ⟨by repeat (first | (with_reducible first | exact HB.out | apply below_alloc | apply pw_below_drewN | apply below_drew1 | refine below_set ?_ GE249.out | refine below_set ?_ GE250.out) | exact HB.out)⟩⟩
     case round =>
      clear H'
      try clear c1
      try clear c2
      try clear p2
      try clear c7
      try clear c8
      try clear c8b0
      try clear c8b1
      try clear c8b2
      try clear c9
      try clear c12
      try clear c12b0
      try clear c12b1
      try clear c13
      try clear c13b0
      try clear c13b1
      try clear c14
      try clear c17
      try clear c20
      try clear c23
      try clear c26
      try clear c27
      try clear hcz10_0
      try clear hcz10_1
      try clear hcz10_2
      try clear hcz10_3
      try clear hcz10_4
      try clear hcz11_0
      try clear hcz11_1
      try clear hcz11_2
      try clear hcz11_3
      try clear hcz11_4
      try clear hcz15_0
      try clear hcz15_1
      try clear hcz15_2
      try clear hcz15_3
      try clear hcz15_4
      try clear hcz16_0
      try clear hcz16_1
      try clear hcz16_2
      try clear hcz16_3
      try clear hcz16_4
      try clear hcz18_0
      try clear hcz18_1
      try clear hcz18_2
      try clear hcz18_3
      try clear hcz18_4
      try clear hcz19_0
      try clear hcz19_1
      try clear hcz19_2
      try clear hcz19_3
      try clear hcz19_4
      try clear hcz21_0
      try clear hcz21_1
      try clear hcz21_2
      try clear hcz21_3
      try clear hcz21_4
      try clear hcz22_0
      try clear hcz22_1
      try clear hcz22_2
      try clear hcz22_3
      try clear hcz22_4
      try clear hcz24_0
      try clear hcz24_1
      try clear hcz24_2
      try clear hcz24_3
      try clear hcz24_4
      try clear hcz25_0
      try clear hcz25_1
      try clear hcz25_2
      try clear hcz25_3
      try clear hcz25_4
      try clear hcz28_0
      try clear hcz28_1
      try clear hcz28_2
      try clear hcz28_3
      try clear hcz28_4
      try clear hfz10_0
      try clear hfz10_1
      try clear hfz10_2
      try clear hfz10_3
      try clear hfz10_4
      try clear hfz11_0
      try clear hfz11_1
      try clear hfz11_2
      try clear hfz11_3
      try clear hfz11_4
      try clear hfz15_0
      try clear hfz15_1
      try clear hfz15_2
      try clear hfz15_3
      try clear hfz15_4
      try clear hfz16_0
      try clear hfz16_1
      try clear hfz16_2
      try clear hfz16_3
      try clear hfz16_4
      try clear hfz18_0
      try clear hfz18_1
      try clear hfz18_2
      try clear hfz18_3
      try clear hfz18_4
      try clear hfz19_0
      try clear hfz19_1
      try clear hfz19_2
      try clear hfz19_3
      try clear hfz19_4
      try clear hfz21_0
      try clear hfz21_1
      try clear hfz21_2
      try clear hfz21_3
      try clear hfz21_4
      try clear hfz22_0
      try clear hfz22_1
      try clear hfz22_2
      try clear hfz22_3
      try clear hfz22_4
      try clear hfz24_0
      try clear hfz24_1
      try clear hfz24_2
      try clear hfz24_3
      try clear hfz24_4
      try clear hfz25_0
      try clear hfz25_1
      try clear hfz25_2
      try clear hfz25_3
      try clear hfz25_4
      try clear hfz28_0
      try clear hfz28_1
      try clear hfz28_2
      try clear hfz28_3
      try clear hfz28_4
      try clear p2
      obtain ⟨x45_2, rfl, HA, HK2, BK249, BK250, HB⟩ := hrel
      cases gk with
      | zero => exact absurd HA.out (by simp [impl_sameRes.l0])
      | succ k2 =>
       have H := HA.out
       clear HA
       simp only [impl_sameRes.l0] at H
       by_cases c29 : x45_2 < (l0_4.length : Int)
       rotate_left
       · rw [if_neg c29] at H
         have c29b0 : decide (x45_2 < (l0_4.length : Int)) = false := decide_eq_false c29
         clear c29
         obtain rfl := si_ H
         go_wp2
         repeat (go_quiet (fail); try go_wp2)
         go_ret
         exact ⟨rr_, by repeat (first | (with_reducible first | exact HB.out | apply below_alloc | apply pw_below_drewN | apply below_drew1 | refine below_set ?_ GE249.out | refine below_set ?_ GE250.out) | exact HB.out)⟩
       rw [if_pos c29] at H
       have c29b0 : decide (x45_2 < (l0_4.length : Int)) = true := decide_eq_true c29
       clear c29
       by_cases c30 : 0 ≤ x45_2
       rotate_left
       · exact absurd H (by rw [if_neg c30]; simp)
       rw [if_pos c30] at H
       have c30b0 : decide (0 ≤ x45_2) = true := decide_eq_true c30
       clear c30
       by_cases c31 : x45_2 < (l0_4.length : Int)
       rotate_left
       · exact absurd H (by rw [if_neg c31]; simp)
       rw [if_pos c31] at H
       have c31b0 : decide (x45_2 < (l0_4.length : Int)) = true := decide_eq_true c31
       clear c31
       by_cases c32 : x45_2 < (l1_4.length : Int)
       rotate_left
       · exact absurd H (by rw [if_neg c32]; simp)
       rw [if_pos c32] at H
       have c32b0 : decide (x45_2 < (l1_4.length : Int)) = true := decide_eq_true c32
       clear c32
       by_cases c33 : (!((((rd_T97 l0_4 x45_2).f0).toList) == (((rd_T97 l1_4 x45_2).f0).toList)) || (!((((rd_T97 l0_4 x45_2).f1).toList) == (((rd_T97 l1_4 x45_2).f1).toList)) || (!((((rd_T97 l0_4 x45_2).f2).toList) == (((rd_T97 l1_4 x45_2).f2).toList))))) = true
       · rw [if_pos c33] at H
         have c33b0 : (!((((rd_T97 l0_4 x45_2).f0).toList) == (((rd_T97 l1_4 x45_2).f0).toList)) || (!((((rd_T97 l0_4 x45_2).f1).toList) == (((rd_T97 l1_4 x45_2).f1).toList)) || (!((((rd_T97 l0_4 x45_2).f2).toList) == (((rd_T97 l1_4 x45_2).f2).toList))))) = true := c33
         clear c33
         obtain rfl := si_ H
         have hnb34 := NB249_250.out
         have hnc34 := NB250_249.out
         have hcz35_0 : wr.cell? ⟨gb249, 0, none⟩ = some (.slice A0_0 l0_0.length c0_0) := bl_ BK249.out 0
         have hcz35_1 : wr.cell? ⟨gb249, 1, none⟩ = some (.bool a0_1) := bl_ BK249.out 1
         have hcz35_2 : wr.cell? ⟨gb249, 2, none⟩ = some (.string a0_2) := bl_ BK249.out 2
         have hcz35_3 : wr.cell? ⟨gb249, 3, none⟩ = some (.int .i64 a0_3) := bl_ BK249.out 3
         have hcz35_4 : wr.cell? ⟨gb249, 4, none⟩ = some (.slice A0_4 l0_4.length c0_4) := bl_ BK249.out 4
         have hfz35_0 := blk_frozen BK249.out 0
         have hfz35_1 := blk_frozen BK249.out 1
         have hfz35_2 := blk_frozen BK249.out 2
         have hfz35_3 := blk_frozen BK249.out 3
         have hfz35_4 := blk_frozen BK249.out 4
         have p252 : 0 ≤ (x45_2 : Int) := od_
         have q252 : x45_2 < (l0_4.length : Int) := od_
         obtain ⟨ad252, e252, hx252_0, hx252_1, hx252_2⟩ := at_T97 HR0_4.out x45_2 p252 q252
         cases e252
         replace hx252_0 := bc_ HB.out hx252_0
         replace hx252_1 := bc_ HB.out hx252_1
         replace hx252_2 := bc_ HB.out hx252_2
         replace p252 := eq_true p252
         replace q252 := eq_true q252
         have hcz36_0 : wr.cell? ⟨gb250, 0, none⟩ = some (.slice A1_0 l1_0.length c1_0) := bl_ BK250.out 0
         have hcz36_1 : wr.cell? ⟨gb250, 1, none⟩ = some (.bool a1_1) := bl_ BK250.out 1
         have hcz36_2 : wr.cell? ⟨gb250, 2, none⟩ = some (.string a1_2) := bl_ BK250.out 2
         have hcz36_3 : wr.cell? ⟨gb250, 3, none⟩ = some (.int .i64 a1_3) := bl_ BK250.out 3
         have hcz36_4 : wr.cell? ⟨gb250, 4, none⟩ = some (.slice A1_4 l1_4.length c1_4) := bl_ BK250.out 4
         have hfz36_0 := blk_frozen BK250.out 0
         have hfz36_1 := blk_frozen BK250.out 1
         have hfz36_2 := blk_frozen BK250.out 2
         have hfz36_3 := blk_frozen BK250.out 3
         have hfz36_4 := blk_frozen BK250.out 4
         have p253 : 0 ≤ (x45_2 : Int) := od_
         have q253 : x45_2 < (l1_4.length : Int) := od_
         obtain ⟨ad253, e253, hx253_0, hx253_1, hx253_2⟩ := at_T97 HR1_4.out x45_2 p253 q253
         cases e253
         replace hx253_0 := bc_ HB.out hx253_0
         replace hx253_1 := bc_ HB.out hx253_1
         replace hx253_2 := bc_ HB.out hx253_2
         replace p253 := eq_true p253
         replace q253 := eq_true q253
         go_wp2
         repeat (go_quiet (fail); try go_wp2)
         go_ret
         exact ⟨rr_, by repeat (first | (with_reducible first | exact HB.out | apply below_alloc | apply pw_below_drewN | apply below_drew1 | refine below_set ?_ GE249.out | refine below_set ?_ GE250.out) | exact HB.out)⟩
       rw [if_neg c33] at H
       have c33b0 : (!((((rd_T97 l0_4 x45_2).f0).toList) == (((rd_T97 l1_4 x45_2).f0).toList)) || (!((((rd_T97 l0_4 x45_2).f1).toList) == (((rd_T97 l1_4 x45_2).f1).toList)) || (!((((rd_T97 l0_4 x45_2).f2).toList) == (((rd_T97 l1_4 x45_2).f2).toList))))) = false := by simpa using c33
       clear c33
       have H' := A_ H
       clear H
       have hnb37 := NB249_250.out
       have hnc37 := NB250_249.out
       have hcz38_0 : wr.cell? ⟨gb249, 0, none⟩ = some (.slice A0_0 l0_0.length c0_0) := bl_ BK249.out 0
       have hcz38_1 : wr.cell? ⟨gb249, 1, none⟩ = some (.bool a0_1) := bl_ BK249.out 1
       have hcz38_2 : wr.cell? ⟨gb249, 2, none⟩ = some (.string a0_2) := bl_ BK249.out 2
       have hcz38_3 : wr.cell? ⟨gb249, 3, none⟩ = some (.int .i64 a0_3) := bl_ BK249.out 3
       have hcz38_4 : wr.cell? ⟨gb249, 4, none⟩ = some (.slice A0_4 l0_4.length c0_4) := bl_ BK249.out 4
       have hfz38_0 := blk_frozen BK249.out 0
       have hfz38_1 := blk_frozen BK249.out 1
       have hfz38_2 := blk_frozen BK249.out 2
       have hfz38_3 := blk_frozen BK249.out 3
       have hfz38_4 := blk_frozen BK249.out 4
       have p252 : 0 ≤ (x45_2 : Int) := od_
       have q252 : x45_2 < (l0_4.length : Int) := od_
       obtain ⟨ad252, e252, hx252_0, hx252_1, hx252_2⟩ := at_T97 HR0_4.out x45_2 p252 q252
       cases e252
       replace hx252_0 := bc_ HB.out hx252_0
       replace hx252_1 := bc_ HB.out hx252_1
       replace hx252_2 := bc_ HB.out hx252_2
       replace p252 := eq_true p252
       replace q252 := eq_true q252
       have hcz39_0 : wr.cell? ⟨gb250, 0, none⟩ = some (.slice A1_0 l1_0.length c1_0) := bl_ BK250.out 0
       have hcz39_1 : wr.cell? ⟨gb250, 1, none⟩ = some (.bool a1_1) := bl_ BK250.out 1
       have hcz39_2 : wr.cell? ⟨gb250, 2, none⟩ = some (.string a1_2) := bl_ BK250.out 2
       have hcz39_3 : wr.cell? ⟨gb250, 3, none⟩ = some (.int .i64 a1_3) := bl_ BK250.out 3
       have hcz39_4 : wr.cell? ⟨gb250, 4, none⟩ = some (.slice A1_4 l1_4.length c1_4) := bl_ BK250.out 4
       have hfz39_0 := blk_frozen BK250.out 0
       have hfz39_1 := blk_frozen BK250.out 1
       have hfz39_2 := blk_frozen BK250.out 2
       have hfz39_3 := blk_frozen BK250.out 3
       have hfz39_4 := blk_frozen BK250.out 4
       have p253 : 0 ≤ (x45_2 : Int) := od_
       have q253 : x45_2 < (l1_4.length : Int) := od_
       obtain ⟨ad253, e253, hx253_0, hx253_1, hx253_2⟩ := at_T97 HR1_4.out x45_2 p253 q253
       cases e253
       replace hx253_0 := bc_ HB.out hx253_0
       replace hx253_1 := bc_ HB.out hx253_1
       replace hx253_2 := bc_ HB.out hx253_2
       replace p253 := eq_true p253
       replace q253 := eq_true q253
       go_wp2
       repeat (go_quiet (fail); try go_wp2)
       go_roundg k2
       case measure => have := HJ2.out; have := HK2.out; omega
       case rel => exact ⟨(wrap64 (x45_2 + 1)), rs_, H', ⟨by have := HJ2.out; have := HK2.out; omega⟩, ⟨vb_ BK249.out⟩, ⟨vb_ BK250.out⟩, ⟨by repeat (first | (with_reducible first | exact HB.out | apply below_alloc | apply pw_below_drewN | apply below_drew1 | refine below_set ?_ GE249.out | refine below_set ?_ GE250.out) | exact HB.out)⟩⟩
def impl_sameTrees.l0 : Nat → List (S79) → List (S79) → Int → Int → Option (Bool)
 | 0, _, _, _, _ => none
 | k + 1, x0, x1, x12, x13 => if x13 < x12 then (if 0 ≤ x13 then (if x13 < (x0.length : Int) then (if x13 < (x1.length : Int) then ((impl_sameRes.f k ((rd_T79 x0 x13).f0) ((rd_T79 x0 x13).f1) ((rd_T79 x0 x13).f2) ((rd_T79 x0 x13).f3) ((rd_T79 x0 x13).f4) ((rd_T79 x1 x13).f0) ((rd_T79 x1 x13).f1) ((rd_T79 x1 x13).f2) ((rd_T79 x1 x13).f3) ((rd_T79 x1 x13).f4)).bind fun t256 => (if t256 = true then (impl_sameTrees.l0 k x0 x1 x12 (wrap64 (x13 + 1))) else (some false))) else (none)) else (none)) else (none)) else (some true)
def impl_sameTrees.f (k : Nat) (l0 : List (S79)) (l1 : List (S79)) : Option (Bool) := if (l0.length : Int) = (l1.length : Int) then (impl_sameTrees.l0 k l0 l1 (l0.length : Int) 0) else (some false)
def impl_sameTrees.T6 : Bool × List (List Nat × List Nat) := (true, [([], []), ([], []), ([0, 1], [0, 1]), ([2], [2]), ([], []), ([], []), ([4, 5], [4, 5]), ([6], [6]), ([3, 7], [3, 7]), ([8], [8])])
def impl_sameTrees.B6 : List Nat := [0, 0, 3, 7, 0, 0, 48, 112, 255, 511]
theorem impl_sameTrees.tab6 : rtab .any (opsOf Try.f52 6) = impl_sameTrees.T6 := by kernel_rfl
theorem impl_sameTrees.bits6 : waitsOk impl_sameTrees.T6.2 impl_sameTrees.B6 = true := by kernel_rfl
set_option maxHeartbeats 8000000 in
set_option maxRecDepth 100000 in
theorem impl_sameTrees.calls (k : Nat) (A0 : Option Addr) (c0 : Nat) (l0 : List (S79)) (A1 : Option Addr) (c1 : Nat) (l1 : List (S79)) (r : Bool) (w : World) (hr0 : Kd.C k79 w A0 l0.length l0) (hc0 : l0.length ≤ c0) (hr1 : Kd.C k79 w A1 l1.length l1) (hc1 : l1.length ≤ c1) (h : impl_sameTrees.f k l0 l1 = some r) :
 Calls Try.prog 52 #[.slice A0 l0.length c0, .slice A1 l1.length c1] w fun e w' => e = .returned (.bool r) ∧ Below w.heap.size w w' := by
 have hu79 := Try.underlying79
 have HR0 := A_ hr0
 have HC0 := A_ hc0
 clear hr0 hc0
 have HR1 := A_ hr1
 have HC1 := A_ hc1
 clear hr1 hc1
 have HB := A_ (Below.refl w.heap.size w)
 have H : (if (l0.length : Int) = (l1.length : Int) then (impl_sameTrees.l0 k l0 l1 (l0.length : Int) 0) else (some false)) = some r := h
 clear h
 by_cases c3 : (l0.length : Int) = (l1.length : Int)
 rotate_left
 · rw [if_neg c3] at H
   have c3b0 : ((l0.length : Int) == (l1.length : Int)) = false := beq_eq_false_iff_ne.mpr c3
   have c3b1 : ((l0.length : Int) != (l1.length : Int)) = true := bne_iff_ne.mpr c3
   have c3b2 : (l0.length == l1.length) = false := by first | simpa using c3 | (simp at c3 ⊢; omega)
   obtain rfl := si_ H
   go_enter Try.func52, Try.ntmps52
   go_wp2
   go_ret
   exact ⟨rr_, bB_⟩
 rw [if_pos c3] at H
 have c3b0 : ((l0.length : Int) == (l1.length : Int)) = true := beq_iff_eq.mpr c3
 have c3b1 : ((l0.length : Int) != (l1.length : Int)) = false := bne_eq_false_iff_eq.mpr c3
 have c3b2 : (l0.length == l1.length) = true := by first | simpa using c3 | (simp at c3 ⊢; omega)
 clear c3
 have H' := A_ H
 clear H
 go_enter Try.func52, Try.ntmps52
 go_wp2
 go_loopg [13] k (fun kq v13 w' => ∃ (x13_1 : Int), v13 = .int .i64 x13_1 ∧ Aside0 (impl_sameTrees.l0 kq l0 l1 (l0.length : Int) x13_1 = some r) ∧ Aside0 (kq ≤ k) ∧ Aside0 (Below w.heap.size w w'))
 case atStart => exact ⟨(0), rs_, H', ⟨Nat.le_refl _⟩, ⟨bB_⟩⟩
 case round =>
  clear H'
  try clear c1
  try clear p2
  try clear c3
  try clear c3b0
  try clear c3b1
  try clear c3b2
  obtain ⟨x13_1, rfl, HA, HK1, HB⟩ := hrel
  cases gk with
  | zero => exact absurd HA.out (by simp [impl_sameTrees.l0])
  | succ k1 =>
   have H := HA.out
   clear HA
   simp only [impl_sameTrees.l0] at H
   by_cases c4 : x13_1 < (l0.length : Int)
   rotate_left
   · rw [if_neg c4] at H
     have c4b0 : decide (x13_1 < (l0.length : Int)) = false := decide_eq_false c4
     clear c4
     obtain rfl := si_ H
     go_wp2
     go_ret
     exact ⟨rr_, bB_⟩
   rw [if_pos c4] at H
   have c4b0 : decide (x13_1 < (l0.length : Int)) = true := decide_eq_true c4
   clear c4
   by_cases c5 : 0 ≤ x13_1
   rotate_left
   · exact absurd H (by rw [if_neg c5]; simp)
   rw [if_pos c5] at H
   have c5b0 : decide (0 ≤ x13_1) = true := decide_eq_true c5
   clear c5
   by_cases c6 : x13_1 < (l0.length : Int)
   rotate_left
   · exact absurd H (by rw [if_neg c6]; simp)
   rw [if_pos c6] at H
   have c6b0 : decide (x13_1 < (l0.length : Int)) = true := decide_eq_true c6
   clear c6
   by_cases c7 : x13_1 < (l1.length : Int)
   rotate_left
   · exact absurd H (by rw [if_neg c7]; simp)
   rw [if_pos c7] at H
   have c7b0 : decide (x13_1 < (l1.length : Int)) = true := decide_eq_true c7
   clear c7
   obtain ⟨t256, A8, H⟩ := bo_ H
   (try dsimp only at H)
   by_cases c9 : t256 = true
   · subst c9
     rw [if_pos rfl] at H
     have H' := A_ H
     clear H
     try go_wp2
     replace HB := A_ (below_drew1 HB.out)
     have p254 : 0 ≤ (x13_1 : Int) := od_
     have q254 : x13_1 < (l0.length : Int) := od_
     obtain ⟨ad254, A254_0, c254_0, A254_4, c254_4, e254, hx254_0, hx254_1, hx254_2, hx254_3, hx254_4, hl254_0, hi254_0, hl254_4, hi254_4⟩ := at_T79 HR0.out x13_1 p254 q254
     have hw254_4 := hx254_4
     have hw254_3 := hx254_3
     have hw254_2 := hx254_2
     have hw254_1 := hx254_1
     have hw254_0 := hx254_0
     cases e254
     replace hx254_0 := bc_ HB.out hx254_0
     replace hx254_1 := bc_ HB.out hx254_1
     replace hx254_2 := bc_ HB.out hx254_2
     replace hx254_3 := bc_ HB.out hx254_3
     replace hx254_4 := bc_ HB.out hx254_4
     have HR254_0 := A_ hi254_0
     have HC254_0 := A_ hl254_0
     clear hi254_0 hl254_0
     have HR254_4 := A_ hi254_4
     have HC254_4 := A_ hl254_4
     clear hi254_4 hl254_4
     replace p254 := eq_true p254
     replace q254 := eq_true q254
     have p255 : 0 ≤ (x13_1 : Int) := od_
     have q255 : x13_1 < (l1.length : Int) := od_
     obtain ⟨ad255, A255_0, c255_0, A255_4, c255_4, e255, hx255_0, hx255_1, hx255_2, hx255_3, hx255_4, hl255_0, hi255_0, hl255_4, hi255_4⟩ := at_T79 HR1.out x13_1 p255 q255
     have hw255_4 := hx255_4
     have hw255_3 := hx255_3
     have hw255_2 := hx255_2
     have hw255_1 := hx255_1
     have hw255_0 := hx255_0
     cases e255
     replace hx255_0 := bc_ HB.out hx255_0
     replace hx255_1 := bc_ HB.out hx255_1
     replace hx255_2 := bc_ HB.out hx255_2
     replace hx255_3 := bc_ HB.out hx255_3
     replace hx255_4 := bc_ HB.out hx255_4
     have HR255_0 := A_ hi255_0
     have HC255_0 := A_ hl255_0
     clear hi255_0 hl255_0
     have HR255_4 := A_ hi255_4
     have HC255_4 := A_ hl255_4
     clear hi255_4 hl255_4
     replace p255 := eq_true p255
     replace q255 := eq_true q255
     refine start_ (n := 10) (S := fun w' => w'.cell? (ad254.add ((x13_1).toNat * 5)) = some (.slice A254_0 ((rd_T79 l0 x13_1).f0).length c254_0) ∧ w'.cell? ⟨(ad254.add ((x13_1).toNat * 5)).block, (ad254.add ((x13_1).toNat * 5)).off + 1, none⟩ = some (.bool ((rd_T79 l0 x13_1).f1)) ∧ w'.cell? ⟨(ad254.add ((x13_1).toNat * 5)).block, (ad254.add ((x13_1).toNat * 5)).off + 2, none⟩ = some (.string ((rd_T79 l0 x13_1).f2)) ∧ w'.cell? ⟨(ad254.add ((x13_1).toNat * 5)).block, (ad254.add ((x13_1).toNat * 5)).off + 3, none⟩ = some (.int .i64 ((rd_T79 l0 x13_1).f3)) ∧ w'.cell? ⟨(ad254.add ((x13_1).toNat * 5)).block, (ad254.add ((x13_1).toNat * 5)).off + 4, none⟩ = some (.slice A254_4 ((rd_T79 l0 x13_1).f4).length c254_4) ∧ w'.cell? (ad255.add ((x13_1).toNat * 5)) = some (.slice A255_0 ((rd_T79 l1 x13_1).f0).length c255_0) ∧ w'.cell? ⟨(ad255.add ((x13_1).toNat * 5)).block, (ad255.add ((x13_1).toNat * 5)).off + 1, none⟩ = some (.bool ((rd_T79 l1 x13_1).f1)) ∧ w'.cell? ⟨(ad255.add ((x13_1).toNat * 5)).block, (ad255.add ((x13_1).toNat * 5)).off + 2, none⟩ = some (.string ((rd_T79 l1 x13_1).f2)) ∧ w'.cell? ⟨(ad255.add ((x13_1).toNat * 5)).block, (ad255.add ((x13_1).toNat * 5)).off + 3, none⟩ = some (.int .i64 ((rd_T79 l1 x13_1).f3)) ∧ w'.cell? ⟨(ad255.add ((x13_1).toNat * 5)).block, (ad255.add ((x13_1).toNat * 5)).off + 4, none⟩ = some (.slice A255_4 ((rd_T79 l1 x13_1).f4).length c255_4)) (ds := []) #[false, false, false, false, false, false, false, false, false, false] (by kernel_rfl) rfl rfl ⟨(be_ hw254_0), (be_ hw254_1), (be_ hw254_2), (be_ hw254_3), (be_ hw254_4), (be_ hw255_0), (be_ hw255_1), (be_ hw255_2), (be_ hw255_3), (be_ hw255_4)⟩ (fun hHeld => ?_); refine with_tabW impl_sameTrees.tab6 impl_sameTrees.bits6 (fun HT_ HW_ => ?_)
     generalize wr.drew = w10 at HB HR254_0 HR254_4 HR255_0 HR255_4 hx254_0 hx254_1 hx254_2 hx254_3 hx254_4 hx255_0 hx255_1 hx255_2 hx255_3 hx255_4 hHeld ⊢
     refine pu_ (i := 0) (N := some 16) ?_
     refine pu_ (i := 1) (N := some 17) ?_
     refine pu_ (i := 2) (N := some 18) ?_
     refine pu_ (i := 4) (N := some 20) ?_
     refine pu_ (i := 5) (N := some 21) ?_
     refine pu_ (i := 6) (N := some 22) ?_
     refine tk_ (i := 3) (N := some 19) hHeld ?_
     refine tk_ (i := 7) (N := some 23) hHeld ?_
     refine on_ (i := 8) (N := some 24) (fun K hK => ?_)
     refine goes_ Try.func71 (by kernel_rfl) rfl #[.agg #[.slice A254_0 ((rd_T79 l0 x13_1).f0).length c254_0, .bool ((rd_T79 l0 x13_1).f1), .string ((rd_T79 l0 x13_1).f2), .int .i64 ((rd_T79 l0 x13_1).f3), .slice A254_4 ((rd_T79 l0 x13_1).f4).length c254_4], .agg #[.slice A255_0 ((rd_T79 l1 x13_1).f0).length c255_0, .bool ((rd_T79 l1 x13_1).f1), .string ((rd_T79 l1 x13_1).f2), .int .i64 ((rd_T79 l1 x13_1).f3), .slice A255_4 ((rd_T79 l1 x13_1).f4).length c255_4]] (by rfl) rfl rfl ml_ ?_
     with_reducible refine (impl_sameRes.calls k1 _ _ ((rd_T79 l0 x13_1).f0) ((rd_T79 l0 x13_1).f1) ((rd_T79 l0 x13_1).f2) ((rd_T79 l0 x13_1).f3) _ _ ((rd_T79 l0 x13_1).f4) _ _ ((rd_T79 l1 x13_1).f0) ((rd_T79 l1 x13_1).f1) ((rd_T79 l1 x13_1).f2) ((rd_T79 l1 x13_1).f3) _ _ ((rd_T79 l1 x13_1).f4) true _ ?s1 ?s2 ?s3 ?s4 ?s5 ?s6 ?s7 ?s8 A8.out).mono ?_
     (case s1 => exact cC_ (Kd.C_below HR254_0.out HB.out))
     (case s2 => exact HC254_0.out)
     (case s3 => exact cC_ (Kd.C_below HR254_4.out HB.out))
     (case s4 => exact HC254_4.out)
     (case s5 => exact cC_ (Kd.C_below HR255_0.out HB.out))
     (case s6 => exact HC255_0.out)
     (case s7 => exact cC_ (Kd.C_below HR255_4.out HB.out))
     (case s8 => exact HC255_4.out)
     rintro e w11 ⟨rfl, hb⟩
     refine ⟨_, rfl, ?_⟩
     replace HB := A_ (below_step bB_ hb)
     (try clear hb)
     (try clear hb2)
     (try clear hk)
     (try clear hi)
     refine hK.out _ _ ⟨(be_ hw254_0), (be_ hw254_1), (be_ hw254_2), (be_ hw254_3), (be_ hw254_4), (be_ hw255_0), (be_ hw255_1), (be_ hw255_2), (be_ hw255_3), (be_ hw255_4)⟩ (fun hHeld => ?_)
     clear hK K
     refine no_ (some 24) ?_
     refine pu_ (i := 9) (N := some 25) ?_
     refine done_ (done_of HT_.out (by kernel_rfl)) ?_
     (try clear hHeld)
     try go_wp2
     go_roundg k1
     case measure => have := HK1.out; omega
     case rel => exact ⟨(wrap64 (x13_1 + 1)), rs_, H', ⟨by have := HK1.out; omega⟩, ⟨bB_⟩⟩
   · replace c9 := Bool.eq_false_iff.mpr c9
     subst c9
     rw [if_neg nf_] at H
     obtain rfl := si_ H
     try go_wp2
     replace HB := A_ (below_drew1 HB.out)
     have p254 : 0 ≤ (x13_1 : Int) := od_
     have q254 : x13_1 < (l0.length : Int) := od_
     obtain ⟨ad254, A254_0, c254_0, A254_4, c254_4, e254, hx254_0, hx254_1, hx254_2, hx254_3, hx254_4, hl254_0, hi254_0, hl254_4, hi254_4⟩ := at_T79 HR0.out x13_1 p254 q254
     have hw254_4 := hx254_4
     have hw254_3 := hx254_3
     have hw254_2 := hx254_2
     have hw254_1 := hx254_1
     have hw254_0 := hx254_0
     cases e254
     replace hx254_0 := bc_ HB.out hx254_0
     replace hx254_1 := bc_ HB.out hx254_1
     replace hx254_2 := bc_ HB.out hx254_2
     replace hx254_3 := bc_ HB.out hx254_3
     replace hx254_4 := bc_ HB.out hx254_4
     have HR254_0 := A_ hi254_0
     have HC254_0 := A_ hl254_0
     clear hi254_0 hl254_0
     have HR254_4 := A_ hi254_4
     have HC254_4 := A_ hl254_4
     clear hi254_4 hl254_4
     replace p254 := eq_true p254
     replace q254 := eq_true q254
     have p255 : 0 ≤ (x13_1 : Int) := od_
     have q255 : x13_1 < (l1.length : Int) := od_
     obtain ⟨ad255, A255_0, c255_0, A255_4, c255_4, e255, hx255_0, hx255_1, hx255_2, hx255_3, hx255_4, hl255_0, hi255_0, hl255_4, hi255_4⟩ := at_T79 HR1.out x13_1 p255 q255
     have hw255_4 := hx255_4
     have hw255_3 := hx255_3
     have hw255_2 := hx255_2
     have hw255_1 := hx255_1
     have hw255_0 := hx255_0
     cases e255
     replace hx255_0 := bc_ HB.out hx255_0
     replace hx255_1 := bc_ HB.out hx255_1
     replace hx255_2 := bc_ HB.out hx255_2
     replace hx255_3 := bc_ HB.out hx255_3
     replace hx255_4 := bc_ HB.out hx255_4
     have HR255_0 := A_ hi255_0
     have HC255_0 := A_ hl255_0
     clear hi255_0 hl255_0
     have HR255_4 := A_ hi255_4
     have HC255_4 := A_ hl255_4
     clear hi255_4 hl255_4
     replace p255 := eq_true p255
     replace q255 := eq_true q255
     refine start_ (n := 10) (S := fun w' => w'.cell? (ad254.add ((x13_1).toNat * 5)) = some (.slice A254_0 ((rd_T79 l0 x13_1).f0).length c254_0) ∧ w'.cell? ⟨(ad254.add ((x13_1).toNat * 5)).block, (ad254.add ((x13_1).toNat * 5)).off + 1, none⟩ = some (.bool ((rd_T79 l0 x13_1).f1)) ∧ w'.cell? ⟨(ad254.add ((x13_1).toNat * 5)).block, (ad254.add ((x13_1).toNat * 5)).off + 2, none⟩ = some (.string ((rd_T79 l0 x13_1).f2)) ∧ w'.cell? ⟨(ad254.add ((x13_1).toNat * 5)).block, (ad254.add ((x13_1).toNat * 5)).off + 3, none⟩ = some (.int .i64 ((rd_T79 l0 x13_1).f3)) ∧ w'.cell? ⟨(ad254.add ((x13_1).toNat * 5)).block, (ad254.add ((x13_1).toNat * 5)).off + 4, none⟩ = some (.slice A254_4 ((rd_T79 l0 x13_1).f4).length c254_4) ∧ w'.cell? (ad255.add ((x13_1).toNat * 5)) = some (.slice A255_0 ((rd_T79 l1 x13_1).f0).length c255_0) ∧ w'.cell? ⟨(ad255.add ((x13_1).toNat * 5)).block, (ad255.add ((x13_1).toNat * 5)).off + 1, none⟩ = some (.bool ((rd_T79 l1 x13_1).f1)) ∧ w'.cell? ⟨(ad255.add ((x13_1).toNat * 5)).block, (ad255.add ((x13_1).toNat * 5)).off + 2, none⟩ = some (.string ((rd_T79 l1 x13_1).f2)) ∧ w'.cell? ⟨(ad255.add ((x13_1).toNat * 5)).block, (ad255.add ((x13_1).toNat * 5)).off + 3, none⟩ = some (.int .i64 ((rd_T79 l1 x13_1).f3)) ∧ w'.cell? ⟨(ad255.add ((x13_1).toNat * 5)).block, (ad255.add ((x13_1).toNat * 5)).off + 4, none⟩ = some (.slice A255_4 ((rd_T79 l1 x13_1).f4).length c255_4)) (ds := []) #[false, false, false, false, false, false, false, false, false, false] (by kernel_rfl) rfl rfl ⟨(be_ hw254_0), (be_ hw254_1), (be_ hw254_2), (be_ hw254_3), (be_ hw254_4), (be_ hw255_0), (be_ hw255_1), (be_ hw255_2), (be_ hw255_3), (be_ hw255_4)⟩ (fun hHeld => ?_); refine with_tabW impl_sameTrees.tab6 impl_sameTrees.bits6 (fun HT_ HW_ => ?_)
     generalize wr.drew = w12 at HB HR254_0 HR254_4 HR255_0 HR255_4 hx254_0 hx254_1 hx254_2 hx254_3 hx254_4 hx255_0 hx255_1 hx255_2 hx255_3 hx255_4 hHeld ⊢
     refine pu_ (i := 0) (N := some 16) ?_
     refine pu_ (i := 1) (N := some 17) ?_
     refine pu_ (i := 2) (N := some 18) ?_
     refine pu_ (i := 4) (N := some 20) ?_
     refine pu_ (i := 5) (N := some 21) ?_
     refine pu_ (i := 6) (N := some 22) ?_
     refine tk_ (i := 3) (N := some 19) hHeld ?_
     refine tk_ (i := 7) (N := some 23) hHeld ?_
     refine on_ (i := 8) (N := some 24) (fun K hK => ?_)
     refine goes_ Try.func71 (by kernel_rfl) rfl #[.agg #[.slice A254_0 ((rd_T79 l0 x13_1).f0).length c254_0, .bool ((rd_T79 l0 x13_1).f1), .string ((rd_T79 l0 x13_1).f2), .int .i64 ((rd_T79 l0 x13_1).f3), .slice A254_4 ((rd_T79 l0 x13_1).f4).length c254_4], .agg #[.slice A255_0 ((rd_T79 l1 x13_1).f0).length c255_0, .bool ((rd_T79 l1 x13_1).f1), .string ((rd_T79 l1 x13_1).f2), .int .i64 ((rd_T79 l1 x13_1).f3), .slice A255_4 ((rd_T79 l1 x13_1).f4).length c255_4]] (by rfl) rfl rfl ml_ ?_
     with_reducible refine (impl_sameRes.calls k1 _ _ ((rd_T79 l0 x13_1).f0) ((rd_T79 l0 x13_1).f1) ((rd_T79 l0 x13_1).f2) ((rd_T79 l0 x13_1).f3) _ _ ((rd_T79 l0 x13_1).f4) _ _ ((rd_T79 l1 x13_1).f0) ((rd_T79 l1 x13_1).f1) ((rd_T79 l1 x13_1).f2) ((rd_T79 l1 x13_1).f3) _ _ ((rd_T79 l1 x13_1).f4) false _ ?s1 ?s2 ?s3 ?s4 ?s5 ?s6 ?s7 ?s8 A8.out).mono ?_
     (case s1 => exact cC_ (Kd.C_below HR254_0.out HB.out))
     (case s2 => exact HC254_0.out)
     (case s3 => exact cC_ (Kd.C_below HR254_4.out HB.out))
     (case s4 => exact HC254_4.out)
     (case s5 => exact cC_ (Kd.C_below HR255_0.out HB.out))
     (case s6 => exact HC255_0.out)
     (case s7 => exact cC_ (Kd.C_below HR255_4.out HB.out))
     (case s8 => exact HC255_4.out)
     rintro e w13 ⟨rfl, hb⟩
     refine ⟨_, rfl, ?_⟩
     replace HB := A_ (below_step bB_ hb)
     (try clear hb)
     (try clear hb2)
     (try clear hk)
     (try clear hi)
     refine hK.out _ _ ⟨(be_ hw254_0), (be_ hw254_1), (be_ hw254_2), (be_ hw254_3), (be_ hw254_4), (be_ hw255_0), (be_ hw255_1), (be_ hw255_2), (be_ hw255_3), (be_ hw255_4)⟩ (fun hHeld => ?_)
     clear hK K
     refine no_ (some 24) ?_
     refine pu_ (i := 9) (N := some 25) ?_
     refine done_ (done_of HT_.out (by kernel_rfl)) ?_
     (try clear hHeld)
     try go_wp2
     go_ret
     exact ⟨rr_, bB_⟩
end Go.Proofs.Ytigoeooelfeopaa.Q
