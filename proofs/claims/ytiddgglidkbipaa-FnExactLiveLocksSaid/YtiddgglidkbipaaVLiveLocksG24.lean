-- PRINTED by print.py (a twelfth state) out of the translation. Not trusted: Lean checks it.
import Derived.Test.YtiddgglidkbipaaVLiveLocksG12
import Derived.Test.YtiddgglidkbipaaVLiveLocksG22
import Derived.Test.YtiddgglidkbipaaVLiveLocksG23
import Derived.Test.YtiddgglidkbipaaVLiveLocksWWords
import Derived.Test.YtiddgglidkbipaaVLiveLocksWApart
import Derived.Deep.Slices
import Derived.WideShapes
import Derived.Laws.Strings
import Derived.Test.YtiddgglidkbipaaVLiveLocksWLast
import Derived.Test.YtiddgglidkbipaaVLiveLocksWMore
namespace Go.Proofs.Ytiddgglidkbipaa.Q
open Go.RowKit Go.Proofs.YtiddgglidkbipaaW.PrintWords Go.Proofs.YtiddgglidkbipaaW.PrintLast Go.Proofs.YtiddgglidkbipaaW.PrintMore
attribute [local go_sem] max2_int min2_int max_two min_two max_three min_three max_four min_four   -- for this text's walks alone
set_option linter.unusedVariables false
set_option linter.unusedSimpArgs false
def laws_toLockS.l0 : Nat → List (S24) → List (S28) → Int → Option ((List (S28)))
 | 0, _, _, _ => none
 | k + 1, x0, x3, x4 => if x4 < (x0.length : Int) then (if 0 ≤ x4 then ((laws_toLock.f k ((rd_T24 x0 x4).f0) ((rd_T24 x0 x4).f1) ((rd_T24 x0 x4).f2) ((rd_T24 x0 x4).f3) ((rd_T24 x0 x4).f4)).bind fun bt256 => (if x4 < (x3.length : Int) then (laws_toLockS.l0 k x0 (x3.set (x4 : Int).toNat (⟨bt256.1, bt256.2.1, bt256.2.2.1, bt256.2.2.2.1, bt256.2.2.2.2⟩ : S28)) (wrap64 (x4 + 1))) else (none))) else (none)) else (some x3)
def laws_toLockS.f (k : Nat) (l0 : List (S24)) : Option ((List (S28))) := if 0 ≤ (l0.length : Int) then (if ((l0.length : Int) : Int).toNat ≤ 5864062014805 then (laws_toLockS.l0 k l0 (List.replicate ((l0.length : Int) : Int).toNat z28) 0) else (none)) else (none)
set_option maxHeartbeats 8000000 in
set_option maxRecDepth 100000 in
theorem laws_toLockS.calls (k : Nat) (A0 : Option Addr) (c0 : Nat) (l0 : List (S24)) (r : List (S28)) (w : World) (hr0 : Kd.C k24 w A0 l0.length l0) (hc0 : l0.length ≤ c0) (h : laws_toLockS.f k l0 = some r) :
 Calls Try.prog 27 #[.slice A0 l0.length c0] w fun e w' => ∃ v0_ : Value, e = .returned (v0_) ∧ Kd.S k28 28 w' w.heap.size (fun _ => True) v0_ r ∧ Below w.heap.size w w' := by
 have hu24 := Try.underlying24
 have hu28 := Try.underlying28
 have HR0 := Aside0.mk hr0
 have HC0 := Aside0.mk hc0
 clear hr0 hc0
 have HB := A_ (Below.refl w.heap.size w)
 have H : (if 0 ≤ (l0.length : Int) then (if ((l0.length : Int) : Int).toNat ≤ 5864062014805 then (laws_toLockS.l0 k l0 (List.replicate ((l0.length : Int) : Int).toNat z28) 0) else (none)) else (none)) = some r := h
 clear h
 by_cases c2 : 0 ≤ (l0.length : Int)
 rotate_left
 · exact absurd H (by rw [if_neg c2]; simp)
 rw [if_pos c2] at H
 have c2b0 := eq_true c2
 have c2b1 : decide (0 ≤ (l0.length : Int)) = true := decide_eq_true c2
 clear c2
 by_cases c3 : ((l0.length : Int) : Int).toNat ≤ 5864062014805
 rotate_left
 · exact absurd H (by rw [if_neg c3]; simp)
 rw [if_pos c3] at H
 have c3b0 := eq_true c3
 have c3b1 : decide (((l0.length : Int) : Int).toNat ≤ 5864062014805) = true := decide_eq_true c3
 clear c3
 obtain ⟨y252, hy252⟩ : ∃ y_ : List (S28), y_ = (List.replicate ((l0.length : Int) : Int).toNat z28) := ⟨_, rfl⟩
 replace H : (laws_toLockS.l0 k l0 y252 0) = some r := hy_ hy252 H
 have Ny252 := Aside0.mk hy252
 clear hy252
 have H' := Aside0.mk H
 clear H
 go_enter Try.func27, Try.ntmps27
 go_wp2_with (first | ((with_reducible refine gate_dst (N := 7) rfl ?_); refine Kd.S_make k28 _ 28 rfl (N := 7) rfl 39 _ _ rfl (l0.length : Int) rfl rfl Try.underlying39 (.agg #[(.int .i64 0), (.slice none 0 0), (.bool false), (.bool false), (.int .i64 0)]) 48 info28 rfl (by decide) (by omega) z28 (ok := fun _ => True) (okp := fun _ => True) (k28_mkM _ _ _ z28 (Kd.R_nil _ _ _ _ _)) (fun _ hk => hk) trivial (of_decide_eq_true as_) (Nat.le_trans (Nat.mul_le_mul_right _ (of_decide_eq_true as_ : (l0.length : Int).toNat ≤ 5864062014805)) (by omega)) (Below.refl _ _) (Nat.le_refl _) ?_; intro v253 w4 ho5 hb hg_ hnew_; clear hg_ hnew_; (first | rw [← Ny252.out] at ho5 | (simp only [Int.reduceToNat] at ho5; rw [← Ny252.out] at ho5)); have HO254 := A_ (Kd.S_lower ho5 (below_size bB_)); replace HB := A_ (below_step bB_ hb); clear hb ho5))
 go_loopg [4] k (fun kq v4 w' => ∃ (x3_1 : List (S28)) (x4_1 : Int), v4 = .int .i64 x4_1 ∧ Aside0 (laws_toLockS.l0 kq l0 x3_1 x4_1 = some r) ∧ Aside0 (kq ≤ k) ∧ Aside0 (Kd.S k28 28 w' w.heap.size (fun _ => True) v253 x3_1) ∧ Aside0 (Below w.heap.size w w'))
 case atStart => exact ⟨(y252), (0), rs_, H', ⟨Nat.le_refl _⟩, ⟨vS_ HO254.out⟩, ⟨bB_⟩⟩
 case round =>
  clear H'
  try clear c2
  try clear c2b0
  try clear c2b1
  try clear p2
  try clear c3
  try clear c3b0
  try clear c3b1
  obtain ⟨x3_1, x4_1, rfl, HA, HK1, HO_3, HB⟩ := hrel
  cases gk with
  | zero => exact absurd HA.out (by simp [laws_toLockS.l0])
  | succ k1 =>
   have H := HA.out
   clear HA
   simp only [laws_toLockS.l0] at H
   by_cases c6 : x4_1 < (l0.length : Int)
   rotate_left
   · rw [if_neg c6] at H
     have c6b0 : decide (x4_1 < (l0.length : Int)) = false := decide_eq_false c6
     clear c6
     obtain rfl := Option.some.inj H
     go_wp2
     go_ret
     exact ⟨_, rr_, by (with_reducible repeat (first | apply Kd.S_alloc | apply Kd.S_drewN | apply Kd.S_drew)); exact HO_3.out, bB_⟩
   rw [if_pos c6] at H
   have c6b0 : decide (x4_1 < (l0.length : Int)) = true := decide_eq_true c6
   clear c6
   by_cases c7 : 0 ≤ x4_1
   rotate_left
   · exact absurd H (by rw [if_neg c7]; simp)
   rw [if_pos c7] at H
   have c7b0 : decide (0 ≤ x4_1) = true := decide_eq_true c7
   clear c7
   obtain ⟨⟨t256, t257, t260, t261, t262⟩, A8, H⟩ := bo_ H
   (try dsimp only at H)
   by_cases c9 : x4_1 < (x3_1.length : Int)
   rotate_left
   · exact absurd H (by rw [if_neg c9]; simp)
   rw [if_pos c9] at H
   have c9b0 : decide (x4_1 < (x3_1.length : Int)) = true := decide_eq_true c9
   clear c9
   obtain ⟨y263, hy263⟩ : ∃ y_ : List (S28), y_ = (x3_1.set (x4_1 : Int).toNat (⟨t256, t257, t260, t261, t262⟩ : S28)) := ⟨_, rfl⟩
   replace H : (laws_toLockS.l0 k1 l0 y263 (wrap64 (x4_1 + 1))) = some r := hy_ hy263 H
   have Ny263 := Aside0.mk hy263
   clear hy263
   have H' := Aside0.mk H
   clear H
   have p255 : 0 ≤ (x4_1 : Int) := of_decide_eq_true as_
   have q255 : x4_1 < (l0.length : Int) := of_decide_eq_true as_
   obtain ⟨ad255, A255_1, c255_1, e255, hx255_0, hx255_1, hx255_2, hx255_3, hx255_4, hl255_1, hi255_1⟩ := at_T24 HR0.out x4_1 p255 q255
   cases e255
   replace hx255_0 := bc_ HB.out hx255_0
   replace hx255_1 := bc_ HB.out hx255_1
   replace hx255_2 := bc_ HB.out hx255_2
   replace hx255_3 := bc_ HB.out hx255_3
   replace hx255_4 := bc_ HB.out hx255_4
   have HR255_1 := Aside0.mk hi255_1
   have HC255_1 := Aside0.mk hl255_1
   clear hi255_1 hl255_1
   replace p255 := eq_true p255
   replace q255 := eq_true q255
   go_wp2_with (first | ((with_reducible refine gate_callee (f := 18) rfl ?_); refine gL_ (some 20) Try.func18 #[.agg #[.int .i64 ((rd_T24 l0 x4_1).f0), .slice A255_1 ((rd_T24 l0 x4_1).f1).length c255_1, .bool ((rd_T24 l0 x4_1).f2), .bool ((rd_T24 l0 x4_1).f3), .int .i64 ((rd_T24 l0 x4_1).f4)]] ?_; (with_reducible refine (laws_toLock.calls k1 ((rd_T24 l0 x4_1).f0) _ _ ((rd_T24 l0 x4_1).f1) ((rd_T24 l0 x4_1).f2) ((rd_T24 l0 x4_1).f3) ((rd_T24 l0 x4_1).f4) t256 t257 t260 t261 t262 _ ?s1 ?s2 A8.out).mono ?_); (case s1 => exact cC_ (Kd.C_below HR255_1.out HB.out)); (case s2 => exact HC255_1.out); rintro e w11 ⟨v258, rfl, ho0, hb⟩; refine ⟨_, rfl, ?_⟩; replace HO_3 := A_ (Kd.S_elder' (vS_ HO_3.out) (kb_ ho0) hb); have HO259 := A_ (Kd.R_lower ho0 (below_size bB_)); replace HB := A_ (below_step bB_ hb); (try clear hb); (try clear ho0); have p10 : 0 ≤ (x4_1 : Int) := of_decide_eq_true as_; have q10 : (x4_1 : Int) < ((x3_1.length : Int) : Int) := of_decide_eq_true as_; obtain ⟨go10, co10, eo10, gb10, gl10, cl10, HG10⟩ := Kd.S_form HO_3.out (by omega); (first | cases eo10 | (injection eo10 with ea_ en_ ec_; (first | subst ea_ | (injection ea_ with ea_; subst ea_)); subst ec_; clear en_)); have GB10 := Aside0.mk gb10; have GG10 := Aside0.mk HG10; clear gb10 gl10 HG10; obtain ⟨_, ce10, hcl10, hM10, hcc10, hfr10, _, _⟩ := Kd.S_elem HO_3.out z28 (x4_1 : Int) p10 q10; obtain ⟨ve10_1, rfl, ge10_1⟩ := k28_openM hM10; have hx10_0 : w11.cell? ⟨go10, (x4_1 : Int).toNat * 5, none⟩ = some (.int .i64 ((rd_T28 x3_1 x4_1).f0)) := hcc10 0 _ rfl; have hx10_1 : w11.cell? ⟨go10, (x4_1 : Int).toNat * 5 + 1, none⟩ = some (ve10_1) := hcc10 1 _ rfl; have hx10_2 : w11.cell? ⟨go10, (x4_1 : Int).toNat * 5 + 2, none⟩ = some (.bool ((rd_T28 x3_1 x4_1).f2)) := hcc10 2 _ rfl; have hx10_3 : w11.cell? ⟨go10, (x4_1 : Int).toNat * 5 + 3, none⟩ = some (.bool ((rd_T28 x3_1 x4_1).f3)) := hcc10 3 _ rfl; have hx10_4 : w11.cell? ⟨go10, (x4_1 : Int).toNat * 5 + 4, none⟩ = some (.int .i64 ((rd_T28 x3_1 x4_1).f4)) := hcc10 4 _ rfl; have hf10_0 : w11.frozen? ⟨go10, (x4_1 : Int).toNat * 5, none⟩ = false := hfr10 0; have hf10_1 : w11.frozen? ⟨go10, (x4_1 : Int).toNat * 5 + 1, none⟩ = false := hfr10 1; have hf10_2 : w11.frozen? ⟨go10, (x4_1 : Int).toNat * 5 + 2, none⟩ = false := hfr10 2; have hf10_3 : w11.frozen? ⟨go10, (x4_1 : Int).toNat * 5 + 3, none⟩ = false := hfr10 3; have hf10_4 : w11.frozen? ⟨go10, (x4_1 : Int).toNat * 5 + 4, none⟩ = false := hfr10 4; (try clear hcl10); (try clear hcc10); (try clear hfr10); (try clear hM10); replace p10 := eq_true p10; replace q10 := eq_true q10; obtain ⟨Ao14, co14, eo14⟩ := Kd.R_slice HO259.out; subst eo14; have n_ := A_ (Kd.S_mono (ok' := (fun k_ => some k_ ≠ (.slice Ao14 t257.length co14 : Value).ownBlock)) HO_3.out (fun k_ hk => hk.2)); clear HO_3; have HO_3 := n_; clear n_; have HX12 := A_ (show Kd.S k28 28 w11 w.heap.size (fun k_ => ((fun _ => True)) k_ ∧ ¬ ((fun k_ => some k_ = (.slice Ao14 t257.length co14 : Value).ownBlock)) k_) (.slice (some ⟨go10, 0, none⟩) x3_1.length co10) x3_1 from (by (with_reducible repeat (first | apply Kd.S_alloc | apply Kd.S_drewN | apply Kd.S_drew)); exact Kd.S_mono HO_3.out (fun k_ hk => ⟨trivial, fun e_ => hk e_⟩))); obtain ⟨oki12, ce12, hcl12, hM12, hcc12, hfr12, hoki12, hH12⟩ := Kd.S_elem HX12.out z28 (x4_1 : Int) (of_decide_eq_true as_) (by have h_ : (x4_1 : Int) < ((x3_1.length : Int) : Int) := of_decide_eq_true as_; first | exact h_ | (have e_ := (Kd.S_reads' HO_3.out).1; omega) | simpa using h_); obtain ⟨ve12_1, rfl, ge12_1⟩ := k28_openM hM12; have HP12 := Kd.S_seg hH12 (of_decide_eq_true as_) (by have h_ : (x4_1 : Int) < ((x3_1.length : Int) : Int) := of_decide_eq_true as_; first | exact h_ | (have e_ := (Kd.S_reads' HO_3.out).1; omega) | simpa using h_) (seg := [.int .i64 t256, .slice Ao14 t257.length co14, .bool t260, .bool t261, .int .i64 t262]) (j := 0) (show 5 ≤ 5 from by decide) (x' := (⟨t256, t257, t260, t261, t262⟩ : S28)) (k28_mkM _ _ _ (⟨t256, t257, t260, t261, t262⟩ : S28) (Kd.R_mono (Kd.R_tight rfl (Kd.R_mono (ok' := fun k_ => ((fun _ => True)) k_ ∧ k_ ≠ go10) (Kd.R_apart' (HO259.out) (Kd.S_typed HO_3.out) (by decide)) (fun k_ hk => ⟨trivial, fun e_ => (hk.2) (by rw [e_]; rfl)⟩))) (fun _ h_ => Or.inr (h_)))) (fun _ hk => hk) (fun k_ hk_ => ((Kd.R_mono (ok' := fun k_ => ((fun _ => True)) k_ ∧ k_ ≠ go10) (Kd.R_apart' (HO259.out) (Kd.S_typed HO_3.out) (by decide)) (fun k_ hk => ⟨trivial, fun e_ => (hk.2) (by rw [e_]; rfl)⟩))).1 k_ hk_.symm); have hx12_0 := hcc12 0 _ rfl; (try simp only [show (k28).sz = 5 from rfl, Nat.mul_one, Nat.add_zero] at hx12_0); have hf12_0 := hfr12 0; (try simp only [show (k28).sz = 5 from rfl, Nat.mul_one, Nat.add_zero] at hf12_0); have hx12_1 := hcc12 1 _ rfl; (try simp only [show (k28).sz = 5 from rfl, Nat.mul_one, Nat.add_zero] at hx12_1); have hf12_1 := hfr12 1; (try simp only [show (k28).sz = 5 from rfl, Nat.mul_one, Nat.add_zero] at hf12_1); have hx12_2 := hcc12 2 _ rfl; (try simp only [show (k28).sz = 5 from rfl, Nat.mul_one, Nat.add_zero] at hx12_2); have hf12_2 := hfr12 2; (try simp only [show (k28).sz = 5 from rfl, Nat.mul_one, Nat.add_zero] at hf12_2); have hx12_3 := hcc12 3 _ rfl; (try simp only [show (k28).sz = 5 from rfl, Nat.mul_one, Nat.add_zero] at hx12_3); have hf12_3 := hfr12 3; (try simp only [show (k28).sz = 5 from rfl, Nat.mul_one, Nat.add_zero] at hf12_3); have hx12_4 := hcc12 4 _ rfl; (try simp only [show (k28).sz = 5 from rfl, Nat.mul_one, Nat.add_zero] at hx12_4); have hf12_4 := hfr12 4; (try simp only [show (k28).sz = 5 from rfl, Nat.mul_one, Nat.add_zero] at hf12_4); (try clear hcl12); (try clear hcc12); (try clear hfr12); (try clear hM12); (try clear hoki12); (try clear hH12)) | ((with_reducible refine gate_store (t := 28) (p := 21) rfl ?_); refine store_event (t := 28) (p := 21) (v := ?vo_w13) (w1 := (((((w11.setCell ⟨go10, (x4_1 : Int).toNat * 5, none⟩ (.int .i64 t256)).setCell ⟨go10, (x4_1 : Int).toNat * 5 + 1, none⟩ (.slice Ao14 t257.length co14)).setCell ⟨go10, (x4_1 : Int).toNat * 5 + 2, none⟩ (.bool t260)).setCell ⟨go10, (x4_1 : Int).toNat * 5 + 3, none⟩ (.bool t261)).setCell ⟨go10, (x4_1 : Int).toNat * 5 + 4, none⟩ (.int .i64 t262))) ?hg ?ho ?hn ?hr ?_; (case ho => rfl); (case hg => rfl); (case hn => rfl); (case hr => first | (go_simp; done) | (go_simp; rfl)); intro w13 hw; have hg : w11.grownBy w13 (some go10) := (by rw [hw]; exact HP12.2); have hp_ : Kd.S k28 28 w13 w.heap.size (fun _ => True) (.slice (some ⟨go10, 0, none⟩) x3_1.length co10) y263 := (by rw [hw, Ny263.out]; exact HP12.1); clear HP12; replace HO_3 := A_ (hp_); replace HB := A_ ((by rw [hw]; exact below_set (below_set (below_set (below_set (below_set (HB.out) GB10.out) GB10.out) GB10.out) GB10.out) GB10.out : Below w.heap.size w w13)); clear HO259; clear hg hw hp_))
   go_roundg k1
   case measure => have := HK1.out; omega
   case rel => exact ⟨(y263), (wrap64 (x4_1 + 1)), rs_, H', ⟨by have := HK1.out; omega⟩, ⟨vS_ HO_3.out⟩, ⟨bB_⟩⟩
def laws_eqLockS.l0 : Nat → List (S28) → List (S28) → Int → Option (Bool)
 | 0, _, _, _ => none
 | k + 1, x0, x1, x5 => if x5 < (x0.length : Int) then (if 0 ≤ x5 then (if x5 < (x1.length : Int) then ((laws_eqLock.f k ((rd_T28 x0 x5).f0) ((rd_T28 x0 x5).f1) ((rd_T28 x0 x5).f2) ((rd_T28 x0 x5).f3) ((rd_T28 x0 x5).f4) ((rd_T28 x1 x5).f0) ((rd_T28 x1 x5).f1) ((rd_T28 x1 x5).f2) ((rd_T28 x1 x5).f3) ((rd_T28 x1 x5).f4)).bind fun t277 => (if t277 = true then (laws_eqLockS.l0 k x0 x1 (wrap64 (x5 + 1))) else (some false))) else (none)) else (none)) else (some true)
def laws_eqLockS.f (k : Nat) (l0 : List (S28)) (l1 : List (S28)) : Option (Bool) := if (l0.length : Int) = (l1.length : Int) then (laws_eqLockS.l0 k l0 l1 0) else (some false)
def laws_eqLockS.T6 : Bool × List (List Nat × List Nat) := (true, [([], []), ([], []), ([0, 1], [0, 1]), ([2], [2]), ([], []), ([], []), ([4, 5], [4, 5]), ([6], [6]), ([3, 7], [3, 7]), ([8], [8])])
def laws_eqLockS.B6 : List Nat := [0, 0, 3, 7, 0, 0, 48, 112, 255, 511]
theorem laws_eqLockS.tab6 : rtab .any (opsOf Try.f30 6) = laws_eqLockS.T6 := by kernel_rfl
theorem laws_eqLockS.bits6 : waitsOk laws_eqLockS.T6.2 laws_eqLockS.B6 = true := by kernel_rfl
set_option maxHeartbeats 8000000 in
set_option maxRecDepth 100000 in
theorem laws_eqLockS.calls (k : Nat) (A0 : Option Addr) (c0 : Nat) (l0 : List (S28)) (A1 : Option Addr) (c1 : Nat) (l1 : List (S28)) (r : Bool) (w : World) (hr0 : Kd.C k28 w A0 l0.length l0) (hc0 : l0.length ≤ c0) (hr1 : Kd.C k28 w A1 l1.length l1) (hc1 : l1.length ≤ c1) (h : laws_eqLockS.f k l0 l1 = some r) :
 Calls Try.prog 30 #[.slice A0 l0.length c0, .slice A1 l1.length c1] w fun e w' => e = .returned (.bool r) ∧ Below w.heap.size w w' := by
 have hu28 := Try.underlying28
 have HR0 := Aside0.mk hr0
 have HC0 := Aside0.mk hc0
 clear hr0 hc0
 have HR1 := Aside0.mk hr1
 have HC1 := Aside0.mk hc1
 clear hr1 hc1
 have HB := A_ (Below.refl w.heap.size w)
 have H : (if (l0.length : Int) = (l1.length : Int) then (laws_eqLockS.l0 k l0 l1 0) else (some false)) = some r := h
 clear h
 by_cases c3 : (l0.length : Int) = (l1.length : Int)
 rotate_left
 · rw [if_neg c3] at H
   have c3b0 : ((l0.length : Int) == (l1.length : Int)) = false := beq_eq_false_iff_ne.mpr c3
   have c3b1 : ((l0.length : Int) != (l1.length : Int)) = true := bne_iff_ne.mpr c3
   have c3b2 : (l0.length == l1.length) = false := by first | simpa using c3 | (simp at c3 ⊢; omega)
   obtain rfl := Option.some.inj H
   go_enter Try.func30, Try.ntmps30
   go_wp2
   go_ret
   exact ⟨rr_, bB_⟩
 rw [if_pos c3] at H
 have c3b0 : ((l0.length : Int) == (l1.length : Int)) = true := beq_iff_eq.mpr c3
 have c3b1 : ((l0.length : Int) != (l1.length : Int)) = false := bne_eq_false_iff_eq.mpr c3
 have c3b2 : (l0.length == l1.length) = true := by first | simpa using c3 | (simp at c3 ⊢; omega)
 clear c3
 have H' := Aside0.mk H
 clear H
 go_enter Try.func30, Try.ntmps30
 go_wp2
 go_loopg [5] k (fun kq v5 w' => ∃ (x5_1 : Int), v5 = .int .i64 x5_1 ∧ Aside0 (laws_eqLockS.l0 kq l0 l1 x5_1 = some r) ∧ Aside0 (kq ≤ k) ∧ Aside0 (Below w.heap.size w w'))
 case atStart => exact ⟨(0), rs_, H', ⟨Nat.le_refl _⟩, ⟨bB_⟩⟩
 case round =>
  clear H'
  try clear c1
  try clear p2
  try clear c3
  try clear c3b0
  try clear c3b1
  try clear c3b2
  obtain ⟨x5_1, rfl, HA, HK1, HB⟩ := hrel
  cases gk with
  | zero => exact absurd HA.out (by simp [laws_eqLockS.l0])
  | succ k1 =>
   have H := HA.out
   clear HA
   simp only [laws_eqLockS.l0] at H
   by_cases c4 : x5_1 < (l0.length : Int)
   rotate_left
   · rw [if_neg c4] at H
     have c4b0 : decide (x5_1 < (l0.length : Int)) = false := decide_eq_false c4
     clear c4
     obtain rfl := Option.some.inj H
     go_wp2
     go_ret
     exact ⟨rr_, bB_⟩
   rw [if_pos c4] at H
   have c4b0 : decide (x5_1 < (l0.length : Int)) = true := decide_eq_true c4
   clear c4
   by_cases c5 : 0 ≤ x5_1
   rotate_left
   · exact absurd H (by rw [if_neg c5]; simp)
   rw [if_pos c5] at H
   have c5b0 : decide (0 ≤ x5_1) = true := decide_eq_true c5
   clear c5
   by_cases c6 : x5_1 < (l1.length : Int)
   rotate_left
   · exact absurd H (by rw [if_neg c6]; simp)
   rw [if_pos c6] at H
   have c6b0 : decide (x5_1 < (l1.length : Int)) = true := decide_eq_true c6
   clear c6
   obtain ⟨t277, A7, H⟩ := bo_ H
   (try dsimp only at H)
   by_cases c8 : t277 = true
   · subst c8
     rw [if_pos rfl] at H
     have H' := Aside0.mk H
     clear H
     try go_wp2
     replace HB := A_ (below_drew1 HB.out)
     have p275 : 0 ≤ (x5_1 : Int) := of_decide_eq_true as_
     have q275 : x5_1 < (l0.length : Int) := of_decide_eq_true as_
     obtain ⟨ad275, A275_1, c275_1, e275, hx275_0, hx275_1, hx275_2, hx275_3, hx275_4, hl275_1, hi275_1⟩ := at_T28 HR0.out x5_1 p275 q275
     have hw275_4 := hx275_4
     have hw275_3 := hx275_3
     have hw275_2 := hx275_2
     have hw275_1 := hx275_1
     have hw275_0 := hx275_0
     cases e275
     replace hx275_0 := bc_ HB.out hx275_0
     replace hx275_1 := bc_ HB.out hx275_1
     replace hx275_2 := bc_ HB.out hx275_2
     replace hx275_3 := bc_ HB.out hx275_3
     replace hx275_4 := bc_ HB.out hx275_4
     have HR275_1 := Aside0.mk hi275_1
     have HC275_1 := Aside0.mk hl275_1
     clear hi275_1 hl275_1
     replace p275 := eq_true p275
     replace q275 := eq_true q275
     have p276 : 0 ≤ (x5_1 : Int) := of_decide_eq_true as_
     have q276 : x5_1 < (l1.length : Int) := of_decide_eq_true as_
     obtain ⟨ad276, A276_1, c276_1, e276, hx276_0, hx276_1, hx276_2, hx276_3, hx276_4, hl276_1, hi276_1⟩ := at_T28 HR1.out x5_1 p276 q276
     have hw276_4 := hx276_4
     have hw276_3 := hx276_3
     have hw276_2 := hx276_2
     have hw276_1 := hx276_1
     have hw276_0 := hx276_0
     cases e276
     replace hx276_0 := bc_ HB.out hx276_0
     replace hx276_1 := bc_ HB.out hx276_1
     replace hx276_2 := bc_ HB.out hx276_2
     replace hx276_3 := bc_ HB.out hx276_3
     replace hx276_4 := bc_ HB.out hx276_4
     have HR276_1 := Aside0.mk hi276_1
     have HC276_1 := Aside0.mk hl276_1
     clear hi276_1 hl276_1
     replace p276 := eq_true p276
     replace q276 := eq_true q276
     refine start_ (n := 10) (S := fun w' => w'.cell? (ad275.add ((x5_1).toNat * 5)) = some (.int .i64 ((rd_T28 l0 x5_1).f0)) ∧ w'.cell? ⟨(ad275.add ((x5_1).toNat * 5)).block, (ad275.add ((x5_1).toNat * 5)).off + 1, none⟩ = some (.slice A275_1 ((rd_T28 l0 x5_1).f1).length c275_1) ∧ w'.cell? ⟨(ad275.add ((x5_1).toNat * 5)).block, (ad275.add ((x5_1).toNat * 5)).off + 2, none⟩ = some (.bool ((rd_T28 l0 x5_1).f2)) ∧ w'.cell? ⟨(ad275.add ((x5_1).toNat * 5)).block, (ad275.add ((x5_1).toNat * 5)).off + 3, none⟩ = some (.bool ((rd_T28 l0 x5_1).f3)) ∧ w'.cell? ⟨(ad275.add ((x5_1).toNat * 5)).block, (ad275.add ((x5_1).toNat * 5)).off + 4, none⟩ = some (.int .i64 ((rd_T28 l0 x5_1).f4)) ∧ w'.cell? (ad276.add ((x5_1).toNat * 5)) = some (.int .i64 ((rd_T28 l1 x5_1).f0)) ∧ w'.cell? ⟨(ad276.add ((x5_1).toNat * 5)).block, (ad276.add ((x5_1).toNat * 5)).off + 1, none⟩ = some (.slice A276_1 ((rd_T28 l1 x5_1).f1).length c276_1) ∧ w'.cell? ⟨(ad276.add ((x5_1).toNat * 5)).block, (ad276.add ((x5_1).toNat * 5)).off + 2, none⟩ = some (.bool ((rd_T28 l1 x5_1).f2)) ∧ w'.cell? ⟨(ad276.add ((x5_1).toNat * 5)).block, (ad276.add ((x5_1).toNat * 5)).off + 3, none⟩ = some (.bool ((rd_T28 l1 x5_1).f3)) ∧ w'.cell? ⟨(ad276.add ((x5_1).toNat * 5)).block, (ad276.add ((x5_1).toNat * 5)).off + 4, none⟩ = some (.int .i64 ((rd_T28 l1 x5_1).f4))) (ds := []) #[false, false, false, false, false, false, false, false, false, false] (by kernel_rfl) rfl rfl ⟨((HB.out.cell (World.block_lt_of_cell? w _ hw275_0)).trans hw275_0), ((HB.out.cell (World.block_lt_of_cell? w _ hw275_1)).trans hw275_1), ((HB.out.cell (World.block_lt_of_cell? w _ hw275_2)).trans hw275_2), ((HB.out.cell (World.block_lt_of_cell? w _ hw275_3)).trans hw275_3), ((HB.out.cell (World.block_lt_of_cell? w _ hw275_4)).trans hw275_4), ((HB.out.cell (World.block_lt_of_cell? w _ hw276_0)).trans hw276_0), ((HB.out.cell (World.block_lt_of_cell? w _ hw276_1)).trans hw276_1), ((HB.out.cell (World.block_lt_of_cell? w _ hw276_2)).trans hw276_2), ((HB.out.cell (World.block_lt_of_cell? w _ hw276_3)).trans hw276_3), ((HB.out.cell (World.block_lt_of_cell? w _ hw276_4)).trans hw276_4)⟩ (fun hHeld => ?_); refine with_tabW laws_eqLockS.tab6 laws_eqLockS.bits6 (fun HT_ HW_ => ?_)
     generalize wr.drew = w9 at HB HR275_1 HR276_1 hx275_0 hx275_1 hx275_2 hx275_3 hx275_4 hx276_0 hx276_1 hx276_2 hx276_3 hx276_4 hHeld ⊢
     refine pu_ (i := 0) (N := some 17) ?_
     refine pu_ (i := 1) (N := some 18) ?_
     refine pu_ (i := 2) (N := some 19) ?_
     refine pu_ (i := 4) (N := some 21) ?_
     refine pu_ (i := 5) (N := some 22) ?_
     refine pu_ (i := 6) (N := some 23) ?_
     refine tk_ (i := 3) (N := some 20) hHeld ?_
     refine tk_ (i := 7) (N := some 24) hHeld ?_
     refine on_ (i := 8) (N := some 25) (fun K hK => ?_)
     refine goes_ Try.func21 (by kernel_rfl) rfl #[.agg #[.int .i64 ((rd_T28 l0 x5_1).f0), .slice A275_1 ((rd_T28 l0 x5_1).f1).length c275_1, .bool ((rd_T28 l0 x5_1).f2), .bool ((rd_T28 l0 x5_1).f3), .int .i64 ((rd_T28 l0 x5_1).f4)], .agg #[.int .i64 ((rd_T28 l1 x5_1).f0), .slice A276_1 ((rd_T28 l1 x5_1).f1).length c276_1, .bool ((rd_T28 l1 x5_1).f2), .bool ((rd_T28 l1 x5_1).f3), .int .i64 ((rd_T28 l1 x5_1).f4)]] (by rfl) rfl rfl ml_ ?_
     with_reducible refine (laws_eqLock.calls k1 ((rd_T28 l0 x5_1).f0) _ _ ((rd_T28 l0 x5_1).f1) ((rd_T28 l0 x5_1).f2) ((rd_T28 l0 x5_1).f3) ((rd_T28 l0 x5_1).f4) ((rd_T28 l1 x5_1).f0) _ _ ((rd_T28 l1 x5_1).f1) ((rd_T28 l1 x5_1).f2) ((rd_T28 l1 x5_1).f3) ((rd_T28 l1 x5_1).f4) true _ ?s1 ?s2 ?s3 ?s4 A7.out).mono ?_
     (case s1 => exact cC_ (Kd.C_below HR275_1.out HB.out))
     (case s2 => exact HC275_1.out)
     (case s3 => exact cC_ (Kd.C_below HR276_1.out HB.out))
     (case s4 => exact HC276_1.out)
     rintro e w10 ⟨rfl, hb⟩
     refine ⟨_, rfl, ?_⟩
     replace HB := A_ (below_step bB_ hb)
     (try clear hb)
     (try clear hb2)
     (try clear hk)
     (try clear hi)
     refine hK.out _ _ ⟨((HB.out.cell (World.block_lt_of_cell? w _ hw275_0)).trans hw275_0), ((HB.out.cell (World.block_lt_of_cell? w _ hw275_1)).trans hw275_1), ((HB.out.cell (World.block_lt_of_cell? w _ hw275_2)).trans hw275_2), ((HB.out.cell (World.block_lt_of_cell? w _ hw275_3)).trans hw275_3), ((HB.out.cell (World.block_lt_of_cell? w _ hw275_4)).trans hw275_4), ((HB.out.cell (World.block_lt_of_cell? w _ hw276_0)).trans hw276_0), ((HB.out.cell (World.block_lt_of_cell? w _ hw276_1)).trans hw276_1), ((HB.out.cell (World.block_lt_of_cell? w _ hw276_2)).trans hw276_2), ((HB.out.cell (World.block_lt_of_cell? w _ hw276_3)).trans hw276_3), ((HB.out.cell (World.block_lt_of_cell? w _ hw276_4)).trans hw276_4)⟩ (fun hHeld => ?_)
     clear hK K
     refine no_ (some 25) ?_
     refine pu_ (i := 9) (N := some 26) ?_
     refine done_ (done_of HT_.out (by kernel_rfl)) ?_
     (try clear hHeld)
     try go_wp2
     go_roundg k1
     case measure => have := HK1.out; omega
     case rel => exact ⟨(wrap64 (x5_1 + 1)), rs_, H', ⟨by have := HK1.out; omega⟩, ⟨bB_⟩⟩
   · replace c8 := Bool.eq_false_iff.mpr c8
     subst c8
     rw [if_neg nf_] at H
     obtain rfl := Option.some.inj H
     try go_wp2
     replace HB := A_ (below_drew1 HB.out)
     have p275 : 0 ≤ (x5_1 : Int) := of_decide_eq_true as_
     have q275 : x5_1 < (l0.length : Int) := of_decide_eq_true as_
     obtain ⟨ad275, A275_1, c275_1, e275, hx275_0, hx275_1, hx275_2, hx275_3, hx275_4, hl275_1, hi275_1⟩ := at_T28 HR0.out x5_1 p275 q275
     have hw275_4 := hx275_4
     have hw275_3 := hx275_3
     have hw275_2 := hx275_2
     have hw275_1 := hx275_1
     have hw275_0 := hx275_0
     cases e275
     replace hx275_0 := bc_ HB.out hx275_0
     replace hx275_1 := bc_ HB.out hx275_1
     replace hx275_2 := bc_ HB.out hx275_2
     replace hx275_3 := bc_ HB.out hx275_3
     replace hx275_4 := bc_ HB.out hx275_4
     have HR275_1 := Aside0.mk hi275_1
     have HC275_1 := Aside0.mk hl275_1
     clear hi275_1 hl275_1
     replace p275 := eq_true p275
     replace q275 := eq_true q275
     have p276 : 0 ≤ (x5_1 : Int) := of_decide_eq_true as_
     have q276 : x5_1 < (l1.length : Int) := of_decide_eq_true as_
     obtain ⟨ad276, A276_1, c276_1, e276, hx276_0, hx276_1, hx276_2, hx276_3, hx276_4, hl276_1, hi276_1⟩ := at_T28 HR1.out x5_1 p276 q276
     have hw276_4 := hx276_4
     have hw276_3 := hx276_3
     have hw276_2 := hx276_2
     have hw276_1 := hx276_1
     have hw276_0 := hx276_0
     cases e276
     replace hx276_0 := bc_ HB.out hx276_0
     replace hx276_1 := bc_ HB.out hx276_1
     replace hx276_2 := bc_ HB.out hx276_2
     replace hx276_3 := bc_ HB.out hx276_3
     replace hx276_4 := bc_ HB.out hx276_4
     have HR276_1 := Aside0.mk hi276_1
     have HC276_1 := Aside0.mk hl276_1
     clear hi276_1 hl276_1
     replace p276 := eq_true p276
     replace q276 := eq_true q276
     refine start_ (n := 10) (S := fun w' => w'.cell? (ad275.add ((x5_1).toNat * 5)) = some (.int .i64 ((rd_T28 l0 x5_1).f0)) ∧ w'.cell? ⟨(ad275.add ((x5_1).toNat * 5)).block, (ad275.add ((x5_1).toNat * 5)).off + 1, none⟩ = some (.slice A275_1 ((rd_T28 l0 x5_1).f1).length c275_1) ∧ w'.cell? ⟨(ad275.add ((x5_1).toNat * 5)).block, (ad275.add ((x5_1).toNat * 5)).off + 2, none⟩ = some (.bool ((rd_T28 l0 x5_1).f2)) ∧ w'.cell? ⟨(ad275.add ((x5_1).toNat * 5)).block, (ad275.add ((x5_1).toNat * 5)).off + 3, none⟩ = some (.bool ((rd_T28 l0 x5_1).f3)) ∧ w'.cell? ⟨(ad275.add ((x5_1).toNat * 5)).block, (ad275.add ((x5_1).toNat * 5)).off + 4, none⟩ = some (.int .i64 ((rd_T28 l0 x5_1).f4)) ∧ w'.cell? (ad276.add ((x5_1).toNat * 5)) = some (.int .i64 ((rd_T28 l1 x5_1).f0)) ∧ w'.cell? ⟨(ad276.add ((x5_1).toNat * 5)).block, (ad276.add ((x5_1).toNat * 5)).off + 1, none⟩ = some (.slice A276_1 ((rd_T28 l1 x5_1).f1).length c276_1) ∧ w'.cell? ⟨(ad276.add ((x5_1).toNat * 5)).block, (ad276.add ((x5_1).toNat * 5)).off + 2, none⟩ = some (.bool ((rd_T28 l1 x5_1).f2)) ∧ w'.cell? ⟨(ad276.add ((x5_1).toNat * 5)).block, (ad276.add ((x5_1).toNat * 5)).off + 3, none⟩ = some (.bool ((rd_T28 l1 x5_1).f3)) ∧ w'.cell? ⟨(ad276.add ((x5_1).toNat * 5)).block, (ad276.add ((x5_1).toNat * 5)).off + 4, none⟩ = some (.int .i64 ((rd_T28 l1 x5_1).f4))) (ds := []) #[false, false, false, false, false, false, false, false, false, false] (by kernel_rfl) rfl rfl ⟨((HB.out.cell (World.block_lt_of_cell? w _ hw275_0)).trans hw275_0), ((HB.out.cell (World.block_lt_of_cell? w _ hw275_1)).trans hw275_1), ((HB.out.cell (World.block_lt_of_cell? w _ hw275_2)).trans hw275_2), ((HB.out.cell (World.block_lt_of_cell? w _ hw275_3)).trans hw275_3), ((HB.out.cell (World.block_lt_of_cell? w _ hw275_4)).trans hw275_4), ((HB.out.cell (World.block_lt_of_cell? w _ hw276_0)).trans hw276_0), ((HB.out.cell (World.block_lt_of_cell? w _ hw276_1)).trans hw276_1), ((HB.out.cell (World.block_lt_of_cell? w _ hw276_2)).trans hw276_2), ((HB.out.cell (World.block_lt_of_cell? w _ hw276_3)).trans hw276_3), ((HB.out.cell (World.block_lt_of_cell? w _ hw276_4)).trans hw276_4)⟩ (fun hHeld => ?_); refine with_tabW laws_eqLockS.tab6 laws_eqLockS.bits6 (fun HT_ HW_ => ?_)
     generalize wr.drew = w11 at HB HR275_1 HR276_1 hx275_0 hx275_1 hx275_2 hx275_3 hx275_4 hx276_0 hx276_1 hx276_2 hx276_3 hx276_4 hHeld ⊢
     refine pu_ (i := 0) (N := some 17) ?_
     refine pu_ (i := 1) (N := some 18) ?_
     refine pu_ (i := 2) (N := some 19) ?_
     refine pu_ (i := 4) (N := some 21) ?_
     refine pu_ (i := 5) (N := some 22) ?_
     refine pu_ (i := 6) (N := some 23) ?_
     refine tk_ (i := 3) (N := some 20) hHeld ?_
     refine tk_ (i := 7) (N := some 24) hHeld ?_
     refine on_ (i := 8) (N := some 25) (fun K hK => ?_)
     refine goes_ Try.func21 (by kernel_rfl) rfl #[.agg #[.int .i64 ((rd_T28 l0 x5_1).f0), .slice A275_1 ((rd_T28 l0 x5_1).f1).length c275_1, .bool ((rd_T28 l0 x5_1).f2), .bool ((rd_T28 l0 x5_1).f3), .int .i64 ((rd_T28 l0 x5_1).f4)], .agg #[.int .i64 ((rd_T28 l1 x5_1).f0), .slice A276_1 ((rd_T28 l1 x5_1).f1).length c276_1, .bool ((rd_T28 l1 x5_1).f2), .bool ((rd_T28 l1 x5_1).f3), .int .i64 ((rd_T28 l1 x5_1).f4)]] (by rfl) rfl rfl ml_ ?_
     with_reducible refine (laws_eqLock.calls k1 ((rd_T28 l0 x5_1).f0) _ _ ((rd_T28 l0 x5_1).f1) ((rd_T28 l0 x5_1).f2) ((rd_T28 l0 x5_1).f3) ((rd_T28 l0 x5_1).f4) ((rd_T28 l1 x5_1).f0) _ _ ((rd_T28 l1 x5_1).f1) ((rd_T28 l1 x5_1).f2) ((rd_T28 l1 x5_1).f3) ((rd_T28 l1 x5_1).f4) false _ ?s1 ?s2 ?s3 ?s4 A7.out).mono ?_
     (case s1 => exact cC_ (Kd.C_below HR275_1.out HB.out))
     (case s2 => exact HC275_1.out)
     (case s3 => exact cC_ (Kd.C_below HR276_1.out HB.out))
     (case s4 => exact HC276_1.out)
     rintro e w12 ⟨rfl, hb⟩
     refine ⟨_, rfl, ?_⟩
     replace HB := A_ (below_step bB_ hb)
     (try clear hb)
     (try clear hb2)
     (try clear hk)
     (try clear hi)
     refine hK.out _ _ ⟨((HB.out.cell (World.block_lt_of_cell? w _ hw275_0)).trans hw275_0), ((HB.out.cell (World.block_lt_of_cell? w _ hw275_1)).trans hw275_1), ((HB.out.cell (World.block_lt_of_cell? w _ hw275_2)).trans hw275_2), ((HB.out.cell (World.block_lt_of_cell? w _ hw275_3)).trans hw275_3), ((HB.out.cell (World.block_lt_of_cell? w _ hw275_4)).trans hw275_4), ((HB.out.cell (World.block_lt_of_cell? w _ hw276_0)).trans hw276_0), ((HB.out.cell (World.block_lt_of_cell? w _ hw276_1)).trans hw276_1), ((HB.out.cell (World.block_lt_of_cell? w _ hw276_2)).trans hw276_2), ((HB.out.cell (World.block_lt_of_cell? w _ hw276_3)).trans hw276_3), ((HB.out.cell (World.block_lt_of_cell? w _ hw276_4)).trans hw276_4)⟩ (fun hHeld => ?_)
     clear hK K
     refine no_ (some 25) ?_
     refine pu_ (i := 9) (N := some 26) ?_
     refine done_ (done_of HT_.out (by kernel_rfl)) ?_
     (try clear hHeld)
     try go_wp2
     go_ret
     exact ⟨rr_, bB_⟩
end Go.Proofs.Ytiddgglidkbipaa.Q

/- The law FnExactLiveLocks: its way to 'true', and the walk over it. No condition. -/
set_option linter.unusedVariables false
set_option linter.unusedSimpArgs false
namespace Go.Proofs.Ytiddgglidkbipaa.Q
open Go.RowKit Go.Proofs.YtiddgglidkbipaaW.PrintWords Go.Proofs.YtiddgglidkbipaaW.PrintLast
def laws_FnExactLiveLocks.f (k : Nat) (l0 : List (S24)) (a1 : Int) : Option Bool := ((laws_szLockS.f k l0 1048576).bind fun t1 => (if t1 < 0 then (some true) else ((laws_toLockS.f k l0).bind fun t3 => ((spec_LiveLocks.f k t3 a1).bind fun t6 => ((laws_toLockS.f k l0).bind fun t9 => ((impl_LiveLocks.f k t9 a1).bind fun t12 => ((laws_eqLockS.f k t12 t6).bind fun t15 => (if t15 = true then ((laws_toLockS.f k l0).bind fun t17 => ((laws_eqLockS.f k t9 t17).bind fun t20 => (if t20 = true then ((laws_markLockS.f k t9 1).bind fun bt22 => (if bt22.1 < 0 then none else ((laws_eqLockS.f k t12 t6).bind fun t26 => (if t26 = true then ((laws_markLockS.f k t12 1).bind fun bt28 => ((laws_heldLockS.f k bt28.2 1).bind fun t32 => (if t32 < 0 then none else (if t32 = bt28.1 then ((laws_toLockS.f k l0).bind fun t34 => ((impl_LiveLocks.f k t34 a1).bind fun t37 => ((laws_eqLockS.f k t37 t6).bind fun t40 => (if t40 = true then ((laws_heldLockS.f k bt28.2 1).bind fun t42 => (if t42 < 0 then none else (if t42 = bt28.1 then (some true) else none))) else none)))) else none)))) else none)))) else none))) else none))))))))
set_option maxHeartbeats 16000000 in
set_option maxRecDepth 100000 in
theorem laws_FnExactLiveLocks.calls (k : Nat) (A0 : Option Addr) (c0 : Nat) (l0 : List (S24)) (a1 : Int) (r : Bool) (w : World) (hr0 : Kd.C k24 w A0 l0.length l0) (hc0 : l0.length ≤ c0) (h : laws_FnExactLiveLocks.f k l0 a1 = some r) :
 Calls Try.prog 7 #[.slice A0 l0.length c0, .int .i64 a1] w fun e w' => e = .returned (.bool r) ∧ Below w.heap.size w w' := by
 have HR0 := Aside0.mk hr0
 have HC0 := Aside0.mk hc0
 clear hr0 hc0
 have HB := A_ (Below.refl w.heap.size w)
 have H : ((laws_szLockS.f k l0 1048576).bind fun t1 => (if t1 < 0 then (some true) else ((laws_toLockS.f k l0).bind fun t3 => ((spec_LiveLocks.f k t3 a1).bind fun t6 => ((laws_toLockS.f k l0).bind fun t9 => ((impl_LiveLocks.f k t9 a1).bind fun t12 => ((laws_eqLockS.f k t12 t6).bind fun t15 => (if t15 = true then ((laws_toLockS.f k l0).bind fun t17 => ((laws_eqLockS.f k t9 t17).bind fun t20 => (if t20 = true then ((laws_markLockS.f k t9 1).bind fun bt22 => (if bt22.1 < 0 then none else ((laws_eqLockS.f k t12 t6).bind fun t26 => (if t26 = true then ((laws_markLockS.f k t12 1).bind fun bt28 => ((laws_heldLockS.f k bt28.2 1).bind fun t32 => (if t32 < 0 then none else (if t32 = bt28.1 then ((laws_toLockS.f k l0).bind fun t34 => ((impl_LiveLocks.f k t34 a1).bind fun t37 => ((laws_eqLockS.f k t37 t6).bind fun t40 => (if t40 = true then ((laws_heldLockS.f k bt28.2 1).bind fun t42 => (if t42 < 0 then none else (if t42 = bt28.1 then (some true) else none))) else none)))) else none)))) else none)))) else none))) else none)))))))) = some r := h
 clear h
 replace H := Option.bind_eq_some_iff.mp H
 obtain ⟨t1, A0_, H⟩ := H
 (try dsimp only at H)
 have FA2 := Aside0.mk A0_
 clear A0_
 by_cases c44 : t1 < 0
 · rw [if_pos c44] at H
   have c44b0 : decide (t1 < 0) = true := decide_eq_true c44
   clear c44
   obtain rfl := Option.some.inj H
   go_enter Try.func7, Try.ntmps7
   go_wp2_with (first | ((with_reducible refine gate_callee (f := 25) rfl ?_); refine gL_ (some 15) Try.func25 #[.slice A0 l0.length c0, .int .i64 1048576] ?_; (with_reducible refine (laws_szLockS.calls k A0 c0 l0 1048576 t1 _ ?s1 ?s2 FA2.out).mono ?_); (case s1 => exact cC_ (Kd.C_below HR0.out HB.out)); (case s2 => exact HC0.out); rintro e w_1 ⟨rfl, hb_⟩; refine ⟨_, rfl, ?_⟩; have n0_ : Aside0 (w.heap.size ≤ w_1.heap.size) := ⟨Nat.le_trans (below_size bR_) (below_size hb_)⟩; have m0_ := A_ (below_step bB_ hb_); clear HB; have HZ1 := n0_; have HB := m0_; clear n0_ m0_; (try clear hb_); (try clear hk_); (try clear hw_); (try clear hg_); (try clear hbox_); (try clear ho0_)))
   go_ret
   exact ⟨rfl, bB_⟩
 rw [if_neg c44] at H
 have c44b0 : decide (t1 < 0) = false := decide_eq_false c44
 clear c44
 replace H := Option.bind_eq_some_iff.mp H
 obtain ⟨t3, A0_, H⟩ := H
 (try dsimp only at H)
 have FA4 := Aside0.mk A0_
 clear A0_
 replace H := Option.bind_eq_some_iff.mp H
 obtain ⟨t6, A0_, H⟩ := H
 (try dsimp only at H)
 have FA7 := Aside0.mk A0_
 clear A0_
 replace H := Option.bind_eq_some_iff.mp H
 obtain ⟨t9, A0_, H⟩ := H
 (try dsimp only at H)
 have FA10 := Aside0.mk A0_
 clear A0_
 replace H := Option.bind_eq_some_iff.mp H
 obtain ⟨t12, A0_, H⟩ := H
 (try dsimp only at H)
 have FA13 := Aside0.mk A0_
 clear A0_
 replace H := Option.bind_eq_some_iff.mp H
 obtain ⟨t15, A0_, H⟩ := H
 (try dsimp only at H)
 have FA16 := Aside0.mk A0_
 clear A0_
 by_cases c45 : t15 = true
 rotate_left
 · rw [if_neg c45] at H
   exact absurd H (by simp)
 subst c45
 rw [if_pos rfl] at H
 replace H := Option.bind_eq_some_iff.mp H
 obtain ⟨t17, A0_, H⟩ := H
 (try dsimp only at H)
 have FA18 := Aside0.mk A0_
 clear A0_
 replace H := Option.bind_eq_some_iff.mp H
 obtain ⟨t20, A0_, H⟩ := H
 (try dsimp only at H)
 have FA21 := Aside0.mk A0_
 clear A0_
 by_cases c46 : t20 = true
 rotate_left
 · rw [if_neg c46] at H
   exact absurd H (by simp)
 subst c46
 rw [if_pos rfl] at H
 replace H := Option.bind_eq_some_iff.mp H
 obtain ⟨⟨t22, t23⟩, A0_, H⟩ := H
 (try dsimp only at H)
 have FA24 := Aside0.mk A0_
 clear A0_
 by_cases c47 : t22 < 0
 · rw [if_pos c47] at H
   exact absurd H (by simp)
 rw [if_neg c47] at H
 have c47b0 : decide (t22 < 0) = false := decide_eq_false c47
 clear c47
 replace H := Option.bind_eq_some_iff.mp H
 obtain ⟨t26, A0_, H⟩ := H
 (try dsimp only at H)
 have FA27 := Aside0.mk A0_
 clear A0_
 by_cases c48 : t26 = true
 rotate_left
 · rw [if_neg c48] at H
   exact absurd H (by simp)
 subst c48
 rw [if_pos rfl] at H
 replace H := Option.bind_eq_some_iff.mp H
 obtain ⟨⟨t28, t29⟩, A0_, H⟩ := H
 (try dsimp only at H)
 have FA30 := Aside0.mk A0_
 clear A0_
 replace H := Option.bind_eq_some_iff.mp H
 obtain ⟨t32, A0_, H⟩ := H
 (try dsimp only at H)
 have FA33 := Aside0.mk A0_
 clear A0_
 by_cases c49 : t32 < 0
 · rw [if_pos c49] at H
   exact absurd H (by simp)
 rw [if_neg c49] at H
 have c49b0 : decide (t32 < 0) = false := decide_eq_false c49
 clear c49
 by_cases c50 : t32 = t28
 rotate_left
 · rw [if_neg c50] at H
   exact absurd H (by simp)
 rw [if_pos c50] at H
 have c50b0 : (t32 == t28) = true := beq_iff_eq.mpr c50
 have c50b1 : (t32 != t28) = false := bne_eq_false_iff_eq.mpr c50
 clear c50
 replace H := Option.bind_eq_some_iff.mp H
 obtain ⟨t34, A0_, H⟩ := H
 (try dsimp only at H)
 have FA35 := Aside0.mk A0_
 clear A0_
 replace H := Option.bind_eq_some_iff.mp H
 obtain ⟨t37, A0_, H⟩ := H
 (try dsimp only at H)
 have FA38 := Aside0.mk A0_
 clear A0_
 replace H := Option.bind_eq_some_iff.mp H
 obtain ⟨t40, A0_, H⟩ := H
 (try dsimp only at H)
 have FA41 := Aside0.mk A0_
 clear A0_
 by_cases c51 : t40 = true
 rotate_left
 · rw [if_neg c51] at H
   exact absurd H (by simp)
 subst c51
 rw [if_pos rfl] at H
 replace H := Option.bind_eq_some_iff.mp H
 obtain ⟨t42, A0_, H⟩ := H
 (try dsimp only at H)
 have FA43 := Aside0.mk A0_
 clear A0_
 by_cases c52 : t42 < 0
 · rw [if_pos c52] at H
   exact absurd H (by simp)
 rw [if_neg c52] at H
 have c52b0 : decide (t42 < 0) = false := decide_eq_false c52
 clear c52
 by_cases c53 : t42 = t28
 rotate_left
 · rw [if_neg c53] at H
   exact absurd H (by simp)
 rw [if_pos c53] at H
 have c53b0 : (t42 == t28) = true := beq_iff_eq.mpr c53
 have c53b1 : (t42 != t28) = false := bne_eq_false_iff_eq.mpr c53
 clear c53
 obtain rfl := Option.some.inj H
 go_enter Try.func7, Try.ntmps7
 go_wp2_with (first | ((with_reducible refine gate_callee (f := 25) rfl ?_); refine gL_ (some 15) Try.func25 #[.slice A0 l0.length c0, .int .i64 1048576] ?_; (with_reducible refine (laws_szLockS.calls k A0 c0 l0 1048576 t1 _ ?s1 ?s2 FA2.out).mono ?_); (case s1 => exact cC_ (Kd.C_below HR0.out HB.out)); (case s2 => exact HC0.out); rintro e w_1 ⟨rfl, hb_⟩; refine ⟨_, rfl, ?_⟩; have n0_ : Aside0 (w.heap.size ≤ w_1.heap.size) := ⟨Nat.le_trans (below_size bR_) (below_size hb_)⟩; have m0_ := A_ (below_step bB_ hb_); clear HB; have HZ1 := n0_; have HB := m0_; clear n0_ m0_; (try clear hb_); (try clear hk_); (try clear hw_); (try clear hg_); (try clear hbox_); (try clear ho0_)) | ((with_reducible refine gate_callee (f := 27) rfl ?_); refine gL_ (some 19) Try.func27 #[.slice A0 l0.length c0] ?_; (with_reducible refine (laws_toLockS.calls k A0 c0 l0 t3 _ ?s1 ?s2 FA4.out).mono ?_); (case s1 => exact cC_ (Kd.C_below HR0.out HB.out)); (case s2 => exact HC0.out); rintro e w_2 ⟨v54, rfl, ho0_, hb_⟩; refine ⟨_, rfl, ?_⟩; have n0_ : Aside0 (w_1.heap.size ≤ w_2.heap.size) := ⟨Nat.le_trans (below_size bR_) (below_size hb_)⟩; have m0_ := A_ (below_step bB_ hb_); have m1_ := A_ (show Kd.S k28 28 w_2 w.heap.size (fun k_ => w_1.heap.size ≤ k_ ∧ k_ < w_2.heap.size) v54 t3 from Kd.S_mono (Kd.S_lower (Kd.S_bound ho0_) (below_size bB_)) (fun k_ h_ => ⟨Nat.le_trans (below_size bR_) h_.2.1, h_.2.2.1⟩)); clear HB; have HZ2 := n0_; have HB := m0_; have HO5 := m1_; clear n0_ m0_ m1_; (try clear hb_); (try clear hk_); (try clear hw_); (try clear hg_); (try clear hbox_); (try clear ho0_); (try clear ho1_); obtain ⟨Ao5, co5, eo_⟩ := Kd.S_slice HO5.out; subst eo_) | ((with_reducible refine gate_callee (f := 36) rfl ?_); refine gL_ (some 21) Try.func36 #[.slice Ao5 t3.length co5, .int .i64 a1] ?_; (with_reducible refine (spec_LiveLocks.calls k Ao5 co5 t3 a1 t6 _ ?s1 ?s2 FA7.out).mono ?_); (case s1 => exact cC_ (Kd.S_reads' HO5.out).2.2); (case s2 => exact (Kd.S_reads' HO5.out).2.1); rintro e w_3 ⟨v55, rfl, ho0_, hb_⟩; refine ⟨_, rfl, ?_⟩; have n0_ : Aside0 (w_2.heap.size ≤ w_3.heap.size) := ⟨Nat.le_trans (below_size bR_) (below_size hb_)⟩; have m0_ := A_ (Kd.S_below (vS_ HO5.out) hb_); have m1_ := A_ (below_step bB_ hb_); have m2_ := A_ (show Kd.N k28 28 w_3 w.heap.size (fun k_ => w_2.heap.size ≤ k_ ∧ k_ < w_3.heap.size) v55 t6 from Kd.N_mono (Kd.N_lower (Kd.N_bound ho0_) (below_size bB_)) (fun k_ h_ => ⟨Nat.le_trans (below_size bR_) h_.1, h_.2⟩)); clear HO5 HB; have HZ3 := n0_; have HO5 := m0_; have HB := m1_; have HO8 := m2_; clear n0_ m0_ m1_ m2_; (try clear hb_); (try clear hk_); (try clear hw_); (try clear hg_); (try clear hbox_); (try clear ho0_); (try clear ho1_); obtain ⟨Ao8, co8, eo_⟩ := Kd.N_slice HO8.out; subst eo_) | ((with_reducible refine gate_callee (f := 27) rfl ?_); refine gL_ (some 23) Try.func27 #[.slice A0 l0.length c0] ?_; (with_reducible refine (laws_toLockS.calls k A0 c0 l0 t9 _ ?s1 ?s2 FA10.out).mono ?_); (case s1 => exact cC_ (Kd.C_below HR0.out HB.out)); (case s2 => exact HC0.out); rintro e w_4 ⟨v56, rfl, ho0_, hb_⟩; refine ⟨_, rfl, ?_⟩; have n0_ : Aside0 (w_3.heap.size ≤ w_4.heap.size) := ⟨Nat.le_trans (below_size bR_) (below_size hb_)⟩; have m0_ := A_ (Kd.N_below (vN_ HO8.out) hb_); have m1_ := A_ (below_step bB_ hb_); have m2_ := A_ (show Kd.S k28 28 w_4 w.heap.size (fun k_ => w_3.heap.size ≤ k_ ∧ k_ < w_4.heap.size) v56 t9 from Kd.S_mono (Kd.S_lower (Kd.S_bound ho0_) (below_size bB_)) (fun k_ h_ => ⟨Nat.le_trans (below_size bR_) h_.2.1, h_.2.2.1⟩)); clear HO8 HB; have HZ4 := n0_; have HO8 := m0_; have HB := m1_; have HO11 := m2_; clear n0_ m0_ m1_ m2_; (try clear hb_); (try clear hk_); (try clear hw_); (try clear hg_); (try clear hbox_); (try clear ho0_); (try clear ho1_); obtain ⟨Ao11, co11, eo_⟩ := Kd.S_slice HO11.out; subst eo_) | ((with_reducible refine gate_callee (f := 37) rfl ?_); refine gL_ (some 26) Try.func37 #[.slice Ao11 t9.length co11, .int .i64 a1] ?_; (with_reducible refine (impl_LiveLocks.calls k Ao11 co11 t9 a1 t12 _ ?s1 ?s2 FA13.out).mono ?_); (case s1 => exact cC_ (Kd.S_reads' HO11.out).2.2); (case s2 => exact (Kd.S_reads' HO11.out).2.1); rintro e w_5 ⟨v57, rfl, ho0_, hb_⟩; refine ⟨_, rfl, ?_⟩; have n0_ : Aside0 (w_4.heap.size ≤ w_5.heap.size) := ⟨Nat.le_trans (below_size bR_) (below_size hb_)⟩; have m0_ := A_ (Kd.N_below (vN_ HO8.out) hb_); have m1_ := A_ (Kd.S_below (vS_ HO11.out) hb_); have m2_ := A_ (below_step bB_ hb_); have m3_ := A_ (show Kd.S k28 28 w_5 w.heap.size (fun k_ => w_4.heap.size ≤ k_ ∧ k_ < w_5.heap.size) v57 t12 from Kd.S_mono (Kd.S_lower (Kd.S_bound ho0_) (below_size bB_)) (fun k_ h_ => ⟨Nat.le_trans (below_size bR_) h_.2.1, h_.2.2.1⟩)); clear HO8 HO11 HB; have HZ5 := n0_; have HO8 := m0_; have HO11 := m1_; have HB := m2_; have HO14 := m3_; clear n0_ m0_ m1_ m2_ m3_; (try clear hb_); (try clear hk_); (try clear hw_); (try clear hg_); (try clear hbox_); (try clear ho0_); (try clear ho1_); obtain ⟨Ao14, co14, eo_⟩ := Kd.S_slice HO14.out; subst eo_) | ((with_reducible refine gate_callee (f := 30) rfl ?_); refine gL_ (some 29) Try.func30 #[.slice Ao14 t12.length co14, .slice Ao8 t6.length co8] ?_; (with_reducible refine (laws_eqLockS.calls k Ao14 co14 t12 Ao8 co8 t6 true _ ?s1 ?s2 ?s3 ?s4 FA16.out).mono ?_); (case s1 => exact cC_ (Kd.S_reads' HO14.out).2.2); (case s2 => exact (Kd.S_reads' HO14.out).2.1); (case s3 => exact cC_ (Kd.N_reads' HO8.out).2.2); (case s4 => exact (Kd.N_reads' HO8.out).2.1); rintro e w_6 ⟨rfl, hb_⟩; refine ⟨_, rfl, ?_⟩; have n0_ : Aside0 (w_5.heap.size ≤ w_6.heap.size) := ⟨Nat.le_trans (below_size bR_) (below_size hb_)⟩; have m0_ := A_ (Kd.N_below (vN_ HO8.out) hb_); have m1_ := A_ (Kd.S_below (vS_ HO11.out) hb_); have m2_ := A_ (Kd.S_below (vS_ HO14.out) hb_); have m3_ := A_ (below_step bB_ hb_); clear HO8 HO11 HO14 HB; have HZ6 := n0_; have HO8 := m0_; have HO11 := m1_; have HO14 := m2_; have HB := m3_; clear n0_ m0_ m1_ m2_ m3_; (try clear hb_); (try clear hk_); (try clear hw_); (try clear hg_); (try clear hbox_); (try clear ho0_)) | ((with_reducible refine gate_callee (f := 27) rfl ?_); refine gL_ (some 33) Try.func27 #[.slice A0 l0.length c0] ?_; (with_reducible refine (laws_toLockS.calls k A0 c0 l0 t17 _ ?s1 ?s2 FA18.out).mono ?_); (case s1 => exact cC_ (Kd.C_below HR0.out HB.out)); (case s2 => exact HC0.out); rintro e w_7 ⟨v58, rfl, ho0_, hb_⟩; refine ⟨_, rfl, ?_⟩; have n0_ : Aside0 (w_6.heap.size ≤ w_7.heap.size) := ⟨Nat.le_trans (below_size bR_) (below_size hb_)⟩; have m0_ := A_ (Kd.N_below (vN_ HO8.out) hb_); have m1_ := A_ (Kd.S_below (vS_ HO11.out) hb_); have m2_ := A_ (Kd.S_below (vS_ HO14.out) hb_); have m3_ := A_ (below_step bB_ hb_); have m4_ := A_ (show Kd.S k28 28 w_7 w.heap.size (fun k_ => w_6.heap.size ≤ k_ ∧ k_ < w_7.heap.size) v58 t17 from Kd.S_mono (Kd.S_lower (Kd.S_bound ho0_) (below_size bB_)) (fun k_ h_ => ⟨Nat.le_trans (below_size bR_) h_.2.1, h_.2.2.1⟩)); clear HO8 HO11 HO14 HB; have HZ7 := n0_; have HO8 := m0_; have HO11 := m1_; have HO14 := m2_; have HB := m3_; have HO19 := m4_; clear n0_ m0_ m1_ m2_ m3_ m4_; (try clear hb_); (try clear hk_); (try clear hw_); (try clear hg_); (try clear hbox_); (try clear ho0_); (try clear ho1_); obtain ⟨Ao19, co19, eo_⟩ := Kd.S_slice HO19.out; subst eo_) | ((with_reducible refine gate_callee (f := 30) rfl ?_); refine gL_ (some 34) Try.func30 #[.slice Ao11 t9.length co11, .slice Ao19 t17.length co19] ?_; (with_reducible refine (laws_eqLockS.calls k Ao11 co11 t9 Ao19 co19 t17 true _ ?s1 ?s2 ?s3 ?s4 FA21.out).mono ?_); (case s1 => exact cC_ (Kd.S_reads' HO11.out).2.2); (case s2 => exact (Kd.S_reads' HO11.out).2.1); (case s3 => exact cC_ (Kd.S_reads' HO19.out).2.2); (case s4 => exact (Kd.S_reads' HO19.out).2.1); rintro e w_8 ⟨rfl, hb_⟩; refine ⟨_, rfl, ?_⟩; have n0_ : Aside0 (w_7.heap.size ≤ w_8.heap.size) := ⟨Nat.le_trans (below_size bR_) (below_size hb_)⟩; have m0_ := A_ (Kd.N_below (vN_ HO8.out) hb_); have m1_ := A_ (Kd.S_below (vS_ HO11.out) hb_); have m2_ := A_ (Kd.S_below (vS_ HO14.out) hb_); have m3_ := A_ (Kd.S_below (vS_ HO19.out) hb_); have m4_ := A_ (below_step bB_ hb_); clear HO8 HO11 HO14 HO19 HB; have HZ8 := n0_; have HO8 := m0_; have HO11 := m1_; have HO14 := m2_; have HO19 := m3_; have HB := m4_; clear n0_ m0_ m1_ m2_ m3_ m4_; (try clear hb_); (try clear hk_); (try clear hw_); (try clear hg_); (try clear hbox_); (try clear ho0_)) | ((with_reducible refine gate_callee (f := 34) rfl ?_); refine gL_ (some 38) Try.func34 #[(.slice Ao11 t9.length co11), .int .i64 1] ?_; (with_reducible refine (laws_markLockS.calls k (fun k_ => w_3.heap.size ≤ k_ ∧ k_ < w_4.heap.size) (.slice Ao11 t9.length co11) t9 1 t22 t23 w _ ?s1 ?s2 FA24.out).mono ?_); (case s1 => exact bB_); (case s2 => exact (vS_ HO11.out)); rintro e w_9 ⟨rfl, ho0_, hb_, hk_⟩; refine ⟨_, rfl, ?_⟩; have n0_ : Aside0 (w_8.heap.size ≤ w_9.heap.size) := ⟨Nat.le_trans (below_size bR_) (hk_.1)⟩; have m0_ := A_ (Kd.N_step (vN_ HO8.out) (fun k_ h1_ h2_ => hk_.2 k_ h2_ (fun h3_ => by have := HZ1.out; have := HZ2.out; have := HZ3.out; have := HZ4.out; have := HZ5.out; have := HZ6.out; have := HZ7.out; have := HZ8.out; omega))); have m1_ := A_ (Kd.S_step (vS_ HO14.out) (fun k_ h1_ h2_ => hk_.2 k_ h2_ (fun h3_ => by have := HZ1.out; have := HZ2.out; have := HZ3.out; have := HZ4.out; have := HZ5.out; have := HZ6.out; have := HZ7.out; have := HZ8.out; omega))); have m2_ := A_ (Kd.S_mono ho0_ (fun _ h_ => h_)); have m3_ := Aside0.mk hb_; have m4_ := A_ (Kd.S_reads' ho0_).1; clear HO8 HO14 HO11 HB; have HZ9 := n0_; have HO8 := m0_; have HO14 := m1_; have HO11 := m2_; have HB := m3_; have HE25 := m4_; clear n0_ m0_ m1_ m2_ m3_ m4_; (try clear hb_); (try clear hk_); (try clear hw_); (try clear hg_); (try clear hbox_); (try clear ho0_); (try clear ho1_); (try clear ho2_)) | (go_at_call 30; (with_reducible refine (laws_eqLockS.calls k Ao14 co14 t12 Ao8 co8 t6 true _ ?s1 ?s2 ?s3 ?s4 FA27.out).mono ?_); (case s1 => exact cC_ (Kd.S_reads' HO14.out).2.2); (case s2 => exact (Kd.S_reads' HO14.out).2.1); (case s3 => exact cC_ (Kd.N_reads' HO8.out).2.2); (case s4 => exact (Kd.N_reads' HO8.out).2.1); rintro e w_10 ⟨rfl, hb_⟩; have n0_ : Aside0 (w_9.heap.size ≤ w_10.heap.size) := ⟨Nat.le_trans (below_size bR_) (below_size hb_)⟩; have m0_ := A_ (Kd.N_below (vN_ HO8.out) hb_); have m1_ := A_ (Kd.S_below (vS_ HO14.out) hb_); have m2_ := A_ (below_step bB_ hb_); clear HO8 HO14 HB; have HZ10 := n0_; have HO8 := m0_; have HO14 := m1_; have HB := m2_; clear n0_ m0_ m1_ m2_; (try clear hb_); (try clear hk_); (try clear hw_); (try clear hg_); (try clear hbox_); (try clear ho0_)) | ((with_reducible refine gate_callee (f := 34) rfl ?_); refine gL_ (some 49) Try.func34 #[(.slice Ao14 t12.length co14), .int .i64 1] ?_; (with_reducible refine (laws_markLockS.calls k (fun k_ => w_4.heap.size ≤ k_ ∧ k_ < w_5.heap.size) (.slice Ao14 t12.length co14) t12 1 t28 t29 w _ ?s1 ?s2 FA30.out).mono ?_); (case s1 => exact bB_); (case s2 => exact (vS_ HO14.out)); rintro e w_11 ⟨rfl, ho0_, hb_, hk_⟩; refine ⟨_, rfl, ?_⟩; have n0_ : Aside0 (w_10.heap.size ≤ w_11.heap.size) := ⟨Nat.le_trans (below_size bR_) (hk_.1)⟩; have m0_ := A_ (Kd.N_step (vN_ HO8.out) (fun k_ h1_ h2_ => hk_.2 k_ h2_ (fun h3_ => by have := HZ1.out; have := HZ2.out; have := HZ3.out; have := HZ4.out; have := HZ5.out; have := HZ6.out; have := HZ7.out; have := HZ8.out; have := HZ9.out; have := HZ10.out; omega))); have m1_ := A_ (Kd.S_mono ho0_ (fun _ h_ => h_)); have m2_ := Aside0.mk hb_; have m3_ := A_ (Kd.S_reads' ho0_).1; clear HO8 HO14 HB; have HZ11 := n0_; have HO8 := m0_; have HO14 := m1_; have HB := m2_; have HE31 := m3_; clear n0_ m0_ m1_ m2_ m3_; (try clear hb_); (try clear hk_); (try clear hw_); (try clear hg_); (try clear hbox_); (try clear ho0_); (try clear ho1_); (try clear ho2_)) | ((with_reducible refine gate_callee (f := 35) rfl ?_); refine gL_ (some 52) Try.func35 #[.slice Ao14 t12.length co14, .int .i64 1] ?_; refine calls_of_args (args' := #[.slice Ao14 t29.length co14, .int .i64 1]) (by simp only [HE31.out]) ?_; (with_reducible refine (laws_heldLockS.calls k Ao14 co14 t29 1 t32 _ ?s1 ?s2 FA33.out).mono ?_); (case s1 => repeat (first | (have h_ := Kd.S_reads' HO14.out; rw [HE31.out] at h_; exact h_.2.2) | (with_reducible refine Kd.C_alloc ?_ _) | (with_reducible refine Kd.C_drewN ?_ _) | (with_reducible refine Kd.C_drew ?_))); (case s2 => have h_ := Kd.S_reads' HO14.out; rw [HE31.out] at h_; exact h_.2.1); rintro e w_12 ⟨rfl, hb_⟩; refine ⟨_, rfl, ?_⟩; have n0_ : Aside0 (w_11.heap.size ≤ w_12.heap.size) := ⟨Nat.le_trans (below_size bR_) (below_size hb_)⟩; have m0_ := A_ (Kd.N_below (vN_ HO8.out) hb_); have m1_ := A_ (Kd.S_below (vS_ HO14.out) hb_); have m2_ := A_ (below_step bB_ hb_); clear HO8 HO14 HB; have HZ12 := n0_; have HO8 := m0_; have HO14 := m1_; have HB := m2_; clear n0_ m0_ m1_ m2_; (try clear hb_); (try clear hk_); (try clear hw_); (try clear hg_); (try clear hbox_); (try clear ho0_)) | ((with_reducible refine gate_callee (f := 27) rfl ?_); refine gL_ (some 59) Try.func27 #[.slice A0 l0.length c0] ?_; (with_reducible refine (laws_toLockS.calls k A0 c0 l0 t34 _ ?s1 ?s2 FA35.out).mono ?_); (case s1 => exact cC_ (Kd.C_below HR0.out HB.out)); (case s2 => exact HC0.out); rintro e w_13 ⟨v59, rfl, ho0_, hb_⟩; refine ⟨_, rfl, ?_⟩; have n0_ : Aside0 (w_12.heap.size ≤ w_13.heap.size) := ⟨Nat.le_trans (below_size bR_) (below_size hb_)⟩; have m0_ := A_ (Kd.N_below (vN_ HO8.out) hb_); have m1_ := A_ (Kd.S_below (vS_ HO14.out) hb_); have m2_ := A_ (below_step bB_ hb_); have m3_ := A_ (show Kd.S k28 28 w_13 w.heap.size (fun k_ => w_12.heap.size ≤ k_ ∧ k_ < w_13.heap.size) v59 t34 from Kd.S_mono (Kd.S_lower (Kd.S_bound ho0_) (below_size bB_)) (fun k_ h_ => ⟨Nat.le_trans (below_size bR_) h_.2.1, h_.2.2.1⟩)); clear HO8 HO14 HB; have HZ13 := n0_; have HO8 := m0_; have HO14 := m1_; have HB := m2_; have HO36 := m3_; clear n0_ m0_ m1_ m2_ m3_; (try clear hb_); (try clear hk_); (try clear hw_); (try clear hg_); (try clear hbox_); (try clear ho0_); (try clear ho1_); obtain ⟨Ao36, co36, eo_⟩ := Kd.S_slice HO36.out; subst eo_) | ((with_reducible refine gate_callee (f := 37) rfl ?_); refine gL_ (some 61) Try.func37 #[.slice Ao36 t34.length co36, .int .i64 a1] ?_; (with_reducible refine (impl_LiveLocks.calls k Ao36 co36 t34 a1 t37 _ ?s1 ?s2 FA38.out).mono ?_); (case s1 => exact cC_ (Kd.S_reads' HO36.out).2.2); (case s2 => exact (Kd.S_reads' HO36.out).2.1); rintro e w_14 ⟨v60, rfl, ho0_, hb_⟩; refine ⟨_, rfl, ?_⟩; have n0_ : Aside0 (w_13.heap.size ≤ w_14.heap.size) := ⟨Nat.le_trans (below_size bR_) (below_size hb_)⟩; have m0_ := A_ (Kd.N_below (vN_ HO8.out) hb_); have m1_ := A_ (Kd.S_below (vS_ HO14.out) hb_); have m2_ := A_ (Kd.S_below (vS_ HO36.out) hb_); have m3_ := A_ (below_step bB_ hb_); have m4_ := A_ (show Kd.S k28 28 w_14 w.heap.size (fun k_ => w_13.heap.size ≤ k_ ∧ k_ < w_14.heap.size) v60 t37 from Kd.S_mono (Kd.S_lower (Kd.S_bound ho0_) (below_size bB_)) (fun k_ h_ => ⟨Nat.le_trans (below_size bR_) h_.2.1, h_.2.2.1⟩)); clear HO8 HO14 HO36 HB; have HZ14 := n0_; have HO8 := m0_; have HO14 := m1_; have HO36 := m2_; have HB := m3_; have HO39 := m4_; clear n0_ m0_ m1_ m2_ m3_ m4_; (try clear hb_); (try clear hk_); (try clear hw_); (try clear hg_); (try clear hbox_); (try clear ho0_); (try clear ho1_); obtain ⟨Ao39, co39, eo_⟩ := Kd.S_slice HO39.out; subst eo_) | ((with_reducible refine gate_callee (f := 30) rfl ?_); refine gL_ (some 64) Try.func30 #[.slice Ao39 t37.length co39, .slice Ao8 t6.length co8] ?_; (with_reducible refine (laws_eqLockS.calls k Ao39 co39 t37 Ao8 co8 t6 true _ ?s1 ?s2 ?s3 ?s4 FA41.out).mono ?_); (case s1 => exact cC_ (Kd.S_reads' HO39.out).2.2); (case s2 => exact (Kd.S_reads' HO39.out).2.1); (case s3 => exact cC_ (Kd.N_reads' HO8.out).2.2); (case s4 => exact (Kd.N_reads' HO8.out).2.1); rintro e w_15 ⟨rfl, hb_⟩; refine ⟨_, rfl, ?_⟩; have n0_ : Aside0 (w_14.heap.size ≤ w_15.heap.size) := ⟨Nat.le_trans (below_size bR_) (below_size hb_)⟩; have m0_ := A_ (Kd.N_below (vN_ HO8.out) hb_); have m1_ := A_ (Kd.S_below (vS_ HO14.out) hb_); have m2_ := A_ (Kd.S_below (vS_ HO39.out) hb_); have m3_ := A_ (below_step bB_ hb_); clear HO8 HO14 HO39 HB; have HZ15 := n0_; have HO8 := m0_; have HO14 := m1_; have HO39 := m2_; have HB := m3_; clear n0_ m0_ m1_ m2_ m3_; (try clear hb_); (try clear hk_); (try clear hw_); (try clear hg_); (try clear hbox_); (try clear ho0_)) | ((with_reducible refine gate_callee (f := 35) rfl ?_); refine gL_ (some 68) Try.func35 #[.slice Ao14 t12.length co14, .int .i64 1] ?_; refine calls_of_args (args' := #[.slice Ao14 t29.length co14, .int .i64 1]) (by simp only [HE31.out]) ?_; (with_reducible refine (laws_heldLockS.calls k Ao14 co14 t29 1 t42 _ ?s1 ?s2 FA43.out).mono ?_); (case s1 => repeat (first | (have h_ := Kd.S_reads' HO14.out; rw [HE31.out] at h_; exact h_.2.2) | (with_reducible refine Kd.C_alloc ?_ _) | (with_reducible refine Kd.C_drewN ?_ _) | (with_reducible refine Kd.C_drew ?_))); (case s2 => have h_ := Kd.S_reads' HO14.out; rw [HE31.out] at h_; exact h_.2.1); rintro e w_16 ⟨rfl, hb_⟩; refine ⟨_, rfl, ?_⟩; have n0_ : Aside0 (w_15.heap.size ≤ w_16.heap.size) := ⟨Nat.le_trans (below_size bR_) (below_size hb_)⟩; have m0_ := A_ (Kd.S_below (vS_ HO14.out) hb_); have m1_ := A_ (below_step bB_ hb_); clear HO14 HB; have HZ16 := n0_; have HO14 := m0_; have HB := m1_; clear n0_ m0_ m1_; (try clear hb_); (try clear hk_); (try clear hw_); (try clear hg_); (try clear hbox_); (try clear ho0_)))
 go_ret
 exact ⟨rfl, bB_⟩
end Go.Proofs.Ytiddgglidkbipaa.Q

/- What a reading of a parameter says of its cells, kind by kind: for the rows of laws whose parameters are slices and structs. No condition. -/
namespace Go.Proofs.Ytiddgglidkbipaa.Op
open Go.RowKit Go.ChangeShapes Go.WideShapes Go.Proofs.YtiddgglidkbipaaW.PrintWords
def Opens {α H : Type} (enc : TypeId × Value → H) (P : Program) (w : World) (t : TypeId) (d : Kd α) (G : α → Prop) : Prop :=
  ∀ fuel cs x, DataW.trod enc P w 0 (fun _ => true) true fuel t cs = some x → ∃ a, d.K w a cs ∧ G a
section
variable {H : Type} {enc : TypeId × Value → H} {P : Program} {w : World} {t : TypeId}
theorem opens_string (ht : P.underlying t = some .string) : Opens enc P w t Kd.string (fun s => s.size ≤ maxLen) := by
  intro fuel cs x h
  obtain ⟨s, rfl, _, hs⟩ := DataW.trod_string ht h
  exact ⟨s, rfl, hs⟩
theorem opens_bool (ht : P.underlying t = some .bool) : Opens enc P w t Kd.bool (fun _ => True) := by
  intro fuel cs x h
  obtain ⟨s, rfl, _⟩ := DataW.trod_bool ht h
  exact ⟨s, rfl, trivial⟩
theorem opens_int {k : IntKind} (ht : P.underlying t = some (.int k)) : Opens enc P w t (Kd.int k) (fun n => (Lit.int k n).wf = true) := by
  intro fuel cs x h
  obtain ⟨n, rfl, _, hn⟩ := DataW.trod_int ht h
  exact ⟨n, rfl, hn⟩
theorem opens_slice {α : Type} [Inhabited α] {e : TypeId} {d : Kd α} {G : α → Prop} (ht : P.underlying t = some (.slice e)) (hc : P.cellsOf e = d.sz) (he : Opens enc P w e d G) :
    Opens enc P w t (Kd.slice e d) (fun l => l.length ≤ maxLen ∧ ∀ a ∈ l, G a) := by
  intro fuel cs x h
  rcases Go.Deep.open_slice ht h with ⟨rfl, _⟩ | ⟨a, len, cap, m, n, D, Pl, rfl, _, hl, hm, hmm, _, hx⟩
  · exact ⟨[], ⟨none, 0, rfl, Nat.le_refl _, Kd.C_nil d w⟩, by simp, by simp⟩
  · have hm' : m = cap := by simpa using hmm
    have each : ∀ i, i < len → ∃ y : α, G y ∧ ∃ c, d.K w y c ∧ ∀ j u, c[j]? = some u → w.cell? (a.add (i * d.sz + j)) = some u := fun i hi => by
      obtain ⟨cs', h1, h2⟩ := hx i (by omega)
      obtain ⟨y, hK, hG⟩ := he _ _ _ h2
      obtain ⟨_, h3, h4⟩ := World.cells?_some h1
      refine ⟨y, hG, cs', hK, fun j u hu => ?_⟩
      have hj : j < P.cellsOf e := by
        have := (List.getElem?_eq_some_iff.1 hu).1
        omega
      have h5 := h4 j hj
      rw [Go.Deep.add_add, hc, hu] at h5
      exact h5
    obtain ⟨f, hf⟩ := Go.Deep.choose_lt each
    have hmax : maxLen = 9223372036854775807 := by decide
    refine ⟨(List.range len).map f, ⟨some a, cap, by simp, by simpa using hl, ?_⟩, by simp; omega, ?_⟩
    · refine ⟨rfl, by simp; omega, fun _ => ⟨a, rfl, fun j p hj => ?_⟩⟩
      have hjl : j < len := by
        have := (List.getElem?_eq_some_iff.1 hj).1
        simpa using this
      have hp : f j = p := by
        rw [List.getElem?_map, List.getElem?_range hjl] at hj
        simpa using hj
      obtain ⟨_, c, hK, hcell⟩ := hf j hjl
      exact ⟨c, d.K_len hK, hp ▸ hK, hcell⟩
    · intro y hy
      obtain ⟨j, hj, rfl⟩ := List.mem_map.1 hy
      exact (hf j (List.mem_range.1 hj)).1
end
end Go.Proofs.Ytiddgglidkbipaa.Op

/- What a reading of a struct says of its cells. No condition. -/
namespace Go.Proofs.Ytiddgglidkbipaa.Q
open Go.RowKit Go.ChangeShapes Go.WideShapes Go.Proofs.YtiddgglidkbipaaW.PrintWords Go.Proofs.Ytiddgglidkbipaa
set_option linter.unusedVariables false
set_option linter.unusedSimpArgs false
theorem len5 {α : Type} {cs : List α} (h : cs.length = 5) : ∃ c0 c1 c2 c3 c4, cs = [c0, c1, c2, c3, c4] := by
  match cs, h with
  | [c0, c1, c2, c3, c4], _ => exact ⟨_, _, _, _, _, rfl⟩
instance : Inhabited S24 := ⟨z24⟩
def G24 (x : S24) : Prop := (fun x : Int => (Lit.int .i64 x).wf = true) x.f0 ∧ (fun l : List ByteArray => l.length ≤ maxLen ∧ ∀ a ∈ l, (fun s : ByteArray => s.size ≤ maxLen) a) x.f1 ∧ (fun _ : Bool => True) x.f2 ∧ (fun _ : Bool => True) x.f3 ∧ (fun x : Int => (Lit.int .i64 x).wf = true) x.f4
theorem opens24 {H : Type} {enc : TypeId × Value → H} {w : World} : Op.Opens enc Try.prog w 24 k24 G24 := by
  intro fuel cs x h
  obtain ⟨xs, n, _, _, hl, hlen, hf⟩ := DataW.trod_struct Try.underlying24 h
  replace hl : cs.length = 5 := hl.trans (by kernel_rfl)
  replace hlen : xs.length = 5 := hlen.trans (by kernel_rfl)
  obtain ⟨c0, c1, c2, c3, c4, rfl⟩ := len5 hl
  have hc3_ : Try.prog.cellsOf 3 = 1 := by kernel_rfl
  have hc22_ : Try.prog.cellsOf 22 = 1 := by kernel_rfl
  have hc4_ : Try.prog.cellsOf 4 = 1 := by kernel_rfl
  obtain ⟨a0, k0_, g0_⟩ : ∃ a, (Kd.int .i64).K w a [c0] ∧ (fun x : Int => (Lit.int .i64 x).wf = true) a := by
    have h1 : DataW.trod enc Try.prog w 0 (fun _ => true) true n 3 (([c0, c1, c2, c3, c4].drop 0).take (Try.prog.cellsOf 3)) = xs[0]? := hf 0 _ rfl
    have hlt : 0 < xs.length := by omega
    rw [List.getElem?_eq_getElem hlt] at h1
    simp only [hc3_, List.drop_zero, List.drop_succ_cons, List.take_succ_cons, List.take_zero] at h1
    exact (Op.opens_int Try.underlying3) n [c0] _ h1
  obtain ⟨a1, k1_, g1_⟩ : ∃ a, (Kd.slice 9 Kd.string).K w a [c1] ∧ (fun l : List ByteArray => l.length ≤ maxLen ∧ ∀ a ∈ l, (fun s : ByteArray => s.size ≤ maxLen) a) a := by
    have h1 : DataW.trod enc Try.prog w 0 (fun _ => true) true n 22 (([c0, c1, c2, c3, c4].drop 1).take (Try.prog.cellsOf 22)) = xs[1]? := hf 1 _ rfl
    have hlt : 1 < xs.length := by omega
    rw [List.getElem?_eq_getElem hlt] at h1
    simp only [hc22_, List.drop_zero, List.drop_succ_cons, List.take_succ_cons, List.take_zero] at h1
    exact (Op.opens_slice Try.underlying22 (by kernel_rfl) (Op.opens_string Try.underlying9)) n [c1] _ h1
  obtain ⟨a2, k2_, g2_⟩ : ∃ a, Kd.bool.K w a [c2] ∧ (fun _ : Bool => True) a := by
    have h1 : DataW.trod enc Try.prog w 0 (fun _ => true) true n 4 (([c0, c1, c2, c3, c4].drop 2).take (Try.prog.cellsOf 4)) = xs[2]? := hf 2 _ rfl
    have hlt : 2 < xs.length := by omega
    rw [List.getElem?_eq_getElem hlt] at h1
    simp only [hc4_, List.drop_zero, List.drop_succ_cons, List.take_succ_cons, List.take_zero] at h1
    exact (Op.opens_bool Try.underlying4) n [c2] _ h1
  obtain ⟨a3, k3_, g3_⟩ : ∃ a, Kd.bool.K w a [c3] ∧ (fun _ : Bool => True) a := by
    have h1 : DataW.trod enc Try.prog w 0 (fun _ => true) true n 4 (([c0, c1, c2, c3, c4].drop 3).take (Try.prog.cellsOf 4)) = xs[3]? := hf 3 _ rfl
    have hlt : 3 < xs.length := by omega
    rw [List.getElem?_eq_getElem hlt] at h1
    simp only [hc4_, List.drop_zero, List.drop_succ_cons, List.take_succ_cons, List.take_zero] at h1
    exact (Op.opens_bool Try.underlying4) n [c3] _ h1
  obtain ⟨a4, k4_, g4_⟩ : ∃ a, (Kd.int .i64).K w a [c4] ∧ (fun x : Int => (Lit.int .i64 x).wf = true) a := by
    have h1 : DataW.trod enc Try.prog w 0 (fun _ => true) true n 3 (([c0, c1, c2, c3, c4].drop 4).take (Try.prog.cellsOf 3)) = xs[4]? := hf 4 _ rfl
    have hlt : 4 < xs.length := by omega
    rw [List.getElem?_eq_getElem hlt] at h1
    simp only [hc3_, List.drop_zero, List.drop_succ_cons, List.take_succ_cons, List.take_zero] at h1
    exact (Op.opens_int Try.underlying3) n [c4] _ h1
  exact ⟨⟨a0, a1, a2, a3, a4⟩, ⟨[c0], [c1, c2, c3, c4], rfl, k0_, ⟨[c1], [c2, c3, c4], rfl, k1_, ⟨[c2], [c3, c4], rfl, k2_, ⟨[c3], [c4], rfl, k3_, k4_⟩⟩⟩⟩, ⟨g0_, g1_, g2_, g3_, g4_⟩⟩
end Go.Proofs.Ytiddgglidkbipaa.Q

/- Small lemmas for plain laws over rounds: indices as lengths of what was passed, bytes' equality. No condition. -/
set_option linter.unusedSimpArgs false
set_option linter.unusedVariables false
namespace Go.Proofs.Ytiddgglidkbipaa.L
open Go.RowKit Go.Proofs.YtiddgglidkbipaaW.PrintWords Go.Proofs.YtiddgglidkbipaaW.PrintLast
theorem ba_toList (s : ByteArray) : s.toList = s.data.toList := ByteArray.toList_eq s
theorem ba_inj {a b : ByteArray} (h : a.toList = b.toList) : a = b := by
  rw [ba_toList, ba_toList] at h
  cases a with | mk x => cases b with | mk y => congr 1; exact Array.toList_inj.1 h
theorem ba_eq {a b : ByteArray} : (a.toList = b.toList) = (a = b) := propext ⟨ba_inj, fun h => by rw [h]⟩
theorem maxLen_eq : maxLen = 9223372036854775807 := by decide
theorem wrap_id {x : Int} (h0 : -9223372036854775808 ≤ x) (h1 : x < 9223372036854775808) : wrap64 x = x := by
  unfold wrap64
  omega
section
variable {α : Type} {l pre suf : List α} {a : α}
theorem lt_at (h : l = pre ++ a :: suf) : ((pre.length : Nat) : Int) < (l.length : Int) := by subst h; simp; omega
theorem rd_at (d : α) (h : l = pre ++ a :: suf) : rdOf d l (pre.length : Int) = a := by subst h; simp [rdOf, List.getD_eq_getElem?_getD]
theorem getD_at (d : α) (h : l = pre ++ a :: suf) : l.getD ((pre.length : Nat) : Int).toNat d = a := by subst h; simp [List.getD_eq_getElem?_getD]
theorem next_at (h : l = pre ++ a :: suf) (hl : l.length ≤ maxLen) : wrap64 ((pre.length : Int) + 1) = ((pre ++ [a]).length : Int) := by
  have : l.length = pre.length + 1 + suf.length := by subst h; simp; omega
  rw [maxLen_eq] at hl
  rw [wrap_id (by omega) (by omega)]
  simp
theorem snoc_at (h : l = pre ++ a :: suf) : l = (pre ++ [a]) ++ suf := by subst h; simp
theorem end_at (h : l = pre ++ []) : ¬ ((pre.length : Nat) : Int) < (l.length : Int) := by subst h; simp
theorem set_at {b : α} (h : l = pre ++ a :: suf) : l.set ((pre.length : Nat) : Int).toNat b = (pre ++ [b]) ++ suf := by subst h; simp
theorem nonneg_at (n : Nat) : (0 : Int) ≤ (n : Int) := Int.natCast_nonneg n
end
def Sz (g : Nat → Option Int) (n : Int) (P : Prop) : Prop := Ev g (-1) ∨ ∃ m : Int, 0 ≤ m ∧ m ≤ n ∧ Ev g m ∧ P
theorem Sz.bind {g : Nat → Option Int} {f : Nat → Int → Option Int} {n : Int} {P Q : Prop} (h : Sz g n P) (hk : ∀ m, 0 ≤ m → m ≤ n → P → Sz (fun k => f k m) m Q) (hneg : Ev (fun k => f k (-1)) (-1)) : Sz (fun k => (g k).bind (f k)) n Q := by
  rcases h with h | ⟨m, h0, h1, h, hP⟩
  · exact .inl (Ev.bind h hneg)
  · rcases hk m h0 h1 hP with h2 | ⟨m', h0', h1', h2, hQ⟩
    · exact .inl (Ev.bind h h2)
    · exact .inr ⟨m', h0', by omega, Ev.bind h h2, hQ⟩
theorem Sz.sub {f : Nat → Option Int} {n c : Int} {Q : Prop} (hc : 0 ≤ c) (hk : c ≤ n → Sz f (n - c) Q) : Sz (fun k => if n - c < 0 then some (-1) else f k) n Q := by
  by_cases h : n - c < 0
  · simp only [if_pos h]; exact .inl (Ev.now _)
  · simp only [if_neg h]
    rcases hk (by omega) with h2 | ⟨m, h0, h1, h2, hQ⟩
    · exact .inl h2
    · exact .inr ⟨m, h0, by omega, h2, hQ⟩
theorem Sz.ev {α : Type} {g : Nat → Option Int} {f : Nat → Int → Option α} {n : Int} {P : Prop} {r : α} (h : Sz g n P) (hneg : Ev (fun k => f k (-1)) r) (hk : ∀ m, 0 ≤ m → m ≤ n → P → Ev (fun k => f k m) r) : Ev (fun k => (g k).bind (f k)) r := by
  rcases h with h | ⟨m, h0, h1, h, hP⟩
  · exact Ev.bind h hneg
  · exact Ev.bind h (hk m h0 h1 hP)
def IntOk (x : Int) : Prop := -9223372036854775808 ≤ x ∧ x < 9223372036854775808
theorem wf_int {x : Int} (h : (Lit.int .i64 x).wf = true) : IntOk x := by
  unfold Lit.wf at h
  rw [Bool.and_eq_true, decide_eq_true_eq, decide_eq_true_eq] at h
  have h1 : IntKind.i64.min = -9223372036854775808 := by decide
  have h2 : IntKind.i64.max = 9223372036854775807 := by decide
  rw [h1, h2] at h
  exact ⟨h.1, by omega⟩
def SmS (l : List ByteArray) : Prop := l.length ≤ 1048576 ∧ ∀ s ∈ l, s.size ≤ 1048576
theorem sz_loop {α : Type} {l : List α} {P : α → Prop} (g : Nat → Int → Int → Option Int)
    (hend : ∀ n, Ev (fun k => g k n l.length) n)
    (hstep : ∀ pre a suf n, l = pre ++ a :: suf → 0 ≤ n → n ≤ 1048576 → Ev (fun k => g k n (pre.length : Int)) (-1) ∨ ∃ m, 0 ≤ m ∧ m ≤ n ∧ P a ∧ ∀ r, Ev (fun k => g k m ((pre ++ [a]).length : Int)) r → Ev (fun k => g k n (pre.length : Int)) r) :
    ∀ (suf pre : List α) (n : Int), l = pre ++ suf → 0 ≤ n → n ≤ 1048576 → Sz (fun k => g k n (pre.length : Int)) n (∀ a ∈ suf, P a) := by
  intro suf
  induction suf with
  | nil =>
    intro pre n h h0 h1
    have := hend n
    rw [h, List.append_nil] at this
    exact .inr ⟨n, h0, Int.le_refl _, this, by simp⟩
  | cons a suf ih =>
    intro pre n h h0 h1
    rcases hstep pre a suf n h h0 h1 with h2 | ⟨m, hm0, hm1, hP, hr⟩
    · exact .inl h2
    · rcases ih (pre ++ [a]) m (snoc_at h) hm0 (by omega) with h3 | ⟨m', hm0', hm1', h3, h4⟩
      · exact .inl (hr _ h3)
      · exact .inr ⟨m', hm0', by omega, hr _ h3, fun x hx => by
          rcases List.mem_cons.1 hx with rfl | hx
          · exact hP
          · exact h4 x hx⟩
theorem to_loop {α β : Type} {l : List α} {f : α → β} (g : Nat → List β → Int → Option (List β))
    (hend : ∀ out, Ev (fun k => g k out l.length) out)
    (hstep : ∀ pre a suf (out : List β), l = pre ++ a :: suf → ((pre.length : Nat) : Int) < (out.length : Int) → ∀ r, Ev (fun k => g k (out.set ((pre.length : Nat) : Int).toNat (f a)) ((pre ++ [a]).length : Int)) r → Ev (fun k => g k out (pre.length : Int)) r) :
    ∀ (suf pre : List α) (out rest : List β), l = pre ++ suf → out = pre.map f ++ rest → rest.length = suf.length → Ev (fun k => g k out (pre.length : Int)) (l.map f) := by
  intro suf
  induction suf with
  | nil =>
    intro pre out rest h ho hr
    obtain rfl : rest = [] := by simpa using hr
    have := hend out
    rw [h, List.append_nil] at this ⊢
    rw [ho, List.append_nil] at this ⊢
    exact this
  | cons a suf ih =>
    intro pre out rest h ho hr
    obtain ⟨b, rest, rfl⟩ : ∃ b r, rest = b :: r := by
      cases rest with
      | nil => simp at hr
      | cons b r => exact ⟨b, r, rfl⟩
    have hlen : ((pre.length : Nat) : Int) < (out.length : Int) := by rw [ho]; simp; omega
    refine hstep pre a suf out h hlen _ (ih (pre ++ [a]) _ rest (snoc_at h) ?_ (by simpa using hr))
    rw [ho]
    simp [List.set_append]
theorem eq_loop {α : Type} [DecidableEq α] {a b : List α} (g : Nat → Int → Option Bool)
    (hend : Ev (fun k => g k a.length) true)
    (hstep : ∀ pre x su pre' y sv, a = pre ++ x :: su → b = pre' ++ y :: sv → pre.length = pre'.length → (x ≠ y → Ev (fun k => g k (pre.length : Int)) false) ∧ (x = y → ∀ r, Ev (fun k => g k ((pre ++ [x]).length : Int)) r → Ev (fun k => g k (pre.length : Int)) r)) :
    ∀ (su sv pu pv : List α), a = pu ++ su → b = pv ++ sv → pu.length = pv.length → su.length = sv.length → Ev (fun k => g k (pu.length : Int)) (decide (su = sv)) := by
  intro su
  induction su with
  | nil =>
    intro sv pu pv h h' hp hs
    obtain rfl : sv = [] := by simpa using hs.symm
    rw [h, List.append_nil] at hend
    exact hend
  | cons x su ih =>
    intro sv pu pv h h' hp hs
    cases sv with
    | nil => simp at hs
    | cons y sv =>
      obtain ⟨h1, h2⟩ := hstep pu x su pv y sv h h' hp
      by_cases e : x = y
      · have h3 := h2 e _ (ih sv (pu ++ [x]) (pv ++ [y]) (snoc_at h) (snoc_at h') (by simp [hp]) (by simpa using hs))
        simp only [e, List.cons.injEq, true_and]
        exact h3
      · rw [show decide (x :: su = y :: sv) = false from decide_eq_false (fun h => e (List.cons.inj h).1)]
        exact h1 e
theorem ev_cast {α : Type} {g : Nat → Option α} {r s : α} (h : Ev g r) (e : r = s) : Ev g s := e ▸ h
end Go.Proofs.Ytiddgglidkbipaa.L

/- The laws' own functions over lists of texts: their size, their copy, their equality. No condition. -/
set_option linter.unusedSimpArgs false
set_option linter.unusedVariables false
namespace Go.Proofs.Ytiddgglidkbipaa.L
open Go.RowKit Go.Proofs.YtiddgglidkbipaaW.PrintWords Go.Proofs.YtiddgglidkbipaaW.PrintLast Go.Proofs.Ytiddgglidkbipaa.Q
theorem szS_loop {l : List ByteArray} (hl : l.length ≤ maxLen) (hs : ∀ s ∈ l, s.size ≤ maxLen) : ∀ (suf pre : List ByteArray) (n : Int), l = pre ++ suf → 0 ≤ n → n ≤ 1048576 →
    Ev (fun k => laws_szStringS.l0 k l n pre.length) (-1) ∨ ∃ m : Int, 0 ≤ m ∧ m ≤ n ∧ Ev (fun k => laws_szStringS.l0 k l n pre.length) m ∧ ∀ s ∈ suf, (s.size : Int) ≤ n := by
  intro suf
  induction suf with
  | nil =>
    intro pre n h h0 h1
    refine .inr ⟨n, h0, Int.le_refl _, Ev.step (fun k => laws_szStringS.l0.eq_2 ..) ?_, by simp⟩
    simp only [if_neg (end_at h)]
    exact Ev.now _
  | cons a suf ih =>
    intro pre n h h0 h1
    have ha : a.size ≤ maxLen := hs a (by rw [h]; simp)
    rw [maxLen_eq] at ha
    have hw : wrap64 (n - (a.size : Int)) = n - a.size := wrap_id (by omega) (by omega)
    by_cases hlt : n - (a.size : Int) < 0
    · left
      refine Ev.step (fun k => laws_szStringS.l0.eq_2 ..) ?_
      simp only [if_pos (lt_at h), if_pos (nonneg_at _), rd_at _ h, hw, if_pos hlt]
      exact Ev.now _
    · have st : ∀ r, Ev (fun k => laws_szStringS.l0 k l (n - a.size) (pre ++ [a]).length) r → Ev (fun k => laws_szStringS.l0 k l n pre.length) r := fun r hr => by
        refine Ev.step (fun k => laws_szStringS.l0.eq_2 ..) ?_
        simp only [if_pos (lt_at h), if_pos (nonneg_at _), rd_at _ h, hw, if_neg hlt, next_at h hl]
        exact hr
      rcases ih (pre ++ [a]) (n - a.size) (snoc_at h) (by omega) (by omega) with h2 | ⟨m, hm0, hm1, h2, h3⟩
      · exact .inl (st _ h2)
      · refine .inr ⟨m, hm0, by omega, st _ h2, fun s hs' => ?_⟩
        rcases List.mem_cons.1 hs' with rfl | hs'
        · omega
        · have := h3 s hs'
          omega
theorem szS {l : List ByteArray} (hl : l.length ≤ maxLen) (hs : ∀ s ∈ l, s.size ≤ maxLen) {n : Int} (h0 : 0 ≤ n) (h1 : n ≤ 1048576) : Sz (fun k => laws_szStringS.f k l n) n (SmS l) := by
  have hl' := hl
  rw [maxLen_eq] at hl'
  unfold laws_szStringS.f
  simp only [wrap_id (x := n - (l.length : Int)) (by omega) (by omega)]
  refine Sz.sub (by omega) (fun hlt => ?_)
  rcases szS_loop hl hs l [] (n - l.length) rfl (by omega) (by omega) with h | ⟨m, hm0, hm1, h2, h3⟩
  · exact .inl h
  · exact .inr ⟨m, hm0, hm1, h2, by omega, fun s hs' => by have := h3 s hs'; omega⟩
theorem toS_loop {l : List ByteArray} (hl : l.length ≤ maxLen) : ∀ (suf pre rest : List ByteArray), l = pre ++ suf → rest.length = suf.length → Ev (fun k => laws_toStringS.l0 k l (pre ++ rest) pre.length) l := by
  intro suf
  induction suf with
  | nil =>
    intro pre rest h hr
    refine Ev.step (fun k => laws_toStringS.l0.eq_2 ..) ?_
    simp only [if_neg (end_at h)]
    obtain rfl : rest = [] := by simpa using hr
    rw [← h]
    exact Ev.now _
  | cons a suf ih =>
    intro pre rest h hr
    obtain ⟨b, rest, rfl⟩ : ∃ b r, rest = b :: r := by
      cases rest with
      | nil => simp at hr
      | cons b r => exact ⟨b, r, rfl⟩
    refine Ev.step (fun k => laws_toStringS.l0.eq_2 ..) ?_
    have h2 : pre ++ b :: rest = pre ++ b :: rest := rfl
    simp only [if_pos (lt_at h), if_pos (nonneg_at _), rd_at _ h, if_pos (lt_at h2), next_at h hl, set_at h2]
    exact ih (pre ++ [a]) rest (snoc_at h) (by simpa using hr)
theorem toS {l : List ByteArray} (hl : (l.length : Int) ≤ 1048576) : Ev (fun k => laws_toStringS.f k l) l := by
  unfold laws_toStringS.f
  simp only [if_pos (nonneg_at _), Int.toNat_natCast, if_pos (show l.length ≤ 17592186044416 by omega)]
  have := toS_loop (l := l) (by rw [maxLen_eq]; omega) l [] (List.replicate l.length (⟨#[]⟩ : ByteArray)) rfl (by simp)
  simpa using this
theorem eqS_loop {a b : List ByteArray} (hl : a.length ≤ maxLen) : ∀ (su sv pu pv : List ByteArray), a = pu ++ su → b = pv ++ sv → pu.length = pv.length → su.length = sv.length →
    Ev (fun k => laws_eqStringS.l0 k a b pu.length) (decide (su = sv)) := by
  intro su
  induction su with
  | nil =>
    intro sv pu pv h h' hp hs
    obtain rfl : sv = [] := by simpa using hs.symm
    refine Ev.step (fun k => laws_eqStringS.l0.eq_2 ..) ?_
    simp only [if_neg (end_at h)]
    exact Ev.now _
  | cons x su ih =>
    intro sv pu pv h h' hp hs
    cases sv with
    | nil => simp at hs
    | cons y sv =>
      refine Ev.step (fun k => laws_eqStringS.l0.eq_2 ..) ?_
      have h3 := rd_at ByteArray.empty h'
      have h4 := lt_at h'
      rw [← hp] at h3 h4
      by_cases e : x = y
      · subst e
        simp only [if_pos (lt_at h), if_pos (nonneg_at _), if_pos h4, rd_at _ h, h3, if_true, next_at h hl, List.cons.injEq, true_and]
        exact ih sv (pu ++ [x]) (pv ++ [x]) (snoc_at h) (snoc_at h') (by simp [hp]) (by simpa using hs)
      · simp only [if_pos (lt_at h), if_pos (nonneg_at _), if_pos h4, rd_at _ h, h3, ba_eq, if_neg e, List.cons.injEq, e, false_and, decide_false]
        exact Ev.now _
theorem eqS {a b : List ByteArray} (hl : a.length ≤ maxLen) : Ev (fun k => laws_eqStringS.f k a b) (decide (a = b)) := by
  unfold laws_eqStringS.f
  by_cases e : (a.length : Int) = (b.length : Int)
  · simp only [if_pos e]
    exact eqS_loop hl a b [] [] rfl rfl rfl (by omega)
  · simp only [if_neg e]
    rw [show decide (a = b) = false from decide_eq_false (fun h => e (by rw [h]))]
    exact Ev.now _
end Go.Proofs.Ytiddgglidkbipaa.L

/- The laws' own functions over a mirrored struct (Lock): size, copy, equality. No condition. -/
set_option linter.unusedSimpArgs false
set_option linter.unusedVariables false
namespace Go.Proofs.Ytiddgglidkbipaa.L
open Go.RowKit Go.Proofs.YtiddgglidkbipaaW.PrintWords Go.Proofs.YtiddgglidkbipaaW.PrintLast Go.Proofs.Ytiddgglidkbipaa.Q
instance : DecidableEq S28 := fun a b => if h : a.f0 = b.f0 ∧ a.f1 = b.f1 ∧ a.f2 = b.f2 ∧ a.f3 = b.f3 ∧ a.f4 = b.f4 then .isTrue (by cases a; cases b; simp_all) else .isFalse (fun e => h (by rw [e]; exact ⟨rfl, rfl, rfl, rfl, rfl⟩))
theorem rd_lawsLock {l pre suf : List S24} {a : S24} (h : l = pre ++ a :: suf) : rd_T24 l (pre.length : Int) = a := getD_at _ h
theorem rd_implLock {l pre suf : List S28} {a : S28} (h : l = pre ++ a :: suf) : rd_T28 l (pre.length : Int) = a := getD_at _ h
def toLock (p : S24) : S28 := ⟨p.f0, p.f1, p.f2, p.f3, p.f4⟩
def SmLock (p : S28) : Prop := IntOk p.f0 ∧ SmS p.f1 ∧ True ∧ True ∧ IntOk p.f4
def GGLock (x : S24) : Prop := (Lit.int .i64 x.f0).wf = true ∧ (x.f1.length ≤ maxLen ∧ ∀ s ∈ x.f1, s.size ≤ maxLen) ∧ True ∧ True ∧ (Lit.int .i64 x.f4).wf = true
theorem szLock {p : S24} (hp : GGLock p) {n : Int} (h0 : 0 ≤ n) (h1 : n ≤ 1048576) : Sz (fun k => laws_szLock.f k p.f0 p.f1 p.f2 p.f3 p.f4 n) n (SmLock (toLock p)) := by
  obtain ⟨g0, g1, g2, g3, g4⟩ := hp
  unfold laws_szLock.f
  refine Sz.bind (szS g1.1 g1.2 (by omega) (by omega)) (fun n1 a1 b1 s1 => ?_) (by simp only [show (-1 : Int) < 0 by omega, if_true]; exact Ev.now _)
  simp only [if_neg (show ¬ n1 < 0 by omega)]
  exact .inr ⟨n1, by omega, by omega, Ev.now _, wf_int g0, s1, trivial, trivial, wf_int g4⟩
theorem toLock1 {p : S24} (hp : SmLock (toLock p)) : Ev (fun k => laws_toLock.f k p.f0 p.f1 p.f2 p.f3 p.f4) (p.f0, p.f1, p.f2, p.f3, p.f4) := by
  obtain ⟨g0, g1, g2, g3, g4⟩ := hp
  unfold laws_toLock.f
  refine Ev.bind (toS (by have := g1.1; simp only [toLock] at this; omega)) ?_
  exact Ev.now _
theorem eqLock1 {p q : S28} (hp : SmLock p) : Ev (fun k => laws_eqLock.f k p.f0 p.f1 p.f2 p.f3 p.f4 q.f0 q.f1 q.f2 q.f3 q.f4) (decide (p = q)) := by
  obtain ⟨g0, g1, g2, g3, g4⟩ := hp
  unfold laws_eqLock.f
  by_cases e0 : p.f0 = q.f0
  rotate_left
  · rw [show decide (p = q) = false from decide_eq_false (fun h => e0 (by rw [h]))]
    simp only [ba_eq, e0, bne_iff_ne, ne_eq, not_false_eq_true, not_true_eq_false, if_true, if_false]
    exact Ev.now _
  simp only [ba_eq, e0, bne_self_eq_false, Bool.false_eq_true, if_true, if_false]
  refine Ev.bind (eqS (by have := g1.1; rw [maxLen_eq]; omega)) ?_
  by_cases e1 : p.f1 = q.f1
  rotate_left
  · rw [show decide (p = q) = false from decide_eq_false (fun h => e1 (by rw [h]))]
    simp only [e1, decide_false, Bool.false_eq_true, if_false]
    exact Ev.now _
  simp only [e1, decide_true, if_true]
  by_cases e2 : p.f2 = q.f2
  rotate_left
  · rw [show decide (p = q) = false from decide_eq_false (fun h => e2 (by rw [h]))]
    simp only [ba_eq, e2, bne_iff_ne, ne_eq, not_false_eq_true, not_true_eq_false, if_true, if_false]
    exact Ev.now _
  simp only [ba_eq, e2, bne_self_eq_false, Bool.false_eq_true, if_true, if_false]
  by_cases e3 : p.f3 = q.f3
  rotate_left
  · rw [show decide (p = q) = false from decide_eq_false (fun h => e3 (by rw [h]))]
    simp only [ba_eq, e3, bne_iff_ne, ne_eq, not_false_eq_true, not_true_eq_false, if_true, if_false]
    exact Ev.now _
  simp only [ba_eq, e3, bne_self_eq_false, Bool.false_eq_true, if_true, if_false]
  by_cases e4 : p.f4 = q.f4
  rotate_left
  · rw [show decide (p = q) = false from decide_eq_false (fun h => e4 (by rw [h]))]
    simp only [ba_eq, e4, bne_iff_ne, ne_eq, not_false_eq_true, not_true_eq_false, if_true, if_false]
    exact Ev.now _
  simp only [ba_eq, e4, bne_self_eq_false, Bool.false_eq_true, if_true, if_false]
  rw [show decide (p = q) = true from decide_eq_true (by cases p; cases q; simp_all)]
  exact Ev.now _
def SmLocks (l : List S28) : Prop := l.length ≤ 1048576 ∧ ∀ p ∈ l, SmLock p
theorem szLockS {l : List S24} (hl : l.length ≤ maxLen) (hs : ∀ s ∈ l, GGLock s) {n : Int} (h0 : 0 ≤ n) (h1 : n ≤ 1048576) : Sz (fun k => laws_szLockS.f k l n) n (SmLocks (l.map toLock)) := by
  have hl' := hl
  rw [maxLen_eq] at hl'
  unfold laws_szLockS.f
  simp only [wrap_id (x := n - (l.length : Int)) (by omega) (by omega)]
  refine Sz.sub (by omega) (fun hlt => ?_)
  have key : Sz (fun k => laws_szLockS.l0 k l (n - l.length) 0) (n - l.length) (∀ p ∈ l, SmLock (toLock p)) := by
    refine sz_loop (l := l) (P := fun p => SmLock (toLock p)) (fun k n i => laws_szLockS.l0 k l n i) ?_ ?_ l [] (n - l.length) rfl (by omega) (by omega)
    · intro n
      refine Ev.step (fun k => laws_szLockS.l0.eq_2 ..) ?_
      simp only [Int.lt_irrefl, if_false]
      exact Ev.now _
    · intro pre a suf n h h0 h1
      rcases szLock (hs a (by rw [h]; simp)) h0 h1 with h2 | ⟨m, hm0, hm1, h2, h3⟩
      · left
        refine Ev.step (fun k => laws_szLockS.l0.eq_2 ..) ?_
        simp only [if_pos (lt_at h), if_pos (nonneg_at _), rd_lawsLock h]
        refine Ev.bind h2 ?_
        simp only [show (-1 : Int) < 0 by omega, if_true]
        exact Ev.now _
      · refine .inr ⟨m, hm0, hm1, h3, fun r hr => ?_⟩
        refine Ev.step (fun k => laws_szLockS.l0.eq_2 ..) ?_
        simp only [if_pos (lt_at h), if_pos (nonneg_at _), rd_lawsLock h]
        refine Ev.bind h2 ?_
        simp only [if_neg (show ¬ m < 0 by omega), next_at h hl]
        exact hr
  rcases key with h | ⟨m, hm0, hm1, h2, h3⟩
  · exact .inl h
  · refine .inr ⟨m, hm0, hm1, h2, by simp; omega, fun p hp => ?_⟩
    obtain ⟨q, hq, rfl⟩ := List.mem_map.1 hp
    exact h3 q hq
theorem toLockS {p : List S24} (hp : SmLocks (p.map toLock)) : Ev (fun k => laws_toLockS.f k p) (p.map toLock) := by
  obtain ⟨hl0, hs⟩ := hp
  rw [List.length_map] at hl0
  have hl2 : p.length ≤ maxLen := by rw [maxLen_eq]; omega
  unfold laws_toLockS.f
  simp only [if_pos (nonneg_at _), Int.toNat_natCast, if_pos (show p.length ≤ 5864062014805 by omega)]
  refine to_loop (l := p) (f := toLock) (fun k out i => laws_toLockS.l0 k p out i) ?_ ?_ p [] _ (List.replicate p.length z28) rfl rfl (by simp)
  · intro out
    refine Ev.step (fun k => laws_toLockS.l0.eq_2 ..) ?_
    simp only [Int.lt_irrefl, if_false]
    exact Ev.now _
  · intro pre a suf out h ho r hr
    refine Ev.step (fun k => laws_toLockS.l0.eq_2 ..) ?_
    simp only [if_pos (lt_at h), if_pos (nonneg_at _), rd_lawsLock h]
    refine Ev.bind (toLock1 (hs _ (List.mem_map.2 ⟨a, by rw [h]; simp, rfl⟩))) ?_
    simp only [if_pos ho, next_at h hl2]
    exact hr
theorem eqLockS {a b : List S28} (ha : SmLocks a) : Ev (fun k => laws_eqLockS.f k a b) (decide (a = b)) := by
  have hl : a.length ≤ maxLen := by have := ha.1; rw [maxLen_eq]; omega
  unfold laws_eqLockS.f
  by_cases e : (a.length : Int) = (b.length : Int)
  · simp only [if_pos e]
    refine eq_loop (a := a) (b := b) (fun k i => laws_eqLockS.l0 k a b i) ?_ ?_ a b [] [] rfl rfl rfl (by omega)
    · refine Ev.step (fun k => laws_eqLockS.l0.eq_2 ..) ?_
      simp only [Int.lt_irrefl, if_false]
      exact Ev.now _
    · intro pre x su pre' y sv h h' hp
      have h3 := rd_implLock h'
      have h4 := lt_at h'
      rw [← hp] at h3 h4
      have h5 := eqLock1 (q := y) (ha.2 x (by rw [h]; simp))
      refine ⟨fun hne => ?_, fun heq r hr => ?_⟩
      · refine Ev.step (fun k => laws_eqLockS.l0.eq_2 ..) ?_
        simp only [if_pos (lt_at h), if_pos (nonneg_at _), if_pos h4, rd_implLock h, h3]
        refine Ev.bind h5 ?_
        simp only [hne, decide_false, Bool.false_eq_true, if_false]
        exact Ev.now _
      · refine Ev.step (fun k => laws_eqLockS.l0.eq_2 ..) ?_
        simp only [if_pos (lt_at h), if_pos (nonneg_at _), if_pos h4, rd_implLock h, h3]
        refine Ev.bind h5 ?_
        simp only [heq, decide_true, if_true, next_at h hl]
        rw [heq] at hr
        exact hr
  · simp only [if_neg e]
    rw [show decide (a = b) = false from decide_eq_false (fun h => e (by rw [h]))]
    exact Ev.now _
end Go.Proofs.Ytiddgglidkbipaa.L

/- Is a path under another one; as the program and the reference have it. No condition. -/
set_option linter.unusedSimpArgs false
set_option linter.unusedVariables false
namespace Go.Proofs.Ytiddgglidkbipaa.L
open Go.RowKit Go.Proofs.YtiddgglidkbipaaW.PrintWords Go.Proofs.YtiddgglidkbipaaW.PrintLast Go.Proofs.Ytiddgglidkbipaa.Q
end Go.Proofs.Ytiddgglidkbipaa.L

/- What a lock covers, whether two clash; as the program and the reference have it. No condition. -/
set_option linter.unusedSimpArgs false
set_option linter.unusedVariables false
namespace Go.Proofs.Ytiddgglidkbipaa.L
open Go.RowKit Go.Proofs.YtiddgglidkbipaaW.PrintWords Go.Proofs.YtiddgglidkbipaaW.PrintLast Go.Proofs.Ytiddgglidkbipaa.Q
end Go.Proofs.Ytiddgglidkbipaa.L

/- Locks copied, one dropped, one added; as the program and the reference have it. No condition. -/
set_option linter.unusedSimpArgs false
set_option linter.unusedVariables false
namespace Go.Proofs.Ytiddgglidkbipaa.L
open Go.RowKit Go.Proofs.YtiddgglidkbipaaW.PrintWords Go.Proofs.YtiddgglidkbipaaW.PrintLast Go.Proofs.Ytiddgglidkbipaa.Q
theorem specCopyLocks {t : List S28} (hl0 : t.length ≤ 1048577) (ht : ∀ a ∈ t, a.f1.length ≤ 1048576) : Ev (fun k => spec_l13Copy.f k t) t := by
  have hl : t.length ≤ maxLen := by rw [maxLen_eq]; omega
  have key : ∀ (suf pre out : List S28), t = pre ++ suf → out.length ≤ pre.length → Ev (fun k => spec_l13Copy.l0 k t out pre.length) (out ++ suf) := by
    intro suf
    induction suf with
    | nil =>
      intro pre out h ho
      refine Ev.step (fun k => spec_l13Copy.l0.eq_2 ..) ?_
      simp only [if_neg (end_at h), List.append_nil]
      exact Ev.now _
    | cons a suf ih =>
      intro pre out h ho
      have hpl : pre.length ≤ 1048577 := by have : t.length = pre.length + (suf.length + 1) := by rw [h]; simp
                                            omega
      have ha := ht a (by rw [h]; simp)
      refine Ev.step (fun k => spec_l13Copy.l0.eq_2 ..) ?_
      simp only [if_pos (lt_at h), if_pos (nonneg_at _), rd_implLock h, next_at h hl, Option.bind_some, List.length_nil, Nat.zero_add, List.nil_append, show a.f1.length < 8796093022208 by omega, show out.length < 2932031007402 by omega, if_true]
      exact ev_cast (ih (pre ++ [a]) _ (snoc_at h) (by simp; omega)) (by simp)
  exact key t [] [] rfl (by simp)
theorem implCopyLocks {t : List S28} (hl0 : t.length ≤ 1048577) (ht : ∀ a ∈ t, a.f1.length ≤ 1048576) : Ev (fun k => impl_copyLocks.f k t) t := by
  have hl : t.length ≤ maxLen := by rw [maxLen_eq]; omega
  have key : ∀ (suf pre out : List S28), t = pre ++ suf → out.length ≤ pre.length → Ev (fun k => impl_copyLocks.l0 k out t (t.length : Int) pre.length) (out ++ suf) := by
    intro suf
    induction suf with
    | nil =>
      intro pre out h ho
      refine Ev.step (fun k => impl_copyLocks.l0.eq_2 ..) ?_
      simp only [if_neg (end_at h), List.append_nil]
      exact Ev.now _
    | cons a suf ih =>
      intro pre out h ho
      have hpl : pre.length ≤ 1048577 := by have : t.length = pre.length + (suf.length + 1) := by rw [h]; simp
                                            omega
      have ha := ht a (by rw [h]; simp)
      refine Ev.step (fun k => impl_copyLocks.l0.eq_2 ..) ?_
      simp only [if_pos (lt_at h), if_pos (nonneg_at _), rd_implLock h, next_at h hl, impl_copyPath.f, Option.bind_some, List.length_nil, Nat.zero_add, List.nil_append, show a.f1.length < 8796093022208 by omega, show out.length < 2932031007402 by omega, if_true]
      exact ev_cast (ih (pre ++ [a]) _ (snoc_at h) (by simp; omega)) (by simp)
  exact key t [] [] rfl (by simp)
theorem sm_path {t : List S28} (ht : SmLocks t) : ∀ a ∈ t, a.f1.length ≤ 1048576 := fun a ha => by have := (ht.2 a ha).2.1.1; omega
end Go.Proofs.Ytiddgglidkbipaa.L

/- Locks whose time is not over; as the program and the reference have it. No condition. -/
set_option linter.unusedSimpArgs false
set_option linter.unusedVariables false
namespace Go.Proofs.Ytiddgglidkbipaa.L
open Go.RowKit Go.Proofs.YtiddgglidkbipaaW.PrintWords Go.Proofs.YtiddgglidkbipaaW.PrintLast Go.Proofs.Ytiddgglidkbipaa.Q
def liveL (now : Int) (t : List S28) : List S28 := t.filter (fun a => decide (a.f4 > now))
theorem live_cons (now : Int) (a : S28) (t : List S28) : liveL now (a :: t) = if a.f4 > now then a :: liveL now t else liveL now t := by
  unfold liveL
  by_cases c : a.f4 > now <;> simp [List.filter_cons, c]
theorem live_sm {now : Int} {t : List S28} (ht : SmLocks t) : SmLocks (liveL now t) := ⟨Nat.le_trans (List.length_filter_le _ _) ht.1, fun a ha => ht.2 a (List.mem_filter.1 ha).1⟩
theorem specLive {t : List S28} {now : Int} (ht : SmLocks t) : Ev (fun k => spec_LiveLocks.f k t now) (liveL now t) := by
  have hl0 := ht.1
  have hl : t.length ≤ maxLen := by rw [maxLen_eq]; omega
  unfold spec_LiveLocks.f
  refine Ev.bind (specCopyLocks (by omega) (sm_path ht)) ?_
  have key : ∀ (suf pre out : List S28), t = pre ++ suf → out.length ≤ pre.length → Ev (fun k => spec_LiveLocks.l0 k now out t pre.length) (out ++ liveL now suf) := by
    intro suf
    induction suf with
    | nil =>
      intro pre out h ho
      refine Ev.step (fun k => spec_LiveLocks.l0.eq_2 ..) ?_
      simp only [if_neg (end_at h), liveL, List.filter_nil, List.append_nil]
      exact Ev.now _
    | cons a suf ih =>
      intro pre out h ho
      have hpl : pre.length ≤ 1048576 := by have : t.length = pre.length + (suf.length + 1) := by rw [h]; simp
                                            omega
      refine Ev.step (fun k => spec_LiveLocks.l0.eq_2 ..) ?_
      simp only [if_pos (lt_at h), if_pos (nonneg_at _), rd_implLock h, next_at h hl, live_cons]
      by_cases c : a.f4 > now
      · simp only [if_pos c, if_pos (show out.length < 2932031007402 by omega)]
        exact ev_cast (ih (pre ++ [a]) _ (snoc_at h) (by simp; omega)) (by simp)
      · simp only [if_neg c]
        exact ih (pre ++ [a]) _ (snoc_at h) (by simp; omega)
  exact key t [] [] rfl (by simp)
theorem implLive {t : List S28} {now : Int} (ht : SmLocks t) : Ev (fun k => impl_LiveLocks.f k t now) (liveL now t) := by
  have hl0 := ht.1
  have hl : t.length ≤ maxLen := by rw [maxLen_eq]; omega
  unfold impl_LiveLocks.f impl_keepLocks.f
  refine Ev.bind (Ev.bind (implCopyLocks (by omega) (sm_path ht)) ?_) (Ev.now _)
  have key : ∀ (suf pre out : List S28), t = pre ++ suf → out.length ≤ pre.length → Ev (fun k => impl_keepLocks.l0 k now out t (t.length : Int) pre.length) (out ++ liveL now suf) := by
    intro suf
    induction suf with
    | nil =>
      intro pre out h ho
      refine Ev.step (fun k => impl_keepLocks.l0.eq_2 ..) ?_
      simp only [if_neg (end_at h), liveL, List.filter_nil, List.append_nil]
      exact Ev.now _
    | cons a suf ih =>
      intro pre out h ho
      have hpl : pre.length ≤ 1048576 := by have : t.length = pre.length + (suf.length + 1) := by rw [h]; simp
                                            omega
      refine Ev.step (fun k => impl_keepLocks.l0.eq_2 ..) ?_
      simp only [if_pos (lt_at h), if_pos (nonneg_at _), rd_implLock h, next_at h hl, live_cons]
      by_cases c : a.f4 > now
      · simp only [if_pos c, if_pos (show out.length < 2932031007402 by omega)]
        exact ev_cast (ih (pre ++ [a]) _ (snoc_at h) (by simp; omega)) (by simp)
      · simp only [if_neg c]
        exact ih (pre ++ [a]) _ (snoc_at h) (by simp; omega)
  exact key t [] [] rfl (by simp)
end Go.Proofs.Ytiddgglidkbipaa.L

/- The laws' marks on lists of texts: what they write, and that it is found again. No condition. -/
set_option linter.unusedSimpArgs false
set_option linter.unusedVariables false
namespace Go.Proofs.Ytiddgglidkbipaa.L
open Go.RowKit Go.Proofs.YtiddgglidkbipaaW.PrintWords Go.Proofs.YtiddgglidkbipaaW.PrintLast Go.Proofs.Ytiddgglidkbipaa.Q
theorem strOfNums_size (n : Int) : (strOfNums [n]).size = 1 := rfl
theorem mark_loop : ∀ (d : Nat) (k : Nat) (i : Int) (s : ByteArray), 0 ≤ i → i < 10 ^ d → i < 9223372036854775808 → d < k → s.size + d + 1 ≤ 9223372036854775807 → ∃ t, laws_markText.l0 k i s = some t := by
  intro d
  induction d with
  | zero =>
    intro k i s h0 h1 hb hk hs
    obtain ⟨k, rfl⟩ : ∃ m, k = m + 1 := ⟨k - 1, by omega⟩
    simp only [laws_markText.l0]
    rw [if_neg (by simp at h1; omega), if_pos (by omega)]
    exact ⟨_, rfl⟩
  | succ d ih =>
    intro k i s h0 h1 hb hk hs
    obtain ⟨k, rfl⟩ : ∃ m, k = m + 1 := ⟨k - 1, by omega⟩
    simp only [laws_markText.l0, Option.bind_some]
    by_cases hi : i > 0
    · rw [if_pos hi, if_pos (by rw [strOfNums_size]; omega)]
      have hd : Int.tdiv i 10 = i / 10 := Int.tdiv_eq_ediv_of_nonneg h0
      have hq : 0 ≤ i / 10 ∧ i / 10 ≤ i := ⟨by omega, by omega⟩
      rw [hd, wrap_id (by omega) (by omega)]
      refine ih k _ _ hq.1 ?_ (by omega) (by omega) ?_
      · rw [Int.pow_succ] at h1; omega
      · rw [ByteArray.size_append, strOfNums_size]; omega
    · rw [if_neg hi, if_pos (by omega)]
      exact ⟨_, rfl⟩
theorem mark_some {i : Int} (h0 : 0 ≤ i) (h1 : i < 1152921504606846976) : ∃ t, ∀ k, 32 ≤ k → laws_markText.f k i = some t := by
  have h : ∃ t, laws_markText.f 32 i = some t := by
    unfold laws_markText.f
    by_cases e : i ≤ 0
    · rw [if_pos e]; exact ⟨_, rfl⟩
    · rw [if_neg e]
      exact mark_loop 19 32 i _ h0 (by omega) (by omega) (by omega) (by show 0 + 19 + 1 ≤ _; omega)
  obtain ⟨t, ht⟩ := h
  exact ⟨t, fun k hk => at_rounds (fun k => laws_markText.mono i k) hk ht⟩
noncomputable def mt (i : Int) : ByteArray := by
  classical
  exact if h : 0 ≤ i ∧ i < 1152921504606846976 then Classical.choose (mark_some h.1 h.2) else ⟨#[]⟩
theorem mt_spec {i : Int} (h0 : 0 ≤ i) (h1 : i < 1152921504606846976) {k : Nat} (hk : 32 ≤ k) : laws_markText.f k i = some (mt i) := by
  unfold mt
  rw [dif_pos ⟨h0, h1⟩]
  exact Classical.choose_spec (mark_some h0 h1) k hk
theorem mt_ev {i : Int} (h0 : 0 ≤ i) (h1 : i < 1152921504606846976) : Ev (fun k => laws_markText.f k i) (mt i) := ⟨32, fun _ hk => mt_spec h0 h1 hk⟩
noncomputable def marks : Nat → Int → List ByteArray
  | 0, _ => []
  | n + 1, i => mt i :: marks n (i + 1)
theorem marks_length (n : Nat) (i : Int) : (marks n i).length = n := by
  induction n generalizing i with
  | zero => rfl
  | succ n ih => simp [marks, ih]
theorem markS {l : List ByteArray} (hl : l.length ≤ 1048576) {a : Int} (h0 : 0 ≤ a) (h1 : a ≤ 70368744177664) : Ev (fun k => laws_markStringS.f k l a) (a + l.length, marks l.length a) := by
  have key : ∀ (suf pre : List ByteArray) (x : List ByteArray) (i : Int), x = pre ++ suf → x.length ≤ 1048576 → 0 ≤ i → i + suf.length ≤ 70368745226240 → Ev (fun k => laws_markStringS.l0 k x i pre.length) (i + suf.length, pre ++ marks suf.length i) := by
    intro suf
    induction suf with
    | nil =>
      intro pre x i h hx h0 h1
      refine Ev.step (fun k => laws_markStringS.l0.eq_2 ..) ?_
      simp only [if_neg (end_at h)]
      rw [List.append_nil] at h
      rw [h]
      simp only [List.length_nil, Int.natCast_zero, Int.add_zero, marks, List.append_nil]
      exact Ev.now _
    | cons b suf ih =>
      intro pre x i h hx h0 h1
      rw [List.length_cons] at h1
      refine Ev.step (fun k => laws_markStringS.l0.eq_2 ..) ?_
      simp only [if_pos (lt_at h)]
      refine Ev.bind (mt_ev h0 (by omega)) ?_
      simp only [if_pos (nonneg_at _), set_at h, next_at h (show x.length ≤ maxLen by rw [maxLen_eq]; omega), wrap_id (x := i + 1) (by omega) (by omega)]
      have := ih (pre ++ [mt i]) (pre ++ [mt i] ++ suf) (i + 1) rfl (by rw [h] at hx; simpa using hx) (by omega) (by omega)
      rw [show (pre ++ [b]).length = (pre ++ [mt i]).length by simp]
      refine ev_cast this ?_
      simp only [List.length_cons, marks, Prod.mk.injEq]
      exact ⟨by omega, by simp⟩
  have := key l [] l a rfl hl h0 (by omega)
  simpa [laws_markStringS.f] using this
theorem heldS {n : Nat} (hn : n ≤ 1048576) {a : Int} (h0 : 0 ≤ a) (h1 : a ≤ 70368744177664) : Ev (fun k => laws_heldStringS.f k (marks n a) a) (a + n) := by
  have key : ∀ (m : Nat) (pre x : List ByteArray) (i : Int), x = pre ++ marks m i → x.length ≤ 1048576 → 0 ≤ i → i + m ≤ 70368745226240 → Ev (fun k => laws_heldStringS.l0 k x i pre.length) (i + m) := by
    intro m
    induction m with
    | zero =>
      intro pre x i h hx h0 h1
      refine Ev.step (fun k => laws_heldStringS.l0.eq_2 ..) ?_
      simp only [if_neg (end_at h)]
      exact ev_cast (Ev.now _) (by simp)
    | succ m ih =>
      intro pre x i h hx h0 h1
      simp only [marks] at h
      refine Ev.step (fun k => laws_heldStringS.l0.eq_2 ..) ?_
      simp only [if_pos (lt_at h), if_pos (nonneg_at _)]
      refine Ev.bind (mt_ev h0 (by omega)) ?_
      simp only [rd_at _ h, if_true, next_at h (show x.length ≤ maxLen by rw [maxLen_eq]; omega), wrap_id (x := i + 1) (by omega) (by omega)]
      refine ev_cast (ih (pre ++ [mt i]) x (i + 1) (snoc_at h) hx (by omega) (by omega)) ?_
      omega
  exact key n [] _ a rfl (by rw [marks_length]; exact hn) h0 (by omega)
end Go.Proofs.Ytiddgglidkbipaa.L

/- Marks that are found again: a loop that marks, a loop that looks. No condition. -/
set_option linter.unusedSimpArgs false
set_option linter.unusedVariables false
namespace Go.Proofs.Ytiddgglidkbipaa.L
open Go.RowKit Go.Proofs.YtiddgglidkbipaaW.PrintWords Go.Proofs.YtiddgglidkbipaaW.PrintLast Go.Proofs.Ytiddgglidkbipaa.Q
def MH {α : Type} (mk : Nat → List α → Int → Option (Int × List α)) (hd : Nat → List α → Int → Option Int) (l : List α) (i C : Int) : Prop :=
  ∃ n l', l'.length = l.length ∧ i ≤ n ∧ n ≤ i + C ∧ Ev (fun k => mk k l i) (n, l') ∧ Ev (fun k => hd k l' i) n
theorem mh_loop {α : Type} (mk : Nat → List α → Int → Int → Option (Int × List α)) (hd : Nat → List α → Int → Int → Option Int) (P : α → Prop) (C : Int) (hC : 0 ≤ C)
    (me : ∀ (x : List α) i, Ev (fun k => mk k x i x.length) (i, x)) (he : ∀ (y : List α) i, Ev (fun k => hd k y i y.length) i)
    (st : ∀ a i, P a → 0 ≤ i → i + C ≤ 70368744177664 → ∃ n a', i ≤ n ∧ n ≤ i + C ∧
      (∀ x pre suf, x = pre ++ a :: suf → x.length ≤ 1048576 → ∀ r, Ev (fun k => mk k (pre ++ a' :: suf) n ((pre ++ [a']).length : Int)) r → Ev (fun k => mk k x i (pre.length : Int)) r) ∧
      (∀ y pre suf, y = pre ++ a' :: suf → y.length ≤ 1048576 → ∀ r, Ev (fun k => hd k y n ((pre ++ [a']).length : Int)) r → Ev (fun k => hd k y i (pre.length : Int)) r)) :
    ∀ (suf : List α) (i : Int), (∀ a ∈ suf, P a) → 0 ≤ i → i + C * suf.length ≤ 70368744177664 → ∃ n suf', suf'.length = suf.length ∧ i ≤ n ∧ n ≤ i + C * suf.length ∧
      (∀ pre : List α, (pre ++ suf).length ≤ 1048576 → Ev (fun k => mk k (pre ++ suf) i pre.length) (n, pre ++ suf')) ∧ (∀ pre : List α, (pre ++ suf').length ≤ 1048576 → Ev (fun k => hd k (pre ++ suf') i pre.length) n) := by
  intro suf
  induction suf with
  | nil =>
    intro i _ h0 h1
    refine ⟨i, [], rfl, Int.le_refl _, by simp, fun pre _ => ?_, fun pre _ => ?_⟩
    · have := me pre i; simpa using this
    · have := he pre i; simpa using this
  | cons a suf ih =>
    intro i hP h0 h1
    have hm : C * ((a :: suf).length : Int) = C * suf.length + C := by rw [List.length_cons, Int.natCast_add, Int.mul_add]; simp
    have hp : 0 ≤ C * (suf.length : Int) := Int.mul_nonneg hC (Int.natCast_nonneg _)
    rw [hm] at h1 ⊢
    obtain ⟨n, a', hn0, hn1, hmk, hhd⟩ := st a i (hP a (by simp)) h0 (by omega)
    obtain ⟨n2, suf', hl, hn2, hn3, hmk2, hhd2⟩ := ih n (fun x hx => hP x (by simp [hx])) (by omega) (by omega)
    refine ⟨n2, a' :: suf', by simp [hl], by omega, by omega, fun pre hpre => ?_, fun pre hpre => ?_⟩
    · refine hmk _ pre suf rfl hpre _ ?_
      have := hmk2 (pre ++ [a']) (by simp at hpre ⊢; omega)
      simpa using this
    · refine hhd _ pre suf' rfl hpre _ ?_
      have := hhd2 (pre ++ [a']) (by simp at hpre ⊢; omega)
      simpa using this
theorem mhS {l : List ByteArray} (hl : l.length ≤ 1048576) {i : Int} (h0 : 0 ≤ i) (h1 : i + 1048576 ≤ 70368744177664) : MH laws_markStringS.f laws_heldStringS.f l i 1048576 := by
  refine ⟨i + l.length, marks l.length i, marks_length _ _, by omega, by omega, ?_, ?_⟩
  · exact markS hl h0 (by omega)
  · exact heldS hl h0 (by omega)
end Go.Proofs.Ytiddgglidkbipaa.L

/- Marks on locks, found again. No condition. -/
set_option linter.unusedSimpArgs false
set_option linter.unusedVariables false
namespace Go.Proofs.Ytiddgglidkbipaa.L
open Go.RowKit Go.Proofs.YtiddgglidkbipaaW.PrintWords Go.Proofs.YtiddgglidkbipaaW.PrintLast Go.Proofs.Ytiddgglidkbipaa.Q
theorem mhLock {l : List S28} (hl : SmLocks l) {i : Int} (h0 : 0 ≤ i) (h1 : i + 1099515822080 ≤ 70368744177664) : MH laws_markLockS.f laws_heldLockS.f l i 1099515822080 := by
  have hl0 := hl.1
  obtain ⟨n, l', e0, e1, e2, e3, e4⟩ := mh_loop (fun k x i j => laws_markLockS.l0 k x i j) (fun k x i j => laws_heldLockS.l0 k x i j) SmLock 1048580 (by omega)
    (fun x i => by
      refine Ev.step (fun k => laws_markLockS.l0.eq_2 ..) ?_
      simp only [Int.lt_irrefl, if_false]; exact Ev.now _)
    (fun x i => by
      refine Ev.step (fun k => laws_heldLockS.l0.eq_2 ..) ?_
      simp only [Int.lt_irrefl, if_false]; exact Ev.now _)
    (fun a i ha h0 h1 => by
      have g1 := ha.2.1
      have w0 : wrap64 (i + 1) = i + 1 := wrap_id (by omega) (by omega)
      obtain ⟨n1, p', _, a1, a2, a3, a4⟩ := mhS g1.1 (i := i + 1) (by omega) (by omega)
      have w1 : wrap64 (n1 + 1) = n1 + 1 := wrap_id (by omega) (by omega)
      have w2 : wrap64 (n1 + 1 + 1) = n1 + 1 + 1 := wrap_id (by omega) (by omega)
      have w3 : wrap64 (n1 + 1 + 1 + 1) = n1 + 1 + 1 + 1 := wrap_id (by omega) (by omega)
      refine ⟨n1 + 1 + 1 + 1, ⟨i, p', (n1.tmod 3 == 0), ((n1 + 1).tmod 3 == 0), n1 + 1 + 1⟩, by omega, by omega, fun x pre suf h hx r hr => ?_, fun y pre suf h hy r hr => ?_⟩
      · have hx2 : x.length ≤ maxLen := by rw [maxLen_eq]; omega
        refine Ev.step (fun k => laws_markLockS.l0.eq_2 ..) ?_
        simp only [if_pos (lt_at h), if_pos (nonneg_at _), rd_implLock h, w0]
        refine Ev.bind a3 ?_
        simp only [w1, w2, w3, set_at h, next_at h hx2]
        simpa using hr
      · have hy2 : y.length ≤ maxLen := by rw [maxLen_eq]; omega
        refine Ev.step (fun k => laws_heldLockS.l0.eq_2 ..) ?_
        simp only [if_pos (lt_at h), if_pos (nonneg_at _), rd_implLock h, if_true, w0]
        refine Ev.bind a4 ?_
        simp only [if_neg (show ¬ n1 < 0 by omega), bne_self_eq_false, Bool.false_eq_true, if_false, if_true, w1, w2, w3, next_at h hy2]
        simpa using hr) l i hl.2 h0 (by omega)
  refine ⟨n, l', e0, e1, by omega, ?_, ?_⟩
  · exact e3 [] (by simpa using hl.1)
  · exact e4 [] (by simp; omega)
end Go.Proofs.Ytiddgglidkbipaa.L
