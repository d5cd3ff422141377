import Derived.Test.YtbgggcgjijljkaaVMoveTreeG24
set_option maxHeartbeats 8000000
set_option maxRecDepth 100000
namespace Go.Proofs.Ytbgggcgjijljkaa.Q
open Go.RowKit Go.Proofs.YtbgggcgjijljkaaW.PrintWords Go.Proofs.YtbgggcgjijljkaaW.PrintLast Go.Proofs.YtbgggcgjijljkaaW.PrintMore
attribute [local go_sem] max2_int min2_int max_two min_two max_three min_three max_four min_four
set_option linter.unusedVariables false
set_option linter.unusedSimpArgs false
def laws_toPropS.l0 : Nat -> List (S88) -> List (S72) -> Int -> Option ((List (S72)))
 | 0, _, _, _ => none
 | k + 1, x0, x3, x4 => if x4 < (x0.length : Int) then (if 0 <= x4 then ((laws_toProp.f ((rd_T88 x0 x4).f0) ((rd_T88 x0 x4).f1) ((rd_T88 x0 x4).f2)).bind fun bt244 => (if x4 < (x3.length : Int) then (laws_toPropS.l0 k x0 (x3.set (x4 : Int).toNat (⟨bt244.1, bt244.2.1, bt244.2.2⟩ : S72)) (wrap64 (x4 + 1))) else (none))) else (none)) else (some x3)
def laws_toPropS.f (k : Nat) (l0 : List (S88)) : Option ((List (S72))) := if 0 <= (l0.length : Int) then (if ((l0.length : Int) : Int).toNat <= 5864062014805 then (laws_toPropS.l0 k l0 (List.replicate ((l0.length : Int) : Int).toNat z72) 0) else (none)) else (none)
theorem laws_toPropS.calls (k : Nat) (A0 : Option Addr) (c0 : Nat) (l0 : List (S88)) (r : List (S72)) (w : World) (hr0 : Kd.C k88 w A0 l0.length l0) (hc0 : l0.length <= c0) (h : laws_toPropS.f k l0 = some r) :
 Calls Try.prog 107 #[.slice A0 l0.length c0] w fun e w' => ∃ v0_ : Value, e = .returned (v0_) /\ Kd.R k72 72 w' w.heap.size (fun _ => True) v0_ r /\ Below w.heap.size w w' := by
 have hu88 := Try.underlying88
 have hu72 := Try.underlying72
 have HR0 := A_ hr0
 clear hr0 hc0
 have HB := A_ (Below.refl w.heap.size w)
 have H : (if 0 <= (l0.length : Int) then (if ((l0.length : Int) : Int).toNat <= 5864062014805 then (laws_toPropS.l0 k l0 (List.replicate ((l0.length : Int) : Int).toNat z72) 0) else (none)) else (none)) = some r := h
 clear h
 by_cases c2 : 0 <= (l0.length : Int)
 rotate_left
 . exact absurd H (by rw [if_neg c2]; simp)
 rw [if_pos c2] at H
 have c2b0 := eq_true c2
 have c2b1 := decide_eq_true c2
 clear c2
 by_cases c3 : ((l0.length : Int) : Int).toNat <= 5864062014805
 rotate_left
 . exact absurd H (by rw [if_neg c3]; simp)
 rw [if_pos c3] at H
 have c3b0 := eq_true c3
 have c3b1 := decide_eq_true c3
 clear c3
 obtain ⟨y15, hy15⟩ : ∃ y_ : List (S72), y_ = (List.replicate ((l0.length : Int) : Int).toNat z72) := ⟨_, rfl⟩
 replace H : (laws_toPropS.l0 k l0 y15 0) = some r := hy_ hy15 H
 have Ny15 := A_ hy15
 clear hy15
 have H' := A_ H
 clear H
 go_enter Try.func107, Try.ntmps107
 go_wp2_with (first | ((with_reducible refine gd_ (N := 7) rfl ?_); refine Kd.R_make k72 _ 72 rfl (N := 7) rfl 55 _ _ rfl (l0.length : Int) rfl rfl Try.underlying55 (.agg #[(.string ⟨#[]⟩), (.string ⟨#[]⟩), (.string ⟨#[]⟩)]) 48 info72 rfl (by decide) (by omega) z72 (ok := fun _ => True) (okp := fun _ => True) (k72_mkM _ _ _ z72 ) (fun _ hk => hk) trivial od_ (Nat.le_trans (Nat.mul_le_mul_right _ (od_ : (l0.length : Int).toNat <= 5864062014805)) (by omega)) (Below.refl _ _) (Nat.le_refl _) ?_; intro v20 w4 ho5 hb hg_ hnew_; clear hg_ hnew_; (first | rw [← Ny15.out] at ho5 | (simp only [Int.reduceToNat] at ho5; rw [← Ny15.out] at ho5)); have HO21 := A_ (Kd.R_lower ho5 (below_size bB_)); replace HB := A_ (below_step bB_ hb); clear hb ho5))
 go_loopg [4] k (fun kq v4 w' => ∃ (x3_1 : List (S72)) (x4_1 : Int), v4 = .int .i64 x4_1 /\ Aside0 (laws_toPropS.l0 kq l0 x3_1 x4_1 = some r) /\ Aside0 (kq <= k) /\ Aside0 (Kd.R k72 72 w' w.heap.size (fun _ => True) v20 x3_1) /\ Aside0 (Below w.heap.size w w'))
 case atStart => exact ⟨(y15), (0), rs_, H', ⟨Nat.le_refl _⟩, ⟨vR_ HO21.out⟩, ⟨bB_⟩⟩
 case round =>
  clear H'
  try clear c2
  try clear c2b0
  try clear c2b1
  try clear c3
  try clear c3b0
  try clear c3b1
  obtain ⟨x3_1, x4_1, rfl, HA, HK1, HO_3, HB⟩ := hrel
  cases gk with
  | zero => exact absurd HA.out (by simp [laws_toPropS.l0])
  | succ k1 =>
   have H := HA.out
   clear HA
   simp only [laws_toPropS.l0] at H
   by_cases c6 : x4_1 < (l0.length : Int)
   rotate_left
   . rw [if_neg c6] at H
     have c6b0 := decide_eq_false c6
     clear c6
     obtain rfl := si_ H
     go_wp2
     go_ret
     exact ⟨_, rr_, vR_ HO_3.out, bB_⟩
   rw [if_pos c6] at H
   have c6b0 := decide_eq_true c6
   clear c6
   by_cases c7 : 0 <= x4_1
   rotate_left
   . exact absurd H (by rw [if_neg c7]; simp)
   rw [if_pos c7] at H
   have c7b0 := decide_eq_true c7
   clear c7
   obtain ⟨⟨t17, t18, t19⟩, A8, H⟩ := bo_ H
   (try dsimp only at H)
   by_cases c9 : x4_1 < (x3_1.length : Int)
   rotate_left
   . exact absurd H (by rw [if_neg c9]; simp)
   rw [if_pos c9] at H
   have c9b0 := decide_eq_true c9
   clear c9
   obtain ⟨y16, hy16⟩ : ∃ y_ : List (S72), y_ = (x3_1.set (x4_1 : Int).toNat (⟨t17, t18, t19⟩ : S72)) := ⟨_, rfl⟩
   replace H : (laws_toPropS.l0 k1 l0 y16 (wrap64 (x4_1 + 1))) = some r := hy_ hy16 H
   have Ny16 := A_ hy16
   clear hy16
   have H' := A_ H
   clear H
   have p14 : 0 <= (x4_1 : Int) := od_
   have q14 : x4_1 < (l0.length : Int) := od_
   obtain ⟨ad14, e14, hx14_0, hx14_1, hx14_2⟩ := at_T88 HR0.out x4_1 p14 q14
   cases e14
   replace hx14_0 := bc_ HB.out hx14_0
   replace hx14_1 := bc_ HB.out hx14_1
   replace hx14_2 := bc_ HB.out hx14_2
   replace p14 := eq_true p14
   replace q14 := eq_true q14
   go_wp2_with (first | ((with_reducible refine gc_ (f := 113) rfl ?_); refine gL_ (some 20) Try.func113 #[.agg #[.string ((rd_T88 l0 x4_1).f0), .string ((rd_T88 l0 x4_1).f1), .string ((rd_T88 l0 x4_1).f2)]] ?_; (with_reducible refine (laws_toProp.calls ((rd_T88 l0 x4_1).f0) ((rd_T88 l0 x4_1).f1) ((rd_T88 l0 x4_1).f2) t17 t18 t19 _ A8.out).mono ?_); rintro e w11 ⟨rfl, hb⟩; refine ⟨_, rfl, ?_⟩; replace HO_3 := A_ (Kd.R_below (vR_ HO_3.out) hb); replace HB := A_ (below_step bB_ hb); clear hb; have p10 : 0 <= (x4_1 : Int) := od_; have q10 : (x4_1 : Int) < ((x3_1.length : Int) : Int) := od_; obtain ⟨go10, co10, eo10, gb10, gl10, cl10, HG10⟩ := Kd.R_form HO_3.out (by omega); (first | cases eo10 | (injection eo10 with ea_ en_ ec_; (first | subst ea_ | (injection ea_ with ea_; subst ea_)); subst ec_; clear en_)); have GB10 := A_ gb10; have GG10 := A_ HG10; clear gb10 gl10 HG10; obtain ⟨ce10, hcl10, hM10, hcc10, hfr10⟩ := Kd.R_elem HO_3.out z72 (x4_1 : Int) p10 q10; obtain rfl := k72_openM hM10; have hx10_0 : w11.cell? ⟨go10, (x4_1 : Int).toNat * 3, none⟩ = some (.string ((rd_T72 x3_1 x4_1).f0)) := hcc10 0 _ rfl; have hx10_1 : w11.cell? ⟨go10, (x4_1 : Int).toNat * 3 + 1, none⟩ = some (.string ((rd_T72 x3_1 x4_1).f1)) := hcc10 1 _ rfl; have hx10_2 : w11.cell? ⟨go10, (x4_1 : Int).toNat * 3 + 2, none⟩ = some (.string ((rd_T72 x3_1 x4_1).f2)) := hcc10 2 _ rfl; have hf10_0 : w11.frozen? ⟨go10, (x4_1 : Int).toNat * 3, none⟩ = false := hfr10 0; have hf10_1 : w11.frozen? ⟨go10, (x4_1 : Int).toNat * 3 + 1, none⟩ = false := hfr10 1; have hf10_2 : w11.frozen? ⟨go10, (x4_1 : Int).toNat * 3 + 2, none⟩ = false := hfr10 2; (try clear hcl10); (try clear hcc10); (try clear hfr10); (try clear hM10); replace p10 := eq_true p10; replace q10 := eq_true q10; have HX12 := A_ (show Kd.R k72 72 w11 w.heap.size (fun _ => True) (.slice (some ⟨go10, 0, none⟩) x3_1.length co10) x3_1 from (vR_ HO_3.out)); obtain ⟨ce12, hcl12, hM12, hcc12, hfr12⟩ := Kd.R_elem HX12.out z72 (x4_1 : Int) od_ (by have h_ : (x4_1 : Int) < ((x3_1.length : Int) : Int) := od_; first | exact h_ | (have e_ := (Kd.R_reads' HO_3.out).1; omega) | simpa using h_); obtain rfl := k72_openM hM12; have HP12 := Kd.R_seg HX12.out (x4_1 : Int) od_ (by have h_ : (x4_1 : Int) < ((x3_1.length : Int) : Int) := od_; first | exact h_ | (have e_ := (Kd.R_reads' HO_3.out).1; omega) | simpa using h_) (seg := [.string t17, .string t18, .string t19]) (j := 0) hcl12 hcc12 (show 3 <= 3 from by decide) (x' := (⟨t17, t18, t19⟩ : S72)) (k72_mkM _ _ _ (⟨t17, t18, t19⟩ : S72) ) (fun _ hk => hk); have hx12_0 := hcc12 0 _ rfl; (try simp only [show (k72).sz = 3 from rfl, Nat.mul_one, Nat.add_zero] at hx12_0); have hf12_0 := hfr12 0; (try simp only [show (k72).sz = 3 from rfl, Nat.mul_one, Nat.add_zero] at hf12_0); have hx12_1 := hcc12 1 _ rfl; (try simp only [show (k72).sz = 3 from rfl, Nat.mul_one, Nat.add_zero] at hx12_1); have hf12_1 := hfr12 1; (try simp only [show (k72).sz = 3 from rfl, Nat.mul_one, Nat.add_zero] at hf12_1); have hx12_2 := hcc12 2 _ rfl; (try simp only [show (k72).sz = 3 from rfl, Nat.mul_one, Nat.add_zero] at hx12_2); have hf12_2 := hfr12 2; (try simp only [show (k72).sz = 3 from rfl, Nat.mul_one, Nat.add_zero] at hf12_2); (try clear hcl12); (try clear hcc12); (try clear hfr12); (try clear hM12)) | ((with_reducible refine gate_store (t := 72) (p := 21) rfl ?_); refine store_event (t := 72) (p := 21) (v := ?vo_w13) (w1 := (((w11.setCell ⟨go10, (x4_1 : Int).toNat * 3, none⟩ (.string t17)).setCell ⟨go10, (x4_1 : Int).toNat * 3 + 1, none⟩ (.string t18)).setCell ⟨go10, (x4_1 : Int).toNat * 3 + 2, none⟩ (.string t19))) ?hg ?ho ?hn ?hr ?_; (case ho => rfl); (case hg => rfl); (case hn => rfl); (case hr => first | (go_simp; done) | (go_simp; rfl)); intro w13 hw; have hg : w11.grownBy w13 (some go10) := (by rw [hw]; exact HP12.2); have hp_ : Kd.R k72 72 w13 w.heap.size (fun _ => True) (.slice (some ⟨go10, 0, none⟩) x3_1.length co10) y16 := (by rw [hw, Ny16.out]; exact HP12.1); clear HP12; replace HO_3 := A_ (hp_); replace HB := A_ ((by rw [hw]; exact below_set (below_set (below_set (HB.out) GB10.out) GB10.out) GB10.out : Below w.heap.size w w13)); clear hg hw hp_))
   go_roundg k1
   case measure => have := HK1.out; omega
   case rel => exact ⟨(y16), (wrap64 (x4_1 + 1)), rs_, H', ⟨by have := HK1.out; omega⟩, ⟨vR_ HO_3.out⟩, ⟨bB_⟩⟩
def laws_toRes.f (k : Nat) (l0_0 : List ByteArray) (a0_1 : Bool) (a0_2 : ByteArray) (a0_3 : Int) (l0_4 : List (S88)) : Option (List ByteArray × Bool × ByteArray × Int × (List (S72))) := (laws_toStringS.f k l0_0).bind fun t251 => ((laws_toPropS.f k l0_4).bind fun t254 => (some (t251, a0_1, a0_2, a0_3, t254)))
theorem laws_toRes.calls (k : Nat) (A0_0 : Option Addr) (c0_0 : Nat) (l0_0 : List ByteArray) (a0_1 : Bool) (a0_2 : ByteArray) (a0_3 : Int) (A0_4 : Option Addr) (c0_4 : Nat) (l0_4 : List (S88)) (r1 : List ByteArray) (r2 : Bool) (r3 : ByteArray) (r4 : Int) (r5 : List (S72)) (w : World) (hr0_0 : Kd.C Kd.string w A0_0 l0_0.length l0_0) (hc0_0 : l0_0.length <= c0_0) (hr0_4 : Kd.C k88 w A0_4 l0_4.length l0_4) (hc0_4 : l0_4.length <= c0_4) (h : laws_toRes.f k l0_0 a0_1 a0_2 a0_3 l0_4 = some (r1, r2, r3, r4, r5)) :
 Calls Try.prog 64 #[.agg #[.slice A0_0 l0_0.length c0_0, .bool a0_1, .string a0_2, .int .i64 a0_3, .slice A0_4 l0_4.length c0_4]] w fun e w' => ∃ v0_ v4_ : Value, e = .returned (.agg #[v0_, .bool r2, .string r3, .int .i64 r4, v4_]) /\ Kd.R Kd.string 9 w' w.heap.size (fun _ => True) v0_ r1 /\ Kd.R k72 72 w' w.heap.size (fun _ => True) v4_ r5 /\ Below w.heap.size w w' := by
 have hu79 := Try.underlying79
 have hu57 := Try.underlying57
 have HR0_0 := A_ hr0_0
 have HC0_0 := A_ hc0_0
 clear hr0_0 hc0_0
 have HR0_4 := A_ hr0_4
 have HC0_4 := A_ hc0_4
 clear hr0_4 hc0_4
 have HB := A_ (Below.refl w.heap.size w)
 have H : ((laws_toStringS.f k l0_0).bind fun t22 => ((laws_toPropS.f k l0_4).bind fun t23 => (some (t22, a0_1, a0_2, a0_3, t23)))) = some (r1, r2, r3, r4, r5) := h
 clear h
 obtain ⟨t22, A2, H⟩ := bo_ H
 (try dsimp only at H)
 obtain ⟨t23, A3, H⟩ := bo_ H
 (try dsimp only at H)
 simp only [Option.some.injEq, Prod.mk.injEq] at H
 obtain ⟨rfl, rfl, rfl, rfl, rfl⟩ := H
 go_enter Try.func64, Try.ntmps64
 go_wp2_with (first | ((with_reducible refine gd_ (N := 1) rfl ?_); refine bx_ (N := 1) (cs := #[.slice A0_0 l0_0.length c0_0, .bool a0_1, .string a0_2, .int .i64 a0_3, .slice A0_4 l0_4.length c0_4]) (t := 79) ?_; intro gb20 hg w4 hbox hb; have BK20 := A_ (hbox); have GW20 := A_ (ge_ hg bB_ : w.heap.size <= gb20); have GE20 := A_ (ge_ hg bB_ : w.heap.size <= gb20); replace HB := A_ (below_step bB_ hb); clear hb hbox hg) | ((with_reducible refine gd_ (N := 2) rfl ?_); refine bx_ (N := 2) (cs := #[.slice none 0 0, .bool false, .string (⟨#[]⟩ : ByteArray), .int .i64 0, .slice none 0 0]) (t := 57) ?_; intro gb19 hg w5 hbox hb; have BK19 := A_ (hbox); have GW19 := A_ (ge_ hg (bG_ GE20.out) : w.heap.size <= gb19); have GE19 := A_ (ge_ hg (bG_ GE20.out) : w.heap.size <= gb19); replace HB := A_ (below_step (bG_ GE20.out) hb); have NB248_249 := A_ (gm_ hg BK20.out); have NB249_248 := A_ (gn_ hg BK20.out); replace BK20 := A_ (bw_ BK20.out hb); clear hb hbox hg) | ((with_reducible refine gd_ (N := 3) rfl ?_); refine bx_ (N := 3) (cs := #[.slice none 0 0, .bool false, .string (⟨#[]⟩ : ByteArray), .int .i64 0, .slice none 0 0]) (t := 57) ?_; intro gb21 hg w6 hbox hb; have BK21 := A_ (hbox); have GW21 := A_ ((by rw [hg]; exact (below_size (by repeat (first | (with_reducible first | exact HB.out | apply below_alloc | apply pw_below_drewN | apply below_drew1 | refine below_set ?_ GE20.out | refine below_set ?_ GE19.out) | exact HB.out))) : w.heap.size <= gb21)); have GE21 := A_ ((by rw [hg]; exact (below_size (by repeat (first | (with_reducible first | exact HB.out | apply below_alloc | apply pw_below_drewN | apply below_drew1 | refine below_set ?_ GE20.out | refine below_set ?_ GE19.out) | exact HB.out))) : w.heap.size <= gb21)); replace HB := A_ (below_step (by repeat (first | (with_reducible first | exact HB.out | apply below_alloc | apply pw_below_drewN | apply below_drew1 | refine below_set ?_ GE20.out | refine below_set ?_ GE19.out) | exact HB.out)) hb); have NB248_250 := A_ (gm_ hg BK20.out); have NB250_248 := A_ (gn_ hg BK20.out); replace BK20 := A_ (bw_ BK20.out hb); have NB249_250 := A_ (gm_ hg BK19.out); have NB250_249 := A_ (gn_ hg BK19.out); replace BK19 := A_ (bw_ BK19.out hb); clear hb hbox hg; have hnb7 := NB248_249.out; have hnc7 := NB249_248.out; have hnb8 := NB248_250.out; have hnc8 := NB250_248.out; obtain ⟨hcz9_0, hcz9_1, hcz9_2, hcz9_3, hcz9_4, hfz9_0, hfz9_1, hfz9_2, hfz9_3, hfz9_4⟩ := cz5_ BK20.out) | ((with_reducible refine gc_ (f := 17) rfl ?_); refine gL_ (some 6) Try.func17 #[.slice A0_0 l0_0.length c0_0] ?_; (with_reducible refine (laws_toStringS.calls k _ _ l0_0 t22 _ ?s1 ?s2 A2.out).mono ?_); (case s1 => exact cC_ (Kd.C_below HR0_0.out HB.out)); (case s2 => exact HC0_0.out); rintro e w10 ⟨v26, rfl, ho0, hb⟩; refine ⟨_, rfl, ?_⟩; have HO24 := A_ (Kd.R_lower ho0 (below_size (by repeat (first | (with_reducible first | exact HB.out | apply below_alloc | apply pw_below_drewN | apply below_drew1 | refine below_set ?_ GE20.out | refine below_set ?_ GE19.out | refine below_set ?_ GE21.out) | exact HB.out)))); replace BK20 := A_ (bw_ BK20.out hb); replace BK19 := A_ (bw_ BK19.out hb); replace BK21 := A_ (bw_ BK21.out hb); replace HB := A_ (below_step (by repeat (first | (with_reducible first | exact HB.out | apply below_alloc | apply pw_below_drewN | apply below_drew1 | refine below_set ?_ GE20.out | refine below_set ?_ GE19.out | refine below_set ?_ GE21.out) | exact HB.out)) hb); clear hb ho0; obtain ⟨Ao11, co11, eo11⟩ := Kd.R_slice HO24.out; subst eo11; have hnb12 := NB250_249.out; have hnc12 := NB249_250.out; obtain ⟨hcz13_0, hcz13_1, hcz13_2, hcz13_3, hcz13_4, hfz13_0, hfz13_1, hfz13_2, hfz13_3, hfz13_4⟩ := cz5_ BK21.out; obtain ⟨hcz14_0, hcz14_1, hcz14_2, hcz14_3, hcz14_4, hfz14_0, hfz14_1, hfz14_2, hfz14_3, hfz14_4⟩ := cz5_ BK20.out) | ((with_reducible refine gc_ (f := 107) rfl ?_); refine gL_ (some 19) Try.func107 #[.slice A0_4 l0_4.length c0_4] ?_; (with_reducible refine (laws_toPropS.calls k _ _ l0_4 t23 _ ?s1 ?s2 A3.out).mono ?_); (case s1 => exact Kd.C_below HR0_4.out (by repeat (first | (with_reducible first | exact HB.out | apply below_alloc | apply pw_below_drewN | apply below_drew1 | refine below_set ?_ GE20.out | refine below_set ?_ GE19.out | refine below_set ?_ GE21.out) | exact HB.out))); (case s2 => exact HC0_4.out); rintro e w15 ⟨v27, rfl, ho0, hb⟩; refine ⟨_, rfl, ?_⟩; replace HO24 := A_ (Kd.R_below (by (with_reducible repeat (first | apply Kd.R_alloc | apply Kd.R_drewN | apply Kd.R_drew)); exact (Kd.R_mono (Kd.R_far (p := ⟨gb21, 3, none⟩) (Kd.R_far (p := ⟨gb21, 2, none⟩) (Kd.R_far (p := ⟨gb21, 1, none⟩) (Kd.R_far (p := ⟨gb21, 0, none⟩) (Kd.R_types HO24.out BK21.out (by decide)) (fun _ hk => hk.2) (.slice Ao11 t22.length co11)) (fun _ hk => hk.2) (.bool a0_1)) (fun _ hk => hk.2) (.string a0_2)) (fun _ hk => hk.2) (.int .i64 a0_3)) (fun _ h_ => h_.1))) hb); have HO25 := A_ (Kd.R_lower ho0 (below_size (by repeat (first | (with_reducible first | exact HB.out | apply below_alloc | apply pw_below_drewN | apply below_drew1 | refine below_set ?_ GE20.out | refine below_set ?_ GE19.out | refine below_set ?_ GE21.out) | exact HB.out)))); replace BK19 := A_ (blk_below (g := gb19) (o := .cells #[.slice none 0 0, .bool false, .string (⟨#[]⟩ : ByteArray), .int .i64 0, .slice none 0 0] 57 (0, 0)) (by (with_reducible repeat (first | refine blk_drewN ?_ _ | refine blk_drew ?_ | refine blk_alloc ?_ _)); refine blk_far ?_ NB249_250.out _; (with_reducible repeat (first | refine blk_drewN ?_ _ | refine blk_drew ?_ | refine blk_alloc ?_ _)); refine blk_far ?_ NB249_250.out _; (with_reducible repeat (first | refine blk_drewN ?_ _ | refine blk_drew ?_ | refine blk_alloc ?_ _)); refine blk_far ?_ NB249_250.out _; (with_reducible repeat (first | refine blk_drewN ?_ _ | refine blk_drew ?_ | refine blk_alloc ?_ _)); refine blk_far ?_ NB249_250.out _; (with_reducible repeat (first | refine blk_drewN ?_ _ | refine blk_drew ?_ | refine blk_alloc ?_ _)); exact BK19.out) hb); replace BK21 := A_ (blk_below (g := gb21) (o := .cells #[.slice Ao11 t22.length co11, .bool a0_1, .string a0_2, .int .i64 a0_3, .slice none 0 0] 57 (0, 0)) (by (with_reducible repeat (first | refine blk_drewN ?_ _ | refine blk_drew ?_ | refine blk_alloc ?_ _)); with_reducible exact p5_0123_ (vb_ BK21.out)) hb); replace HB := A_ (below_step (by repeat (first | (with_reducible first | exact HB.out | apply below_alloc | apply pw_below_drewN | apply below_drew1 | refine below_set ?_ GE20.out | refine below_set ?_ GE19.out | refine below_set ?_ GE21.out) | exact HB.out)) hb); clear hb ho0; obtain ⟨Ao16, co16, eo16⟩ := Kd.R_slice HO25.out; subst eo16; obtain ⟨hcz17_0, hcz17_1, hcz17_2, hcz17_3, hcz17_4, hfz17_0, hfz17_1, hfz17_2, hfz17_3, hfz17_4⟩ := cz5_ BK21.out; obtain ⟨hcz18_0, hcz18_1, hcz18_2, hcz18_3, hcz18_4, hfz18_0, hfz18_1, hfz18_2, hfz18_3, hfz18_4⟩ := cz5_ BK19.out))
 refine bodyPost_ret (results_cell_row rfl _ _ gb19 57 #[.slice Ao11 t22.length co11, .bool a0_1, .string a0_2, .int .i64 a0_3, .slice Ao16 t23.length co16] (0, 0) _ rfl (by (with_reducible repeat (first | refine blk_drewN ?_ _ | refine blk_drew ?_ | refine blk_alloc ?_ _)); refine blk_put (cs := #[.slice Ao11 t22.length co11, .bool a0_1, .string a0_2, .int .i64 a0_3, .slice none 0 0]) ?_ 4 _ rfl; (with_reducible repeat (first | refine blk_drewN ?_ _ | refine blk_drew ?_ | refine blk_alloc ?_ _)); refine blk_put (cs := #[.slice Ao11 t22.length co11, .bool a0_1, .string a0_2, .int .i64 0, .slice none 0 0]) ?_ 3 _ rfl; (with_reducible repeat (first | refine blk_drewN ?_ _ | refine blk_drew ?_ | refine blk_alloc ?_ _)); refine blk_put (cs := #[.slice Ao11 t22.length co11, .bool a0_1, .string (⟨#[]⟩ : ByteArray), .int .i64 0, .slice none 0 0]) ?_ 2 _ rfl; (with_reducible repeat (first | refine blk_drewN ?_ _ | refine blk_drew ?_ | refine blk_alloc ?_ _)); refine blk_put (cs := #[.slice Ao11 t22.length co11, .bool false, .string (⟨#[]⟩ : ByteArray), .int .i64 0, .slice none 0 0]) ?_ 1 _ rfl; (with_reducible repeat (first | refine blk_drewN ?_ _ | refine blk_drew ?_ | refine blk_alloc ?_ _)); refine blk_put (cs := #[.slice none 0 0, .bool false, .string (⟨#[]⟩ : ByteArray), .int .i64 0, .slice none 0 0]) ?_ 0 _ rfl; (with_reducible repeat (first | refine blk_drewN ?_ _ | refine blk_drew ?_ | refine blk_alloc ?_ _)); refine blk_far ?_ NB249_250.out _; (with_reducible repeat (first | refine blk_drewN ?_ _ | refine blk_drew ?_ | refine blk_alloc ?_ _)); exact BK19.out) Try.underlying57 rfl (by kernel_rfl)) rfl ?_
 exact ⟨_, _, rr_, by (with_reducible repeat (first | apply Kd.R_alloc | apply Kd.R_drewN | apply Kd.R_drew)); exact Kd.R_mono (Kd.R_far (p := ⟨gb19, 4, none⟩) (Kd.R_far (p := ⟨gb19, 3, none⟩) (Kd.R_far (p := ⟨gb19, 2, none⟩) (Kd.R_far (p := ⟨gb19, 1, none⟩) (Kd.R_far (p := ⟨gb19, 0, none⟩) (Kd.R_far (p := ⟨gb21, 4, none⟩) (Kd.R_types (Kd.R_types HO24.out BK21.out (by decide)) BK19.out (by decide)) (fun _ hk => hk.1.2) (.slice Ao16 t23.length co16)) (fun _ hk => hk.2) (.slice Ao11 t22.length co11)) (fun _ hk => hk.2) (.bool a0_1)) (fun _ hk => hk.2) (.string a0_2)) (fun _ hk => hk.2) (.int .i64 a0_3)) (fun _ hk => hk.2) (.slice Ao16 t23.length co16)) (fun _ hk => trivial), by (with_reducible repeat (first | apply Kd.R_alloc | apply Kd.R_drewN | apply Kd.R_drew)); exact Kd.R_mono (Kd.R_far (p := ⟨gb19, 4, none⟩) (Kd.R_far (p := ⟨gb19, 3, none⟩) (Kd.R_far (p := ⟨gb19, 2, none⟩) (Kd.R_far (p := ⟨gb19, 1, none⟩) (Kd.R_far (p := ⟨gb19, 0, none⟩) (Kd.R_far (p := ⟨gb21, 4, none⟩) (Kd.R_types (Kd.R_types HO25.out BK21.out (by decide)) BK19.out (by decide)) (fun _ hk => hk.1.2) (.slice Ao16 t23.length co16)) (fun _ hk => hk.2) (.slice Ao11 t22.length co11)) (fun _ hk => hk.2) (.bool a0_1)) (fun _ hk => hk.2) (.string a0_2)) (fun _ hk => hk.2) (.int .i64 a0_3)) (fun _ hk => hk.2) (.slice Ao16 t23.length co16)) (fun _ hk => trivial), by repeat (first | (with_reducible first | exact HB.out | apply below_alloc | apply pw_below_drewN | apply below_drew1 | refine below_set ?_ GE20.out | refine below_set ?_ GE19.out | refine below_set ?_ GE21.out) | exact HB.out)⟩
def laws_toResS.l0 : Nat -> List (S79) -> List (S57) -> Int -> Option ((List (S57)))
 | 0, _, _, _ => none
 | k + 1, x0, x3, x4 => if x4 < (x0.length : Int) then (if 0 <= x4 then ((laws_toRes.f k ((rd_T79 x0 x4).f0) ((rd_T79 x0 x4).f1) ((rd_T79 x0 x4).f2) ((rd_T79 x0 x4).f3) ((rd_T79 x0 x4).f4)).bind fun bt261 => (if x4 < (x3.length : Int) then (laws_toResS.l0 k x0 (x3.set (x4 : Int).toNat (⟨bt261.1, bt261.2.1, bt261.2.2.1, bt261.2.2.2.1, bt261.2.2.2.2⟩ : S57)) (wrap64 (x4 + 1))) else (none))) else (none)) else (some x3)
def laws_toResS.f (k : Nat) (l0 : List (S79)) : Option ((List (S57))) := if 0 <= (l0.length : Int) then (if ((l0.length : Int) : Int).toNat <= 3518437208883 then (laws_toResS.l0 k l0 (List.replicate ((l0.length : Int) : Int).toNat z57) 0) else (none)) else (none)
theorem laws_toResS.calls (k : Nat) (A0 : Option Addr) (c0 : Nat) (l0 : List (S79)) (r : List (S57)) (w : World) (hr0 : Kd.C k79 w A0 l0.length l0) (hc0 : l0.length <= c0) (h : laws_toResS.f k l0 = some r) :
 Calls Try.prog 16 #[.slice A0 l0.length c0] w fun e w' => ∃ v0_ : Value, e = .returned (v0_) /\ Kd.S k57 57 w' w.heap.size (fun _ => True) v0_ r /\ Below w.heap.size w w' := by
 have hu79 := Try.underlying79
 have hu57 := Try.underlying57
 have HR0 := A_ hr0
 clear hr0 hc0
 have HB := A_ (Below.refl w.heap.size w)
 have H : (if 0 <= (l0.length : Int) then (if ((l0.length : Int) : Int).toNat <= 3518437208883 then (laws_toResS.l0 k l0 (List.replicate ((l0.length : Int) : Int).toNat z57) 0) else (none)) else (none)) = some r := h
 clear h
 by_cases c2 : 0 <= (l0.length : Int)
 rotate_left
 . exact absurd H (by rw [if_neg c2]; simp)
 rw [if_pos c2] at H
 have c2b0 := eq_true c2
 have c2b1 := decide_eq_true c2
 clear c2
 by_cases c3 : ((l0.length : Int) : Int).toNat <= 3518437208883
 rotate_left
 . exact absurd H (by rw [if_neg c3]; simp)
 rw [if_pos c3] at H
 have c3b0 := eq_true c3
 have c3b1 := decide_eq_true c3
 clear c3
 obtain ⟨y17, hy17⟩ : ∃ y_ : List (S57), y_ = (List.replicate ((l0.length : Int) : Int).toNat z57) := ⟨_, rfl⟩
 replace H : (laws_toResS.l0 k l0 y17 0) = some r := hy_ hy17 H
 have Ny17 := A_ hy17
 clear hy17
 have H' := A_ H
 clear H
 go_enter Try.func16, Try.ntmps16
 go_wp2_with (first | ((with_reducible refine gd_ (N := 7) rfl ?_); refine Kd.S_make k57 _ 57 rfl (N := 7) rfl 26 _ _ rfl (l0.length : Int) rfl rfl Try.underlying26 (.agg #[(.slice none 0 0), (.bool false), (.string ⟨#[]⟩), (.int .i64 0), (.slice none 0 0)]) 80 info57 rfl (by decide) (by omega) z57 (ok := fun _ => True) (okp := fun _ => True) (k57_mkM _ _ _ z57 (Kd.R_nil _ _ _ _ _) (Kd.R_nil _ _ _ _ _)) (fun _ hk => hk) trivial od_ (Nat.le_trans (Nat.mul_le_mul_right _ (od_ : (l0.length : Int).toNat <= 3518437208883)) (by omega)) (Below.refl _ _) (Nat.le_refl _) ?_; intro v26 w4 ho5 hb hg_ hnew_; clear hg_ hnew_; (first | rw [← Ny17.out] at ho5 | (simp only [Int.reduceToNat] at ho5; rw [← Ny17.out] at ho5)); have HO27 := A_ (Kd.S_lower ho5 (below_size bB_)); replace HB := A_ (below_step bB_ hb); clear hb ho5))
 go_loopg [4] k (fun kq v4 w' => ∃ (x3_1 : List (S57)) (x4_1 : Int), v4 = .int .i64 x4_1 /\ Aside0 (laws_toResS.l0 kq l0 x3_1 x4_1 = some r) /\ Aside0 (kq <= k) /\ Aside0 (Kd.S k57 57 w' w.heap.size (fun _ => True) v26 x3_1) /\ Aside0 (Below w.heap.size w w'))
 case atStart => exact ⟨(y17), (0), rs_, H', ⟨Nat.le_refl _⟩, ⟨vS_ HO27.out⟩, ⟨bB_⟩⟩
 case round =>
  clear H'
  try clear c2
  try clear c2b0
  try clear c2b1
  try clear c3
  try clear c3b0
  try clear c3b1
  obtain ⟨x3_1, x4_1, rfl, HA, HK1, HO_3, HB⟩ := hrel
  cases gk with
  | zero => exact absurd HA.out (by simp [laws_toResS.l0])
  | succ k1 =>
   have H := HA.out
   clear HA
   simp only [laws_toResS.l0] at H
   by_cases c6 : x4_1 < (l0.length : Int)
   rotate_left
   . rw [if_neg c6] at H
     have c6b0 := decide_eq_false c6
     clear c6
     obtain rfl := si_ H
     go_wp2
     go_ret
     exact ⟨_, rr_, vS_ HO_3.out, bB_⟩
   rw [if_pos c6] at H
   have c6b0 := decide_eq_true c6
   clear c6
   by_cases c7 : 0 <= x4_1
   rotate_left
   . exact absurd H (by rw [if_neg c7]; simp)
   rw [if_pos c7] at H
   have c7b0 := decide_eq_true c7
   clear c7
   obtain ⟨⟨t19, t21, t22, t23, t20⟩, A8, H⟩ := bo_ H
   (try dsimp only at H)
   by_cases c9 : x4_1 < (x3_1.length : Int)
   rotate_left
   . exact absurd H (by rw [if_neg c9]; simp)
   rw [if_pos c9] at H
   have c9b0 := decide_eq_true c9
   clear c9
   obtain ⟨y18, hy18⟩ : ∃ y_ : List (S57), y_ = (x3_1.set (x4_1 : Int).toNat (⟨t19, t21, t22, t23, t20⟩ : S57)) := ⟨_, rfl⟩
   replace H : (laws_toResS.l0 k1 l0 y18 (wrap64 (x4_1 + 1))) = some r := hy_ hy18 H
   have Ny18 := A_ hy18
   clear hy18
   have H' := A_ H
   clear H
   have p16 : 0 <= (x4_1 : Int) := od_
   have q16 : x4_1 < (l0.length : Int) := od_
   obtain ⟨ad16, A16_0, c16_0, A16_4, c16_4, e16, hx16_0, hx16_1, hx16_2, hx16_3, hx16_4, hl16_0, hi16_0, hl16_4, hi16_4⟩ := at_T79 HR0.out x4_1 p16 q16
   cases e16
   replace hx16_0 := bc_ HB.out hx16_0
   replace hx16_1 := bc_ HB.out hx16_1
   replace hx16_2 := bc_ HB.out hx16_2
   replace hx16_3 := bc_ HB.out hx16_3
   replace hx16_4 := bc_ HB.out hx16_4
   have HR16_0 := A_ hi16_0
   have HC16_0 := A_ hl16_0
   clear hi16_0 hl16_0
   have HR16_4 := A_ hi16_4
   have HC16_4 := A_ hl16_4
   clear hi16_4 hl16_4
   replace p16 := eq_true p16
   replace q16 := eq_true q16
   go_wp2_with (first | ((with_reducible refine gc_ (f := 64) rfl ?_); refine gL_ (some 20) Try.func64 #[.agg #[.slice A16_0 ((rd_T79 l0 x4_1).f0).length c16_0, .bool ((rd_T79 l0 x4_1).f1), .string ((rd_T79 l0 x4_1).f2), .int .i64 ((rd_T79 l0 x4_1).f3), .slice A16_4 ((rd_T79 l0 x4_1).f4).length c16_4]] ?_; (with_reducible refine (laws_toRes.calls k1 _ _ ((rd_T79 l0 x4_1).f0) ((rd_T79 l0 x4_1).f1) ((rd_T79 l0 x4_1).f2) ((rd_T79 l0 x4_1).f3) _ _ ((rd_T79 l0 x4_1).f4) t19 t21 t22 t23 t20 _ ?s1 ?s2 ?s3 ?s4 A8.out).mono ?_); (case s1 => exact cC_ (Kd.C_below HR16_0.out HB.out)); (case s2 => exact HC16_0.out); (case s3 => exact cC_ (Kd.C_below HR16_4.out HB.out)); (case s4 => exact HC16_4.out); rintro e w11 ⟨v28, v29, rfl, ho0, ho1, hb⟩; refine ⟨_, rfl, ?_⟩; replace HO_3 := A_ (Kd.S_mono (Kd.S_told (Kd.S_told (Kd.S_old (vS_ HO_3.out) hb) (kb_ ho0)) (kb_ ho1)) (fun _ h_ => h_.1)); have HO24 := A_ (Kd.R_lower ho0 (below_size bB_)); have HO25 := A_ (Kd.R_lower ho1 (below_size bB_)); replace HB := A_ (below_step bB_ hb); clear hb ho0 ho1; have p10 : 0 <= (x4_1 : Int) := od_; have q10 : (x4_1 : Int) < ((x3_1.length : Int) : Int) := od_; obtain ⟨go10, co10, eo10, gb10, gl10, cl10, HG10⟩ := Kd.S_form HO_3.out (by omega); (first | cases eo10 | (injection eo10 with ea_ en_ ec_; (first | subst ea_ | (injection ea_ with ea_; subst ea_)); subst ec_; clear en_)); have GB10 := A_ gb10; have GG10 := A_ HG10; clear gb10 gl10 HG10; obtain ⟨_, ce10, hcl10, hM10, hcc10, hfr10, _, _⟩ := Kd.S_elem HO_3.out z57 (x4_1 : Int) p10 q10; obtain ⟨ve10_0, ve10_4, rfl, ge10_0, ge10_4⟩ := k57_openM hM10; have hx10_0 : w11.cell? ⟨go10, (x4_1 : Int).toNat * 5, none⟩ = some (ve10_0) := hcc10 0 _ rfl; have hx10_1 : w11.cell? ⟨go10, (x4_1 : Int).toNat * 5 + 1, none⟩ = some (.bool ((rd_T57 x3_1 x4_1).f1)) := hcc10 1 _ rfl; have hx10_2 : w11.cell? ⟨go10, (x4_1 : Int).toNat * 5 + 2, none⟩ = some (.string ((rd_T57 x3_1 x4_1).f2)) := hcc10 2 _ rfl; have hx10_3 : w11.cell? ⟨go10, (x4_1 : Int).toNat * 5 + 3, none⟩ = some (.int .i64 ((rd_T57 x3_1 x4_1).f3)) := hcc10 3 _ rfl; have hx10_4 : w11.cell? ⟨go10, (x4_1 : Int).toNat * 5 + 4, none⟩ = some (ve10_4) := hcc10 4 _ rfl; have hf10_0 : w11.frozen? ⟨go10, (x4_1 : Int).toNat * 5, none⟩ = false := hfr10 0; have hf10_1 : w11.frozen? ⟨go10, (x4_1 : Int).toNat * 5 + 1, none⟩ = false := hfr10 1; have hf10_2 : w11.frozen? ⟨go10, (x4_1 : Int).toNat * 5 + 2, none⟩ = false := hfr10 2; have hf10_3 : w11.frozen? ⟨go10, (x4_1 : Int).toNat * 5 + 3, none⟩ = false := hfr10 3; have hf10_4 : w11.frozen? ⟨go10, (x4_1 : Int).toNat * 5 + 4, none⟩ = false := hfr10 4; (try clear hcl10); (try clear hcc10); (try clear hfr10); (try clear hM10); replace p10 := eq_true p10; replace q10 := eq_true q10; obtain ⟨Ao14, co14, eo14⟩ := Kd.R_slice HO24.out; subst eo14; obtain ⟨Ao15, co15, eo15⟩ := Kd.R_slice HO25.out; subst eo15; have n_ := A_ (Kd.S_mono (ok' := (fun k_ => some k_ ≠ (.slice Ao14 t19.length co14 : Value).ownBlock /\ some k_ ≠ (.slice Ao15 t20.length co15 : Value).ownBlock)) HO_3.out (fun k_ hk => ⟨hk.1.2, hk.2⟩)); clear HO_3; have HO_3 := n_; clear n_; have HX12 := A_ (show Kd.S k57 57 w11 w.heap.size (fun k_ => ((fun _ => True)) k_ /\ ¬ ((fun k_ => some k_ = (.slice Ao14 t19.length co14 : Value).ownBlock \/ some k_ = (.slice Ao15 t20.length co15 : Value).ownBlock)) k_) (.slice (some ⟨go10, 0, none⟩) x3_1.length co10) x3_1 from (by (with_reducible repeat (first | apply Kd.S_alloc | apply Kd.S_drewN | apply Kd.S_drew)); exact Kd.S_mono HO_3.out (fun k_ hk => ⟨trivial, fun e_ => e_.elim (fun h_ => hk.1 h_) (fun h_ => hk.2 h_)⟩))); obtain ⟨oki12, ce12, hcl12, hM12, hcc12, hfr12, hoki12, hH12⟩ := Kd.S_elem HX12.out z57 (x4_1 : Int) od_ (by have h_ : (x4_1 : Int) < ((x3_1.length : Int) : Int) := od_; first | exact h_ | (have e_ := (Kd.S_reads' HO_3.out).1; omega) | simpa using h_); obtain ⟨ve12_0, ve12_4, rfl, ge12_0, ge12_4⟩ := k57_openM hM12; have HP12 := Kd.S_seg hH12 od_ (by have h_ : (x4_1 : Int) < ((x3_1.length : Int) : Int) := od_; first | exact h_ | (have e_ := (Kd.S_reads' HO_3.out).1; omega) | simpa using h_) (seg := [.slice Ao14 t19.length co14, .bool t21, .string t22, .int .i64 t23, .slice Ao15 t20.length co15]) (j := 0) (show 5 <= 5 from by decide) (x' := (⟨t19, t21, t22, t23, t20⟩ : S57)) (k57_mkM _ _ _ (⟨t19, t21, t22, t23, t20⟩ : S57) (Kd.R_mono (Kd.R_tight rfl (Kd.R_mono (ok' := fun k_ => ((fun _ => True)) k_ /\ k_ ≠ go10) (Kd.R_apart' (HO24.out) (Kd.S_typed HO_3.out) (by decide)) (fun k_ hk => ⟨trivial, fun e_ => (hk.2) (by rw [e_]; rfl)⟩))) (fun _ h_ => Or.inr (Or.inl h_))) (Kd.R_mono (Kd.R_tight rfl (Kd.R_mono (ok' := fun k_ => ((fun _ => True)) k_ /\ k_ ≠ go10) (Kd.R_apart' (HO25.out) (Kd.S_typed HO_3.out) (by decide)) (fun k_ hk => ⟨trivial, fun e_ => (hk.2) (by rw [e_]; rfl)⟩))) (fun _ h_ => Or.inr (Or.inr (h_))))) (fun _ hk => hk) (fun k_ hk_ => hk_.elim (fun h_ => ((Kd.R_mono (ok' := fun k_ => ((fun _ => True)) k_ /\ k_ ≠ go10) (Kd.R_apart' (HO24.out) (Kd.S_typed HO_3.out) (by decide)) (fun k_ hk => ⟨trivial, fun e_ => (hk.2) (by rw [e_]; rfl)⟩))).1 k_ h_.symm) (fun h_ => ((Kd.R_mono (ok' := fun k_ => ((fun _ => True)) k_ /\ k_ ≠ go10) (Kd.R_apart' (HO25.out) (Kd.S_typed HO_3.out) (by decide)) (fun k_ hk => ⟨trivial, fun e_ => (hk.2) (by rw [e_]; rfl)⟩))).1 k_ h_.symm)); have hx12_0 := hcc12 0 _ rfl; (try simp only [show (k57).sz = 5 from rfl, Nat.mul_one, Nat.add_zero] at hx12_0); have hf12_0 := hfr12 0; (try simp only [show (k57).sz = 5 from rfl, Nat.mul_one, Nat.add_zero] at hf12_0); have hx12_1 := hcc12 1 _ rfl; (try simp only [show (k57).sz = 5 from rfl, Nat.mul_one, Nat.add_zero] at hx12_1); have hf12_1 := hfr12 1; (try simp only [show (k57).sz = 5 from rfl, Nat.mul_one, Nat.add_zero] at hf12_1); have hx12_2 := hcc12 2 _ rfl; (try simp only [show (k57).sz = 5 from rfl, Nat.mul_one, Nat.add_zero] at hx12_2); have hf12_2 := hfr12 2; (try simp only [show (k57).sz = 5 from rfl, Nat.mul_one, Nat.add_zero] at hf12_2); have hx12_3 := hcc12 3 _ rfl; (try simp only [show (k57).sz = 5 from rfl, Nat.mul_one, Nat.add_zero] at hx12_3); have hf12_3 := hfr12 3; (try simp only [show (k57).sz = 5 from rfl, Nat.mul_one, Nat.add_zero] at hf12_3); have hx12_4 := hcc12 4 _ rfl; (try simp only [show (k57).sz = 5 from rfl, Nat.mul_one, Nat.add_zero] at hx12_4); have hf12_4 := hfr12 4; (try simp only [show (k57).sz = 5 from rfl, Nat.mul_one, Nat.add_zero] at hf12_4); (try clear hcl12); (try clear hcc12); (try clear hfr12); (try clear hM12); (try clear hoki12); (try clear hH12)) | ((with_reducible refine gate_store (t := 57) (p := 21) rfl ?_); refine store_event (t := 57) (p := 21) (v := ?vo_w13) (w1 := (((((w11.setCell ⟨go10, (x4_1 : Int).toNat * 5, none⟩ (.slice Ao14 t19.length co14)).setCell ⟨go10, (x4_1 : Int).toNat * 5 + 1, none⟩ (.bool t21)).setCell ⟨go10, (x4_1 : Int).toNat * 5 + 2, none⟩ (.string t22)).setCell ⟨go10, (x4_1 : Int).toNat * 5 + 3, none⟩ (.int .i64 t23)).setCell ⟨go10, (x4_1 : Int).toNat * 5 + 4, none⟩ (.slice Ao15 t20.length co15))) ?hg ?ho ?hn ?hr ?_; (case ho => rfl); (case hg => rfl); (case hn => rfl); (case hr => first | (go_simp; done) | (go_simp; rfl)); intro w13 hw; have hg : w11.grownBy w13 (some go10) := (by rw [hw]; exact HP12.2); have hp_ : Kd.S k57 57 w13 w.heap.size (fun _ => True) (.slice (some ⟨go10, 0, none⟩) x3_1.length co10) y18 := (by rw [hw, Ny18.out]; exact HP12.1); clear HP12; replace HO_3 := A_ (hp_); replace HB := A_ ((by rw [hw]; exact below_set (below_set (below_set (below_set (below_set (HB.out) GB10.out) GB10.out) GB10.out) GB10.out) GB10.out : Below w.heap.size w w13)); clear HO24 HO25; clear hg hw hp_))
   go_roundg k1
   case measure => have := HK1.out; omega
   case rel => exact ⟨(y18), (wrap64 (x4_1 + 1)), rs_, H', ⟨by have := HK1.out; omega⟩, ⟨vS_ HO_3.out⟩, ⟨bB_⟩⟩
def impl_SamePath.l0 : Nat -> List ByteArray -> List ByteArray -> Int -> Int -> Option (Bool)
 | 0, _, _, _, _ => none
 | k + 1, x0, x1, x12, x13 => if x13 < x12 then (if 0 <= x13 then (if x13 < (x0.length : Int) then (if x13 < (x1.length : Int) then (if (rdOf ByteArray.empty x0 x13).toList = (rdOf ByteArray.empty x1 x13).toList then (impl_SamePath.l0 k x0 x1 x12 (wrap64 (x13 + 1))) else (some false)) else (none)) else (none)) else (none)) else (some true)
def impl_SamePath.f (k : Nat) (l0 : List ByteArray) (l1 : List ByteArray) : Option (Bool) := if (l0.length : Int) = (l1.length : Int) then (impl_SamePath.l0 k l0 l1 (l0.length : Int) 0) else (some false)
theorem impl_SamePath.calls (k : Nat) (A0 : Option Addr) (c0 : Nat) (l0 : List ByteArray) (A1 : Option Addr) (c1 : Nat) (l1 : List ByteArray) (r : Bool) (w : World) (hr0 : Kd.C Kd.string w A0 l0.length l0) (hc0 : l0.length <= c0) (hr1 : Kd.C Kd.string w A1 l1.length l1) (hc1 : l1.length <= c1) (h : impl_SamePath.f k l0 l1 = some r) :
 Calls Try.prog 47 #[.slice A0 l0.length c0, .slice A1 l1.length c1] w fun e w' => e = .returned (.bool r) /\ Drawn0 w w' := by
 have HR0 := A_ hr0
 clear hr0 hc0
 have HR1 := A_ hr1
 clear hr1 hc1
 have H : (if (l0.length : Int) = (l1.length : Int) then (impl_SamePath.l0 k l0 l1 (l0.length : Int) 0) else (some false)) = some r := h
 clear h
 by_cases c3 : (l0.length : Int) = (l1.length : Int)
 rotate_left
 . rw [if_neg c3] at H
   obtain ⟨c3b0, c3b1⟩ := eF_ c3
   have c3b2 : (l0.length == l1.length) = false := by first | simpa using c3 | (simp at c3 ⊢; omega)
   obtain rfl := si_ H
   go_enter Try.func47, Try.ntmps47
   go_wp2
   repeat (go_quiet (fail); try go_wp2)
   go_ret
   exact ⟨rs_, dr_⟩
 rw [if_pos c3] at H
 obtain ⟨c3b0, c3b1⟩ := eT_ c3
 have c3b2 : (l0.length == l1.length) = true := by first | simpa using c3 | (simp at c3 ⊢; omega)
 clear c3
 have H' := A_ H
 clear H
 go_enter Try.func47, Try.ntmps47
 go_wp2
 repeat (go_quiet (fail); try go_wp2)
 go_loopg [13] k (fun kq v13 w' => ∃ (x13_1 : Int), v13 = .int .i64 x13_1 /\ Aside0 (impl_SamePath.l0 kq l0 l1 (l0.length : Int) x13_1 = some r) /\ Aside0 (kq <= k) /\ Drawn0 w w')
 case atStart => exact ⟨(0), rs_, H', ⟨Nat.le_refl _⟩, dr_⟩
 case round =>
  clear H'
  try clear c3
  try clear c3b0
  try clear c3b1
  try clear c3b2
  obtain ⟨x13_1, rfl, HA, HK1, ⟨m1, rfl⟩⟩ := hrel
  cases gk with
  | zero => exact absurd HA.out (by simp [impl_SamePath.l0])
  | succ k1 =>
   have H := HA.out
   clear HA
   simp only [impl_SamePath.l0] at H
   by_cases c4 : x13_1 < (l0.length : Int)
   rotate_left
   . rw [if_neg c4] at H
     have c4b0 := decide_eq_false c4
     clear c4
     obtain rfl := si_ H
     go_wp2
     repeat (go_quiet (fail); try go_wp2)
     go_ret
     exact ⟨rs_, dr_⟩
   rw [if_pos c4] at H
   have c4b0 := decide_eq_true c4
   clear c4
   by_cases c5 : 0 <= x13_1
   rotate_left
   . exact absurd H (by rw [if_neg c5]; simp)
   rw [if_pos c5] at H
   have c5b0 := decide_eq_true c5
   clear c5
   by_cases c6 : x13_1 < (l0.length : Int)
   rotate_left
   . exact absurd H (by rw [if_neg c6]; simp)
   rw [if_pos c6] at H
   have c6b0 := decide_eq_true c6
   clear c6
   by_cases c7 : x13_1 < (l1.length : Int)
   rotate_left
   . exact absurd H (by rw [if_neg c7]; simp)
   rw [if_pos c7] at H
   have c7b0 := decide_eq_true c7
   clear c7
   by_cases c8 : (rdOf ByteArray.empty l0 x13_1).toList = (rdOf ByteArray.empty l1 x13_1).toList
   rotate_left
   . rw [if_neg c8] at H
     obtain ⟨c8b0, c8b1⟩ := eF_ c8
     obtain rfl := si_ H
     have p2 : 0 <= (x13_1 : Int) := od_
     have q2 : x13_1 < (l0.length : Int) := od_
     obtain ⟨ad2, e2, hx2_0⟩ := Kd.at_string HR0.out x13_1 p2 q2
     cases e2
     replace p2 := eq_true p2
     replace q2 := eq_true q2
     have p9 : 0 <= (x13_1 : Int) := od_
     have q9 : x13_1 < (l1.length : Int) := od_
     obtain ⟨ad9, e9, hx9_0⟩ := Kd.at_string HR1.out x13_1 p9 q9
     cases e9
     replace p9 := eq_true p9
     replace q9 := eq_true q9
     go_wp2
     repeat (go_quiet (fail); try go_wp2)
     go_ret
     exact ⟨rs_, dr_⟩
   rw [if_pos c8] at H
   obtain ⟨c8b0, c8b1⟩ := eT_ c8
   clear c8
   have H' := A_ H
   clear H
   have p2 : 0 <= (x13_1 : Int) := od_
   have q2 : x13_1 < (l0.length : Int) := od_
   obtain ⟨ad2, e2, hx2_0⟩ := Kd.at_string HR0.out x13_1 p2 q2
   cases e2
   replace p2 := eq_true p2
   replace q2 := eq_true q2
   have p9 : 0 <= (x13_1 : Int) := od_
   have q9 : x13_1 < (l1.length : Int) := od_
   obtain ⟨ad9, e9, hx9_0⟩ := Kd.at_string HR1.out x13_1 p9 q9
   cases e9
   replace p9 := eq_true p9
   replace q9 := eq_true q9
   go_wp2
   repeat (go_quiet (fail); try go_wp2)
   go_roundg k1
   case measure => have := HK1.out; omega
   case rel => exact ⟨(wrap64 (x13_1 + 1)), rs_, H', ⟨by have := HK1.out; omega⟩, dr_⟩
def impl_FindRes.l0 : Nat -> List ByteArray -> List (S57) -> Int -> Int -> Option (Int)
 | 0, _, _, _, _ => none
 | k + 1, x1, x7, x8, x9 => if x9 < x8 then (if 0 <= x9 then (if x9 < (x7.length : Int) then ((impl_SamePath.f k ((rd_T57 x7 x9).f0) x1).bind fun t275 => (if t275 = true then (some x9) else (impl_FindRes.l0 k x1 x7 x8 (wrap64 (x9 + 1))))) else (none)) else (none)) else (some (-1))
def impl_FindRes.f (k : Nat) (l0 : List (S57)) (l1 : List ByteArray) : Option (Int) := impl_FindRes.l0 k l1 l0 (l0.length : Int) 0
theorem impl_FindRes.calls (k : Nat) (A0 : Option Addr) (c0 : Nat) (l0 : List (S57)) (A1 : Option Addr) (c1 : Nat) (l1 : List ByteArray) (r : Int) (w : World) (hr0 : Kd.C k57 w A0 l0.length l0) (hc0 : l0.length <= c0) (hr1 : Kd.C Kd.string w A1 l1.length l1) (hc1 : l1.length <= c1) (h : impl_FindRes.f k l0 l1 = some r) :
 Calls Try.prog 42 #[.slice A0 l0.length c0, .slice A1 l1.length c1] w fun e w' => e = .returned (.int .i64 r) /\ Below w.heap.size w w' := by
 have hu57 := Try.underlying57
 have HR0 := A_ hr0
 clear hr0 hc0
 have HR1 := A_ hr1
 have HC1 := A_ hc1
 clear hr1 hc1
 have HB := A_ (Below.refl w.heap.size w)
 have H : (impl_FindRes.l0 k l1 l0 (l0.length : Int) 0) = some r := h
 clear h
 have H' := A_ H
 clear H
 go_enter Try.func42, Try.ntmps42
 go_wp2
 go_loopg [9] k (fun kq v9 w' => ∃ (x9_1 : Int), v9 = .int .i64 x9_1 /\ Aside0 (impl_FindRes.l0 kq l1 l0 (l0.length : Int) x9_1 = some r) /\ Aside0 (kq <= k) /\ Aside0 (Below w.heap.size w w'))
 case atStart => exact ⟨(0), rs_, H', ⟨Nat.le_refl _⟩, ⟨bB_⟩⟩
 case round =>
  clear H'
  obtain ⟨x9_1, rfl, HA, HK1, HB⟩ := hrel
  cases gk with
  | zero => exact absurd HA.out (by simp [impl_FindRes.l0])
  | succ k1 =>
   have H := HA.out
   clear HA
   simp only [impl_FindRes.l0] at H
   by_cases c3 : x9_1 < (l0.length : Int)
   rotate_left
   . rw [if_neg c3] at H
     have c3b0 := decide_eq_false c3
     clear c3
     obtain rfl := si_ H
     go_wp2
     go_ret
     exact ⟨rr_, bB_⟩
   rw [if_pos c3] at H
   have c3b0 := decide_eq_true c3
   clear c3
   by_cases c4 : 0 <= x9_1
   rotate_left
   . exact absurd H (by rw [if_neg c4]; simp)
   rw [if_pos c4] at H
   have c4b0 := decide_eq_true c4
   clear c4
   by_cases c5 : x9_1 < (l0.length : Int)
   rotate_left
   . exact absurd H (by rw [if_neg c5]; simp)
   rw [if_pos c5] at H
   have c5b0 := decide_eq_true c5
   clear c5
   obtain ⟨t14, A6, H⟩ := bo_ H
   (try dsimp only at H)
   by_cases c7 : t14 = true
   . subst c7
     rw [if_pos rfl] at H
     obtain rfl := si_ H
     have p12 : 0 <= (x9_1 : Int) := od_
     have q12 : x9_1 < (l0.length : Int) := od_
     obtain ⟨ad12, A12_0, c12_0, A12_4, c12_4, e12, hx12_0, hx12_1, hx12_2, hx12_3, hx12_4, hl12_0, hi12_0, hl12_4, hi12_4⟩ := at_T57 HR0.out x9_1 p12 q12
     cases e12
     replace hx12_0 := bc_ HB.out hx12_0
     replace hx12_1 := bc_ HB.out hx12_1
     replace hx12_2 := bc_ HB.out hx12_2
     replace hx12_3 := bc_ HB.out hx12_3
     replace hx12_4 := bc_ HB.out hx12_4
     have HR12_0 := A_ hi12_0
     have HC12_0 := A_ hl12_0
     clear hi12_0 hl12_0
     clear hi12_4 hl12_4
     replace p12 := eq_true p12
     replace q12 := eq_true q12
     go_wp2_with (first | ((with_reducible refine gd_ (N := 6) rfl ?_); refine bx_ (N := 6) (cs := #[.slice none 0 0, .bool false, .string (⟨#[]⟩ : ByteArray), .int .i64 0, .slice none 0 0]) (t := 57) ?_; intro gb13 hg w8 hbox hb; have BK13 := A_ (hbox); have GW13 := A_ (ge_ hg bB_ : w.heap.size <= gb13); have GE13 := A_ (ge_ hg bB_ : w.heap.size <= gb13); replace HB := A_ (below_step bB_ hb); clear hb hbox hg; obtain ⟨hcz9_0, hcz9_1, hcz9_2, hcz9_3, hcz9_4, hfz9_0, hfz9_1, hfz9_2, hfz9_3, hfz9_4⟩ := cz5_ BK13.out) | ((with_reducible refine gc_ (f := 47) rfl ?_); refine gL_ (some 17) Try.func47 #[.slice A12_0 ((rd_T57 l0 x9_1).f0).length c12_0, .slice A1 l1.length c1] ?_; (with_reducible refine (impl_SamePath.calls k1 _ _ ((rd_T57 l0 x9_1).f0) _ _ l1 true _ ?s1 ?s2 ?s3 ?s4 A6.out).mono ?_); (case s1 => exact Kd.C_below HR12_0.out (bG_ GE13.out)); (case s2 => exact HC12_0.out); (case s3 => exact Kd.C_below HR1.out (bG_ GE13.out)); (case s4 => exact HC1.out); rintro e w' ⟨rfl, ⟨nd, rfl⟩⟩; refine ⟨_, rfl, ?_⟩))
     go_ret
     exact ⟨rr_, bG_ GE13.out⟩
   . replace c7 := Bool.eq_false_iff.mpr c7
     subst c7
     rw [if_neg nf_] at H
     have H' := A_ H
     clear H
     have p12 : 0 <= (x9_1 : Int) := od_
     have q12 : x9_1 < (l0.length : Int) := od_
     obtain ⟨ad12, A12_0, c12_0, A12_4, c12_4, e12, hx12_0, hx12_1, hx12_2, hx12_3, hx12_4, hl12_0, hi12_0, hl12_4, hi12_4⟩ := at_T57 HR0.out x9_1 p12 q12
     cases e12
     replace hx12_0 := bc_ HB.out hx12_0
     replace hx12_1 := bc_ HB.out hx12_1
     replace hx12_2 := bc_ HB.out hx12_2
     replace hx12_3 := bc_ HB.out hx12_3
     replace hx12_4 := bc_ HB.out hx12_4
     have HR12_0 := A_ hi12_0
     have HC12_0 := A_ hl12_0
     clear hi12_0 hl12_0
     clear hi12_4 hl12_4
     replace p12 := eq_true p12
     replace q12 := eq_true q12
     go_wp2_with (first | ((with_reducible refine gd_ (N := 6) rfl ?_); refine bx_ (N := 6) (cs := #[.slice none 0 0, .bool false, .string (⟨#[]⟩ : ByteArray), .int .i64 0, .slice none 0 0]) (t := 57) ?_; intro gb13 hg w10 hbox hb; have BK13 := A_ (hbox); have GW13 := A_ (ge_ hg bB_ : w.heap.size <= gb13); have GE13 := A_ (ge_ hg bB_ : w.heap.size <= gb13); replace HB := A_ (below_step bB_ hb); clear hb hbox hg; obtain ⟨hcz11_0, hcz11_1, hcz11_2, hcz11_3, hcz11_4, hfz11_0, hfz11_1, hfz11_2, hfz11_3, hfz11_4⟩ := cz5_ BK13.out) | ((with_reducible refine gc_ (f := 47) rfl ?_); refine gL_ (some 17) Try.func47 #[.slice A12_0 ((rd_T57 l0 x9_1).f0).length c12_0, .slice A1 l1.length c1] ?_; (with_reducible refine (impl_SamePath.calls k1 _ _ ((rd_T57 l0 x9_1).f0) _ _ l1 false _ ?s1 ?s2 ?s3 ?s4 A6.out).mono ?_); (case s1 => exact Kd.C_below HR12_0.out (bG_ GE13.out)); (case s2 => exact HC12_0.out); (case s3 => exact Kd.C_below HR1.out (bG_ GE13.out)); (case s4 => exact HC1.out); rintro e w' ⟨rfl, ⟨nd, rfl⟩⟩; refine ⟨_, rfl, ?_⟩))
     go_roundg k1
     case measure => have := HK1.out; omega
     case rel => exact ⟨(wrap64 (x9_1 + 1)), rs_, H', ⟨by have := HK1.out; omega⟩, ⟨bG_ GE13.out⟩⟩
def impl_IsColl.f (k : Nat) (l0 : List (S57)) (l1 : List ByteArray) : Option (Bool) := if (l1.length : Int) = 0 then (some true) else ((impl_FindRes.f k l0 l1).bind fun t276 => (if t276 >= 0 then (if 0 <= t276 then (if t276 < (l0.length : Int) then (some ((rd_T57 l0 t276).f1)) else (none)) else (none)) else (some false)))
theorem impl_IsColl.calls (k : Nat) (A0 : Option Addr) (c0 : Nat) (l0 : List (S57)) (A1 : Option Addr) (c1 : Nat) (l1 : List ByteArray) (r : Bool) (w : World) (hr0 : Kd.C k57 w A0 l0.length l0) (hc0 : l0.length <= c0) (hr1 : Kd.C Kd.string w A1 l1.length l1) (hc1 : l1.length <= c1) (h : impl_IsColl.f k l0 l1 = some r) :
 Calls Try.prog 43 #[.slice A0 l0.length c0, .slice A1 l1.length c1] w fun e w' => e = .returned (.bool r) /\ Below w.heap.size w w' := by
 have HR0 := A_ hr0
 have HC0 := A_ hc0
 clear hr0 hc0
 have HR1 := A_ hr1
 have HC1 := A_ hc1
 clear hr1 hc1
 have HB := A_ (Below.refl w.heap.size w)
 have H : (if (l1.length : Int) = 0 then (some true) else ((impl_FindRes.f k l0 l1).bind fun t11 => (if t11 >= 0 then (if 0 <= t11 then (if t11 < (l0.length : Int) then (some ((rd_T57 l0 t11).f1)) else (none)) else (none)) else (some false)))) = some r := h
 clear h
 by_cases c3 : (l1.length : Int) = 0
 . rw [if_pos c3] at H
   obtain ⟨c3b0, c3b1⟩ := eT_ c3
   clear c3
   obtain rfl := si_ H
   go_enter Try.func43, Try.ntmps43
   go_wp2
   go_ret
   exact ⟨rr_, bB_⟩
 rw [if_neg c3] at H
 obtain ⟨c3b0, c3b1⟩ := eF_ c3
 have c3b2 : ¬ (l1 = []) := fun h_ => c3 (by rw [h_]; rfl)
 obtain ⟨t11, A4, H⟩ := bo_ H
 (try dsimp only at H)
 by_cases c5 : t11 >= 0
 rotate_left
 . rw [if_neg c5] at H
   have c5b0 : decide (0 <= t11) = false := decide_eq_false c5
   clear c5
   obtain rfl := si_ H
   go_enter Try.func43, Try.ntmps43
   go_wp2_with (first | ((with_reducible refine gc_ (f := 42) rfl ?_); refine gL_ (some 11) Try.func42 #[.slice A0 l0.length c0, .slice A1 l1.length c1] ?_; (with_reducible refine (impl_FindRes.calls k _ _ l0 _ _ l1 t11 _ ?s1 ?s2 ?s3 ?s4 A4.out).mono ?_); (case s1 => exact cC_ HR0.out); (case s2 => exact HC0.out); (case s3 => exact cC_ HR1.out); (case s4 => exact HC1.out); rintro e w9 ⟨rfl, hb⟩; refine ⟨_, rfl, ?_⟩; replace HB := A_ (below_step bB_ hb); clear hb))
   go_ret
   exact ⟨rr_, bB_⟩
 rw [if_pos c5] at H
 have c5b0 : decide (0 <= t11) = true := decide_eq_true c5
 clear c5
 by_cases c6 : 0 <= t11
 rotate_left
 . exact absurd H (by rw [if_neg c6]; simp)
 rw [if_pos c6] at H
 have c6b0 := decide_eq_true c6
 clear c6
 by_cases c7 : t11 < (l0.length : Int)
 rotate_left
 . exact absurd H (by rw [if_neg c7]; simp)
 rw [if_pos c7] at H
 have c7b0 := decide_eq_true c7
 clear c7
 obtain rfl := si_ H
 go_enter Try.func43, Try.ntmps43
 go_wp2_with (first | ((with_reducible refine gc_ (f := 42) rfl ?_); refine gL_ (some 11) Try.func42 #[.slice A0 l0.length c0, .slice A1 l1.length c1] ?_; (with_reducible refine (impl_FindRes.calls k _ _ l0 _ _ l1 t11 _ ?s1 ?s2 ?s3 ?s4 A4.out).mono ?_); (case s1 => exact cC_ HR0.out); (case s2 => exact HC0.out); (case s3 => exact cC_ HR1.out); (case s4 => exact HC1.out); rintro e w8 ⟨rfl, hb⟩; refine ⟨_, rfl, ?_⟩; replace HB := A_ (below_step bB_ hb); clear hb; have p10 : 0 <= (t11 : Int) := od_; have q10 : t11 < (l0.length : Int) := od_; obtain ⟨ad10, A10_0, c10_0, A10_4, c10_4, e10, hx10_0, hx10_1, hx10_2, hx10_3, hx10_4, hl10_0, hi10_0, hl10_4, hi10_4⟩ := at_T57 HR0.out t11 p10 q10; cases e10; replace hx10_0 := bc_ HB.out hx10_0; replace hx10_1 := bc_ HB.out hx10_1; replace hx10_2 := bc_ HB.out hx10_2; replace hx10_3 := bc_ HB.out hx10_3; replace hx10_4 := bc_ HB.out hx10_4; clear hi10_0 hl10_0; clear hi10_4 hl10_4; replace p10 := eq_true p10; replace q10 := eq_true q10))
 go_ret
 exact ⟨rr_, bB_⟩
def impl_copyPath.f (l0 : List ByteArray) : Option (List ByteArray) := if ([] : List ByteArray).length + l0.length < 8796093022208 then (some (([] : List ByteArray) ++ l0)) else (none)
theorem impl_copyPath.calls (A0 : Option Addr) (c0 : Nat) (l0 : List ByteArray) (r : List ByteArray) (w : World) (hr0 : Kd.C Kd.string w A0 l0.length l0) (hc0 : l0.length <= c0) (h : impl_copyPath.f l0 = some r) :
 Calls Try.prog 77 #[.slice A0 l0.length c0] w fun e w' => ∃ v0_ : Value, e = .returned (v0_) /\ Kd.R Kd.string 9 w' w.heap.size (fun _ => True) v0_ r /\ Below w.heap.size w w' := by
 have HR0 := A_ hr0
 clear hr0 hc0
 have HB := A_ (Below.refl w.heap.size w)
 have H : (if ([] : List ByteArray).length + l0.length < 8796093022208 then (some (([] : List ByteArray) ++ l0)) else (none)) = some r := h
 clear h
 by_cases c2 : ([] : List ByteArray).length + l0.length < 8796093022208
 rotate_left
 . exact absurd H (by rw [if_neg c2]; simp)
 rw [if_pos c2] at H
 have LMc2 := A_ c2
 clear c2
 obtain ⟨y1, hy1⟩ : ∃ y_ : List ByteArray, y_ = (([] : List ByteArray) ++ l0) := ⟨_, rfl⟩
 replace H : (some y1) = some r := hy_ hy1 H
 have Ny1 := A_ hy1
 clear hy1
 obtain rfl := si_ H
 go_enter Try.func77, Try.ntmps77
 go_wp2_with (first | ((with_reducible refine gate_builtin (b := .append) (xs := #[.const (.slice none 0 0), .tmp 3]) rfl ?_); at_builtin; refine Kd.R_append_rows Kd.string (w0 := w) w.heap.size rfl (.const (.slice none 0 0)) (.tmp 3) 23 9 (.string ⟨#[]⟩) 16 rfl Try.underlying23 info9 rfl (by decide) (by omega) (.slice none 0 0) ([] : List ByteArray) l0 _ _ _ (fun _ => True) (fun _ => False) rfl rfl ?aO ?aR (fun _ _ h => h) (fun _ h => h.elim) ?aF ?aB ?aS ?aL ?_; (case aR => exact cC_ HR0.out); (case aB => exact bB_); (case aF => exact (fun _ _ => trivial)); (case aO => exact ((Kd.R_nil _ _ _ _ (fun _ => True)))); (case aS => exact (below_size bB_)); (case aL => have := LMc2.out; omega); intro v5 w3 ho hb hg hat; rw [← Ny1.out] at ho; replace HB := A_ (hb); have HO4 := A_ (ho); clear ho hb hg hat))
 go_ret
 exact ⟨_, rr_, vR_ HO4.out, bB_⟩
def impl_Above.f (l0 : List ByteArray) : Option (List ByteArray) := if (l0.length : Int) = 0 then (some ([] : List ByteArray)) else (if 0 <= (wrap64 ((l0.length : Int) - 1)) then (if (wrap64 ((l0.length : Int) - 1)) <= (l0.length : Int) then ((impl_copyPath.f (l0.take ((wrap64 ((l0.length : Int) - 1)) : Int).toNat)).bind fun t282 => (some t282)) else (none)) else (none))
theorem impl_Above.calls (A0 : Option Addr) (c0 : Nat) (l0 : List ByteArray) (r : List ByteArray) (w : World) (hr0 : Kd.C Kd.string w A0 l0.length l0) (hc0 : l0.length <= c0) (h : impl_Above.f l0 = some r) :
 Calls Try.prog 44 #[.slice A0 l0.length c0] w fun e w' => ∃ v0_ : Value, e = .returned (v0_) /\ Kd.R Kd.string 9 w' w.heap.size (fun _ => True) v0_ r /\ Below w.heap.size w w' := by
 have HR0 := A_ hr0
 have HC0 := A_ hc0
 clear hr0 hc0
 have HB := A_ (Below.refl w.heap.size w)
 have H : (if (l0.length : Int) = 0 then (some ([] : List ByteArray)) else (if 0 <= (wrap64 ((l0.length : Int) - 1)) then (if (wrap64 ((l0.length : Int) - 1)) <= (l0.length : Int) then ((impl_copyPath.f (l0.take ((wrap64 ((l0.length : Int) - 1)) : Int).toNat)).bind fun t10 => (some t10)) else (none)) else (none))) = some r := h
 clear h
 by_cases c2 : (l0.length : Int) = 0
 . rw [if_pos c2] at H
   obtain ⟨c2b0, c2b1⟩ := eT_ c2
   clear c2
   obtain rfl := si_ H
   go_enter Try.func44, Try.ntmps44
   go_wp2
   go_ret
   exact ⟨_, rr_, by first | exact Kd.R_nil _ _ _ _ _ | exact Kd.N_nil _ _ _ _ _ | exact Kd.V_nil _ _ _ _ _ | exact Kd.Q_nil _ _ _ _ _ | exact Kd.S_nil _ _ _ _ _, bB_⟩
 rw [if_neg c2] at H
 obtain ⟨c2b0, c2b1⟩ := eF_ c2
 have c2b2 : ¬ (l0 = []) := fun h_ => c2 (by rw [h_]; rfl)
 obtain ⟨ji3, hji3⟩ : ∃ j_ : Int, (wrap64 ((l0.length : Int) - 1)) = j_ := ⟨_, rfl⟩
 replace H : (if 0 <= (ji3) then (if (ji3) <= (l0.length : Int) then ((impl_copyPath.f (l0.take ((ji3) : Int).toNat)).bind fun t10 => (some t10)) else (none)) else (none)) = some r := by first | (rw [hji3] at H; exact H) | (simp only [hji3] at H ⊢; exact H)
 have hji3w : (IntKind.i64.wrap ((l0.length : Int) - 1)) = ji3 := (i64_w _).trans hji3
 by_cases c4 : 0 <= (ji3)
 rotate_left
 . exact absurd H (by rw [if_neg c4]; simp)
 rw [if_pos c4] at H
 have c4b0 := eq_true c4
 have c4b1 := decide_eq_true c4
 clear c4
 by_cases c5 : (ji3) <= (l0.length : Int)
 rotate_left
 . exact absurd H (by rw [if_neg c5]; simp)
 rw [if_pos c5] at H
 have c5b0 := eq_true c5
 have c5b1 := decide_eq_true c5
 clear c5
 obtain ⟨t10, A6, H⟩ := bo_ H
 (try dsimp only at H)
 obtain rfl := si_ H
 obtain ⟨i07, hi07, _, hsz7, _⟩ := info_parts info9
 obtain ⟨hcut7, hA7, hC7⟩ := print_take_of (P := Try.prog) Value.string (⟨#[]⟩ : ByteArray) 23 9 .i64 Try.underlying23 hi07 hsz7 A0 c0 l0 (ji3) od_ od_ HC0.out
 have HR11 := A_ (Kd.C_of_reads (h1 := fun _ => rfl) (hA7 _ (Kd.reads_of_C HR0.out)))
 have HC11 := A_ hC7
 clear hA7 hC7 hi07 hsz7
 go_enter Try.func44, Try.ntmps44
 go_wp2_with (first | ((with_reducible refine gc_ (f := 77) rfl ?_); refine goesL_ (some 11) rfl rfl Try.func77 (by kernel_rfl) rfl #[.slice A0 (l0.take ((ji3) : Int).toNat).length c0] rfl (by (try simp only [List.map_toArray, List.map_cons, List.map_nil]); first | done | (rw [show (l0.take ((ji3) : Int).toNat).length = (ji3).toNat from (by rw [List.length_take]; have h_ : ((ji3) : Int) <= (l0.length : Int) := od_; omega)] <;> rfl) | (simp only [hji3]; rfl) | rfl | (simp only [List.length_drop, List.length_take]; rfl)) ?_; (with_reducible refine (impl_copyPath.calls _ _ (l0.take ((ji3) : Int).toNat) t10 _ ?s1 ?s2 A6.out).mono ?_); (case s1 => exact cC_ HR11.out); (case s2 => exact HC11.out); rintro e w8 ⟨v13, rfl, ho0, hb⟩; refine ⟨_, rfl, ?_⟩; have HO12 := A_ (Kd.R_lower ho0 (below_size bB_)); replace HB := A_ (below_step bB_ hb); clear hb ho0))
 go_ret
 exact ⟨_, by first | rfl | (simp [errW_none, errW_some] <;> rfl) | (simp only [← hji3]; first | rfl | (simp [errW_none, errW_some] <;> rfl)) | (simp [*, errW_none, errW_some] <;> rfl), vR_ HO12.out, bB_⟩
def impl_isPlain.f (a0 : Int) : Option (Bool) := if a0 >= 32 then (some (decide (a0 <= 126))) else (some false)
theorem impl_isPlain.calls (a0 : Int) (r : Bool) (w : World) (h : impl_isPlain.f a0 = some r) :
 Calls Try.prog 132 #[.int .u8 a0] w fun e w' => e = .returned (.bool r) /\ Drawn0 w w' := by
 have H : (if a0 >= 32 then (some (decide (a0 <= 126))) else (some false)) = some r := h
 clear h
 by_cases c2 : a0 >= 32
 . rw [if_pos c2] at H
   have c2b0 : decide (32 <= a0) = true := decide_eq_true c2
   clear c2
   obtain rfl := si_ H
   go_enter Try.func132, Try.ntmps132
   go_wp2
   go_ret
   exact ⟨rs_, dr_⟩
 rw [if_neg c2] at H
 have c2b0 : decide (32 <= a0) = false := decide_eq_false c2
 clear c2
 obtain rfl := si_ H
 go_enter Try.func132, Try.ntmps132
 go_wp2
 go_ret
 exact ⟨rs_, dr_⟩
set_option maxHeartbeats 8000000
set_option maxRecDepth 100000
def impl_Plain.l0 : Nat -> ByteArray -> Int -> Option (Bool)
 | 0, _, _ => none
 | k + 1, x0, x3 => if x3 < (x0.size : Int) then (if 0 <= x3 then ((impl_isPlain.f (bt x0 x3)).bind fun t285 => (if t285 = true then (impl_Plain.l0 k x0 (wrap64 (x3 + 1))) else (some false))) else (none)) else (some true)
def impl_Plain.f (k : Nat) (a0 : ByteArray) : Option (Bool) := impl_Plain.l0 k a0 0
theorem impl_Plain.calls (k : Nat) (a0 : ByteArray) (r : Bool) (w : World) (h : impl_Plain.f k a0 = some r) :
 Calls Try.prog 123 #[.string a0] w fun e w' => e = .returned (.bool r) /\ Drawn0 w w' := by
 have H : (impl_Plain.l0 k a0 0) = some r := h
 clear h
 have H' := A_ H
 clear H
 go_enter Try.func123, Try.ntmps123
 go_wp2
 go_loopg [3] k (fun kq v3 w' => ∃ (x3_1 : Int), v3 = .int .i64 x3_1 /\ Aside0 (impl_Plain.l0 kq a0 x3_1 = some r) /\ Aside0 (kq <= k) /\ Drawn0 w w')
 case atStart => exact ⟨(0), rs_, H', ⟨Nat.le_refl _⟩, dr_⟩
 case round =>
  clear H'
  obtain ⟨x3_1, rfl, HA, HK1, ⟨m1, rfl⟩⟩ := hrel
  cases gk with
  | zero => exact absurd HA.out (by simp [impl_Plain.l0])
  | succ k1 =>
   have H := HA.out
   clear HA
   simp only [impl_Plain.l0] at H
   by_cases c2 : x3_1 < (a0.size : Int)
   rotate_left
   . rw [if_neg c2] at H
     have c2b0 := decide_eq_false c2
     clear c2
     obtain rfl := si_ H
     go_wp2
     go_ret
     exact ⟨rs_, dr_⟩
   rw [if_pos c2] at H
   have c2b0 := decide_eq_true c2
   clear c2
   by_cases c3 : 0 <= x3_1
   rotate_left
   . exact absurd H (by rw [if_neg c3]; simp)
   rw [if_pos c3] at H
   have c3b0 := decide_eq_true c3
   clear c3
   obtain ⟨t7, A5, H⟩ := bo_ H
   (try dsimp only at H)
   by_cases c6 : t7 = true
   . subst c6
     rw [if_pos rfl] at H
     have H' := A_ H
     clear H
     have p4 : 0 <= (x3_1 : Int) := od_
     have q4 : x3_1 < (a0.size : Int) := od_
     have hx4 := bt_at a0 x3_1
     replace p4 := eq_true p4
     replace q4 := eq_true q4
     go_wp2_with (first | ((with_reducible refine gc_ (f := 132) rfl ?_); refine gL_ (some 13) Try.func132 #[.int .u8 (bt a0 x3_1)] ?_; (with_reducible refine (impl_isPlain.calls (bt a0 x3_1) true _ A5.out).mono ?_); rintro e w' ⟨rfl, ⟨nd, rfl⟩⟩; refine ⟨_, rfl, ?_⟩))
     go_roundg k1
     case measure => have := HK1.out; omega
     case rel => exact ⟨(wrap64 (x3_1 + 1)), rs_, H', ⟨by have := HK1.out; omega⟩, dr_⟩
   . replace c6 := Bool.eq_false_iff.mpr c6
     subst c6
     rw [if_neg nf_] at H
     obtain rfl := si_ H
     have p4 : 0 <= (x3_1 : Int) := od_
     have q4 : x3_1 < (a0.size : Int) := od_
     have hx4 := bt_at a0 x3_1
     replace p4 := eq_true p4
     replace q4 := eq_true q4
     go_wp2_with (first | ((with_reducible refine gc_ (f := 132) rfl ?_); refine gL_ (some 13) Try.func132 #[.int .u8 (bt a0 x3_1)] ?_; (with_reducible refine (impl_isPlain.calls (bt a0 x3_1) false _ A5.out).mono ?_); rintro e w' ⟨rfl, ⟨nd, rfl⟩⟩; refine ⟨_, rfl, ?_⟩))
     go_ret
     exact ⟨rs_, dr_⟩
def impl_in.f (a0 : Int) (a1 : Int) (a2 : Int) : Option (Bool) := if a0 >= a1 then (some (decide (a0 <= a2))) else (some false)
theorem impl_in.calls (a0 : Int) (a1 : Int) (a2 : Int) (r : Bool) (w : World) (h : impl_in.f a0 a1 a2 = some r) :
 Calls Try.prog 109 #[.int .i64 a0, .int .i64 a1, .int .i64 a2] w fun e w' => e = .returned (.bool r) /\ Drawn0 w w' := by
 have H : (if a0 >= a1 then (some (decide (a0 <= a2))) else (some false)) = some r := h
 clear h
 by_cases c4 : a0 >= a1
 . rw [if_pos c4] at H
   have c4b0 : decide (a1 <= a0) = true := decide_eq_true c4
   clear c4
   obtain rfl := si_ H
   go_enter Try.func109, Try.ntmps109
   go_wp2
   go_ret
   exact ⟨rs_, dr_⟩
 rw [if_neg c4] at H
 have c4b0 : decide (a1 <= a0) = false := decide_eq_false c4
 clear c4
 obtain rfl := si_ H
 go_enter Try.func109, Try.ntmps109
 go_wp2
 go_ret
 exact ⟨rs_, dr_⟩
def impl_isSmall.f (a0 : Int) : Option (Bool) := if a0 >= 97 then (some (decide (a0 <= 122))) else (some false)
theorem impl_isSmall.calls (a0 : Int) (r : Bool) (w : World) (h : impl_isSmall.f a0 = some r) :
 Calls Try.prog 133 #[.int .u8 a0] w fun e w' => e = .returned (.bool r) /\ Drawn0 w w' := by
 have H : (if a0 >= 97 then (some (decide (a0 <= 122))) else (some false)) = some r := h
 clear h
 by_cases c2 : a0 >= 97
 . rw [if_pos c2] at H
   have c2b0 : decide (97 <= a0) = true := decide_eq_true c2
   clear c2
   obtain rfl := si_ H
   go_enter Try.func133, Try.ntmps133
   go_wp2
   go_ret
   exact ⟨rs_, dr_⟩
 rw [if_neg c2] at H
 have c2b0 : decide (97 <= a0) = false := decide_eq_false c2
 clear c2
 obtain rfl := si_ H
 go_enter Try.func133, Try.ntmps133
 go_wp2
 go_ret
 exact ⟨rs_, dr_⟩
def impl_isDigit.f (a0 : Int) : Option (Bool) := if a0 >= 48 then (some (decide (a0 <= 57))) else (some false)
theorem impl_isDigit.calls (a0 : Int) (r : Bool) (w : World) (h : impl_isDigit.f a0 = some r) :
 Calls Try.prog 134 #[.int .u8 a0] w fun e w' => e = .returned (.bool r) /\ Drawn0 w w' := by
 have H : (if a0 >= 48 then (some (decide (a0 <= 57))) else (some false)) = some r := h
 clear h
 by_cases c2 : a0 >= 48
 . rw [if_pos c2] at H
   have c2b0 : decide (48 <= a0) = true := decide_eq_true c2
   clear c2
   obtain rfl := si_ H
   go_enter Try.func134, Try.ntmps134
   go_wp2
   go_ret
   exact ⟨rs_, dr_⟩
 rw [if_neg c2] at H
 have c2b0 : decide (48 <= a0) = false := decide_eq_false c2
 clear c2
 obtain rfl := si_ H
 go_enter Try.func134, Try.ntmps134
 go_wp2
 go_ret
 exact ⟨rs_, dr_⟩
def impl_SmallName.l0 : Nat -> ByteArray -> Int -> Option (Bool)
 | 0, _, _ => none
 | k + 1, x0, x3 => if x3 < (x0.size : Int) then (if 0 <= x3 then ((impl_isSmall.f (bt x0 x3)).bind fun t287 => (if t287 = true then (impl_SmallName.l0 k x0 (wrap64 (x3 + 1))) else (if x3 = 0 then (some false) else ((impl_isDigit.f (bt x0 x3)).bind fun t288 => (if t288 = true then (impl_SmallName.l0 k x0 (wrap64 (x3 + 1))) else (if (bt x0 x3) = 45 then (impl_SmallName.l0 k x0 (wrap64 (x3 + 1))) else (some false))))))) else (none)) else ((impl_in.f (x0.size : Int) 1 20).bind fun t286 => (some t286))
def impl_SmallName.f (k : Nat) (a0 : ByteArray) : Option (Bool) := impl_SmallName.l0 k a0 0
theorem impl_SmallName.calls (k : Nat) (a0 : ByteArray) (r : Bool) (w : World) (h : impl_SmallName.f k a0 = some r) :
 Calls Try.prog 124 #[.string a0] w fun e w' => e = .returned (.bool r) /\ Drawn0 w w' := by
 have H : (impl_SmallName.l0 k a0 0) = some r := h
 clear h
 have H' := A_ H
 clear H
 go_enter Try.func124, Try.ntmps124
 go_wp2
 go_loopg [3] k (fun kq v3 w' => ∃ (x3_1 : Int), v3 = .int .i64 x3_1 /\ Aside0 (impl_SmallName.l0 kq a0 x3_1 = some r) /\ Aside0 (kq <= k) /\ Drawn0 w w')
 case atStart => exact ⟨(0), rs_, H', ⟨Nat.le_refl _⟩, dr_⟩
 case round =>
  clear H'
  obtain ⟨x3_1, rfl, HA, HK1, ⟨m1, rfl⟩⟩ := hrel
  cases gk with
  | zero => exact absurd HA.out (by simp [impl_SmallName.l0])
  | succ k1 =>
   have H := HA.out
   clear HA
   simp only [impl_SmallName.l0] at H
   by_cases c2 : x3_1 < (a0.size : Int)
   rotate_left
   . rw [if_neg c2] at H
     have c2b0 := decide_eq_false c2
     clear c2
     obtain ⟨t14, A13, H⟩ := bo_ H
     (try dsimp only at H)
     obtain rfl := si_ H
     go_wp2_with (first | ((with_reducible refine gc_ (f := 109) rfl ?_); refine gL_ (some 34) Try.func109 #[.int .i64 (a0.size : Int), .int .i64 1, .int .i64 20] ?_; (with_reducible refine (impl_in.calls (a0.size : Int) 1 20 t14 _ A13.out).mono ?_); rintro e w' ⟨rfl, ⟨nd, rfl⟩⟩; refine ⟨_, rfl, ?_⟩))
     go_ret
     exact ⟨rs_, dr_⟩
   rw [if_pos c2] at H
   have c2b0 := decide_eq_true c2
   clear c2
   by_cases c3 : 0 <= x3_1
   rotate_left
   . exact absurd H (by rw [if_neg c3]; simp)
   rw [if_pos c3] at H
   have c3b0 := decide_eq_true c3
   clear c3
   obtain ⟨t15, A5, H⟩ := bo_ H
   (try dsimp only at H)
   by_cases c6 : t15 = true
   . subst c6
     rw [if_pos rfl] at H
     have H' := A_ H
     clear H
     have p4 : 0 <= (x3_1 : Int) := od_
     have q4 : x3_1 < (a0.size : Int) := od_
     have hx4 := bt_at a0 x3_1
     replace p4 := eq_true p4
     replace q4 := eq_true q4
     go_wp2_with (first | ((with_reducible refine gc_ (f := 133) rfl ?_); refine gL_ (some 13) Try.func133 #[.int .u8 (bt a0 x3_1)] ?_; (with_reducible refine (impl_isSmall.calls (bt a0 x3_1) true _ A5.out).mono ?_); rintro e w' ⟨rfl, ⟨nd, rfl⟩⟩; refine ⟨_, rfl, ?_⟩))
     go_roundg k1
     case measure => have := HK1.out; omega
     case rel => exact ⟨(wrap64 (x3_1 + 1)), rs_, H', ⟨by have := HK1.out; omega⟩, dr_⟩
   . replace c6 := Bool.eq_false_iff.mpr c6
     subst c6
     rw [if_neg nf_] at H
     by_cases c7 : x3_1 = 0
     . rw [if_pos c7] at H
       obtain ⟨c7b0, c7b1⟩ := eT_ c7
       clear c7
       obtain rfl := si_ H
       have p4 : 0 <= (x3_1 : Int) := od_
       have q4 : x3_1 < (a0.size : Int) := od_
       have hx4 := bt_at a0 x3_1
       replace p4 := eq_true p4
       replace q4 := eq_true q4
       go_wp2_with (first | ((with_reducible refine gc_ (f := 133) rfl ?_); refine gL_ (some 13) Try.func133 #[.int .u8 (bt a0 x3_1)] ?_; (with_reducible refine (impl_isSmall.calls (bt a0 x3_1) false _ A5.out).mono ?_); rintro e w' ⟨rfl, ⟨nd, rfl⟩⟩; refine ⟨_, rfl, ?_⟩))
       go_ret
       exact ⟨rs_, dr_⟩
     rw [if_neg c7] at H
     obtain ⟨c7b0, c7b1⟩ := eF_ c7
     obtain ⟨t16, A9, H⟩ := bo_ H
     (try dsimp only at H)
     by_cases c10 : t16 = true
     . subst c10
       rw [if_pos rfl] at H
       have H' := A_ H
       clear H
       have p4 : 0 <= (x3_1 : Int) := od_
       have q4 : x3_1 < (a0.size : Int) := od_
       have hx4 := bt_at a0 x3_1
       replace p4 := eq_true p4
       replace q4 := eq_true q4
       go_wp2_with (first | ((with_reducible refine gc_ (f := 133) rfl ?_); refine gL_ (some 13) Try.func133 #[.int .u8 (bt a0 x3_1)] ?_; (with_reducible refine (impl_isSmall.calls (bt a0 x3_1) false _ A5.out).mono ?_); rintro e w' ⟨rfl, ⟨nd, rfl⟩⟩; refine ⟨_, rfl, ?_⟩; have p8 : 0 <= (x3_1 : Int) := od_; have q8 : x3_1 < (a0.size : Int) := od_; have hx8 := bt_at a0 x3_1; replace p8 := eq_true p8; replace q8 := eq_true q8) | (go_at_call 134; (with_reducible refine (impl_isDigit.calls (bt a0 x3_1) true _ A9.out).mono ?_); rintro e w' ⟨rfl, ⟨nd, rfl⟩⟩))
       go_roundg k1
       case measure => have := HK1.out; omega
       case rel => exact ⟨(wrap64 (x3_1 + 1)), rs_, H', ⟨by have := HK1.out; omega⟩, dr_⟩
     . replace c10 := Bool.eq_false_iff.mpr c10
       subst c10
       rw [if_neg nf_] at H
       by_cases c12 : (bt a0 x3_1) = 45
       rotate_left
       . rw [if_neg c12] at H
         obtain ⟨c12b0, c12b1⟩ := eF_ c12
         obtain rfl := si_ H
         have p4 : 0 <= (x3_1 : Int) := od_
         have q4 : x3_1 < (a0.size : Int) := od_
         have hx4 := bt_at a0 x3_1
         replace p4 := eq_true p4
         replace q4 := eq_true q4
         go_wp2_with (first | ((with_reducible refine gc_ (f := 133) rfl ?_); refine gL_ (some 13) Try.func133 #[.int .u8 (bt a0 x3_1)] ?_; (with_reducible refine (impl_isSmall.calls (bt a0 x3_1) false _ A5.out).mono ?_); rintro e w' ⟨rfl, ⟨nd, rfl⟩⟩; refine ⟨_, rfl, ?_⟩; have p8 : 0 <= (x3_1 : Int) := od_; have q8 : x3_1 < (a0.size : Int) := od_; have hx8 := bt_at a0 x3_1; replace p8 := eq_true p8; replace q8 := eq_true q8) | (go_at_call 134; (with_reducible refine (impl_isDigit.calls (bt a0 x3_1) false _ A9.out).mono ?_); rintro e w' ⟨rfl, ⟨nd, rfl⟩⟩; have p11 : 0 <= (x3_1 : Int) := od_; have q11 : x3_1 < (a0.size : Int) := od_; have hx11 := bt_at a0 x3_1; replace p11 := eq_true p11; replace q11 := eq_true q11))
         go_ret
         exact ⟨rs_, dr_⟩
       rw [if_pos c12] at H
       obtain ⟨c12b0, c12b1⟩ := eT_ c12
       clear c12
       have H' := A_ H
       clear H
       have p4 : 0 <= (x3_1 : Int) := od_
       have q4 : x3_1 < (a0.size : Int) := od_
       have hx4 := bt_at a0 x3_1
       replace p4 := eq_true p4
       replace q4 := eq_true q4
       go_wp2_with (first | ((with_reducible refine gc_ (f := 133) rfl ?_); refine gL_ (some 13) Try.func133 #[.int .u8 (bt a0 x3_1)] ?_; (with_reducible refine (impl_isSmall.calls (bt a0 x3_1) false _ A5.out).mono ?_); rintro e w' ⟨rfl, ⟨nd, rfl⟩⟩; refine ⟨_, rfl, ?_⟩; have p8 : 0 <= (x3_1 : Int) := od_; have q8 : x3_1 < (a0.size : Int) := od_; have hx8 := bt_at a0 x3_1; replace p8 := eq_true p8; replace q8 := eq_true q8) | (go_at_call 134; (with_reducible refine (impl_isDigit.calls (bt a0 x3_1) false _ A9.out).mono ?_); rintro e w' ⟨rfl, ⟨nd, rfl⟩⟩; have p11 : 0 <= (x3_1 : Int) := od_; have q11 : x3_1 < (a0.size : Int) := od_; have hx11 := bt_at a0 x3_1; replace p11 := eq_true p11; replace q11 := eq_true q11))
       go_roundg k1
       case measure => have := HK1.out; omega
       case rel => exact ⟨(wrap64 (x3_1 + 1)), rs_, H', ⟨by have := HK1.out; omega⟩, dr_⟩
def impl_propOk.f (k : Nat) (a0_0 : ByteArray) (a0_1 : ByteArray) (a0_2 : ByteArray) : Option (Bool) := if (a0_0.size : Int) <= 20 then ((impl_Plain.f k a0_0).bind fun t290 => (if t290 = true then ((impl_SmallName.f k a0_1).bind fun t291 => (if t291 = true then (if (a0_2.size : Int) <= 20 then ((impl_Plain.f k a0_2).bind fun t292 => (some t292)) else (some false)) else (some false))) else (some false))) else (some false)
theorem impl_propOk.calls (k : Nat) (a0_0 : ByteArray) (a0_1 : ByteArray) (a0_2 : ByteArray) (r : Bool) (w : World) (h : impl_propOk.f k a0_0 a0_1 a0_2 = some r) :
 Calls Try.prog 93 #[.agg #[.string a0_0, .string a0_1, .string a0_2]] w fun e w' => e = .returned (.bool r) /\ Below w.heap.size w w' := by
 have hu72 := Try.underlying72
 have HB := A_ (Below.refl w.heap.size w)
 have H : (if (a0_0.size : Int) <= 20 then ((impl_Plain.f k a0_0).bind fun t19 => (if t19 = true then ((impl_SmallName.f k a0_1).bind fun t20 => (if t20 = true then (if (a0_2.size : Int) <= 20 then ((impl_Plain.f k a0_2).bind fun t21 => (some t21)) else (some false)) else (some false))) else (some false))) else (some false)) = some r := h
 clear h
 by_cases c2 : (a0_0.size : Int) <= 20
 rotate_left
 . rw [if_neg c2] at H
   have c2b0 := decide_eq_false c2
   have c2b1 : decide (a0_0.size <= 20) = false := decide_eq_false (by omega)
   clear c2
   obtain rfl := si_ H
   go_enter Try.func93, Try.ntmps93
   go_wp2_with (first | ((with_reducible refine gd_ (N := 1) rfl ?_); (try (refine gate_guard (by rfl) ?_; dsimp only)); refine bx_ (N := 1) (cs := #[.string a0_0, .string a0_1, .string a0_2]) (t := 72) ?_; intro gb1 hg w17 hbox hb; have BK1 := A_ (hbox); have GW1 := A_ (ge_ hg bB_ : w.heap.size <= gb1); have GE1 := A_ (ge_ hg bB_ : w.heap.size <= gb1); replace HB := A_ (below_step bB_ hb); clear hb hbox hg; obtain ⟨hcz18_0, hcz18_1, hcz18_2, hfz18_0, hfz18_1, hfz18_2⟩ := cz3_ BK1.out))
   go_ret
   exact ⟨rr_, bG_ GE1.out⟩
 rw [if_pos c2] at H
 have c2b0 := decide_eq_true c2
 have c2b1 : decide (a0_0.size <= 20) = true := decide_eq_true (by omega)
 clear c2
 obtain ⟨t19, A3, H⟩ := bo_ H
 (try dsimp only at H)
 by_cases c4 : t19 = true
 . subst c4
   rw [if_pos rfl] at H
   obtain ⟨t20, A5, H⟩ := bo_ H
   (try dsimp only at H)
   by_cases c6 : t20 = true
   . subst c6
     rw [if_pos rfl] at H
     by_cases c7 : (a0_2.size : Int) <= 20
     rotate_left
     . rw [if_neg c7] at H
       have c7b0 := decide_eq_false c7
       have c7b1 : decide (a0_2.size <= 20) = false := decide_eq_false (by omega)
       clear c7
       obtain rfl := si_ H
       go_enter Try.func93, Try.ntmps93
       go_wp2_with (first | ((with_reducible refine gd_ (N := 1) rfl ?_); (try (refine gate_guard (by rfl) ?_; dsimp only)); refine bx_ (N := 1) (cs := #[.string a0_0, .string a0_1, .string a0_2]) (t := 72) ?_; intro gb1 hg w11 hbox hb; have BK1 := A_ (hbox); have GW1 := A_ (ge_ hg bB_ : w.heap.size <= gb1); have GE1 := A_ (ge_ hg bB_ : w.heap.size <= gb1); replace HB := A_ (below_step bB_ hb); clear hb hbox hg; obtain ⟨hcz12_0, hcz12_1, hcz12_2, hfz12_0, hfz12_1, hfz12_2⟩ := cz3_ BK1.out) | (go_at_call 123; (with_reducible refine (impl_Plain.calls k a0_0 true _ A3.out).mono ?_); rintro e w' ⟨rfl, ⟨nd, rfl⟩⟩) | (go_at_call 124; (with_reducible refine (impl_SmallName.calls k a0_1 true _ A5.out).mono ?_); rintro e w' ⟨rfl, ⟨nd, rfl⟩⟩))
       go_ret
       exact ⟨rr_, bG_ GE1.out⟩
     rw [if_pos c7] at H
     have c7b0 := decide_eq_true c7
     have c7b1 : decide (a0_2.size <= 20) = true := decide_eq_true (by omega)
     clear c7
     obtain ⟨t21, A8, H⟩ := bo_ H
     (try dsimp only at H)
     obtain rfl := si_ H
     go_enter Try.func93, Try.ntmps93
     go_wp2_with (first | ((with_reducible refine gd_ (N := 1) rfl ?_); (try (refine gate_guard (by rfl) ?_; dsimp only)); refine bx_ (N := 1) (cs := #[.string a0_0, .string a0_1, .string a0_2]) (t := 72) ?_; intro gb1 hg w9 hbox hb; have BK1 := A_ (hbox); have GW1 := A_ (ge_ hg bB_ : w.heap.size <= gb1); have GE1 := A_ (ge_ hg bB_ : w.heap.size <= gb1); replace HB := A_ (below_step bB_ hb); clear hb hbox hg; obtain ⟨hcz10_0, hcz10_1, hcz10_2, hfz10_0, hfz10_1, hfz10_2⟩ := cz3_ BK1.out) | (go_at_call 123; (with_reducible refine (impl_Plain.calls k a0_0 true _ A3.out).mono ?_); rintro e w' ⟨rfl, ⟨nd, rfl⟩⟩) | (go_at_call 124; (with_reducible refine (impl_SmallName.calls k a0_1 true _ A5.out).mono ?_); rintro e w' ⟨rfl, ⟨nd, rfl⟩⟩) | (go_at_call 123; (with_reducible refine (impl_Plain.calls k a0_2 t21 _ A8.out).mono ?_); rintro e w' ⟨rfl, ⟨nd, rfl⟩⟩))
     go_ret
     exact ⟨rr_, bG_ GE1.out⟩
   . replace c6 := Bool.eq_false_iff.mpr c6
     subst c6
     rw [if_neg nf_] at H
     obtain rfl := si_ H
     go_enter Try.func93, Try.ntmps93
     go_wp2_with (first | ((with_reducible refine gd_ (N := 1) rfl ?_); (try (refine gate_guard (by rfl) ?_; dsimp only)); refine bx_ (N := 1) (cs := #[.string a0_0, .string a0_1, .string a0_2]) (t := 72) ?_; intro gb1 hg w13 hbox hb; have BK1 := A_ (hbox); have GW1 := A_ (ge_ hg bB_ : w.heap.size <= gb1); have GE1 := A_ (ge_ hg bB_ : w.heap.size <= gb1); replace HB := A_ (below_step bB_ hb); clear hb hbox hg; obtain ⟨hcz14_0, hcz14_1, hcz14_2, hfz14_0, hfz14_1, hfz14_2⟩ := cz3_ BK1.out) | (go_at_call 123; (with_reducible refine (impl_Plain.calls k a0_0 true _ A3.out).mono ?_); rintro e w' ⟨rfl, ⟨nd, rfl⟩⟩) | (go_at_call 124; (with_reducible refine (impl_SmallName.calls k a0_1 false _ A5.out).mono ?_); rintro e w' ⟨rfl, ⟨nd, rfl⟩⟩))
     go_ret
     exact ⟨rr_, bG_ GE1.out⟩
 . replace c4 := Bool.eq_false_iff.mpr c4
   subst c4
   rw [if_neg nf_] at H
   obtain rfl := si_ H
   go_enter Try.func93, Try.ntmps93
   go_wp2_with (first | ((with_reducible refine gd_ (N := 1) rfl ?_); (try (refine gate_guard (by rfl) ?_; dsimp only)); refine bx_ (N := 1) (cs := #[.string a0_0, .string a0_1, .string a0_2]) (t := 72) ?_; intro gb1 hg w15 hbox hb; have BK1 := A_ (hbox); have GW1 := A_ (ge_ hg bB_ : w.heap.size <= gb1); have GE1 := A_ (ge_ hg bB_ : w.heap.size <= gb1); replace HB := A_ (below_step bB_ hb); clear hb hbox hg; obtain ⟨hcz16_0, hcz16_1, hcz16_2, hfz16_0, hfz16_1, hfz16_2⟩ := cz3_ BK1.out) | (go_at_call 123; (with_reducible refine (impl_Plain.calls k a0_0 false _ A3.out).mono ?_); rintro e w' ⟨rfl, ⟨nd, rfl⟩⟩))
   go_ret
   exact ⟨rr_, bG_ GE1.out⟩
def impl_lessProp.f (a0_0 : ByteArray) (a0_1 : ByteArray) (a0_2 : ByteArray) (a1_0 : ByteArray) (a1_1 : ByteArray) (a1_2 : ByteArray) : Option (Bool) := if (Op.bytesLess a0_0.toList a1_0.toList) = true then (some true) else (if a0_0.toList = a1_0.toList then (some (Op.bytesLess a0_1.toList a1_1.toList)) else (some false))
theorem impl_lessProp.calls (a0_0 : ByteArray) (a0_1 : ByteArray) (a0_2 : ByteArray) (a1_0 : ByteArray) (a1_1 : ByteArray) (a1_2 : ByteArray) (r : Bool) (w : World) (h : impl_lessProp.f a0_0 a0_1 a0_2 a1_0 a1_1 a1_2 = some r) :
 Calls Try.prog 100 #[.agg #[.string a0_0, .string a0_1, .string a0_2], .agg #[.string a1_0, .string a1_1, .string a1_2]] w fun e w' => e = .returned (.bool r) /\ Below w.heap.size w w' := by
 have hu72 := Try.underlying72
 have HB := A_ (Below.refl w.heap.size w)
 have H : (if (Op.bytesLess a0_0.toList a1_0.toList) = true then (some true) else (if a0_0.toList = a1_0.toList then (some (Op.bytesLess a0_1.toList a1_1.toList)) else (some false))) = some r := h
 clear h
 by_cases c3 : (Op.bytesLess a0_0.toList a1_0.toList) = true
 . rw [if_pos c3] at H
   have c3b0 : (Op.bytesLess a0_0.toList a1_0.toList) = true := c3
   clear c3
   obtain rfl := si_ H
   go_enter Try.func100, Try.ntmps100
   go_wp2_with (first | ((with_reducible refine gd_ (N := 2) rfl ?_); refine bx_ (N := 2) (cs := #[.string a0_0, .string a0_1, .string a0_2]) (t := 72) ?_; intro gb2 hg w4 hbox hb; have BK2 := A_ (hbox); have GW2 := A_ (ge_ hg bB_ : w.heap.size <= gb2); have GE2 := A_ (ge_ hg bB_ : w.heap.size <= gb2); replace HB := A_ (below_step bB_ hb); clear hb hbox hg) | ((with_reducible refine gd_ (N := 3) rfl ?_); refine bx_ (N := 3) (cs := #[.string a1_0, .string a1_1, .string a1_2]) (t := 72) ?_; intro gb20 hg w5 hbox hb; have BK20 := A_ (hbox); have GW20 := A_ (ge_ hg (bG_ GE2.out) : w.heap.size <= gb20); have GE20 := A_ (ge_ hg (bG_ GE2.out) : w.heap.size <= gb20); replace HB := A_ (below_step (bG_ GE2.out) hb); have NB293_294 := A_ (gm_ hg BK2.out); have NB294_293 := A_ (gn_ hg BK2.out); replace BK2 := A_ (bw_ BK2.out hb); clear hb hbox hg; have hnb6 := NB293_294.out; have hnc6 := NB294_293.out; obtain ⟨hcz7_0, hcz7_1, hcz7_2, hfz7_0, hfz7_1, hfz7_2⟩ := cz3_ BK2.out; obtain ⟨hcz8_0, hcz8_1, hcz8_2, hfz8_0, hfz8_1, hfz8_2⟩ := cz3_ BK20.out))
   go_ret
   exact ⟨rr_, by repeat (first | (with_reducible first | exact HB.out | apply below_alloc | apply pw_below_drewN | apply below_drew1 | refine below_set ?_ GE2.out | refine below_set ?_ GE20.out) | exact HB.out)⟩
 rw [if_neg c3] at H
 have c3b0 : (Op.bytesLess a0_0.toList a1_0.toList) = false := by simpa using c3
 clear c3
 by_cases c9 : a0_0.toList = a1_0.toList
 rotate_left
 . rw [if_neg c9] at H
   obtain ⟨c9b0, c9b1⟩ := eF_ c9
   obtain rfl := si_ H
   go_enter Try.func100, Try.ntmps100
   go_wp2_with (first | ((with_reducible refine gd_ (N := 2) rfl ?_); refine bx_ (N := 2) (cs := #[.string a0_0, .string a0_1, .string a0_2]) (t := 72) ?_; intro gb2 hg w15 hbox hb; have BK2 := A_ (hbox); have GW2 := A_ (ge_ hg bB_ : w.heap.size <= gb2); have GE2 := A_ (ge_ hg bB_ : w.heap.size <= gb2); replace HB := A_ (below_step bB_ hb); clear hb hbox hg) | ((with_reducible refine gd_ (N := 3) rfl ?_); refine bx_ (N := 3) (cs := #[.string a1_0, .string a1_1, .string a1_2]) (t := 72) ?_; intro gb20 hg w16 hbox hb; have BK20 := A_ (hbox); have GW20 := A_ (ge_ hg (bG_ GE2.out) : w.heap.size <= gb20); have GE20 := A_ (ge_ hg (bG_ GE2.out) : w.heap.size <= gb20); replace HB := A_ (below_step (bG_ GE2.out) hb); have NB293_294 := A_ (gm_ hg BK2.out); have NB294_293 := A_ (gn_ hg BK2.out); replace BK2 := A_ (bw_ BK2.out hb); clear hb hbox hg; have hnb17 := NB293_294.out; have hnc17 := NB294_293.out; obtain ⟨hcz18_0, hcz18_1, hcz18_2, hfz18_0, hfz18_1, hfz18_2⟩ := cz3_ BK2.out; obtain ⟨hcz19_0, hcz19_1, hcz19_2, hfz19_0, hfz19_1, hfz19_2⟩ := cz3_ BK20.out))
   go_ret
   exact ⟨rr_, by repeat (first | (with_reducible first | exact HB.out | apply below_alloc | apply pw_below_drewN | apply below_drew1 | refine below_set ?_ GE2.out | refine below_set ?_ GE20.out) | exact HB.out)⟩
 rw [if_pos c9] at H
 obtain ⟨c9b0, c9b1⟩ := eT_ c9
 clear c9
 obtain rfl := si_ H
 go_enter Try.func100, Try.ntmps100
 go_wp2_with (first | ((with_reducible refine gd_ (N := 2) rfl ?_); refine bx_ (N := 2) (cs := #[.string a0_0, .string a0_1, .string a0_2]) (t := 72) ?_; intro gb2 hg w10 hbox hb; have BK2 := A_ (hbox); have GW2 := A_ (ge_ hg bB_ : w.heap.size <= gb2); have GE2 := A_ (ge_ hg bB_ : w.heap.size <= gb2); replace HB := A_ (below_step bB_ hb); clear hb hbox hg) | ((with_reducible refine gd_ (N := 3) rfl ?_); refine bx_ (N := 3) (cs := #[.string a1_0, .string a1_1, .string a1_2]) (t := 72) ?_; intro gb20 hg w11 hbox hb; have BK20 := A_ (hbox); have GW20 := A_ (ge_ hg (bG_ GE2.out) : w.heap.size <= gb20); have GE20 := A_ (ge_ hg (bG_ GE2.out) : w.heap.size <= gb20); replace HB := A_ (below_step (bG_ GE2.out) hb); have NB293_294 := A_ (gm_ hg BK2.out); have NB294_293 := A_ (gn_ hg BK2.out); replace BK2 := A_ (bw_ BK2.out hb); clear hb hbox hg; have hnb12 := NB293_294.out; have hnc12 := NB294_293.out; obtain ⟨hcz13_0, hcz13_1, hcz13_2, hfz13_0, hfz13_1, hfz13_2⟩ := cz3_ BK2.out; obtain ⟨hcz14_0, hcz14_1, hcz14_2, hfz14_0, hfz14_1, hfz14_2⟩ := cz3_ BK20.out))
 go_ret
 exact ⟨rr_, by repeat (first | (with_reducible first | exact HB.out | apply below_alloc | apply pw_below_drewN | apply below_drew1 | refine below_set ?_ GE2.out | refine below_set ?_ GE20.out) | exact HB.out)⟩
def impl_PropsOk.l0 : Nat -> List (S72) -> List (S72) -> Int -> Int -> Option (Bool)
 | 0, _, _, _, _ => none
 | k + 1, x0, x5, x6, x7 => if x7 < x6 then (if 0 <= x7 then (if x7 < (x5.length : Int) then ((impl_propOk.f k ((rd_T72 x5 x7).f0) ((rd_T72 x5 x7).f1) ((rd_T72 x5 x7).f2)).bind fun t297 => (if t297 = true then (if x7 > 0 then (if 0 <= (wrap64 (x7 - 1)) then (if (wrap64 (x7 - 1)) < (x0.length : Int) then ((impl_lessProp.f ((rd_T72 x0 (wrap64 (x7 - 1))).f0) ((rd_T72 x0 (wrap64 (x7 - 1))).f1) ((rd_T72 x0 (wrap64 (x7 - 1))).f2) ((rd_T72 x5 x7).f0) ((rd_T72 x5 x7).f1) ((rd_T72 x5 x7).f2)).bind fun t299 => (if t299 = true then (impl_PropsOk.l0 k x0 x5 x6 (wrap64 (x7 + 1))) else (some false))) else (none)) else (none)) else (impl_PropsOk.l0 k x0 x5 x6 (wrap64 (x7 + 1)))) else (some false))) else (none)) else (none)) else (some (decide ((x0.length : Int) <= 4)))
def impl_PropsOk.f (k : Nat) (l0 : List (S72)) : Option (Bool) := impl_PropsOk.l0 k l0 l0 (l0.length : Int) 0
def impl_PropsOk.T4 : Bool × List (List Nat × List Nat) := (true, [([], []), ([0], [0]), ([1], [1]), ([2, 1], [2]), ([3], [3]), ([4, 3], [3, 4]), ([5, 3, 3], [3, 5]), ([6], [6]), ([6], [6]), ([8, 6], [6, 8]), ([7, 9, 6], [6, 7, 9]), ([10, 6], [6, 10]), ([6], [6]), ([11, 12, 6, 6], [6, 11, 12]), ([13, 6], [6, 13]), ([6, 14, 3], [3, 6, 14]), ([3, 15], [3, 15])])
def impl_PropsOk.B4 : List Nat := [0, 1, 3, 7, 15, 31, 63, 127, 127, 383, 1023, 2047, 127, 8191, 16383, 32767, 65535]
theorem impl_PropsOk.tab4 : rtab .any (opsOf Try.f58 4) = impl_PropsOk.T4 := by kernel_rfl
theorem impl_PropsOk.bits4 : waitsOk impl_PropsOk.T4.2 impl_PropsOk.B4 = true := by kernel_rfl
set_option maxHeartbeats 8000000 in
set_option maxRecDepth 100000 in
theorem impl_PropsOk.calls (k : Nat) (A0 : Option Addr) (c0 : Nat) (l0 : List (S72)) (r : Bool) (w : World) (hr0 : Kd.C k72 w A0 l0.length l0) (hc0 : l0.length <= c0) (h : impl_PropsOk.f k l0 = some r) :
 Calls Try.prog 58 #[.slice A0 l0.length c0] w fun e w' => e = .returned (.bool r) /\ Below w.heap.size w w' := by
 have hu72 := Try.underlying72
 have HR0 := A_ hr0
 clear hr0 hc0
 have HB := A_ (Below.refl w.heap.size w)
 have H : (impl_PropsOk.l0 k l0 l0 (l0.length : Int) 0) = some r := h
 clear h
 have H' := A_ H
 clear H
 go_enter Try.func58, Try.ntmps58
 go_wp2
 go_loopg [7] k (fun kq v7 w' => ∃ (x7_1 : Int), v7 = .int .i64 x7_1 /\ Aside0 (impl_PropsOk.l0 kq l0 l0 (l0.length : Int) x7_1 = some r) /\ Aside0 (kq <= k) /\ Aside0 (Below w.heap.size w w'))
 case atStart => exact ⟨(0), rs_, H', ⟨Nat.le_refl _⟩, ⟨bB_⟩⟩
 case round =>
  clear H'
  obtain ⟨x7_1, rfl, HA, HK1, HB⟩ := hrel
  cases gk with
  | zero => exact absurd HA.out (by simp [impl_PropsOk.l0])
  | succ k1 =>
   have H := HA.out
   clear HA
   simp only [impl_PropsOk.l0] at H
   by_cases c2 : x7_1 < (l0.length : Int)
   rotate_left
   . rw [if_neg c2] at H
     have c2b0 := decide_eq_false c2
     clear c2
     obtain rfl := si_ H
     go_wp2
     go_ret
     exact ⟨rr_, bB_⟩
   rw [if_pos c2] at H
   have c2b0 := decide_eq_true c2
   clear c2
   by_cases c3 : 0 <= x7_1
   rotate_left
   . exact absurd H (by rw [if_neg c3]; simp)
   rw [if_pos c3] at H
   have c3b0 := decide_eq_true c3
   clear c3
   by_cases c4 : x7_1 < (l0.length : Int)
   rotate_left
   . exact absurd H (by rw [if_neg c4]; simp)
   rw [if_pos c4] at H
   have c4b0 := decide_eq_true c4
   clear c4
   obtain ⟨t39, A5, H⟩ := bo_ H
   (try dsimp only at H)
   by_cases c6 : t39 = true
   . subst c6
     rw [if_pos rfl] at H
     by_cases c7 : x7_1 > 0
     rotate_left
     . rw [if_neg c7] at H
       have c7b0 : decide (0 < x7_1) = false := decide_eq_false c7
       clear c7
       have H' := A_ H
       clear H
       have p36 : 0 <= (x7_1 : Int) := od_
       have q36 : x7_1 < (l0.length : Int) := od_
       obtain ⟨ad36, e36, hx36_0, hx36_1, hx36_2⟩ := at_T72 HR0.out x7_1 p36 q36
       cases e36
       replace hx36_0 := bc_ HB.out hx36_0
       replace hx36_1 := bc_ HB.out hx36_1
       replace hx36_2 := bc_ HB.out hx36_2
       replace p36 := eq_true p36
       replace q36 := eq_true q36
       try go_wp2_with (first | ((with_reducible refine gd_ (N := 4) rfl ?_); refine bx_ (N := 4) (cs := #[.string (⟨#[]⟩ : ByteArray), .string (⟨#[]⟩ : ByteArray), .string (⟨#[]⟩ : ByteArray)]) (t := 72) ?_; intro gb35 hg w25 hbox hb; have BK35 := A_ (hbox); have GW35 := A_ (ge_ hg bB_ : w.heap.size <= gb35); have GE35 := A_ (ge_ hg bB_ : w.heap.size <= gb35); replace HB := A_ (below_step bB_ hb); clear hb hbox hg; obtain ⟨hcz26_0, hcz26_1, hcz26_2, hfz26_0, hfz26_1, hfz26_2⟩ := cz3_ BK35.out))
       obtain ⟨w27, hW_⟩ : ∃ w_, w_ = (((w25.setCell ⟨gb35, 0, none⟩ (.string ((rd_T72 l0 x7_1).f0))).setCell ⟨gb35, 1, none⟩ (.string ((rd_T72 l0 x7_1).f1))).setCell ⟨gb35, 2, none⟩ (.string ((rd_T72 l0 x7_1).f2))) := ⟨_, rfl⟩
       have n0_ : Aside0 (w27.heap[gb35]? = some (.cells #[.string ((rd_T72 l0 x7_1).f0), .string ((rd_T72 l0 x7_1).f1), .string ((rd_T72 l0 x7_1).f2)] 72 (0, 0))) := ⟨by rw [hW_]; (with_reducible repeat (first | refine blk_drewN ?_ _ | refine blk_drew ?_ | refine blk_alloc ?_ _)); with_reducible exact p3_012_ (vb_ BK35.out)⟩
       have n1_ : Aside0 (Below w.heap.size w w27) := ⟨by rw [hW_]; exact bG_ GE35.out⟩
       (try clear BK35)
       (try clear HB)
       rw [← hW_]
       clear hW_
       have BK35 := n0_
       have HB := n1_
       clear n0_ n1_
       replace BK35 := A_ (blk_drew BK35.out)
       replace HB := A_ (below_drew1 HB.out)
       refine st3_ (n := 17) (ds := []) (bl_ BK35.out 0) (bl_ BK35.out 1) (bl_ BK35.out 2) (fun hHeld => ?_); refine with_tabW impl_PropsOk.tab4 impl_PropsOk.bits4 (fun HT_ HW_ => ?_)
       generalize w27.drew = w28 at BK35 HB hHeld ⊢
       refine tk_ (i := 0) (N := some 12) hHeld ?_
       refine on_ (i := 1) (N := some 13) (fun K hK => ?_)
       refine goes_ Try.func93 (by kernel_rfl) rfl #[.agg #[.string ((rd_T72 l0 x7_1).f0), .string ((rd_T72 l0 x7_1).f1), .string ((rd_T72 l0 x7_1).f2)]] (by rfl) rfl rfl ml_ ?_
       with_reducible refine (impl_propOk.calls k1 ((rd_T72 l0 x7_1).f0) ((rd_T72 l0 x7_1).f1) ((rd_T72 l0 x7_1).f2) true _ A5.out).mono ?_
       rintro e w29 ⟨rfl, hb⟩
       refine ⟨_, rfl, ?_⟩
       replace BK35 := A_ (bw_ BK35.out hb)
       replace HB := A_ (below_step (bG_ GE35.out) hb)
       clear hb
       refine hK.out _ _ (hl_ BK35.out) (fun hHeld => ?_)
       clear hK K
       refine no_ (some 13) ?_
       refine pu_ (i := 2) (N := some 14) ?_
       refine pu_ (i := 3) (N := some 15) ?_
       refine pu_ (i := 4) (N := some 16) ?_
       refine pu_ (i := 5) (N := some 17) ?_
       refine pu_ (i := 6) (N := some 18) ?_
       refine pn_ (i := 7) (N := some 19) ?_
       refine pn_ (i := 8) (N := some 20) ?_
       refine pn_ (i := 9) (N := some 21) ?_
       refine pn_ (i := 10) (N := some 22) ?_
       refine pn_ (i := 11) (N := some 23) ?_
       refine pn_ (i := 12) (N := some 24) ?_
       refine pn_ (i := 13) (N := some 25) ?_
       refine pn_ (i := 14) (N := some 26) ?_
       refine pu_ (i := 15) (N := some 27) ?_
       refine pu_ (i := 16) (N := some 28) ?_
       refine done_ (done_of HT_.out (by kernel_rfl)) ?_
       (try clear hHeld)
       try go_wp2
       go_roundg k1
       case measure => have := HK1.out; omega
       case rel => exact ⟨(wrap64 (x7_1 + 1)), rs_, H', ⟨by have := HK1.out; omega⟩, ⟨bG_ GE35.out⟩⟩
     rw [if_pos c7] at H
     have c7b0 : decide (0 < x7_1) = true := decide_eq_true c7
     clear c7
     obtain ⟨ji8, hji8⟩ : ∃ j_ : Int, (wrap64 (x7_1 - 1)) = j_ := ⟨_, rfl⟩
     replace H : (if 0 <= (ji8) then (if (ji8) < (l0.length : Int) then ((impl_lessProp.f ((rd_T72 l0 (ji8)).f0) ((rd_T72 l0 (ji8)).f1) ((rd_T72 l0 (ji8)).f2) ((rd_T72 l0 x7_1).f0) ((rd_T72 l0 x7_1).f1) ((rd_T72 l0 x7_1).f2)).bind fun t38 => (if t38 = true then (impl_PropsOk.l0 k1 l0 l0 (l0.length : Int) (wrap64 (x7_1 + 1))) else (some false))) else (none)) else (none)) = some r := by first | (rw [hji8] at H; exact H) | (simp only [hji8] at H ⊢; exact H)
     (try rw [hji8] at A5)
     have hji8w : (IntKind.i64.wrap (x7_1 - 1)) = ji8 := (i64_w _).trans hji8
     by_cases c9 : 0 <= (ji8)
     rotate_left
     . exact absurd H (by rw [if_neg c9]; simp)
     rw [if_pos c9] at H
     have c9b0 := decide_eq_true c9
     clear c9
     by_cases c10 : (ji8) < (l0.length : Int)
     rotate_left
     . exact absurd H (by rw [if_neg c10]; simp)
     rw [if_pos c10] at H
     have c10b0 := decide_eq_true c10
     clear c10
     obtain ⟨t38, A11, H⟩ := bo_ H
     (try dsimp only at H)
     by_cases c12 : t38 = true
     . subst c12
       rw [if_pos rfl] at H
       have H' := A_ H
       clear H
       have p36 : 0 <= (x7_1 : Int) := od_
       have q36 : x7_1 < (l0.length : Int) := od_
       obtain ⟨ad36, e36, hx36_0, hx36_1, hx36_2⟩ := at_T72 HR0.out x7_1 p36 q36
       cases e36
       replace hx36_0 := bc_ HB.out hx36_0
       replace hx36_1 := bc_ HB.out hx36_1
       replace hx36_2 := bc_ HB.out hx36_2
       replace p36 := eq_true p36
       replace q36 := eq_true q36
       try go_wp2_with (first | ((with_reducible refine gd_ (N := 4) rfl ?_); refine bx_ (N := 4) (cs := #[.string (⟨#[]⟩ : ByteArray), .string (⟨#[]⟩ : ByteArray), .string (⟨#[]⟩ : ByteArray)]) (t := 72) ?_; intro gb35 hg w13 hbox hb; have BK35 := A_ (hbox); have GW35 := A_ (ge_ hg bB_ : w.heap.size <= gb35); have GE35 := A_ (ge_ hg bB_ : w.heap.size <= gb35); replace HB := A_ (below_step bB_ hb); clear hb hbox hg; obtain ⟨hcz14_0, hcz14_1, hcz14_2, hfz14_0, hfz14_1, hfz14_2⟩ := cz3_ BK35.out))
       obtain ⟨w15, hW_⟩ : ∃ w_, w_ = (((w13.setCell ⟨gb35, 0, none⟩ (.string ((rd_T72 l0 x7_1).f0))).setCell ⟨gb35, 1, none⟩ (.string ((rd_T72 l0 x7_1).f1))).setCell ⟨gb35, 2, none⟩ (.string ((rd_T72 l0 x7_1).f2))) := ⟨_, rfl⟩
       have n0_ : Aside0 (w15.heap[gb35]? = some (.cells #[.string ((rd_T72 l0 x7_1).f0), .string ((rd_T72 l0 x7_1).f1), .string ((rd_T72 l0 x7_1).f2)] 72 (0, 0))) := ⟨by rw [hW_]; (with_reducible repeat (first | refine blk_drewN ?_ _ | refine blk_drew ?_ | refine blk_alloc ?_ _)); with_reducible exact p3_012_ (vb_ BK35.out)⟩
       have n1_ : Aside0 (Below w.heap.size w w15) := ⟨by rw [hW_]; exact bG_ GE35.out⟩
       (try clear BK35)
       (try clear HB)
       rw [← hW_]
       clear hW_
       have BK35 := n0_
       have HB := n1_
       clear n0_ n1_
       replace BK35 := A_ (blk_drew BK35.out)
       replace HB := A_ (below_drew1 HB.out)
       have p37 : 0 <= ((ji8) : Int) := od_
       have q37 : (ji8) < (l0.length : Int) := od_
       obtain ⟨ad37, e37, hx37_0, hx37_1, hx37_2⟩ := at_T72 HR0.out (ji8) p37 q37
       have hw37_2 := hx37_2
       have hw37_1 := hx37_1
       have hw37_0 := hx37_0
       obtain rfl : ad36 = ad37 := (by injection e37)
       replace hx37_0 := bc_ HB.out hx37_0
       replace hx37_1 := bc_ HB.out hx37_1
       replace hx37_2 := bc_ HB.out hx37_2
       replace p37 := eq_true p37
       replace q37 := eq_true q37
       refine st6_ (n := 17) (ds := []) (bl_ BK35.out 0) (bl_ BK35.out 1) (bl_ BK35.out 2) (be_ hw37_0) (be_ hw37_1) (be_ hw37_2) (fun hHeld => ?_); refine with_tabW impl_PropsOk.tab4 impl_PropsOk.bits4 (fun HT_ HW_ => ?_)
       generalize w15.drew = w16 at BK35 HB hx37_0 hx37_1 hx37_2 hHeld ⊢
       refine tk_ (i := 0) (N := some 12) hHeld ?_
       refine on_ (i := 1) (N := some 13) (fun K hK => ?_)
       refine goes_ Try.func93 (by kernel_rfl) rfl #[.agg #[.string ((rd_T72 l0 x7_1).f0), .string ((rd_T72 l0 x7_1).f1), .string ((rd_T72 l0 x7_1).f2)]] (by rfl) rfl rfl ml_ ?_
       with_reducible refine (impl_propOk.calls k1 ((rd_T72 l0 x7_1).f0) ((rd_T72 l0 x7_1).f1) ((rd_T72 l0 x7_1).f2) true _ A5.out).mono ?_
       rintro e w17 ⟨rfl, hb⟩
       refine ⟨_, rfl, ?_⟩
       replace BK35 := A_ (bw_ BK35.out hb)
       replace HB := A_ (below_step (bG_ GE35.out) hb)
       clear hb
       refine hK.out _ _ ⟨bl_ BK35.out 0, bl_ BK35.out 1, bl_ BK35.out 2, (be_ hw37_0), (be_ hw37_1), (be_ hw37_2)⟩ (fun hHeld => ?_)
       clear hK K
       refine no_ (some 13) ?_
       refine pu_ (i := 2) (N := some 14) ?_
       refine pu_ (i := 3) (N := some 15) ?_
       refine pu_ (i := 4) (N := some 16) ?_
       refine pu_ (i := 5) (N := some 17) ?_
       refine pu_ (i := 6) (N := some 18) ?_
       refine pu_ (i := 7) (N := some 19) ?_
       refine pu_ (i := 8) (N := some 20) ?_
       refine pu_ (i := 9) (N := some 21) ?_
       refine pu_ (i := 10) (N := some 22) ?_
       refine tk_ (i := 11) (N := some 23) hHeld ?_
       refine tk_ (i := 12) (N := some 24) hHeld ?_
       refine on_ (i := 13) (N := some 25) (fun K hK => ?_)
       refine goes_ Try.func100 (by kernel_rfl) rfl #[.agg #[.string ((rd_T72 l0 (ji8)).f0), .string ((rd_T72 l0 (ji8)).f1), .string ((rd_T72 l0 (ji8)).f2)], .agg #[.string ((rd_T72 l0 x7_1).f0), .string ((rd_T72 l0 x7_1).f1), .string ((rd_T72 l0 x7_1).f2)]] (by rfl) rfl rfl (by (try simp only [List.map_toArray, List.map_cons, List.map_nil]); first | done | (simp only [hji8]; rfl) | rfl | (simp only [List.length_drop, List.length_take]; rfl)) ?_
       with_reducible refine (impl_lessProp.calls ((rd_T72 l0 (ji8)).f0) ((rd_T72 l0 (ji8)).f1) ((rd_T72 l0 (ji8)).f2) ((rd_T72 l0 x7_1).f0) ((rd_T72 l0 x7_1).f1) ((rd_T72 l0 x7_1).f2) true _ A11.out).mono ?_
       rintro e w18 ⟨rfl, hb⟩
       refine ⟨_, rfl, ?_⟩
       replace BK35 := A_ (bw_ BK35.out hb)
       replace HB := A_ (below_step (bG_ GE35.out) hb)
       clear hb
       refine hK.out _ _ ⟨bl_ BK35.out 0, bl_ BK35.out 1, bl_ BK35.out 2, (be_ hw37_0), (be_ hw37_1), (be_ hw37_2)⟩ (fun hHeld => ?_)
       clear hK K
       refine no_ (some 25) ?_
       refine pu_ (i := 14) (N := some 26) ?_
       refine pu_ (i := 15) (N := some 27) ?_
       refine pu_ (i := 16) (N := some 28) ?_
       refine done_ (done_of HT_.out (by kernel_rfl)) ?_
       (try clear hHeld)
       try go_wp2
       go_roundg k1
       case measure => have := HK1.out; omega
       case rel => exact ⟨(wrap64 (x7_1 + 1)), rs_, H', ⟨by have := HK1.out; omega⟩, ⟨bG_ GE35.out⟩⟩
     . replace c12 := Bool.eq_false_iff.mpr c12
       subst c12
       rw [if_neg nf_] at H
       obtain rfl := si_ H
       have p36 : 0 <= (x7_1 : Int) := od_
       have q36 : x7_1 < (l0.length : Int) := od_
       obtain ⟨ad36, e36, hx36_0, hx36_1, hx36_2⟩ := at_T72 HR0.out x7_1 p36 q36
       cases e36
       replace hx36_0 := bc_ HB.out hx36_0
       replace hx36_1 := bc_ HB.out hx36_1
       replace hx36_2 := bc_ HB.out hx36_2
       replace p36 := eq_true p36
       replace q36 := eq_true q36
       try go_wp2_with (first | ((with_reducible refine gd_ (N := 4) rfl ?_); refine bx_ (N := 4) (cs := #[.string (⟨#[]⟩ : ByteArray), .string (⟨#[]⟩ : ByteArray), .string (⟨#[]⟩ : ByteArray)]) (t := 72) ?_; intro gb35 hg w19 hbox hb; have BK35 := A_ (hbox); have GW35 := A_ (ge_ hg bB_ : w.heap.size <= gb35); have GE35 := A_ (ge_ hg bB_ : w.heap.size <= gb35); replace HB := A_ (below_step bB_ hb); clear hb hbox hg; obtain ⟨hcz20_0, hcz20_1, hcz20_2, hfz20_0, hfz20_1, hfz20_2⟩ := cz3_ BK35.out))
       obtain ⟨w21, hW_⟩ : ∃ w_, w_ = (((w19.setCell ⟨gb35, 0, none⟩ (.string ((rd_T72 l0 x7_1).f0))).setCell ⟨gb35, 1, none⟩ (.string ((rd_T72 l0 x7_1).f1))).setCell ⟨gb35, 2, none⟩ (.string ((rd_T72 l0 x7_1).f2))) := ⟨_, rfl⟩
       have n0_ : Aside0 (w21.heap[gb35]? = some (.cells #[.string ((rd_T72 l0 x7_1).f0), .string ((rd_T72 l0 x7_1).f1), .string ((rd_T72 l0 x7_1).f2)] 72 (0, 0))) := ⟨by rw [hW_]; (with_reducible repeat (first | refine blk_drewN ?_ _ | refine blk_drew ?_ | refine blk_alloc ?_ _)); with_reducible exact p3_012_ (vb_ BK35.out)⟩
       have n1_ : Aside0 (Below w.heap.size w w21) := ⟨by rw [hW_]; exact bG_ GE35.out⟩
       (try clear BK35)
       (try clear HB)
       rw [← hW_]
       clear hW_
       have BK35 := n0_
       have HB := n1_
       clear n0_ n1_
       replace BK35 := A_ (blk_drew BK35.out)
       replace HB := A_ (below_drew1 HB.out)
       have p37 : 0 <= ((ji8) : Int) := od_
       have q37 : (ji8) < (l0.length : Int) := od_
       obtain ⟨ad37, e37, hx37_0, hx37_1, hx37_2⟩ := at_T72 HR0.out (ji8) p37 q37
       have hw37_2 := hx37_2
       have hw37_1 := hx37_1
       have hw37_0 := hx37_0
       obtain rfl : ad36 = ad37 := (by injection e37)
       replace hx37_0 := bc_ HB.out hx37_0
       replace hx37_1 := bc_ HB.out hx37_1
       replace hx37_2 := bc_ HB.out hx37_2
       replace p37 := eq_true p37
       replace q37 := eq_true q37
       refine st6_ (n := 17) (ds := []) (bl_ BK35.out 0) (bl_ BK35.out 1) (bl_ BK35.out 2) (be_ hw37_0) (be_ hw37_1) (be_ hw37_2) (fun hHeld => ?_); refine with_tabW impl_PropsOk.tab4 impl_PropsOk.bits4 (fun HT_ HW_ => ?_)
       generalize w21.drew = w22 at BK35 HB hx37_0 hx37_1 hx37_2 hHeld ⊢
       refine tk_ (i := 0) (N := some 12) hHeld ?_
       refine on_ (i := 1) (N := some 13) (fun K hK => ?_)
       refine goes_ Try.func93 (by kernel_rfl) rfl #[.agg #[.string ((rd_T72 l0 x7_1).f0), .string ((rd_T72 l0 x7_1).f1), .string ((rd_T72 l0 x7_1).f2)]] (by rfl) rfl rfl ml_ ?_
       with_reducible refine (impl_propOk.calls k1 ((rd_T72 l0 x7_1).f0) ((rd_T72 l0 x7_1).f1) ((rd_T72 l0 x7_1).f2) true _ A5.out).mono ?_
       rintro e w23 ⟨rfl, hb⟩
       refine ⟨_, rfl, ?_⟩
       replace BK35 := A_ (bw_ BK35.out hb)
       replace HB := A_ (below_step (bG_ GE35.out) hb)
       clear hb
       refine hK.out _ _ ⟨bl_ BK35.out 0, bl_ BK35.out 1, bl_ BK35.out 2, (be_ hw37_0), (be_ hw37_1), (be_ hw37_2)⟩ (fun hHeld => ?_)
       clear hK K
       refine no_ (some 13) ?_
       refine pu_ (i := 2) (N := some 14) ?_
       refine pu_ (i := 3) (N := some 15) ?_
       refine pu_ (i := 4) (N := some 16) ?_
       refine pu_ (i := 5) (N := some 17) ?_
       refine pu_ (i := 6) (N := some 18) ?_
       refine pu_ (i := 7) (N := some 19) ?_
       refine pu_ (i := 8) (N := some 20) ?_
       refine pu_ (i := 9) (N := some 21) ?_
       refine pu_ (i := 10) (N := some 22) ?_
       refine tk_ (i := 11) (N := some 23) hHeld ?_
       refine tk_ (i := 12) (N := some 24) hHeld ?_
       refine on_ (i := 13) (N := some 25) (fun K hK => ?_)
       refine goes_ Try.func100 (by kernel_rfl) rfl #[.agg #[.string ((rd_T72 l0 (ji8)).f0), .string ((rd_T72 l0 (ji8)).f1), .string ((rd_T72 l0 (ji8)).f2)], .agg #[.string ((rd_T72 l0 x7_1).f0), .string ((rd_T72 l0 x7_1).f1), .string ((rd_T72 l0 x7_1).f2)]] (by rfl) rfl rfl (by (try simp only [List.map_toArray, List.map_cons, List.map_nil]); first | done | (simp only [hji8]; rfl) | rfl | (simp only [List.length_drop, List.length_take]; rfl)) ?_
       with_reducible refine (impl_lessProp.calls ((rd_T72 l0 (ji8)).f0) ((rd_T72 l0 (ji8)).f1) ((rd_T72 l0 (ji8)).f2) ((rd_T72 l0 x7_1).f0) ((rd_T72 l0 x7_1).f1) ((rd_T72 l0 x7_1).f2) false _ A11.out).mono ?_
       rintro e w24 ⟨rfl, hb⟩
       refine ⟨_, rfl, ?_⟩
       replace BK35 := A_ (bw_ BK35.out hb)
       replace HB := A_ (below_step (bG_ GE35.out) hb)
       clear hb
       refine hK.out _ _ ⟨bl_ BK35.out 0, bl_ BK35.out 1, bl_ BK35.out 2, (be_ hw37_0), (be_ hw37_1), (be_ hw37_2)⟩ (fun hHeld => ?_)
       clear hK K
       refine no_ (some 25) ?_
       refine pu_ (i := 14) (N := some 26) ?_
       refine pu_ (i := 15) (N := some 27) ?_
       refine pu_ (i := 16) (N := some 28) ?_
       refine done_ (done_of HT_.out (by kernel_rfl)) ?_
       (try clear hHeld)
       try go_wp2
       go_ret
       exact ⟨by first | rfl | (simp [errW_none, errW_some] <;> rfl) | (simp only [← hji8]; first | rfl | (simp [errW_none, errW_some] <;> rfl)) | (simp [*, errW_none, errW_some] <;> rfl), bG_ GE35.out⟩
   . replace c6 := Bool.eq_false_iff.mpr c6
     subst c6
     rw [if_neg nf_] at H
     obtain rfl := si_ H
     have p36 : 0 <= (x7_1 : Int) := od_
     have q36 : x7_1 < (l0.length : Int) := od_
     obtain ⟨ad36, e36, hx36_0, hx36_1, hx36_2⟩ := at_T72 HR0.out x7_1 p36 q36
     cases e36
     replace hx36_0 := bc_ HB.out hx36_0
     replace hx36_1 := bc_ HB.out hx36_1
     replace hx36_2 := bc_ HB.out hx36_2
     replace p36 := eq_true p36
     replace q36 := eq_true q36
     try go_wp2_with (first | ((with_reducible refine gd_ (N := 4) rfl ?_); refine bx_ (N := 4) (cs := #[.string (⟨#[]⟩ : ByteArray), .string (⟨#[]⟩ : ByteArray), .string (⟨#[]⟩ : ByteArray)]) (t := 72) ?_; intro gb35 hg w30 hbox hb; have BK35 := A_ (hbox); have GW35 := A_ (ge_ hg bB_ : w.heap.size <= gb35); have GE35 := A_ (ge_ hg bB_ : w.heap.size <= gb35); replace HB := A_ (below_step bB_ hb); clear hb hbox hg; obtain ⟨hcz31_0, hcz31_1, hcz31_2, hfz31_0, hfz31_1, hfz31_2⟩ := cz3_ BK35.out))
     obtain ⟨w32, hW_⟩ : ∃ w_, w_ = (((w30.setCell ⟨gb35, 0, none⟩ (.string ((rd_T72 l0 x7_1).f0))).setCell ⟨gb35, 1, none⟩ (.string ((rd_T72 l0 x7_1).f1))).setCell ⟨gb35, 2, none⟩ (.string ((rd_T72 l0 x7_1).f2))) := ⟨_, rfl⟩
     have n0_ : Aside0 (w32.heap[gb35]? = some (.cells #[.string ((rd_T72 l0 x7_1).f0), .string ((rd_T72 l0 x7_1).f1), .string ((rd_T72 l0 x7_1).f2)] 72 (0, 0))) := ⟨by rw [hW_]; (with_reducible repeat (first | refine blk_drewN ?_ _ | refine blk_drew ?_ | refine blk_alloc ?_ _)); with_reducible exact p3_012_ (vb_ BK35.out)⟩
     have n1_ : Aside0 (Below w.heap.size w w32) := ⟨by rw [hW_]; exact bG_ GE35.out⟩
     (try clear BK35)
     (try clear HB)
     rw [← hW_]
     clear hW_
     have BK35 := n0_
     have HB := n1_
     clear n0_ n1_
     replace BK35 := A_ (blk_drew BK35.out)
     replace HB := A_ (below_drew1 HB.out)
     refine st3_ (n := 17) (ds := []) (bl_ BK35.out 0) (bl_ BK35.out 1) (bl_ BK35.out 2) (fun hHeld => ?_); refine with_tabW impl_PropsOk.tab4 impl_PropsOk.bits4 (fun HT_ HW_ => ?_)
     generalize w32.drew = w33 at BK35 HB hHeld ⊢
     refine tk_ (i := 0) (N := some 12) hHeld ?_
     refine on_ (i := 1) (N := some 13) (fun K hK => ?_)
     refine goes_ Try.func93 (by kernel_rfl) rfl #[.agg #[.string ((rd_T72 l0 x7_1).f0), .string ((rd_T72 l0 x7_1).f1), .string ((rd_T72 l0 x7_1).f2)]] (by rfl) rfl rfl ml_ ?_
     with_reducible refine (impl_propOk.calls k1 ((rd_T72 l0 x7_1).f0) ((rd_T72 l0 x7_1).f1) ((rd_T72 l0 x7_1).f2) false _ A5.out).mono ?_
     rintro e w34 ⟨rfl, hb⟩
     refine ⟨_, rfl, ?_⟩
     replace BK35 := A_ (bw_ BK35.out hb)
     replace HB := A_ (below_step (bG_ GE35.out) hb)
     clear hb
     refine hK.out _ _ (hl_ BK35.out) (fun hHeld => ?_)
     clear hK K
     refine no_ (some 13) ?_
     refine pu_ (i := 2) (N := some 14) ?_
     refine pu_ (i := 3) (N := some 15) ?_
     refine pn_ (i := 4) (N := some 16) ?_
     refine pn_ (i := 5) (N := some 17) ?_
     refine pn_ (i := 6) (N := some 18) ?_
     refine pn_ (i := 7) (N := some 19) ?_
     refine pn_ (i := 8) (N := some 20) ?_
     refine pn_ (i := 9) (N := some 21) ?_
     refine pn_ (i := 10) (N := some 22) ?_
     refine pn_ (i := 11) (N := some 23) ?_
     refine pn_ (i := 12) (N := some 24) ?_
     refine pn_ (i := 13) (N := some 25) ?_
     refine pn_ (i := 14) (N := some 26) ?_
     refine pn_ (i := 15) (N := some 27) ?_
     refine pu_ (i := 16) (N := some 28) ?_
     refine done_ (done_of HT_.out (by kernel_rfl)) ?_
     (try clear hHeld)
     try go_wp2
     go_ret
     exact ⟨rr_, bG_ GE35.out⟩
end Go.Proofs.Ytbgggcgjijljkaa.Q
