import Derived.Test.YtegkokdncakadaaVSetsNodeG22
set_option maxHeartbeats 8000000
set_option maxRecDepth 100000
namespace Go.Proofs.Ytegkokdncakadaa.Q
open Go.RowKit Go.Proofs.YtegkokdncakadaaW.PrintWords Go.Proofs.YtegkokdncakadaaW.PrintLast Go.Proofs.YtegkokdncakadaaW.PrintMore
attribute [local go_sem] max2_int min2_int max_two min_two max_three min_three max_four min_four
set_option linter.unusedVariables false
set_option linter.unusedSimpArgs false
def laws_eqSetS.l0 : Nat -> List (S42) -> List (S42) -> Int -> Option (Bool)
 | 0, _, _, _ => none
 | k + 1, x0, x1, x5 => if x5 < (x0.length : Int) then (if 0 <= x5 then (if x5 < (x1.length : Int) then ((laws_eqSet.f ((rd_T42 x0 x5).f0) ((rd_T42 x0 x5).f1.f0) ((rd_T42 x0 x5).f1.f1) ((rd_T42 x0 x5).f1.f2) ((rd_T42 x1 x5).f0) ((rd_T42 x1 x5).f1.f0) ((rd_T42 x1 x5).f1.f1) ((rd_T42 x1 x5).f1.f2)).bind fun t195 => (if t195 = true then (laws_eqSetS.l0 k x0 x1 (wrap64 (x5 + 1))) else (some false))) else (none)) else (none)) else (some true)
def laws_eqSetS.f (k : Nat) (l0 : List (S42)) (l1 : List (S42)) : Option (Bool) := if (l0.length : Int) = (l1.length : Int) then (laws_eqSetS.l0 k l0 l1 0) else (some false)
def laws_eqSetS.T6 : Bool × List (List Nat × List Nat) := (true, [([], []), ([], []), ([0, 1], [0, 1]), ([2], [2]), ([], []), ([], []), ([4, 5], [4, 5]), ([6], [6]), ([3, 7], [3, 7]), ([8], [8])])
def laws_eqSetS.B6 : List Nat := [0, 0, 3, 7, 0, 0, 48, 112, 255, 511]
theorem laws_eqSetS.tab6 : rtab .any (opsOf Try.f9 6) = laws_eqSetS.T6 := by kernel_rfl
theorem laws_eqSetS.bits6 : waitsOk laws_eqSetS.T6.2 laws_eqSetS.B6 = true := by kernel_rfl
theorem laws_eqSetS.calls (k : Nat) (A0 : Option Addr) (c0 : Nat) (l0 : List (S42)) (A1 : Option Addr) (c1 : Nat) (l1 : List (S42)) (r : Bool) (w : World) (hr0 : Kd.C k42 w A0 l0.length l0) (hc0 : l0.length <= c0) (hr1 : Kd.C k42 w A1 l1.length l1) (hc1 : l1.length <= c1) (h : laws_eqSetS.f k l0 l1 = some r) :
 Calls Try.prog 9 #[.slice A0 l0.length c0, .slice A1 l1.length c1] w fun e w' => e = .returned (.bool r) /\ Below w.heap.size w w' := by
 have hu42 := Try.underlying42
 have HR0 := A_ hr0
 clear hr0 hc0
 have HR1 := A_ hr1
 clear hr1 hc1
 have HB := A_ (Below.refl w.heap.size w)
 have H : (if (l0.length : Int) = (l1.length : Int) then (laws_eqSetS.l0 k l0 l1 0) else (some false)) = some r := h
 clear h
 by_cases c3 : (l0.length : Int) = (l1.length : Int)
 rotate_left
 . rw [if_neg c3] at H
   obtain ⟨c3b0, c3b1⟩ := eF_ c3
   have c3b2 : (l0.length == l1.length) = false := by first | simpa using c3 | (simp at c3 ⊢; omega)
   obtain rfl := si_ H
   go_enter Try.func9, Try.ntmps9
   go_wp2
   go_ret
   exact ⟨rr_, bB_⟩
 rw [if_pos c3] at H
 obtain ⟨c3b0, c3b1⟩ := eT_ c3
 have c3b2 : (l0.length == l1.length) = true := by first | simpa using c3 | (simp at c3 ⊢; omega)
 clear c3
 have H' := A_ H
 clear H
 go_enter Try.func9, Try.ntmps9
 go_wp2
 go_loopg [5] k (fun kq v5 w' => ∃ (x5_1 : Int), v5 = .int .i64 x5_1 /\ Aside0 (laws_eqSetS.l0 kq l0 l1 x5_1 = some r) /\ Aside0 (kq <= k) /\ Aside0 (Below w.heap.size w w'))
 case atStart => exact ⟨(0), rs_, H', ⟨Nat.le_refl _⟩, ⟨bB_⟩⟩
 case round =>
  clear H'
  try clear c3
  try clear c3b0
  try clear c3b1
  try clear c3b2
  obtain ⟨x5_1, rfl, HA, HK1, HB⟩ := hrel
  cases gk with
  | zero => exact absurd HA.out (by simp [laws_eqSetS.l0])
  | succ k1 =>
   have H := HA.out
   clear HA
   simp only [laws_eqSetS.l0] at H
   by_cases c4 : x5_1 < (l0.length : Int)
   rotate_left
   . rw [if_neg c4] at H
     have c4b0 := decide_eq_false c4
     clear c4
     obtain rfl := si_ H
     go_wp2
     go_ret
     exact ⟨rr_, bB_⟩
   rw [if_pos c4] at H
   have c4b0 := decide_eq_true c4
   clear c4
   by_cases c5 : 0 <= x5_1
   rotate_left
   . exact absurd H (by rw [if_neg c5]; simp)
   rw [if_pos c5] at H
   have c5b0 := decide_eq_true c5
   clear c5
   by_cases c6 : x5_1 < (l1.length : Int)
   rotate_left
   . exact absurd H (by rw [if_neg c6]; simp)
   rw [if_pos c6] at H
   have c6b0 := decide_eq_true c6
   clear c6
   obtain ⟨t14, A7, H⟩ := bo_ H
   (try dsimp only at H)
   by_cases c8 : t14 = true
   . subst c8
     rw [if_pos rfl] at H
     have H' := A_ H
     clear H
     try go_wp2
     replace HB := A_ (below_drew1 HB.out)
     have p2 : 0 <= (x5_1 : Int) := od_
     have q2 : x5_1 < (l0.length : Int) := od_
     obtain ⟨ad2, e2, hx2_0, hx2_1, hx2_2, hx2_3⟩ := at_T42 HR0.out x5_1 p2 q2
     have hw2_3 := hx2_3
     have hw2_2 := hx2_2
     have hw2_1 := hx2_1
     have hw2_0 := hx2_0
     cases e2
     replace hx2_0 := bc_ HB.out hx2_0
     replace hx2_1 := bc_ HB.out hx2_1
     replace hx2_2 := bc_ HB.out hx2_2
     replace hx2_3 := bc_ HB.out hx2_3
     replace p2 := eq_true p2
     replace q2 := eq_true q2
     have p13 : 0 <= (x5_1 : Int) := od_
     have q13 : x5_1 < (l1.length : Int) := od_
     obtain ⟨ad13, e13, hx13_0, hx13_1, hx13_2, hx13_3⟩ := at_T42 HR1.out x5_1 p13 q13
     have hw13_3 := hx13_3
     have hw13_2 := hx13_2
     have hw13_1 := hx13_1
     have hw13_0 := hx13_0
     cases e13
     replace hx13_0 := bc_ HB.out hx13_0
     replace hx13_1 := bc_ HB.out hx13_1
     replace hx13_2 := bc_ HB.out hx13_2
     replace hx13_3 := bc_ HB.out hx13_3
     replace p13 := eq_true p13
     replace q13 := eq_true q13
     refine st8_ (n := 10) (ds := []) (be_ hw2_0) (be_ hw2_1) (be_ hw2_2) (be_ hw2_3) (be_ hw13_0) (be_ hw13_1) (be_ hw13_2) (be_ hw13_3) (fun hHeld => ?_); refine with_tabW laws_eqSetS.tab6 laws_eqSetS.bits6 (fun HT_ HW_ => ?_)
     generalize wr.drew = w9 at HB hx2_0 hx2_1 hx2_2 hx2_3 hx13_0 hx13_1 hx13_2 hx13_3 hHeld ⊢
     refine pu_ (i := 0) (N := some 17) ?_
     refine pu_ (i := 1) (N := some 18) ?_
     refine pu_ (i := 2) (N := some 19) ?_
     refine pu_ (i := 4) (N := some 21) ?_
     refine pu_ (i := 5) (N := some 22) ?_
     refine pu_ (i := 6) (N := some 23) ?_
     refine tk_ (i := 3) (N := some 20) hHeld ?_
     refine tk_ (i := 7) (N := some 24) hHeld ?_
     refine on_ (i := 8) (N := some 25) (fun K hK => ?_)
     refine goes_ Try.func17 (by kernel_rfl) rfl #[.agg #[.bool ((rd_T42 l0 x5_1).f0), .string ((rd_T42 l0 x5_1).f1.f0), .string ((rd_T42 l0 x5_1).f1.f1), .string ((rd_T42 l0 x5_1).f1.f2)], .agg #[.bool ((rd_T42 l1 x5_1).f0), .string ((rd_T42 l1 x5_1).f1.f0), .string ((rd_T42 l1 x5_1).f1.f1), .string ((rd_T42 l1 x5_1).f1.f2)]] (by rfl) rfl rfl ml_ ?_
     with_reducible refine (laws_eqSet.calls ((rd_T42 l0 x5_1).f0) ((rd_T42 l0 x5_1).f1.f0) ((rd_T42 l0 x5_1).f1.f1) ((rd_T42 l0 x5_1).f1.f2) ((rd_T42 l1 x5_1).f0) ((rd_T42 l1 x5_1).f1.f0) ((rd_T42 l1 x5_1).f1.f1) ((rd_T42 l1 x5_1).f1.f2) true _ A7.out).mono ?_
     rintro e w10 ⟨rfl, hb⟩
     refine ⟨_, rfl, ?_⟩
     replace HB := A_ (below_step bB_ hb)
     clear hb
     refine hK.out _ _ ⟨(be_ hw2_0), (be_ hw2_1), (be_ hw2_2), (be_ hw2_3), (be_ hw13_0), (be_ hw13_1), (be_ hw13_2), (be_ hw13_3)⟩ (fun hHeld => ?_)
     clear hK K
     refine no_ (some 25) ?_
     refine pu_ (i := 9) (N := some 26) ?_
     refine done_ (done_of HT_.out (by kernel_rfl)) ?_
     (try clear hHeld)
     try go_wp2
     go_roundg k1
     case measure => have := HK1.out; omega
     case rel => exact ⟨(wrap64 (x5_1 + 1)), rs_, H', ⟨by have := HK1.out; omega⟩, ⟨bB_⟩⟩
   . replace c8 := Bool.eq_false_iff.mpr c8
     subst c8
     rw [if_neg nf_] at H
     obtain rfl := si_ H
     try go_wp2
     replace HB := A_ (below_drew1 HB.out)
     have p2 : 0 <= (x5_1 : Int) := od_
     have q2 : x5_1 < (l0.length : Int) := od_
     obtain ⟨ad2, e2, hx2_0, hx2_1, hx2_2, hx2_3⟩ := at_T42 HR0.out x5_1 p2 q2
     have hw2_3 := hx2_3
     have hw2_2 := hx2_2
     have hw2_1 := hx2_1
     have hw2_0 := hx2_0
     cases e2
     replace hx2_0 := bc_ HB.out hx2_0
     replace hx2_1 := bc_ HB.out hx2_1
     replace hx2_2 := bc_ HB.out hx2_2
     replace hx2_3 := bc_ HB.out hx2_3
     replace p2 := eq_true p2
     replace q2 := eq_true q2
     have p13 : 0 <= (x5_1 : Int) := od_
     have q13 : x5_1 < (l1.length : Int) := od_
     obtain ⟨ad13, e13, hx13_0, hx13_1, hx13_2, hx13_3⟩ := at_T42 HR1.out x5_1 p13 q13
     have hw13_3 := hx13_3
     have hw13_2 := hx13_2
     have hw13_1 := hx13_1
     have hw13_0 := hx13_0
     cases e13
     replace hx13_0 := bc_ HB.out hx13_0
     replace hx13_1 := bc_ HB.out hx13_1
     replace hx13_2 := bc_ HB.out hx13_2
     replace hx13_3 := bc_ HB.out hx13_3
     replace p13 := eq_true p13
     replace q13 := eq_true q13
     refine st8_ (n := 10) (ds := []) (be_ hw2_0) (be_ hw2_1) (be_ hw2_2) (be_ hw2_3) (be_ hw13_0) (be_ hw13_1) (be_ hw13_2) (be_ hw13_3) (fun hHeld => ?_); refine with_tabW laws_eqSetS.tab6 laws_eqSetS.bits6 (fun HT_ HW_ => ?_)
     generalize wr.drew = w11 at HB hx2_0 hx2_1 hx2_2 hx2_3 hx13_0 hx13_1 hx13_2 hx13_3 hHeld ⊢
     refine pu_ (i := 0) (N := some 17) ?_
     refine pu_ (i := 1) (N := some 18) ?_
     refine pu_ (i := 2) (N := some 19) ?_
     refine pu_ (i := 4) (N := some 21) ?_
     refine pu_ (i := 5) (N := some 22) ?_
     refine pu_ (i := 6) (N := some 23) ?_
     refine tk_ (i := 3) (N := some 20) hHeld ?_
     refine tk_ (i := 7) (N := some 24) hHeld ?_
     refine on_ (i := 8) (N := some 25) (fun K hK => ?_)
     refine goes_ Try.func17 (by kernel_rfl) rfl #[.agg #[.bool ((rd_T42 l0 x5_1).f0), .string ((rd_T42 l0 x5_1).f1.f0), .string ((rd_T42 l0 x5_1).f1.f1), .string ((rd_T42 l0 x5_1).f1.f2)], .agg #[.bool ((rd_T42 l1 x5_1).f0), .string ((rd_T42 l1 x5_1).f1.f0), .string ((rd_T42 l1 x5_1).f1.f1), .string ((rd_T42 l1 x5_1).f1.f2)]] (by rfl) rfl rfl ml_ ?_
     with_reducible refine (laws_eqSet.calls ((rd_T42 l0 x5_1).f0) ((rd_T42 l0 x5_1).f1.f0) ((rd_T42 l0 x5_1).f1.f1) ((rd_T42 l0 x5_1).f1.f2) ((rd_T42 l1 x5_1).f0) ((rd_T42 l1 x5_1).f1.f0) ((rd_T42 l1 x5_1).f1.f1) ((rd_T42 l1 x5_1).f1.f2) false _ A7.out).mono ?_
     rintro e w12 ⟨rfl, hb⟩
     refine ⟨_, rfl, ?_⟩
     replace HB := A_ (below_step bB_ hb)
     clear hb
     refine hK.out _ _ ⟨(be_ hw2_0), (be_ hw2_1), (be_ hw2_2), (be_ hw2_3), (be_ hw13_0), (be_ hw13_1), (be_ hw13_2), (be_ hw13_3)⟩ (fun hHeld => ?_)
     clear hK K
     refine no_ (some 25) ?_
     refine pu_ (i := 9) (N := some 26) ?_
     refine done_ (done_of HT_.out (by kernel_rfl)) ?_
     (try clear hHeld)
     try go_wp2
     go_ret
     exact ⟨rr_, bB_⟩
def laws_markText.l0 : Nat -> Int -> ByteArray -> Option (ByteArray)
 | 0, _, _ => none
 | k + 1, x0, x3 => if x0 > 0 then ((some (([(wrap64 (48 + (Int.tmod x0 10))) % 256] : List Int) : List Int)).bind fun y196 => (if (strOfNums y196).size + x3.size <= 9223372036854775807 then (laws_markText.l0 k (wrap64 (Int.tdiv x0 10)) ((strOfNums y196) ++ x3)) else (none))) else (if 1 + x3.size <= 9223372036854775807 then (some ((⟨#[109]⟩ : ByteArray) ++ x3)) else (none))
def laws_markText.f (k : Nat) (a0 : Int) : Option (ByteArray) := if a0 <= 0 then (some (⟨#[109, 48]⟩ : ByteArray)) else (laws_markText.l0 k a0 (⟨#[]⟩ : ByteArray))
theorem laws_markText.mono_l : ∀ k, (∀ y0 y1, LeO (laws_markText.l0 k y0 y1) (laws_markText.l0 (k + 1) y0 y1))
 | 0 => fun _ _ r h => by simp [laws_markText.l0] at h
 | k + 1 => by
  have ih0 := laws_markText.mono_l k
  . intro y0 y1
    unfold laws_markText.l0
    repeat' first
    | (with_reducible exact ih0 _ _)
    | (with_reducible exact LeO.refl _)
    | (with_reducible exact LeO.none _)
    | (with_reducible refine LeO.ite ?_ ?_)
    | (with_reducible refine LeO.bind ?_ (fun _ => ?_))
    | exact ih0 _ _
    | exact LeO.none _
    | refine LeO.ite ?_ ?_
    | refine LeO.bind ?_ (fun _ => ?_)
theorem laws_markText.mono : ∀ a0 k, LeO (laws_markText.f k a0) (laws_markText.f (k + 1) a0) := by
 intro a0 k
 have ih0 := laws_markText.mono_l k
 unfold laws_markText.f
 repeat' first
  | (with_reducible exact ih0 _ _)
  | (with_reducible exact LeO.refl _)
  | (with_reducible exact LeO.none _)
  | (with_reducible refine LeO.ite ?_ ?_)
  | (with_reducible refine LeO.bind ?_ (fun _ => ?_))
  | exact ih0 _ _
  | exact LeO.none _
  | refine LeO.ite ?_ ?_
  | refine LeO.bind ?_ (fun _ => ?_)
theorem laws_markText.calls (k : Nat) (a0 : Int) (r : ByteArray) (w : World) (h : laws_markText.f k a0 = some r) :
 Calls Try.prog 18 #[.int .i64 a0] w fun e w' => e = .returned (.string r) /\ Below w.heap.size w w' := by
 have HB := A_ (Below.refl w.heap.size w)
 have H : (if a0 <= 0 then (some (⟨#[109, 48]⟩ : ByteArray)) else (laws_markText.l0 k a0 (⟨#[]⟩ : ByteArray))) = some r := h
 clear h
 by_cases c2 : a0 <= 0
 . rw [if_pos c2] at H
   have c2b0 := decide_eq_true c2
   clear c2
   obtain rfl := si_ H
   go_enter Try.func18, Try.ntmps18
   go_wp2
   go_ret
   exact ⟨rr_, bB_⟩
 rw [if_neg c2] at H
 have c2b0 := decide_eq_false c2
 clear c2
 have H' := A_ H
 clear H
 go_enter Try.func18, Try.ntmps18
 go_wp2
 go_loopg [0, 3] k (fun kq v0 v3 w' => ∃ (x0_1 : Int) (x3_1 : ByteArray), v0 = .int .i64 x0_1 /\ v3 = .string x3_1 /\ Aside0 (laws_markText.l0 kq x0_1 x3_1 = some r) /\ Aside0 (kq <= k) /\ Aside0 (Below w.heap.size w w'))
 case atStart => exact ⟨(a0), ((⟨#[]⟩ : ByteArray)), rs_, rs_, H', ⟨Nat.le_refl _⟩, ⟨bB_⟩⟩
 case round =>
  clear H'
  try clear c2
  try clear c2b0
  obtain ⟨x0_1, x3_1, rfl, rfl, HA, HK1, HB⟩ := hrel
  cases gk with
  | zero => exact absurd HA.out (by simp [laws_markText.l0])
  | succ k1 =>
   have H := HA.out
   clear HA
   simp only [laws_markText.l0] at H
   by_cases c3 : x0_1 > 0
   rotate_left
   . rw [if_neg c3] at H
     have c3b0 : decide (0 < x0_1) = false := decide_eq_false c3
     clear c3
     by_cases c8 : 1 + x3_1.size <= 9223372036854775807
     rotate_left
     . exact absurd H (by rw [if_neg c8]; simp)
     rw [if_pos c8] at H
     have c8b0 := eq_true c8
     have c8b1 := decide_eq_true c8
     try have c8b2 : (9223372036854775807 < 1 + x3_1.size) = False := eq_false (Nat.not_lt.2 c8)
     obtain rfl := si_ H
     go_wp2
     go_ret
     exact ⟨rr_, bB_⟩
   rw [if_pos c3] at H
   have c3b0 : decide (0 < x0_1) = true := decide_eq_true c3
   clear c3
   obtain ⟨y9, hy9⟩ : ∃ y_ : List Int, y_ = (([(wrap64 (48 + (Int.tmod x0_1 10))) % 256] : List Int)) := ⟨_, rfl⟩
   replace H : (if (strOfNums y9).size + x3_1.size <= 9223372036854775807 then (laws_markText.l0 k1 (wrap64 (Int.tdiv x0_1 10)) ((strOfNums y9) ++ x3_1)) else (none)) = some r := hy_ hy9 H
   have Ny9 := A_ hy9
   clear hy9
   by_cases c4 : (strOfNums y9).size + x3_1.size <= 9223372036854775807
   rotate_left
   . exact absurd H (by rw [if_neg c4]; simp)
   rw [if_pos c4] at H
   have c4b0 := eq_true c4
   have c4b1 := decide_eq_true c4
   try have c4b2 : (9223372036854775807 < (strOfNums y9).size + x3_1.size) = False := eq_false (Nat.not_lt.2 c4)
   have H' := A_ H
   clear H
   go_wp2_with (first | ((with_reducible refine gd_ (N := 12) rfl ?_); refine Kd.R_lit (Kd.int .u8) _ 5 ?hg (N := 12) ?hd (xs := ([(wrap64 (48 + (Int.tmod x0_1 10))) % 256] : List Int)) (inner := [.int .u8 ((wrap64 (48 + (Int.tmod x0_1 10))) % 256)]) (ok := fun _ => True) (okp := fun _ => True) ?hr ?hp (fun _ hk => hk) trivial (Below.refl _ _) (Nat.le_refl _) (by simp) ?_; (case hd => rfl); (case hg => rfl); (case hr => first | (go_simp; done) | (go_simp; rfl)); (case hp => exact (Reps.one (show Kd.M (Kd.int .u8) _ _ _ ((wrap64 (48 + (Int.tmod x0_1 10))) % 256) [.int .u8 ((wrap64 (48 + (Int.tmod x0_1 10))) % 256)] from rfl) (Reps.none _ _))); intro v11 w5 ho6 hb hg_ hnew_; clear hg_ hnew_; (first | rw [← Ny9.out] at ho6 | (simp only [Int.reduceToNat] at ho6; rw [← Ny9.out] at ho6)); have HO10 := A_ (Kd.R_lower ho6 (below_size bB_)); replace HB := A_ (below_step bB_ hb); clear hb ho6; have hcv7 := own_string (P := Try.prog) Try.underlying52 Try.underlying5 Try.underlying9 (Kd.own_of_R HO10.out)))
   go_roundg k1
   case measure => have := HK1.out; omega
   case rel => exact ⟨(wrap64 (Int.tdiv x0_1 10)), ((strOfNums y9) ++ x3_1), rs_, rs_, H', ⟨by have := HK1.out; omega⟩, ⟨bB_⟩⟩
def laws_markSetS.l0 : Nat -> List (S42) -> Int -> Int -> Option (Int × (List (S42)))
 | 0, _, _, _ => none
 | k + 1, x0, x1, x5 => if x5 < (x0.length : Int) then (if 0 <= x5 then ((some (x0.set (x5 : Int).toNat (⟨((Int.tmod x1 3) == 0), (⟨(rd_T42 x0 x5).f1.f0, (rd_T42 x0 x5).f1.f1, (rd_T42 x0 x5).f1.f2⟩ : S40)⟩ : S42) : List (S42))).bind fun y199 => ((laws_markText.f k (wrap64 (x1 + 1))).bind fun t200 => ((some (y199.set (x5 : Int).toNat (⟨(rd_T42 y199 x5).f0, (⟨t200, (rd_T42 y199 x5).f1.f1, (rd_T42 y199 x5).f1.f2⟩ : S40)⟩ : S42) : List (S42))).bind fun y201 => ((laws_markText.f k (wrap64 ((wrap64 (x1 + 1)) + 1))).bind fun t202 => ((some (y201.set (x5 : Int).toNat (⟨(rd_T42 y201 x5).f0, (⟨(rd_T42 y201 x5).f1.f0, t202, (rd_T42 y201 x5).f1.f2⟩ : S40)⟩ : S42) : List (S42))).bind fun y203 => ((laws_markText.f k (wrap64 ((wrap64 ((wrap64 (x1 + 1)) + 1)) + 1))).bind fun t204 => (laws_markSetS.l0 k (y203.set (x5 : Int).toNat (⟨(rd_T42 y203 x5).f0, (⟨(rd_T42 y203 x5).f1.f0, (rd_T42 y203 x5).f1.f1, t204⟩ : S40)⟩ : S42)) (wrap64 ((wrap64 ((wrap64 ((wrap64 (x1 + 1)) + 1)) + 1)) + 1)) (wrap64 (x5 + 1))))))))) else (none)) else (some (x1, x0))
def laws_markSetS.f (k : Nat) (l0 : List (S42)) (a1 : Int) : Option (Int × (List (S42))) := laws_markSetS.l0 k l0 a1 0
theorem laws_markSetS.calls (k : Nat) (P0_ : Nat -> Prop) (u9000_ : Value) (l0 : List (S42)) (a1 : Int) (r1 : Int) (r2 : List (S42)) (w0 w : World) (hB : Below w0.heap.size w0 w) (ho0 : Kd.R k42 42 w w0.heap.size P0_ u9000_ l0) (h : laws_markSetS.f k l0 a1 = some (r1, r2)) :
 Calls Try.prog 10 #[u9000_, .int .i64 a1] w fun e w' => e = .returned (.int .i64 r1) /\ Kd.R k42 42 w' w0.heap.size (fun k_ => (P0_ k_ \/ w.heap.size <= k_)) u9000_ r2 /\ Below w0.heap.size w0 w' /\ Kept w w' (fun k_ => P0_ k_) := by
 have HO0 := A_ (show Kd.R k42 42 w w0.heap.size (fun k_ => (P0_ k_ \/ w.heap.size <= k_)) u9000_ l0 from Kd.R_mono ho0 (fun k_ hk => (.inl hk)))
 have HK := A_ (Kept.refl w (fun k_ => P0_ k_))
 have HW0 := A_ hB.size
 have HB := A_ hB
 clear hB
 have H : (laws_markSetS.l0 k l0 a1 0) = some (r1, r2) := h
 clear h
 have H' := A_ H
 clear H
 go_enter Try.func10, Try.ntmps10
 go_wp2
 go_loopg [1, 5] k (fun kq v1 v5 w' => ∃ (x0_1 : List (S42)) (x1_1 : Int) (x5_1 : Int), v1 = .int .i64 x1_1 /\ v5 = .int .i64 x5_1 /\ Aside0 (laws_markSetS.l0 kq x0_1 x1_1 x5_1 = some (r1, r2)) /\ Aside0 (kq <= k) /\ Aside0 (Kd.R k42 42 w' w0.heap.size (fun k_ => (P0_ k_ \/ w.heap.size <= k_)) u9000_ x0_1) /\ Aside0 (Kept w w' (fun k_ => P0_ k_)) /\ Aside0 (Below w0.heap.size w0 w'))
 case atStart => exact ⟨(l0), (a1), (0), rs_, rs_, H', ⟨Nat.le_refl _⟩, ⟨vR_ HO0.out⟩, ⟨by repeat (first | (with_reducible first | exact HK.out | apply Kept.alloc | apply Kept.drewN | apply Kept.drew) | exact HK.out)⟩, ⟨bB_⟩⟩
 case round =>
  clear H'
  obtain ⟨x0_1, x1_1, x5_1, rfl, rfl, HA, HK1, HO_0, HK, HB⟩ := hrel
  cases gk with
  | zero => exact absurd HA.out (by simp [laws_markSetS.l0])
  | succ k1 =>
   have H := HA.out
   clear HA
   simp only [laws_markSetS.l0] at H
   by_cases c3 : x5_1 < (x0_1.length : Int)
   rotate_left
   . rw [if_neg c3] at H
     have c3b0 := decide_eq_false c3
     clear c3
     simp only [Option.some.injEq, Prod.mk.injEq] at H
     obtain ⟨rfl, rfl⟩ := H
     obtain ⟨Ao24, co24, eo24⟩ := Kd.R_slice HO_0.out
     subst eo24
     go_wp2
     go_ret
     exact ⟨rr_, vR_ HO_0.out, bB_, by repeat (first | (with_reducible first | exact HK.out | apply Kept.alloc | apply Kept.drewN | apply Kept.drew) | exact HK.out)⟩
   rw [if_pos c3] at H
   have c3b0 := decide_eq_true c3
   clear c3
   by_cases c4 : 0 <= x5_1
   rotate_left
   . exact absurd H (by rw [if_neg c4]; simp)
   rw [if_pos c4] at H
   have c4b0 := decide_eq_true c4
   clear c4
   obtain ⟨y27, hy27⟩ : ∃ y_ : List (S42), y_ = (x0_1.set (x5_1 : Int).toNat (⟨((Int.tmod x1_1 3) == 0), (⟨(rd_T42 x0_1 x5_1).f1.f0, (rd_T42 x0_1 x5_1).f1.f1, (rd_T42 x0_1 x5_1).f1.f2⟩ : S40)⟩ : S42)) := ⟨_, rfl⟩
   replace H : ((laws_markText.f k1 (wrap64 (x1_1 + 1))).bind fun t31 => ((some (y27.set (x5_1 : Int).toNat (⟨(rd_T42 y27 x5_1).f0, (⟨t31, (rd_T42 y27 x5_1).f1.f1, (rd_T42 y27 x5_1).f1.f2⟩ : S40)⟩ : S42) : List (S42))).bind fun y26 => ((laws_markText.f k1 (wrap64 ((wrap64 (x1_1 + 1)) + 1))).bind fun t29 => ((some (y26.set (x5_1 : Int).toNat (⟨(rd_T42 y26 x5_1).f0, (⟨(rd_T42 y26 x5_1).f1.f0, t29, (rd_T42 y26 x5_1).f1.f2⟩ : S40)⟩ : S42) : List (S42))).bind fun y25 => ((laws_markText.f k1 (wrap64 ((wrap64 ((wrap64 (x1_1 + 1)) + 1)) + 1))).bind fun t28 => (laws_markSetS.l0 k1 (y25.set (x5_1 : Int).toNat (⟨(rd_T42 y25 x5_1).f0, (⟨(rd_T42 y25 x5_1).f1.f0, (rd_T42 y25 x5_1).f1.f1, t28⟩ : S40)⟩ : S42)) (wrap64 ((wrap64 ((wrap64 ((wrap64 (x1_1 + 1)) + 1)) + 1)) + 1)) (wrap64 (x5_1 + 1)))))))) = some (r1, r2) := hy_ hy27 H
   have Ny27 := A_ hy27
   clear hy27
   obtain ⟨t31, A6, H⟩ := bo_ H
   (try dsimp only at H)
   obtain ⟨y26, hy26⟩ : ∃ y_ : List (S42), y_ = (y27.set (x5_1 : Int).toNat (⟨(rd_T42 y27 x5_1).f0, (⟨t31, (rd_T42 y27 x5_1).f1.f1, (rd_T42 y27 x5_1).f1.f2⟩ : S40)⟩ : S42)) := ⟨_, rfl⟩
   replace H : ((laws_markText.f k1 (wrap64 ((wrap64 (x1_1 + 1)) + 1))).bind fun t29 => ((some (y26.set (x5_1 : Int).toNat (⟨(rd_T42 y26 x5_1).f0, (⟨(rd_T42 y26 x5_1).f1.f0, t29, (rd_T42 y26 x5_1).f1.f2⟩ : S40)⟩ : S42) : List (S42))).bind fun y25 => ((laws_markText.f k1 (wrap64 ((wrap64 ((wrap64 (x1_1 + 1)) + 1)) + 1))).bind fun t28 => (laws_markSetS.l0 k1 (y25.set (x5_1 : Int).toNat (⟨(rd_T42 y25 x5_1).f0, (⟨(rd_T42 y25 x5_1).f1.f0, (rd_T42 y25 x5_1).f1.f1, t28⟩ : S40)⟩ : S42)) (wrap64 ((wrap64 ((wrap64 ((wrap64 (x1_1 + 1)) + 1)) + 1)) + 1)) (wrap64 (x5_1 + 1)))))) = some (r1, r2) := hy_ hy26 H
   have Ny26 := A_ hy26
   clear hy26
   obtain ⟨t29, A8, H⟩ := bo_ H
   (try dsimp only at H)
   obtain ⟨y25, hy25⟩ : ∃ y_ : List (S42), y_ = (y26.set (x5_1 : Int).toNat (⟨(rd_T42 y26 x5_1).f0, (⟨(rd_T42 y26 x5_1).f1.f0, t29, (rd_T42 y26 x5_1).f1.f2⟩ : S40)⟩ : S42)) := ⟨_, rfl⟩
   replace H : ((laws_markText.f k1 (wrap64 ((wrap64 ((wrap64 (x1_1 + 1)) + 1)) + 1))).bind fun t28 => (laws_markSetS.l0 k1 (y25.set (x5_1 : Int).toNat (⟨(rd_T42 y25 x5_1).f0, (⟨(rd_T42 y25 x5_1).f1.f0, (rd_T42 y25 x5_1).f1.f1, t28⟩ : S40)⟩ : S42)) (wrap64 ((wrap64 ((wrap64 ((wrap64 (x1_1 + 1)) + 1)) + 1)) + 1)) (wrap64 (x5_1 + 1)))) = some (r1, r2) := hy_ hy25 H
   have Ny25 := A_ hy25
   clear hy25
   obtain ⟨t28, A10, H⟩ := bo_ H
   (try dsimp only at H)
   obtain ⟨y30, hy30⟩ : ∃ y_ : List (S42), y_ = (y25.set (x5_1 : Int).toNat (⟨(rd_T42 y25 x5_1).f0, (⟨(rd_T42 y25 x5_1).f1.f0, (rd_T42 y25 x5_1).f1.f1, t28⟩ : S40)⟩ : S42)) := ⟨_, rfl⟩
   replace H : (laws_markSetS.l0 k1 y30 (wrap64 ((wrap64 ((wrap64 ((wrap64 (x1_1 + 1)) + 1)) + 1)) + 1)) (wrap64 (x5_1 + 1))) = some (r1, r2) := hy_ hy30 H
   have Ny30 := A_ hy30
   clear hy30
   have H' := A_ H
   clear H
   obtain ⟨Ao12, co12, eo12⟩ := Kd.R_slice HO_0.out
   subst eo12
   have p5 : 0 <= (x5_1 : Int) := od_
   have q5 : (x5_1 : Int) < ((x0_1.length : Int) : Int) := od_
   obtain ⟨go5, co5, eo5, gb5, gl5, cl5, HG5⟩ := Kd.R_form HO_0.out (by omega)
   (first | cases eo5 | (injection eo5 with ea_ en_ ec_; (first | subst ea_ | (injection ea_ with ea_; subst ea_)); subst ec_; clear en_))
   have GB5 := A_ gb5
   have GG5 := A_ HG5
   clear gb5 gl5 HG5
   have HMgo5 := A_ (show (P0_ go5 \/ w.heap.size <= go5) from (HO_0.out.1 _ rfl))
   obtain ⟨ce5, hcl5, hM5, hcc5, hfr5⟩ := Kd.R_elem HO_0.out z42 (x5_1 : Int) p5 q5
   obtain rfl := k42_openM hM5
   have hx5_0 : wr.cell? ⟨go5, (x5_1 : Int).toNat * 4, none⟩ = some (.bool ((rd_T42 x0_1 x5_1).f0)) := hcc5 0 _ rfl
   have hx5_1 : wr.cell? ⟨go5, (x5_1 : Int).toNat * 4 + 1, none⟩ = some (.string ((rd_T42 x0_1 x5_1).f1.f0)) := hcc5 1 _ rfl
   have hx5_2 : wr.cell? ⟨go5, (x5_1 : Int).toNat * 4 + 2, none⟩ = some (.string ((rd_T42 x0_1 x5_1).f1.f1)) := hcc5 2 _ rfl
   have hx5_3 : wr.cell? ⟨go5, (x5_1 : Int).toNat * 4 + 3, none⟩ = some (.string ((rd_T42 x0_1 x5_1).f1.f2)) := hcc5 3 _ rfl
   have hf5_0 : wr.frozen? ⟨go5, (x5_1 : Int).toNat * 4, none⟩ = false := hfr5 0
   have hf5_1 : wr.frozen? ⟨go5, (x5_1 : Int).toNat * 4 + 1, none⟩ = false := hfr5 1
   have hf5_2 : wr.frozen? ⟨go5, (x5_1 : Int).toNat * 4 + 2, none⟩ = false := hfr5 2
   have hf5_3 : wr.frozen? ⟨go5, (x5_1 : Int).toNat * 4 + 3, none⟩ = false := hfr5 3
   (try clear hcl5); (try clear hcc5); (try clear hfr5); (try clear hM5)
   replace p5 := eq_true p5
   replace q5 := eq_true q5
   have HX13 := A_ (show Kd.R k42 42 wr w0.heap.size (fun k_ => (P0_ k_ \/ w.heap.size <= k_)) (.slice (some ⟨go5, 0, none⟩) x0_1.length co12) x0_1 from (vR_ HO_0.out))
   obtain ⟨ce13, hcl13, hM13, hcc13, hfr13⟩ := Kd.R_elem HX13.out z42 (x5_1 : Int) od_ (by have h_ : (x5_1 : Int) < ((x0_1.length : Int) : Int) := od_; first | exact h_ | (have e_ := (Kd.R_reads' HO_0.out).1; omega) | simpa using h_)
   obtain rfl := k42_openM hM13
   have HP13 := Kd.R_seg HX13.out (x5_1 : Int) od_ (by have h_ : (x5_1 : Int) < ((x0_1.length : Int) : Int) := od_; first | exact h_ | (have e_ := (Kd.R_reads' HO_0.out).1; omega) | simpa using h_) (seg := [.bool ((Int.tmod x1_1 3) == 0)]) (j := 0) hcl13 hcc13 (show 1 <= 4 from by decide) (x' := (⟨((Int.tmod x1_1 3) == 0), (⟨(rd_T42 x0_1 x5_1).f1.f0, (rd_T42 x0_1 x5_1).f1.f1, (rd_T42 x0_1 x5_1).f1.f2⟩ : S40)⟩ : S42)) (k42_mkM _ _ _ (⟨((Int.tmod x1_1 3) == 0), (⟨(rd_T42 x0_1 x5_1).f1.f0, (rd_T42 x0_1 x5_1).f1.f1, (rd_T42 x0_1 x5_1).f1.f2⟩ : S40)⟩ : S42) ) (fun _ hk => hk)
   have hx13_0 := hcc13 0 _ rfl
   (try simp only [show (k42).sz = 4 from rfl, Nat.mul_one, Nat.add_zero] at hx13_0)
   have hf13_0 := hfr13 0
   (try simp only [show (k42).sz = 4 from rfl, Nat.mul_one, Nat.add_zero] at hf13_0)
   (try clear hcl13); (try clear hcc13); (try clear hfr13); (try clear hM13)
   go_wp2_with (first | ((with_reducible refine gate_store (t := 4) (p := 18) rfl ?_); refine store_event (t := 4) (p := 18) (v := ?vo_w14) (w1 := (wr.setCell ⟨go5, (x5_1 : Int).toNat * 4, none⟩ (.bool ((Int.tmod x1_1 3) == 0)))) ?hg ?ho ?hn ?hr ?_; (case ho => rfl); (case hg => rfl); (case hn => rfl); (case hr => first | (go_simp; done) | (go_simp; rfl)); intro w14 hw; have hg : wr.grownBy w14 (some go5) := (by rw [hw]; exact HP13.2); have hp_ : Kd.R k42 42 w14 w0.heap.size (fun k_ => (P0_ k_ \/ w.heap.size <= k_)) (.slice (some ⟨go5, 0, none⟩) x0_1.length co12) y27 := (by rw [hw, Ny27.out]; exact HP13.1); clear HP13; replace HB := A_ ((by rw [hw]; exact below_set (HB.out) GB5.out : Below w0.heap.size w0 w14)); replace HK := A_ (Kept.of_grown (S := (fun k_ => P0_ k_)) hg (by repeat (first | (with_reducible first | exact HK.out | apply Kept.alloc | apply Kept.drewN | apply Kept.drew) | exact HK.out)) (fun k_ e_ => (HO_0.out.1 k_ e_))); replace HO_0 := A_ (hp_); clear hg hw hp_) | ((with_reducible refine gc_ (f := 18) rfl ?_); refine gL_ (some 24) Try.func18 #[.int .i64 (wrap64 (x1_1 + 1))] ?_; (with_reducible refine (laws_markText.calls k1 (wrap64 (x1_1 + 1)) t31 _ A6.out).mono ?_); rintro e w15 ⟨rfl, hb⟩; refine ⟨_, rfl, ?_⟩; replace HO_0 := A_ (Kd.R_below (vR_ HO_0.out) hb); replace HK := A_ (Kept.below (S := (fun k_ => P0_ k_)) (by repeat (first | (with_reducible first | exact HK.out | apply Kept.alloc | apply Kept.drewN | apply Kept.drew) | exact HK.out)) hb); replace HB := A_ (below_step bB_ hb); clear hb; have p7 : 0 <= (x5_1 : Int) := od_; have q7 : (x5_1 : Int) < ((x0_1.length : Int) : Int) := od_; obtain ⟨ce7, hcl7, hM7, hcc7, hfr7⟩ := Kd.R_elem HO_0.out z42 (x5_1 : Int) p7 q7; obtain rfl := k42_openM hM7; have hx7_0 : w15.cell? ⟨go5, (x5_1 : Int).toNat * 4, none⟩ = some (.bool ((rd_T42 y27 x5_1).f0)) := hcc7 0 _ rfl; have hx7_1 : w15.cell? ⟨go5, (x5_1 : Int).toNat * 4 + 1, none⟩ = some (.string ((rd_T42 y27 x5_1).f1.f0)) := hcc7 1 _ rfl; have hx7_2 : w15.cell? ⟨go5, (x5_1 : Int).toNat * 4 + 2, none⟩ = some (.string ((rd_T42 y27 x5_1).f1.f1)) := hcc7 2 _ rfl; have hx7_3 : w15.cell? ⟨go5, (x5_1 : Int).toNat * 4 + 3, none⟩ = some (.string ((rd_T42 y27 x5_1).f1.f2)) := hcc7 3 _ rfl; have hf7_0 : w15.frozen? ⟨go5, (x5_1 : Int).toNat * 4, none⟩ = false := hfr7 0; have hf7_1 : w15.frozen? ⟨go5, (x5_1 : Int).toNat * 4 + 1, none⟩ = false := hfr7 1; have hf7_2 : w15.frozen? ⟨go5, (x5_1 : Int).toNat * 4 + 2, none⟩ = false := hfr7 2; have hf7_3 : w15.frozen? ⟨go5, (x5_1 : Int).toNat * 4 + 3, none⟩ = false := hfr7 3; (try clear hcl7); (try clear hcc7); (try clear hfr7); (try clear hM7); replace p7 := eq_true p7; replace q7 := eq_true q7; have HX16 := A_ (show Kd.R k42 42 w15 w0.heap.size (fun k_ => (P0_ k_ \/ w.heap.size <= k_)) (.slice (some ⟨go5, 0, none⟩) x0_1.length co12) y27 from (vR_ HO_0.out)); obtain ⟨ce16, hcl16, hM16, hcc16, hfr16⟩ := Kd.R_elem HX16.out z42 (x5_1 : Int) od_ (by have h_ : (x5_1 : Int) < ((x0_1.length : Int) : Int) := od_; first | exact h_ | (have e_ := (Kd.R_reads' HO_0.out).1; omega) | simpa using h_); obtain rfl := k42_openM hM16; have HP16 := Kd.R_seg HX16.out (x5_1 : Int) od_ (by have h_ : (x5_1 : Int) < ((x0_1.length : Int) : Int) := od_; first | exact h_ | (have e_ := (Kd.R_reads' HO_0.out).1; omega) | simpa using h_) (seg := [.string t31]) (j := 1) hcl16 hcc16 (show 2 <= 4 from by decide) (x' := (⟨(rd_T42 y27 x5_1).f0, (⟨t31, (rd_T42 y27 x5_1).f1.f1, (rd_T42 y27 x5_1).f1.f2⟩ : S40)⟩ : S42)) (k42_mkM _ _ _ (⟨(rd_T42 y27 x5_1).f0, (⟨t31, (rd_T42 y27 x5_1).f1.f1, (rd_T42 y27 x5_1).f1.f2⟩ : S40)⟩ : S42) ) (fun _ hk => hk); have hx16_1 := hcc16 1 _ rfl; (try simp only [show (k42).sz = 4 from rfl, Nat.mul_one, Nat.add_zero] at hx16_1); have hf16_1 := hfr16 1; (try simp only [show (k42).sz = 4 from rfl, Nat.mul_one, Nat.add_zero] at hf16_1); (try clear hcl16); (try clear hcc16); (try clear hfr16); (try clear hM16)) | ((with_reducible refine gate_store (t := 9) (p := 27) rfl ?_); refine store_event (t := 9) (p := 27) (v := ?vo_w17) (w1 := (w15.setCell ⟨go5, (x5_1 : Int).toNat * 4 + 1, none⟩ (.string t31))) ?hg ?ho ?hn ?hr ?_; (case ho => rfl); (case hg => rfl); (case hn => rfl); (case hr => first | (go_simp; done) | (go_simp; rfl)); intro w17 hw; have hg : w15.grownBy w17 (some go5) := (by rw [hw]; exact HP16.2); have hp_ : Kd.R k42 42 w17 w0.heap.size (fun k_ => (P0_ k_ \/ w.heap.size <= k_)) (.slice (some ⟨go5, 0, none⟩) x0_1.length co12) y26 := (by rw [hw, Ny26.out]; exact HP16.1); clear HP16; replace HB := A_ ((by rw [hw]; exact below_set (HB.out) GB5.out : Below w0.heap.size w0 w17)); replace HK := A_ (Kept.of_grown (S := (fun k_ => P0_ k_)) hg (by repeat (first | (with_reducible first | exact HK.out | apply Kept.alloc | apply Kept.drewN | apply Kept.drew) | exact HK.out)) (fun k_ e_ => (HO_0.out.1 k_ e_))); replace HO_0 := A_ (hp_); clear hg hw hp_) | ((with_reducible refine gc_ (f := 18) rfl ?_); refine gL_ (some 33) Try.func18 #[.int .i64 (wrap64 ((wrap64 (x1_1 + 1)) + 1))] ?_; (with_reducible refine (laws_markText.calls k1 (wrap64 ((wrap64 (x1_1 + 1)) + 1)) t29 _ A8.out).mono ?_); rintro e w18 ⟨rfl, hb⟩; refine ⟨_, rfl, ?_⟩; replace HO_0 := A_ (Kd.R_below (vR_ HO_0.out) hb); replace HK := A_ (Kept.below (S := (fun k_ => P0_ k_)) (by repeat (first | (with_reducible first | exact HK.out | apply Kept.alloc | apply Kept.drewN | apply Kept.drew) | exact HK.out)) hb); replace HB := A_ (below_step bB_ hb); clear hb; have p9 : 0 <= (x5_1 : Int) := od_; have q9 : (x5_1 : Int) < ((x0_1.length : Int) : Int) := od_; obtain ⟨ce9, hcl9, hM9, hcc9, hfr9⟩ := Kd.R_elem HO_0.out z42 (x5_1 : Int) p9 q9; obtain rfl := k42_openM hM9; have hx9_0 : w18.cell? ⟨go5, (x5_1 : Int).toNat * 4, none⟩ = some (.bool ((rd_T42 y26 x5_1).f0)) := hcc9 0 _ rfl; have hx9_1 : w18.cell? ⟨go5, (x5_1 : Int).toNat * 4 + 1, none⟩ = some (.string ((rd_T42 y26 x5_1).f1.f0)) := hcc9 1 _ rfl; have hx9_2 : w18.cell? ⟨go5, (x5_1 : Int).toNat * 4 + 2, none⟩ = some (.string ((rd_T42 y26 x5_1).f1.f1)) := hcc9 2 _ rfl; have hx9_3 : w18.cell? ⟨go5, (x5_1 : Int).toNat * 4 + 3, none⟩ = some (.string ((rd_T42 y26 x5_1).f1.f2)) := hcc9 3 _ rfl; have hf9_0 : w18.frozen? ⟨go5, (x5_1 : Int).toNat * 4, none⟩ = false := hfr9 0; have hf9_1 : w18.frozen? ⟨go5, (x5_1 : Int).toNat * 4 + 1, none⟩ = false := hfr9 1; have hf9_2 : w18.frozen? ⟨go5, (x5_1 : Int).toNat * 4 + 2, none⟩ = false := hfr9 2; have hf9_3 : w18.frozen? ⟨go5, (x5_1 : Int).toNat * 4 + 3, none⟩ = false := hfr9 3; (try clear hcl9); (try clear hcc9); (try clear hfr9); (try clear hM9); replace p9 := eq_true p9; replace q9 := eq_true q9; have HX19 := A_ (show Kd.R k42 42 w18 w0.heap.size (fun k_ => (P0_ k_ \/ w.heap.size <= k_)) (.slice (some ⟨go5, 0, none⟩) x0_1.length co12) y26 from (vR_ HO_0.out)); obtain ⟨ce19, hcl19, hM19, hcc19, hfr19⟩ := Kd.R_elem HX19.out z42 (x5_1 : Int) od_ (by have h_ : (x5_1 : Int) < ((x0_1.length : Int) : Int) := od_; first | exact h_ | (have e_ := (Kd.R_reads' HO_0.out).1; omega) | simpa using h_); obtain rfl := k42_openM hM19; have HP19 := Kd.R_seg HX19.out (x5_1 : Int) od_ (by have h_ : (x5_1 : Int) < ((x0_1.length : Int) : Int) := od_; first | exact h_ | (have e_ := (Kd.R_reads' HO_0.out).1; omega) | simpa using h_) (seg := [.string t29]) (j := 2) hcl19 hcc19 (show 3 <= 4 from by decide) (x' := (⟨(rd_T42 y26 x5_1).f0, (⟨(rd_T42 y26 x5_1).f1.f0, t29, (rd_T42 y26 x5_1).f1.f2⟩ : S40)⟩ : S42)) (k42_mkM _ _ _ (⟨(rd_T42 y26 x5_1).f0, (⟨(rd_T42 y26 x5_1).f1.f0, t29, (rd_T42 y26 x5_1).f1.f2⟩ : S40)⟩ : S42) ) (fun _ hk => hk); have hx19_2 := hcc19 2 _ rfl; (try simp only [show (k42).sz = 4 from rfl, Nat.mul_one, Nat.add_zero] at hx19_2); have hf19_2 := hfr19 2; (try simp only [show (k42).sz = 4 from rfl, Nat.mul_one, Nat.add_zero] at hf19_2); (try clear hcl19); (try clear hcc19); (try clear hfr19); (try clear hM19)) | ((with_reducible refine gate_store (t := 9) (p := 36) rfl ?_); refine store_event (t := 9) (p := 36) (v := ?vo_w20) (w1 := (w18.setCell ⟨go5, (x5_1 : Int).toNat * 4 + 2, none⟩ (.string t29))) ?hg ?ho ?hn ?hr ?_; (case ho => rfl); (case hg => rfl); (case hn => rfl); (case hr => first | (go_simp; done) | (go_simp; rfl)); intro w20 hw; have hg : w18.grownBy w20 (some go5) := (by rw [hw]; exact HP19.2); have hp_ : Kd.R k42 42 w20 w0.heap.size (fun k_ => (P0_ k_ \/ w.heap.size <= k_)) (.slice (some ⟨go5, 0, none⟩) x0_1.length co12) y25 := (by rw [hw, Ny25.out]; exact HP19.1); clear HP19; replace HB := A_ ((by rw [hw]; exact below_set (HB.out) GB5.out : Below w0.heap.size w0 w20)); replace HK := A_ (Kept.of_grown (S := (fun k_ => P0_ k_)) hg (by repeat (first | (with_reducible first | exact HK.out | apply Kept.alloc | apply Kept.drewN | apply Kept.drew) | exact HK.out)) (fun k_ e_ => (HO_0.out.1 k_ e_))); replace HO_0 := A_ (hp_); clear hg hw hp_) | ((with_reducible refine gc_ (f := 18) rfl ?_); refine gL_ (some 42) Try.func18 #[.int .i64 (wrap64 ((wrap64 ((wrap64 (x1_1 + 1)) + 1)) + 1))] ?_; (with_reducible refine (laws_markText.calls k1 (wrap64 ((wrap64 ((wrap64 (x1_1 + 1)) + 1)) + 1)) t28 _ A10.out).mono ?_); rintro e w21 ⟨rfl, hb⟩; refine ⟨_, rfl, ?_⟩; replace HO_0 := A_ (Kd.R_below (vR_ HO_0.out) hb); replace HK := A_ (Kept.below (S := (fun k_ => P0_ k_)) (by repeat (first | (with_reducible first | exact HK.out | apply Kept.alloc | apply Kept.drewN | apply Kept.drew) | exact HK.out)) hb); replace HB := A_ (below_step bB_ hb); clear hb; have p11 : 0 <= (x5_1 : Int) := od_; have q11 : (x5_1 : Int) < ((x0_1.length : Int) : Int) := od_; obtain ⟨ce11, hcl11, hM11, hcc11, hfr11⟩ := Kd.R_elem HO_0.out z42 (x5_1 : Int) p11 q11; obtain rfl := k42_openM hM11; have hx11_0 : w21.cell? ⟨go5, (x5_1 : Int).toNat * 4, none⟩ = some (.bool ((rd_T42 y25 x5_1).f0)) := hcc11 0 _ rfl; have hx11_1 : w21.cell? ⟨go5, (x5_1 : Int).toNat * 4 + 1, none⟩ = some (.string ((rd_T42 y25 x5_1).f1.f0)) := hcc11 1 _ rfl; have hx11_2 : w21.cell? ⟨go5, (x5_1 : Int).toNat * 4 + 2, none⟩ = some (.string ((rd_T42 y25 x5_1).f1.f1)) := hcc11 2 _ rfl; have hx11_3 : w21.cell? ⟨go5, (x5_1 : Int).toNat * 4 + 3, none⟩ = some (.string ((rd_T42 y25 x5_1).f1.f2)) := hcc11 3 _ rfl; have hf11_0 : w21.frozen? ⟨go5, (x5_1 : Int).toNat * 4, none⟩ = false := hfr11 0; have hf11_1 : w21.frozen? ⟨go5, (x5_1 : Int).toNat * 4 + 1, none⟩ = false := hfr11 1; have hf11_2 : w21.frozen? ⟨go5, (x5_1 : Int).toNat * 4 + 2, none⟩ = false := hfr11 2; have hf11_3 : w21.frozen? ⟨go5, (x5_1 : Int).toNat * 4 + 3, none⟩ = false := hfr11 3; (try clear hcl11); (try clear hcc11); (try clear hfr11); (try clear hM11); replace p11 := eq_true p11; replace q11 := eq_true q11; have HX22 := A_ (show Kd.R k42 42 w21 w0.heap.size (fun k_ => (P0_ k_ \/ w.heap.size <= k_)) (.slice (some ⟨go5, 0, none⟩) x0_1.length co12) y25 from (vR_ HO_0.out)); obtain ⟨ce22, hcl22, hM22, hcc22, hfr22⟩ := Kd.R_elem HX22.out z42 (x5_1 : Int) od_ (by have h_ : (x5_1 : Int) < ((x0_1.length : Int) : Int) := od_; first | exact h_ | (have e_ := (Kd.R_reads' HO_0.out).1; omega) | simpa using h_); obtain rfl := k42_openM hM22; have HP22 := Kd.R_seg HX22.out (x5_1 : Int) od_ (by have h_ : (x5_1 : Int) < ((x0_1.length : Int) : Int) := od_; first | exact h_ | (have e_ := (Kd.R_reads' HO_0.out).1; omega) | simpa using h_) (seg := [.string t28]) (j := 3) hcl22 hcc22 (show 4 <= 4 from by decide) (x' := (⟨(rd_T42 y25 x5_1).f0, (⟨(rd_T42 y25 x5_1).f1.f0, (rd_T42 y25 x5_1).f1.f1, t28⟩ : S40)⟩ : S42)) (k42_mkM _ _ _ (⟨(rd_T42 y25 x5_1).f0, (⟨(rd_T42 y25 x5_1).f1.f0, (rd_T42 y25 x5_1).f1.f1, t28⟩ : S40)⟩ : S42) ) (fun _ hk => hk); have hx22_3 := hcc22 3 _ rfl; (try simp only [show (k42).sz = 4 from rfl, Nat.mul_one, Nat.add_zero] at hx22_3); have hf22_3 := hfr22 3; (try simp only [show (k42).sz = 4 from rfl, Nat.mul_one, Nat.add_zero] at hf22_3); (try clear hcl22); (try clear hcc22); (try clear hfr22); (try clear hM22)) | ((with_reducible refine gate_store (t := 9) (p := 45) rfl ?_); refine store_event (t := 9) (p := 45) (v := ?vo_w23) (w1 := (w21.setCell ⟨go5, (x5_1 : Int).toNat * 4 + 3, none⟩ (.string t28))) ?hg ?ho ?hn ?hr ?_; (case ho => rfl); (case hg => rfl); (case hn => rfl); (case hr => first | (go_simp; done) | (go_simp; rfl)); intro w23 hw; have hg : w21.grownBy w23 (some go5) := (by rw [hw]; exact HP22.2); have hp_ : Kd.R k42 42 w23 w0.heap.size (fun k_ => (P0_ k_ \/ w.heap.size <= k_)) (.slice (some ⟨go5, 0, none⟩) x0_1.length co12) y30 := (by rw [hw, Ny30.out]; exact HP22.1); clear HP22; replace HB := A_ ((by rw [hw]; exact below_set (HB.out) GB5.out : Below w0.heap.size w0 w23)); replace HK := A_ (Kept.of_grown (S := (fun k_ => P0_ k_)) hg (by repeat (first | (with_reducible first | exact HK.out | apply Kept.alloc | apply Kept.drewN | apply Kept.drew) | exact HK.out)) (fun k_ e_ => (HO_0.out.1 k_ e_))); replace HO_0 := A_ (hp_); clear hg hw hp_))
   go_roundg k1
   case measure => have := HK1.out; omega
   case rel => exact ⟨(y30), (wrap64 ((wrap64 ((wrap64 ((wrap64 (x1_1 + 1)) + 1)) + 1)) + 1)), (wrap64 (x5_1 + 1)), rs_, rs_, H', ⟨by have := HK1.out; omega⟩, ⟨vR_ HO_0.out⟩, ⟨by repeat (first | (with_reducible first | exact HK.out | apply Kept.alloc | apply Kept.drewN | apply Kept.drew) | exact HK.out)⟩, ⟨bB_⟩⟩
end Go.Proofs.Ytegkokdncakadaa.Q

/- Nodes whose kids' rows lie apart at every depth: a kind of its own. No condition. -/
set_option linter.unusedSimpArgs false
set_option linter.unusedVariables false
namespace Go.Proofs.Ytegkokdncakadaa.Q
open Go.RowKit Go.Proofs.YtegkokdncakadaaW.PrintWords Go.Proofs.YtegkokdncakadaaW.PrintLast
section
variable {α : Type} {d d' : Kd α} {e : Nat} {w : World} {base : Nat} {ok : Nat -> Prop} {v : Value} {xs : List α}
def sliceA (e : Nat) (d : Kd α) : Kd (List α) where
  sz := 1
  E := e :: d.E
  K := (Kd.slice e d).K
  M := fun w base ok xs cs => ∃ v, cs = [v] /\ Kd.S d e w base ok v xs
  K_len := (Kd.slice e d).K_len
  K_one := (Kd.slice e d).K_one
  K_below := (Kd.slice e d).K_below
  K_of_M := by
    rintro w base ok x cs ⟨v, rfl, h⟩
    exact (Kd.slice e d).K_of_M ⟨v, rfl, Kd.S_R h⟩
  M_mono := by
    rintro w base ok ok' x cs hok ⟨v, rfl, h⟩
    exact ⟨v, rfl, Kd.S_mono h hok⟩
  M_bound := by
    rintro w base ok x cs ⟨v, rfl, h⟩
    exact ⟨v, rfl, Kd.S_bound h⟩
  M_move := by
    rintro w w1 base ok x cs hm ⟨v, rfl, h⟩
    exact ⟨v, rfl, Kd.S_move h hm⟩
  M_lower := by
    rintro w base base' ok x cs hb ⟨v, rfl, h⟩
    exact ⟨v, rfl, Kd.S_lower h hb⟩
theorem S_imp (hs : d.sz = d'.sz) (h : ∀ w base ok x cs, d.M w base ok x cs -> d'.M w base ok x cs) (hr : Kd.S d e w base ok v xs) : Kd.S d' e w base ok v xs := by
  obtain ⟨f, hr⟩ := hr
  exact ⟨f, Kd.R_imp (d := Kd.tag f d) (d' := Kd.tag f d') hs (fun w base ok x cs hp => h _ _ _ _ _ hp) hr⟩
theorem mono_sliceA (e : Nat) : Kd.Mono (fun d : Kd α => sliceA e d) := by
  refine ⟨fun _ _ _ => rfl, fun d d' hs h w x cs hk => (Kd.mono_slice e Kd.mono_id).K d d' hs h w x cs hk, ?_⟩
  rintro d d' hs h w base ok x cs ⟨v, rfl, hr⟩
  exact ⟨v, rfl, S_imp hs h hr⟩
theorem sub_sliceA {E : List Nat} (e : Nat) (he : e ∈ E) : Kd.Sub (fun d : Kd α => sliceA e d) E := fun d h q hq => by
  rcases List.mem_cons.1 hq with rfl | hq
  . exact he
  . exact h q hq
end
def FA (d : Kd S26) : Kd S26 := Kd.iso (Kd.pair Kd.string (Kd.pair Kd.string (Kd.pair Kd.string (sliceA 26 d)))) (fun x : S26 => (x.f0, x.f1, x.f2, x.f3))
theorem monoA : Kd.Mono FA := Kd.mono_iso _ (Kd.mono_pair (Kd.mono_const _) (Kd.mono_pair (Kd.mono_const _) (Kd.mono_pair (Kd.mono_const _) (mono_sliceA 26))))
theorem subA : Kd.Sub FA [26] := Kd.sub_iso _ (Kd.sub_pair (Kd.sub_const _ (by decide)) (Kd.sub_pair (Kd.sub_const _ (by decide)) (Kd.sub_pair (Kd.sub_const _ (by decide)) (sub_sliceA 26 (by decide)))))
theorem szA : ∀ n, (Kd.upto FA 4 [26] n).sz = 4 := Kd.upto_sz (fun _ => rfl)
def kB : Kd S26 := Kd.fix FA 4 [26] szA (Kd.upto_E subA)
theorem upto_KA : ∀ n {w x cs}, (Kd.upto FA 4 [26] n).K w x cs -> (Kd.upto F26 4 [26] n).K w x cs
  | 0, _, _, _, h => h.elim
  | n + 1, _, _, _, h => mono26.K (Kd.upto FA 4 [26] n) (Kd.upto F26 4 [26] n) (by rw [szA n, sz26 n]) (fun _ _ _ hp => upto_KA n hp) _ _ _ h
def kA : Kd S26 where
  sz := k26.sz
  E := k26.E
  K := k26.K
  M := kB.M
  K_len := k26.K_len
  K_one := k26.K_one
  K_below := k26.K_below
  K_of_M := by
    rintro w base ok x cs ⟨n, h⟩
    exact ⟨n, upto_KA n ((Kd.upto FA 4 [26] n).K_of_M h)⟩
  M_mono := kB.M_mono
  M_bound := kB.M_bound
  M_move := kB.M_move
  M_lower := kB.M_lower
theorem kA_openM {w : World} {base : Nat} {ok : Nat -> Prop} {x : S26} {cs : List Value} (h : kA.M w base ok x cs) : ∃ v3, cs = [.string x.f0, .string x.f1, .string x.f2, v3] /\ Kd.S kA 26 w base ok v3 x.f3 := by
  obtain ⟨n, h⟩ := h
  cases n with
  | zero => exact h.elim
  | succ n =>
    obtain ⟨_, _, rfl, rfl, _, _, rfl, rfl, _, _, rfl, rfl, v3, rfl, g⟩ := h
    exact ⟨v3, rfl, S_imp (d' := kA) (szA n) (fun _ _ _ _ _ hp => ⟨n, hp⟩) g⟩
theorem SA_back {w : World} {base : Nat} {ok : Nat -> Prop} {v : Value} {xs : List S26} (h : Kd.S kA 26 w base ok v xs) : ∃ n, Kd.S (Kd.upto FA 4 [26] n) 26 w base ok v xs := by
  obtain ⟨f, h0, inner, ho, hr⟩ := h
  obtain ⟨N, hN⟩ := Kd.reps_bounded (R := fun n p c => (Kd.tag f (Kd.upto FA 4 [26] n)).M w base (fun k => ok k /\ some k ≠ v.ownBlock) p c) (fun n m p c hnm hp => Kd.upto_M_le monoA szA hnm hp) hr
  refine ⟨N, f, h0, inner, ?_, ?_⟩
  . show w.ownsRow base 26 (Kd.upto FA 4 [26] N).sz v xs.zipIdx.length inner
    rw [szA N]; exact ho
  . show Reps _ (Kd.upto FA 4 [26] N).sz xs.zipIdx inner
    rw [szA N]; exact hN
theorem kA_mkM (w : World) (base : Nat) (ok : Nat -> Prop) (x : S26) {v3 : Value} (g : Kd.S kA 26 w base ok v3 x.f3) : kA.M w base ok x [.string x.f0, .string x.f1, .string x.f2, v3] := by
  obtain ⟨n, q⟩ := SA_back g
  exact ⟨n + 1, [.string x.f0], [.string x.f1, .string x.f2, v3], rfl, rfl, [.string x.f1], [.string x.f2, v3], rfl, rfl, [.string x.f2], [v3], rfl, rfl, v3, rfl, q⟩
end Go.Proofs.Ytegkokdncakadaa.Q

/- The contracts of laws.markNodeS and laws.markNode: what they write of nodes whose rows lie apart at every depth. No condition. -/
set_option linter.unusedVariables false
set_option linter.unusedSimpArgs false
namespace Go.Proofs.Ytegkokdncakadaa.Q
open Go.RowKit Go.Proofs.YtegkokdncakadaaW.PrintWords Go.Proofs.YtegkokdncakadaaW.PrintLast
def laws_markNodeS.l0 : Nat -> List (S26) -> Int -> Int -> Option (Int × List (S26))
 | 0, _, _, _ => none
 | k + 1, x0, x1, x5 => if x5 < (x0.length : Int) then (if 0 <= x5 then ((laws_markText.f k x1).bind fun t1 => ((laws_markText.f k (wrap64 (x1 + 1))).bind fun t2 => ((laws_markText.f k (wrap64 ((wrap64 (x1 + 1)) + 1))).bind fun t3 => ((laws_markNodeS.l0 k ((rd_T26 x0 x5).f3) (wrap64 ((wrap64 ((wrap64 (x1 + 1)) + 1)) + 1)) 0).bind fun b4 => (laws_markNodeS.l0 k (x0.set (x5 : Int).toNat (⟨t1, t2, t3, b4.2⟩ : S26)) b4.1 (wrap64 (x5 + 1))))))) else none) else (some (x1, x0))
def laws_markNodeS.f (k : Nat) (l0 : List (S26)) (a1 : Int) : Option (Int × List (S26)) := laws_markNodeS.l0 k l0 a1 0
theorem markNodeS_cells {α : Type} {d : Kd α} {e g n cap : Nat} {w : World} {base : Nat} {ok oki : Nat -> Prop} {xs : List α} {i : Int} {c : List Value} (h : Kd.H d e w base ok (.slice (some ⟨g, 0, none⟩) n cap) xs i oki c) (h0 : 0 <= i) (h1 : i < n) : (∀ j u, c[j]? = some u -> w.cell? ⟨g, i.toNat * d.sz + j, none⟩ = some u) /\ (∀ j, w.frozen? ⟨g, i.toNat * d.sz + j, none⟩ = false) := by
 obtain ⟨rows, _, hraw, _, _, hcc, _⟩ := Kd.H_raw h h0 h1
 obtain ⟨_, _, _, _, hfr⟩ := Kd.R_elem hraw [] i h0 h1
 exact ⟨hcc, hfr⟩
set_option maxHeartbeats 16000000 in
set_option maxRecDepth 100000 in
theorem laws_markNodeS.calls (k : Nat) : ∀ (P0_ : Nat -> Prop) (u9000_ : Value) (l0 : List (S26)) (a1 : Int) (r1 : Int) (r2 : List (S26)) (w0 w : World) (hB : Below w0.heap.size w0 w) (ho0 : Kd.S kA 26 w w0.heap.size P0_ u9000_ l0) (h : laws_markNodeS.f k l0 a1 = some (r1, r2)),
 Calls Try.prog 19 #[u9000_, .int .i64 a1] w fun e w' => e = .returned (.int .i64 r1) /\ Kd.S kA 26 w' w0.heap.size P0_ u9000_ r2 /\ Below w0.heap.size w0 w' /\ Kept w w' P0_ := by
 induction k using Nat.strongRecOn with
 | _ k ih =>
 intro P0_ u9000_ l0 a1 r1 r2 w0 w hB ho0 h
 obtain ⟨A0, c0, rfl⟩ := Kd.S_slice ho0
 have HO := A_ ho0
 have HB := A_ hB
 have HK := A_ (Kept.refl w P0_)
 clear hB ho0
 have H' : Aside0 (laws_markNodeS.l0 k l0 a1 0 = some (r1, r2)) := ⟨h⟩
 clear h
 go_enter Try.func19, Try.ntmps19
 go_wp2
 go_loopg [1, 5] k (fun kq v1 v5 w' => ∃ (x0_1 : List (S26)) (x1_1 : Int) (x5_1 : Int), v1 = .int .i64 x1_1 /\ v5 = .int .i64 x5_1 /\ Aside0 (laws_markNodeS.l0 kq x0_1 x1_1 x5_1 = some (r1, r2)) /\ Aside0 (kq <= k) /\ Aside0 (Kd.S kA 26 w' w0.heap.size P0_ (.slice A0 l0.length c0) x0_1) /\ Aside0 (x0_1.length = l0.length) /\ Aside0 (Below w0.heap.size w0 w') /\ Aside0 (Kept w w' P0_))
 case atStart => exact ⟨l0, a1, 0, rfl, rfl, H', ⟨Nat.le_refl _⟩, HO, ⟨rfl⟩, HB, HK⟩
 case round =>
  clear H' HO HB HK
  obtain ⟨x0, x1, x5, rfl, rfl, HA, HK1, HO, HL, HB, HK⟩ := hrel
  cases gk with
  | zero => exact absurd HA.out (by simp [laws_markNodeS.l0])
  | succ k1 =>
   have H := HA.out
   clear HA
   simp only [laws_markNodeS.l0] at H
   by_cases c3 : x5 < (x0.length : Int)
   rotate_left
   . rw [if_neg c3] at H
     have c3b0 : decide (x5 < (l0.length : Int)) = false := decide_eq_false (by rw [← HL.out]; exact c3)
     obtain ⟨rfl, rfl⟩ := Prod.mk.inj (Option.some.inj H)
     go_wp2
     go_ret
     exact ⟨rfl, HO.out, HB.out, HK.out⟩
   rw [if_pos c3] at H
   have c3' : x5 < (l0.length : Int) := by rw [← HL.out]; exact c3
   have c3b0 : decide (x5 < (l0.length : Int)) = true := decide_eq_true c3'
   by_cases c4 : 0 <= x5
   rotate_left
   . rw [if_neg c4] at H
     exact absurd H (by simp)
   rw [if_pos c4] at H
   have c4b0 := decide_eq_true c4
   replace H := Option.bind_eq_some_iff.mp H
   obtain ⟨t1, A0_, H⟩ := H
   have At1 := A_ A0_
   clear A0_
   replace H := Option.bind_eq_some_iff.mp H
   obtain ⟨t2, A0_, H⟩ := H
   have At2 := A_ A0_
   clear A0_
   replace H := Option.bind_eq_some_iff.mp H
   obtain ⟨t3, A0_, H⟩ := H
   have At3 := A_ A0_
   clear A0_
   replace H := Option.bind_eq_some_iff.mp H
   obtain ⟨⟨t4a, t4b⟩, A0_, H⟩ := H
   dsimp only at H
   have At4a : Aside0 (laws_markNodeS.f k1 ((rd_T26 x0 x5).f3) (wrap64 ((wrap64 ((wrap64 (x1 + 1)) + 1)) + 1)) = some (t4a, t4b)) := ⟨A0_⟩
   clear A0_
   have H' : Aside0 ((laws_markNodeS.l0 k1 (x0.set (x5 : Int).toNat (⟨t1, t2, t3, t4b⟩ : S26)) t4a (wrap64 (x5 + 1))) = some (r1, r2)) := ⟨H⟩
   clear H
   obtain ⟨g, cap, ev, hgb, hgl, _⟩ := Kd.S_form HO.out (by omega)
   injection ev with eA en ec
   subst eA
   subst ec
   clear en
   obtain ⟨oki, c, hcl, hM, hcc, hfr, hoki, hH⟩ := Kd.S_elem HO.out z26 x5 c4 c3'
   obtain ⟨v3, rfl, g3⟩ := kA_openM hM
   obtain ⟨Av3, cv3, rfl⟩ := Kd.S_slice g3
   have HP3 : Aside0 (Kd.S kA 26 wr w0.heap.size oki (.slice Av3 (rd_T26 x0 x5).f3.length cv3 : Value) ((rd_T26 x0 x5).f3)) := ⟨g3⟩
   have HH : Aside0 (Kd.H kA 26 wr w0.heap.size P0_ (.slice (some ⟨g, 0, none⟩) l0.length c0) x0 x5 oki [.string (rd_T26 x0 x5).f0, .string (rd_T26 x0 x5).f1, .string (rd_T26 x0 x5).f2, (.slice Av3 (rd_T26 x0 x5).f3.length cv3 : Value)]) := ⟨hH⟩
   have HN := A_ (fun k_ (h_ : oki k_) => (hoki k_ h_).2)
   have HQ := A_ (fun k_ (h_ : oki k_) => (hoki k_ h_).1)
   have HG : Aside0 (P0_ g) := ⟨(Kd.S_R HO.out).1 g rfl⟩
   have GB := A_ hgb
   clear hcl hM hcc hfr hoki hH hgb hgl HO g3
   have hc_ := markNodeS_cells HH.out c4 c3'
   have hx0 : wr.cell? ⟨g, (x5 : Int).toNat * 4, none⟩ = some (.string (rd_T26 x0 x5).f0) := hc_.1 0 _ rfl
   have hx1 : wr.cell? ⟨g, (x5 : Int).toNat * 4 + 1, none⟩ = some (.string (rd_T26 x0 x5).f1) := hc_.1 1 _ rfl
   have hx2 : wr.cell? ⟨g, (x5 : Int).toNat * 4 + 2, none⟩ = some (.string (rd_T26 x0 x5).f2) := hc_.1 2 _ rfl
   have hx3 : wr.cell? ⟨g, (x5 : Int).toNat * 4 + 3, none⟩ = some ((.slice Av3 (rd_T26 x0 x5).f3.length cv3 : Value)) := hc_.1 3 _ rfl
   have hf0 : wr.frozen? ⟨g, (x5 : Int).toNat * 4, none⟩ = false := hc_.2 0
   have hf1 : wr.frozen? ⟨g, (x5 : Int).toNat * 4 + 1, none⟩ = false := hc_.2 1
   have hf2 : wr.frozen? ⟨g, (x5 : Int).toNat * 4 + 2, none⟩ = false := hc_.2 2
   have hf3 : wr.frozen? ⟨g, (x5 : Int).toNat * 4 + 3, none⟩ = false := hc_.2 3
   clear hc_
   have c3k := A_ c3'
   have c4k := A_ c4
   replace c3 := eq_true c3'
   replace c4 := eq_true c4
   clear c3'
   go_wp2_with (first | ((with_reducible refine gc_ (f := 18) rfl ?_); refine gL_ (some 15) Try.func18 #[.int .i64 x1] ?_; (with_reducible refine (laws_markText.calls k1 x1 t1 _ At1.out).mono ?_); rintro e w_1 ⟨rfl, hb_⟩; refine ⟨_, rfl, ?_⟩; have m0_ : Aside0 (Kd.H kA 26 w_1 w0.heap.size P0_ (.slice (some ⟨g, 0, none⟩) l0.length c0) x0 x5 oki [.string (rd_T26 x0 x5).f0, .string (rd_T26 x0 x5).f1, .string (rd_T26 x0 x5).f2, (.slice Av3 (rd_T26 x0 x5).f3.length cv3 : Value)]) := ⟨Kd.H_below HH.out hb_⟩; have m1_ : Aside0 (Kd.S kA 26 w_1 w0.heap.size oki (.slice Av3 (rd_T26 x0 x5).f3.length cv3 : Value) ((rd_T26 x0 x5).f3)) := ⟨Kd.S_below HP3.out hb_⟩; have m2_ : Aside0 (Below w0.heap.size w0 w_1) := ⟨below_step HB.out hb_⟩; have m3_ : Aside0 (Kept w w_1 P0_) := ⟨Kept.below HK.out hb_⟩; clear HH HP3 HB HK; clear hx0 hf0 hx1 hf1 hx2 hf2 hx3 hf3; have HH := m0_; have HP3 := m1_; have HB := m2_; have HK := m3_; clear m0_ m1_ m2_ m3_; have hc_ := markNodeS_cells HH.out c4k.out c3k.out; have hx0 : w_1.cell? ⟨g, (x5 : Int).toNat * 4, none⟩ = some (.string (rd_T26 x0 x5).f0) := hc_.1 0 _ rfl; have hx1 : w_1.cell? ⟨g, (x5 : Int).toNat * 4 + 1, none⟩ = some (.string (rd_T26 x0 x5).f1) := hc_.1 1 _ rfl; have hx2 : w_1.cell? ⟨g, (x5 : Int).toNat * 4 + 2, none⟩ = some (.string (rd_T26 x0 x5).f2) := hc_.1 2 _ rfl; have hx3 : w_1.cell? ⟨g, (x5 : Int).toNat * 4 + 3, none⟩ = some ((.slice Av3 (rd_T26 x0 x5).f3.length cv3 : Value)) := hc_.1 3 _ rfl; have hf0 : w_1.frozen? ⟨g, (x5 : Int).toNat * 4, none⟩ = false := hc_.2 0; have hf1 : w_1.frozen? ⟨g, (x5 : Int).toNat * 4 + 1, none⟩ = false := hc_.2 1; have hf2 : w_1.frozen? ⟨g, (x5 : Int).toNat * 4 + 2, none⟩ = false := hc_.2 2; have hf3 : w_1.frozen? ⟨g, (x5 : Int).toNat * 4 + 3, none⟩ = false := hc_.2 3; clear hc_; clear hb_) | ((with_reducible refine gate_store (t := 9) (p := 17) rfl ?_); refine store_event (t := 9) (p := 17) (v := ?vo_1) (w1 := (w_1.setCell ⟨g, (x5 : Int).toNat * 4, none⟩ (.string t1))) ?hg ?ho ?hn ?hr ?_; (case ho => rfl); (case hg => rfl); (case hn => rfl); (case hr => first | (go_simp; done) | (go_simp; rfl)); intro w_2 hw_; have hs_ := Kd.H_seg HH.out c4k.out c3k.out (seg := [.string t1]) (j := 0) (show 1 <= 4 by decide) (by intro q_ hq_; rcases List.mem_singleton.1 hq_ with rfl; rfl); have hg_ : w_1.grownBy w_2 (some g) := (by rw [hw_]; exact hs_.2); have m0_ : Aside0 (Kd.H kA 26 w_2 w0.heap.size P0_ (.slice (some ⟨g, 0, none⟩) l0.length c0) x0 x5 oki [.string t1, .string (rd_T26 x0 x5).f1, .string (rd_T26 x0 x5).f2, (.slice Av3 (rd_T26 x0 x5).f3.length cv3 : Value)]) := ⟨(by rw [hw_]; exact hs_.1)⟩; have m1_ : Aside0 (Kd.S kA 26 w_2 w0.heap.size oki (.slice Av3 (rd_T26 x0 x5).f3.length cv3 : Value) ((rd_T26 x0 x5).f3)) := ⟨Kd.S_grown HP3.out hg_ (fun k_ h_ e_ => HN.out k_ h_ (by injection e_))⟩; have m2_ : Aside0 (Below w0.heap.size w0 w_2) := ⟨(by rw [hw_]; exact below_set HB.out GB.out)⟩; have m3_ : Aside0 (Kept w w_2 P0_) := ⟨Kept.of_grown hg_ HK.out (fun k_ e_ => .inl (by injection e_ with e_; rw [← e_]; exact HG.out))⟩; clear HH HP3 HB HK; clear hx0 hf0 hx1 hf1 hx2 hf2 hx3 hf3; have HH := m0_; have HP3 := m1_; have HB := m2_; have HK := m3_; clear m0_ m1_ m2_ m3_; have hc_ := markNodeS_cells HH.out c4k.out c3k.out; have hx0 : w_2.cell? ⟨g, (x5 : Int).toNat * 4, none⟩ = some (.string t1) := hc_.1 0 _ rfl; have hx1 : w_2.cell? ⟨g, (x5 : Int).toNat * 4 + 1, none⟩ = some (.string (rd_T26 x0 x5).f1) := hc_.1 1 _ rfl; have hx2 : w_2.cell? ⟨g, (x5 : Int).toNat * 4 + 2, none⟩ = some (.string (rd_T26 x0 x5).f2) := hc_.1 2 _ rfl; have hx3 : w_2.cell? ⟨g, (x5 : Int).toNat * 4 + 3, none⟩ = some ((.slice Av3 (rd_T26 x0 x5).f3.length cv3 : Value)) := hc_.1 3 _ rfl; have hf0 : w_2.frozen? ⟨g, (x5 : Int).toNat * 4, none⟩ = false := hc_.2 0; have hf1 : w_2.frozen? ⟨g, (x5 : Int).toNat * 4 + 1, none⟩ = false := hc_.2 1; have hf2 : w_2.frozen? ⟨g, (x5 : Int).toNat * 4 + 2, none⟩ = false := hc_.2 2; have hf3 : w_2.frozen? ⟨g, (x5 : Int).toNat * 4 + 3, none⟩ = false := hc_.2 3; clear hc_; clear hw_ hs_ hg_) | ((with_reducible refine gc_ (f := 18) rfl ?_); refine gL_ (some 23) Try.func18 #[.int .i64 (wrap64 (x1 + 1))] ?_; (with_reducible refine (laws_markText.calls k1 (wrap64 (x1 + 1)) t2 _ At2.out).mono ?_); rintro e w_3 ⟨rfl, hb_⟩; refine ⟨_, rfl, ?_⟩; have m0_ : Aside0 (Kd.H kA 26 w_3 w0.heap.size P0_ (.slice (some ⟨g, 0, none⟩) l0.length c0) x0 x5 oki [.string t1, .string (rd_T26 x0 x5).f1, .string (rd_T26 x0 x5).f2, (.slice Av3 (rd_T26 x0 x5).f3.length cv3 : Value)]) := ⟨Kd.H_below HH.out hb_⟩; have m1_ : Aside0 (Kd.S kA 26 w_3 w0.heap.size oki (.slice Av3 (rd_T26 x0 x5).f3.length cv3 : Value) ((rd_T26 x0 x5).f3)) := ⟨Kd.S_below HP3.out hb_⟩; have m2_ : Aside0 (Below w0.heap.size w0 w_3) := ⟨below_step HB.out hb_⟩; have m3_ : Aside0 (Kept w w_3 P0_) := ⟨Kept.below HK.out hb_⟩; clear HH HP3 HB HK; clear hx0 hf0 hx1 hf1 hx2 hf2 hx3 hf3; have HH := m0_; have HP3 := m1_; have HB := m2_; have HK := m3_; clear m0_ m1_ m2_ m3_; have hc_ := markNodeS_cells HH.out c4k.out c3k.out; have hx0 : w_3.cell? ⟨g, (x5 : Int).toNat * 4, none⟩ = some (.string t1) := hc_.1 0 _ rfl; have hx1 : w_3.cell? ⟨g, (x5 : Int).toNat * 4 + 1, none⟩ = some (.string (rd_T26 x0 x5).f1) := hc_.1 1 _ rfl; have hx2 : w_3.cell? ⟨g, (x5 : Int).toNat * 4 + 2, none⟩ = some (.string (rd_T26 x0 x5).f2) := hc_.1 2 _ rfl; have hx3 : w_3.cell? ⟨g, (x5 : Int).toNat * 4 + 3, none⟩ = some ((.slice Av3 (rd_T26 x0 x5).f3.length cv3 : Value)) := hc_.1 3 _ rfl; have hf0 : w_3.frozen? ⟨g, (x5 : Int).toNat * 4, none⟩ = false := hc_.2 0; have hf1 : w_3.frozen? ⟨g, (x5 : Int).toNat * 4 + 1, none⟩ = false := hc_.2 1; have hf2 : w_3.frozen? ⟨g, (x5 : Int).toNat * 4 + 2, none⟩ = false := hc_.2 2; have hf3 : w_3.frozen? ⟨g, (x5 : Int).toNat * 4 + 3, none⟩ = false := hc_.2 3; clear hc_; clear hb_) | ((with_reducible refine gate_store (t := 9) (p := 25) rfl ?_); refine store_event (t := 9) (p := 25) (v := ?vo_3) (w1 := (w_3.setCell ⟨g, (x5 : Int).toNat * 4 + 1, none⟩ (.string t2))) ?hg ?ho ?hn ?hr ?_; (case ho => rfl); (case hg => rfl); (case hn => rfl); (case hr => first | (go_simp; done) | (go_simp; rfl)); intro w_4 hw_; have hs_ := Kd.H_seg HH.out c4k.out c3k.out (seg := [.string t2]) (j := 1) (show 2 <= 4 by decide) (by intro q_ hq_; rcases List.mem_singleton.1 hq_ with rfl; rfl); have hg_ : w_3.grownBy w_4 (some g) := (by rw [hw_]; exact hs_.2); have m0_ : Aside0 (Kd.H kA 26 w_4 w0.heap.size P0_ (.slice (some ⟨g, 0, none⟩) l0.length c0) x0 x5 oki [.string t1, .string t2, .string (rd_T26 x0 x5).f2, (.slice Av3 (rd_T26 x0 x5).f3.length cv3 : Value)]) := ⟨(by rw [hw_]; exact hs_.1)⟩; have m1_ : Aside0 (Kd.S kA 26 w_4 w0.heap.size oki (.slice Av3 (rd_T26 x0 x5).f3.length cv3 : Value) ((rd_T26 x0 x5).f3)) := ⟨Kd.S_grown HP3.out hg_ (fun k_ h_ e_ => HN.out k_ h_ (by injection e_))⟩; have m2_ : Aside0 (Below w0.heap.size w0 w_4) := ⟨(by rw [hw_]; exact below_set HB.out GB.out)⟩; have m3_ : Aside0 (Kept w w_4 P0_) := ⟨Kept.of_grown hg_ HK.out (fun k_ e_ => .inl (by injection e_ with e_; rw [← e_]; exact HG.out))⟩; clear HH HP3 HB HK; clear hx0 hf0 hx1 hf1 hx2 hf2 hx3 hf3; have HH := m0_; have HP3 := m1_; have HB := m2_; have HK := m3_; clear m0_ m1_ m2_ m3_; have hc_ := markNodeS_cells HH.out c4k.out c3k.out; have hx0 : w_4.cell? ⟨g, (x5 : Int).toNat * 4, none⟩ = some (.string t1) := hc_.1 0 _ rfl; have hx1 : w_4.cell? ⟨g, (x5 : Int).toNat * 4 + 1, none⟩ = some (.string t2) := hc_.1 1 _ rfl; have hx2 : w_4.cell? ⟨g, (x5 : Int).toNat * 4 + 2, none⟩ = some (.string (rd_T26 x0 x5).f2) := hc_.1 2 _ rfl; have hx3 : w_4.cell? ⟨g, (x5 : Int).toNat * 4 + 3, none⟩ = some ((.slice Av3 (rd_T26 x0 x5).f3.length cv3 : Value)) := hc_.1 3 _ rfl; have hf0 : w_4.frozen? ⟨g, (x5 : Int).toNat * 4, none⟩ = false := hc_.2 0; have hf1 : w_4.frozen? ⟨g, (x5 : Int).toNat * 4 + 1, none⟩ = false := hc_.2 1; have hf2 : w_4.frozen? ⟨g, (x5 : Int).toNat * 4 + 2, none⟩ = false := hc_.2 2; have hf3 : w_4.frozen? ⟨g, (x5 : Int).toNat * 4 + 3, none⟩ = false := hc_.2 3; clear hc_; clear hw_ hs_ hg_) | ((with_reducible refine gc_ (f := 18) rfl ?_); refine gL_ (some 31) Try.func18 #[.int .i64 (wrap64 ((wrap64 (x1 + 1)) + 1))] ?_; (with_reducible refine (laws_markText.calls k1 (wrap64 ((wrap64 (x1 + 1)) + 1)) t3 _ At3.out).mono ?_); rintro e w_5 ⟨rfl, hb_⟩; refine ⟨_, rfl, ?_⟩; have m0_ : Aside0 (Kd.H kA 26 w_5 w0.heap.size P0_ (.slice (some ⟨g, 0, none⟩) l0.length c0) x0 x5 oki [.string t1, .string t2, .string (rd_T26 x0 x5).f2, (.slice Av3 (rd_T26 x0 x5).f3.length cv3 : Value)]) := ⟨Kd.H_below HH.out hb_⟩; have m1_ : Aside0 (Kd.S kA 26 w_5 w0.heap.size oki (.slice Av3 (rd_T26 x0 x5).f3.length cv3 : Value) ((rd_T26 x0 x5).f3)) := ⟨Kd.S_below HP3.out hb_⟩; have m2_ : Aside0 (Below w0.heap.size w0 w_5) := ⟨below_step HB.out hb_⟩; have m3_ : Aside0 (Kept w w_5 P0_) := ⟨Kept.below HK.out hb_⟩; clear HH HP3 HB HK; clear hx0 hf0 hx1 hf1 hx2 hf2 hx3 hf3; have HH := m0_; have HP3 := m1_; have HB := m2_; have HK := m3_; clear m0_ m1_ m2_ m3_; have hc_ := markNodeS_cells HH.out c4k.out c3k.out; have hx0 : w_5.cell? ⟨g, (x5 : Int).toNat * 4, none⟩ = some (.string t1) := hc_.1 0 _ rfl; have hx1 : w_5.cell? ⟨g, (x5 : Int).toNat * 4 + 1, none⟩ = some (.string t2) := hc_.1 1 _ rfl; have hx2 : w_5.cell? ⟨g, (x5 : Int).toNat * 4 + 2, none⟩ = some (.string (rd_T26 x0 x5).f2) := hc_.1 2 _ rfl; have hx3 : w_5.cell? ⟨g, (x5 : Int).toNat * 4 + 3, none⟩ = some ((.slice Av3 (rd_T26 x0 x5).f3.length cv3 : Value)) := hc_.1 3 _ rfl; have hf0 : w_5.frozen? ⟨g, (x5 : Int).toNat * 4, none⟩ = false := hc_.2 0; have hf1 : w_5.frozen? ⟨g, (x5 : Int).toNat * 4 + 1, none⟩ = false := hc_.2 1; have hf2 : w_5.frozen? ⟨g, (x5 : Int).toNat * 4 + 2, none⟩ = false := hc_.2 2; have hf3 : w_5.frozen? ⟨g, (x5 : Int).toNat * 4 + 3, none⟩ = false := hc_.2 3; clear hc_; clear hb_) | ((with_reducible refine gate_store (t := 9) (p := 33) rfl ?_); refine store_event (t := 9) (p := 33) (v := ?vo_5) (w1 := (w_5.setCell ⟨g, (x5 : Int).toNat * 4 + 2, none⟩ (.string t3))) ?hg ?ho ?hn ?hr ?_; (case ho => rfl); (case hg => rfl); (case hn => rfl); (case hr => first | (go_simp; done) | (go_simp; rfl)); intro w_6 hw_; have hs_ := Kd.H_seg HH.out c4k.out c3k.out (seg := [.string t3]) (j := 2) (show 3 <= 4 by decide) (by intro q_ hq_; rcases List.mem_singleton.1 hq_ with rfl; rfl); have hg_ : w_5.grownBy w_6 (some g) := (by rw [hw_]; exact hs_.2); have m0_ : Aside0 (Kd.H kA 26 w_6 w0.heap.size P0_ (.slice (some ⟨g, 0, none⟩) l0.length c0) x0 x5 oki [.string t1, .string t2, .string t3, (.slice Av3 (rd_T26 x0 x5).f3.length cv3 : Value)]) := ⟨(by rw [hw_]; exact hs_.1)⟩; have m1_ : Aside0 (Kd.S kA 26 w_6 w0.heap.size oki (.slice Av3 (rd_T26 x0 x5).f3.length cv3 : Value) ((rd_T26 x0 x5).f3)) := ⟨Kd.S_grown HP3.out hg_ (fun k_ h_ e_ => HN.out k_ h_ (by injection e_))⟩; have m2_ : Aside0 (Below w0.heap.size w0 w_6) := ⟨(by rw [hw_]; exact below_set HB.out GB.out)⟩; have m3_ : Aside0 (Kept w w_6 P0_) := ⟨Kept.of_grown hg_ HK.out (fun k_ e_ => .inl (by injection e_ with e_; rw [← e_]; exact HG.out))⟩; clear HH HP3 HB HK; clear hx0 hf0 hx1 hf1 hx2 hf2 hx3 hf3; have HH := m0_; have HP3 := m1_; have HB := m2_; have HK := m3_; clear m0_ m1_ m2_ m3_; have hc_ := markNodeS_cells HH.out c4k.out c3k.out; have hx0 : w_6.cell? ⟨g, (x5 : Int).toNat * 4, none⟩ = some (.string t1) := hc_.1 0 _ rfl; have hx1 : w_6.cell? ⟨g, (x5 : Int).toNat * 4 + 1, none⟩ = some (.string t2) := hc_.1 1 _ rfl; have hx2 : w_6.cell? ⟨g, (x5 : Int).toNat * 4 + 2, none⟩ = some (.string t3) := hc_.1 2 _ rfl; have hx3 : w_6.cell? ⟨g, (x5 : Int).toNat * 4 + 3, none⟩ = some ((.slice Av3 (rd_T26 x0 x5).f3.length cv3 : Value)) := hc_.1 3 _ rfl; have hf0 : w_6.frozen? ⟨g, (x5 : Int).toNat * 4, none⟩ = false := hc_.2 0; have hf1 : w_6.frozen? ⟨g, (x5 : Int).toNat * 4 + 1, none⟩ = false := hc_.2 1; have hf2 : w_6.frozen? ⟨g, (x5 : Int).toNat * 4 + 2, none⟩ = false := hc_.2 2; have hf3 : w_6.frozen? ⟨g, (x5 : Int).toNat * 4 + 3, none⟩ = false := hc_.2 3; clear hc_; clear hw_ hs_ hg_) | ((with_reducible refine gc_ (f := 19) rfl ?_); refine gL_ (some 42) Try.func19 #[(.slice Av3 (rd_T26 x0 x5).f3.length cv3 : Value), .int .i64 (wrap64 ((wrap64 ((wrap64 (x1 + 1)) + 1)) + 1))] ?_; (with_reducible refine (ih k1 (by have := HK1.out; omega) oki (.slice Av3 (rd_T26 x0 x5).f3.length cv3 : Value) ((rd_T26 x0 x5).f3) (wrap64 ((wrap64 ((wrap64 (x1 + 1)) + 1)) + 1)) t4a t4b w0 _ HB.out HP3.out At4a.out).mono ?_); rintro e w_7 ⟨rfl, hr_, hb_, hk_⟩; refine ⟨_, rfl, ?_⟩; have m0_ : Aside0 (Kd.H kA 26 w_7 w0.heap.size P0_ (.slice (some ⟨g, 0, none⟩) l0.length c0) x0 x5 oki [.string t1, .string t2, .string t3, (.slice Av3 (rd_T26 x0 x5).f3.length cv3 : Value)]) := ⟨Kd.H_step HH.out (fun k_ _ hn_ hl_ => hk_.2 k_ hl_ (fun h3_ => hn_ h3_))⟩; have m1_ : Aside0 (Kd.S kA 26 w_7 w0.heap.size oki (.slice Av3 (rd_T26 x0 x5).f3.length cv3 : Value) t4b) := ⟨hr_⟩; have m2_ : Aside0 (Below w0.heap.size w0 w_7) := ⟨hb_⟩; have m3_ : Aside0 (Kept w w_7 P0_) := ⟨Kept.then_ HK.out hk_ (fun k_ h_ => .inl (HQ.out k_ h_))⟩; clear HH HP3 HB HK; clear hx0 hf0 hx1 hf1 hx2 hf2 hx3 hf3; have HH := m0_; have HP3 := m1_; have HB := m2_; have HK := m3_; clear m0_ m1_ m2_ m3_; have hc_ := markNodeS_cells HH.out c4k.out c3k.out; have hx0 : w_7.cell? ⟨g, (x5 : Int).toNat * 4, none⟩ = some (.string t1) := hc_.1 0 _ rfl; have hx1 : w_7.cell? ⟨g, (x5 : Int).toNat * 4 + 1, none⟩ = some (.string t2) := hc_.1 1 _ rfl; have hx2 : w_7.cell? ⟨g, (x5 : Int).toNat * 4 + 2, none⟩ = some (.string t3) := hc_.1 2 _ rfl; have hx3 : w_7.cell? ⟨g, (x5 : Int).toNat * 4 + 3, none⟩ = some ((.slice Av3 (rd_T26 x0 x5).f3.length cv3 : Value)) := hc_.1 3 _ rfl; have hf0 : w_7.frozen? ⟨g, (x5 : Int).toNat * 4, none⟩ = false := hc_.2 0; have hf1 : w_7.frozen? ⟨g, (x5 : Int).toNat * 4 + 1, none⟩ = false := hc_.2 1; have hf2 : w_7.frozen? ⟨g, (x5 : Int).toNat * 4 + 2, none⟩ = false := hc_.2 2; have hf3 : w_7.frozen? ⟨g, (x5 : Int).toNat * 4 + 3, none⟩ = false := hc_.2 3; clear hc_; clear hr_ hb_ hk_))
   go_roundg k1
   case measure => have := HK1.out; omega
   case rel => exact ⟨_, t4a, wrap64 (x5 + 1), rfl, rfl, H', ⟨by have := HK1.out; omega⟩, ⟨Kd.H_back HH.out (kA_mkM _ _ _ (⟨t1, t2, t3, t4b⟩ : S26) HP3.out) (fun _ h_ => h_)⟩, ⟨by rw [List.length_set]; exact HL.out⟩, HB, HK⟩
def laws_markNode.f (k : Nat) (a0_0 a0_1 a0_2 : ByteArray) (l0 : List (S26)) (a1 : Int) : Option (Int × List (S26)) := laws_markNodeS.f k l0 a1
set_option maxHeartbeats 8000000 in
theorem laws_markNode.calls (k : Nat) (a0_0 : ByteArray) (a0_1 : ByteArray) (a0_2 : ByteArray) (P0_ : Nat -> Prop) (u9000_ : Value) (l0 : List (S26)) (a1 : Int) (r1 : Int) (r2 : List (S26)) (w0 w : World) (hB : Below w0.heap.size w0 w) (ho0 : Kd.S kA 26 w w0.heap.size P0_ u9000_ l0) (h : laws_markNode.f k a0_0 a0_1 a0_2 l0 a1 = some (r1, r2)) :
 Calls Try.prog 11 #[.agg #[.string a0_0, .string a0_1, .string a0_2, u9000_], .int .i64 a1] w fun e w' => e = .returned (.int .i64 r1) /\ Kd.S kA 26 w' w0.heap.size P0_ u9000_ r2 /\ Below w0.heap.size w0 w' /\ Kept w w' P0_ := by
 obtain ⟨A0, c0, rfl⟩ := Kd.S_slice ho0
 have hu_ := Try.underlying26
 have HO := A_ ho0
 have HB := A_ hB
 have HK := A_ (Kept.refl w P0_)
 have HA : Aside0 (laws_markNodeS.f k l0 a1 = some (r1, r2)) := ⟨h⟩
 clear hB ho0 h
 go_enter Try.func11, Try.ntmps11
 go_wp2_with (first | ((with_reducible refine gd_ (N := 2) rfl ?_); refine bx_ (N := 2) (cs := #[.string a0_0, .string a0_1, .string a0_2, .slice A0 l0.length c0]) (t := 26) ?_; intro gb_ hg_ w_1 hbox_ hb_; have n0_ := A_ (Kd.S_below HO.out hb_); have n1_ := A_ (below_step HB.out hb_); have n2_ := A_ (Kept.below HK.out hb_); clear HO HB HK; have HO := n0_; have HB := n1_; have HK := n2_; clear n0_ n1_ n2_ hb_ hg_; have hx3 : w_1.cell? ⟨gb_, 3, none⟩ = some (.slice A0 l0.length c0) := (blk_cell hbox_ 3).trans rfl; clear hbox_) | ((with_reducible refine gc_ (f := 19) rfl ?_); refine gL_ (some 8) Try.func19 #[.slice A0 l0.length c0, .int .i64 a1] ?_; (with_reducible refine (laws_markNodeS.calls k P0_ _ l0 a1 r1 r2 w0 _ HB.out HO.out HA.out).mono ?_); rintro e w_2 ⟨rfl, hr_, hb_, hk_⟩; refine ⟨_, rfl, ?_⟩; have n0_ := A_ hr_; have n1_ := A_ hb_; have n2_ := A_ (Kept.then_ HK.out hk_ (fun k_ h_ => .inl h_)); clear HO HB HK hr_ hb_ hk_; have HO := n0_; have HB := n1_; have HK := n2_; clear n0_ n1_ n2_))
 go_ret
 exact ⟨rfl, HO.out, HB.out, HK.out⟩
end Go.Proofs.Ytegkokdncakadaa.Q

/- Words for what makes nodes: a literal of one element, impl.davNode. No condition. -/
set_option linter.unusedSimpArgs false
set_option linter.unusedVariables false
namespace Go.Proofs.Ytegkokdncakadaa.Q
open Go.RowKit Go.Proofs.YtegkokdncakadaaW.PrintWords Go.Proofs.YtegkokdncakadaaW.PrintLast Go.Proofs.YtegkokdncakadaaW.PrintMore
def Sto (g : Nat) (W w' : World) : Prop := ∃ l : List (Nat × Value), w' = l.foldl (fun w p => w.setCell ⟨g, p.1, none⟩ p.2) W
theorem Sto.refl (g : Nat) (W : World) : Sto g W W := ⟨[], rfl⟩
theorem Sto.step {g : Nat} {W w1 : World} (h : Sto g W w1) (i : Nat) (u : Value) : Sto g W (w1.setCell ⟨g, i, none⟩ u) := by
 obtain ⟨l, rfl⟩ := h
 exact ⟨l ++ [(i, u)], by simp⟩
theorem Sto.keeps {g : Nat} {W w' : World} (h : Sto g W w') {I : World -> Prop} (h0 : I W) (hs : ∀ w i u, I w -> I (w.setCell ⟨g, i, none⟩ u)) : I w' := by
 obtain ⟨l, rfl⟩ := h
 induction l generalizing W with
 | nil => exact h0
 | cons p l ih => exact ih (hs _ _ _ h0)
def IsBlk (g : Nat) (t : TypeId) (w : World) (cs : Array Value) : Prop := w.heap[g]? = some (.cells cs t (0, 0))
theorem IsBlk.set {g : Nat} {t : TypeId} {w : World} {cs : Array Value} (h : IsBlk g t w cs) (i : Nat) (u : Value) : IsBlk g t (w.setCell ⟨g, i, none⟩ u) (cs.setIfInBounds i u) := blk_set h i u
theorem IsBlk.of {g : Nat} {t : TypeId} {w : World} {cs : Array Value} (h : w.heap[g]? = some (.cells cs t (0, 0))) : IsBlk g t w cs := h
theorem box_store {P : Program} {ops : Array Oper} {rest : List Oper} {o : Oper} {a : Act} {Q : Exit -> Act -> World -> Prop} {W w1 : World} {g : Nat} {t0 t : TypeId} {p : Tmp} {v : Operand} {cs : Array Value} (hgd : o.guard = none) (_ho : o.op = .store t (.tmp p) v) (hN : o.dst = none)
 (hrun : (execOp a.eval o).run P W = .ok .skip w1) (hs : Sto g W w1) (hb : IsBlk g t0 w1 cs)
 (h : ∀ w', Sto g W w' -> w'.heap[g]? = some (.cells cs t0 (0, 0)) -> wpList P ops Q rest a w') : wpList P ops Q (o :: rest) a W :=
 store_event hgd _ho hN hrun (fun w' e => h w' (e ▸ hs) (e ▸ (show w1.heap[g]? = some (.cells cs t0 (0, 0)) from hb)))
section
variable {w0 W w' : World} {g : Nat} (hw : Sto g W w')
include hw
theorem stored_below (h : Below w0.heap.size w0 W) (hg : w0.heap.size <= g) : Below w0.heap.size w0 w' := hw.keeps (I := fun w => Below w0.heap.size w0 w) h (fun _ _ _ h => below_set h hg)
end
theorem S_new1 {α : Type} (d : Kd α) {W : World} (base e : Nat) {p : α} {cs : List Value} {ok okp : Nat -> Prop} (hp : d.M W base okp p cs) (hok : ∀ k, okp k -> ok k) (hfresh : ok W.heap.size) (hbase : base <= W.heap.size) :
 Kd.S d e (W.alloc (.cells cs.toArray e)) base ok (.slice (some ⟨W.heap.size, 0, none⟩) 1 1) [p] := by
 have hl : cs.length = d.sz := d.K_len (d.K_of_M hp)
 refine ⟨fun _ => 0, fun k hk => ?_, cs, ?_, ?_⟩
 . have : W.heap.size = k := by simpa [Value.ownBlock] using hk
   subst this; exact hfresh
 . have h2 := World.ownsRow_lit (base := base) (e := e) (size := d.sz) W cs.toArray 1 hbase (by decide) (by simpa using hl)
   show (W.alloc (.cells cs.toArray e)).ownsRow base e d.sz _ 1 cs
   simpa using h2
 . refine ⟨by show cs.length = 1 * d.sz; omega, fun j q hj => ?_⟩
   have hj0 : j = 0 := by
    have := (List.getElem?_eq_some_iff.1 hj).1
    simp at this; omega
   subst hj0
   obtain rfl : q = (p, 0) := by simpa using hj.symm
   have e1 : ((cs.drop (0 * d.sz)).take d.sz) = cs := by rw [Nat.zero_mul, List.drop_zero, ← hl, List.take_length]
   show d.M _ _ _ p ((cs.drop (0 * d.sz)).take d.sz)
   rw [e1]
   refine d.M_mono (fun k hk => ⟨⟨hok k hk.1, fun he => ?_⟩, rfl⟩) (Kd.M_below (d.M_bound hp) (below_alloc (Below.refl _ _) _))
   have : W.heap.size = k := by simpa [Value.ownBlock] using he.symm
   have := hk.2.2.1
   omega
section
variable {P : Program} {ops : Array Oper} {rest : List Oper} {o : Oper} {a : Act} {Q : Exit -> Act -> World -> Prop} {Kc : Act -> World -> Prop} {α : Type}
theorem lit1_step (d : Kd α) {W : World} (base e : Nat) (hw : Region.wanted o (yielded ops a.tmps) = true) {N : Tmp} (_hd : o.dst = some N) {p : α} {cs : List Value} {ok okp : Nat -> Prop}
 (hrun : (execOp a.eval o).run P W = .ok (.value (.slice (some ⟨W.heap.size, 0, none⟩) 1 1)) (W.alloc (.cells cs.toArray e)))
 (hp : d.M W base okp p cs) (hok : ∀ k, okp k -> ok k) (hfresh : ok W.heap.size) (hbase : base <= W.heap.size)
 (h : ∀ g w1, g = W.heap.size -> Kd.S d e w1 base ok (.slice (some ⟨g, 0, none⟩) 1 1) [p] -> Below W.heap.size W w1 -> Kc (a.put o.dst (.slice (some ⟨g, 0, none⟩) 1 1)) w1) :
 if Region.wanted o (yielded ops a.tmps) = true then Oper.wp P o a W Kc Q else Kc (a.put o.dst undef) W :=
 event_step hw hrun (h _ _ rfl (S_new1 d base e hp hok hfresh hbase) (below_alloc (Below.refl _ _) _))
theorem lit1 (d : Kd α) {W : World} (base e : Nat) (hgd : o.guard = none) {N : Tmp} (_hd : o.dst = some N) {p : α} {cs : List Value} {ok okp : Nat -> Prop}
 (hrun : (execOp a.eval o).run P W = .ok (.value (.slice (some ⟨W.heap.size, 0, none⟩) 1 1)) (W.alloc (.cells cs.toArray e)))
 (hp : d.M W base okp p cs) (hok : ∀ k, okp k -> ok k) (hfresh : ok W.heap.size) (hbase : base <= W.heap.size)
 (h : ∀ g w1, g = W.heap.size -> Kd.S d e w1 base ok (.slice (some ⟨g, 0, none⟩) 1 1) [p] -> Below W.heap.size W w1 -> wpList P ops Q rest (a.put o.dst (.slice (some ⟨g, 0, none⟩) 1 1)) w1) :
 wpList P ops Q (o :: rest) a W :=
 Kd.event_run hgd hrun (h _ _ rfl (S_new1 d base e hp hok hfresh hbase) (below_alloc (Below.refl _ _) _))
end
theorem stored_S {α : Type} {d : Kd α} {e base : Nat} {ok : Nat -> Prop} {v : Value} {xs : List α} {W w' : World} {g : Nat} (hw : Sto g W w') (h : Kd.S d e W base ok v xs) (hne : ∀ k, ok k -> k ≠ g) : Kd.S d e w' base ok v xs := hw.keeps (I := fun w => Kd.S d e w base ok v xs) h (fun _ _ u h => Kd.S_far h hne u)
theorem stored_blk {W w' : World} {g b : Nat} {t : TypeId} {cs : Array Value} (hw : Sto g W w') (h : W.heap[b]? = some (.cells cs t (0, 0))) (hne : b ≠ g) : w'.heap[b]? = some (.cells cs t (0, 0)) := hw.keeps (I := fun w => w.heap[b]? = some (.cells cs t (0, 0))) h (fun _ _ u h => blk_far h hne u)
theorem stored_size {W w' : World} {g : Nat} (hw : Sto g W w') : W.heap.size = w'.heap.size := hw.keeps (I := fun w => W.heap.size = w.heap.size) rfl (fun w _ _ h => by rw [h]; simp [World.setCell])
set_option maxHeartbeats 8000000 in
theorem dav_calls (a0 : ByteArray) (A1 : Option Addr) (n1 c1 : Nat) (w : World) :
 Calls Try.prog 15 #[.string a0, .slice A1 n1 c1] w fun e w' => e = .returned (.agg #[.string (⟨#[68, 65, 86, 58]⟩ : ByteArray), .string a0, .string (⟨#[]⟩ : ByteArray), .slice A1 n1 c1]) /\ Below w.heap.size w w' := by
 have hu_ := Try.underlying26
 have HB := A_ (Below.refl w.heap.size w)
 go_enter Try.func15, Try.ntmps15
 go_wp2_with (first | ((with_reducible refine gd_ (N := 4) rfl ?_); refine bx_ (N := 4) (cs := #[.string (⟨#[]⟩ : ByteArray), .string (⟨#[]⟩ : ByteArray), .string (⟨#[]⟩ : ByteArray), .slice none 0 0]) (t := 26) ?_; intro gb_ hg w3 hbox hb; have n1_ := A_ (below_step HB.out hb); have BK := A_ hbox; have GE := A_ ((by rw [hg]; exact below_size HB.out) : w.heap.size <= gb_); clear HB; have HB := n1_; clear n1_ hb hbox hg; have hcz4_0 : w3.cell? ⟨gb_, 0, none⟩ = some (.string (⟨#[]⟩ : ByteArray)) := (blk_cell BK.out 0).trans rfl; have hcz4_1 : w3.cell? ⟨gb_, 1, none⟩ = some (.string (⟨#[]⟩ : ByteArray)) := (blk_cell BK.out 1).trans rfl; have hcz4_2 : w3.cell? ⟨gb_, 2, none⟩ = some (.string (⟨#[]⟩ : ByteArray)) := (blk_cell BK.out 2).trans rfl; have hcz4_3 : w3.cell? ⟨gb_, 3, none⟩ = some (.slice none 0 0) := (blk_cell BK.out 3).trans rfl; have hfz4_0 := blk_frozen BK.out 0; have hfz4_1 := blk_frozen BK.out 1; have hfz4_2 := blk_frozen BK.out 2; have hfz4_3 := blk_frozen BK.out 3))
 refine bodyPost_ret (results_cell_row rfl _ _ gb_ 26 #[.string (⟨#[68, 65, 86, 58]⟩ : ByteArray), .string a0, .string (⟨#[]⟩ : ByteArray), .slice A1 n1 c1] (0, 0) _ rfl (by (with_reducible repeat (first | refine blk_drewN ?_ _ | refine blk_drew ?_ | refine blk_alloc ?_ _)); refine blk_put (cs := #[.string (⟨#[68, 65, 86, 58]⟩ : ByteArray), .string a0, .string (⟨#[]⟩ : ByteArray), .slice none 0 0]) ?_ 3 _ rfl; (with_reducible repeat (first | refine blk_drewN ?_ _ | refine blk_drew ?_ | refine blk_alloc ?_ _)); refine blk_put (cs := #[.string (⟨#[68, 65, 86, 58]⟩ : ByteArray), .string a0, .string (⟨#[]⟩ : ByteArray), .slice none 0 0]) ?_ 2 _ rfl; (with_reducible repeat (first | refine blk_drewN ?_ _ | refine blk_drew ?_ | refine blk_alloc ?_ _)); refine blk_put (cs := #[.string (⟨#[68, 65, 86, 58]⟩ : ByteArray), .string (⟨#[]⟩ : ByteArray), .string (⟨#[]⟩ : ByteArray), .slice none 0 0]) ?_ 1 _ rfl; (with_reducible repeat (first | refine blk_drewN ?_ _ | refine blk_drew ?_ | refine blk_alloc ?_ _)); refine blk_put (cs := #[.string (⟨#[]⟩ : ByteArray), .string (⟨#[]⟩ : ByteArray), .string (⟨#[]⟩ : ByteArray), .slice none 0 0]) ?_ 0 _ rfl; (with_reducible repeat (first | refine blk_drewN ?_ _ | refine blk_drew ?_ | refine blk_alloc ?_ _)); exact BK.out) Try.underlying26 rfl (by kernel_rfl)) rfl ?_
 exact ⟨by first | rfl | (simp; done), by repeat (first | (with_reducible first | exact HB.out | apply below_alloc | apply pw_below_drewN | apply below_drew1 | refine below_set ?_ GE.out) | exact HB.out)⟩
end Go.Proofs.Ytegkokdncakadaa.Q
