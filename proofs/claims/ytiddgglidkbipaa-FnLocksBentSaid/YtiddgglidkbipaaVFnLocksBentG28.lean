-- PRINTED by print.py (a twelfth state) out of the translation. Not trusted: Lean checks it.
import Derived.Test.YtiddgglidkbipaaVFnLocksBentG12
import Derived.Test.YtiddgglidkbipaaVFnLocksBentG22
import Derived.Test.YtiddgglidkbipaaVFnLocksBentG27
import Derived.Test.YtiddgglidkbipaaVFnLocksBentG26
namespace Go.Proofs.Ytiddgglidkbipaa.Q
open Go.RowKit Go.Proofs.YtiddgglidkbipaaW.PrintWords Go.Proofs.YtiddgglidkbipaaW.PrintLast Go.Proofs.YtiddgglidkbipaaW.PrintMore
attribute [local go_sem] max2_int min2_int max_two min_two max_three min_three max_four min_four   -- for this text's walks alone
set_option linter.unusedVariables false
set_option linter.unusedSimpArgs false
theorem bIQx180_ {P : Prop} (h : P := by repeat (first | (with_reducible first | exact HI0.out | apply IsS93.alloc | apply IsS93.drewN | apply IsS93.drew | apply IsS93.set_1 | apply IsS93.set_2) | exact HI0.out)) : P := h
theorem bIQx181_ {P : Prop} (h : P := by repeat (first | (with_reducible first | exact HB.out | apply below_alloc | apply pw_below_drewN | apply below_drew1 | refine below_set ?_ (IsS93.ge HI0.out)) | exact HB.out)) : P := h
def spec_l1Byte.f (s0_0 : List Int) (s0_1 : Int) (s0_2 : Int) : Option (Int × Int × Int) := if s0_1 < (s0_0.length : Int) then (if 0 ≤ s0_1 then (some (Go.bits .and .i64 (wrap64 ((Go.bits .and .i64 (Go.bits .xor .i64 ((wrap64 ((wrap64 (s0_2 * 6364136223846793005)) + 1442695040888963407)) / 8589934592) ((wrap64 ((wrap64 (s0_2 * 6364136223846793005)) + 1442695040888963407)) / 140737488355328)) 255) + (wrap64 (rd s0_0 s0_1)))) 255, wrap64 (s0_1 + 1), wrap64 ((wrap64 (s0_2 * 6364136223846793005)) + 1442695040888963407))) else (none)) else (some (Go.bits .and .i64 (Go.bits .xor .i64 ((wrap64 ((wrap64 (s0_2 * 6364136223846793005)) + 1442695040888963407)) / 8589934592) ((wrap64 ((wrap64 (s0_2 * 6364136223846793005)) + 1442695040888963407)) / 140737488355328)) 255, s0_1, wrap64 ((wrap64 (s0_2 * 6364136223846793005)) + 1442695040888963407)))
set_option maxHeartbeats 8000000 in
set_option maxRecDepth 100000 in
theorem spec_l1Byte.calls (g : Nat) (s0_0 : List Int) (s0_1 : Int) (s0_2 : Int) (r1 : Int) (r2 : Int) (r3 : Int) (w0 w : World) (hI : IsS93 w0 w g s0_0 s0_1 s0_2) (hB : Below w0.heap.size w0 w) (h : spec_l1Byte.f s0_0 s0_1 s0_2 = some (r1, r2, r3)) :
 Calls Try.prog 94 #[.pointer (some ⟨g, 0, none⟩)] w fun e w' => e = .returned (.int .i64 r1) ∧ IsS93 w0 w' g s0_0 r2 r3 ∧ Below w0.heap.size w0 w' ∧ KeepBut w w' g none := by
 have HI0 := Aside0.mk hI
 have HK := A_ (KeepBut.refl w g none)
 have HL := Aside0.mk hB.size
 clear hI
 have HW0 := Aside0.mk hB.size
 have HB := Aside0.mk hB
 clear hB
 have H : (if s0_1 < (s0_0.length : Int) then (if 0 ≤ s0_1 then (some (Go.bits .and .i64 (wrap64 ((Go.bits .and .i64 (Go.bits .xor .i64 ((wrap64 ((wrap64 (s0_2 * 6364136223846793005)) + 1442695040888963407)) / 8589934592) ((wrap64 ((wrap64 (s0_2 * 6364136223846793005)) + 1442695040888963407)) / 140737488355328)) 255) + (wrap64 (rd s0_0 s0_1)))) 255, wrap64 (s0_1 + 1), wrap64 ((wrap64 (s0_2 * 6364136223846793005)) + 1442695040888963407))) else (none)) else (some (Go.bits .and .i64 (Go.bits .xor .i64 ((wrap64 ((wrap64 (s0_2 * 6364136223846793005)) + 1442695040888963407)) / 8589934592) ((wrap64 ((wrap64 (s0_2 * 6364136223846793005)) + 1442695040888963407)) / 140737488355328)) 255, s0_1, wrap64 ((wrap64 (s0_2 * 6364136223846793005)) + 1442695040888963407)))) = some (r1, r2, r3) := h
 clear h
 by_cases c2 : s0_1 < (s0_0.length : Int)
 rotate_left
 · rw [if_neg c2] at H
   have c2b0 : decide (s0_1 < (s0_0.length : Int)) = false := decide_eq_false c2
   clear c2
   simp only [Option.some.injEq, Prod.mk.injEq] at H
   obtain ⟨rfl, rfl, rfl⟩ := H
   obtain ⟨ASz5_0, cSz5_0, HGz5, hgz5, HSz5_0⟩ := HI0.out
   have hcz5_0 := cellS93_0 HGz5
   have hcz5_1 := cellS93_1 HGz5
   have hcz5_2 := cellS93_2 HGz5
   have hfz5_1 := blk_frozen HGz5 1
   have hfz5_2 := blk_frozen HGz5 2
   clear HGz5 hgz5
   go_enter Try.func94, Try.ntmps94
   go_wp2
   repeat (go_quiet (fail); try go_wp2)
   go_ret
   exact ⟨rr_, bIQx180_, bIQx181_, bK_⟩
 rw [if_pos c2] at H
 have c2b0 : decide (s0_1 < (s0_0.length : Int)) = true := decide_eq_true c2
 clear c2
 by_cases c3 : 0 ≤ s0_1
 rotate_left
 · exact absurd H (by rw [if_neg c3]; simp)
 rw [if_pos c3] at H
 have c3b0 : decide (0 ≤ s0_1) = true := decide_eq_true c3
 clear c3
 simp only [Option.some.injEq, Prod.mk.injEq] at H
 obtain ⟨rfl, rfl, rfl⟩ := H
 obtain ⟨ASz4_0, cSz4_0, HGz4, hgz4, HSz4_0⟩ := HI0.out
 have hcz4_0 := cellS93_0 HGz4
 have hcz4_1 := cellS93_1 HGz4
 have hcz4_2 := cellS93_2 HGz4
 have hfz4_1 := blk_frozen HGz4 1
 have hfz4_2 := blk_frozen HGz4 2
 clear HGz4 hgz4
 have p641 : 0 ≤ (s0_1 : Int) := of_decide_eq_true as_
 have q641 : s0_1 < (s0_0.length : Int) := of_decide_eq_true as_
 obtain ⟨ad641, e641, hx641_0⟩ := Kd.at_int HSz4_0 s0_1 p641 q641
 cases e641
 have hn641_0 : ad641.block ≠ g := Nat.ne_of_lt (Nat.lt_of_lt_of_le (by have := World.block_lt_of_cell? _ _ hx641_0; first | rwa [add_block] at this | exact this) (IsS93.ge HI0.out))
 replace hx641_0 := pw_cell_below HB.out hx641_0
 replace hx641_0 := (cell_far (p := ⟨g, 2, none⟩) (by first | (rw [add_block]; exact hn641_0) | (show (Addr.add _ _).block ≠ _; rw [add_block]; exact hn641_0) | exact hn641_0) (.int .i64 (wrap64 ((wrap64 (s0_2 * 6364136223846793005)) + 1442695040888963407)))).trans hx641_0
 (try have hy641_0 := fun (n_ : Nat) => (show (((w.drewN n_).setCell ⟨g, 2, none⟩ (.int .i64 (wrap64 ((wrap64 (s0_2 * 6364136223846793005)) + 1442695040888963407))))).cell? _ = some _ from hx641_0))
 clear hn641_0
 replace p641 := eq_true p641
 replace q641 := eq_true q641
 go_enter Try.func94, Try.ntmps94
 go_wp2
 repeat (go_quiet (fail); try go_wp2)
 go_ret
 exact ⟨rr_, bIQx180_, bIQx181_, bK_⟩
def spec_l1Below.f (s0_0 : List Int) (s0_1 : Int) (s0_2 : Int) (a1 : Int) : Option (Int × Int × Int) := if a1 ≤ 0 then (some (0, s0_1, s0_2)) else (if a1 ≤ 256 then ((spec_l1Byte.f s0_0 s0_1 s0_2).bind fun bt642 => (if a1 = 0 then (none) else (some (Int.tmod bt642.1 a1, bt642.2.1, bt642.2.2)))) else ((spec_l1Byte.f s0_0 s0_1 s0_2).bind fun bt645 => ((spec_l1Byte.f s0_0 bt645.2.1 bt645.2.2).bind fun bt648 => ((spec_l1Byte.f s0_0 bt648.2.1 bt648.2.2).bind fun bt651 => (if a1 = 0 then (none) else (some (Int.tmod (wrap64 ((wrap64 ((wrap64 (bt645.1 * 65536)) + (wrap64 (bt648.1 * 256)))) + bt651.1)) a1, bt651.2.1, bt651.2.2)))))))
set_option maxHeartbeats 8000000 in
set_option maxRecDepth 100000 in
theorem spec_l1Below.calls (g : Nat) (s0_0 : List Int) (s0_1 : Int) (s0_2 : Int) (a1 : Int) (r1 : Int) (r2 : Int) (r3 : Int) (w0 w : World) (hI : IsS93 w0 w g s0_0 s0_1 s0_2) (hB : Below w0.heap.size w0 w) (h : spec_l1Below.f s0_0 s0_1 s0_2 a1 = some (r1, r2, r3)) :
 Calls Try.prog 83 #[.pointer (some ⟨g, 0, none⟩), .int .i64 a1] w fun e w' => e = .returned (.int .i64 r1) ∧ IsS93 w0 w' g s0_0 r2 r3 ∧ Below w0.heap.size w0 w' ∧ KeepBut w w' g none := by
 have HI0 := Aside0.mk hI
 have HK := A_ (KeepBut.refl w g none)
 have HL := Aside0.mk hB.size
 clear hI
 have HW0 := Aside0.mk hB.size
 have HB := Aside0.mk hB
 clear hB
 have H : (if a1 ≤ 0 then (some (0, s0_1, s0_2)) else (if a1 ≤ 256 then ((spec_l1Byte.f s0_0 s0_1 s0_2).bind fun bt642 => (if a1 = 0 then (none) else (some (Int.tmod bt642.1 a1, bt642.2.1, bt642.2.2)))) else ((spec_l1Byte.f s0_0 s0_1 s0_2).bind fun bt645 => ((spec_l1Byte.f s0_0 bt645.2.1 bt645.2.2).bind fun bt648 => ((spec_l1Byte.f s0_0 bt648.2.1 bt648.2.2).bind fun bt651 => (if a1 = 0 then (none) else (some (Int.tmod (wrap64 ((wrap64 ((wrap64 (bt645.1 * 65536)) + (wrap64 (bt648.1 * 256)))) + bt651.1)) a1, bt651.2.1, bt651.2.2)))))))) = some (r1, r2, r3) := h
 clear h
 by_cases c3 : a1 ≤ 0
 · rw [if_pos c3] at H
   have c3b0 : decide (a1 ≤ 0) = true := decide_eq_true c3
   clear c3
   simp only [Option.some.injEq, Prod.mk.injEq] at H
   obtain ⟨rfl, rfl, rfl⟩ := H
   go_enter Try.func83, Try.ntmps83
   go_wp2
   go_ret
   exact ⟨rr_, bIQx180_, bIQx181_, bK_⟩
 rw [if_neg c3] at H
 have c3b0 : decide (a1 ≤ 0) = false := decide_eq_false c3
 clear c3
 by_cases c4 : a1 ≤ 256
 · rw [if_pos c4] at H
   have c4b0 : decide (a1 ≤ 256) = true := decide_eq_true c4
   clear c4
   obtain ⟨⟨t642, t643, t644⟩, A5, H⟩ := bo_ H
   (try dsimp only at H)
   by_cases c6 : a1 = 0
   · rw [if_pos c6] at H
     exact absurd H (by simp)
   rw [if_neg c6] at H
   have c6b0 : (a1 == 0) = false := beq_eq_false_iff_ne.mpr c6
   have c6b1 : (a1 != 0) = true := bne_iff_ne.mpr c6
   simp only [Option.some.injEq, Prod.mk.injEq] at H
   obtain ⟨rfl, rfl, rfl⟩ := H
   go_enter Try.func83, Try.ntmps83
   go_wp2_with (first | ((with_reducible refine gate_callee (f := 94) rfl ?_); refine gL_ (some 13) Try.func94 #[.pointer (some ⟨g, 0, none⟩)] ?_; (with_reducible refine (spec_l1Byte.calls g s0_0 s0_1 s0_2 t642 t643 t644 w0 _ ?s1 ?s2 A5.out).mono ?_); (case s1 => exact bIQx180_); (case s2 => exact bIQx181_); rintro e w7 ⟨rfl, hi, hb, hk⟩; refine ⟨_, rfl, ?_⟩; replace HK := A_ (KeepBut.trans bK_ hk (.inl rfl)); replace HB := A_ (hb); replace HI0 := A_ (hi); (try clear hb); (try clear hk); (try clear hi)))
   go_ret
   exact ⟨rr_, bIQx180_, bIQx181_, bK_⟩
 rw [if_neg c4] at H
 have c4b0 : decide (a1 ≤ 256) = false := decide_eq_false c4
 clear c4
 obtain ⟨⟨t645, t646, t647⟩, A8, H⟩ := bo_ H
 (try dsimp only at H)
 obtain ⟨⟨t648, t649, t650⟩, A9, H⟩ := bo_ H
 (try dsimp only at H)
 obtain ⟨⟨t651, t652, t653⟩, A10, H⟩ := bo_ H
 (try dsimp only at H)
 by_cases c11 : a1 = 0
 · rw [if_pos c11] at H
   exact absurd H (by simp)
 rw [if_neg c11] at H
 have c11b0 : (a1 == 0) = false := beq_eq_false_iff_ne.mpr c11
 have c11b1 : (a1 != 0) = true := bne_iff_ne.mpr c11
 simp only [Option.some.injEq, Prod.mk.injEq] at H
 obtain ⟨rfl, rfl, rfl⟩ := H
 go_enter Try.func83, Try.ntmps83
 go_wp2_with (first | ((with_reducible refine gate_callee (f := 94) rfl ?_); refine gL_ (some 17) Try.func94 #[.pointer (some ⟨g, 0, none⟩)] ?_; (with_reducible refine (spec_l1Byte.calls g s0_0 s0_1 s0_2 t645 t646 t647 w0 _ ?s1 ?s2 A8.out).mono ?_); (case s1 => exact bIQx180_); (case s2 => exact bIQx181_); rintro e w12 ⟨rfl, hi, hb, hk⟩; refine ⟨_, rfl, ?_⟩; replace HK := A_ (KeepBut.trans bK_ hk (.inl rfl)); replace HB := A_ (hb); replace HI0 := A_ (hi); (try clear hb); (try clear hk); (try clear hi)) | ((with_reducible refine gate_callee (f := 94) rfl ?_); refine gL_ (some 19) Try.func94 #[.pointer (some ⟨g, 0, none⟩)] ?_; (with_reducible refine (spec_l1Byte.calls g s0_0 t646 t647 t648 t649 t650 w0 _ ?s1 ?s2 A9.out).mono ?_); (case s1 => exact bIQx180_); (case s2 => exact bIQx181_); rintro e w13 ⟨rfl, hi, hb, hk⟩; refine ⟨_, rfl, ?_⟩; replace HK := A_ (KeepBut.trans bK_ hk (.inl rfl)); replace HB := A_ (hb); replace HI0 := A_ (hi); (try clear hb); (try clear hk); (try clear hi)) | ((with_reducible refine gate_callee (f := 94) rfl ?_); refine gL_ (some 21) Try.func94 #[.pointer (some ⟨g, 0, none⟩)] ?_; (with_reducible refine (spec_l1Byte.calls g s0_0 t649 t650 t651 t652 t653 w0 _ ?s1 ?s2 A10.out).mono ?_); (case s1 => exact bIQx180_); (case s2 => exact bIQx181_); rintro e w14 ⟨rfl, hi, hb, hk⟩; refine ⟨_, rfl, ?_⟩; replace HK := A_ (KeepBut.trans bK_ hk (.inl rfl)); replace HB := A_ (hb); replace HI0 := A_ (hi); (try clear hb); (try clear hk); (try clear hi)))
 go_ret
 exact ⟨rr_, bIQx180_, bIQx181_, bK_⟩
def spec_l1Str.f (s0_0 : List Int) (s0_1 : Int) (s0_2 : Int) (l1 : List ByteArray) : Option (ByteArray × Int × Int) := (spec_l1Below.f s0_0 s0_1 s0_2 (l1.length : Int)).bind fun bt654 => (if 0 ≤ bt654.1 then (if bt654.1 < (l1.length : Int) then (some (rdOf ByteArray.empty l1 bt654.1, bt654.2.1, bt654.2.2)) else (none)) else (none))
set_option maxHeartbeats 8000000 in
set_option maxRecDepth 100000 in
theorem spec_l1Str.calls (g : Nat) (s0_0 : List Int) (s0_1 : Int) (s0_2 : Int) (A1 : Option Addr) (c1 : Nat) (l1 : List ByteArray) (r1 : ByteArray) (r2 : Int) (r3 : Int) (w0 w : World) (hI : IsS93 w0 w g s0_0 s0_1 s0_2) (hB : Below w0.heap.size w0 w) (hr1 : Kd.C Kd.string w A1 l1.length l1) (hc1 : l1.length ≤ c1) (hf1 : ∀ ad, A1 = some ad → 0 < l1.length → ad.block ≠ g) (h : spec_l1Str.f s0_0 s0_1 s0_2 l1 = some (r1, r2, r3)) :
 Calls Try.prog 95 #[.pointer (some ⟨g, 0, none⟩), .slice A1 l1.length c1] w fun e w' => e = .returned (.string r1) ∧ IsS93 w0 w' g s0_0 r2 r3 ∧ Below w0.heap.size w0 w' ∧ KeepBut w w' g none := by
 have HR1 := Aside0.mk hr1
 have HC1 := Aside0.mk hc1
 clear hr1 hc1
 have HI0 := Aside0.mk hI
 have HK := A_ (KeepBut.refl w g none)
 have HL := Aside0.mk hB.size
 clear hI
 have HW0 := Aside0.mk hB.size
 have HB := Aside0.mk hB
 clear hB
 have H : ((spec_l1Below.f s0_0 s0_1 s0_2 (l1.length : Int)).bind fun bt654 => (if 0 ≤ bt654.1 then (if bt654.1 < (l1.length : Int) then (some (rdOf ByteArray.empty l1 bt654.1, bt654.2.1, bt654.2.2)) else (none)) else (none))) = some (r1, r2, r3) := h
 clear h
 obtain ⟨⟨t654, t655, t656⟩, A3, H⟩ := bo_ H
 (try dsimp only at H)
 by_cases c4 : 0 ≤ t654
 rotate_left
 · exact absurd H (by rw [if_neg c4]; simp)
 rw [if_pos c4] at H
 have c4b0 : decide (0 ≤ t654) = true := decide_eq_true c4
 clear c4
 by_cases c5 : t654 < (l1.length : Int)
 rotate_left
 · exact absurd H (by rw [if_neg c5]; simp)
 rw [if_pos c5] at H
 have c5b0 : decide (t654 < (l1.length : Int)) = true := decide_eq_true c5
 clear c5
 simp only [Option.some.injEq, Prod.mk.injEq] at H
 obtain ⟨rfl, rfl, rfl⟩ := H
 go_enter Try.func95, Try.ntmps95
 go_wp2_with (first | ((with_reducible refine gate_callee (f := 83) rfl ?_); refine gL_ (some 9) Try.func83 #[.pointer (some ⟨g, 0, none⟩), .int .i64 (l1.length : Int)] ?_; (with_reducible refine (spec_l1Below.calls g s0_0 s0_1 s0_2 (l1.length : Int) t654 t655 t656 w0 _ ?s1 ?s2 A3.out).mono ?_); (case s1 => exact bIQx180_); (case s2 => exact bIQx181_); rintro e w6 ⟨rfl, hi, hb, hk⟩; refine ⟨_, rfl, ?_⟩; replace HK := A_ (KeepBut.trans bK_ hk (.inl rfl)); replace HB := A_ (hb); replace HI0 := A_ (hi); (try clear hb); (try clear hk); (try clear hi); have p657 : 0 ≤ (t654 : Int) := of_decide_eq_true as_; have q657 : t654 < (l1.length : Int) := of_decide_eq_true as_; obtain ⟨ad657, e657, hx657_0⟩ := Kd.at_string HR1.out t654 p657 q657; cases e657; replace hx657_0 := keep_cell HK.out hx657_0 (by first | (rw [add_block]; exact hf1 _ rfl (by omega)) | exact hf1 _ rfl (by omega) | exact hf1 ad657 rfl (by omega)); replace p657 := eq_true p657; replace q657 := eq_true q657))
 go_ret
 exact ⟨rr_, bIQx180_, bIQx181_, bK_⟩
def spec_l2Name.f (s0_0 : List Int) (s0_1 : Int) (s0_2 : Int) : Option (ByteArray × Int × Int) := (spec_l1Str.f s0_0 s0_1 s0_2 (([(⟨#[97]⟩ : ByteArray), (⟨#[98]⟩ : ByteArray), (⟨#[99]⟩ : ByteArray), (⟨#[97, 32, 98]⟩ : ByteArray), (⟨#[120, 37, 121]⟩ : ByteArray), (⟨#[97]⟩ : ByteArray), (⟨#[98]⟩ : ByteArray)] : List ByteArray))).bind fun bt661 => (some (bt661.1, bt661.2.1, bt661.2.2))
set_option maxHeartbeats 8000000 in
set_option maxRecDepth 100000 in
theorem spec_l2Name.calls (g : Nat) (s0_0 : List Int) (s0_1 : Int) (s0_2 : Int) (r1 : ByteArray) (r2 : Int) (r3 : Int) (w0 w : World) (hI : IsS93 w0 w g s0_0 s0_1 s0_2) (hB : Below w0.heap.size w0 w) (h : spec_l2Name.f s0_0 s0_1 s0_2 = some (r1, r2, r3)) :
 Calls Try.prog 92 #[.pointer (some ⟨g, 0, none⟩)] w fun e w' => e = .returned (.string r1) ∧ IsS93 w0 w' g s0_0 r2 r3 ∧ Below w0.heap.size w0 w' ∧ KeepBut w w' g none := by
 have HI0 := Aside0.mk hI
 have HK := A_ (KeepBut.refl w g none)
 have HL := Aside0.mk hB.size
 clear hI
 have HW0 := Aside0.mk hB.size
 have HB := Aside0.mk hB
 clear hB
 have H : ((spec_l1Str.f s0_0 s0_1 s0_2 (([(⟨#[97]⟩ : ByteArray), (⟨#[98]⟩ : ByteArray), (⟨#[99]⟩ : ByteArray), (⟨#[97, 32, 98]⟩ : ByteArray), (⟨#[120, 37, 121]⟩ : ByteArray), (⟨#[97]⟩ : ByteArray), (⟨#[98]⟩ : ByteArray)] : List ByteArray))).bind fun bt661 => (some (bt661.1, bt661.2.1, bt661.2.2))) = some (r1, r2, r3) := h
 clear h
 obtain ⟨y658, hy658⟩ : ∃ y_ : List ByteArray, y_ = (([(⟨#[97]⟩ : ByteArray), (⟨#[98]⟩ : ByteArray), (⟨#[99]⟩ : ByteArray), (⟨#[97, 32, 98]⟩ : ByteArray), (⟨#[120, 37, 121]⟩ : ByteArray), (⟨#[97]⟩ : ByteArray), (⟨#[98]⟩ : ByteArray)] : List ByteArray)) := ⟨_, rfl⟩
 replace H : ((spec_l1Str.f s0_0 s0_1 s0_2 y658).bind fun bt661 => (some (bt661.1, bt661.2.1, bt661.2.2))) = some (r1, r2, r3) := hy_ hy658 H
 have Ny658 := Aside0.mk hy658
 clear hy658
 obtain ⟨⟨t661, t662, t663⟩, A2, H⟩ := bo_ H
 (try dsimp only at H)
 simp only [Option.some.injEq, Prod.mk.injEq] at H
 obtain ⟨rfl, rfl, rfl⟩ := H
 go_enter Try.func92, Try.ntmps92
 go_wp2_with (first | ((with_reducible refine gate_dst (N := 4) rfl ?_); refine Kd.R_lit Kd.string _ 9 ?hg (N := 4) ?hd (xs := ([(⟨#[97]⟩ : ByteArray), (⟨#[98]⟩ : ByteArray), (⟨#[99]⟩ : ByteArray), (⟨#[97, 32, 98]⟩ : ByteArray), (⟨#[120, 37, 121]⟩ : ByteArray), (⟨#[97]⟩ : ByteArray), (⟨#[98]⟩ : ByteArray)] : List ByteArray)) (inner := [.string (⟨#[97]⟩ : ByteArray), .string (⟨#[98]⟩ : ByteArray), .string (⟨#[99]⟩ : ByteArray), .string (⟨#[97, 32, 98]⟩ : ByteArray), .string (⟨#[120, 37, 121]⟩ : ByteArray), .string (⟨#[97]⟩ : ByteArray), .string (⟨#[98]⟩ : ByteArray)]) (ok := fun _ => True) (okp := fun _ => True) ?hr ?hp (fun _ hk => hk) trivial (Below.refl _ _) (Nat.le_refl _) (by simp) ?_; (case hd => rfl); (case hg => rfl); (case hr => first | (go_simp; done) | (go_simp; rfl)); (case hp => exact (Reps.one (show Kd.M Kd.string _ _ _ (⟨#[97]⟩ : ByteArray) [.string (⟨#[97]⟩ : ByteArray)] from rfl) (Reps.one (show Kd.M Kd.string _ _ _ (⟨#[98]⟩ : ByteArray) [.string (⟨#[98]⟩ : ByteArray)] from rfl) (Reps.one (show Kd.M Kd.string _ _ _ (⟨#[99]⟩ : ByteArray) [.string (⟨#[99]⟩ : ByteArray)] from rfl) (Reps.one (show Kd.M Kd.string _ _ _ (⟨#[97, 32, 98]⟩ : ByteArray) [.string (⟨#[97, 32, 98]⟩ : ByteArray)] from rfl) (Reps.one (show Kd.M Kd.string _ _ _ (⟨#[120, 37, 121]⟩ : ByteArray) [.string (⟨#[120, 37, 121]⟩ : ByteArray)] from rfl) (Reps.one (show Kd.M Kd.string _ _ _ (⟨#[97]⟩ : ByteArray) [.string (⟨#[97]⟩ : ByteArray)] from rfl) (Reps.one (show Kd.M Kd.string _ _ _ (⟨#[98]⟩ : ByteArray) [.string (⟨#[98]⟩ : ByteArray)] from rfl) (Reps.none _ _))))))))); intro v659 w3 ho4 hb hg_ hnew_; clear hg_ hnew_; (first | rw [← Ny658.out] at ho4 | (simp only [Int.reduceToNat] at ho4; rw [← Ny658.out] at ho4)); have HO660 := A_ (Kd.R_lower ho4 (keep_size (w := w) (g := g) (row := none) bK_)); replace HK := A_ (KeepBut.trans bK_ (KeepBut.of_below hb g none) (.inl rfl)); replace HB := A_ (below_step bIQx181_ hb); replace HI0 := A_ (IsS93.below bIQx180_ hb); clear hb ho4; obtain ⟨Ao5, co5, eo5⟩ := Kd.R_slice HO660.out; subst eo5) | ((with_reducible refine gate_callee (f := 95) rfl ?_); refine gL_ (some 5) Try.func95 #[.pointer (some ⟨g, 0, none⟩), .slice Ao5 y658.length co5] ?_; (with_reducible refine (spec_l1Str.calls g s0_0 s0_1 s0_2 _ _ y658 t661 t662 t663 w0 _ ?s1 ?s2 ?s3 ?s4 ?s5 A2.out).mono ?_); (case s1 => exact bIQx180_); (case s2 => exact bIQx181_); (case s3 => exact cC_ (Kd.R_reads' HO660.out).2.2); (case s4 => exact (Kd.R_reads' HO660.out).2.1); (case s5 => exact far_slice (IsS93.own_ne HI0.out HO660.out (by decide))); rintro e w6 ⟨rfl, hi, hb, hk⟩; refine ⟨_, rfl, ?_⟩; replace HO660 := A_ (Kd.R_mono (Kd.R_keep (IsS93.apart (show IsS93 w0 _ g s0_0 s0_1 s0_2 from bIQx180_) (vR_ HO660.out) (by decide)) hk (fun _ h => h.2)) (fun _ h => h.1)); replace HK := A_ (KeepBut.trans bK_ hk (.inl rfl)); replace HB := A_ (hb); replace HI0 := A_ (hi); (try clear hb); (try clear hk); (try clear hi)))
 go_ret
 exact ⟨rr_, bIQx180_, bIQx181_, bK_⟩
def spec_l2Draw.l0 : Nat → List ByteArray → Int → List Int → Int → Int → Option (List ByteArray × Int × Int)
 | 0, _, _, _, _, _ => none
 | k + 1, x3, x4, x1000, x1001, x1002 => if x4 > 0 then ((spec_l2Name.f x1000 x1001 x1002).bind fun bt670 => (if x3.length < 8796093022208 then (spec_l2Draw.l0 k (x3 ++ [bt670.1]) (wrap64 (x4 - 1)) x1000 bt670.2.1 bt670.2.2) else (none))) else (some (x3, x1001, x1002))
def spec_l2Draw.f (k : Nat) (s0_0 : List Int) (s0_1 : Int) (s0_2 : Int) : Option (List ByteArray × Int × Int) := (spec_l1Below.f s0_0 s0_1 s0_2 4).bind fun bt667 => (spec_l2Draw.l0 k (([] : List ByteArray)) bt667.1 s0_0 bt667.2.1 bt667.2.2)
set_option maxHeartbeats 8000000 in
set_option maxRecDepth 100000 in
theorem spec_l2Draw.calls (k : Nat) (g : Nat) (s0_0 : List Int) (s0_1 : Int) (s0_2 : Int) (r1 : List ByteArray) (r2 : Int) (r3 : Int) (w0 w : World) (hI : IsS93 w0 w g s0_0 s0_1 s0_2) (hB : Below w0.heap.size w0 w) (h : spec_l2Draw.f k s0_0 s0_1 s0_2 = some (r1, r2, r3)) :
 Calls Try.prog 80 #[.pointer (some ⟨g, 0, none⟩)] w fun e w' => ∃ v0_ : Value, e = .returned (v0_) ∧ Kd.R Kd.string 9 w' w.heap.size (fun _ => True) v0_ r1 ∧ IsS93 w0 w' g s0_0 r2 r3 ∧ Below w0.heap.size w0 w' ∧ KeepBut w w' g none := by
 have HI0 := Aside0.mk hI
 have HK := A_ (KeepBut.refl w g none)
 have HL := Aside0.mk hB.size
 clear hI
 have HW0 := Aside0.mk hB.size
 have HB := Aside0.mk hB
 clear hB
 have H : ((spec_l1Below.f s0_0 s0_1 s0_2 4).bind fun bt667 => (spec_l2Draw.l0 k (([] : List ByteArray)) bt667.1 s0_0 bt667.2.1 bt667.2.2)) = some (r1, r2, r3) := h
 clear h
 obtain ⟨y664, hy664⟩ : ∃ y_ : List ByteArray, y_ = (([] : List ByteArray)) := ⟨_, rfl⟩
 replace H : ((spec_l1Below.f s0_0 s0_1 s0_2 4).bind fun bt667 => (spec_l2Draw.l0 k y664 bt667.1 s0_0 bt667.2.1 bt667.2.2)) = some (r1, r2, r3) := hy_ hy664 H
 have Ny664 := Aside0.mk hy664
 clear hy664
 obtain ⟨⟨t667, t668, t669⟩, A2, H⟩ := bo_ H
 (try dsimp only at H)
 have H' := Aside0.mk H
 clear H
 go_enter Try.func80, Try.ntmps80
 go_wp2_with (first | ((with_reducible refine gate_dst (N := 5) rfl ?_); refine Kd.R_lit Kd.string _ 9 ?hg (N := 5) ?hd (xs := ([] : List ByteArray)) (inner := []) (ok := fun _ => True) (okp := fun _ => True) ?hr ?hp (fun _ hk => hk) trivial (Below.refl _ _) (Nat.le_refl _) (by simp) ?_; (case hd => rfl); (case hg => rfl); (case hr => first | (go_simp; done) | (go_simp; rfl)); (case hp => exact (Reps.none _ _)); intro v665 w3 ho4 hb hg_ hnew_; clear hg_ hnew_; (first | rw [← Ny664.out] at ho4 | (simp only [Int.reduceToNat] at ho4; rw [← Ny664.out] at ho4)); have HO666 := A_ (Kd.R_lower ho4 (keep_size (w := w) (g := g) (row := none) bK_)); replace HK := A_ (KeepBut.trans bK_ (KeepBut.of_below hb g none) (.inl rfl)); replace HB := A_ (below_step bIQx181_ hb); replace HI0 := A_ (IsS93.below bIQx180_ hb); clear hb ho4) | ((with_reducible refine gate_callee (f := 83) rfl ?_); refine gL_ (some 7) Try.func83 #[.pointer (some ⟨g, 0, none⟩), .int .i64 4] ?_; (with_reducible refine (spec_l1Below.calls g s0_0 s0_1 s0_2 4 t667 t668 t669 w0 _ ?s1 ?s2 A2.out).mono ?_); (case s1 => exact bIQx180_); (case s2 => exact bIQx181_); rintro e w5 ⟨rfl, hi, hb, hk⟩; refine ⟨_, rfl, ?_⟩; replace HO666 := A_ (Kd.R_mono (Kd.R_keep (IsS93.apart (show IsS93 w0 _ g s0_0 s0_1 s0_2 from bIQx180_) (vR_ HO666.out) (by decide)) hk (fun _ h => h.2)) (fun _ h => h.1)); replace HK := A_ (KeepBut.trans bK_ hk (.inl rfl)); replace HB := A_ (hb); replace HI0 := A_ (hi); (try clear hb); (try clear hk); (try clear hi)))
 go_loopg [3, 4] k (fun kq v3 v4 w' => ∃ (x3_1 : List ByteArray) (x4_1 : Int) (x1001_1 : Int) (x1002_1 : Int), v4 = .int .i64 x4_1 ∧ Aside0 (spec_l2Draw.l0 kq x3_1 x4_1 s0_0 x1001_1 x1002_1 = some (r1, r2, r3)) ∧ Aside0 (kq ≤ k) ∧ Aside0 (Kd.R Kd.string 9 w' w.heap.size (fun _ => True) v3 x3_1) ∧ Aside0 (IsS93 w0 w' g s0_0 x1001_1 x1002_1) ∧ Aside0 (KeepBut w w' g none) ∧ Aside0 (Below w0.heap.size w0 w'))
 case atStart => exact ⟨(y664), (t667), (t668), (t669), rs_, H', ⟨Nat.le_refl _⟩, ⟨vR_ HO666.out⟩, ⟨bIQx180_⟩, ⟨bK_⟩, ⟨bIQx181_⟩⟩
 case round =>
  clear H'
  try clear p2
  obtain ⟨x3_1, x4_1, x1001_1, x1002_1, rfl, HA, HK1, HO_3, HI0, HK, HB⟩ := hrel
  cases gk with
  | zero => exact absurd HA.out (by simp [spec_l2Draw.l0])
  | succ k1 =>
   have H := HA.out
   clear HA
   simp only [spec_l2Draw.l0] at H
   by_cases c6 : x4_1 > 0
   rotate_left
   · rw [if_neg c6] at H
     have c6b0 : decide (0 < x4_1) = false := decide_eq_false c6
     clear c6
     simp only [Option.some.injEq, Prod.mk.injEq] at H
     obtain ⟨rfl, rfl, rfl⟩ := H
     go_wp2
     go_ret
     exact ⟨_, rr_, by (with_reducible repeat (first | apply Kd.R_alloc | apply Kd.R_drewN | apply Kd.R_drew)); exact HO_3.out, bIQx180_, bIQx181_, bK_⟩
   rw [if_pos c6] at H
   have c6b0 : decide (0 < x4_1) = true := decide_eq_true c6
   clear c6
   obtain ⟨⟨t670, t671, t672⟩, A7, H⟩ := bo_ H
   (try dsimp only at H)
   by_cases c8 : x3_1.length < 8796093022208
   rotate_left
   · exact absurd H (by rw [if_neg c8]; simp)
   rw [if_pos c8] at H
   have LMc8 := Aside0.mk c8
   clear c8
   obtain ⟨y673, hy673⟩ : ∃ y_ : List ByteArray, y_ = (x3_1 ++ [t670]) := ⟨_, rfl⟩
   replace H : (spec_l2Draw.l0 k1 y673 (wrap64 (x4_1 - 1)) s0_0 t671 t672) = some (r1, r2, r3) := hy_ hy673 H
   have Ny673 := Aside0.mk hy673
   clear hy673
   have H' := Aside0.mk H
   clear H
   go_wp2_with (first | ((with_reducible refine gate_callee (f := 92) rfl ?_); refine gL_ (some 14) Try.func92 #[.pointer (some ⟨g, 0, none⟩)] ?_; (with_reducible refine (spec_l2Name.calls g s0_0 x1001_1 x1002_1 t670 t671 t672 w0 _ ?s1 ?s2 A7.out).mono ?_); (case s1 => exact bIQx180_); (case s2 => exact bIQx181_); rintro e w9 ⟨rfl, hi, hb, hk⟩; refine ⟨_, rfl, ?_⟩; replace HO_3 := A_ (Kd.R_mono (Kd.R_keep (IsS93.apart (show IsS93 w0 _ g s0_0 x1001_1 x1002_1 from bIQx180_) (vR_ HO_3.out) (by decide)) hk (fun _ h => h.2)) (fun _ h => h.1)); replace HK := A_ (KeepBut.trans bK_ hk (.inl rfl)); replace HB := A_ (hb); replace HI0 := A_ (hi); (try clear hb); (try clear hk); (try clear hi)) | ((with_reducible refine gate_builtin (b := .append) (xs := #[.tmp 12, .tmp 15]) rfl ?_); at_builtin; refine Kd.R_append Kd.string w.heap.size rfl (.tmp 12) (.tmp 15) 22 9 (.string ⟨#[]⟩) 16 rfl Try.underlying22 info9 rfl (by decide) (by omega) u3 x3_1 t670 [.string t670] (fun _ => True) (fun _ => False) rfl rfl ?aP (fun _ hk => hk.elim) ?aF ?aO (Below.refl _ _) ?aS ?aL ?_; (case aP => exact rfl); (case aF => exact (fun _ _ => trivial)); (case aO => exact (vR_ HO_3.out)); (case aS => exact (keep_size (w := w) (g := g) (row := none) bK_)); (case aL => have := LMc8.out; omega); intro v674 w10 ho hb hg hat; rw [← Ny673.out] at ho; replace HB := A_ (below_weaken bIQx181_ HL.out hb); replace HI0 := A_ (IsS93.grown bIQx180_ hg (IsS93.own_ne HI0.out HO_3.out (by decide))); replace HK := A_ (KeepBut.trans bK_ (KeepBut.of_grown hg g) (Kd.R_base2 HO_3.out)); have HO675 := A_ (ho); clear HO_3; clear ho hb hg hat))
   go_roundg k1
   case measure => have := HK1.out; omega
   case rel => exact ⟨(y673), (wrap64 (x4_1 - 1)), (t671), (t672), rs_, H', ⟨by have := HK1.out; omega⟩, ⟨vR_ HO675.out⟩, ⟨bIQx180_⟩, ⟨bK_⟩, ⟨bIQx181_⟩⟩
def spec_l1Once.f (s0_0 : List Int) (s0_1 : Int) (s0_2 : Int) (a1 : Int) : Option (Bool × Int × Int) := (spec_l1Below.f s0_0 s0_1 s0_2 a1).bind fun bt676 => (some ((bt676.1 == 0), bt676.2.1, bt676.2.2))
set_option maxHeartbeats 8000000 in
set_option maxRecDepth 100000 in
theorem spec_l1Once.calls (g : Nat) (s0_0 : List Int) (s0_1 : Int) (s0_2 : Int) (a1 : Int) (r1 : Bool) (r2 : Int) (r3 : Int) (w0 w : World) (hI : IsS93 w0 w g s0_0 s0_1 s0_2) (hB : Below w0.heap.size w0 w) (h : spec_l1Once.f s0_0 s0_1 s0_2 a1 = some (r1, r2, r3)) :
 Calls Try.prog 84 #[.pointer (some ⟨g, 0, none⟩), .int .i64 a1] w fun e w' => e = .returned (.bool r1) ∧ IsS93 w0 w' g s0_0 r2 r3 ∧ Below w0.heap.size w0 w' ∧ KeepBut w w' g none := by
 have HI0 := Aside0.mk hI
 have HK := A_ (KeepBut.refl w g none)
 have HL := Aside0.mk hB.size
 clear hI
 have HW0 := Aside0.mk hB.size
 have HB := Aside0.mk hB
 clear hB
 have H : ((spec_l1Below.f s0_0 s0_1 s0_2 a1).bind fun bt676 => (some ((bt676.1 == 0), bt676.2.1, bt676.2.2))) = some (r1, r2, r3) := h
 clear h
 obtain ⟨⟨t676, t677, t678⟩, A3, H⟩ := bo_ H
 (try dsimp only at H)
 simp only [Option.some.injEq, Prod.mk.injEq] at H
 obtain ⟨rfl, rfl, rfl⟩ := H
 go_enter Try.func84, Try.ntmps84
 go_wp2_with (first | ((with_reducible refine gate_callee (f := 83) rfl ?_); refine gL_ (some 7) Try.func83 #[.pointer (some ⟨g, 0, none⟩), .int .i64 a1] ?_; (with_reducible refine (spec_l1Below.calls g s0_0 s0_1 s0_2 a1 t676 t677 t678 w0 _ ?s1 ?s2 A3.out).mono ?_); (case s1 => exact bIQx180_); (case s2 => exact bIQx181_); rintro e w4 ⟨rfl, hi, hb, hk⟩; refine ⟨_, rfl, ?_⟩; replace HK := A_ (KeepBut.trans bK_ hk (.inl rfl)); replace HB := A_ (hb); replace HI0 := A_ (hi); (try clear hb); (try clear hk); (try clear hi)))
 go_ret
 exact ⟨rr_, bIQx180_, bIQx181_, bK_⟩
def spec_l1Int.f (s0_0 : List Int) (s0_1 : Int) (s0_2 : Int) (l1 : List Int) : Option (Int × Int × Int) := (spec_l1Below.f s0_0 s0_1 s0_2 (l1.length : Int)).bind fun bt679 => (if 0 ≤ bt679.1 then (if bt679.1 < (l1.length : Int) then (some (rd l1 bt679.1, bt679.2.1, bt679.2.2)) else (none)) else (none))
set_option maxHeartbeats 8000000 in
set_option maxRecDepth 100000 in
theorem spec_l1Int.calls (g : Nat) (s0_0 : List Int) (s0_1 : Int) (s0_2 : Int) (A1 : Option Addr) (c1 : Nat) (l1 : List Int) (r1 : Int) (r2 : Int) (r3 : Int) (w0 w : World) (hI : IsS93 w0 w g s0_0 s0_1 s0_2) (hB : Below w0.heap.size w0 w) (hr1 : Kd.C (Kd.int .i64) w A1 l1.length l1) (hc1 : l1.length ≤ c1) (hf1 : ∀ ad, A1 = some ad → 0 < l1.length → ad.block ≠ g) (h : spec_l1Int.f s0_0 s0_1 s0_2 l1 = some (r1, r2, r3)) :
 Calls Try.prog 86 #[.pointer (some ⟨g, 0, none⟩), .slice A1 l1.length c1] w fun e w' => e = .returned (.int .i64 r1) ∧ IsS93 w0 w' g s0_0 r2 r3 ∧ Below w0.heap.size w0 w' ∧ KeepBut w w' g none := by
 have HR1 := Aside0.mk hr1
 have HC1 := Aside0.mk hc1
 clear hr1 hc1
 have HI0 := Aside0.mk hI
 have HK := A_ (KeepBut.refl w g none)
 have HL := Aside0.mk hB.size
 clear hI
 have HW0 := Aside0.mk hB.size
 have HB := Aside0.mk hB
 clear hB
 have H : ((spec_l1Below.f s0_0 s0_1 s0_2 (l1.length : Int)).bind fun bt679 => (if 0 ≤ bt679.1 then (if bt679.1 < (l1.length : Int) then (some (rd l1 bt679.1, bt679.2.1, bt679.2.2)) else (none)) else (none))) = some (r1, r2, r3) := h
 clear h
 obtain ⟨⟨t679, t680, t681⟩, A3, H⟩ := bo_ H
 (try dsimp only at H)
 by_cases c4 : 0 ≤ t679
 rotate_left
 · exact absurd H (by rw [if_neg c4]; simp)
 rw [if_pos c4] at H
 have c4b0 : decide (0 ≤ t679) = true := decide_eq_true c4
 clear c4
 by_cases c5 : t679 < (l1.length : Int)
 rotate_left
 · exact absurd H (by rw [if_neg c5]; simp)
 rw [if_pos c5] at H
 have c5b0 : decide (t679 < (l1.length : Int)) = true := decide_eq_true c5
 clear c5
 simp only [Option.some.injEq, Prod.mk.injEq] at H
 obtain ⟨rfl, rfl, rfl⟩ := H
 go_enter Try.func86, Try.ntmps86
 go_wp2_with (first | ((with_reducible refine gate_callee (f := 83) rfl ?_); refine gL_ (some 9) Try.func83 #[.pointer (some ⟨g, 0, none⟩), .int .i64 (l1.length : Int)] ?_; (with_reducible refine (spec_l1Below.calls g s0_0 s0_1 s0_2 (l1.length : Int) t679 t680 t681 w0 _ ?s1 ?s2 A3.out).mono ?_); (case s1 => exact bIQx180_); (case s2 => exact bIQx181_); rintro e w6 ⟨rfl, hi, hb, hk⟩; refine ⟨_, rfl, ?_⟩; replace HK := A_ (KeepBut.trans bK_ hk (.inl rfl)); replace HB := A_ (hb); replace HI0 := A_ (hi); (try clear hb); (try clear hk); (try clear hi); have p682 : 0 ≤ (t679 : Int) := of_decide_eq_true as_; have q682 : t679 < (l1.length : Int) := of_decide_eq_true as_; obtain ⟨ad682, e682, hx682_0⟩ := Kd.at_int HR1.out t679 p682 q682; cases e682; replace hx682_0 := keep_cell HK.out hx682_0 (by first | (rw [add_block]; exact hf1 _ rfl (by omega)) | exact hf1 _ rfl (by omega) | exact hf1 ad682 rfl (by omega)); replace p682 := eq_true p682; replace q682 := eq_true q682))
 go_ret
 exact ⟨rr_, bIQx180_, bIQx181_, bK_⟩
def spec_l13Lock.f (k : Nat) (s0_0 : List Int) (s0_1 : Int) (s0_2 : Int) : Option (Int × List ByteArray × Bool × Bool × Int × Int × Int) := (spec_l1Below.f s0_0 s0_1 s0_2 9).bind fun bt684 => ((spec_l2Draw.f k s0_0 bt684.2.1 bt684.2.2).bind fun bt687 => ((spec_l1Once.f s0_0 bt687.2.1 bt687.2.2 2).bind fun bt692 => ((spec_l1Once.f s0_0 bt692.2.1 bt692.2.2 2).bind fun bt695 => ((spec_l1Int.f s0_0 bt695.2.1 bt695.2.2 (([5, 10, 100] : List Int))).bind fun bt701 => (some (wrap64 (1 + bt684.1), bt687.1, bt692.1, bt695.1, bt701.1, bt701.2.1, bt701.2.2))))))
set_option maxHeartbeats 8000000 in
set_option maxRecDepth 100000 in
theorem spec_l13Lock.calls (k : Nat) (g : Nat) (s0_0 : List Int) (s0_1 : Int) (s0_2 : Int) (r1 : Int) (r2 : List ByteArray) (r3 : Bool) (r4 : Bool) (r5 : Int) (r6 : Int) (r7 : Int) (w0 w : World) (hI : IsS93 w0 w g s0_0 s0_1 s0_2) (hB : Below w0.heap.size w0 w) (h : spec_l13Lock.f k s0_0 s0_1 s0_2 = some (r1, r2, r3, r4, r5, r6, r7)) :
 Calls Try.prog 81 #[.pointer (some ⟨g, 0, none⟩)] w fun e w' => ∃ v1_ : Value, e = .returned (.agg #[.int .i64 r1, v1_, .bool r3, .bool r4, .int .i64 r5]) ∧ Kd.R Kd.string 9 w' w.heap.size (fun _ => True) v1_ r2 ∧ IsS93 w0 w' g s0_0 r6 r7 ∧ Below w0.heap.size w0 w' ∧ KeepBut w w' g none := by
 have hu28 := Try.underlying28
 have HI0 := Aside0.mk hI
 have HK := A_ (KeepBut.refl w g none)
 have HL := Aside0.mk hB.size
 clear hI
 have HW0 := Aside0.mk hB.size
 have HB := Aside0.mk hB
 clear hB
 have H : ((spec_l1Below.f s0_0 s0_1 s0_2 9).bind fun bt684 => ((spec_l2Draw.f k s0_0 bt684.2.1 bt684.2.2).bind fun bt687 => ((spec_l1Once.f s0_0 bt687.2.1 bt687.2.2 2).bind fun bt692 => ((spec_l1Once.f s0_0 bt692.2.1 bt692.2.2 2).bind fun bt695 => ((spec_l1Int.f s0_0 bt695.2.1 bt695.2.2 (([5, 10, 100] : List Int))).bind fun bt701 => (some (wrap64 (1 + bt684.1), bt687.1, bt692.1, bt695.1, bt701.1, bt701.2.1, bt701.2.2))))))) = some (r1, r2, r3, r4, r5, r6, r7) := h
 clear h
 obtain ⟨⟨t684, t685, t686⟩, A2, H⟩ := bo_ H
 (try dsimp only at H)
 obtain ⟨⟨t687, t690, t691⟩, A3, H⟩ := bo_ H
 (try dsimp only at H)
 obtain ⟨⟨t692, t693, t694⟩, A4, H⟩ := bo_ H
 (try dsimp only at H)
 obtain ⟨⟨t695, t696, t697⟩, A5, H⟩ := bo_ H
 (try dsimp only at H)
 obtain ⟨y698, hy698⟩ : ∃ y_ : List Int, y_ = (([5, 10, 100] : List Int)) := ⟨_, rfl⟩
 replace H : ((spec_l1Int.f s0_0 t696 t697 y698).bind fun bt701 => (some (wrap64 (1 + t684), t687, t692, t695, bt701.1, bt701.2.1, bt701.2.2))) = some (r1, r2, r3, r4, r5, r6, r7) := hy_ hy698 H
 have Ny698 := Aside0.mk hy698
 clear hy698
 obtain ⟨⟨t701, t702, t703⟩, A6, H⟩ := bo_ H
 (try dsimp only at H)
 simp only [Option.some.injEq, Prod.mk.injEq] at H
 obtain ⟨rfl, rfl, rfl, rfl, rfl, rfl, rfl⟩ := H
 go_enter Try.func81, Try.ntmps81
 go_wp2_with (first | ((with_reducible refine gate_dst (N := 2) rfl ?_); refine bx_ (N := 2) (cs := #[.int .i64 0, .slice none 0 0, .bool false, .bool false, .int .i64 0]) (t := 28) ?_; intro gb683 hg w7 hbox hb; replace HB := A_ (below_step bIQx181_ hb); have BK683 := A_ (hbox); have GW683 := A_ ((by rw [hg]; exact (keep_size (w := w) (g := g) (row := none) bK_) : w.heap.size ≤ gb683)); have GE683 := A_ ((Nat.le_trans HW0.out (by rw [hg]; exact (keep_size (w := w) (g := g) (row := none) bK_) : w.heap.size ≤ gb683) : w0.heap.size ≤ gb683)); replace HK := A_ (KeepBut.trans bK_ (KeepBut.of_below hb g none) (.inl rfl)); have NB0_683 := A_ ((by rw [hg]; exact Nat.ne_of_lt (IsS93.lt (show IsS93 w0 _ g s0_0 s0_1 s0_2 from bIQx180_)) : g ≠ gb683)); have NB683_0 := A_ ((by rw [hg]; exact Nat.ne_of_gt (IsS93.lt (show IsS93 w0 _ g s0_0 s0_1 s0_2 from bIQx180_)) : gb683 ≠ g)); replace HI0 := A_ (IsS93.below bIQx180_ hb); clear hb hbox hg) | ((with_reducible refine gate_callee (f := 83) rfl ?_); refine gL_ (some 4) Try.func83 #[.pointer (some ⟨g, 0, none⟩), .int .i64 9] ?_; (with_reducible refine (spec_l1Below.calls g s0_0 s0_1 s0_2 9 t684 t685 t686 w0 _ ?s1 ?s2 A2.out).mono ?_); (case s1 => repeat (first | (with_reducible first | exact HI0.out | apply IsS93.alloc | apply IsS93.drewN | apply IsS93.drew | apply IsS93.set_1 | apply IsS93.set_2 | refine IsS93.far ?_ NB0_683.out _) | exact HI0.out)); (case s2 => repeat (first | (with_reducible first | exact HB.out | apply below_alloc | apply pw_below_drewN | apply below_drew1 | refine below_set ?_ (IsS93.ge HI0.out) | refine below_set ?_ GE683.out) | exact HB.out)); rintro e w8 ⟨rfl, hi, hb, hk⟩; refine ⟨_, rfl, ?_⟩; replace BK683 := A_ (KeepBut.blk hk (g' := gb683) (o := .cells #[.int .i64 0, .slice none 0 0, .bool false, .bool false, .int .i64 0] 28 (0, 0)) (vb_ BK683.out) NB683_0.out (by simp)); replace HK := A_ (KeepBut.trans (by repeat (first | (with_reducible first | exact HK.out | apply KeepBut.set_ | apply keep_drewN | apply keep_drew | apply keep_alloc | refine keep_far ?_ GW683.out _) | exact HK.out)) hk (.inl rfl)); replace HB := A_ (hb); replace HI0 := A_ (hi); (try clear hb); (try clear hk); (try clear hi)) | ((with_reducible refine gate_callee (f := 80) rfl ?_); refine gL_ (some 7) Try.func80 #[.pointer (some ⟨g, 0, none⟩)] ?_; (with_reducible refine (spec_l2Draw.calls k g s0_0 t685 t686 t687 t690 t691 w0 _ ?s1 ?s2 A3.out).mono ?_); (case s1 => repeat (first | (with_reducible first | exact HI0.out | apply IsS93.alloc | apply IsS93.drewN | apply IsS93.drew | apply IsS93.set_1 | apply IsS93.set_2 | refine IsS93.far ?_ NB0_683.out _) | exact HI0.out)); (case s2 => repeat (first | (with_reducible first | exact HB.out | apply below_alloc | apply pw_below_drewN | apply below_drew1 | refine below_set ?_ (IsS93.ge HI0.out) | refine below_set ?_ GE683.out) | exact HB.out)); rintro e w9 ⟨v688, rfl, ho0, hi, hb, hk⟩; refine ⟨_, rfl, ?_⟩; replace BK683 := A_ (KeepBut.blk hk (g' := gb683) (o := .cells #[.int .i64 0, .slice none 0 0, .bool false, .bool false, .int .i64 0] 28 (0, 0)) (vb_ BK683.out) NB683_0.out (by simp)); have HO689 := A_ (Kd.R_lower ho0 (keep_size (w := w) (g := g) (row := none) (by repeat (first | (with_reducible first | exact HK.out | apply KeepBut.set_ | apply keep_drewN | apply keep_drew | apply keep_alloc | refine keep_far ?_ GW683.out _) | exact HK.out)))); replace HK := A_ (KeepBut.trans (by repeat (first | (with_reducible first | exact HK.out | apply KeepBut.set_ | apply keep_drewN | apply keep_drew | apply keep_alloc | refine keep_far ?_ GW683.out _) | exact HK.out)) hk (.inl rfl)); replace HB := A_ (hb); replace HI0 := A_ (hi); (try clear hb); (try clear hk); (try clear hi); (try clear ho0)) | ((with_reducible refine gate_callee (f := 84) rfl ?_); refine gL_ (some 9) Try.func84 #[.pointer (some ⟨g, 0, none⟩), .int .i64 2] ?_; (with_reducible refine (spec_l1Once.calls g s0_0 t690 t691 2 t692 t693 t694 w0 _ ?s1 ?s2 A4.out).mono ?_); (case s1 => repeat (first | (with_reducible first | exact HI0.out | apply IsS93.alloc | apply IsS93.drewN | apply IsS93.drew | apply IsS93.set_1 | apply IsS93.set_2 | refine IsS93.far ?_ NB0_683.out _) | exact HI0.out)); (case s2 => repeat (first | (with_reducible first | exact HB.out | apply below_alloc | apply pw_below_drewN | apply below_drew1 | refine below_set ?_ (IsS93.ge HI0.out) | refine below_set ?_ GE683.out) | exact HB.out)); rintro e w10 ⟨rfl, hi, hb, hk⟩; refine ⟨_, rfl, ?_⟩; replace BK683 := A_ (KeepBut.blk hk (g' := gb683) (o := .cells #[.int .i64 0, .slice none 0 0, .bool false, .bool false, .int .i64 0] 28 (0, 0)) (vb_ BK683.out) NB683_0.out (by simp)); replace HO689 := A_ (Kd.R_mono (Kd.R_keep (IsS93.apart (show IsS93 w0 _ g s0_0 t690 t691 from by repeat (first | (with_reducible first | exact HI0.out | apply IsS93.alloc | apply IsS93.drewN | apply IsS93.drew | apply IsS93.set_1 | apply IsS93.set_2 | refine IsS93.far ?_ NB0_683.out _) | exact HI0.out)) (vR_ HO689.out) (by decide)) hk (fun _ h => h.2)) (fun _ h => h.1)); replace HK := A_ (KeepBut.trans (by repeat (first | (with_reducible first | exact HK.out | apply KeepBut.set_ | apply keep_drewN | apply keep_drew | apply keep_alloc | refine keep_far ?_ GW683.out _) | exact HK.out)) hk (.inl rfl)); replace HB := A_ (hb); replace HI0 := A_ (hi); (try clear hb); (try clear hk); (try clear hi)) | ((with_reducible refine gate_callee (f := 84) rfl ?_); refine gL_ (some 11) Try.func84 #[.pointer (some ⟨g, 0, none⟩), .int .i64 2] ?_; (with_reducible refine (spec_l1Once.calls g s0_0 t693 t694 2 t695 t696 t697 w0 _ ?s1 ?s2 A5.out).mono ?_); (case s1 => repeat (first | (with_reducible first | exact HI0.out | apply IsS93.alloc | apply IsS93.drewN | apply IsS93.drew | apply IsS93.set_1 | apply IsS93.set_2 | refine IsS93.far ?_ NB0_683.out _) | exact HI0.out)); (case s2 => repeat (first | (with_reducible first | exact HB.out | apply below_alloc | apply pw_below_drewN | apply below_drew1 | refine below_set ?_ (IsS93.ge HI0.out) | refine below_set ?_ GE683.out) | exact HB.out)); rintro e w11 ⟨rfl, hi, hb, hk⟩; refine ⟨_, rfl, ?_⟩; replace BK683 := A_ (KeepBut.blk hk (g' := gb683) (o := .cells #[.int .i64 0, .slice none 0 0, .bool false, .bool false, .int .i64 0] 28 (0, 0)) (vb_ BK683.out) NB683_0.out (by simp)); replace HO689 := A_ (Kd.R_mono (Kd.R_keep (IsS93.apart (show IsS93 w0 _ g s0_0 t693 t694 from by repeat (first | (with_reducible first | exact HI0.out | apply IsS93.alloc | apply IsS93.drewN | apply IsS93.drew | apply IsS93.set_1 | apply IsS93.set_2 | refine IsS93.far ?_ NB0_683.out _) | exact HI0.out)) (vR_ HO689.out) (by decide)) hk (fun _ h => h.2)) (fun _ h => h.1)); replace HK := A_ (KeepBut.trans (by repeat (first | (with_reducible first | exact HK.out | apply KeepBut.set_ | apply keep_drewN | apply keep_drew | apply keep_alloc | refine keep_far ?_ GW683.out _) | exact HK.out)) hk (.inl rfl)); replace HB := A_ (hb); replace HI0 := A_ (hi); (try clear hb); (try clear hk); (try clear hi)) | ((with_reducible refine gate_dst (N := 13) rfl ?_); refine Kd.R_lit (Kd.int .i64) _ 3 ?hg (N := 13) ?hd (xs := ([5, 10, 100] : List Int)) (inner := [.int .i64 5, .int .i64 10, .int .i64 100]) (ok := fun _ => True) (okp := fun _ => True) ?hr ?hp (fun _ hk => hk) trivial (Below.refl _ _) (Nat.le_refl _) (by simp) ?_; (case hd => rfl); (case hg => rfl); (case hr => first | (go_simp; done) | (go_simp; rfl)); (case hp => exact (Reps.one (show Kd.M (Kd.int .i64) _ _ _ 5 [.int .i64 5] from rfl) (Reps.one (show Kd.M (Kd.int .i64) _ _ _ 10 [.int .i64 10] from rfl) (Reps.one (show Kd.M (Kd.int .i64) _ _ _ 100 [.int .i64 100] from rfl) (Reps.none _ _))))); intro v699 w12 ho13 hb hg_ hnew_; clear hg_ hnew_; (first | rw [← Ny698.out] at ho13 | (simp only [Int.reduceToNat] at ho13; rw [← Ny698.out] at ho13)); replace HO689 := A_ (Kd.R_below (vR_ HO689.out) hb); have HO700 := A_ (Kd.R_lower ho13 (keep_size (w := w) (g := g) (row := none) (by repeat (first | (with_reducible first | exact HK.out | apply KeepBut.set_ | apply keep_drewN | apply keep_drew | apply keep_alloc | refine keep_far ?_ GW683.out _) | exact HK.out)))); replace BK683 := A_ (bw_ BK683.out hb); replace HK := A_ (KeepBut.trans (by repeat (first | (with_reducible first | exact HK.out | apply KeepBut.set_ | apply keep_drewN | apply keep_drew | apply keep_alloc | refine keep_far ?_ GW683.out _) | exact HK.out)) (KeepBut.of_below hb g none) (.inl rfl)); replace HB := A_ (below_step (by repeat (first | (with_reducible first | exact HB.out | apply below_alloc | apply pw_below_drewN | apply below_drew1 | refine below_set ?_ (IsS93.ge HI0.out) | refine below_set ?_ GE683.out) | exact HB.out)) hb); replace HI0 := A_ (IsS93.below (by repeat (first | (with_reducible first | exact HI0.out | apply IsS93.alloc | apply IsS93.drewN | apply IsS93.drew | apply IsS93.set_1 | apply IsS93.set_2 | refine IsS93.far ?_ NB0_683.out _) | exact HI0.out)) hb); clear hb ho13; obtain ⟨Ao14, co14, eo14⟩ := Kd.R_slice HO700.out; subst eo14) | ((with_reducible refine gate_callee (f := 86) rfl ?_); refine gL_ (some 14) Try.func86 #[.pointer (some ⟨g, 0, none⟩), .slice Ao14 y698.length co14] ?_; (with_reducible refine (spec_l1Int.calls g s0_0 t696 t697 _ _ y698 t701 t702 t703 w0 _ ?s1 ?s2 ?s3 ?s4 ?s5 A6.out).mono ?_); (case s1 => repeat (first | (with_reducible first | exact HI0.out | apply IsS93.alloc | apply IsS93.drewN | apply IsS93.drew | apply IsS93.set_1 | apply IsS93.set_2 | refine IsS93.far ?_ NB0_683.out _) | exact HI0.out)); (case s2 => repeat (first | (with_reducible first | exact HB.out | apply below_alloc | apply pw_below_drewN | apply below_drew1 | refine below_set ?_ (IsS93.ge HI0.out) | refine below_set ?_ GE683.out) | exact HB.out)); (case s3 => exact cC_ (Kd.R_reads' HO700.out).2.2); (case s4 => exact (Kd.R_reads' HO700.out).2.1); (case s5 => exact far_slice (IsS93.own_ne HI0.out HO700.out (by decide))); rintro e w15 ⟨rfl, hi, hb, hk⟩; refine ⟨_, rfl, ?_⟩; replace BK683 := A_ (KeepBut.blk hk (g' := gb683) (o := .cells #[.int .i64 0, .slice none 0 0, .bool false, .bool false, .int .i64 0] 28 (0, 0)) (vb_ BK683.out) NB683_0.out (by simp)); replace HO689 := A_ (Kd.R_mono (Kd.R_keep (IsS93.apart (show IsS93 w0 _ g s0_0 t696 t697 from by repeat (first | (with_reducible first | exact HI0.out | apply IsS93.alloc | apply IsS93.drewN | apply IsS93.drew | apply IsS93.set_1 | apply IsS93.set_2 | refine IsS93.far ?_ NB0_683.out _) | exact HI0.out)) (vR_ HO689.out) (by decide)) hk (fun _ h => h.2)) (fun _ h => h.1)); replace HO700 := A_ (Kd.R_mono (Kd.R_keep (IsS93.apart (show IsS93 w0 _ g s0_0 t696 t697 from by repeat (first | (with_reducible first | exact HI0.out | apply IsS93.alloc | apply IsS93.drewN | apply IsS93.drew | apply IsS93.set_1 | apply IsS93.set_2 | refine IsS93.far ?_ NB0_683.out _) | exact HI0.out)) (vR_ HO700.out) (by decide)) hk (fun _ h => h.2)) (fun _ h => h.1)); replace HK := A_ (KeepBut.trans (by repeat (first | (with_reducible first | exact HK.out | apply KeepBut.set_ | apply keep_drewN | apply keep_drew | apply keep_alloc | refine keep_far ?_ GW683.out _) | exact HK.out)) hk (.inl rfl)); replace HB := A_ (hb); replace HI0 := A_ (hi); (try clear hb); (try clear hk); (try clear hi); obtain ⟨Ao16, co16, eo16⟩ := Kd.R_slice HO689.out; subst eo16; have hnb17 := NB683_0.out; have hnc17 := NB0_683.out; obtain ⟨hcz18_0, hcz18_1, hcz18_2, hcz18_3, hcz18_4, hfz18_0, hfz18_1, hfz18_2, hfz18_3, hfz18_4⟩ := cz5_ BK683.out))
 refine bodyPost_ret (results_cell_row rfl _ _ gb683 28 #[.int .i64 (wrap64 (1 + t684)), .slice Ao16 t687.length co16, .bool t692, .bool t695, .int .i64 t701] (0, 0) _ rfl (by (with_reducible repeat (first | refine blk_drewN ?_ _ | refine blk_drew ?_ | refine blk_alloc ?_ _)); refine blk_put (cs := #[.int .i64 (wrap64 (1 + t684)), .slice Ao16 t687.length co16, .bool t692, .bool t695, .int .i64 0]) ?_ 4 _ rfl; (with_reducible repeat (first | refine blk_drewN ?_ _ | refine blk_drew ?_ | refine blk_alloc ?_ _)); refine blk_put (cs := #[.int .i64 (wrap64 (1 + t684)), .slice Ao16 t687.length co16, .bool t692, .bool false, .int .i64 0]) ?_ 3 _ rfl; (with_reducible repeat (first | refine blk_drewN ?_ _ | refine blk_drew ?_ | refine blk_alloc ?_ _)); refine blk_put (cs := #[.int .i64 (wrap64 (1 + t684)), .slice Ao16 t687.length co16, .bool false, .bool false, .int .i64 0]) ?_ 2 _ rfl; (with_reducible repeat (first | refine blk_drewN ?_ _ | refine blk_drew ?_ | refine blk_alloc ?_ _)); refine blk_put (cs := #[.int .i64 (wrap64 (1 + t684)), .slice none 0 0, .bool false, .bool false, .int .i64 0]) ?_ 1 _ rfl; (with_reducible repeat (first | refine blk_drewN ?_ _ | refine blk_drew ?_ | refine blk_alloc ?_ _)); refine blk_put (cs := #[.int .i64 0, .slice none 0 0, .bool false, .bool false, .int .i64 0]) ?_ 0 _ rfl; (with_reducible repeat (first | refine blk_drewN ?_ _ | refine blk_drew ?_ | refine blk_alloc ?_ _)); exact BK683.out) Try.underlying28 rfl (by kernel_rfl)) rfl ?_
 exact ⟨_, rr_, by (with_reducible repeat (first | apply Kd.R_alloc | apply Kd.R_drewN | apply Kd.R_drew)); exact Kd.R_mono (Kd.R_far (p := ⟨gb683, 4, none⟩) (Kd.R_far (p := ⟨gb683, 3, none⟩) (Kd.R_far (p := ⟨gb683, 2, none⟩) (Kd.R_far (p := ⟨gb683, 1, none⟩) (Kd.R_far (p := ⟨gb683, 0, none⟩) (Kd.R_types HO689.out BK683.out (by decide)) (fun _ hk => hk.2) (.int .i64 (wrap64 (1 + t684)))) (fun _ hk => hk.2) (.slice Ao16 t687.length co16)) (fun _ hk => hk.2) (.bool t692)) (fun _ hk => hk.2) (.bool t695)) (fun _ hk => hk.2) (.int .i64 t701)) (fun _ hk => trivial), by repeat (first | (with_reducible first | exact HI0.out | apply IsS93.alloc | apply IsS93.drewN | apply IsS93.drew | apply IsS93.set_1 | apply IsS93.set_2 | refine IsS93.far ?_ NB0_683.out _) | exact HI0.out), by repeat (first | (with_reducible first | exact HB.out | apply below_alloc | apply pw_below_drewN | apply below_drew1 | refine below_set ?_ (IsS93.ge HI0.out) | refine below_set ?_ GE683.out) | exact HB.out), by repeat (first | (with_reducible first | exact HK.out | apply KeepBut.set_ | apply keep_drewN | apply keep_drew | apply keep_alloc | refine keep_far ?_ GW683.out _) | exact HK.out)⟩
def spec_l2Any.l0 : Nat → List ByteArray → List Int → Int → Int → Option (List ByteArray × Int × Int)
 | 0, _, _, _, _ => none
 | k + 1, x3, x1000, x1001, x1002 => (spec_l1Below.f x1000 x1001 x1002 2).bind fun bt721 => (if (x3.length : Int) < (wrap64 (4 + bt721.1)) then (if x3.length < 8796093022208 then (spec_l2Any.l0 k (x3 ++ [(⟨#[113]⟩ : ByteArray)]) x1000 bt721.2.1 bt721.2.2) else (none)) else (some (x3, bt721.2.1, bt721.2.2)))
def spec_l2Any.f (k : Nat) (s0_0 : List Int) (s0_1 : Int) (s0_2 : Int) : Option (List ByteArray × Int × Int) := (spec_l2Draw.f k s0_0 s0_1 s0_2).bind fun bt704 => ((spec_l1Below.f s0_0 bt704.2.1 bt704.2.2 8).bind fun bt709 => (if bt709.1 = 0 then ((spec_l1Str.f s0_0 bt709.2.1 bt709.2.2 (([(⟨#[]⟩ : ByteArray), (⟨#[46]⟩ : ByteArray), (⟨#[46, 46]⟩ : ByteArray), (⟨#[97, 47, 98]⟩ : ByteArray), (⟨#[110, 105, 110, 101, 98, 121, 116, 101, 115]⟩ : ByteArray), (⟨#[31]⟩ : ByteArray), (⟨#[101, 105, 103, 104, 116, 98, 121, 56]⟩ : ByteArray)] : List ByteArray))).bind fun bt715 => (if bt704.1.length < 8796093022208 then (some ((bt704.1 ++ [bt715.1]), bt715.2.1, bt715.2.2)) else (none))) else (if bt709.1 = 1 then (spec_l2Any.l0 k bt704.1 s0_0 bt709.2.1 bt709.2.2) else (some (bt704.1, bt709.2.1, bt709.2.2)))))
set_option maxHeartbeats 8000000 in
set_option maxRecDepth 100000 in
theorem spec_l2Any.calls (k : Nat) (g : Nat) (s0_0 : List Int) (s0_1 : Int) (s0_2 : Int) (r1 : List ByteArray) (r2 : Int) (r3 : Int) (w0 w : World) (hI : IsS93 w0 w g s0_0 s0_1 s0_2) (hB : Below w0.heap.size w0 w) (h : spec_l2Any.f k s0_0 s0_1 s0_2 = some (r1, r2, r3)) :
 Calls Try.prog 85 #[.pointer (some ⟨g, 0, none⟩)] w fun e w' => ∃ v0_ : Value, e = .returned (v0_) ∧ Kd.R Kd.string 9 w' w.heap.size (fun _ => True) v0_ r1 ∧ IsS93 w0 w' g s0_0 r2 r3 ∧ Below w0.heap.size w0 w' ∧ KeepBut w w' g none := by
 have HI0 := Aside0.mk hI
 have HK := A_ (KeepBut.refl w g none)
 have HL := Aside0.mk hB.size
 clear hI
 have HW0 := Aside0.mk hB.size
 have HB := Aside0.mk hB
 clear hB
 have H : ((spec_l2Draw.f k s0_0 s0_1 s0_2).bind fun bt704 => ((spec_l1Below.f s0_0 bt704.2.1 bt704.2.2 8).bind fun bt709 => (if bt709.1 = 0 then ((spec_l1Str.f s0_0 bt709.2.1 bt709.2.2 (([(⟨#[]⟩ : ByteArray), (⟨#[46]⟩ : ByteArray), (⟨#[46, 46]⟩ : ByteArray), (⟨#[97, 47, 98]⟩ : ByteArray), (⟨#[110, 105, 110, 101, 98, 121, 116, 101, 115]⟩ : ByteArray), (⟨#[31]⟩ : ByteArray), (⟨#[101, 105, 103, 104, 116, 98, 121, 56]⟩ : ByteArray)] : List ByteArray))).bind fun bt715 => (if bt704.1.length < 8796093022208 then (some ((bt704.1 ++ [bt715.1]), bt715.2.1, bt715.2.2)) else (none))) else (if bt709.1 = 1 then (spec_l2Any.l0 k bt704.1 s0_0 bt709.2.1 bt709.2.2) else (some (bt704.1, bt709.2.1, bt709.2.2)))))) = some (r1, r2, r3) := h
 clear h
 obtain ⟨⟨t704, t707, t708⟩, A2, H⟩ := bo_ H
 (try dsimp only at H)
 obtain ⟨⟨t709, t710, t711⟩, A3, H⟩ := bo_ H
 (try dsimp only at H)
 by_cases c4 : t709 = 0
 · rw [if_pos c4] at H
   have c4b0 : (t709 == 0) = true := beq_iff_eq.mpr c4
   have c4b1 : (t709 != 0) = false := bne_eq_false_iff_eq.mpr c4
   clear c4
   obtain ⟨y712, hy712⟩ : ∃ y_ : List ByteArray, y_ = (([(⟨#[]⟩ : ByteArray), (⟨#[46]⟩ : ByteArray), (⟨#[46, 46]⟩ : ByteArray), (⟨#[97, 47, 98]⟩ : ByteArray), (⟨#[110, 105, 110, 101, 98, 121, 116, 101, 115]⟩ : ByteArray), (⟨#[31]⟩ : ByteArray), (⟨#[101, 105, 103, 104, 116, 98, 121, 56]⟩ : ByteArray)] : List ByteArray)) := ⟨_, rfl⟩
   replace H : ((spec_l1Str.f s0_0 t710 t711 y712).bind fun bt715 => (if t704.length < 8796093022208 then (some ((t704 ++ [bt715.1]), bt715.2.1, bt715.2.2)) else (none))) = some (r1, r2, r3) := hy_ hy712 H
   have Ny712 := Aside0.mk hy712
   clear hy712
   obtain ⟨⟨t715, t716, t717⟩, A5, H⟩ := bo_ H
   (try dsimp only at H)
   by_cases c6 : t704.length < 8796093022208
   rotate_left
   · exact absurd H (by rw [if_neg c6]; simp)
   rw [if_pos c6] at H
   have LMc6 := Aside0.mk c6
   clear c6
   obtain ⟨y718, hy718⟩ : ∃ y_ : List ByteArray, y_ = (t704 ++ [t715]) := ⟨_, rfl⟩
   replace H : (some (y718, t716, t717)) = some (r1, r2, r3) := hy_ hy718 H
   have Ny718 := Aside0.mk hy718
   clear hy718
   simp only [Option.some.injEq, Prod.mk.injEq] at H
   obtain ⟨rfl, rfl, rfl⟩ := H
   go_enter Try.func85, Try.ntmps85
   go_wp2_with (first | ((with_reducible refine gate_callee (f := 80) rfl ?_); refine gL_ (some 5) Try.func80 #[.pointer (some ⟨g, 0, none⟩)] ?_; (with_reducible refine (spec_l2Draw.calls k g s0_0 s0_1 s0_2 t704 t707 t708 w0 _ ?s1 ?s2 A2.out).mono ?_); (case s1 => exact bIQx180_); (case s2 => exact bIQx181_); rintro e w7 ⟨v705, rfl, ho0, hi, hb, hk⟩; refine ⟨_, rfl, ?_⟩; have HO706 := A_ (Kd.R_lower ho0 (keep_size (w := w) (g := g) (row := none) bK_)); replace HK := A_ (KeepBut.trans bK_ hk (.inl rfl)); replace HB := A_ (hb); replace HI0 := A_ (hi); (try clear hb); (try clear hk); (try clear hi); (try clear ho0)) | ((with_reducible refine gate_callee (f := 83) rfl ?_); refine gL_ (some 7) Try.func83 #[.pointer (some ⟨g, 0, none⟩), .int .i64 8] ?_; (with_reducible refine (spec_l1Below.calls g s0_0 t707 t708 8 t709 t710 t711 w0 _ ?s1 ?s2 A3.out).mono ?_); (case s1 => exact bIQx180_); (case s2 => exact bIQx181_); rintro e w8 ⟨rfl, hi, hb, hk⟩; refine ⟨_, rfl, ?_⟩; replace HO706 := A_ (Kd.R_mono (Kd.R_keep (IsS93.apart (show IsS93 w0 _ g s0_0 t707 t708 from bIQx180_) (vR_ HO706.out) (by decide)) hk (fun _ h => h.2)) (fun _ h => h.1)); replace HK := A_ (KeepBut.trans bK_ hk (.inl rfl)); replace HB := A_ (hb); replace HI0 := A_ (hi); (try clear hb); (try clear hk); (try clear hi)) | ((with_reducible refine gate_dst (N := 12) rfl ?_); refine Kd.R_lit Kd.string _ 9 ?hg (N := 12) ?hd (xs := ([(⟨#[]⟩ : ByteArray), (⟨#[46]⟩ : ByteArray), (⟨#[46, 46]⟩ : ByteArray), (⟨#[97, 47, 98]⟩ : ByteArray), (⟨#[110, 105, 110, 101, 98, 121, 116, 101, 115]⟩ : ByteArray), (⟨#[31]⟩ : ByteArray), (⟨#[101, 105, 103, 104, 116, 98, 121, 56]⟩ : ByteArray)] : List ByteArray)) (inner := [.string (⟨#[]⟩ : ByteArray), .string (⟨#[46]⟩ : ByteArray), .string (⟨#[46, 46]⟩ : ByteArray), .string (⟨#[97, 47, 98]⟩ : ByteArray), .string (⟨#[110, 105, 110, 101, 98, 121, 116, 101, 115]⟩ : ByteArray), .string (⟨#[31]⟩ : ByteArray), .string (⟨#[101, 105, 103, 104, 116, 98, 121, 56]⟩ : ByteArray)]) (ok := fun _ => True) (okp := fun _ => True) ?hr ?hp (fun _ hk => hk) trivial (Below.refl _ _) (Nat.le_refl _) (by simp) ?_; (case hd => rfl); (case hg => rfl); (case hr => first | (go_simp; done) | (go_simp; rfl)); (case hp => exact (Reps.one (show Kd.M Kd.string _ _ _ (⟨#[]⟩ : ByteArray) [.string (⟨#[]⟩ : ByteArray)] from rfl) (Reps.one (show Kd.M Kd.string _ _ _ (⟨#[46]⟩ : ByteArray) [.string (⟨#[46]⟩ : ByteArray)] from rfl) (Reps.one (show Kd.M Kd.string _ _ _ (⟨#[46, 46]⟩ : ByteArray) [.string (⟨#[46, 46]⟩ : ByteArray)] from rfl) (Reps.one (show Kd.M Kd.string _ _ _ (⟨#[97, 47, 98]⟩ : ByteArray) [.string (⟨#[97, 47, 98]⟩ : ByteArray)] from rfl) (Reps.one (show Kd.M Kd.string _ _ _ (⟨#[110, 105, 110, 101, 98, 121, 116, 101, 115]⟩ : ByteArray) [.string (⟨#[110, 105, 110, 101, 98, 121, 116, 101, 115]⟩ : ByteArray)] from rfl) (Reps.one (show Kd.M Kd.string _ _ _ (⟨#[31]⟩ : ByteArray) [.string (⟨#[31]⟩ : ByteArray)] from rfl) (Reps.one (show Kd.M Kd.string _ _ _ (⟨#[101, 105, 103, 104, 116, 98, 121, 56]⟩ : ByteArray) [.string (⟨#[101, 105, 103, 104, 116, 98, 121, 56]⟩ : ByteArray)] from rfl) (Reps.none _ _))))))))); intro v713 w9 ho10 hb hg_ hnew_; clear hg_ hnew_; (first | rw [← Ny712.out] at ho10 | (simp only [Int.reduceToNat] at ho10; rw [← Ny712.out] at ho10)); have HO714 := A_ (Kd.R_lower (Kd.R_new' ho10 (Kd.R_lt (vR_ HO706.out))) (keep_size (w := w) (g := g) (row := none) bK_)); replace HO706 := A_ (Kd.R_elder' (vR_ HO706.out) (kb_ ho10) hb); replace HK := A_ (KeepBut.trans bK_ (KeepBut.of_below hb g none) (.inl rfl)); replace HB := A_ (below_step bIQx181_ hb); replace HI0 := A_ (IsS93.below bIQx180_ hb); clear hb ho10; obtain ⟨Ao11, co11, eo11⟩ := Kd.R_slice HO714.out; subst eo11) | ((with_reducible refine gate_callee (f := 95) rfl ?_); refine gL_ (some 13) Try.func95 #[.pointer (some ⟨g, 0, none⟩), .slice Ao11 y712.length co11] ?_; (with_reducible refine (spec_l1Str.calls g s0_0 t710 t711 _ _ y712 t715 t716 t717 w0 _ ?s1 ?s2 ?s3 ?s4 ?s5 A5.out).mono ?_); (case s1 => exact bIQx180_); (case s2 => exact bIQx181_); (case s3 => exact cC_ (Kd.R_reads' HO714.out).2.2); (case s4 => exact (Kd.R_reads' HO714.out).2.1); (case s5 => exact far_slice (IsS93.own_ne HI0.out HO714.out (by decide))); rintro e w12 ⟨rfl, hi, hb, hk⟩; refine ⟨_, rfl, ?_⟩; replace HO706 := A_ (Kd.R_mono (Kd.R_keep (IsS93.apart (show IsS93 w0 _ g s0_0 t710 t711 from bIQx180_) (vR_ HO706.out) (by decide)) hk (fun _ h => h.2)) (fun _ h => h.1)); replace HO714 := A_ (Kd.R_mono (Kd.R_keep (IsS93.apart (show IsS93 w0 _ g s0_0 t710 t711 from bIQx180_) (vR_ HO714.out) (by decide)) hk (fun _ h => h.2)) (fun _ h => h.1)); replace HK := A_ (KeepBut.trans bK_ hk (.inl rfl)); replace HB := A_ (hb); replace HI0 := A_ (hi); (try clear hb); (try clear hk); (try clear hi)) | ((with_reducible refine gate_builtin (b := .append) (xs := #[.tmp 10, .tmp 14]) rfl ?_); at_builtin; refine Kd.R_append Kd.string w.heap.size rfl (.tmp 10) (.tmp 14) 22 9 (.string ⟨#[]⟩) 16 rfl Try.underlying22 info9 rfl (by decide) (by omega) v705 t704 t715 [.string t715] (fun k_ => some k_ ≠ (.slice Ao11 y712.length co11 : Value).ownBlock) (fun _ => False) rfl rfl ?aP (fun _ hk => hk.elim) ?aF ?aO (Below.refl _ _) ?aS ?aL ?_; (case aP => exact rfl); (case aF => exact (fun k_ hk => Kd.fresh' (Kd.R_lt (vR_ HO714.out)) k_ hk)); (case aO => exact (by (with_reducible repeat (first | apply Kd.R_alloc | apply Kd.R_drewN | apply Kd.R_drew)); exact Kd.R_mono HO706.out (fun _ hk => hk.2))); (case aS => exact (keep_size (w := w) (g := g) (row := none) bK_)); (case aL => have := LMc6.out; omega); intro v719 w13 ho hb hg hat; rw [← Ny718.out] at ho; replace HO714 := A_ (Kd.R_after (ok := (fun _ => True)) (vR_ HO714.out) hg hat); replace HB := A_ (below_weaken bIQx181_ HL.out hb); replace HI0 := A_ (IsS93.grown bIQx180_ hg (IsS93.own_ne HI0.out HO706.out (by decide))); replace HK := A_ (KeepBut.trans bK_ (KeepBut.of_grown hg g) (Kd.R_base2 HO706.out)); have HO720 := A_ (ho); clear HO706; clear ho hb hg hat))
   go_ret
   exact ⟨_, rr_, by (with_reducible repeat (first | apply Kd.R_alloc | apply Kd.R_drewN | apply Kd.R_drew)); exact Kd.R_mono HO720.out (fun _ hk => trivial), bIQx180_, bIQx181_, bK_⟩
 rw [if_neg c4] at H
 have c4b0 : (t709 == 0) = false := beq_eq_false_iff_ne.mpr c4
 have c4b1 : (t709 != 0) = true := bne_iff_ne.mpr c4
 by_cases c14 : t709 = 1
 rotate_left
 · rw [if_neg c14] at H
   have c14b0 : (t709 == 1) = false := beq_eq_false_iff_ne.mpr c14
   have c14b1 : (t709 != 1) = true := bne_iff_ne.mpr c14
   simp only [Option.some.injEq, Prod.mk.injEq] at H
   obtain ⟨rfl, rfl, rfl⟩ := H
   go_enter Try.func85, Try.ntmps85
   go_wp2_with (first | ((with_reducible refine gate_callee (f := 80) rfl ?_); refine gL_ (some 5) Try.func80 #[.pointer (some ⟨g, 0, none⟩)] ?_; (with_reducible refine (spec_l2Draw.calls k g s0_0 s0_1 s0_2 t704 t707 t708 w0 _ ?s1 ?s2 A2.out).mono ?_); (case s1 => exact bIQx180_); (case s2 => exact bIQx181_); rintro e w25 ⟨v705, rfl, ho0, hi, hb, hk⟩; refine ⟨_, rfl, ?_⟩; have HO706 := A_ (Kd.R_lower ho0 (keep_size (w := w) (g := g) (row := none) bK_)); replace HK := A_ (KeepBut.trans bK_ hk (.inl rfl)); replace HB := A_ (hb); replace HI0 := A_ (hi); (try clear hb); (try clear hk); (try clear hi); (try clear ho0)) | ((with_reducible refine gate_callee (f := 83) rfl ?_); refine gL_ (some 7) Try.func83 #[.pointer (some ⟨g, 0, none⟩), .int .i64 8] ?_; (with_reducible refine (spec_l1Below.calls g s0_0 t707 t708 8 t709 t710 t711 w0 _ ?s1 ?s2 A3.out).mono ?_); (case s1 => exact bIQx180_); (case s2 => exact bIQx181_); rintro e w26 ⟨rfl, hi, hb, hk⟩; refine ⟨_, rfl, ?_⟩; replace HO706 := A_ (Kd.R_mono (Kd.R_keep (IsS93.apart (show IsS93 w0 _ g s0_0 t707 t708 from bIQx180_) (vR_ HO706.out) (by decide)) hk (fun _ h => h.2)) (fun _ h => h.1)); replace HK := A_ (KeepBut.trans bK_ hk (.inl rfl)); replace HB := A_ (hb); replace HI0 := A_ (hi); (try clear hb); (try clear hk); (try clear hi)))
   go_ret
   exact ⟨_, rr_, by (with_reducible repeat (first | apply Kd.R_alloc | apply Kd.R_drewN | apply Kd.R_drew)); exact HO706.out, bIQx180_, bIQx181_, bK_⟩
 rw [if_pos c14] at H
 have c14b0 : (t709 == 1) = true := beq_iff_eq.mpr c14
 have c14b1 : (t709 != 1) = false := bne_eq_false_iff_eq.mpr c14
 clear c14
 have H' := Aside0.mk H
 clear H
 go_enter Try.func85, Try.ntmps85
 go_wp2_with (first | ((with_reducible refine gate_callee (f := 80) rfl ?_); refine gL_ (some 5) Try.func80 #[.pointer (some ⟨g, 0, none⟩)] ?_; (with_reducible refine (spec_l2Draw.calls k g s0_0 s0_1 s0_2 t704 t707 t708 w0 _ ?s1 ?s2 A2.out).mono ?_); (case s1 => exact bIQx180_); (case s2 => exact bIQx181_); rintro e w15 ⟨v705, rfl, ho0, hi, hb, hk⟩; refine ⟨_, rfl, ?_⟩; have HO706 := A_ (Kd.R_lower ho0 (keep_size (w := w) (g := g) (row := none) bK_)); replace HK := A_ (KeepBut.trans bK_ hk (.inl rfl)); replace HB := A_ (hb); replace HI0 := A_ (hi); (try clear hb); (try clear hk); (try clear hi); (try clear ho0)) | ((with_reducible refine gate_callee (f := 83) rfl ?_); refine gL_ (some 7) Try.func83 #[.pointer (some ⟨g, 0, none⟩), .int .i64 8] ?_; (with_reducible refine (spec_l1Below.calls g s0_0 t707 t708 8 t709 t710 t711 w0 _ ?s1 ?s2 A3.out).mono ?_); (case s1 => exact bIQx180_); (case s2 => exact bIQx181_); rintro e w16 ⟨rfl, hi, hb, hk⟩; refine ⟨_, rfl, ?_⟩; replace HO706 := A_ (Kd.R_mono (Kd.R_keep (IsS93.apart (show IsS93 w0 _ g s0_0 t707 t708 from bIQx180_) (vR_ HO706.out) (by decide)) hk (fun _ h => h.2)) (fun _ h => h.1)); replace HK := A_ (KeepBut.trans bK_ hk (.inl rfl)); replace HB := A_ (hb); replace HI0 := A_ (hi); (try clear hb); (try clear hk); (try clear hi)))
 go_loopg [3] k (fun kq v3 w' => ∃ (x3_1 : List ByteArray) (x1001_1 : Int) (x1002_1 : Int), Aside0 (spec_l2Any.l0 kq x3_1 s0_0 x1001_1 x1002_1 = some (r1, r2, r3)) ∧ Aside0 (kq ≤ k) ∧ Aside0 (Kd.R Kd.string 9 w' w.heap.size (fun _ => True) v3 x3_1) ∧ Aside0 (IsS93 w0 w' g s0_0 x1001_1 x1002_1) ∧ Aside0 (KeepBut w w' g none) ∧ Aside0 (Below w0.heap.size w0 w'))
 case atStart => exact ⟨(t704), (t710), (t711), H', ⟨Nat.le_refl _⟩, ⟨vR_ HO706.out⟩, ⟨bIQx180_⟩, ⟨bK_⟩, ⟨bIQx181_⟩⟩
 case round =>
  clear H'
  try clear c1
  try clear p2
  try clear c4
  try clear c4b0
  try clear c4b1
  try clear c6
  try clear c8
  try clear c9
  try clear c14
  try clear c14b0
  try clear c14b1
  obtain ⟨x3_1, x1001_1, x1002_1, HA, HK1, HO_3, HI0, HK, HB⟩ := hrel
  cases gk with
  | zero => exact absurd HA.out (by simp [spec_l2Any.l0])
  | succ k1 =>
   have H := HA.out
   clear HA
   simp only [spec_l2Any.l0] at H
   obtain ⟨⟨t721, t722, t723⟩, A17, H⟩ := bo_ H
   (try dsimp only at H)
   by_cases c18 : (x3_1.length : Int) < (wrap64 (4 + t721))
   rotate_left
   · rw [if_neg c18] at H
     have c18b0 : decide ((x3_1.length : Int) < (wrap64 (4 + t721))) = false := decide_eq_false c18
     clear c18
     simp only [Option.some.injEq, Prod.mk.injEq] at H
     obtain ⟨rfl, rfl, rfl⟩ := H
     obtain ⟨Ao23, co23, eo23⟩ := Kd.R_slice HO_3.out
     subst eo23
     go_wp2_with (first | ((with_reducible refine gate_callee (f := 83) rfl ?_); refine gL_ (some 21) Try.func83 #[.pointer (some ⟨g, 0, none⟩), .int .i64 2] ?_; (with_reducible refine (spec_l1Below.calls g s0_0 x1001_1 x1002_1 2 t721 t722 t723 w0 _ ?s1 ?s2 A17.out).mono ?_); (case s1 => exact bIQx180_); (case s2 => exact bIQx181_); rintro e w24 ⟨rfl, hi, hb, hk⟩; refine ⟨_, rfl, ?_⟩; replace HO_3 := A_ (Kd.R_mono (Kd.R_keep (IsS93.apart (show IsS93 w0 _ g s0_0 x1001_1 x1002_1 from bIQx180_) (vR_ HO_3.out) (by decide)) hk (fun _ h => h.2)) (fun _ h => h.1)); replace HK := A_ (KeepBut.trans bK_ hk (.inl rfl)); replace HB := A_ (hb); replace HI0 := A_ (hi); (try clear hb); (try clear hk); (try clear hi)))
     go_ret
     exact ⟨_, rr_, by (with_reducible repeat (first | apply Kd.R_alloc | apply Kd.R_drewN | apply Kd.R_drew)); exact HO_3.out, bIQx180_, bIQx181_, bK_⟩
   rw [if_pos c18] at H
   have c18b0 : decide ((x3_1.length : Int) < (wrap64 (4 + t721))) = true := decide_eq_true c18
   clear c18
   by_cases c19 : x3_1.length < 8796093022208
   rotate_left
   · exact absurd H (by rw [if_neg c19]; simp)
   rw [if_pos c19] at H
   have LMc19 := Aside0.mk c19
   clear c19
   obtain ⟨y724, hy724⟩ : ∃ y_ : List ByteArray, y_ = (x3_1 ++ [(⟨#[113]⟩ : ByteArray)]) := ⟨_, rfl⟩
   replace H : (spec_l2Any.l0 k1 y724 s0_0 t722 t723) = some (r1, r2, r3) := hy_ hy724 H
   have Ny724 := Aside0.mk hy724
   clear hy724
   have H' := Aside0.mk H
   clear H
   obtain ⟨Ao20, co20, eo20⟩ := Kd.R_slice HO_3.out
   subst eo20
   go_wp2_with (first | ((with_reducible refine gate_callee (f := 83) rfl ?_); refine gL_ (some 21) Try.func83 #[.pointer (some ⟨g, 0, none⟩), .int .i64 2] ?_; (with_reducible refine (spec_l1Below.calls g s0_0 x1001_1 x1002_1 2 t721 t722 t723 w0 _ ?s1 ?s2 A17.out).mono ?_); (case s1 => exact bIQx180_); (case s2 => exact bIQx181_); rintro e w21 ⟨rfl, hi, hb, hk⟩; refine ⟨_, rfl, ?_⟩; replace HO_3 := A_ (Kd.R_mono (Kd.R_keep (IsS93.apart (show IsS93 w0 _ g s0_0 x1001_1 x1002_1 from bIQx180_) (vR_ HO_3.out) (by decide)) hk (fun _ h => h.2)) (fun _ h => h.1)); replace HK := A_ (KeepBut.trans bK_ hk (.inl rfl)); replace HB := A_ (hb); replace HI0 := A_ (hi); (try clear hb); (try clear hk); (try clear hi)) | ((with_reducible refine gate_builtin (b := .append) (xs := #[.tmp 24, .tmp 25]) rfl ?_); at_builtin; refine Kd.R_append Kd.string w.heap.size rfl (.tmp 24) (.tmp 25) 22 9 (.string ⟨#[]⟩) 16 rfl Try.underlying22 info9 rfl (by decide) (by omega) (.slice Ao20 x3_1.length co20) x3_1 (⟨#[113]⟩ : ByteArray) [.string (⟨#[113]⟩ : ByteArray)] (fun _ => True) (fun _ => False) rfl rfl ?aP (fun _ hk => hk.elim) ?aF ?aO (Below.refl _ _) ?aS ?aL ?_; (case aP => exact rfl); (case aF => exact (fun _ _ => trivial)); (case aO => exact (vR_ HO_3.out)); (case aS => exact (keep_size (w := w) (g := g) (row := none) bK_)); (case aL => have := LMc19.out; omega); intro v725 w22 ho hb hg hat; rw [← Ny724.out] at ho; replace HB := A_ (below_weaken bIQx181_ HL.out hb); replace HI0 := A_ (IsS93.grown bIQx180_ hg (IsS93.own_ne HI0.out HO_3.out (by decide))); replace HK := A_ (KeepBut.trans bK_ (KeepBut.of_grown hg g) (Kd.R_base2 HO_3.out)); have HO726 := A_ (ho); clear HO_3; clear ho hb hg hat))
   go_roundg k1
   case measure => have := HK1.out; omega
   case rel => exact ⟨(y724), (t722), (t723), H', ⟨by have := HK1.out; omega⟩, ⟨vR_ HO726.out⟩, ⟨bIQx180_⟩, ⟨bK_⟩, ⟨bIQx181_⟩⟩
def spec_l13Draw.l0 : Nat → List (S28) → Int → List Int → Int → Int → Option ((List (S28)) × Int × Int)
 | 0, _, _, _, _, _ => none
 | k + 1, x3, x4, x1000, x1001, x1002 => if x4 > 0 then ((spec_l13Lock.f k x1000 x1001 x1002).bind fun bt733 => ((spec_AddLock.f k x3 bt733.1 bt733.2.1 bt733.2.2.1 bt733.2.2.2.1 bt733.2.2.2.2.1).bind fun bt742 => (spec_l13Draw.l0 k bt742.1 (wrap64 (x4 - 1)) x1000 bt733.2.2.2.2.2.1 bt733.2.2.2.2.2.2))) else (some (x3, x1001, x1002))
def spec_l13Draw.f (k : Nat) (s0_0 : List Int) (s0_1 : Int) (s0_2 : Int) : Option ((List (S28)) × Int × Int) := (spec_l1Below.f s0_0 s0_1 s0_2 6).bind fun bt730 => (spec_l13Draw.l0 k (([] : List (S28))) bt730.1 s0_0 bt730.2.1 bt730.2.2)
set_option maxHeartbeats 8000000 in
set_option maxRecDepth 100000 in
theorem spec_l13Draw.calls (k : Nat) (g : Nat) (s0_0 : List Int) (s0_1 : Int) (s0_2 : Int) (r1 : List (S28)) (r2 : Int) (r3 : Int) (w0 w : World) (hI : IsS93 w0 w g s0_0 s0_1 s0_2) (hB : Below w0.heap.size w0 w) (h : spec_l13Draw.f k s0_0 s0_1 s0_2 = some (r1, r2, r3)) :
 Calls Try.prog 91 #[.pointer (some ⟨g, 0, none⟩)] w fun e w' => ∃ v0_ : Value, e = .returned (v0_) ∧ Kd.S k28 28 w' w.heap.size (fun _ => True) v0_ r1 ∧ IsS93 w0 w' g s0_0 r2 r3 ∧ Below w0.heap.size w0 w' ∧ KeepBut w w' g none := by
 have HI0 := Aside0.mk hI
 have HK := A_ (KeepBut.refl w g none)
 have HL := Aside0.mk hB.size
 clear hI
 have HW0 := Aside0.mk hB.size
 have HB := Aside0.mk hB
 clear hB
 have H : ((spec_l1Below.f s0_0 s0_1 s0_2 6).bind fun bt730 => (spec_l13Draw.l0 k (([] : List (S28))) bt730.1 s0_0 bt730.2.1 bt730.2.2)) = some (r1, r2, r3) := h
 clear h
 obtain ⟨y727, hy727⟩ : ∃ y_ : List (S28), y_ = (([] : List (S28))) := ⟨_, rfl⟩
 replace H : ((spec_l1Below.f s0_0 s0_1 s0_2 6).bind fun bt730 => (spec_l13Draw.l0 k y727 bt730.1 s0_0 bt730.2.1 bt730.2.2)) = some (r1, r2, r3) := hy_ hy727 H
 have Ny727 := Aside0.mk hy727
 clear hy727
 obtain ⟨⟨t730, t731, t732⟩, A2, H⟩ := bo_ H
 (try dsimp only at H)
 have H' := Aside0.mk H
 clear H
 go_enter Try.func91, Try.ntmps91
 go_wp2_with (first | ((with_reducible refine gate_dst (N := 5) rfl ?_); refine Kd.S_lit k28 _ 28 ?hg (N := 5) ?hd (xs := ([] : List (S28))) (inner := []) (ok := fun _ => True) (okp := fun _ => True) ?hr ?hp (fun _ hk => hk) trivial (Below.refl _ _) (Nat.le_refl _) (by simp) ?_; (case hd => rfl); (case hg => rfl); (case hr => first | (go_simp; done) | (go_simp; rfl)); (case hp => exact (Reps.none _ _)); intro v728 w3 ho4 hb hg_ hnew_; clear hg_ hnew_; (first | rw [← Ny727.out] at ho4 | (simp only [Int.reduceToNat] at ho4; rw [← Ny727.out] at ho4)); have HO729 := A_ (Kd.S_lower ho4 (keep_size (w := w) (g := g) (row := none) bK_)); replace HK := A_ (KeepBut.trans bK_ (KeepBut.of_below hb g none) (.inl rfl)); replace HB := A_ (below_step bIQx181_ hb); replace HI0 := A_ (IsS93.below bIQx180_ hb); clear hb ho4) | ((with_reducible refine gate_callee (f := 83) rfl ?_); refine gL_ (some 7) Try.func83 #[.pointer (some ⟨g, 0, none⟩), .int .i64 6] ?_; (with_reducible refine (spec_l1Below.calls g s0_0 s0_1 s0_2 6 t730 t731 t732 w0 _ ?s1 ?s2 A2.out).mono ?_); (case s1 => exact bIQx180_); (case s2 => exact bIQx181_); rintro e w5 ⟨rfl, hi, hb, hk⟩; refine ⟨_, rfl, ?_⟩; replace HO729 := A_ (Kd.S_mono (Kd.S_keep (IsS93.apartS (show IsS93 w0 _ g s0_0 s0_1 s0_2 from bIQx180_) (vS_ HO729.out) (by decide)) hk (fun _ h => h.2)) (fun _ h => h.1)); replace HK := A_ (KeepBut.trans bK_ hk (.inl rfl)); replace HB := A_ (hb); replace HI0 := A_ (hi); (try clear hb); (try clear hk); (try clear hi)))
 go_loopg [3, 4] k (fun kq v3 v4 w' => ∃ (x3_1 : List (S28)) (x4_1 : Int) (x1001_1 : Int) (x1002_1 : Int), v4 = .int .i64 x4_1 ∧ Aside0 (spec_l13Draw.l0 kq x3_1 x4_1 s0_0 x1001_1 x1002_1 = some (r1, r2, r3)) ∧ Aside0 (kq ≤ k) ∧ Aside0 (Kd.S k28 28 w' w.heap.size (fun _ => True) v3 x3_1) ∧ Aside0 (IsS93 w0 w' g s0_0 x1001_1 x1002_1) ∧ Aside0 (KeepBut w w' g none) ∧ Aside0 (Below w0.heap.size w0 w'))
 case atStart => exact ⟨(y727), (t730), (t731), (t732), rs_, H', ⟨Nat.le_refl _⟩, ⟨vS_ HO729.out⟩, ⟨bIQx180_⟩, ⟨bK_⟩, ⟨bIQx181_⟩⟩
 case round =>
  clear H'
  try clear p2
  obtain ⟨x3_1, x4_1, x1001_1, x1002_1, rfl, HA, HK1, HO_3, HI0, HK, HB⟩ := hrel
  cases gk with
  | zero => exact absurd HA.out (by simp [spec_l13Draw.l0])
  | succ k1 =>
   have H := HA.out
   clear HA
   simp only [spec_l13Draw.l0] at H
   by_cases c6 : x4_1 > 0
   rotate_left
   · rw [if_neg c6] at H
     have c6b0 : decide (0 < x4_1) = false := decide_eq_false c6
     clear c6
     simp only [Option.some.injEq, Prod.mk.injEq] at H
     obtain ⟨rfl, rfl, rfl⟩ := H
     go_wp2
     go_ret
     exact ⟨_, rr_, by (with_reducible repeat (first | apply Kd.S_alloc | apply Kd.S_drewN | apply Kd.S_drew)); exact HO_3.out, bIQx180_, bIQx181_, bK_⟩
   rw [if_pos c6] at H
   have c6b0 : decide (0 < x4_1) = true := decide_eq_true c6
   clear c6
   obtain ⟨⟨t733, t734, t737, t738, t739, t740, t741⟩, A7, H⟩ := bo_ H
   (try dsimp only at H)
   obtain ⟨⟨t742, t745⟩, A8, H⟩ := bo_ H
   (try dsimp only at H)
   have H' := Aside0.mk H
   clear H
   go_wp2_with (first | ((with_reducible refine gate_callee (f := 81) rfl ?_); refine gL_ (some 15) Try.func81 #[.pointer (some ⟨g, 0, none⟩)] ?_; (with_reducible refine (spec_l13Lock.calls k1 g s0_0 x1001_1 x1002_1 t733 t734 t737 t738 t739 t740 t741 w0 _ ?s1 ?s2 A7.out).mono ?_); (case s1 => exact bIQx180_); (case s2 => exact bIQx181_); rintro e w9 ⟨v735, rfl, ho0, hi, hb, hk⟩; refine ⟨_, rfl, ?_⟩; replace HO_3 := A_ (Kd.S_mono (Kd.S_told (Kd.S_oldK (IsS93.apartS (show IsS93 w0 _ g s0_0 x1001_1 x1002_1 from bIQx180_) (vS_ HO_3.out) (by decide)) hk) (kb_ ho0)) (fun _ h_ => h_.1)); have HO736 := A_ (Kd.R_lower ho0 (keep_size (w := w) (g := g) (row := none) bK_)); replace HK := A_ (KeepBut.trans bK_ hk (.inl rfl)); replace HB := A_ (hb); replace HI0 := A_ (hi); (try clear hb); (try clear hk); (try clear hi); (try clear ho0); obtain ⟨Ao10, co10, eo10⟩ := Kd.S_slice HO_3.out; subst eo10; obtain ⟨Ao11, co11, eo11⟩ := Kd.R_slice HO736.out; subst eo11) | ((with_reducible refine gate_callee (f := 47) rfl ?_); refine gL_ (some 16) Try.func47 #[.slice Ao10 x3_1.length co10, .agg #[.int .i64 t733, .slice Ao11 t734.length co11, .bool t737, .bool t738, .int .i64 t739]] ?_; (with_reducible refine (spec_AddLock.calls k1 (fun k_ => ((True ∧ some k_ ≠ (.slice Ao11 t734.length co11 : Value).ownBlock) ∧ k_ ≠ g)) _ _ x3_1 t733 (fun k_ => some k_ = (.slice Ao11 t734.length co11 : Value).ownBlock) _ _ t734 t737 t738 t739 t742 t745 _ ?s1 ?s2 A8.out).mono ?_); (case s1 => exact Kd.S_V (IsS93.apartS HI0.out (HO_3.out) (by decide))); (case s2 => exact Kd.R_V (Kd.R_tight rfl (IsS93.apart HI0.out (Kd.R_apart' (HO736.out) (Kd.S_typed HO_3.out) (by decide)) (by decide)))); rintro e w12 ⟨v743, rfl, ho0, hb⟩; refine ⟨_, rfl, ?_⟩; have HO744 := A_ (Kd.S_lower (Kd.S_new' (Kd.S_new' (Kd.S_mono (ok' := fun k_ => True) ho0 (fun _ hk_ => trivial)) (Kd.S_lt (vS_ HO_3.out))) (Kd.R_lt (vR_ HO736.out))) (keep_size (w := w) (g := g) (row := none) bK_)); replace HO_3 := A_ (Kd.S_elder' (vS_ HO_3.out) (kb_ ho0) hb); replace HO736 := A_ (Kd.R_below (vR_ HO736.out) hb); replace HK := A_ (KeepBut.trans bK_ (KeepBut.of_below hb g none) (.inl rfl)); replace HB := A_ (below_step bIQx181_ hb); replace HI0 := A_ (IsS93.below bIQx180_ hb); (try clear hb); (try clear hk); (try clear hi); (try clear ho0)))
   go_roundg k1
   case measure => have := HK1.out; omega
   case rel => exact ⟨(t742), (wrap64 (x4_1 - 1)), (t740), (t741), rs_, H', ⟨by have := HK1.out; omega⟩, ⟨by (with_reducible repeat (first | apply Kd.S_alloc | apply Kd.S_drewN | apply Kd.S_drew)); exact Kd.S_mono HO744.out (fun _ hk => trivial)⟩, ⟨bIQx180_⟩, ⟨bK_⟩, ⟨bIQx181_⟩⟩
end Go.Proofs.Ytiddgglidkbipaa.Q
