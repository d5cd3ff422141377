import Derived.Test.YtbgggcgjijljkaaVFnCopiedG27
set_option maxHeartbeats 8000000
set_option maxRecDepth 100000
namespace Go.Proofs.Ytbgggcgjijljkaa.Q
open Go.RowKit Go.Proofs.YtbgggcgjijljkaaW.PrintWords Go.Proofs.YtbgggcgjijljkaaW.PrintLast Go.Proofs.YtbgggcgjijljkaaW.PrintMore
attribute [local go_sem] max2_int min2_int max_two min_two max_three min_three max_four min_four
set_option linter.unusedVariables false
set_option linter.unusedSimpArgs false
theorem bIQx280_ {P : Prop} (h : P := by repeat (first | (with_reducible first | exact HB.out | apply below_alloc | apply pw_below_drewN | apply below_drew1 | refine below_set ?_ (IsS116.ge HI0.out)) | exact HB.out)) : P := h
theorem bIQx281_ {P : Prop} (h : P := by repeat (first | (with_reducible first | exact HI0.out | apply IsS116.alloc | apply IsS116.drewN | apply IsS116.drew | apply IsS116.set_1 | apply IsS116.set_2) | exact HI0.out)) : P := h
def impl_CopyTree.j0 : Nat -> List (S57) -> List (S57) -> Int -> Bool -> Option ((List (S57)) × Int)
 | 0, _, _, _, _ => none
 | k + 1, x0, x13, x14, x41 => if x41 = true then (if 507 >= 400 then ((impl_copyTree.f k x0).bind fun t1017 => (some (t1017, 507))) else (some (x13, 507))) else (if x14 >= 400 then ((impl_copyTree.f k x0).bind fun t1020 => (some (t1020, x14))) else (some (x13, x14)))
def impl_CopyTree.f (k : Nat) (l0 : List (S57)) (l1 : List ByteArray) (l2 : List ByteArray) (a3 : Bool) (a4 : Int) : Option ((List (S57)) × Int) := (impl_opForm.f k l0 a4 (([l1, l2] : List (List ByteArray)))).bind fun t1009 => (if t1009 = 0 then ((impl_copied.f k l0 l1 l2 a3 a4).bind fun bt1013 => (if bt1013.2 < 400 then (impl_CopyTree.j0 k l0 bt1013.1 bt1013.2 (decide ((bt1013.1.length : Int) > 12))) else (impl_CopyTree.j0 k l0 bt1013.1 bt1013.2 false))) else ((impl_copyTree.f k l0).bind fun t1010 => (some (t1010, t1009))))
def impl_MoveTree.f (k : Nat) (l0 : List (S57)) (l1 : List ByteArray) (l2 : List ByteArray) (a3 : Bool) (a4 : Int) : Option ((List (S57)) × Int) := (impl_opForm.f k l0 a4 (([l1, l2] : List (List ByteArray)))).bind fun t1038 => (if t1038 = 0 then ((impl_copied.f k l0 l1 l2 a3 a4).bind fun bt1042 => (if bt1042.2 >= 400 then ((impl_copyTree.f k l0).bind fun t1046 => (some (t1046, bt1042.2))) else ((impl_without.f k bt1042.1 l1).bind fun t1049 => (if (t1049.length : Int) > 12 then ((impl_copyTree.f k l0).bind fun t1052 => (some (t1052, 507))) else (some (t1049, bt1042.2)))))) else ((impl_copyTree.f k l0).bind fun t1039 => (some (t1039, t1038))))
def laws_big.f (l0 : List Int) : Option (Bool) := some (decide ((l0.length : Int) > 1048576))
theorem laws_big.calls (A0 : Option Addr) (c0 : Nat) (l0 : List Int) (r : Bool) (w : World) (hr0 : Kd.C (Kd.int .u8) w A0 l0.length l0) (hc0 : l0.length <= c0) (h : laws_big.f l0 = some r) :
 Calls Try.prog 38 #[.slice A0 l0.length c0] w fun e w' => e = .returned (.bool r) /\ Drawn0 w w' := by
 clear hr0 hc0
 have H : (some (decide ((l0.length : Int) > 1048576))) = some r := h
 clear h
 obtain rfl := si_ H
 go_enter Try.func38, Try.ntmps38
 go_wp2
 go_ret
 exact ⟨rs_, dr_⟩
def IsS116 (w0 W : World) (g : Nat) (f0 : List Int) (f1 : Int) (f2 : Int) : Prop := ∃ A0 c0, W.heap[g]? = some (.cells #[.slice A0 f0.length c0, .int .i64 f1, .int .i64 f2] 116 (0, 0)) /\ w0.heap.size <= g /\ Kd.C (Kd.int .u8) w0 A0 f0.length f0
theorem IsS116.grown {w0 W : World} {g : Nat} {f0 : List Int} {f1 : Int} {f2 : Int} {W1 : World} {row : Option Nat} (h : IsS116 w0 W g f0 f1 f2) (hw : W.grownBy W1 row) (hne : some g ≠ row) : IsS116 w0 W1 g f0 f1 f2 := by
 obtain ⟨A0, c0, hb, hg, hr0⟩ := h
 exact ⟨A0, c0, blk_grown hb hw hne, hg, hr0⟩
theorem IsS116.kept {w0 W : World} {g : Nat} {f0 : List Int} {f1 : Int} {f2 : Int} {W1 : World} {S : Nat -> Prop} (h : IsS116 w0 W g f0 f1 f2) (hk : Kept W W1 S) (hne : ¬ S g) : IsS116 w0 W1 g f0 f1 f2 := by
 obtain ⟨A0, c0, hb, hg, hr0⟩ := h
 exact ⟨A0, c0, blk_kept hb hk hne, hg, hr0⟩
theorem IsS116.below {w0 W : World} {g : Nat} {f0 : List Int} {f1 : Int} {f2 : Int} {W1 : World} (h : IsS116 w0 W g f0 f1 f2) (hw : Below W.heap.size W W1) : IsS116 w0 W1 g f0 f1 f2 := h.grown (grown_of_below hw none) (by simp)
theorem IsS116.alloc {w0 W : World} {g : Nat} {f0 : List Int} {f1 : Int} {f2 : Int} (h : IsS116 w0 W g f0 f1 f2) (o : Obj) : IsS116 w0 (W.alloc o) g f0 f1 f2 := h.below (below_alloc (Below.refl _ _) o)
theorem IsS116.drewN {w0 W : World} {g : Nat} {f0 : List Int} {f1 : Int} {f2 : Int} (h : IsS116 w0 W g f0 f1 f2) (m : Nat) : IsS116 w0 (W.drewN m) g f0 f1 f2 := h
theorem IsS116.drew {w0 W : World} {g : Nat} {f0 : List Int} {f1 : Int} {f2 : Int} (h : IsS116 w0 W g f0 f1 f2) : IsS116 w0 W.drew g f0 f1 f2 := h
theorem IsS116.apart {w0 W : World} {g : Nat} {f0 : List Int} {f1 : Int} {f2 : Int} {α : Type} {d : Kd α} {e : Nat} {base : Nat} {ok : Nat -> Prop} {v : Value} {xs : List α} (h : IsS116 w0 W g f0 f1 f2) (ho : d.R e W base ok v xs) (ht : ∀ q, q ∈ e :: d.E -> q ≠ 116) : d.R e W base (fun k => ok k /\ k ≠ g) v xs := by
 obtain ⟨A0, c0, hb, hg, hr0⟩ := h
 exact Kd.R_types ho hb ht
theorem IsS116.own_ne {w0 W : World} {g : Nat} {f0 : List Int} {f1 : Int} {f2 : Int} {α : Type} {d : Kd α} {e : Nat} {base : Nat} {ok : Nat -> Prop} {v : Value} {xs : List α} (h : IsS116 w0 W g f0 f1 f2) (ho : d.R e W base ok v xs) (ht : e ≠ 116) : some g ≠ v.ownBlock := by
 obtain ⟨A0, c0, hb, hg, hr0⟩ := h
 exact Kd.R_ne ho hb ht
theorem IsS116.apartS {w0 W : World} {g : Nat} {f0 : List Int} {f1 : Int} {f2 : Int} {α : Type} {d : Kd α} {e : Nat} {base : Nat} {ok : Nat -> Prop} {v : Value} {xs : List α} (h : IsS116 w0 W g f0 f1 f2) (ho : d.S e W base ok v xs) (ht : ∀ q, q ∈ e :: d.E -> q ≠ 116) : d.S e W base (fun k => ok k /\ k ≠ g) v xs := by
 obtain ⟨A0, c0, hb, hg, hr0⟩ := h
 exact Kd.S_types ho hb ht
theorem IsS116.own_neS {w0 W : World} {g : Nat} {f0 : List Int} {f1 : Int} {f2 : Int} {α : Type} {d : Kd α} {e : Nat} {base : Nat} {ok : Nat -> Prop} {v : Value} {xs : List α} (h : IsS116 w0 W g f0 f1 f2) (ho : d.S e W base ok v xs) (ht : e ≠ 116) : some g ≠ v.ownBlock := by
 obtain ⟨A0, c0, hb, hg, hr0⟩ := h
 exact Kd.S_ne ho hb ht
theorem IsS116.lt {w0 W : World} {g : Nat} {f0 : List Int} {f1 : Int} {f2 : Int} (h : IsS116 w0 W g f0 f1 f2) : g < W.heap.size := by
 obtain ⟨A0, c0, hb, hg, hr0⟩ := h
 exact blk_lt hb
theorem IsS116.ge {w0 W : World} {g : Nat} {f0 : List Int} {f1 : Int} {f2 : Int} (h : IsS116 w0 W g f0 f1 f2) : w0.heap.size <= g := by
 obtain ⟨A0, c0, hb, hg, hr0⟩ := h
 exact hg
theorem IsS116.far {w0 W : World} {g : Nat} {f0 : List Int} {f1 : Int} {f2 : Int} {p : Addr} (h : IsS116 w0 W g f0 f1 f2) (hne : g ≠ p.block) (u : Value) : IsS116 w0 (W.setCell p u) g f0 f1 f2 := by
 obtain ⟨A0, c0, hb, hg, hr0⟩ := h
 exact ⟨A0, c0, blk_far hb hne u, hg, hr0⟩
theorem cellS116_0 {W : World} {g : Nat} {A0 : Option Addr} {c0 : Nat} {f0 : List Int} {f1 : Int} {f2 : Int} (h : W.heap[g]? = some (.cells #[.slice A0 f0.length c0, .int .i64 f1, .int .i64 f2] 116 (0, 0))) : W.cell? ⟨g, 0, none⟩ = some (.slice A0 f0.length c0) := (blk_cell h 0).trans rfl
theorem cellS116_1 {W : World} {g : Nat} {A0 : Option Addr} {c0 : Nat} {f0 : List Int} {f1 : Int} {f2 : Int} (h : W.heap[g]? = some (.cells #[.slice A0 f0.length c0, .int .i64 f1, .int .i64 f2] 116 (0, 0))) : W.cell? ⟨g, 1, none⟩ = some (.int .i64 f1) := (blk_cell h 1).trans rfl
theorem IsS116.set_1 {w0 W : World} {g : Nat} {f0 : List Int} {f1 : Int} {f2 : Int} (h : IsS116 w0 W g f0 f1 f2) (x : Int) : IsS116 w0 (W.setCell ⟨g, 1, none⟩ (.int .i64 x)) g f0 x f2 := by
 obtain ⟨A0, c0, hb, hg, hr0⟩ := h
 exact ⟨A0, c0, by simpa using blk_set hb 1 (.int .i64 x), hg, hr0⟩
theorem cellS116_2 {W : World} {g : Nat} {A0 : Option Addr} {c0 : Nat} {f0 : List Int} {f1 : Int} {f2 : Int} (h : W.heap[g]? = some (.cells #[.slice A0 f0.length c0, .int .i64 f1, .int .i64 f2] 116 (0, 0))) : W.cell? ⟨g, 2, none⟩ = some (.int .i64 f2) := (blk_cell h 2).trans rfl
theorem IsS116.set_2 {w0 W : World} {g : Nat} {f0 : List Int} {f1 : Int} {f2 : Int} (h : IsS116 w0 W g f0 f1 f2) (x : Int) : IsS116 w0 (W.setCell ⟨g, 2, none⟩ (.int .i64 x)) g f0 f1 x := by
 obtain ⟨A0, c0, hb, hg, hr0⟩ := h
 exact ⟨A0, c0, by simpa using blk_set hb 2 (.int .i64 x), hg, hr0⟩
def spec_l1New.l0 : Nat -> List Int -> Int -> Int -> Option (List Int × Int × Int)
 | 0, _, _, _ => none
 | k + 1, x0, x3, x4 => if x4 < (x0.length : Int) then (if x4 < 4000 then (if 0 <= x4 then (spec_l1New.l0 k x0 (Go.bits .and .i64 (wrap64 ((wrap64 ((wrap64 (x3 * 137)) + (wrap64 (rd x0 x4)))) + 11)) 1073741823) (wrap64 (x4 + 1))) else (none)) else (some (x0, 0, x3))) else (some (x0, 0, x3))
def spec_l1New.f (k : Nat) (l0 : List Int) : Option (List Int × Int × Int) := spec_l1New.l0 k l0 (wrap64 (774774 + (l0.length : Int))) 0
theorem spec_l1New.calls (k : Nat) (A0 : Option Addr) (c0 : Nat) (l0 : List Int) (r1 : List Int) (r2 : Int) (r3 : Int) (w0 w : World) (hB : Below w0.heap.size w0 w) (hr0 : Kd.C (Kd.int .u8) w0 A0 l0.length l0) (hc0 : l0.length <= c0) (h : spec_l1New.f k l0 = some (r1, r2, r3)) :
 Calls Try.prog 84 #[.slice A0 l0.length c0] w fun e w' => ∃ g_ : Nat, e = .returned (.pointer (some ⟨g_, 0, none⟩)) /\ IsS116 w0 w' g_ r1 r2 r3 /\ Below w0.heap.size w0 w' /\ Below w.heap.size w w' := by
 have hu10 := Try.underlying116
 have HR0 := A_ hr0
 clear hr0 hc0
 have HBW := A_ (Below.refl w.heap.size w)
 have HW0 := A_ hB.size
 have HB := A_ hB
 clear hB
 have H : (spec_l1New.l0 k l0 (wrap64 (774774 + (l0.length : Int))) 0) = some (r1, r2, r3) := h
 clear h
 have H' := A_ H
 clear H
 go_enter Try.func84, Try.ntmps84
 go_wp2
 go_loopg [3, 4] k (fun kq v3 v4 w' => ∃ (x3_1 : Int) (x4_1 : Int), v3 = .int .i64 x3_1 /\ v4 = .int .i64 x4_1 /\ Aside0 (spec_l1New.l0 kq l0 x3_1 x4_1 = some (r1, r2, r3)) /\ Aside0 (kq <= k) /\ Aside0 (Below w0.heap.size w0 w') /\ Aside0 (Below w.heap.size w w'))
 case atStart => exact ⟨(wrap64 (774774 + (l0.length : Int))), (0), rs_, rs_, H', ⟨Nat.le_refl _⟩, ⟨bB_⟩, ⟨by repeat (first | (with_reducible first | exact HBW.out | apply below_alloc | apply pw_below_drewN | apply below_drew1) | exact HBW.out)⟩⟩
 case round =>
  clear H'
  obtain ⟨x3_1, x4_1, rfl, rfl, HA, HK1, HB, HBW⟩ := hrel
  cases gk with
  | zero => exact absurd HA.out (by simp [spec_l1New.l0])
  | succ k1 =>
   have H := HA.out
   clear HA
   simp only [spec_l1New.l0] at H
   by_cases c2 : x4_1 < (l0.length : Int)
   rotate_left
   . rw [if_neg c2] at H
     have c2b0 := decide_eq_false c2
     clear c2
     simp only [Option.some.injEq, Prod.mk.injEq] at H
     obtain ⟨rfl, rfl, rfl⟩ := H
     go_wp2_with (first | ((with_reducible refine gd_ (N := 31) rfl ?_); refine bx_ (N := 31) (cs := #[.slice A0 l0.length c0, .int .i64 0, .int .i64 x3_1]) (t := 116) ?_; intro gb8 hg w6 hbox hb; replace HB := A_ (below_step bB_ hb); have BK8 := A_ (hbox); have GW8 := A_ ((by rw [hg]; exact (below_size (by repeat (first | (with_reducible first | exact HBW.out | apply below_alloc | apply pw_below_drewN | apply below_drew1) | exact HBW.out))) : w.heap.size <= gb8)); have GE8 := A_ ((Nat.le_trans HW0.out (by rw [hg]; exact (below_size (by repeat (first | (with_reducible first | exact HBW.out | apply below_alloc | apply pw_below_drewN | apply below_drew1) | exact HBW.out))) : w.heap.size <= gb8) : w0.heap.size <= gb8)); replace HBW := A_ (below_step HBW.out hb); clear hb hbox hg))
     go_ret
     exact ⟨_, rfl, (show IsS116 w0 _ gb8 l0 0 x3_1 from ⟨_, _, by (with_reducible repeat (first | refine blk_drewN ?_ _ | refine blk_drew ?_ | refine blk_alloc ?_ _)); exact BK8.out, GE8.out, HR0.out⟩), bG_ GE8.out, by repeat (first | (with_reducible first | exact HBW.out | apply below_alloc | apply pw_below_drewN | apply below_drew1 | refine below_set ?_ GW8.out) | exact HBW.out)⟩
   rw [if_pos c2] at H
   have c2b0 := decide_eq_true c2
   clear c2
   by_cases c3 : x4_1 < 4000
   . rw [if_pos c3] at H
     have c3b0 := decide_eq_true c3
     clear c3
     by_cases c4 : 0 <= x4_1
     rotate_left
     . exact absurd H (by rw [if_neg c4]; simp)
     rw [if_pos c4] at H
     have c4b0 := decide_eq_true c4
     clear c4
     have H' := A_ H
     clear H
     have p7 : 0 <= (x4_1 : Int) := od_
     have q7 : x4_1 < (l0.length : Int) := od_
     obtain ⟨ad7, e7, hx7_0⟩ := Kd.at_int HR0.out x4_1 p7 q7
     cases e7
     replace hx7_0 := pw_cell_below HB.out hx7_0
     replace p7 := eq_true p7
     replace q7 := eq_true q7
     go_wp2
     go_roundg k1
     case measure => have := HK1.out; omega
     case rel => exact ⟨(Go.bits .and .i64 (wrap64 ((wrap64 ((wrap64 (x3_1 * 137)) + (wrap64 (rd l0 x4_1)))) + 11)) 1073741823), (wrap64 (x4_1 + 1)), rs_, rs_, H', ⟨by have := HK1.out; omega⟩, ⟨bB_⟩, ⟨by repeat (first | (with_reducible first | exact HBW.out | apply below_alloc | apply pw_below_drewN | apply below_drew1) | exact HBW.out)⟩⟩
   rw [if_neg c3] at H
   have c3b0 := decide_eq_false c3
   clear c3
   simp only [Option.some.injEq, Prod.mk.injEq] at H
   obtain ⟨rfl, rfl, rfl⟩ := H
   go_wp2_with (first | ((with_reducible refine gd_ (N := 31) rfl ?_); refine bx_ (N := 31) (cs := #[.slice A0 l0.length c0, .int .i64 0, .int .i64 x3_1]) (t := 116) ?_; intro gb9 hg w5 hbox hb; replace HB := A_ (below_step bB_ hb); have BK9 := A_ (hbox); have GW9 := A_ ((by rw [hg]; exact (below_size (by repeat (first | (with_reducible first | exact HBW.out | apply below_alloc | apply pw_below_drewN | apply below_drew1) | exact HBW.out))) : w.heap.size <= gb9)); have GE9 := A_ ((Nat.le_trans HW0.out (by rw [hg]; exact (below_size (by repeat (first | (with_reducible first | exact HBW.out | apply below_alloc | apply pw_below_drewN | apply below_drew1) | exact HBW.out))) : w.heap.size <= gb9) : w0.heap.size <= gb9)); replace HBW := A_ (below_step HBW.out hb); clear hb hbox hg))
   go_ret
   exact ⟨_, rfl, (show IsS116 w0 _ gb9 l0 0 x3_1 from ⟨_, _, by (with_reducible repeat (first | refine blk_drewN ?_ _ | refine blk_drew ?_ | refine blk_alloc ?_ _)); exact BK9.out, GE9.out, HR0.out⟩), bG_ GE9.out, by repeat (first | (with_reducible first | exact HBW.out | apply below_alloc | apply pw_below_drewN | apply below_drew1 | refine below_set ?_ GW9.out) | exact HBW.out)⟩
def spec_l1Byte.f (s0_0 : List Int) (s0_1 : Int) (s0_2 : Int) : Option (Int × Int × Int) := if s0_1 < (s0_0.length : Int) then (if 0 <= s0_1 then (some (Go.bits .and .i64 (wrap64 ((Go.bits .and .i64 (Go.bits .xor .i64 ((wrap64 ((wrap64 (s0_2 * 6364136223846793005)) + 1442695040888963407)) / 8589934592) ((wrap64 ((wrap64 (s0_2 * 6364136223846793005)) + 1442695040888963407)) / 140737488355328)) 255) + (wrap64 (rd s0_0 s0_1)))) 255, wrap64 (s0_1 + 1), wrap64 ((wrap64 (s0_2 * 6364136223846793005)) + 1442695040888963407))) else (none)) else (some (Go.bits .and .i64 (Go.bits .xor .i64 ((wrap64 ((wrap64 (s0_2 * 6364136223846793005)) + 1442695040888963407)) / 8589934592) ((wrap64 ((wrap64 (s0_2 * 6364136223846793005)) + 1442695040888963407)) / 140737488355328)) 255, s0_1, wrap64 ((wrap64 (s0_2 * 6364136223846793005)) + 1442695040888963407)))
theorem spec_l1Byte.calls (g : Nat) (s0_0 : List Int) (s0_1 : Int) (s0_2 : Int) (r1 : Int) (r2 : Int) (r3 : Int) (w0 w : World) (hI : IsS116 w0 w g s0_0 s0_1 s0_2) (hB : Below w0.heap.size w0 w) (h : spec_l1Byte.f s0_0 s0_1 s0_2 = some (r1, r2, r3)) :
 Calls Try.prog 131 #[.pointer (some ⟨g, 0, none⟩)] w fun e w' => e = .returned (.int .i64 r1) /\ IsS116 w0 w' g s0_0 r2 r3 /\ Below w0.heap.size w0 w' /\ KeepBut w w' g none := by
 have HI0 := A_ hI
 have HK := A_ (KeepBut.refl w g none)
 have HL := A_ hB.size
 clear hI
 have HW0 := A_ hB.size
 have HB := A_ hB
 clear hB
 have H : (if s0_1 < (s0_0.length : Int) then (if 0 <= s0_1 then (some (Go.bits .and .i64 (wrap64 ((Go.bits .and .i64 (Go.bits .xor .i64 ((wrap64 ((wrap64 (s0_2 * 6364136223846793005)) + 1442695040888963407)) / 8589934592) ((wrap64 ((wrap64 (s0_2 * 6364136223846793005)) + 1442695040888963407)) / 140737488355328)) 255) + (wrap64 (rd s0_0 s0_1)))) 255, wrap64 (s0_1 + 1), wrap64 ((wrap64 (s0_2 * 6364136223846793005)) + 1442695040888963407))) else (none)) else (some (Go.bits .and .i64 (Go.bits .xor .i64 ((wrap64 ((wrap64 (s0_2 * 6364136223846793005)) + 1442695040888963407)) / 8589934592) ((wrap64 ((wrap64 (s0_2 * 6364136223846793005)) + 1442695040888963407)) / 140737488355328)) 255, s0_1, wrap64 ((wrap64 (s0_2 * 6364136223846793005)) + 1442695040888963407)))) = some (r1, r2, r3) := h
 clear h
 by_cases c2 : s0_1 < (s0_0.length : Int)
 rotate_left
 . rw [if_neg c2] at H
   have c2b0 := decide_eq_false c2
   clear c2
   simp only [Option.some.injEq, Prod.mk.injEq] at H
   obtain ⟨rfl, rfl, rfl⟩ := H
   obtain ⟨ASz5_0, cSz5_0, HGz5, hgz5, HSz5_0⟩ := HI0.out
   have hcz5_0 := cellS116_0 HGz5
   have hcz5_1 := cellS116_1 HGz5
   have hcz5_2 := cellS116_2 HGz5
   have hfz5_1 := blk_frozen HGz5 1
   have hfz5_2 := blk_frozen HGz5 2
   clear HGz5 hgz5
   go_enter Try.func131, Try.ntmps131
   go_wp2
   repeat (go_quiet (fail); try go_wp2)
   go_ret
   exact ⟨rr_, bIQx281_, bIQx280_, bK_⟩
 rw [if_pos c2] at H
 have c2b0 := decide_eq_true c2
 clear c2
 by_cases c3 : 0 <= s0_1
 rotate_left
 . exact absurd H (by rw [if_neg c3]; simp)
 rw [if_pos c3] at H
 have c3b0 := decide_eq_true c3
 clear c3
 simp only [Option.some.injEq, Prod.mk.injEq] at H
 obtain ⟨rfl, rfl, rfl⟩ := H
 obtain ⟨ASz4_0, cSz4_0, HGz4, hgz4, HSz4_0⟩ := HI0.out
 have hcz4_0 := cellS116_0 HGz4
 have hcz4_1 := cellS116_1 HGz4
 have hcz4_2 := cellS116_2 HGz4
 have hfz4_1 := blk_frozen HGz4 1
 have hfz4_2 := blk_frozen HGz4 2
 clear HGz4 hgz4
 have p6 : 0 <= (s0_1 : Int) := od_
 have q6 : s0_1 < (s0_0.length : Int) := od_
 obtain ⟨ad6, e6, hx6_0⟩ := Kd.at_int HSz4_0 s0_1 p6 q6
 cases e6
 have hn6_0 : ad6.block ≠ g := Nat.ne_of_lt (Nat.lt_of_lt_of_le (by have := World.block_lt_of_cell? _ _ hx6_0; first | rwa [add_block] at this | exact this) (IsS116.ge HI0.out))
 replace hx6_0 := pw_cell_below HB.out hx6_0
 replace hx6_0 := (cell_far (p := ⟨g, 2, none⟩) (by first | (rw [add_block]; exact hn6_0) | (show (Addr.add _ _).block ≠ _; rw [add_block]; exact hn6_0) | exact hn6_0) (.int .i64 (wrap64 ((wrap64 (s0_2 * 6364136223846793005)) + 1442695040888963407)))).trans hx6_0
 (try have hy6_0 := fun (n_ : Nat) => (show (((w.drewN n_).setCell ⟨g, 2, none⟩ (.int .i64 (wrap64 ((wrap64 (s0_2 * 6364136223846793005)) + 1442695040888963407))))).cell? _ = some _ from hx6_0))
 clear hn6_0
 replace p6 := eq_true p6
 replace q6 := eq_true q6
 go_enter Try.func131, Try.ntmps131
 go_wp2
 repeat (go_quiet (fail); try go_wp2)
 go_ret
 exact ⟨rr_, bIQx281_, bIQx280_, bK_⟩
def spec_l1Below.f (s0_0 : List Int) (s0_1 : Int) (s0_2 : Int) (a1 : Int) : Option (Int × Int × Int) := if a1 <= 0 then (some (0, s0_1, s0_2)) else (if a1 <= 256 then ((spec_l1Byte.f s0_0 s0_1 s0_2).bind fun bt1071 => (if a1 = 0 then (none) else (some (Int.tmod bt1071.1 a1, bt1071.2.1, bt1071.2.2)))) else ((spec_l1Byte.f s0_0 s0_1 s0_2).bind fun bt1074 => ((spec_l1Byte.f s0_0 bt1074.2.1 bt1074.2.2).bind fun bt1077 => ((spec_l1Byte.f s0_0 bt1077.2.1 bt1077.2.2).bind fun bt1080 => (if a1 = 0 then (none) else (some (Int.tmod (wrap64 ((wrap64 ((wrap64 (bt1074.1 * 65536)) + (wrap64 (bt1077.1 * 256)))) + bt1080.1)) a1, bt1080.2.1, bt1080.2.2)))))))
theorem spec_l1Below.calls (g : Nat) (s0_0 : List Int) (s0_1 : Int) (s0_2 : Int) (a1 : Int) (r1 : Int) (r2 : Int) (r3 : Int) (w0 w : World) (hI : IsS116 w0 w g s0_0 s0_1 s0_2) (hB : Below w0.heap.size w0 w) (h : spec_l1Below.f s0_0 s0_1 s0_2 a1 = some (r1, r2, r3)) :
 Calls Try.prog 117 #[.pointer (some ⟨g, 0, none⟩), .int .i64 a1] w fun e w' => e = .returned (.int .i64 r1) /\ IsS116 w0 w' g s0_0 r2 r3 /\ Below w0.heap.size w0 w' /\ KeepBut w w' g none := by
 have HI0 := A_ hI
 have HK := A_ (KeepBut.refl w g none)
 have HL := A_ hB.size
 clear hI
 have HW0 := A_ hB.size
 have HB := A_ hB
 clear hB
 have H : (if a1 <= 0 then (some (0, s0_1, s0_2)) else (if a1 <= 256 then ((spec_l1Byte.f s0_0 s0_1 s0_2).bind fun bt15 => (if a1 = 0 then (none) else (some (Int.tmod bt15.1 a1, bt15.2.1, bt15.2.2)))) else ((spec_l1Byte.f s0_0 s0_1 s0_2).bind fun bt16 => ((spec_l1Byte.f s0_0 bt16.2.1 bt16.2.2).bind fun bt17 => ((spec_l1Byte.f s0_0 bt17.2.1 bt17.2.2).bind fun bt18 => (if a1 = 0 then (none) else (some (Int.tmod (wrap64 ((wrap64 ((wrap64 (bt16.1 * 65536)) + (wrap64 (bt17.1 * 256)))) + bt18.1)) a1, bt18.2.1, bt18.2.2)))))))) = some (r1, r2, r3) := h
 clear h
 by_cases c3 : a1 <= 0
 . rw [if_pos c3] at H
   have c3b0 := decide_eq_true c3
   clear c3
   simp only [Option.some.injEq, Prod.mk.injEq] at H
   obtain ⟨rfl, rfl, rfl⟩ := H
   go_enter Try.func117, Try.ntmps117
   go_wp2
   go_ret
   exact ⟨rr_, bIQx281_, bIQx280_, bK_⟩
 rw [if_neg c3] at H
 have c3b0 := decide_eq_false c3
 clear c3
 by_cases c4 : a1 <= 256
 . rw [if_pos c4] at H
   have c4b0 := decide_eq_true c4
   clear c4
   obtain ⟨⟨t15, t23, t24⟩, A5, H⟩ := bo_ H
   (try dsimp only at H)
   by_cases c6 : a1 = 0
   . rw [if_pos c6] at H
     exact absurd H (by simp)
   rw [if_neg c6] at H
   obtain ⟨c6b0, c6b1⟩ := eF_ c6
   simp only [Option.some.injEq, Prod.mk.injEq] at H
   obtain ⟨rfl, rfl, rfl⟩ := H
   go_enter Try.func117, Try.ntmps117
   go_wp2_with (first | ((with_reducible refine gc_ (f := 131) rfl ?_); refine gL_ (some 13) Try.func131 #[.pointer (some ⟨g, 0, none⟩)] ?_; (with_reducible refine (spec_l1Byte.calls g s0_0 s0_1 s0_2 t15 t23 t24 w0 _ ?s1 ?s2 A5.out).mono ?_); (case s1 => exact bIQx281_); (case s2 => exact bIQx280_); rintro e w7 ⟨rfl, hi, hb, hk⟩; refine ⟨_, rfl, ?_⟩; replace HK := A_ (KeepBut.trans bK_ hk (.inl rfl)); replace HB := A_ (hb); replace HI0 := A_ (hi); clear hb hk hi))
   go_ret
   exact ⟨rr_, bIQx281_, bIQx280_, bK_⟩
 rw [if_neg c4] at H
 have c4b0 := decide_eq_false c4
 clear c4
 obtain ⟨⟨t16, t19, t20⟩, A8, H⟩ := bo_ H
 (try dsimp only at H)
 obtain ⟨⟨t17, t21, t22⟩, A9, H⟩ := bo_ H
 (try dsimp only at H)
 obtain ⟨⟨t18, t25, t26⟩, A10, H⟩ := bo_ H
 (try dsimp only at H)
 by_cases c11 : a1 = 0
 . rw [if_pos c11] at H
   exact absurd H (by simp)
 rw [if_neg c11] at H
 obtain ⟨c11b0, c11b1⟩ := eF_ c11
 simp only [Option.some.injEq, Prod.mk.injEq] at H
 obtain ⟨rfl, rfl, rfl⟩ := H
 go_enter Try.func117, Try.ntmps117
 go_wp2_with (first | ((with_reducible refine gc_ (f := 131) rfl ?_); refine gL_ (some 17) Try.func131 #[.pointer (some ⟨g, 0, none⟩)] ?_; (with_reducible refine (spec_l1Byte.calls g s0_0 s0_1 s0_2 t16 t19 t20 w0 _ ?s1 ?s2 A8.out).mono ?_); (case s1 => exact bIQx281_); (case s2 => exact bIQx280_); rintro e w12 ⟨rfl, hi, hb, hk⟩; refine ⟨_, rfl, ?_⟩; replace HK := A_ (KeepBut.trans bK_ hk (.inl rfl)); replace HB := A_ (hb); replace HI0 := A_ (hi); clear hb hk hi) | ((with_reducible refine gc_ (f := 131) rfl ?_); refine gL_ (some 19) Try.func131 #[.pointer (some ⟨g, 0, none⟩)] ?_; (with_reducible refine (spec_l1Byte.calls g s0_0 t19 t20 t17 t21 t22 w0 _ ?s1 ?s2 A9.out).mono ?_); (case s1 => exact bIQx281_); (case s2 => exact bIQx280_); rintro e w13 ⟨rfl, hi, hb, hk⟩; refine ⟨_, rfl, ?_⟩; replace HK := A_ (KeepBut.trans bK_ hk (.inl rfl)); replace HB := A_ (hb); replace HI0 := A_ (hi); clear hb hk hi) | ((with_reducible refine gc_ (f := 131) rfl ?_); refine gL_ (some 21) Try.func131 #[.pointer (some ⟨g, 0, none⟩)] ?_; (with_reducible refine (spec_l1Byte.calls g s0_0 t21 t22 t18 t25 t26 w0 _ ?s1 ?s2 A10.out).mono ?_); (case s1 => exact bIQx281_); (case s2 => exact bIQx280_); rintro e w14 ⟨rfl, hi, hb, hk⟩; refine ⟨_, rfl, ?_⟩; replace HK := A_ (KeepBut.trans bK_ hk (.inl rfl)); replace HB := A_ (hb); replace HI0 := A_ (hi); clear hb hk hi))
 go_ret
 exact ⟨rr_, bIQx281_, bIQx280_, bK_⟩
def spec_l1Once.f (s0_0 : List Int) (s0_1 : Int) (s0_2 : Int) (a1 : Int) : Option (Bool × Int × Int) := (spec_l1Below.f s0_0 s0_1 s0_2 a1).bind fun bt1083 => (some ((bt1083.1 == 0), bt1083.2.1, bt1083.2.2))
theorem spec_l1Once.calls (g : Nat) (s0_0 : List Int) (s0_1 : Int) (s0_2 : Int) (a1 : Int) (r1 : Bool) (r2 : Int) (r3 : Int) (w0 w : World) (hI : IsS116 w0 w g s0_0 s0_1 s0_2) (hB : Below w0.heap.size w0 w) (h : spec_l1Once.f s0_0 s0_1 s0_2 a1 = some (r1, r2, r3)) :
 Calls Try.prog 118 #[.pointer (some ⟨g, 0, none⟩), .int .i64 a1] w fun e w' => e = .returned (.bool r1) /\ IsS116 w0 w' g s0_0 r2 r3 /\ Below w0.heap.size w0 w' /\ KeepBut w w' g none := by
 have HI0 := A_ hI
 have HK := A_ (KeepBut.refl w g none)
 have HL := A_ hB.size
 clear hI
 have HW0 := A_ hB.size
 have HB := A_ hB
 clear hB
 have H : ((spec_l1Below.f s0_0 s0_1 s0_2 a1).bind fun bt5 => (some ((bt5.1 == 0), bt5.2.1, bt5.2.2))) = some (r1, r2, r3) := h
 clear h
 obtain ⟨⟨t5, t6, t7⟩, A3, H⟩ := bo_ H
 (try dsimp only at H)
 simp only [Option.some.injEq, Prod.mk.injEq] at H
 obtain ⟨rfl, rfl, rfl⟩ := H
 go_enter Try.func118, Try.ntmps118
 go_wp2_with (first | ((with_reducible refine gc_ (f := 117) rfl ?_); refine gL_ (some 7) Try.func117 #[.pointer (some ⟨g, 0, none⟩), .int .i64 a1] ?_; (with_reducible refine (spec_l1Below.calls g s0_0 s0_1 s0_2 a1 t5 t6 t7 w0 _ ?s1 ?s2 A3.out).mono ?_); (case s1 => exact bIQx281_); (case s2 => exact bIQx280_); rintro e w4 ⟨rfl, hi, hb, hk⟩; refine ⟨_, rfl, ?_⟩; replace HK := A_ (KeepBut.trans bK_ hk (.inl rfl)); replace HB := A_ (hb); replace HI0 := A_ (hi); clear hb hk hi))
 go_ret
 exact ⟨rr_, bIQx281_, bIQx280_, bK_⟩
def spec_l1Str.f (s0_0 : List Int) (s0_1 : Int) (s0_2 : Int) (l1 : List ByteArray) : Option (ByteArray × Int × Int) := (spec_l1Below.f s0_0 s0_1 s0_2 (l1.length : Int)).bind fun bt1086 => (if 0 <= bt1086.1 then (if bt1086.1 < (l1.length : Int) then (some (rdOf ByteArray.empty l1 bt1086.1, bt1086.2.1, bt1086.2.2)) else (none)) else (none))
theorem spec_l1Str.calls (g : Nat) (s0_0 : List Int) (s0_1 : Int) (s0_2 : Int) (A1 : Option Addr) (c1 : Nat) (l1 : List ByteArray) (r1 : ByteArray) (r2 : Int) (r3 : Int) (w0 w : World) (hI : IsS116 w0 w g s0_0 s0_1 s0_2) (hB : Below w0.heap.size w0 w) (hr1 : Kd.C Kd.string w A1 l1.length l1) (hc1 : l1.length <= c1) (hf1 : ∀ ad, A1 = some ad -> 0 < l1.length -> ad.block ≠ g) (h : spec_l1Str.f s0_0 s0_1 s0_2 l1 = some (r1, r2, r3)) :
 Calls Try.prog 99 #[.pointer (some ⟨g, 0, none⟩), .slice A1 l1.length c1] w fun e w' => e = .returned (.string r1) /\ IsS116 w0 w' g s0_0 r2 r3 /\ Below w0.heap.size w0 w' /\ KeepBut w w' g none := by
 have HR1 := A_ hr1
 clear hr1 hc1
 have HI0 := A_ hI
 have HK := A_ (KeepBut.refl w g none)
 have HL := A_ hB.size
 clear hI
 have HW0 := A_ hB.size
 have HB := A_ hB
 clear hB
 have H : ((spec_l1Below.f s0_0 s0_1 s0_2 (l1.length : Int)).bind fun bt8 => (if 0 <= bt8.1 then (if bt8.1 < (l1.length : Int) then (some (rdOf ByteArray.empty l1 bt8.1, bt8.2.1, bt8.2.2)) else (none)) else (none))) = some (r1, r2, r3) := h
 clear h
 obtain ⟨⟨t8, t9, t10⟩, A3, H⟩ := bo_ H
 (try dsimp only at H)
 by_cases c4 : 0 <= t8
 rotate_left
 . exact absurd H (by rw [if_neg c4]; simp)
 rw [if_pos c4] at H
 have c4b0 := decide_eq_true c4
 clear c4
 by_cases c5 : t8 < (l1.length : Int)
 rotate_left
 . exact absurd H (by rw [if_neg c5]; simp)
 rw [if_pos c5] at H
 have c5b0 := decide_eq_true c5
 clear c5
 simp only [Option.some.injEq, Prod.mk.injEq] at H
 obtain ⟨rfl, rfl, rfl⟩ := H
 go_enter Try.func99, Try.ntmps99
 go_wp2_with (first | ((with_reducible refine gc_ (f := 117) rfl ?_); refine gL_ (some 9) Try.func117 #[.pointer (some ⟨g, 0, none⟩), .int .i64 (l1.length : Int)] ?_; (with_reducible refine (spec_l1Below.calls g s0_0 s0_1 s0_2 (l1.length : Int) t8 t9 t10 w0 _ ?s1 ?s2 A3.out).mono ?_); (case s1 => exact bIQx281_); (case s2 => exact bIQx280_); rintro e w6 ⟨rfl, hi, hb, hk⟩; refine ⟨_, rfl, ?_⟩; replace HK := A_ (KeepBut.trans bK_ hk (.inl rfl)); replace HB := A_ (hb); replace HI0 := A_ (hi); clear hb hk hi; have p7 : 0 <= (t8 : Int) := od_; have q7 : t8 < (l1.length : Int) := od_; obtain ⟨ad7, e7, hx7_0⟩ := Kd.at_string HR1.out t8 p7 q7; cases e7; replace hx7_0 := keep_cell HK.out hx7_0 (by first | (rw [add_block]; exact hf1 _ rfl (by omega)) | exact hf1 _ rfl (by omega) | exact hf1 ad7 rfl (by omega)); replace p7 := eq_true p7; replace q7 := eq_true q7))
 go_ret
 exact ⟨rr_, bIQx281_, bIQx280_, bK_⟩
def spec_l2Name.f (s0_0 : List Int) (s0_1 : Int) (s0_2 : Int) : Option (ByteArray × Int × Int) := (spec_l1Str.f s0_0 s0_1 s0_2 (([(⟨#[97]⟩ : ByteArray), (⟨#[98]⟩ : ByteArray), (⟨#[99]⟩ : ByteArray), (⟨#[97, 32, 98]⟩ : ByteArray), (⟨#[120, 37, 121]⟩ : ByteArray), (⟨#[97]⟩ : ByteArray), (⟨#[98]⟩ : ByteArray)] : List ByteArray))).bind fun bt1093 => (some (bt1093.1, bt1093.2.1, bt1093.2.2))
theorem spec_l2Name.calls (g : Nat) (s0_0 : List Int) (s0_1 : Int) (s0_2 : Int) (r1 : ByteArray) (r2 : Int) (r3 : Int) (w0 w : World) (hI : IsS116 w0 w g s0_0 s0_1 s0_2) (hB : Below w0.heap.size w0 w) (h : spec_l2Name.f s0_0 s0_1 s0_2 = some (r1, r2, r3)) :
 Calls Try.prog 119 #[.pointer (some ⟨g, 0, none⟩)] w fun e w' => e = .returned (.string r1) /\ IsS116 w0 w' g s0_0 r2 r3 /\ Below w0.heap.size w0 w' /\ KeepBut w w' g none := by
 have HI0 := A_ hI
 have HK := A_ (KeepBut.refl w g none)
 have HL := A_ hB.size
 clear hI
 have HW0 := A_ hB.size
 have HB := A_ hB
 clear hB
 have H : ((spec_l1Str.f s0_0 s0_1 s0_2 (([(⟨#[97]⟩ : ByteArray), (⟨#[98]⟩ : ByteArray), (⟨#[99]⟩ : ByteArray), (⟨#[97, 32, 98]⟩ : ByteArray), (⟨#[120, 37, 121]⟩ : ByteArray), (⟨#[97]⟩ : ByteArray), (⟨#[98]⟩ : ByteArray)] : List ByteArray))).bind fun bt8 => (some (bt8.1, bt8.2.1, bt8.2.2))) = some (r1, r2, r3) := h
 clear h
 obtain ⟨y7, hy7⟩ : ∃ y_ : List ByteArray, y_ = (([(⟨#[97]⟩ : ByteArray), (⟨#[98]⟩ : ByteArray), (⟨#[99]⟩ : ByteArray), (⟨#[97, 32, 98]⟩ : ByteArray), (⟨#[120, 37, 121]⟩ : ByteArray), (⟨#[97]⟩ : ByteArray), (⟨#[98]⟩ : ByteArray)] : List ByteArray)) := ⟨_, rfl⟩
 replace H : ((spec_l1Str.f s0_0 s0_1 s0_2 y7).bind fun bt8 => (some (bt8.1, bt8.2.1, bt8.2.2))) = some (r1, r2, r3) := hy_ hy7 H
 have Ny7 := A_ hy7
 clear hy7
 obtain ⟨⟨t8, t10, t11⟩, A2, H⟩ := bo_ H
 (try dsimp only at H)
 simp only [Option.some.injEq, Prod.mk.injEq] at H
 obtain ⟨rfl, rfl, rfl⟩ := H
 go_enter Try.func119, Try.ntmps119
 go_wp2_with (first | ((with_reducible refine gd_ (N := 4) rfl ?_); refine Kd.R_lit Kd.string _ 9 ?hg (N := 4) ?hd (xs := ([(⟨#[97]⟩ : ByteArray), (⟨#[98]⟩ : ByteArray), (⟨#[99]⟩ : ByteArray), (⟨#[97, 32, 98]⟩ : ByteArray), (⟨#[120, 37, 121]⟩ : ByteArray), (⟨#[97]⟩ : ByteArray), (⟨#[98]⟩ : ByteArray)] : List ByteArray)) (inner := [.string (⟨#[97]⟩ : ByteArray), .string (⟨#[98]⟩ : ByteArray), .string (⟨#[99]⟩ : ByteArray), .string (⟨#[97, 32, 98]⟩ : ByteArray), .string (⟨#[120, 37, 121]⟩ : ByteArray), .string (⟨#[97]⟩ : ByteArray), .string (⟨#[98]⟩ : ByteArray)]) (ok := fun _ => True) (okp := fun _ => True) ?hr ?hp (fun _ hk => hk) trivial (Below.refl _ _) (Nat.le_refl _) (by simp) ?_; (case hd => rfl); (case hg => rfl); (case hr => first | (go_simp; done) | (go_simp; rfl)); (case hp => exact (Reps.one (show Kd.M Kd.string _ _ _ (⟨#[97]⟩ : ByteArray) [.string (⟨#[97]⟩ : ByteArray)] from rfl) (Reps.one (show Kd.M Kd.string _ _ _ (⟨#[98]⟩ : ByteArray) [.string (⟨#[98]⟩ : ByteArray)] from rfl) (Reps.one (show Kd.M Kd.string _ _ _ (⟨#[99]⟩ : ByteArray) [.string (⟨#[99]⟩ : ByteArray)] from rfl) (Reps.one (show Kd.M Kd.string _ _ _ (⟨#[97, 32, 98]⟩ : ByteArray) [.string (⟨#[97, 32, 98]⟩ : ByteArray)] from rfl) (Reps.one (show Kd.M Kd.string _ _ _ (⟨#[120, 37, 121]⟩ : ByteArray) [.string (⟨#[120, 37, 121]⟩ : ByteArray)] from rfl) (Reps.one (show Kd.M Kd.string _ _ _ (⟨#[97]⟩ : ByteArray) [.string (⟨#[97]⟩ : ByteArray)] from rfl) (Reps.one (show Kd.M Kd.string _ _ _ (⟨#[98]⟩ : ByteArray) [.string (⟨#[98]⟩ : ByteArray)] from rfl) (Reps.none _ _))))))))); intro v12 w3 ho4 hb hg_ hnew_; clear hg_ hnew_; (first | rw [← Ny7.out] at ho4 | (simp only [Int.reduceToNat] at ho4; rw [← Ny7.out] at ho4)); have HO9 := A_ (Kd.R_lower ho4 (keep_size (w := w) (g := g) (row := none) bK_)); replace HK := A_ (KeepBut.trans bK_ (KeepBut.of_below hb g none) (.inl rfl)); replace HB := A_ (below_step bIQx280_ hb); replace HI0 := A_ (IsS116.below bIQx281_ hb); clear hb ho4; obtain ⟨Ao5, co5, eo5⟩ := Kd.R_slice HO9.out; subst eo5) | ((with_reducible refine gc_ (f := 99) rfl ?_); refine gL_ (some 5) Try.func99 #[.pointer (some ⟨g, 0, none⟩), .slice Ao5 y7.length co5] ?_; (with_reducible refine (spec_l1Str.calls g s0_0 s0_1 s0_2 _ _ y7 t8 t10 t11 w0 _ ?s1 ?s2 ?s3 ?s4 ?s5 A2.out).mono ?_); (case s1 => exact bIQx281_); (case s2 => exact bIQx280_); (case s3 => exact cC_ (Kd.R_reads' HO9.out).2.2); (case s4 => exact (Kd.R_reads' HO9.out).2.1); (case s5 => exact far_slice (IsS116.own_ne HI0.out HO9.out (by decide))); rintro e w6 ⟨rfl, hi, hb, hk⟩; refine ⟨_, rfl, ?_⟩; replace HK := A_ (KeepBut.trans bK_ hk (.inl rfl)); replace HB := A_ (hb); replace HI0 := A_ (hi); clear hb hk hi))
 go_ret
 exact ⟨rr_, bIQx281_, bIQx280_, bK_⟩
def spec_l2Draw.l0 : Nat -> List ByteArray -> Int -> List Int -> Int -> Int -> Option (List ByteArray × Int × Int)
 | 0, _, _, _, _, _ => none
 | k + 1, x3, x4, x1000, x1001, x1002 => if x4 > 0 then ((spec_l2Name.f x1000 x1001 x1002).bind fun bt1102 => (if x3.length < 8796093022208 then (spec_l2Draw.l0 k (x3 ++ [bt1102.1]) (wrap64 (x4 - 1)) x1000 bt1102.2.1 bt1102.2.2) else (none))) else (some (x3, x1001, x1002))
def spec_l2Draw.f (k : Nat) (s0_0 : List Int) (s0_1 : Int) (s0_2 : Int) : Option (List ByteArray × Int × Int) := (spec_l1Below.f s0_0 s0_1 s0_2 4).bind fun bt1099 => (spec_l2Draw.l0 k (([] : List ByteArray)) bt1099.1 s0_0 bt1099.2.1 bt1099.2.2)
theorem spec_l2Draw.calls (k : Nat) (g : Nat) (s0_0 : List Int) (s0_1 : Int) (s0_2 : Int) (r1 : List ByteArray) (r2 : Int) (r3 : Int) (w0 w : World) (hI : IsS116 w0 w g s0_0 s0_1 s0_2) (hB : Below w0.heap.size w0 w) (h : spec_l2Draw.f k s0_0 s0_1 s0_2 = some (r1, r2, r3)) :
 Calls Try.prog 120 #[.pointer (some ⟨g, 0, none⟩)] w fun e w' => ∃ v0_ : Value, e = .returned (v0_) /\ Kd.R Kd.string 9 w' w.heap.size (fun _ => True) v0_ r1 /\ IsS116 w0 w' g s0_0 r2 r3 /\ Below w0.heap.size w0 w' /\ KeepBut w w' g none := by
 have HI0 := A_ hI
 have HK := A_ (KeepBut.refl w g none)
 have HL := A_ hB.size
 clear hI
 have HW0 := A_ hB.size
 have HB := A_ hB
 clear hB
 have H : ((spec_l1Below.f s0_0 s0_1 s0_2 4).bind fun bt11 => (spec_l2Draw.l0 k (([] : List ByteArray)) bt11.1 s0_0 bt11.2.1 bt11.2.2)) = some (r1, r2, r3) := h
 clear h
 obtain ⟨y12, hy12⟩ : ∃ y_ : List ByteArray, y_ = (([] : List ByteArray)) := ⟨_, rfl⟩
 replace H : ((spec_l1Below.f s0_0 s0_1 s0_2 4).bind fun bt11 => (spec_l2Draw.l0 k y12 bt11.1 s0_0 bt11.2.1 bt11.2.2)) = some (r1, r2, r3) := hy_ hy12 H
 have Ny12 := A_ hy12
 clear hy12
 obtain ⟨⟨t11, t18, t19⟩, A2, H⟩ := bo_ H
 (try dsimp only at H)
 have H' := A_ H
 clear H
 go_enter Try.func120, Try.ntmps120
 go_wp2_with (first | ((with_reducible refine gd_ (N := 5) rfl ?_); refine Kd.R_lit Kd.string _ 9 ?hg (N := 5) ?hd (xs := ([] : List ByteArray)) (inner := []) (ok := fun _ => True) (okp := fun _ => True) ?hr ?hp (fun _ hk => hk) trivial (Below.refl _ _) (Nat.le_refl _) (by simp) ?_; (case hd => rfl); (case hg => rfl); (case hr => first | (go_simp; done) | (go_simp; rfl)); (case hp => exact (Reps.none _ _)); intro v21 w3 ho4 hb hg_ hnew_; clear hg_ hnew_; (first | rw [← Ny12.out] at ho4 | (simp only [Int.reduceToNat] at ho4; rw [← Ny12.out] at ho4)); have HO15 := A_ (Kd.R_lower ho4 (keep_size (w := w) (g := g) (row := none) bK_)); replace HK := A_ (KeepBut.trans bK_ (KeepBut.of_below hb g none) (.inl rfl)); replace HB := A_ (below_step bIQx280_ hb); replace HI0 := A_ (IsS116.below bIQx281_ hb); clear hb ho4) | ((with_reducible refine gc_ (f := 117) rfl ?_); refine gL_ (some 7) Try.func117 #[.pointer (some ⟨g, 0, none⟩), .int .i64 4] ?_; (with_reducible refine (spec_l1Below.calls g s0_0 s0_1 s0_2 4 t11 t18 t19 w0 _ ?s1 ?s2 A2.out).mono ?_); (case s1 => exact bIQx281_); (case s2 => exact bIQx280_); rintro e w5 ⟨rfl, hi, hb, hk⟩; refine ⟨_, rfl, ?_⟩; replace HO15 := A_ (Kd.R_mono (Kd.R_keep (IsS116.apart (show IsS116 w0 _ g s0_0 s0_1 s0_2 from bIQx281_) (vR_ HO15.out) (by decide)) hk (fun _ h => h.2)) (fun _ h => h.1)); replace HK := A_ (KeepBut.trans bK_ hk (.inl rfl)); replace HB := A_ (hb); replace HI0 := A_ (hi); clear hb hk hi))
 go_loopg [3, 4] k (fun kq v3 v4 w' => ∃ (x3_1 : List ByteArray) (x4_1 : Int) (x1001_1 : Int) (x1002_1 : Int), v4 = .int .i64 x4_1 /\ Aside0 (spec_l2Draw.l0 kq x3_1 x4_1 s0_0 x1001_1 x1002_1 = some (r1, r2, r3)) /\ Aside0 (kq <= k) /\ Aside0 (Kd.R Kd.string 9 w' w.heap.size (fun _ => True) v3 x3_1) /\ Aside0 (IsS116 w0 w' g s0_0 x1001_1 x1002_1) /\ Aside0 (KeepBut w w' g none) /\ Aside0 (Below w0.heap.size w0 w'))
 case atStart => exact ⟨(y12), (t11), (t18), (t19), rs_, H', ⟨Nat.le_refl _⟩, ⟨vR_ HO15.out⟩, ⟨bIQx281_⟩, ⟨bK_⟩, ⟨bIQx280_⟩⟩
 case round =>
  clear H'
  obtain ⟨x3_1, x4_1, x1001_1, x1002_1, rfl, HA, HK1, HO_3, HI0, HK, HB⟩ := hrel
  cases gk with
  | zero => exact absurd HA.out (by simp [spec_l2Draw.l0])
  | succ k1 =>
   have H := HA.out
   clear HA
   simp only [spec_l2Draw.l0] at H
   by_cases c6 : x4_1 > 0
   rotate_left
   . rw [if_neg c6] at H
     have c6b0 : decide (0 < x4_1) = false := decide_eq_false c6
     clear c6
     simp only [Option.some.injEq, Prod.mk.injEq] at H
     obtain ⟨rfl, rfl, rfl⟩ := H
     go_wp2
     go_ret
     exact ⟨_, rr_, vR_ HO_3.out, bIQx281_, bIQx280_, bK_⟩
   rw [if_pos c6] at H
   have c6b0 : decide (0 < x4_1) = true := decide_eq_true c6
   clear c6
   obtain ⟨⟨t14, t16, t17⟩, A7, H⟩ := bo_ H
   (try dsimp only at H)
   by_cases c8 : x3_1.length < 8796093022208
   rotate_left
   . exact absurd H (by rw [if_neg c8]; simp)
   rw [if_pos c8] at H
   have LMc8 := A_ c8
   clear c8
   obtain ⟨y13, hy13⟩ : ∃ y_ : List ByteArray, y_ = (x3_1 ++ [t14]) := ⟨_, rfl⟩
   replace H : (spec_l2Draw.l0 k1 y13 (wrap64 (x4_1 - 1)) s0_0 t16 t17) = some (r1, r2, r3) := hy_ hy13 H
   have Ny13 := A_ hy13
   clear hy13
   have H' := A_ H
   clear H
   go_wp2_with (first | ((with_reducible refine gc_ (f := 119) rfl ?_); refine gL_ (some 14) Try.func119 #[.pointer (some ⟨g, 0, none⟩)] ?_; (with_reducible refine (spec_l2Name.calls g s0_0 x1001_1 x1002_1 t14 t16 t17 w0 _ ?s1 ?s2 A7.out).mono ?_); (case s1 => exact bIQx281_); (case s2 => exact bIQx280_); rintro e w9 ⟨rfl, hi, hb, hk⟩; refine ⟨_, rfl, ?_⟩; replace HO_3 := A_ (Kd.R_mono (Kd.R_keep (IsS116.apart (show IsS116 w0 _ g s0_0 x1001_1 x1002_1 from bIQx281_) (vR_ HO_3.out) (by decide)) hk (fun _ h => h.2)) (fun _ h => h.1)); replace HK := A_ (KeepBut.trans bK_ hk (.inl rfl)); replace HB := A_ (hb); replace HI0 := A_ (hi); clear hb hk hi) | ((with_reducible refine gate_builtin (b := .append) (xs := #[.tmp 12, .tmp 15]) rfl ?_); at_builtin; refine Kd.R_append Kd.string w.heap.size rfl (.tmp 12) (.tmp 15) 23 9 (.string ⟨#[]⟩) 16 rfl Try.underlying23 info9 rfl (by decide) (by omega) u3 x3_1 t14 [.string t14] (fun _ => True) (fun _ => False) rfl rfl ?aP (fun _ hk => hk.elim) ?aF ?aO (Below.refl _ _) ?aS ?aL ?_; (case aP => exact rfl); (case aF => exact (fun _ _ => trivial)); (case aO => exact (vR_ HO_3.out)); (case aS => exact (keep_size (w := w) (g := g) (row := none) bK_)); (case aL => have := LMc8.out; omega); intro v22 w10 ho hb hg hat; rw [← Ny13.out] at ho; replace HB := A_ (below_weaken bIQx280_ HL.out hb); replace HI0 := A_ (IsS116.grown bIQx281_ hg (IsS116.own_ne HI0.out HO_3.out (by decide))); replace HK := A_ (KeepBut.trans bK_ (KeepBut.of_grown hg g) (Kd.R_base2 HO_3.out)); have HO20 := A_ (ho); clear HO_3; clear ho hb hg hat))
   go_roundg k1
   case measure => have := HK1.out; omega
   case rel => exact ⟨(y13), (wrap64 (x4_1 - 1)), (t16), (t17), rs_, H', ⟨by have := HK1.out; omega⟩, ⟨vR_ HO20.out⟩, ⟨bIQx281_⟩, ⟨bK_⟩, ⟨bIQx280_⟩⟩
set_option maxHeartbeats 8000000
set_option maxRecDepth 100000
theorem bIQx290_ {P : Prop} (h : P := by repeat (first | (with_reducible first | exact HB.out | apply below_alloc | apply pw_below_drewN | apply below_drew1 | refine below_set ?_ (IsS116.ge HI0.out)) | exact HB.out)) : P := h
theorem bIQx291_ {P : Prop} (h : P := by repeat (first | (with_reducible first | exact HI0.out | apply IsS116.alloc | apply IsS116.drewN | apply IsS116.drew | apply IsS116.set_1 | apply IsS116.set_2) | exact HI0.out)) : P := h
def spec_l10Path.j0 : Nat -> List (S57) -> Bool -> List Int -> Int -> Int -> Option (List ByteArray × Int × Int)
 | 0, _, _, _, _, _ => none
 | k + 1, x1, x13, x1000, x1001, x1002 => if x13 = true then ((some (([] : List ByteArray) : List ByteArray)).bind fun y1111 => ((spec_l1Below.f x1000 x1001 x1002 (x1.length : Int)).bind fun bt1114 => (if 0 <= bt1114.1 then (if bt1114.1 < (x1.length : Int) then (if y1111.length + ((rd_T57 x1 bt1114.1).f0).length < 8796093022208 then ((some (y1111 ++ ((rd_T57 x1 bt1114.1).f0) : List ByteArray)).bind fun y1118 => ((spec_l1Once.f x1000 bt1114.2.1 bt1114.2.2 3).bind fun bt1121 => (if bt1121.1 = true then ((spec_l2Name.f x1000 bt1121.2.1 bt1121.2.2).bind fun bt1124 => (if y1118.length < 8796093022208 then (some ((y1118 ++ [bt1124.1]), bt1124.2.1, bt1124.2.2)) else (none))) else (some (y1118, bt1121.2.1, bt1121.2.2))))) else (none)) else (none)) else (none)))) else ((spec_l2Draw.f k x1000 x1001 x1002).bind fun bt1130 => (some (bt1130.1, bt1130.2.1, bt1130.2.2)))
def spec_l10Path.f (k : Nat) (s0_0 : List Int) (s0_1 : Int) (s0_2 : Int) (l1 : List (S57)) : Option (List ByteArray × Int × Int) := if (l1.length : Int) > 0 then ((spec_l1Once.f s0_0 s0_1 s0_2 3).bind fun bt1108 => (spec_l10Path.j0 k l1 (!bt1108.1) s0_0 bt1108.2.1 bt1108.2.2)) else (spec_l10Path.j0 k l1 false s0_0 s0_1 s0_2)
theorem spec_l10Path.calls (k : Nat) (g : Nat) (s0_0 : List Int) (s0_1 : Int) (s0_2 : Int) (A1 : Option Addr) (c1 : Nat) (l1 : List (S57)) (r1 : List ByteArray) (r2 : Int) (r3 : Int) (w0 w : World) (hI : IsS116 w0 w g s0_0 s0_1 s0_2) (hB : Below w0.heap.size w0 w) (hr1 : ∀ W_, KeepBut w W_ g none -> Kd.C k57 W_ A1 l1.length l1) (hc1 : l1.length <= c1) (h : spec_l10Path.f k s0_0 s0_1 s0_2 l1 = some (r1, r2, r3)) :
 Calls Try.prog 86 #[.pointer (some ⟨g, 0, none⟩), .slice A1 l1.length c1] w fun e w' => ∃ v0_ : Value, e = .returned (v0_) /\ Kd.R Kd.string 9 w' w.heap.size (fun _ => True) v0_ r1 /\ IsS116 w0 w' g s0_0 r2 r3 /\ Below w0.heap.size w0 w' /\ KeepBut w w' g none := by
 have HR1 := A_ hr1
 clear hr1 hc1
 have HI0 := A_ hI
 have HK := A_ (KeepBut.refl w g none)
 have HL := A_ hB.size
 clear hI
 have HW0 := A_ hB.size
 have HB := A_ hB
 clear hB
 have H : (if (l1.length : Int) > 0 then ((spec_l1Once.f s0_0 s0_1 s0_2 3).bind fun bt42 => (spec_l10Path.j0 k l1 (!bt42.1) s0_0 bt42.2.1 bt42.2.2)) else (spec_l10Path.j0 k l1 false s0_0 s0_1 s0_2)) = some (r1, r2, r3) := h
 clear h
 have HC3 := A_ H
 clear H
 go_enter Try.func86, Try.ntmps86
 go_upto_region 1 with (fail)
 go_cut [13] (fun v13 wc => ∃ (kq : Nat) (x13_2 : Bool) (x1001_2 : Int) (x1002_2 : Int), v13 = .bool x13_2 /\ Aside0 (spec_l10Path.j0 kq l1 x13_2 s0_0 x1001_2 x1002_2 = some (r1, r2, r3)) /\ Aside0 (kq <= k) /\ Aside0 (IsS116 w0 wc g s0_0 x1001_2 x1002_2) /\ Aside0 (KeepBut w wc g none) /\ Aside0 (Below w0.heap.size w0 wc))
 case first =>
  have H := HC3.out
  clear HC3
  by_cases c4 : (l1.length : Int) > 0
  rotate_left
  . rw [if_neg c4] at H
    have c4b0 : decide (0 < (l1.length : Int)) = false := decide_eq_false c4
    have c4b1 : decide (0 < l1.length) = false := decide_eq_false (by omega)
    clear c4
    (first | rw [c4b0] | (simp only [i64_w, i32_w]; rw [c4b0]) | skip)
    have H' := A_ H
    clear H
    go_wp2
    go_meet
    case rel => exact ⟨_, (false), (s0_1), (s0_2), rs_, H', ⟨by first | omega | exact Nat.le_refl _⟩, ⟨bIQx291_⟩, ⟨bK_⟩, ⟨bIQx290_⟩⟩
  rw [if_pos c4] at H
  have c4b0 : decide (0 < (l1.length : Int)) = true := decide_eq_true c4
  have c4b1 : decide (0 < l1.length) = true := decide_eq_true (by omega)
  clear c4
  (first | rw [c4b0] | (simp only [i64_w, i32_w]; rw [c4b0]) | skip)
  obtain ⟨⟨t42, t46, t47⟩, A5, H⟩ := bo_ H
  (try dsimp only at H)
  have H' := A_ H
  clear H
  go_wp2_with (first | (go_at_call 118; (with_reducible refine (spec_l1Once.calls g s0_0 s0_1 s0_2 3 t42 t46 t47 w0 _ ?s1 ?s2 A5.out).mono ?_); (case s1 => exact bIQx291_); (case s2 => exact bIQx290_); rintro e w6 ⟨rfl, hi, hb, hk⟩; replace HK := A_ (KeepBut.trans bK_ hk (.inl rfl)); replace HB := A_ (hb); replace HI0 := A_ (hi); clear hb hk hi))
  go_meet
  case rel => exact ⟨_, (!t42), (t46), (t47), rs_, H', ⟨by first | omega | exact Nat.le_refl _⟩, ⟨bIQx291_⟩, ⟨bK_⟩, ⟨bIQx290_⟩⟩
 case rest =>
  clear HC3
  obtain ⟨kq, x13_2, x1001_2, x1002_2, rfl, HA, HJ2, HI0, HK, HB⟩ := hcut
  cases kq with
  | zero => exact absurd HA.out (by simp [spec_l10Path.j0])
  | succ kj2 =>
   have H := HA.out
   clear HA
   simp only [spec_l10Path.j0] at H
   by_cases c7 : x13_2 = true
   . subst c7
     rw [if_pos rfl] at H
     obtain ⟨y34, hy34⟩ : ∃ y_ : List ByteArray, y_ = (([] : List ByteArray)) := ⟨_, rfl⟩
     replace H : ((spec_l1Below.f s0_0 x1001_2 x1002_2 (l1.length : Int)).bind fun bt31 => (if 0 <= bt31.1 then (if bt31.1 < (l1.length : Int) then (if y34.length + ((rd_T57 l1 bt31.1).f0).length < 8796093022208 then ((some (y34 ++ ((rd_T57 l1 bt31.1).f0) : List ByteArray)).bind fun y33 => ((spec_l1Once.f s0_0 bt31.2.1 bt31.2.2 3).bind fun bt35 => (if bt35.1 = true then ((spec_l2Name.f s0_0 bt35.2.1 bt35.2.2).bind fun bt37 => (if y33.length < 8796093022208 then (some ((y33 ++ [bt37.1]), bt37.2.1, bt37.2.2)) else (none))) else (some (y33, bt35.2.1, bt35.2.2))))) else (none)) else (none)) else (none))) = some (r1, r2, r3) := hy_ hy34 H
     have Ny34 := A_ hy34
     clear hy34
     obtain ⟨⟨t31, t39, t40⟩, A8, H⟩ := bo_ H
     (try dsimp only at H)
     by_cases c9 : 0 <= t31
     rotate_left
     . exact absurd H (by rw [if_neg c9]; simp)
     rw [if_pos c9] at H
     have c9b0 := decide_eq_true c9
     clear c9
     by_cases c10 : t31 < (l1.length : Int)
     rotate_left
     . exact absurd H (by rw [if_neg c10]; simp)
     rw [if_pos c10] at H
     have c10b0 := decide_eq_true c10
     clear c10
     by_cases c11 : y34.length + ((rd_T57 l1 t31).f0).length < 8796093022208
     rotate_left
     . exact absurd H (by rw [if_neg c11]; simp)
     rw [if_pos c11] at H
     have LMc11 := A_ c11
     clear c11
     obtain ⟨y33, hy33⟩ : ∃ y_ : List ByteArray, y_ = (y34 ++ ((rd_T57 l1 t31).f0)) := ⟨_, rfl⟩
     replace H : ((spec_l1Once.f s0_0 t39 t40 3).bind fun bt35 => (if bt35.1 = true then ((spec_l2Name.f s0_0 bt35.2.1 bt35.2.2).bind fun bt37 => (if y33.length < 8796093022208 then (some ((y33 ++ [bt37.1]), bt37.2.1, bt37.2.2)) else (none))) else (some (y33, bt35.2.1, bt35.2.2)))) = some (r1, r2, r3) := hy_ hy33 H
     have Ny33 := A_ hy33
     clear hy33
     obtain ⟨⟨t35, t43, t44⟩, A12, H⟩ := bo_ H
     (try dsimp only at H)
     by_cases c13 : t35 = true
     . subst c13
       rw [if_pos rfl] at H
       obtain ⟨⟨t37, t48, t49⟩, A14, H⟩ := bo_ H
       (try dsimp only at H)
       by_cases c15 : y33.length < 8796093022208
       rotate_left
       . exact absurd H (by rw [if_neg c15]; simp)
       rw [if_pos c15] at H
       have LMc15 := A_ c15
       clear c15
       obtain ⟨y41, hy41⟩ : ∃ y_ : List ByteArray, y_ = (y33 ++ [t37]) := ⟨_, rfl⟩
       replace H : (some (y41, t48, t49)) = some (r1, r2, r3) := hy_ hy41 H
       have Ny41 := A_ hy41
       clear hy41
       simp only [Option.some.injEq, Prod.mk.injEq] at H
       obtain ⟨rfl, rfl, rfl⟩ := H
       go_wp2_with (first | ((with_reducible refine gd_ (N := 14) rfl ?_); refine Kd.R_lit Kd.string _ 9 ?hg (N := 14) ?hd (xs := ([] : List ByteArray)) (inner := []) (ok := fun _ => True) (okp := fun _ => True) ?hr ?hp (fun _ hk => hk) trivial (Below.refl _ _) (Nat.le_refl _) (by simp) ?_; (case hd => rfl); (case hg => rfl); (case hr => first | (go_simp; done) | (go_simp; rfl)); (case hp => exact (Reps.none _ _)); intro v45 w16 ho17 hb hg_ hnew_; clear hg_ hnew_; (first | rw [← Ny34.out] at ho17 | (simp only [Int.reduceToNat] at ho17; rw [← Ny34.out] at ho17)); have HO36 := A_ (Kd.R_lower ho17 (keep_size (w := w) (g := g) (row := none) bK_)); replace HK := A_ (KeepBut.trans bK_ (KeepBut.of_below hb g none) (.inl rfl)); replace HB := A_ (below_step bIQx290_ hb); replace HI0 := A_ (IsS116.below bIQx291_ hb); clear hb ho17) | ((with_reducible refine gc_ (f := 117) rfl ?_); refine gL_ (some 19) Try.func117 #[.pointer (some ⟨g, 0, none⟩), .int .i64 (l1.length : Int)] ?_; (with_reducible refine (spec_l1Below.calls g s0_0 x1001_2 x1002_2 (l1.length : Int) t31 t39 t40 w0 _ ?s1 ?s2 A8.out).mono ?_); (case s1 => exact bIQx291_); (case s2 => exact bIQx290_); rintro e w18 ⟨rfl, hi, hb, hk⟩; refine ⟨_, rfl, ?_⟩; replace HO36 := A_ (Kd.R_mono (Kd.R_keep (IsS116.apart (show IsS116 w0 _ g s0_0 x1001_2 x1002_2 from bIQx291_) (vR_ HO36.out) (by decide)) hk (fun _ h => h.2)) (fun _ h => h.1)); replace HK := A_ (KeepBut.trans bK_ hk (.inl rfl)); replace HB := A_ (hb); replace HI0 := A_ (hi); clear hb hk hi; have p30 : 0 <= (t31 : Int) := od_; have q30 : t31 < (l1.length : Int) := od_; obtain ⟨ad30, A30_0, c30_0, A30_4, c30_4, e30, hx30_0, hx30_1, hx30_2, hx30_3, hx30_4, hl30_0, hi30_0, hl30_4, hi30_4⟩ := at_T57 (Kd.C_foot_now HR1.out HK.out) t31 p30 q30; cases e30; have HR30_0 := A_ hi30_0; clear hi30_0 hl30_0; clear hi30_4 hl30_4; replace p30 := eq_true p30; replace q30 := eq_true q30) | ((with_reducible refine gate_builtin (b := .append) (xs := #[.tmp 14, .tmp 22]) rfl ?_); at_builtin; refine Kd.R_append_rows Kd.string w.heap.size rfl (.tmp 14) (.tmp 22) 23 9 (.string ⟨#[]⟩) 16 rfl Try.underlying23 info9 rfl (by decide) (by omega) v45 y34 ((rd_T57 l1 t31).f0) _ _ _ (fun _ => True) (fun _ => False) rfl rfl ?aO ?aR (fun _ _ h => h) (fun _ h => h.elim) ?aF (Below.refl _ _) ?aS ?aL ?_; (case aR => repeat (first | exact (cC_ HR30_0.out) | (with_reducible refine Kd.C_alloc ?_ _) | (with_reducible refine Kd.C_drewN ?_ _) | (with_reducible refine Kd.C_drew ?_))); (case aF => exact (fun _ _ => trivial)); (case aO => exact (vR_ HO36.out)); (case aS => exact (keep_size (w := w) (g := g) (row := none) bK_)); (case aL => have := LMc11.out; omega); intro v50 w19 ho hb hg hat; rw [← Ny33.out] at ho; replace HB := A_ (below_weaken bIQx290_ HL.out hb); replace HI0 := A_ (IsS116.grown bIQx291_ hg (IsS116.own_ne HI0.out HO36.out (by decide))); replace HK := A_ (KeepBut.trans bK_ (KeepBut.of_grown hg g) (Kd.R_base2 HO36.out)); have HO38 := A_ (ho); clear HO36; clear ho hb hg hat) | ((with_reducible refine gc_ (f := 118) rfl ?_); refine gL_ (some 25) Try.func118 #[.pointer (some ⟨g, 0, none⟩), .int .i64 3] ?_; (with_reducible refine (spec_l1Once.calls g s0_0 t39 t40 3 true t43 t44 w0 _ ?s1 ?s2 A12.out).mono ?_); (case s1 => exact bIQx291_); (case s2 => exact bIQx290_); rintro e w20 ⟨rfl, hi, hb, hk⟩; refine ⟨_, rfl, ?_⟩; replace HO38 := A_ (Kd.R_mono (Kd.R_keep (IsS116.apart (show IsS116 w0 _ g s0_0 t39 t40 from bIQx291_) (vR_ HO38.out) (by decide)) hk (fun _ h => h.2)) (fun _ h => h.1)); replace HK := A_ (KeepBut.trans bK_ hk (.inl rfl)); replace HB := A_ (hb); replace HI0 := A_ (hi); clear hb hk hi) | ((with_reducible refine gc_ (f := 119) rfl ?_); refine gL_ (some 28) Try.func119 #[.pointer (some ⟨g, 0, none⟩)] ?_; (with_reducible refine (spec_l2Name.calls g s0_0 t43 t44 t37 t48 t49 w0 _ ?s1 ?s2 A14.out).mono ?_); (case s1 => exact bIQx291_); (case s2 => exact bIQx290_); rintro e w21 ⟨rfl, hi, hb, hk⟩; refine ⟨_, rfl, ?_⟩; replace HO38 := A_ (Kd.R_mono (Kd.R_keep (IsS116.apart (show IsS116 w0 _ g s0_0 t43 t44 from bIQx291_) (vR_ HO38.out) (by decide)) hk (fun _ h => h.2)) (fun _ h => h.1)); replace HK := A_ (KeepBut.trans bK_ hk (.inl rfl)); replace HB := A_ (hb); replace HI0 := A_ (hi); clear hb hk hi) | ((with_reducible refine gate_builtin (b := .append) (xs := #[.tmp 26, .tmp 29]) rfl ?_); at_builtin; refine Kd.R_append Kd.string w.heap.size rfl (.tmp 26) (.tmp 29) 23 9 (.string ⟨#[]⟩) 16 rfl Try.underlying23 info9 rfl (by decide) (by omega) v50 y33 t37 [.string t37] (fun _ => True) (fun _ => False) rfl rfl ?aP (fun _ hk => hk.elim) ?aF ?aO (Below.refl _ _) ?aS ?aL ?_; (case aP => exact rfl); (case aF => exact (fun _ _ => trivial)); (case aO => exact (vR_ HO38.out)); (case aS => exact (keep_size (w := w) (g := g) (row := none) bK_)); (case aL => have := LMc15.out; omega); intro v56 w22 ho hb hg hat; rw [← Ny41.out] at ho; replace HB := A_ (below_weaken bIQx290_ HL.out hb); replace HI0 := A_ (IsS116.grown bIQx291_ hg (IsS116.own_ne HI0.out HO38.out (by decide))); replace HK := A_ (KeepBut.trans bK_ (KeepBut.of_grown hg g) (Kd.R_base2 HO38.out)); have HO51 := A_ (ho); clear HO38; clear ho hb hg hat))
       go_ret
       exact ⟨_, rr_, vR_ HO51.out, bIQx291_, bIQx290_, bK_⟩
     . replace c13 := Bool.eq_false_iff.mpr c13
       subst c13
       rw [if_neg nf_] at H
       simp only [Option.some.injEq, Prod.mk.injEq] at H
       obtain ⟨rfl, rfl, rfl⟩ := H
       go_wp2_with (first | ((with_reducible refine gd_ (N := 14) rfl ?_); refine Kd.R_lit Kd.string _ 9 ?hg (N := 14) ?hd (xs := ([] : List ByteArray)) (inner := []) (ok := fun _ => True) (okp := fun _ => True) ?hr ?hp (fun _ hk => hk) trivial (Below.refl _ _) (Nat.le_refl _) (by simp) ?_; (case hd => rfl); (case hg => rfl); (case hr => first | (go_simp; done) | (go_simp; rfl)); (case hp => exact (Reps.none _ _)); intro v45 w23 ho24 hb hg_ hnew_; clear hg_ hnew_; (first | rw [← Ny34.out] at ho24 | (simp only [Int.reduceToNat] at ho24; rw [← Ny34.out] at ho24)); have HO36 := A_ (Kd.R_lower ho24 (keep_size (w := w) (g := g) (row := none) bK_)); replace HK := A_ (KeepBut.trans bK_ (KeepBut.of_below hb g none) (.inl rfl)); replace HB := A_ (below_step bIQx290_ hb); replace HI0 := A_ (IsS116.below bIQx291_ hb); clear hb ho24) | ((with_reducible refine gc_ (f := 117) rfl ?_); refine gL_ (some 19) Try.func117 #[.pointer (some ⟨g, 0, none⟩), .int .i64 (l1.length : Int)] ?_; (with_reducible refine (spec_l1Below.calls g s0_0 x1001_2 x1002_2 (l1.length : Int) t31 t39 t40 w0 _ ?s1 ?s2 A8.out).mono ?_); (case s1 => exact bIQx291_); (case s2 => exact bIQx290_); rintro e w25 ⟨rfl, hi, hb, hk⟩; refine ⟨_, rfl, ?_⟩; replace HO36 := A_ (Kd.R_mono (Kd.R_keep (IsS116.apart (show IsS116 w0 _ g s0_0 x1001_2 x1002_2 from bIQx291_) (vR_ HO36.out) (by decide)) hk (fun _ h => h.2)) (fun _ h => h.1)); replace HK := A_ (KeepBut.trans bK_ hk (.inl rfl)); replace HB := A_ (hb); replace HI0 := A_ (hi); clear hb hk hi; have p30 : 0 <= (t31 : Int) := od_; have q30 : t31 < (l1.length : Int) := od_; obtain ⟨ad30, A30_0, c30_0, A30_4, c30_4, e30, hx30_0, hx30_1, hx30_2, hx30_3, hx30_4, hl30_0, hi30_0, hl30_4, hi30_4⟩ := at_T57 (Kd.C_foot_now HR1.out HK.out) t31 p30 q30; cases e30; have HR30_0 := A_ hi30_0; clear hi30_0 hl30_0; clear hi30_4 hl30_4; replace p30 := eq_true p30; replace q30 := eq_true q30) | ((with_reducible refine gate_builtin (b := .append) (xs := #[.tmp 14, .tmp 22]) rfl ?_); at_builtin; refine Kd.R_append_rows Kd.string w.heap.size rfl (.tmp 14) (.tmp 22) 23 9 (.string ⟨#[]⟩) 16 rfl Try.underlying23 info9 rfl (by decide) (by omega) v45 y34 ((rd_T57 l1 t31).f0) _ _ _ (fun _ => True) (fun _ => False) rfl rfl ?aO ?aR (fun _ _ h => h) (fun _ h => h.elim) ?aF (Below.refl _ _) ?aS ?aL ?_; (case aR => repeat (first | exact (cC_ HR30_0.out) | (with_reducible refine Kd.C_alloc ?_ _) | (with_reducible refine Kd.C_drewN ?_ _) | (with_reducible refine Kd.C_drew ?_))); (case aF => exact (fun _ _ => trivial)); (case aO => exact (vR_ HO36.out)); (case aS => exact (keep_size (w := w) (g := g) (row := none) bK_)); (case aL => have := LMc11.out; omega); intro v50 w26 ho hb hg hat; rw [← Ny33.out] at ho; replace HB := A_ (below_weaken bIQx290_ HL.out hb); replace HI0 := A_ (IsS116.grown bIQx291_ hg (IsS116.own_ne HI0.out HO36.out (by decide))); replace HK := A_ (KeepBut.trans bK_ (KeepBut.of_grown hg g) (Kd.R_base2 HO36.out)); have HO38 := A_ (ho); clear HO36; clear ho hb hg hat) | ((with_reducible refine gc_ (f := 118) rfl ?_); refine gL_ (some 25) Try.func118 #[.pointer (some ⟨g, 0, none⟩), .int .i64 3] ?_; (with_reducible refine (spec_l1Once.calls g s0_0 t39 t40 3 false t43 t44 w0 _ ?s1 ?s2 A12.out).mono ?_); (case s1 => exact bIQx291_); (case s2 => exact bIQx290_); rintro e w27 ⟨rfl, hi, hb, hk⟩; refine ⟨_, rfl, ?_⟩; replace HO38 := A_ (Kd.R_mono (Kd.R_keep (IsS116.apart (show IsS116 w0 _ g s0_0 t39 t40 from bIQx291_) (vR_ HO38.out) (by decide)) hk (fun _ h => h.2)) (fun _ h => h.1)); replace HK := A_ (KeepBut.trans bK_ hk (.inl rfl)); replace HB := A_ (hb); replace HI0 := A_ (hi); clear hb hk hi))
       go_ret
       exact ⟨_, rr_, vR_ HO38.out, bIQx291_, bIQx290_, bK_⟩
   . replace c7 := Bool.eq_false_iff.mpr c7
     subst c7
     rw [if_neg nf_] at H
     obtain ⟨⟨t52, t53, t54⟩, A28, H⟩ := bo_ H
     (try dsimp only at H)
     simp only [Option.some.injEq, Prod.mk.injEq] at H
     obtain ⟨rfl, rfl, rfl⟩ := H
     go_wp2_with (first | ((with_reducible refine gc_ (f := 120) rfl ?_); refine gL_ (some 33) Try.func120 #[.pointer (some ⟨g, 0, none⟩)] ?_; (with_reducible refine (spec_l2Draw.calls kj2 g s0_0 x1001_2 x1002_2 t52 t53 t54 w0 _ ?s1 ?s2 A28.out).mono ?_); (case s1 => exact bIQx291_); (case s2 => exact bIQx290_); rintro e w29 ⟨v58, rfl, ho0, hi, hb, hk⟩; refine ⟨_, rfl, ?_⟩; have HO55 := A_ (Kd.R_lower ho0 (keep_size (w := w) (g := g) (row := none) bK_)); replace HK := A_ (KeepBut.trans bK_ hk (.inl rfl)); replace HB := A_ (hb); replace HI0 := A_ (hi); clear hb hk hi ho0))
     go_ret
     exact ⟨_, rr_, vR_ HO55.out, bIQx291_, bIQx290_, bK_⟩
def spec_l10OneProp.f (s0_0 : List Int) (s0_1 : Int) (s0_2 : Int) : Option (ByteArray × ByteArray × ByteArray × Int × Int) := (spec_l1Str.f s0_0 s0_1 s0_2 (([(⟨#[68, 65, 86, 58]⟩ : ByteArray), (⟨#[117, 58, 120]⟩ : ByteArray), (⟨#[]⟩ : ByteArray)] : List ByteArray))).bind fun bt1139 => ((spec_l1Str.f s0_0 bt1139.2.1 bt1139.2.2 (([(⟨#[97]⟩ : ByteArray), (⟨#[99, 111, 108, 111, 114]⟩ : ByteArray), (⟨#[98]⟩ : ByteArray)] : List ByteArray))).bind fun bt1145 => ((spec_l1Str.f s0_0 bt1145.2.1 bt1145.2.2 (([(⟨#[]⟩ : ByteArray), (⟨#[114, 101, 100]⟩ : ByteArray), (⟨#[97, 60, 98]⟩ : ByteArray)] : List ByteArray))).bind fun bt1151 => (some (bt1139.1, bt1145.1, bt1151.1, bt1151.2.1, bt1151.2.2))))
theorem spec_l10OneProp.calls (g : Nat) (s0_0 : List Int) (s0_1 : Int) (s0_2 : Int) (r1 : ByteArray) (r2 : ByteArray) (r3 : ByteArray) (r4 : Int) (r5 : Int) (w0 w : World) (hI : IsS116 w0 w g s0_0 s0_1 s0_2) (hB : Below w0.heap.size w0 w) (h : spec_l10OneProp.f s0_0 s0_1 s0_2 = some (r1, r2, r3, r4, r5)) :
 Calls Try.prog 128 #[.pointer (some ⟨g, 0, none⟩)] w fun e w' => e = .returned (.agg #[.string r1, .string r2, .string r3]) /\ IsS116 w0 w' g s0_0 r4 r5 /\ Below w0.heap.size w0 w' /\ KeepBut w w' g none := by
 have hu72 := Try.underlying72
 have HI0 := A_ hI
 have HK := A_ (KeepBut.refl w g none)
 have HL := A_ hB.size
 clear hI
 have HW0 := A_ hB.size
 have HB := A_ hB
 clear hB
 have H : ((spec_l1Str.f s0_0 s0_1 s0_2 (([(⟨#[68, 65, 86, 58]⟩ : ByteArray), (⟨#[117, 58, 120]⟩ : ByteArray), (⟨#[]⟩ : ByteArray)] : List ByteArray))).bind fun bt23 => ((spec_l1Str.f s0_0 bt23.2.1 bt23.2.2 (([(⟨#[97]⟩ : ByteArray), (⟨#[99, 111, 108, 111, 114]⟩ : ByteArray), (⟨#[98]⟩ : ByteArray)] : List ByteArray))).bind fun bt22 => ((spec_l1Str.f s0_0 bt22.2.1 bt22.2.2 (([(⟨#[]⟩ : ByteArray), (⟨#[114, 101, 100]⟩ : ByteArray), (⟨#[97, 60, 98]⟩ : ByteArray)] : List ByteArray))).bind fun bt21 => (some (bt23.1, bt22.1, bt21.1, bt21.2.1, bt21.2.2))))) = some (r1, r2, r3, r4, r5) := h
 clear h
 obtain ⟨y25, hy25⟩ : ∃ y_ : List ByteArray, y_ = (([(⟨#[68, 65, 86, 58]⟩ : ByteArray), (⟨#[117, 58, 120]⟩ : ByteArray), (⟨#[]⟩ : ByteArray)] : List ByteArray)) := ⟨_, rfl⟩
 replace H : ((spec_l1Str.f s0_0 s0_1 s0_2 y25).bind fun bt23 => ((spec_l1Str.f s0_0 bt23.2.1 bt23.2.2 (([(⟨#[97]⟩ : ByteArray), (⟨#[99, 111, 108, 111, 114]⟩ : ByteArray), (⟨#[98]⟩ : ByteArray)] : List ByteArray))).bind fun bt22 => ((spec_l1Str.f s0_0 bt22.2.1 bt22.2.2 (([(⟨#[]⟩ : ByteArray), (⟨#[114, 101, 100]⟩ : ByteArray), (⟨#[97, 60, 98]⟩ : ByteArray)] : List ByteArray))).bind fun bt21 => (some (bt23.1, bt22.1, bt21.1, bt21.2.1, bt21.2.2))))) = some (r1, r2, r3, r4, r5) := hy_ hy25 H
 have Ny25 := A_ hy25
 clear hy25
 obtain ⟨⟨t23, t29, t30⟩, A2, H⟩ := bo_ H
 (try dsimp only at H)
 obtain ⟨y26, hy26⟩ : ∃ y_ : List ByteArray, y_ = (([(⟨#[97]⟩ : ByteArray), (⟨#[99, 111, 108, 111, 114]⟩ : ByteArray), (⟨#[98]⟩ : ByteArray)] : List ByteArray)) := ⟨_, rfl⟩
 replace H : ((spec_l1Str.f s0_0 t29 t30 y26).bind fun bt22 => ((spec_l1Str.f s0_0 bt22.2.1 bt22.2.2 (([(⟨#[]⟩ : ByteArray), (⟨#[114, 101, 100]⟩ : ByteArray), (⟨#[97, 60, 98]⟩ : ByteArray)] : List ByteArray))).bind fun bt21 => (some (t23, bt22.1, bt21.1, bt21.2.1, bt21.2.2)))) = some (r1, r2, r3, r4, r5) := hy_ hy26 H
 have Ny26 := A_ hy26
 clear hy26
 obtain ⟨⟨t22, t32, t33⟩, A3, H⟩ := bo_ H
 (try dsimp only at H)
 obtain ⟨y27, hy27⟩ : ∃ y_ : List ByteArray, y_ = (([(⟨#[]⟩ : ByteArray), (⟨#[114, 101, 100]⟩ : ByteArray), (⟨#[97, 60, 98]⟩ : ByteArray)] : List ByteArray)) := ⟨_, rfl⟩
 replace H : ((spec_l1Str.f s0_0 t32 t33 y27).bind fun bt21 => (some (t23, t22, bt21.1, bt21.2.1, bt21.2.2))) = some (r1, r2, r3, r4, r5) := hy_ hy27 H
 have Ny27 := A_ hy27
 clear hy27
 obtain ⟨⟨t21, t34, t35⟩, A4, H⟩ := bo_ H
 (try dsimp only at H)
 simp only [Option.some.injEq, Prod.mk.injEq] at H
 obtain ⟨rfl, rfl, rfl, rfl, rfl⟩ := H
 go_enter Try.func128, Try.ntmps128
 go_wp2_with (first | ((with_reducible refine gd_ (N := 2) rfl ?_); refine bx_ (N := 2) (cs := #[.string (⟨#[]⟩ : ByteArray), .string (⟨#[]⟩ : ByteArray), .string (⟨#[]⟩ : ByteArray)]) (t := 72) ?_; intro gb20 hg w5 hbox hb; replace HB := A_ (below_step bIQx290_ hb); have BK20 := A_ (hbox); have GW20 := A_ ((by rw [hg]; exact (keep_size (w := w) (g := g) (row := none) bK_) : w.heap.size <= gb20)); have GE20 := A_ ((Nat.le_trans HW0.out (by rw [hg]; exact (keep_size (w := w) (g := g) (row := none) bK_) : w.heap.size <= gb20) : w0.heap.size <= gb20)); replace HK := A_ (KeepBut.trans bK_ (KeepBut.of_below hb g none) (.inl rfl)); have NB0_1135 := A_ ((by rw [hg]; exact Nat.ne_of_lt (IsS116.lt (show IsS116 w0 _ g s0_0 s0_1 s0_2 from bIQx291_)) : g ≠ gb20)); have NB1135_0 := A_ ((by rw [hg]; exact Nat.ne_of_gt (IsS116.lt (show IsS116 w0 _ g s0_0 s0_1 s0_2 from bIQx291_)) : gb20 ≠ g)); replace HI0 := A_ (IsS116.below bIQx291_ hb); clear hb hbox hg) | ((with_reducible refine gd_ (N := 4) rfl ?_); refine Kd.R_lit Kd.string _ 9 ?hg (N := 4) ?hd (xs := ([(⟨#[68, 65, 86, 58]⟩ : ByteArray), (⟨#[117, 58, 120]⟩ : ByteArray), (⟨#[]⟩ : ByteArray)] : List ByteArray)) (inner := [.string (⟨#[68, 65, 86, 58]⟩ : ByteArray), .string (⟨#[117, 58, 120]⟩ : ByteArray), .string (⟨#[]⟩ : ByteArray)]) (ok := fun _ => True) (okp := fun _ => True) ?hr ?hp (fun _ hk => hk) trivial (Below.refl _ _) (Nat.le_refl _) (by simp) ?_; (case hd => rfl); (case hg => rfl); (case hr => first | (go_simp; done) | (go_simp; rfl)); (case hp => exact (Reps.one (show Kd.M Kd.string _ _ _ (⟨#[68, 65, 86, 58]⟩ : ByteArray) [.string (⟨#[68, 65, 86, 58]⟩ : ByteArray)] from rfl) (Reps.one (show Kd.M Kd.string _ _ _ (⟨#[117, 58, 120]⟩ : ByteArray) [.string (⟨#[117, 58, 120]⟩ : ByteArray)] from rfl) (Reps.one (show Kd.M Kd.string _ _ _ (⟨#[]⟩ : ByteArray) [.string (⟨#[]⟩ : ByteArray)] from rfl) (Reps.none _ _))))); intro v36 w6 ho7 hb hg_ hnew_; clear hg_ hnew_; (first | rw [← Ny25.out] at ho7 | (simp only [Int.reduceToNat] at ho7; rw [← Ny25.out] at ho7)); have HO24 := A_ (Kd.R_lower ho7 (keep_size (w := w) (g := g) (row := none) (by repeat (first | (with_reducible first | exact HK.out | apply KeepBut.set_ | apply keep_drewN | apply keep_drew | apply keep_alloc | refine keep_far ?_ GW20.out _) | exact HK.out)))); replace BK20 := A_ (bw_ BK20.out hb); replace HK := A_ (KeepBut.trans (by repeat (first | (with_reducible first | exact HK.out | apply KeepBut.set_ | apply keep_drewN | apply keep_drew | apply keep_alloc | refine keep_far ?_ GW20.out _) | exact HK.out)) (KeepBut.of_below hb g none) (.inl rfl)); replace HB := A_ (below_step (by repeat (first | (with_reducible first | exact HB.out | apply below_alloc | apply pw_below_drewN | apply below_drew1 | refine below_set ?_ (IsS116.ge HI0.out) | refine below_set ?_ GE20.out) | exact HB.out)) hb); replace HI0 := A_ (IsS116.below (by repeat (first | (with_reducible first | exact HI0.out | apply IsS116.alloc | apply IsS116.drewN | apply IsS116.drew | apply IsS116.set_1 | apply IsS116.set_2 | refine IsS116.far ?_ NB0_1135.out _) | exact HI0.out)) hb); clear hb ho7; obtain ⟨Ao8, co8, eo8⟩ := Kd.R_slice HO24.out; subst eo8) | ((with_reducible refine gc_ (f := 99) rfl ?_); refine gL_ (some 5) Try.func99 #[.pointer (some ⟨g, 0, none⟩), .slice Ao8 y25.length co8] ?_; (with_reducible refine (spec_l1Str.calls g s0_0 s0_1 s0_2 _ _ y25 t23 t29 t30 w0 _ ?s1 ?s2 ?s3 ?s4 ?s5 A2.out).mono ?_); (case s1 => repeat (first | (with_reducible first | exact HI0.out | apply IsS116.alloc | apply IsS116.drewN | apply IsS116.drew | apply IsS116.set_1 | apply IsS116.set_2 | refine IsS116.far ?_ NB0_1135.out _) | exact HI0.out)); (case s2 => repeat (first | (with_reducible first | exact HB.out | apply below_alloc | apply pw_below_drewN | apply below_drew1 | refine below_set ?_ (IsS116.ge HI0.out) | refine below_set ?_ GE20.out) | exact HB.out)); (case s3 => exact cC_ (Kd.R_reads' HO24.out).2.2); (case s4 => exact (Kd.R_reads' HO24.out).2.1); (case s5 => exact far_slice (IsS116.own_ne HI0.out HO24.out (by decide))); rintro e w9 ⟨rfl, hi, hb, hk⟩; refine ⟨_, rfl, ?_⟩; replace BK20 := A_ (KeepBut.blk hk (g' := gb20) (o := .cells #[.string (⟨#[]⟩ : ByteArray), .string (⟨#[]⟩ : ByteArray), .string (⟨#[]⟩ : ByteArray)] 72 (0, 0)) (vb_ BK20.out) NB1135_0.out (by simp)); replace HO24 := A_ (Kd.R_mono (Kd.R_keep (IsS116.apart (show IsS116 w0 _ g s0_0 s0_1 s0_2 from by repeat (first | (with_reducible first | exact HI0.out | apply IsS116.alloc | apply IsS116.drewN | apply IsS116.drew | apply IsS116.set_1 | apply IsS116.set_2 | refine IsS116.far ?_ NB0_1135.out _) | exact HI0.out)) (vR_ HO24.out) (by decide)) hk (fun _ h => h.2)) (fun _ h => h.1)); replace HK := A_ (KeepBut.trans (by repeat (first | (with_reducible first | exact HK.out | apply KeepBut.set_ | apply keep_drewN | apply keep_drew | apply keep_alloc | refine keep_far ?_ GW20.out _) | exact HK.out)) hk (.inl rfl)); replace HB := A_ (hb); replace HI0 := A_ (hi); clear hb hk hi) | ((with_reducible refine gd_ (N := 7) rfl ?_); refine Kd.R_lit Kd.string _ 9 ?hg (N := 7) ?hd (xs := ([(⟨#[97]⟩ : ByteArray), (⟨#[99, 111, 108, 111, 114]⟩ : ByteArray), (⟨#[98]⟩ : ByteArray)] : List ByteArray)) (inner := [.string (⟨#[97]⟩ : ByteArray), .string (⟨#[99, 111, 108, 111, 114]⟩ : ByteArray), .string (⟨#[98]⟩ : ByteArray)]) (ok := fun _ => True) (okp := fun _ => True) ?hr ?hp (fun _ hk => hk) trivial (Below.refl _ _) (Nat.le_refl _) (by simp) ?_; (case hd => rfl); (case hg => rfl); (case hr => first | (go_simp; done) | (go_simp; rfl)); (case hp => exact (Reps.one (show Kd.M Kd.string _ _ _ (⟨#[97]⟩ : ByteArray) [.string (⟨#[97]⟩ : ByteArray)] from rfl) (Reps.one (show Kd.M Kd.string _ _ _ (⟨#[99, 111, 108, 111, 114]⟩ : ByteArray) [.string (⟨#[99, 111, 108, 111, 114]⟩ : ByteArray)] from rfl) (Reps.one (show Kd.M Kd.string _ _ _ (⟨#[98]⟩ : ByteArray) [.string (⟨#[98]⟩ : ByteArray)] from rfl) (Reps.none _ _))))); intro v37 w10 ho11 hb hg_ hnew_; clear hg_ hnew_; (first | rw [← Ny26.out] at ho11 | (simp only [Int.reduceToNat] at ho11; rw [← Ny26.out] at ho11)); have HO28 := A_ (Kd.R_lower (Kd.R_new' ho11 (Kd.R_lt (vR_ HO24.out))) (keep_size (w := w) (g := g) (row := none) (by repeat (first | (with_reducible first | exact HK.out | apply KeepBut.set_ | apply keep_drewN | apply keep_drew | apply keep_alloc | refine keep_far ?_ GW20.out _) | exact HK.out)))); replace HO24 := A_ (Kd.R_elder' (vR_ HO24.out) (kb_ ho11) hb); replace BK20 := A_ (bw_ BK20.out hb); replace HK := A_ (KeepBut.trans (by repeat (first | (with_reducible first | exact HK.out | apply KeepBut.set_ | apply keep_drewN | apply keep_drew | apply keep_alloc | refine keep_far ?_ GW20.out _) | exact HK.out)) (KeepBut.of_below hb g none) (.inl rfl)); replace HB := A_ (below_step (by repeat (first | (with_reducible first | exact HB.out | apply below_alloc | apply pw_below_drewN | apply below_drew1 | refine below_set ?_ (IsS116.ge HI0.out) | refine below_set ?_ GE20.out) | exact HB.out)) hb); replace HI0 := A_ (IsS116.below (by repeat (first | (with_reducible first | exact HI0.out | apply IsS116.alloc | apply IsS116.drewN | apply IsS116.drew | apply IsS116.set_1 | apply IsS116.set_2 | refine IsS116.far ?_ NB0_1135.out _) | exact HI0.out)) hb); clear hb ho11; obtain ⟨Ao12, co12, eo12⟩ := Kd.R_slice HO28.out; subst eo12) | ((with_reducible refine gc_ (f := 99) rfl ?_); refine gL_ (some 8) Try.func99 #[.pointer (some ⟨g, 0, none⟩), .slice Ao12 y26.length co12] ?_; (with_reducible refine (spec_l1Str.calls g s0_0 t29 t30 _ _ y26 t22 t32 t33 w0 _ ?s1 ?s2 ?s3 ?s4 ?s5 A3.out).mono ?_); (case s1 => repeat (first | (with_reducible first | exact HI0.out | apply IsS116.alloc | apply IsS116.drewN | apply IsS116.drew | apply IsS116.set_1 | apply IsS116.set_2 | refine IsS116.far ?_ NB0_1135.out _) | exact HI0.out)); (case s2 => repeat (first | (with_reducible first | exact HB.out | apply below_alloc | apply pw_below_drewN | apply below_drew1 | refine below_set ?_ (IsS116.ge HI0.out) | refine below_set ?_ GE20.out) | exact HB.out)); (case s3 => exact cC_ (Kd.R_reads' HO28.out).2.2); (case s4 => exact (Kd.R_reads' HO28.out).2.1); (case s5 => exact far_slice (IsS116.own_ne HI0.out HO28.out (by decide))); rintro e w13 ⟨rfl, hi, hb, hk⟩; refine ⟨_, rfl, ?_⟩; replace BK20 := A_ (KeepBut.blk hk (g' := gb20) (o := .cells #[.string (⟨#[]⟩ : ByteArray), .string (⟨#[]⟩ : ByteArray), .string (⟨#[]⟩ : ByteArray)] 72 (0, 0)) (vb_ BK20.out) NB1135_0.out (by simp)); replace HO24 := A_ (Kd.R_mono (Kd.R_keep (IsS116.apart (show IsS116 w0 _ g s0_0 t29 t30 from by repeat (first | (with_reducible first | exact HI0.out | apply IsS116.alloc | apply IsS116.drewN | apply IsS116.drew | apply IsS116.set_1 | apply IsS116.set_2 | refine IsS116.far ?_ NB0_1135.out _) | exact HI0.out)) (vR_ HO24.out) (by decide)) hk (fun _ h => h.2)) (fun _ h => h.1)); replace HO28 := A_ (Kd.R_mono (Kd.R_keep (IsS116.apart (show IsS116 w0 _ g s0_0 t29 t30 from by repeat (first | (with_reducible first | exact HI0.out | apply IsS116.alloc | apply IsS116.drewN | apply IsS116.drew | apply IsS116.set_1 | apply IsS116.set_2 | refine IsS116.far ?_ NB0_1135.out _) | exact HI0.out)) (vR_ HO28.out) (by decide)) hk (fun _ h => h.2)) (fun _ h => h.1)); replace HK := A_ (KeepBut.trans (by repeat (first | (with_reducible first | exact HK.out | apply KeepBut.set_ | apply keep_drewN | apply keep_drew | apply keep_alloc | refine keep_far ?_ GW20.out _) | exact HK.out)) hk (.inl rfl)); replace HB := A_ (hb); replace HI0 := A_ (hi); clear hb hk hi) | ((with_reducible refine gd_ (N := 10) rfl ?_); refine Kd.R_lit Kd.string _ 9 ?hg (N := 10) ?hd (xs := ([(⟨#[]⟩ : ByteArray), (⟨#[114, 101, 100]⟩ : ByteArray), (⟨#[97, 60, 98]⟩ : ByteArray)] : List ByteArray)) (inner := [.string (⟨#[]⟩ : ByteArray), .string (⟨#[114, 101, 100]⟩ : ByteArray), .string (⟨#[97, 60, 98]⟩ : ByteArray)]) (ok := fun _ => True) (okp := fun _ => True) ?hr ?hp (fun _ hk => hk) trivial (Below.refl _ _) (Nat.le_refl _) (by simp) ?_; (case hd => rfl); (case hg => rfl); (case hr => first | (go_simp; done) | (go_simp; rfl)); (case hp => exact (Reps.one (show Kd.M Kd.string _ _ _ (⟨#[]⟩ : ByteArray) [.string (⟨#[]⟩ : ByteArray)] from rfl) (Reps.one (show Kd.M Kd.string _ _ _ (⟨#[114, 101, 100]⟩ : ByteArray) [.string (⟨#[114, 101, 100]⟩ : ByteArray)] from rfl) (Reps.one (show Kd.M Kd.string _ _ _ (⟨#[97, 60, 98]⟩ : ByteArray) [.string (⟨#[97, 60, 98]⟩ : ByteArray)] from rfl) (Reps.none _ _))))); intro v38 w14 ho15 hb hg_ hnew_; clear hg_ hnew_; (first | rw [← Ny27.out] at ho15 | (simp only [Int.reduceToNat] at ho15; rw [← Ny27.out] at ho15)); have HO31 := A_ (Kd.R_lower (Kd.R_new' (Kd.R_new' ho15 (Kd.R_lt (vR_ HO24.out))) (Kd.R_lt (vR_ HO28.out))) (keep_size (w := w) (g := g) (row := none) (by repeat (first | (with_reducible first | exact HK.out | apply KeepBut.set_ | apply keep_drewN | apply keep_drew | apply keep_alloc | refine keep_far ?_ GW20.out _) | exact HK.out)))); replace BK20 := A_ (bw_ BK20.out hb); replace HK := A_ (KeepBut.trans (by repeat (first | (with_reducible first | exact HK.out | apply KeepBut.set_ | apply keep_drewN | apply keep_drew | apply keep_alloc | refine keep_far ?_ GW20.out _) | exact HK.out)) (KeepBut.of_below hb g none) (.inl rfl)); replace HB := A_ (below_step (by repeat (first | (with_reducible first | exact HB.out | apply below_alloc | apply pw_below_drewN | apply below_drew1 | refine below_set ?_ (IsS116.ge HI0.out) | refine below_set ?_ GE20.out) | exact HB.out)) hb); replace HI0 := A_ (IsS116.below (by repeat (first | (with_reducible first | exact HI0.out | apply IsS116.alloc | apply IsS116.drewN | apply IsS116.drew | apply IsS116.set_1 | apply IsS116.set_2 | refine IsS116.far ?_ NB0_1135.out _) | exact HI0.out)) hb); clear hb ho15; obtain ⟨Ao16, co16, eo16⟩ := Kd.R_slice HO31.out; subst eo16) | ((with_reducible refine gc_ (f := 99) rfl ?_); refine gL_ (some 11) Try.func99 #[.pointer (some ⟨g, 0, none⟩), .slice Ao16 y27.length co16] ?_; (with_reducible refine (spec_l1Str.calls g s0_0 t32 t33 _ _ y27 t21 t34 t35 w0 _ ?s1 ?s2 ?s3 ?s4 ?s5 A4.out).mono ?_); (case s1 => repeat (first | (with_reducible first | exact HI0.out | apply IsS116.alloc | apply IsS116.drewN | apply IsS116.drew | apply IsS116.set_1 | apply IsS116.set_2 | refine IsS116.far ?_ NB0_1135.out _) | exact HI0.out)); (case s2 => repeat (first | (with_reducible first | exact HB.out | apply below_alloc | apply pw_below_drewN | apply below_drew1 | refine below_set ?_ (IsS116.ge HI0.out) | refine below_set ?_ GE20.out) | exact HB.out)); (case s3 => exact cC_ (Kd.R_reads' HO31.out).2.2); (case s4 => exact (Kd.R_reads' HO31.out).2.1); (case s5 => exact far_slice (IsS116.own_ne HI0.out HO31.out (by decide))); rintro e w17 ⟨rfl, hi, hb, hk⟩; refine ⟨_, rfl, ?_⟩; replace BK20 := A_ (KeepBut.blk hk (g' := gb20) (o := .cells #[.string (⟨#[]⟩ : ByteArray), .string (⟨#[]⟩ : ByteArray), .string (⟨#[]⟩ : ByteArray)] 72 (0, 0)) (vb_ BK20.out) NB1135_0.out (by simp)); replace HK := A_ (KeepBut.trans (by repeat (first | (with_reducible first | exact HK.out | apply KeepBut.set_ | apply keep_drewN | apply keep_drew | apply keep_alloc | refine keep_far ?_ GW20.out _) | exact HK.out)) hk (.inl rfl)); replace HB := A_ (hb); replace HI0 := A_ (hi); clear hb hk hi; have hnb18 := NB1135_0.out; have hnc18 := NB0_1135.out; obtain ⟨hcz19_0, hcz19_1, hcz19_2, hfz19_0, hfz19_1, hfz19_2⟩ := cz3_ BK20.out))
 refine bodyPost_ret (results_cell_row rfl _ _ gb20 72 #[.string t23, .string t22, .string t21] (0, 0) _ rfl (by (with_reducible repeat (first | refine blk_drewN ?_ _ | refine blk_drew ?_ | refine blk_alloc ?_ _)); with_reducible exact p3_012_ (vb_ BK20.out)) Try.underlying72 rfl (by kernel_rfl)) rfl ?_
 exact ⟨rr_, by repeat (first | (with_reducible first | exact HI0.out | apply IsS116.alloc | apply IsS116.drewN | apply IsS116.drew | apply IsS116.set_1 | apply IsS116.set_2 | refine IsS116.far ?_ NB0_1135.out _) | exact HI0.out), by repeat (first | (with_reducible first | exact HB.out | apply below_alloc | apply pw_below_drewN | apply below_drew1 | refine below_set ?_ (IsS116.ge HI0.out) | refine below_set ?_ GE20.out) | exact HB.out), by repeat (first | (with_reducible first | exact HK.out | apply KeepBut.set_ | apply keep_drewN | apply keep_drew | apply keep_alloc | refine keep_far ?_ GW20.out _) | exact HK.out)⟩
def spec_l10Props.l0 : Nat -> List (S72) -> Int -> List Int -> Int -> Int -> Option ((List (S72)) × Int × Int)
 | 0, _, _, _, _, _ => none
 | k + 1, x3, x4, x1000, x1001, x1002 => if x4 > 0 then ((spec_l10OneProp.f x1000 x1001 x1002).bind fun bt1160 => ((spec_SetProps.f k x3 (([(⟨false, (⟨bt1160.1, bt1160.2.1, bt1160.2.2.1⟩ : S72)⟩ : S74)] : List (S74)))).bind fun bt1168 => (spec_l10Props.l0 k bt1168.1 (wrap64 (x4 - 1)) x1000 bt1160.2.2.2.1 bt1160.2.2.2.2))) else (some (x3, x1001, x1002))
def spec_l10Props.f (k : Nat) (s0_0 : List Int) (s0_1 : Int) (s0_2 : Int) : Option ((List (S72)) × Int × Int) := (spec_l1Below.f s0_0 s0_1 s0_2 3).bind fun bt1157 => (spec_l10Props.l0 k (([] : List (S72))) bt1157.1 s0_0 bt1157.2.1 bt1157.2.2)
theorem spec_l10Props.calls (k : Nat) (g : Nat) (s0_0 : List Int) (s0_1 : Int) (s0_2 : Int) (r1 : List (S72)) (r2 : Int) (r3 : Int) (w0 w : World) (hI : IsS116 w0 w g s0_0 s0_1 s0_2) (hB : Below w0.heap.size w0 w) (h : spec_l10Props.f k s0_0 s0_1 s0_2 = some (r1, r2, r3)) :
 Calls Try.prog 98 #[.pointer (some ⟨g, 0, none⟩)] w fun e w' => ∃ v0_ : Value, e = .returned (v0_) /\ Kd.R k72 72 w' w.heap.size (fun _ => True) v0_ r1 /\ IsS116 w0 w' g s0_0 r2 r3 /\ Below w0.heap.size w0 w' /\ KeepBut w w' g none := by
 have hu74 := Try.underlying74
 have HI0 := A_ hI
 have HK := A_ (KeepBut.refl w g none)
 have HL := A_ hB.size
 clear hI
 have HW0 := A_ hB.size
 have HB := A_ hB
 clear hB
 have H : ((spec_l1Below.f s0_0 s0_1 s0_2 3).bind fun bt15 => (spec_l10Props.l0 k (([] : List (S72))) bt15.1 s0_0 bt15.2.1 bt15.2.2)) = some (r1, r2, r3) := h
 clear h
 obtain ⟨y17, hy17⟩ : ∃ y_ : List (S72), y_ = (([] : List (S72))) := ⟨_, rfl⟩
 replace H : ((spec_l1Below.f s0_0 s0_1 s0_2 3).bind fun bt15 => (spec_l10Props.l0 k y17 bt15.1 s0_0 bt15.2.1 bt15.2.2)) = some (r1, r2, r3) := hy_ hy17 H
 have Ny17 := A_ hy17
 clear hy17
 obtain ⟨⟨t15, t26, t27⟩, A2, H⟩ := bo_ H
 (try dsimp only at H)
 have H' := A_ H
 clear H
 go_enter Try.func98, Try.ntmps98
 go_wp2_with (first | ((with_reducible refine gd_ (N := 5) rfl ?_); refine Kd.R_lit k72 _ 72 ?hg (N := 5) ?hd (xs := ([] : List (S72))) (inner := []) (ok := fun _ => True) (okp := fun _ => True) ?hr ?hp (fun _ hk => hk) trivial (Below.refl _ _) (Nat.le_refl _) (by simp) ?_; (case hd => rfl); (case hg => rfl); (case hr => first | (go_simp; done) | (go_simp; rfl)); (case hp => exact (Reps.none _ _)); intro v30 w3 ho4 hb hg_ hnew_; clear hg_ hnew_; (first | rw [← Ny17.out] at ho4 | (simp only [Int.reduceToNat] at ho4; rw [← Ny17.out] at ho4)); have HO22 := A_ (Kd.R_lower ho4 (keep_size (w := w) (g := g) (row := none) bK_)); replace HK := A_ (KeepBut.trans bK_ (KeepBut.of_below hb g none) (.inl rfl)); replace HB := A_ (below_step bIQx290_ hb); replace HI0 := A_ (IsS116.below bIQx291_ hb); clear hb ho4) | ((with_reducible refine gc_ (f := 117) rfl ?_); refine gL_ (some 7) Try.func117 #[.pointer (some ⟨g, 0, none⟩), .int .i64 3] ?_; (with_reducible refine (spec_l1Below.calls g s0_0 s0_1 s0_2 3 t15 t26 t27 w0 _ ?s1 ?s2 A2.out).mono ?_); (case s1 => exact bIQx291_); (case s2 => exact bIQx290_); rintro e w5 ⟨rfl, hi, hb, hk⟩; refine ⟨_, rfl, ?_⟩; replace HO22 := A_ (Kd.R_mono (Kd.R_keep (IsS116.apart (show IsS116 w0 _ g s0_0 s0_1 s0_2 from bIQx291_) (vR_ HO22.out) (by decide)) hk (fun _ h => h.2)) (fun _ h => h.1)); replace HK := A_ (KeepBut.trans bK_ hk (.inl rfl)); replace HB := A_ (hb); replace HI0 := A_ (hi); clear hb hk hi))
 go_loopg [3, 4] k (fun kq v3 v4 w' => ∃ (x3_1 : List (S72)) (x4_1 : Int) (x1001_1 : Int) (x1002_1 : Int), v4 = .int .i64 x4_1 /\ Aside0 (spec_l10Props.l0 kq x3_1 x4_1 s0_0 x1001_1 x1002_1 = some (r1, r2, r3)) /\ Aside0 (kq <= k) /\ Aside0 (Kd.R k72 72 w' w.heap.size (fun _ => True) v3 x3_1) /\ Aside0 (IsS116 w0 w' g s0_0 x1001_1 x1002_1) /\ Aside0 (KeepBut w w' g none) /\ Aside0 (Below w0.heap.size w0 w'))
 case atStart => exact ⟨(y17), (t15), (t26), (t27), rs_, H', ⟨Nat.le_refl _⟩, ⟨vR_ HO22.out⟩, ⟨bIQx291_⟩, ⟨bK_⟩, ⟨bIQx290_⟩⟩
 case round =>
  clear H'
  obtain ⟨x3_1, x4_1, x1001_1, x1002_1, rfl, HA, HK1, HO_3, HI0, HK, HB⟩ := hrel
  cases gk with
  | zero => exact absurd HA.out (by simp [spec_l10Props.l0])
  | succ k1 =>
   have H := HA.out
   clear HA
   simp only [spec_l10Props.l0] at H
   by_cases c6 : x4_1 > 0
   rotate_left
   . rw [if_neg c6] at H
     have c6b0 : decide (0 < x4_1) = false := decide_eq_false c6
     clear c6
     simp only [Option.some.injEq, Prod.mk.injEq] at H
     obtain ⟨rfl, rfl, rfl⟩ := H
     go_wp2
     go_ret
     exact ⟨_, rr_, vR_ HO_3.out, bIQx291_, bIQx290_, bK_⟩
   rw [if_pos c6] at H
   have c6b0 : decide (0 < x4_1) = true := decide_eq_true c6
   clear c6
   obtain ⟨⟨t18, t19, t20, t23, t24⟩, A7, H⟩ := bo_ H
   (try dsimp only at H)
   obtain ⟨y16, hy16⟩ : ∃ y_ : List (S74), y_ = (([(⟨false, (⟨t18, t19, t20⟩ : S72)⟩ : S74)] : List (S74))) := ⟨_, rfl⟩
   replace H : ((spec_SetProps.f k1 x3_1 y16).bind fun bt21 => (spec_l10Props.l0 k1 bt21.1 (wrap64 (x4_1 - 1)) s0_0 t23 t24)) = some (r1, r2, r3) := hy_ hy16 H
   have Ny16 := A_ hy16
   clear hy16
   obtain ⟨⟨t21, t28⟩, A8, H⟩ := bo_ H
   (try dsimp only at H)
   have H' := A_ H
   clear H
   go_wp2_with (first | ((with_reducible refine gc_ (f := 128) rfl ?_); refine gL_ (some 15) Try.func128 #[.pointer (some ⟨g, 0, none⟩)] ?_; (with_reducible refine (spec_l10OneProp.calls g s0_0 x1001_1 x1002_1 t18 t19 t20 t23 t24 w0 _ ?s1 ?s2 A7.out).mono ?_); (case s1 => exact bIQx291_); (case s2 => exact bIQx290_); rintro e w9 ⟨rfl, hi, hb, hk⟩; refine ⟨_, rfl, ?_⟩; replace HO_3 := A_ (Kd.R_mono (Kd.R_keep (IsS116.apart (show IsS116 w0 _ g s0_0 x1001_1 x1002_1 from bIQx291_) (vR_ HO_3.out) (by decide)) hk (fun _ h => h.2)) (fun _ h => h.1)); replace HK := A_ (KeepBut.trans bK_ hk (.inl rfl)); replace HB := A_ (hb); replace HI0 := A_ (hi); clear hb hk hi) | ((with_reducible refine gd_ (N := 17) rfl ?_); refine Kd.R_lit k74 _ 74 ?hg (N := 17) ?hd (xs := ([(⟨false, (⟨t18, t19, t20⟩ : S72)⟩ : S74)] : List (S74))) (inner := [.bool false, .string t18, .string t19, .string t20]) (ok := fun _ => True) (okp := fun _ => True) ?hr ?hp (fun _ hk => hk) trivial (Below.refl _ _) (Nat.le_refl _) (by simp) ?_; (case hd => rfl); (case hg => rfl); (case hr => first | (go_simp; done) | (go_simp; rfl)); (case hp => exact (Reps.c4 (show Kd.M k74 _ _ _ (⟨false, (⟨t18, t19, t20⟩ : S72)⟩ : S74) [.bool false, .string t18, .string t19, .string t20] from (k74_mkM _ _ _ (⟨false, (⟨t18, t19, t20⟩ : S72)⟩ : S74) )) (Reps.none _ _))); intro v31 w10 ho11 hb hg_ hnew_; clear hg_ hnew_; (first | rw [← Ny16.out] at ho11 | (simp only [Int.reduceToNat] at ho11; rw [← Ny16.out] at ho11)); replace HO_3 := A_ (Kd.R_below (vR_ HO_3.out) hb); have HO25 := A_ (Kd.R_lower ho11 (keep_size (w := w) (g := g) (row := none) bK_)); replace HK := A_ (KeepBut.trans bK_ (KeepBut.of_below hb g none) (.inl rfl)); replace HB := A_ (below_step bIQx290_ hb); replace HI0 := A_ (IsS116.below bIQx291_ hb); clear hb ho11; obtain ⟨Ao12, co12, eo12⟩ := Kd.R_slice HO_3.out; subst eo12; obtain ⟨Ao13, co13, eo13⟩ := Kd.R_slice HO25.out; subst eo13) | ((with_reducible refine gc_ (f := 54) rfl ?_); refine gL_ (some 18) Try.func54 #[.slice Ao12 x3_1.length co12, .slice Ao13 y16.length co13] ?_; (with_reducible refine (spec_SetProps.calls k1 _ _ x3_1 _ _ y16 t21 t28 _ ?s1 ?s2 ?s3 ?s4 A8.out).mono ?_); (case s1 => exact cC_ (Kd.R_reads' HO_3.out).2.2); (case s2 => exact (Kd.R_reads' HO_3.out).2.1); (case s3 => exact cC_ (Kd.R_reads' HO25.out).2.2); (case s4 => exact (Kd.R_reads' HO25.out).2.1); rintro e w14 ⟨v32, rfl, ho0, hb⟩; refine ⟨_, rfl, ?_⟩; have HO29 := A_ (Kd.R_lower (Kd.R_new' ho0 (Kd.R_lt (vR_ HO_3.out))) (keep_size (w := w) (g := g) (row := none) bK_)); replace HK := A_ (KeepBut.trans bK_ (KeepBut.of_below hb g none) (.inl rfl)); replace HB := A_ (below_step bIQx290_ hb); replace HI0 := A_ (IsS116.below bIQx291_ hb); (try clear hb); (try clear hk); (try clear hi); (try clear ho0)))
   go_roundg k1
   case measure => have := HK1.out; omega
   case rel => exact ⟨(t21), (wrap64 (x4_1 - 1)), (t23), (t24), rs_, H', ⟨by have := HK1.out; omega⟩, ⟨by (with_reducible repeat (first | apply Kd.R_alloc | apply Kd.R_drewN | apply Kd.R_drew)); exact Kd.R_mono HO29.out (fun _ hk => trivial)⟩, ⟨bIQx291_⟩, ⟨bK_⟩, ⟨bIQx290_⟩⟩
mutual
def spec_l10Draw.l0 : Nat -> List (S57) -> Int -> List Int -> Int -> Int -> Option ((List (S57)) × Int × Int)
 | 0, _, _, _, _, _ => none
 | k + 1, x3, x4, x1000, x1001, x1002 => if x4 > 0 then ((spec_l10Path.f k x1000 x1001 x1002 x3).bind fun bt1178 => ((spec_l1Once.f x1000 bt1178.2.1 bt1178.2.2 2).bind fun bt1183 => (if bt1183.1 = true then ((spec_l1Below.f x1000 bt1183.2.1 bt1183.2.2 9).bind fun bt1186 => ((spec_MakeColl.f k x3 bt1178.1 bt1186.1).bind fun bt1189 => (spec_l10Draw.j1 k bt1189.1 x4 x1000 bt1186.2.1 bt1186.2.2))) else ((spec_l1Str.f x1000 bt1183.2.1 bt1183.2.2 (([(⟨#[]⟩ : ByteArray), (⟨#[120]⟩ : ByteArray), (⟨#[104, 101, 108, 108, 111]⟩ : ByteArray)] : List ByteArray))).bind fun bt1196 => ((spec_l1Below.f x1000 bt1196.2.1 bt1196.2.2 9).bind fun bt1199 => ((spec_PutFile.f k x3 bt1178.1 bt1196.1 bt1199.1).bind fun bt1202 => (spec_l10Draw.j1 k bt1202.1 x4 x1000 bt1199.2.1 bt1199.2.2))))))) else (some (x3, x1001, x1002))
def spec_l10Draw.j1 : Nat -> List (S57) -> Int -> List Int -> Int -> Int -> Option ((List (S57)) × Int × Int)
 | 0, _, _, _, _, _ => none
 | k + 1, x3, x4, x1000, x1001, x1002 => if (x3.length : Int) > 0 then ((spec_l1Once.f x1000 x1001 x1002 3).bind fun bt1206 => (spec_l10Draw.j2 k x3 x4 bt1206.1 x1000 bt1206.2.1 bt1206.2.2)) else (spec_l10Draw.j2 k x3 x4 false x1000 x1001 x1002)
def spec_l10Draw.j2 : Nat -> List (S57) -> Int -> Bool -> List Int -> Int -> Int -> Option ((List (S57)) × Int × Int)
 | 0, _, _, _, _, _, _ => none
 | k + 1, x3, x4, x43, x1000, x1001, x1002 => if x43 = true then ((spec_l1Below.f x1000 x1001 x1002 (x3.length : Int)).bind fun bt1209 => ((spec_l10Props.f k x1000 bt1209.2.1 bt1209.2.2).bind fun bt1212 => (if 0 <= bt1209.1 then (if bt1209.1 < (x3.length : Int) then (spec_l10Draw.l0 k (x3.set (bt1209.1 : Int).toNat (⟨(rd_T57 x3 bt1209.1).f0, (rd_T57 x3 bt1209.1).f1, (rd_T57 x3 bt1209.1).f2, (rd_T57 x3 bt1209.1).f3, bt1212.1⟩ : S57)) (wrap64 (x4 - 1)) x1000 bt1212.2.1 bt1212.2.2) else (none)) else (none)))) else (spec_l10Draw.l0 k x3 (wrap64 (x4 - 1)) x1000 x1001 x1002)
end
def spec_l10Draw.f (k : Nat) (s0_0 : List Int) (s0_1 : Int) (s0_2 : Int) : Option ((List (S57)) × Int × Int) := (spec_l1Below.f s0_0 s0_1 s0_2 10).bind fun bt1175 => (spec_l10Draw.l0 k (([] : List (S57))) bt1175.1 s0_0 bt1175.2.1 bt1175.2.2)
def spec_DrawShelves.f (k : Nat) (l0 : List Int) : Option ((List (S57)) × List ByteArray × List ByteArray) := (spec_l1New.f k l0).bind fun bt1218 => ((spec_l10Draw.f k bt1218.1 bt1218.2.1 bt1218.2.2).bind fun bt1222 => ((spec_l10Path.f k bt1218.1 bt1222.2.1 bt1222.2.2 bt1222.1).bind fun bt1227 => ((spec_l10Path.f k bt1218.1 bt1227.2.1 bt1227.2.2 bt1222.1).bind fun bt1232 => (some (bt1222.1, bt1227.1, bt1232.1)))))
end Go.Proofs.Ytbgggcgjijljkaa.Q
