-- PRINTED by print.py (a twelfth state) out of the translation. Not trusted: Lean checks it.
import Derived.Test.YtbgggcgjijljkaaVFnShelvesG22
import Derived.Test.YtbgggcgjijljkaaVFnShelvesG27
namespace Go.Proofs.Ytbgggcgjijljkaa.Q
open Go.RowKit Go.Proofs.YtbgggcgjijljkaaW.PrintWords Go.Proofs.YtbgggcgjijljkaaW.PrintLast Go.Proofs.YtbgggcgjijljkaaW.PrintMore
attribute [local go_sem] max2_int min2_int max_two min_two max_three min_three max_four min_four   -- for this text's walks alone
set_option linter.unusedVariables false
set_option linter.unusedSimpArgs false
theorem bIQx280_ {P : Prop} (h : P := by repeat (first | (with_reducible first | exact HB.out | apply below_alloc | apply pw_below_drewN | apply below_drew1 | refine below_set ?_ (IsS116.ge HI0.out)) | exact HB.out)) : P := h
theorem bIQx281_ {P : Prop} (h : P := by repeat (first | (with_reducible first | exact HI0.out | apply IsS116.alloc | apply IsS116.drewN | apply IsS116.drew | apply IsS116.set_1 | apply IsS116.set_2) | exact HI0.out)) : P := h
def laws_big.f (l0 : List Int) : Option (Bool) := some (decide ((l0.length : Int) > 1048576))
set_option maxHeartbeats 8000000 in
set_option maxRecDepth 100000 in
theorem laws_big.calls (A0 : Option Addr) (c0 : Nat) (l0 : List Int) (r : Bool) (w : World) (hr0 : Kd.C (Kd.int .u8) w A0 l0.length l0) (hc0 : l0.length ≤ c0) (h : laws_big.f l0 = some r) :
 Calls Try.prog 38 #[.slice A0 l0.length c0] w fun e w' => e = .returned (.bool r) ∧ Drawn0 w w' := by
 have HR0 := Aside0.mk hr0
 have HC0 := Aside0.mk hc0
 clear hr0 hc0
 have H : (some (decide ((l0.length : Int) > 1048576))) = some r := h
 clear h
 obtain rfl := Option.some.inj H
 go_enter Try.func38, Try.ntmps38
 go_wp2
 go_ret
 exact ⟨rs_, dr_⟩
def IsS116 (w0 W : World) (g : Nat) (f0 : List Int) (f1 : Int) (f2 : Int) : Prop := ∃ A0 c0, W.heap[g]? = some (.cells #[.slice A0 f0.length c0, .int .i64 f1, .int .i64 f2] 116 (0, 0)) ∧ w0.heap.size ≤ g ∧ Kd.C (Kd.int .u8) w0 A0 f0.length f0
theorem IsS116.grown {w0 W : World} {g : Nat} {f0 : List Int} {f1 : Int} {f2 : Int} {W1 : World} {row : Option Nat} (h : IsS116 w0 W g f0 f1 f2) (hw : W.grownBy W1 row) (hne : some g ≠ row) : IsS116 w0 W1 g f0 f1 f2 := by
 obtain ⟨A0, c0, hb, hg, hr0⟩ := h
 exact ⟨A0, c0, blk_grown hb hw hne, hg, hr0⟩
theorem IsS116.kept {w0 W : World} {g : Nat} {f0 : List Int} {f1 : Int} {f2 : Int} {W1 : World} {S : Nat → Prop} (h : IsS116 w0 W g f0 f1 f2) (hk : Kept W W1 S) (hne : ¬ S g) : IsS116 w0 W1 g f0 f1 f2 := by
 obtain ⟨A0, c0, hb, hg, hr0⟩ := h
 exact ⟨A0, c0, blk_kept hb hk hne, hg, hr0⟩
theorem IsS116.below {w0 W : World} {g : Nat} {f0 : List Int} {f1 : Int} {f2 : Int} {W1 : World} (h : IsS116 w0 W g f0 f1 f2) (hw : Below W.heap.size W W1) : IsS116 w0 W1 g f0 f1 f2 := h.grown (grown_of_below hw none) (by simp)
theorem IsS116.alloc {w0 W : World} {g : Nat} {f0 : List Int} {f1 : Int} {f2 : Int} (h : IsS116 w0 W g f0 f1 f2) (o : Obj) : IsS116 w0 (W.alloc o) g f0 f1 f2 := h.below (below_alloc (Below.refl _ _) o)
theorem IsS116.drewN {w0 W : World} {g : Nat} {f0 : List Int} {f1 : Int} {f2 : Int} (h : IsS116 w0 W g f0 f1 f2) (m : Nat) : IsS116 w0 (W.drewN m) g f0 f1 f2 := h
theorem IsS116.drew {w0 W : World} {g : Nat} {f0 : List Int} {f1 : Int} {f2 : Int} (h : IsS116 w0 W g f0 f1 f2) : IsS116 w0 W.drew g f0 f1 f2 := h
theorem IsS116.apart {w0 W : World} {g : Nat} {f0 : List Int} {f1 : Int} {f2 : Int} {α : Type} {d : Kd α} {e : Nat} {base : Nat} {ok : Nat → Prop} {v : Value} {xs : List α} (h : IsS116 w0 W g f0 f1 f2) (ho : d.R e W base ok v xs) (ht : ∀ q, q ∈ e :: d.E → q ≠ 116) : d.R e W base (fun k => ok k ∧ k ≠ g) v xs := by
 obtain ⟨A0, c0, hb, hg, hr0⟩ := h
 exact Kd.R_types ho hb ht
theorem IsS116.own_ne {w0 W : World} {g : Nat} {f0 : List Int} {f1 : Int} {f2 : Int} {α : Type} {d : Kd α} {e : Nat} {base : Nat} {ok : Nat → Prop} {v : Value} {xs : List α} (h : IsS116 w0 W g f0 f1 f2) (ho : d.R e W base ok v xs) (ht : e ≠ 116) : some g ≠ v.ownBlock := by
 obtain ⟨A0, c0, hb, hg, hr0⟩ := h
 exact Kd.R_ne ho hb ht
theorem IsS116.apartS {w0 W : World} {g : Nat} {f0 : List Int} {f1 : Int} {f2 : Int} {α : Type} {d : Kd α} {e : Nat} {base : Nat} {ok : Nat → Prop} {v : Value} {xs : List α} (h : IsS116 w0 W g f0 f1 f2) (ho : d.S e W base ok v xs) (ht : ∀ q, q ∈ e :: d.E → q ≠ 116) : d.S e W base (fun k => ok k ∧ k ≠ g) v xs := by
 obtain ⟨A0, c0, hb, hg, hr0⟩ := h
 exact Kd.S_types ho hb ht
theorem IsS116.own_neS {w0 W : World} {g : Nat} {f0 : List Int} {f1 : Int} {f2 : Int} {α : Type} {d : Kd α} {e : Nat} {base : Nat} {ok : Nat → Prop} {v : Value} {xs : List α} (h : IsS116 w0 W g f0 f1 f2) (ho : d.S e W base ok v xs) (ht : e ≠ 116) : some g ≠ v.ownBlock := by
 obtain ⟨A0, c0, hb, hg, hr0⟩ := h
 exact Kd.S_ne ho hb ht
theorem IsS116.lt {w0 W : World} {g : Nat} {f0 : List Int} {f1 : Int} {f2 : Int} (h : IsS116 w0 W g f0 f1 f2) : g < W.heap.size := by
 obtain ⟨A0, c0, hb, hg, hr0⟩ := h
 exact blk_lt hb
theorem IsS116.ge {w0 W : World} {g : Nat} {f0 : List Int} {f1 : Int} {f2 : Int} (h : IsS116 w0 W g f0 f1 f2) : w0.heap.size ≤ g := by
 obtain ⟨A0, c0, hb, hg, hr0⟩ := h
 exact hg
theorem IsS116.far {w0 W : World} {g : Nat} {f0 : List Int} {f1 : Int} {f2 : Int} {p : Addr} (h : IsS116 w0 W g f0 f1 f2) (hne : g ≠ p.block) (u : Value) : IsS116 w0 (W.setCell p u) g f0 f1 f2 := by
 obtain ⟨A0, c0, hb, hg, hr0⟩ := h
 exact ⟨A0, c0, blk_far hb hne u, hg, hr0⟩
theorem cellS116_0 {W : World} {g : Nat} {A0 : Option Addr} {c0 : Nat} {f0 : List Int} {f1 : Int} {f2 : Int} (h : W.heap[g]? = some (.cells #[.slice A0 f0.length c0, .int .i64 f1, .int .i64 f2] 116 (0, 0))) : W.cell? ⟨g, 0, none⟩ = some (.slice A0 f0.length c0) := (blk_cell h 0).trans rfl
theorem cellS116_1 {W : World} {g : Nat} {A0 : Option Addr} {c0 : Nat} {f0 : List Int} {f1 : Int} {f2 : Int} (h : W.heap[g]? = some (.cells #[.slice A0 f0.length c0, .int .i64 f1, .int .i64 f2] 116 (0, 0))) : W.cell? ⟨g, 1, none⟩ = some (.int .i64 f1) := (blk_cell h 1).trans rfl
theorem IsS116.set_1 {w0 W : World} {g : Nat} {f0 : List Int} {f1 : Int} {f2 : Int} (h : IsS116 w0 W g f0 f1 f2) (x : Int) : IsS116 w0 (W.setCell ⟨g, 1, none⟩ (.int .i64 x)) g f0 x f2 := by
 obtain ⟨A0, c0, hb, hg, hr0⟩ := h
 exact ⟨A0, c0, by simpa using blk_set hb 1 (.int .i64 x), hg, hr0⟩
theorem cellS116_2 {W : World} {g : Nat} {A0 : Option Addr} {c0 : Nat} {f0 : List Int} {f1 : Int} {f2 : Int} (h : W.heap[g]? = some (.cells #[.slice A0 f0.length c0, .int .i64 f1, .int .i64 f2] 116 (0, 0))) : W.cell? ⟨g, 2, none⟩ = some (.int .i64 f2) := (blk_cell h 2).trans rfl
theorem IsS116.set_2 {w0 W : World} {g : Nat} {f0 : List Int} {f1 : Int} {f2 : Int} (h : IsS116 w0 W g f0 f1 f2) (x : Int) : IsS116 w0 (W.setCell ⟨g, 2, none⟩ (.int .i64 x)) g f0 f1 x := by
 obtain ⟨A0, c0, hb, hg, hr0⟩ := h
 exact ⟨A0, c0, by simpa using blk_set hb 2 (.int .i64 x), hg, hr0⟩
theorem IsS116.new (w0 W : World) (A0 : Option Addr) (c0 : Nat) (f0 : List Int) (f1 : Int) (f2 : Int) (hB : Below w0.heap.size w0 W) (hr0 : Kd.C (Kd.int .u8) w0 A0 f0.length f0) : IsS116 w0 (W.alloc (.cells #[.slice A0 f0.length c0, .int .i64 f1, .int .i64 f2] 116)) W.heap.size f0 f1 f2 := ⟨A0, c0, by simpa using heap_alloc_new W _, hB.size, hr0⟩
def spec_l1New.l0 : Nat → List Int → Int → Int → Option (List Int × Int × Int)
 | 0, _, _, _ => none
 | k + 1, x0, x3, x4 => if x4 < (x0.length : Int) then (if x4 < 4000 then (if 0 ≤ x4 then (spec_l1New.l0 k x0 (Go.bits .and .i64 (wrap64 ((wrap64 ((wrap64 (x3 * 137)) + (wrap64 (rd x0 x4)))) + 11)) 1073741823) (wrap64 (x4 + 1))) else (none)) else (some (x0, 0, x3))) else (some (x0, 0, x3))
def spec_l1New.f (k : Nat) (l0 : List Int) : Option (List Int × Int × Int) := spec_l1New.l0 k l0 (wrap64 (774774 + (l0.length : Int))) 0
set_option maxHeartbeats 8000000 in
set_option maxRecDepth 100000 in
theorem spec_l1New.calls (k : Nat) (A0 : Option Addr) (c0 : Nat) (l0 : List Int) (r1 : List Int) (r2 : Int) (r3 : Int) (w0 w : World) (hB : Below w0.heap.size w0 w) (hr0 : Kd.C (Kd.int .u8) w0 A0 l0.length l0) (hc0 : l0.length ≤ c0) (h : spec_l1New.f k l0 = some (r1, r2, r3)) :
 Calls Try.prog 84 #[.slice A0 l0.length c0] w fun e w' => ∃ g_ : Nat, e = .returned (.pointer (some ⟨g_, 0, none⟩)) ∧ IsS116 w0 w' g_ r1 r2 r3 ∧ Below w0.heap.size w0 w' ∧ Below w.heap.size w w' := by
 have hu116 := Try.underlying116
 have HR0 := Aside0.mk hr0
 have HC0 := Aside0.mk hc0
 clear hr0 hc0
 have HBW := A_ (Below.refl w.heap.size w)
 have HW0 := Aside0.mk hB.size
 have HB := Aside0.mk hB
 clear hB
 have H : (spec_l1New.l0 k l0 (wrap64 (774774 + (l0.length : Int))) 0) = some (r1, r2, r3) := h
 clear h
 have H' := Aside0.mk H
 clear H
 go_enter Try.func84, Try.ntmps84
 go_wp2
 go_loopg [3, 4] k (fun kq v3 v4 w' => ∃ (x3_1 : Int) (x4_1 : Int), v3 = .int .i64 x3_1 ∧ v4 = .int .i64 x4_1 ∧ Aside0 (spec_l1New.l0 kq l0 x3_1 x4_1 = some (r1, r2, r3)) ∧ Aside0 (kq ≤ k) ∧ Aside0 (Below w0.heap.size w0 w') ∧ Aside0 (Below w.heap.size w w'))
 case atStart => exact ⟨(wrap64 (774774 + (l0.length : Int))), (0), rs_, rs_, H', ⟨Nat.le_refl _⟩, ⟨bB_⟩, ⟨by repeat (first | (with_reducible first | exact HBW.out | apply below_alloc | apply pw_below_drewN | apply below_drew1) | exact HBW.out)⟩⟩
 case round =>
  clear H'
  obtain ⟨x3_1, x4_1, rfl, rfl, HA, HK1, HB, HBW⟩ := hrel
  cases gk with
  | zero => exact absurd HA.out (by simp [spec_l1New.l0])
  | succ k1 =>
   have H := HA.out
   clear HA
   simp only [spec_l1New.l0] at H
   by_cases c2 : x4_1 < (l0.length : Int)
   rotate_left
   · rw [if_neg c2] at H
     have c2b0 : decide (x4_1 < (l0.length : Int)) = false := decide_eq_false c2
     clear c2
     simp only [Option.some.injEq, Prod.mk.injEq] at H
     obtain ⟨rfl, rfl, rfl⟩ := H
     go_wp2_with (first | ((with_reducible refine gate_dst (N := 31) rfl ?_); refine bx_ (N := 31) (cs := #[.slice A0 l0.length c0, .int .i64 0, .int .i64 x3_1]) (t := 116) ?_; intro gb1069 hg w6 hbox hb; replace HB := A_ (below_step bB_ hb); have BK1069 := A_ (hbox); have GW1069 := A_ ((by rw [hg]; exact (below_size (by repeat (first | (with_reducible first | exact HBW.out | apply below_alloc | apply pw_below_drewN | apply below_drew1) | exact HBW.out))) : w.heap.size ≤ gb1069)); have GE1069 := A_ ((Nat.le_trans HW0.out (by rw [hg]; exact (below_size (by repeat (first | (with_reducible first | exact HBW.out | apply below_alloc | apply pw_below_drewN | apply below_drew1) | exact HBW.out))) : w.heap.size ≤ gb1069) : w0.heap.size ≤ gb1069)); replace HBW := A_ (below_step HBW.out hb); clear hb hbox hg))
     go_ret
     exact ⟨_, rfl, (show IsS116 w0 _ gb1069 l0 0 x3_1 from ⟨_, _, by (with_reducible repeat (first | refine blk_drewN ?_ _ | refine blk_drew ?_ | refine blk_alloc ?_ _)); exact BK1069.out, GE1069.out, HR0.out⟩), bG_ GE1069.out, by repeat (first | (with_reducible first | exact HBW.out | apply below_alloc | apply pw_below_drewN | apply below_drew1 | refine below_set ?_ GW1069.out) | exact HBW.out)⟩
   rw [if_pos c2] at H
   have c2b0 : decide (x4_1 < (l0.length : Int)) = true := decide_eq_true c2
   clear c2
   by_cases c3 : x4_1 < 4000
   · rw [if_pos c3] at H
     have c3b0 : decide (x4_1 < 4000) = true := decide_eq_true c3
     clear c3
     by_cases c4 : 0 ≤ x4_1
     rotate_left
     · exact absurd H (by rw [if_neg c4]; simp)
     rw [if_pos c4] at H
     have c4b0 : decide (0 ≤ x4_1) = true := decide_eq_true c4
     clear c4
     have H' := Aside0.mk H
     clear H
     have p1067 : 0 ≤ (x4_1 : Int) := of_decide_eq_true as_
     have q1067 : x4_1 < (l0.length : Int) := of_decide_eq_true as_
     obtain ⟨ad1067, e1067, hx1067_0⟩ := Kd.at_int HR0.out x4_1 p1067 q1067
     cases e1067
     replace hx1067_0 := pw_cell_below HB.out hx1067_0
     replace p1067 := eq_true p1067
     replace q1067 := eq_true q1067
     go_wp2
     go_roundg k1
     case measure => have := HK1.out; omega
     case rel => exact ⟨(Go.bits .and .i64 (wrap64 ((wrap64 ((wrap64 (x3_1 * 137)) + (wrap64 (rd l0 x4_1)))) + 11)) 1073741823), (wrap64 (x4_1 + 1)), rs_, rs_, H', ⟨by have := HK1.out; omega⟩, ⟨bB_⟩, ⟨by repeat (first | (with_reducible first | exact HBW.out | apply below_alloc | apply pw_below_drewN | apply below_drew1) | exact HBW.out)⟩⟩
   rw [if_neg c3] at H
   have c3b0 : decide (x4_1 < 4000) = false := decide_eq_false c3
   clear c3
   simp only [Option.some.injEq, Prod.mk.injEq] at H
   obtain ⟨rfl, rfl, rfl⟩ := H
   go_wp2_with (first | ((with_reducible refine gate_dst (N := 31) rfl ?_); refine bx_ (N := 31) (cs := #[.slice A0 l0.length c0, .int .i64 0, .int .i64 x3_1]) (t := 116) ?_; intro gb1068 hg w5 hbox hb; replace HB := A_ (below_step bB_ hb); have BK1068 := A_ (hbox); have GW1068 := A_ ((by rw [hg]; exact (below_size (by repeat (first | (with_reducible first | exact HBW.out | apply below_alloc | apply pw_below_drewN | apply below_drew1) | exact HBW.out))) : w.heap.size ≤ gb1068)); have GE1068 := A_ ((Nat.le_trans HW0.out (by rw [hg]; exact (below_size (by repeat (first | (with_reducible first | exact HBW.out | apply below_alloc | apply pw_below_drewN | apply below_drew1) | exact HBW.out))) : w.heap.size ≤ gb1068) : w0.heap.size ≤ gb1068)); replace HBW := A_ (below_step HBW.out hb); clear hb hbox hg))
   go_ret
   exact ⟨_, rfl, (show IsS116 w0 _ gb1068 l0 0 x3_1 from ⟨_, _, by (with_reducible repeat (first | refine blk_drewN ?_ _ | refine blk_drew ?_ | refine blk_alloc ?_ _)); exact BK1068.out, GE1068.out, HR0.out⟩), bG_ GE1068.out, by repeat (first | (with_reducible first | exact HBW.out | apply below_alloc | apply pw_below_drewN | apply below_drew1 | refine below_set ?_ GW1068.out) | exact HBW.out)⟩
def spec_l1Byte.f (s0_0 : List Int) (s0_1 : Int) (s0_2 : Int) : Option (Int × Int × Int) := if s0_1 < (s0_0.length : Int) then (if 0 ≤ s0_1 then (some (Go.bits .and .i64 (wrap64 ((Go.bits .and .i64 (Go.bits .xor .i64 ((wrap64 ((wrap64 (s0_2 * 6364136223846793005)) + 1442695040888963407)) / 8589934592) ((wrap64 ((wrap64 (s0_2 * 6364136223846793005)) + 1442695040888963407)) / 140737488355328)) 255) + (wrap64 (rd s0_0 s0_1)))) 255, wrap64 (s0_1 + 1), wrap64 ((wrap64 (s0_2 * 6364136223846793005)) + 1442695040888963407))) else (none)) else (some (Go.bits .and .i64 (Go.bits .xor .i64 ((wrap64 ((wrap64 (s0_2 * 6364136223846793005)) + 1442695040888963407)) / 8589934592) ((wrap64 ((wrap64 (s0_2 * 6364136223846793005)) + 1442695040888963407)) / 140737488355328)) 255, s0_1, wrap64 ((wrap64 (s0_2 * 6364136223846793005)) + 1442695040888963407)))
set_option maxHeartbeats 8000000 in
set_option maxRecDepth 100000 in
theorem spec_l1Byte.calls (g : Nat) (s0_0 : List Int) (s0_1 : Int) (s0_2 : Int) (r1 : Int) (r2 : Int) (r3 : Int) (w0 w : World) (hI : IsS116 w0 w g s0_0 s0_1 s0_2) (hB : Below w0.heap.size w0 w) (h : spec_l1Byte.f s0_0 s0_1 s0_2 = some (r1, r2, r3)) :
 Calls Try.prog 131 #[.pointer (some ⟨g, 0, none⟩)] w fun e w' => e = .returned (.int .i64 r1) ∧ IsS116 w0 w' g s0_0 r2 r3 ∧ Below w0.heap.size w0 w' ∧ KeepBut w w' g none := by
 have HI0 := Aside0.mk hI
 have HK := A_ (KeepBut.refl w g none)
 have HL := Aside0.mk hB.size
 clear hI
 have HW0 := Aside0.mk hB.size
 have HB := Aside0.mk hB
 clear hB
 have H : (if s0_1 < (s0_0.length : Int) then (if 0 ≤ s0_1 then (some (Go.bits .and .i64 (wrap64 ((Go.bits .and .i64 (Go.bits .xor .i64 ((wrap64 ((wrap64 (s0_2 * 6364136223846793005)) + 1442695040888963407)) / 8589934592) ((wrap64 ((wrap64 (s0_2 * 6364136223846793005)) + 1442695040888963407)) / 140737488355328)) 255) + (wrap64 (rd s0_0 s0_1)))) 255, wrap64 (s0_1 + 1), wrap64 ((wrap64 (s0_2 * 6364136223846793005)) + 1442695040888963407))) else (none)) else (some (Go.bits .and .i64 (Go.bits .xor .i64 ((wrap64 ((wrap64 (s0_2 * 6364136223846793005)) + 1442695040888963407)) / 8589934592) ((wrap64 ((wrap64 (s0_2 * 6364136223846793005)) + 1442695040888963407)) / 140737488355328)) 255, s0_1, wrap64 ((wrap64 (s0_2 * 6364136223846793005)) + 1442695040888963407)))) = some (r1, r2, r3) := h
 clear h
 by_cases c2 : s0_1 < (s0_0.length : Int)
 rotate_left
 · rw [if_neg c2] at H
   have c2b0 : decide (s0_1 < (s0_0.length : Int)) = false := decide_eq_false c2
   clear c2
   simp only [Option.some.injEq, Prod.mk.injEq] at H
   obtain ⟨rfl, rfl, rfl⟩ := H
   obtain ⟨ASz5_0, cSz5_0, HGz5, hgz5, HSz5_0⟩ := HI0.out
   have hcz5_0 := cellS116_0 HGz5
   have hcz5_1 := cellS116_1 HGz5
   have hcz5_2 := cellS116_2 HGz5
   have hfz5_1 := blk_frozen HGz5 1
   have hfz5_2 := blk_frozen HGz5 2
   clear HGz5 hgz5
   go_enter Try.func131, Try.ntmps131
   go_wp2
   repeat (go_quiet (fail); try go_wp2)
   go_ret
   exact ⟨rr_, bIQx281_, bIQx280_, bK_⟩
 rw [if_pos c2] at H
 have c2b0 : decide (s0_1 < (s0_0.length : Int)) = true := decide_eq_true c2
 clear c2
 by_cases c3 : 0 ≤ s0_1
 rotate_left
 · exact absurd H (by rw [if_neg c3]; simp)
 rw [if_pos c3] at H
 have c3b0 : decide (0 ≤ s0_1) = true := decide_eq_true c3
 clear c3
 simp only [Option.some.injEq, Prod.mk.injEq] at H
 obtain ⟨rfl, rfl, rfl⟩ := H
 obtain ⟨ASz4_0, cSz4_0, HGz4, hgz4, HSz4_0⟩ := HI0.out
 have hcz4_0 := cellS116_0 HGz4
 have hcz4_1 := cellS116_1 HGz4
 have hcz4_2 := cellS116_2 HGz4
 have hfz4_1 := blk_frozen HGz4 1
 have hfz4_2 := blk_frozen HGz4 2
 clear HGz4 hgz4
 have p1070 : 0 ≤ (s0_1 : Int) := of_decide_eq_true as_
 have q1070 : s0_1 < (s0_0.length : Int) := of_decide_eq_true as_
 obtain ⟨ad1070, e1070, hx1070_0⟩ := Kd.at_int HSz4_0 s0_1 p1070 q1070
 cases e1070
 have hn1070_0 : ad1070.block ≠ g := Nat.ne_of_lt (Nat.lt_of_lt_of_le (by have := World.block_lt_of_cell? _ _ hx1070_0; first | rwa [add_block] at this | exact this) (IsS116.ge HI0.out))
 replace hx1070_0 := pw_cell_below HB.out hx1070_0
 replace hx1070_0 := (cell_far (p := ⟨g, 2, none⟩) (by first | (rw [add_block]; exact hn1070_0) | (show (Addr.add _ _).block ≠ _; rw [add_block]; exact hn1070_0) | exact hn1070_0) (.int .i64 (wrap64 ((wrap64 (s0_2 * 6364136223846793005)) + 1442695040888963407)))).trans hx1070_0
 (try have hy1070_0 := fun (n_ : Nat) => (show (((w.drewN n_).setCell ⟨g, 2, none⟩ (.int .i64 (wrap64 ((wrap64 (s0_2 * 6364136223846793005)) + 1442695040888963407))))).cell? _ = some _ from hx1070_0))
 clear hn1070_0
 replace p1070 := eq_true p1070
 replace q1070 := eq_true q1070
 go_enter Try.func131, Try.ntmps131
 go_wp2
 repeat (go_quiet (fail); try go_wp2)
 go_ret
 exact ⟨rr_, bIQx281_, bIQx280_, bK_⟩
def spec_l1Below.f (s0_0 : List Int) (s0_1 : Int) (s0_2 : Int) (a1 : Int) : Option (Int × Int × Int) := if a1 ≤ 0 then (some (0, s0_1, s0_2)) else (if a1 ≤ 256 then ((spec_l1Byte.f s0_0 s0_1 s0_2).bind fun bt1071 => (if a1 = 0 then (none) else (some (Int.tmod bt1071.1 a1, bt1071.2.1, bt1071.2.2)))) else ((spec_l1Byte.f s0_0 s0_1 s0_2).bind fun bt1074 => ((spec_l1Byte.f s0_0 bt1074.2.1 bt1074.2.2).bind fun bt1077 => ((spec_l1Byte.f s0_0 bt1077.2.1 bt1077.2.2).bind fun bt1080 => (if a1 = 0 then (none) else (some (Int.tmod (wrap64 ((wrap64 ((wrap64 (bt1074.1 * 65536)) + (wrap64 (bt1077.1 * 256)))) + bt1080.1)) a1, bt1080.2.1, bt1080.2.2)))))))
set_option maxHeartbeats 8000000 in
set_option maxRecDepth 100000 in
theorem spec_l1Below.calls (g : Nat) (s0_0 : List Int) (s0_1 : Int) (s0_2 : Int) (a1 : Int) (r1 : Int) (r2 : Int) (r3 : Int) (w0 w : World) (hI : IsS116 w0 w g s0_0 s0_1 s0_2) (hB : Below w0.heap.size w0 w) (h : spec_l1Below.f s0_0 s0_1 s0_2 a1 = some (r1, r2, r3)) :
 Calls Try.prog 117 #[.pointer (some ⟨g, 0, none⟩), .int .i64 a1] w fun e w' => e = .returned (.int .i64 r1) ∧ IsS116 w0 w' g s0_0 r2 r3 ∧ Below w0.heap.size w0 w' ∧ KeepBut w w' g none := by
 have HI0 := Aside0.mk hI
 have HK := A_ (KeepBut.refl w g none)
 have HL := Aside0.mk hB.size
 clear hI
 have HW0 := Aside0.mk hB.size
 have HB := Aside0.mk hB
 clear hB
 have H : (if a1 ≤ 0 then (some (0, s0_1, s0_2)) else (if a1 ≤ 256 then ((spec_l1Byte.f s0_0 s0_1 s0_2).bind fun bt1071 => (if a1 = 0 then (none) else (some (Int.tmod bt1071.1 a1, bt1071.2.1, bt1071.2.2)))) else ((spec_l1Byte.f s0_0 s0_1 s0_2).bind fun bt1074 => ((spec_l1Byte.f s0_0 bt1074.2.1 bt1074.2.2).bind fun bt1077 => ((spec_l1Byte.f s0_0 bt1077.2.1 bt1077.2.2).bind fun bt1080 => (if a1 = 0 then (none) else (some (Int.tmod (wrap64 ((wrap64 ((wrap64 (bt1074.1 * 65536)) + (wrap64 (bt1077.1 * 256)))) + bt1080.1)) a1, bt1080.2.1, bt1080.2.2)))))))) = some (r1, r2, r3) := h
 clear h
 by_cases c3 : a1 ≤ 0
 · rw [if_pos c3] at H
   have c3b0 : decide (a1 ≤ 0) = true := decide_eq_true c3
   clear c3
   simp only [Option.some.injEq, Prod.mk.injEq] at H
   obtain ⟨rfl, rfl, rfl⟩ := H
   go_enter Try.func117, Try.ntmps117
   go_wp2
   go_ret
   exact ⟨rr_, bIQx281_, bIQx280_, bK_⟩
 rw [if_neg c3] at H
 have c3b0 : decide (a1 ≤ 0) = false := decide_eq_false c3
 clear c3
 by_cases c4 : a1 ≤ 256
 · rw [if_pos c4] at H
   have c4b0 : decide (a1 ≤ 256) = true := decide_eq_true c4
   clear c4
   obtain ⟨⟨t1071, t1072, t1073⟩, A5, H⟩ := bo_ H
   (try dsimp only at H)
   by_cases c6 : a1 = 0
   · rw [if_pos c6] at H
     exact absurd H (by simp)
   rw [if_neg c6] at H
   have c6b0 : (a1 == 0) = false := beq_eq_false_iff_ne.mpr c6
   have c6b1 : (a1 != 0) = true := bne_iff_ne.mpr c6
   simp only [Option.some.injEq, Prod.mk.injEq] at H
   obtain ⟨rfl, rfl, rfl⟩ := H
   go_enter Try.func117, Try.ntmps117
   go_wp2_with (first | ((with_reducible refine gate_callee (f := 131) rfl ?_); refine gL_ (some 13) Try.func131 #[.pointer (some ⟨g, 0, none⟩)] ?_; (with_reducible refine (spec_l1Byte.calls g s0_0 s0_1 s0_2 t1071 t1072 t1073 w0 _ ?s1 ?s2 A5.out).mono ?_); (case s1 => exact bIQx281_); (case s2 => exact bIQx280_); rintro e w7 ⟨rfl, hi, hb, hk⟩; refine ⟨_, rfl, ?_⟩; replace HK := A_ (KeepBut.trans bK_ hk (.inl rfl)); replace HB := A_ (hb); replace HI0 := A_ (hi); (try clear hb); (try clear hk); (try clear hi)))
   go_ret
   exact ⟨rr_, bIQx281_, bIQx280_, bK_⟩
 rw [if_neg c4] at H
 have c4b0 : decide (a1 ≤ 256) = false := decide_eq_false c4
 clear c4
 obtain ⟨⟨t1074, t1075, t1076⟩, A8, H⟩ := bo_ H
 (try dsimp only at H)
 obtain ⟨⟨t1077, t1078, t1079⟩, A9, H⟩ := bo_ H
 (try dsimp only at H)
 obtain ⟨⟨t1080, t1081, t1082⟩, A10, H⟩ := bo_ H
 (try dsimp only at H)
 by_cases c11 : a1 = 0
 · rw [if_pos c11] at H
   exact absurd H (by simp)
 rw [if_neg c11] at H
 have c11b0 : (a1 == 0) = false := beq_eq_false_iff_ne.mpr c11
 have c11b1 : (a1 != 0) = true := bne_iff_ne.mpr c11
 simp only [Option.some.injEq, Prod.mk.injEq] at H
 obtain ⟨rfl, rfl, rfl⟩ := H
 go_enter Try.func117, Try.ntmps117
 go_wp2_with (first | ((with_reducible refine gate_callee (f := 131) rfl ?_); refine gL_ (some 17) Try.func131 #[.pointer (some ⟨g, 0, none⟩)] ?_; (with_reducible refine (spec_l1Byte.calls g s0_0 s0_1 s0_2 t1074 t1075 t1076 w0 _ ?s1 ?s2 A8.out).mono ?_); (case s1 => exact bIQx281_); (case s2 => exact bIQx280_); rintro e w12 ⟨rfl, hi, hb, hk⟩; refine ⟨_, rfl, ?_⟩; replace HK := A_ (KeepBut.trans bK_ hk (.inl rfl)); replace HB := A_ (hb); replace HI0 := A_ (hi); (try clear hb); (try clear hk); (try clear hi)) | ((with_reducible refine gate_callee (f := 131) rfl ?_); refine gL_ (some 19) Try.func131 #[.pointer (some ⟨g, 0, none⟩)] ?_; (with_reducible refine (spec_l1Byte.calls g s0_0 t1075 t1076 t1077 t1078 t1079 w0 _ ?s1 ?s2 A9.out).mono ?_); (case s1 => exact bIQx281_); (case s2 => exact bIQx280_); rintro e w13 ⟨rfl, hi, hb, hk⟩; refine ⟨_, rfl, ?_⟩; replace HK := A_ (KeepBut.trans bK_ hk (.inl rfl)); replace HB := A_ (hb); replace HI0 := A_ (hi); (try clear hb); (try clear hk); (try clear hi)) | ((with_reducible refine gate_callee (f := 131) rfl ?_); refine gL_ (some 21) Try.func131 #[.pointer (some ⟨g, 0, none⟩)] ?_; (with_reducible refine (spec_l1Byte.calls g s0_0 t1078 t1079 t1080 t1081 t1082 w0 _ ?s1 ?s2 A10.out).mono ?_); (case s1 => exact bIQx281_); (case s2 => exact bIQx280_); rintro e w14 ⟨rfl, hi, hb, hk⟩; refine ⟨_, rfl, ?_⟩; replace HK := A_ (KeepBut.trans bK_ hk (.inl rfl)); replace HB := A_ (hb); replace HI0 := A_ (hi); (try clear hb); (try clear hk); (try clear hi)))
 go_ret
 exact ⟨rr_, bIQx281_, bIQx280_, bK_⟩
def spec_l1Once.f (s0_0 : List Int) (s0_1 : Int) (s0_2 : Int) (a1 : Int) : Option (Bool × Int × Int) := (spec_l1Below.f s0_0 s0_1 s0_2 a1).bind fun bt1083 => (some ((bt1083.1 == 0), bt1083.2.1, bt1083.2.2))
set_option maxHeartbeats 8000000 in
set_option maxRecDepth 100000 in
theorem spec_l1Once.calls (g : Nat) (s0_0 : List Int) (s0_1 : Int) (s0_2 : Int) (a1 : Int) (r1 : Bool) (r2 : Int) (r3 : Int) (w0 w : World) (hI : IsS116 w0 w g s0_0 s0_1 s0_2) (hB : Below w0.heap.size w0 w) (h : spec_l1Once.f s0_0 s0_1 s0_2 a1 = some (r1, r2, r3)) :
 Calls Try.prog 118 #[.pointer (some ⟨g, 0, none⟩), .int .i64 a1] w fun e w' => e = .returned (.bool r1) ∧ IsS116 w0 w' g s0_0 r2 r3 ∧ Below w0.heap.size w0 w' ∧ KeepBut w w' g none := by
 have HI0 := Aside0.mk hI
 have HK := A_ (KeepBut.refl w g none)
 have HL := Aside0.mk hB.size
 clear hI
 have HW0 := Aside0.mk hB.size
 have HB := Aside0.mk hB
 clear hB
 have H : ((spec_l1Below.f s0_0 s0_1 s0_2 a1).bind fun bt1083 => (some ((bt1083.1 == 0), bt1083.2.1, bt1083.2.2))) = some (r1, r2, r3) := h
 clear h
 obtain ⟨⟨t1083, t1084, t1085⟩, A3, H⟩ := bo_ H
 (try dsimp only at H)
 simp only [Option.some.injEq, Prod.mk.injEq] at H
 obtain ⟨rfl, rfl, rfl⟩ := H
 go_enter Try.func118, Try.ntmps118
 go_wp2_with (first | ((with_reducible refine gate_callee (f := 117) rfl ?_); refine gL_ (some 7) Try.func117 #[.pointer (some ⟨g, 0, none⟩), .int .i64 a1] ?_; (with_reducible refine (spec_l1Below.calls g s0_0 s0_1 s0_2 a1 t1083 t1084 t1085 w0 _ ?s1 ?s2 A3.out).mono ?_); (case s1 => exact bIQx281_); (case s2 => exact bIQx280_); rintro e w4 ⟨rfl, hi, hb, hk⟩; refine ⟨_, rfl, ?_⟩; replace HK := A_ (KeepBut.trans bK_ hk (.inl rfl)); replace HB := A_ (hb); replace HI0 := A_ (hi); (try clear hb); (try clear hk); (try clear hi)))
 go_ret
 exact ⟨rr_, bIQx281_, bIQx280_, bK_⟩
def spec_l1Str.f (s0_0 : List Int) (s0_1 : Int) (s0_2 : Int) (l1 : List ByteArray) : Option (ByteArray × Int × Int) := (spec_l1Below.f s0_0 s0_1 s0_2 (l1.length : Int)).bind fun bt1086 => (if 0 ≤ bt1086.1 then (if bt1086.1 < (l1.length : Int) then (some (rdOf ByteArray.empty l1 bt1086.1, bt1086.2.1, bt1086.2.2)) else (none)) else (none))
set_option maxHeartbeats 8000000 in
set_option maxRecDepth 100000 in
theorem spec_l1Str.calls (g : Nat) (s0_0 : List Int) (s0_1 : Int) (s0_2 : Int) (A1 : Option Addr) (c1 : Nat) (l1 : List ByteArray) (r1 : ByteArray) (r2 : Int) (r3 : Int) (w0 w : World) (hI : IsS116 w0 w g s0_0 s0_1 s0_2) (hB : Below w0.heap.size w0 w) (hr1 : Kd.C Kd.string w A1 l1.length l1) (hc1 : l1.length ≤ c1) (hf1 : ∀ ad, A1 = some ad → 0 < l1.length → ad.block ≠ g) (h : spec_l1Str.f s0_0 s0_1 s0_2 l1 = some (r1, r2, r3)) :
 Calls Try.prog 99 #[.pointer (some ⟨g, 0, none⟩), .slice A1 l1.length c1] w fun e w' => e = .returned (.string r1) ∧ IsS116 w0 w' g s0_0 r2 r3 ∧ Below w0.heap.size w0 w' ∧ KeepBut w w' g none := by
 have HR1 := Aside0.mk hr1
 have HC1 := Aside0.mk hc1
 clear hr1 hc1
 have HI0 := Aside0.mk hI
 have HK := A_ (KeepBut.refl w g none)
 have HL := Aside0.mk hB.size
 clear hI
 have HW0 := Aside0.mk hB.size
 have HB := Aside0.mk hB
 clear hB
 have H : ((spec_l1Below.f s0_0 s0_1 s0_2 (l1.length : Int)).bind fun bt1086 => (if 0 ≤ bt1086.1 then (if bt1086.1 < (l1.length : Int) then (some (rdOf ByteArray.empty l1 bt1086.1, bt1086.2.1, bt1086.2.2)) else (none)) else (none))) = some (r1, r2, r3) := h
 clear h
 obtain ⟨⟨t1086, t1087, t1088⟩, A3, H⟩ := bo_ H
 (try dsimp only at H)
 by_cases c4 : 0 ≤ t1086
 rotate_left
 · exact absurd H (by rw [if_neg c4]; simp)
 rw [if_pos c4] at H
 have c4b0 : decide (0 ≤ t1086) = true := decide_eq_true c4
 clear c4
 by_cases c5 : t1086 < (l1.length : Int)
 rotate_left
 · exact absurd H (by rw [if_neg c5]; simp)
 rw [if_pos c5] at H
 have c5b0 : decide (t1086 < (l1.length : Int)) = true := decide_eq_true c5
 clear c5
 simp only [Option.some.injEq, Prod.mk.injEq] at H
 obtain ⟨rfl, rfl, rfl⟩ := H
 go_enter Try.func99, Try.ntmps99
 go_wp2_with (first | ((with_reducible refine gate_callee (f := 117) rfl ?_); refine gL_ (some 9) Try.func117 #[.pointer (some ⟨g, 0, none⟩), .int .i64 (l1.length : Int)] ?_; (with_reducible refine (spec_l1Below.calls g s0_0 s0_1 s0_2 (l1.length : Int) t1086 t1087 t1088 w0 _ ?s1 ?s2 A3.out).mono ?_); (case s1 => exact bIQx281_); (case s2 => exact bIQx280_); rintro e w6 ⟨rfl, hi, hb, hk⟩; refine ⟨_, rfl, ?_⟩; replace HK := A_ (KeepBut.trans bK_ hk (.inl rfl)); replace HB := A_ (hb); replace HI0 := A_ (hi); (try clear hb); (try clear hk); (try clear hi); have p1089 : 0 ≤ (t1086 : Int) := of_decide_eq_true as_; have q1089 : t1086 < (l1.length : Int) := of_decide_eq_true as_; obtain ⟨ad1089, e1089, hx1089_0⟩ := Kd.at_string HR1.out t1086 p1089 q1089; cases e1089; replace hx1089_0 := keep_cell HK.out hx1089_0 (by first | (rw [add_block]; exact hf1 _ rfl (by omega)) | exact hf1 _ rfl (by omega) | exact hf1 ad1089 rfl (by omega)); replace p1089 := eq_true p1089; replace q1089 := eq_true q1089))
 go_ret
 exact ⟨rr_, bIQx281_, bIQx280_, bK_⟩
def spec_l2Name.f (s0_0 : List Int) (s0_1 : Int) (s0_2 : Int) : Option (ByteArray × Int × Int) := (spec_l1Str.f s0_0 s0_1 s0_2 (([(⟨#[97]⟩ : ByteArray), (⟨#[98]⟩ : ByteArray), (⟨#[99]⟩ : ByteArray), (⟨#[97, 32, 98]⟩ : ByteArray), (⟨#[120, 37, 121]⟩ : ByteArray), (⟨#[97]⟩ : ByteArray), (⟨#[98]⟩ : ByteArray)] : List ByteArray))).bind fun bt1093 => (some (bt1093.1, bt1093.2.1, bt1093.2.2))
set_option maxHeartbeats 8000000 in
set_option maxRecDepth 100000 in
theorem spec_l2Name.calls (g : Nat) (s0_0 : List Int) (s0_1 : Int) (s0_2 : Int) (r1 : ByteArray) (r2 : Int) (r3 : Int) (w0 w : World) (hI : IsS116 w0 w g s0_0 s0_1 s0_2) (hB : Below w0.heap.size w0 w) (h : spec_l2Name.f s0_0 s0_1 s0_2 = some (r1, r2, r3)) :
 Calls Try.prog 119 #[.pointer (some ⟨g, 0, none⟩)] w fun e w' => e = .returned (.string r1) ∧ IsS116 w0 w' g s0_0 r2 r3 ∧ Below w0.heap.size w0 w' ∧ KeepBut w w' g none := by
 have HI0 := Aside0.mk hI
 have HK := A_ (KeepBut.refl w g none)
 have HL := Aside0.mk hB.size
 clear hI
 have HW0 := Aside0.mk hB.size
 have HB := Aside0.mk hB
 clear hB
 have H : ((spec_l1Str.f s0_0 s0_1 s0_2 (([(⟨#[97]⟩ : ByteArray), (⟨#[98]⟩ : ByteArray), (⟨#[99]⟩ : ByteArray), (⟨#[97, 32, 98]⟩ : ByteArray), (⟨#[120, 37, 121]⟩ : ByteArray), (⟨#[97]⟩ : ByteArray), (⟨#[98]⟩ : ByteArray)] : List ByteArray))).bind fun bt1093 => (some (bt1093.1, bt1093.2.1, bt1093.2.2))) = some (r1, r2, r3) := h
 clear h
 obtain ⟨y1090, hy1090⟩ : ∃ y_ : List ByteArray, y_ = (([(⟨#[97]⟩ : ByteArray), (⟨#[98]⟩ : ByteArray), (⟨#[99]⟩ : ByteArray), (⟨#[97, 32, 98]⟩ : ByteArray), (⟨#[120, 37, 121]⟩ : ByteArray), (⟨#[97]⟩ : ByteArray), (⟨#[98]⟩ : ByteArray)] : List ByteArray)) := ⟨_, rfl⟩
 replace H : ((spec_l1Str.f s0_0 s0_1 s0_2 y1090).bind fun bt1093 => (some (bt1093.1, bt1093.2.1, bt1093.2.2))) = some (r1, r2, r3) := hy_ hy1090 H
 have Ny1090 := Aside0.mk hy1090
 clear hy1090
 obtain ⟨⟨t1093, t1094, t1095⟩, A2, H⟩ := bo_ H
 (try dsimp only at H)
 simp only [Option.some.injEq, Prod.mk.injEq] at H
 obtain ⟨rfl, rfl, rfl⟩ := H
 go_enter Try.func119, Try.ntmps119
 go_wp2_with (first | ((with_reducible refine gate_dst (N := 4) rfl ?_); refine Kd.R_lit Kd.string _ 9 ?hg (N := 4) ?hd (xs := ([(⟨#[97]⟩ : ByteArray), (⟨#[98]⟩ : ByteArray), (⟨#[99]⟩ : ByteArray), (⟨#[97, 32, 98]⟩ : ByteArray), (⟨#[120, 37, 121]⟩ : ByteArray), (⟨#[97]⟩ : ByteArray), (⟨#[98]⟩ : ByteArray)] : List ByteArray)) (inner := [.string (⟨#[97]⟩ : ByteArray), .string (⟨#[98]⟩ : ByteArray), .string (⟨#[99]⟩ : ByteArray), .string (⟨#[97, 32, 98]⟩ : ByteArray), .string (⟨#[120, 37, 121]⟩ : ByteArray), .string (⟨#[97]⟩ : ByteArray), .string (⟨#[98]⟩ : ByteArray)]) (ok := fun _ => True) (okp := fun _ => True) ?hr ?hp (fun _ hk => hk) trivial (Below.refl _ _) (Nat.le_refl _) (by simp) ?_; (case hd => rfl); (case hg => rfl); (case hr => first | (go_simp; done) | (go_simp; rfl)); (case hp => exact (Reps.one (show Kd.M Kd.string _ _ _ (⟨#[97]⟩ : ByteArray) [.string (⟨#[97]⟩ : ByteArray)] from rfl) (Reps.one (show Kd.M Kd.string _ _ _ (⟨#[98]⟩ : ByteArray) [.string (⟨#[98]⟩ : ByteArray)] from rfl) (Reps.one (show Kd.M Kd.string _ _ _ (⟨#[99]⟩ : ByteArray) [.string (⟨#[99]⟩ : ByteArray)] from rfl) (Reps.one (show Kd.M Kd.string _ _ _ (⟨#[97, 32, 98]⟩ : ByteArray) [.string (⟨#[97, 32, 98]⟩ : ByteArray)] from rfl) (Reps.one (show Kd.M Kd.string _ _ _ (⟨#[120, 37, 121]⟩ : ByteArray) [.string (⟨#[120, 37, 121]⟩ : ByteArray)] from rfl) (Reps.one (show Kd.M Kd.string _ _ _ (⟨#[97]⟩ : ByteArray) [.string (⟨#[97]⟩ : ByteArray)] from rfl) (Reps.one (show Kd.M Kd.string _ _ _ (⟨#[98]⟩ : ByteArray) [.string (⟨#[98]⟩ : ByteArray)] from rfl) (Reps.none _ _))))))))); intro v1091 w3 ho4 hb hg_ hnew_; clear hg_ hnew_; (first | rw [← Ny1090.out] at ho4 | (simp only [Int.reduceToNat] at ho4; rw [← Ny1090.out] at ho4)); have HO1092 := A_ (Kd.R_lower ho4 (keep_size (w := w) (g := g) (row := none) bK_)); replace HK := A_ (KeepBut.trans bK_ (KeepBut.of_below hb g none) (.inl rfl)); replace HB := A_ (below_step bIQx280_ hb); replace HI0 := A_ (IsS116.below bIQx281_ hb); clear hb ho4; obtain ⟨Ao5, co5, eo5⟩ := Kd.R_slice HO1092.out; subst eo5) | ((with_reducible refine gate_callee (f := 99) rfl ?_); refine gL_ (some 5) Try.func99 #[.pointer (some ⟨g, 0, none⟩), .slice Ao5 y1090.length co5] ?_; (with_reducible refine (spec_l1Str.calls g s0_0 s0_1 s0_2 _ _ y1090 t1093 t1094 t1095 w0 _ ?s1 ?s2 ?s3 ?s4 ?s5 A2.out).mono ?_); (case s1 => exact bIQx281_); (case s2 => exact bIQx280_); (case s3 => exact cC_ (Kd.R_reads' HO1092.out).2.2); (case s4 => exact (Kd.R_reads' HO1092.out).2.1); (case s5 => exact far_slice (IsS116.own_ne HI0.out HO1092.out (by decide))); rintro e w6 ⟨rfl, hi, hb, hk⟩; refine ⟨_, rfl, ?_⟩; replace HO1092 := A_ (Kd.R_mono (Kd.R_keep (IsS116.apart (show IsS116 w0 _ g s0_0 s0_1 s0_2 from bIQx281_) (vR_ HO1092.out) (by decide)) hk (fun _ h => h.2)) (fun _ h => h.1)); replace HK := A_ (KeepBut.trans bK_ hk (.inl rfl)); replace HB := A_ (hb); replace HI0 := A_ (hi); (try clear hb); (try clear hk); (try clear hi)))
 go_ret
 exact ⟨rr_, bIQx281_, bIQx280_, bK_⟩
def spec_l2Draw.l0 : Nat → List ByteArray → Int → List Int → Int → Int → Option (List ByteArray × Int × Int)
 | 0, _, _, _, _, _ => none
 | k + 1, x3, x4, x1000, x1001, x1002 => if x4 > 0 then ((spec_l2Name.f x1000 x1001 x1002).bind fun bt1102 => (if x3.length < 8796093022208 then (spec_l2Draw.l0 k (x3 ++ [bt1102.1]) (wrap64 (x4 - 1)) x1000 bt1102.2.1 bt1102.2.2) else (none))) else (some (x3, x1001, x1002))
def spec_l2Draw.f (k : Nat) (s0_0 : List Int) (s0_1 : Int) (s0_2 : Int) : Option (List ByteArray × Int × Int) := (spec_l1Below.f s0_0 s0_1 s0_2 4).bind fun bt1099 => (spec_l2Draw.l0 k (([] : List ByteArray)) bt1099.1 s0_0 bt1099.2.1 bt1099.2.2)
set_option maxHeartbeats 8000000 in
set_option maxRecDepth 100000 in
theorem spec_l2Draw.calls (k : Nat) (g : Nat) (s0_0 : List Int) (s0_1 : Int) (s0_2 : Int) (r1 : List ByteArray) (r2 : Int) (r3 : Int) (w0 w : World) (hI : IsS116 w0 w g s0_0 s0_1 s0_2) (hB : Below w0.heap.size w0 w) (h : spec_l2Draw.f k s0_0 s0_1 s0_2 = some (r1, r2, r3)) :
 Calls Try.prog 120 #[.pointer (some ⟨g, 0, none⟩)] w fun e w' => ∃ v0_ : Value, e = .returned (v0_) ∧ Kd.R Kd.string 9 w' w.heap.size (fun _ => True) v0_ r1 ∧ IsS116 w0 w' g s0_0 r2 r3 ∧ Below w0.heap.size w0 w' ∧ KeepBut w w' g none := by
 have HI0 := Aside0.mk hI
 have HK := A_ (KeepBut.refl w g none)
 have HL := Aside0.mk hB.size
 clear hI
 have HW0 := Aside0.mk hB.size
 have HB := Aside0.mk hB
 clear hB
 have H : ((spec_l1Below.f s0_0 s0_1 s0_2 4).bind fun bt1099 => (spec_l2Draw.l0 k (([] : List ByteArray)) bt1099.1 s0_0 bt1099.2.1 bt1099.2.2)) = some (r1, r2, r3) := h
 clear h
 obtain ⟨y1096, hy1096⟩ : ∃ y_ : List ByteArray, y_ = (([] : List ByteArray)) := ⟨_, rfl⟩
 replace H : ((spec_l1Below.f s0_0 s0_1 s0_2 4).bind fun bt1099 => (spec_l2Draw.l0 k y1096 bt1099.1 s0_0 bt1099.2.1 bt1099.2.2)) = some (r1, r2, r3) := hy_ hy1096 H
 have Ny1096 := Aside0.mk hy1096
 clear hy1096
 obtain ⟨⟨t1099, t1100, t1101⟩, A2, H⟩ := bo_ H
 (try dsimp only at H)
 have H' := Aside0.mk H
 clear H
 go_enter Try.func120, Try.ntmps120
 go_wp2_with (first | ((with_reducible refine gate_dst (N := 5) rfl ?_); refine Kd.R_lit Kd.string _ 9 ?hg (N := 5) ?hd (xs := ([] : List ByteArray)) (inner := []) (ok := fun _ => True) (okp := fun _ => True) ?hr ?hp (fun _ hk => hk) trivial (Below.refl _ _) (Nat.le_refl _) (by simp) ?_; (case hd => rfl); (case hg => rfl); (case hr => first | (go_simp; done) | (go_simp; rfl)); (case hp => exact (Reps.none _ _)); intro v1097 w3 ho4 hb hg_ hnew_; clear hg_ hnew_; (first | rw [← Ny1096.out] at ho4 | (simp only [Int.reduceToNat] at ho4; rw [← Ny1096.out] at ho4)); have HO1098 := A_ (Kd.R_lower ho4 (keep_size (w := w) (g := g) (row := none) bK_)); replace HK := A_ (KeepBut.trans bK_ (KeepBut.of_below hb g none) (.inl rfl)); replace HB := A_ (below_step bIQx280_ hb); replace HI0 := A_ (IsS116.below bIQx281_ hb); clear hb ho4) | ((with_reducible refine gate_callee (f := 117) rfl ?_); refine gL_ (some 7) Try.func117 #[.pointer (some ⟨g, 0, none⟩), .int .i64 4] ?_; (with_reducible refine (spec_l1Below.calls g s0_0 s0_1 s0_2 4 t1099 t1100 t1101 w0 _ ?s1 ?s2 A2.out).mono ?_); (case s1 => exact bIQx281_); (case s2 => exact bIQx280_); rintro e w5 ⟨rfl, hi, hb, hk⟩; refine ⟨_, rfl, ?_⟩; replace HO1098 := A_ (Kd.R_mono (Kd.R_keep (IsS116.apart (show IsS116 w0 _ g s0_0 s0_1 s0_2 from bIQx281_) (vR_ HO1098.out) (by decide)) hk (fun _ h => h.2)) (fun _ h => h.1)); replace HK := A_ (KeepBut.trans bK_ hk (.inl rfl)); replace HB := A_ (hb); replace HI0 := A_ (hi); (try clear hb); (try clear hk); (try clear hi)))
 go_loopg [3, 4] k (fun kq v3 v4 w' => ∃ (x3_1 : List ByteArray) (x4_1 : Int) (x1001_1 : Int) (x1002_1 : Int), v4 = .int .i64 x4_1 ∧ Aside0 (spec_l2Draw.l0 kq x3_1 x4_1 s0_0 x1001_1 x1002_1 = some (r1, r2, r3)) ∧ Aside0 (kq ≤ k) ∧ Aside0 (Kd.R Kd.string 9 w' w.heap.size (fun _ => True) v3 x3_1) ∧ Aside0 (IsS116 w0 w' g s0_0 x1001_1 x1002_1) ∧ Aside0 (KeepBut w w' g none) ∧ Aside0 (Below w0.heap.size w0 w'))
 case atStart => exact ⟨(y1096), (t1099), (t1100), (t1101), rs_, H', ⟨Nat.le_refl _⟩, ⟨vR_ HO1098.out⟩, ⟨bIQx281_⟩, ⟨bK_⟩, ⟨bIQx280_⟩⟩
 case round =>
  clear H'
  try clear c1
  try clear p2
  obtain ⟨x3_1, x4_1, x1001_1, x1002_1, rfl, HA, HK1, HO_3, HI0, HK, HB⟩ := hrel
  cases gk with
  | zero => exact absurd HA.out (by simp [spec_l2Draw.l0])
  | succ k1 =>
   have H := HA.out
   clear HA
   simp only [spec_l2Draw.l0] at H
   by_cases c6 : x4_1 > 0
   rotate_left
   · rw [if_neg c6] at H
     have c6b0 : decide (0 < x4_1) = false := decide_eq_false c6
     clear c6
     simp only [Option.some.injEq, Prod.mk.injEq] at H
     obtain ⟨rfl, rfl, rfl⟩ := H
     go_wp2
     go_ret
     exact ⟨_, rr_, by (with_reducible repeat (first | apply Kd.R_alloc | apply Kd.R_drewN | apply Kd.R_drew)); exact HO_3.out, bIQx281_, bIQx280_, bK_⟩
   rw [if_pos c6] at H
   have c6b0 : decide (0 < x4_1) = true := decide_eq_true c6
   clear c6
   obtain ⟨⟨t1102, t1103, t1104⟩, A7, H⟩ := bo_ H
   (try dsimp only at H)
   by_cases c8 : x3_1.length < 8796093022208
   rotate_left
   · exact absurd H (by rw [if_neg c8]; simp)
   rw [if_pos c8] at H
   have LMc8 := Aside0.mk c8
   clear c8
   obtain ⟨y1105, hy1105⟩ : ∃ y_ : List ByteArray, y_ = (x3_1 ++ [t1102]) := ⟨_, rfl⟩
   replace H : (spec_l2Draw.l0 k1 y1105 (wrap64 (x4_1 - 1)) s0_0 t1103 t1104) = some (r1, r2, r3) := hy_ hy1105 H
   have Ny1105 := Aside0.mk hy1105
   clear hy1105
   have H' := Aside0.mk H
   clear H
   go_wp2_with (first | ((with_reducible refine gate_callee (f := 119) rfl ?_); refine gL_ (some 14) Try.func119 #[.pointer (some ⟨g, 0, none⟩)] ?_; (with_reducible refine (spec_l2Name.calls g s0_0 x1001_1 x1002_1 t1102 t1103 t1104 w0 _ ?s1 ?s2 A7.out).mono ?_); (case s1 => exact bIQx281_); (case s2 => exact bIQx280_); rintro e w9 ⟨rfl, hi, hb, hk⟩; refine ⟨_, rfl, ?_⟩; replace HO_3 := A_ (Kd.R_mono (Kd.R_keep (IsS116.apart (show IsS116 w0 _ g s0_0 x1001_1 x1002_1 from bIQx281_) (vR_ HO_3.out) (by decide)) hk (fun _ h => h.2)) (fun _ h => h.1)); replace HK := A_ (KeepBut.trans bK_ hk (.inl rfl)); replace HB := A_ (hb); replace HI0 := A_ (hi); (try clear hb); (try clear hk); (try clear hi)) | ((with_reducible refine gate_builtin (b := .append) (xs := #[.tmp 12, .tmp 15]) rfl ?_); at_builtin; refine Kd.R_append Kd.string w.heap.size rfl (.tmp 12) (.tmp 15) 23 9 (.string ⟨#[]⟩) 16 rfl Try.underlying23 info9 rfl (by decide) (by omega) u3 x3_1 t1102 [.string t1102] (fun _ => True) (fun _ => False) rfl rfl ?aP (fun _ hk => hk.elim) ?aF ?aO (Below.refl _ _) ?aS ?aL ?_; (case aP => exact rfl); (case aF => exact (fun _ _ => trivial)); (case aO => exact (vR_ HO_3.out)); (case aS => exact (keep_size (w := w) (g := g) (row := none) bK_)); (case aL => have := LMc8.out; omega); intro v1106 w10 ho hb hg hat; rw [← Ny1105.out] at ho; replace HB := A_ (below_weaken bIQx280_ HL.out hb); replace HI0 := A_ (IsS116.grown bIQx281_ hg (IsS116.own_ne HI0.out HO_3.out (by decide))); replace HK := A_ (KeepBut.trans bK_ (KeepBut.of_grown hg g) (Kd.R_base2 HO_3.out)); have HO1107 := A_ (ho); clear HO_3; clear ho hb hg hat))
   go_roundg k1
   case measure => have := HK1.out; omega
   case rel => exact ⟨(y1105), (wrap64 (x4_1 - 1)), (t1103), (t1104), rs_, H', ⟨by have := HK1.out; omega⟩, ⟨vR_ HO1107.out⟩, ⟨bIQx281_⟩, ⟨bK_⟩, ⟨bIQx280_⟩⟩
mutual
def spec_l12One.l0 : Nat → List (S72) → List (S72) → Bool → Int → Bool → ByteArray → ByteArray → ByteArray → Option ((List (S72)))
 | 0, _, _, _, _, _, _, _, _ => none
 | k + 1, x0, x5, x6, x7, x691000, x691001, x691002, x691003 => if x7 < (x0.length : Int) then (if x6 = true then (spec_l12One.j1 k x0 x5 x6 x7 false x691000 x691001 x691002 x691003) else (if 0 ≤ x7 then ((spec_l10LessProp.f ((rd_T72 x0 x7).f0) ((rd_T72 x0 x7).f1) ((rd_T72 x0 x7).f2) x691001 x691002 x691003).bind fun t698 => (spec_l12One.j1 k x0 x5 x6 x7 (!t698) x691000 x691001 x691002 x691003)) else (none))) else (if x6 = true then (some x5) else (if x5.length < 2932031007402 then (some (x5 ++ [(⟨x691001, x691002, x691003⟩ : S72)])) else (none)))
def spec_l12One.j1 : Nat → List (S72) → List (S72) → Bool → Int → Bool → Bool → ByteArray → ByteArray → ByteArray → Option ((List (S72)))
 | 0, _, _, _, _, _, _, _, _, _ => none
 | k + 1, x0, x5, x6, x7, x28, x691000, x691001, x691002, x691003 => if x28 = true then (if x5.length < 2932031007402 then ((some (x5 ++ [(⟨x691001, x691002, x691003⟩ : S72)] : List (S72))).bind fun y699 => (if 0 ≤ x7 then (if x7 < (x0.length : Int) then (if ((rd_T72 x0 x7).f0).toList = x691001.toList then (if ((rd_T72 x0 x7).f1).toList = x691002.toList then (spec_l12One.l0 k x0 y699 true (wrap64 (x7 + 1)) x691000 x691001 x691002 x691003) else (if y699.length < 2932031007402 then (spec_l12One.l0 k x0 (y699 ++ [(⟨(rd_T72 x0 x7).f0, (rd_T72 x0 x7).f1, (rd_T72 x0 x7).f2⟩ : S72)]) true (wrap64 (x7 + 1)) x691000 x691001 x691002 x691003) else (none))) else (if y699.length < 2932031007402 then (spec_l12One.l0 k x0 (y699 ++ [(⟨(rd_T72 x0 x7).f0, (rd_T72 x0 x7).f1, (rd_T72 x0 x7).f2⟩ : S72)]) true (wrap64 (x7 + 1)) x691000 x691001 x691002 x691003) else (none))) else (none)) else (none))) else (none)) else (if 0 ≤ x7 then (if x7 < (x0.length : Int) then (if ((rd_T72 x0 x7).f0).toList = x691001.toList then (if ((rd_T72 x0 x7).f1).toList = x691002.toList then (spec_l12One.l0 k x0 x5 x6 (wrap64 (x7 + 1)) x691000 x691001 x691002 x691003) else (if x5.length < 2932031007402 then (spec_l12One.l0 k x0 (x5 ++ [(⟨(rd_T72 x0 x7).f0, (rd_T72 x0 x7).f1, (rd_T72 x0 x7).f2⟩ : S72)]) x6 (wrap64 (x7 + 1)) x691000 x691001 x691002 x691003) else (none))) else (if x5.length < 2932031007402 then (spec_l12One.l0 k x0 (x5 ++ [(⟨(rd_T72 x0 x7).f0, (rd_T72 x0 x7).f1, (rd_T72 x0 x7).f2⟩ : S72)]) x6 (wrap64 (x7 + 1)) x691000 x691001 x691002 x691003) else (none))) else (none)) else (none))
end
def spec_l12One.f (k : Nat) (l0 : List (S72)) (a1_0 : Bool) (a1_1 : ByteArray) (a1_2 : ByteArray) (a1_3 : ByteArray) : Option ((List (S72))) := spec_l12One.l0 k l0 (([] : List (S72))) a1_0 0 a1_0 a1_1 a1_2 a1_3
def spec_l12One.T6 : Bool × List (List Nat × List Nat) := (true, [([], []), ([0], [0]), ([1], [1]), ([2], [2]), ([2], [2]), ([3, 4, 2], [2, 3, 4]), ([5, 2], [2, 5]), ([2], [2]), ([7, 2], [2, 7]), ([6, 8, 2, 2], [2, 6, 8]), ([9, 2], [2, 9]), ([2, 10], [2, 10])])
def spec_l12One.B6 : List Nat := [0, 1, 3, 7, 7, 31, 63, 7, 135, 511, 1023, 2047]
theorem spec_l12One.tab6 : rtab .any (opsOf Try.f96 6) = spec_l12One.T6 := by kernel_rfl
theorem spec_l12One.bits6 : waitsOk spec_l12One.T6.2 spec_l12One.B6 = true := by kernel_rfl
def spec_l12One.T9 : Bool × List (List Nat × List Nat) := (true, [([], []), ([], []), ([0, 1], [0, 1]), ([2], [2]), ([3], [3]), ([], []), ([5], [5]), ([6], [6]), ([4, 7], [4, 7]), ([8], [8]), ([9], [9]), ([9], [9]), ([10, 11, 9], [9, 10, 11]), ([12, 9], [9, 12]), ([13, 9], [9, 13]), ([9], [9]), ([15, 9], [9, 15]), ([16, 9], [9, 16]), ([14, 17, 9], [9, 14, 17]), ([9, 18], [9, 18])])
def spec_l12One.B9 : List Nat := [0, 0, 3, 7, 15, 0, 32, 96, 255, 511, 1023, 1023, 4095, 8191, 16383, 1023, 33791, 99327, 262143, 524287]
theorem spec_l12One.tab9 : rtab .any (opsOf Try.f96 9) = spec_l12One.T9 := by kernel_rfl
theorem spec_l12One.bits9 : waitsOk spec_l12One.T9.2 spec_l12One.B9 = true := by kernel_rfl
set_option maxHeartbeats 8000000 in
set_option maxRecDepth 100000 in
theorem spec_l12One.calls (k : Nat) (A0 : Option Addr) (c0 : Nat) (l0 : List (S72)) (a1_0 : Bool) (a1_1 : ByteArray) (a1_2 : ByteArray) (a1_3 : ByteArray) (r : List (S72)) (w : World) (hr0 : Kd.C k72 w A0 l0.length l0) (hc0 : l0.length ≤ c0) (h : spec_l12One.f k l0 a1_0 a1_1 a1_2 a1_3 = some r) :
 Calls Try.prog 96 #[.slice A0 l0.length c0, .agg #[.bool a1_0, .string a1_1, .string a1_2, .string a1_3]] w fun e w' => ∃ v0_ : Value, e = .returned (v0_) ∧ Kd.R k72 72 w' w.heap.size (fun _ => True) v0_ r ∧ Below w.heap.size w w' := by
 have hu74 := Try.underlying74
 have hu72 := Try.underlying72
 have HR0 := Aside0.mk hr0
 have HC0 := Aside0.mk hc0
 clear hr0 hc0
 have HB := A_ (Below.refl w.heap.size w)
 have H : (spec_l12One.l0 k l0 (([] : List (S72))) a1_0 0 a1_0 a1_1 a1_2 a1_3) = some r := h
 clear h
 obtain ⟨y691, hy691⟩ : ∃ y_ : List (S72), y_ = (([] : List (S72))) := ⟨_, rfl⟩
 replace H : (spec_l12One.l0 k l0 y691 a1_0 0 a1_0 a1_1 a1_2 a1_3) = some r := hy_ hy691 H
 have Ny691 := Aside0.mk hy691
 clear hy691
 have H' := Aside0.mk H
 clear H
 go_enter Try.func96, Try.ntmps96
 go_wp2_with (first | ((with_reducible refine gate_dst (N := 3) rfl ?_); refine bx_ (N := 3) (cs := #[.bool a1_0, .string a1_1, .string a1_2, .string a1_3]) (t := 74) ?_; intro gb690 hg w3 hbox hb; have BK690 := A_ (hbox); have GW690 := A_ (ge_ hg bB_ : w.heap.size ≤ gb690); have GE690 := A_ (ge_ hg bB_ : w.heap.size ≤ gb690); replace HB := A_ (below_step bB_ hb); clear hb hbox hg) | ((with_reducible refine gate_dst (N := 8) rfl ?_); refine Kd.R_lit k72 _ 72 ?hg (N := 8) ?hd (xs := ([] : List (S72))) (inner := []) (ok := fun _ => True) (okp := fun _ => True) ?hr ?hp (fun _ hk => hk) trivial (Below.refl _ _) (Nat.le_refl _) (by simp) ?_; (case hd => rfl); (case hg => rfl); (case hr => first | (go_simp; done) | (go_simp; rfl)); (case hp => exact (Reps.none _ _)); intro v692 w4 ho5 hb hg_ hnew_; clear hg_ hnew_; (first | rw [← Ny691.out] at ho5 | (simp only [Int.reduceToNat] at ho5; rw [← Ny691.out] at ho5)); have HO693 := A_ (Kd.R_lower ho5 (below_size (bG_ GE690.out))); replace BK690 := A_ (bw_ BK690.out hb); replace HB := A_ (below_step (bG_ GE690.out) hb); clear hb ho5; obtain ⟨hcz6_0, hcz6_1, hcz6_2, hcz6_3, hfz6_0, hfz6_1, hfz6_2, hfz6_3⟩ := cz4_ BK690.out))
 go_loopg [5, 6, 7] k (fun kq v5 v6 v7 w' => ∃ (x5_1 : List (S72)) (x6_1 : Bool) (x7_1 : Int), v6 = .bool x6_1 ∧ v7 = .int .i64 x7_1 ∧ Aside0 (spec_l12One.l0 kq l0 x5_1 x6_1 x7_1 a1_0 a1_1 a1_2 a1_3 = some r) ∧ Aside0 (kq ≤ k) ∧ Aside0 (Kd.R k72 72 w' w.heap.size (fun _ => True) v5 x5_1) ∧ Aside0 (w'.heap[gb690]? = some (.cells #[.bool a1_0, .string a1_1, .string a1_2, .string a1_3] 74 (0, 0))) ∧ Aside0 (Below w.heap.size w w'))
 case atStart => exact ⟨(y691), (a1_0), (0), rs_, rs_, H', ⟨Nat.le_refl _⟩, ⟨vR_ HO693.out⟩, ⟨vb_ BK690.out⟩, ⟨bG_ GE690.out⟩⟩
 case round =>
  clear H'
  try clear p2
  try clear hcz6_0
  try clear hcz6_1
  try clear hcz6_2
  try clear hcz6_3
  try clear hfz6_0
  try clear hfz6_1
  try clear hfz6_2
  try clear hfz6_3
  obtain ⟨x5_1, x6_1, x7_1, rfl, rfl, HA, HK1, HO_5, BK690, HB⟩ := hrel
  cases gk with
  | zero => exact absurd HA.out (by simp [spec_l12One.l0])
  | succ k1 =>
   have H := HA.out
   clear HA
   simp only [spec_l12One.l0] at H
   by_cases c7 : x7_1 < (l0.length : Int)
   rotate_left
   · rw [if_neg c7] at H
     have c7b0 : decide (x7_1 < (l0.length : Int)) = false := decide_eq_false c7
     clear c7
     by_cases c45 : x6_1 = true
     · subst c45
       rw [if_pos rfl] at H
       obtain rfl := Option.some.inj H
       go_wp2
       go_ret
       exact ⟨_, rr_, by (with_reducible repeat (first | apply Kd.R_alloc | apply Kd.R_drewN | apply Kd.R_drew)); exact HO_5.out, bG_ GE690.out⟩
     · replace c45 := Bool.eq_false_iff.mpr c45
       subst c45
       rw [if_neg nf_] at H
       by_cases c46 : x5_1.length < 2932031007402
       rotate_left
       · exact absurd H (by rw [if_neg c46]; simp)
       rw [if_pos c46] at H
       have LMc46 := Aside0.mk c46
       clear c46
       obtain ⟨y694, hy694⟩ : ∃ y_ : List (S72), y_ = (x5_1 ++ [(⟨a1_1, a1_2, a1_3⟩ : S72)]) := ⟨_, rfl⟩
       replace H : (some y694) = some r := hy_ hy694 H
       have Ny694 := Aside0.mk hy694
       clear hy694
       obtain rfl := Option.some.inj H
       have hcz47_0 : wr.cell? ⟨gb690, 0, none⟩ = some (.bool a1_0) := (blk_cell BK690.out 0).trans rfl
       have hcz47_1 : wr.cell? ⟨gb690, 1, none⟩ = some (.string a1_1) := (blk_cell BK690.out 1).trans rfl
       have hcz47_2 : wr.cell? ⟨gb690, 2, none⟩ = some (.string a1_2) := (blk_cell BK690.out 2).trans rfl
       have hcz47_3 : wr.cell? ⟨gb690, 3, none⟩ = some (.string a1_3) := (blk_cell BK690.out 3).trans rfl
       have hfz47_0 := blk_frozen BK690.out 0
       have hfz47_1 := blk_frozen BK690.out 1
       have hfz47_2 := blk_frozen BK690.out 2
       have hfz47_3 := blk_frozen BK690.out 3
       go_wp2_with (first | ((with_reducible refine gate_builtin (b := .append) (xs := #[.tmp 63, .tmp 66]) rfl ?_); at_builtin; refine Kd.R_append k72 (w0 := w) w.heap.size rfl (.tmp 63) (.tmp 66) 55 72 (.agg #[(.string ⟨#[]⟩), (.string ⟨#[]⟩), (.string ⟨#[]⟩)]) 48 rfl Try.underlying55 info72 rfl (by decide) (by omega) u5 x5_1 (⟨a1_1, a1_2, a1_3⟩ : S72) [.string a1_1, .string a1_2, .string a1_3] (fun _ => True) (fun _ => False) rfl rfl ?aP (fun _ hk => hk.elim) ?aF ?aO ?aB ?aS ?aL ?_; (case aP => exact k72_mkM _ _ _ (⟨a1_1, a1_2, a1_3⟩ : S72)); (case aB => exact (bG_ GE690.out)); (case aF => exact (fun _ _ => trivial)); (case aO => exact (vR_ HO_5.out)); (case aS => exact (below_size (bG_ GE690.out))); (case aL => have := LMc46.out; omega); intro v695 w48 ho hb hg hat; rw [← Ny694.out] at ho; replace BK690 := A_ (blk_grown (g := gb690) (o := .cells #[.bool a1_0, .string a1_1, .string a1_2, .string a1_3] 74 (0, 0)) (vb_ BK690.out) hg (Kd.R_ne HO_5.out BK690.out (by decide))); replace HB := A_ (hb); have HO696 := A_ (ho); clear HO_5; clear ho hb hg hat))
       go_ret
       exact ⟨_, rr_, by (with_reducible repeat (first | apply Kd.R_alloc | apply Kd.R_drewN | apply Kd.R_drew)); exact HO696.out, bG_ GE690.out⟩
   rw [if_pos c7] at H
   have c7b0 : decide (x7_1 < (l0.length : Int)) = true := decide_eq_true c7
   clear c7
   have HC8 := Aside0.mk H
   clear H
   go_upto_region 6 with (fail)
   go_cut [28] (fun v28 wc => ∃ (kq : Nat) (x28_7 : Bool), v28 = .bool x28_7 ∧ Aside0 (spec_l12One.j1 kq l0 x5_1 x6_1 x7_1 x28_7 a1_0 a1_1 a1_2 a1_3 = some r) ∧ Aside0 (kq ≤ k1) ∧ Aside0 (Kd.R k72 72 wc w.heap.size (fun _ => True) u5 x5_1) ∧ Aside0 (wc.heap[gb690]? = some (.cells #[.bool a1_0, .string a1_1, .string a1_2, .string a1_3] 74 (0, 0))) ∧ Aside0 (Below w.heap.size w wc))
   case first =>
    have H := HC8.out
    clear HC8
    by_cases c9 : x6_1 = true
    · subst c9
      rw [if_pos rfl] at H
      have H' := Aside0.mk H
      clear H
      try go_wp2
      replace HO_5 := A_ (Kd.R_drew HO_5.out)
      replace BK690 := A_ (blk_drew BK690.out)
      replace HB := A_ (below_drew1 HB.out)
      refine start_ (n := 12) (S := fun w' => True) (ds := []) #[false, false, false, false, false, false, false, false, false, false, false, false] (by kernel_rfl) rfl rfl trivial (fun hHeld => ?_); refine with_tabW spec_l12One.tab6 spec_l12One.bits6 (fun HT_ HW_ => ?_)
      generalize wr.drew = w10 at HO_5 BK690 HB hHeld ⊢
      refine pu_ (i := 0) (N := some 17) ?_
      refine pu_ (i := 1) (N := some 18) ?_
      refine pu_ (i := 2) (N := some 19) ?_
      refine pn_ (i := 3) (N := some 20) ?_
      refine pn_ (i := 4) (N := some 21) ?_
      refine pn_ (i := 5) (N := some 22) ?_
      refine pn_ (i := 6) (N := some 23) ?_
      refine pn_ (i := 7) (N := some 24) ?_
      refine pn_ (i := 8) (N := some 25) ?_
      refine pn_ (i := 9) (N := some 26) ?_
      refine pn_ (i := 10) (N := some 27) ?_
      refine pu_ (i := 11) (N := some 28) ?_
      refine done_ (done_of HT_.out (by kernel_rfl)) ?_
      (try clear hHeld)
      try go_wp2
      go_meet
      case rel => exact ⟨_, (false), rs_, H', ⟨by have := HK1.out; first | omega | exact Nat.le_refl _⟩, ⟨vR_ HO_5.out⟩, ⟨vb_ BK690.out⟩, ⟨bG_ GE690.out⟩⟩
    · replace c9 := Bool.eq_false_iff.mpr c9
      subst c9
      rw [if_neg nf_] at H
      by_cases c11 : 0 ≤ x7_1
      rotate_left
      · exact absurd H (by rw [if_neg c11]; simp)
      rw [if_pos c11] at H
      have c11b0 : decide (0 ≤ x7_1) = true := decide_eq_true c11
      clear c11
      (first | rw [c11b0] | (simp only [i64_w, i32_w]; rw [c11b0]) | skip)
      obtain ⟨t698, A12, H⟩ := bo_ H
      (try dsimp only at H)
      have H' := Aside0.mk H
      clear H
      try go_wp2
      replace HO_5 := A_ (Kd.R_drew HO_5.out)
      replace BK690 := A_ (blk_drew BK690.out)
      replace HB := A_ (below_drew1 HB.out)
      have p697 : 0 ≤ (x7_1 : Int) := of_decide_eq_true as_
      have q697 : x7_1 < (l0.length : Int) := of_decide_eq_true as_
      obtain ⟨ad697, e697, hx697_0, hx697_1, hx697_2⟩ := at_T72 HR0.out x7_1 p697 q697
      have hw697_2 := hx697_2
      have hw697_1 := hx697_1
      have hw697_0 := hx697_0
      cases e697
      replace hx697_0 := bc_ HB.out hx697_0
      replace hx697_1 := bc_ HB.out hx697_1
      replace hx697_2 := bc_ HB.out hx697_2
      replace p697 := eq_true p697
      replace q697 := eq_true q697
      refine start_ (n := 12) (S := fun w' => w'.cell? ⟨gb690, 0, none⟩ = some (.bool a1_0) ∧ w'.cell? ⟨gb690, 1, none⟩ = some (.string a1_1) ∧ w'.cell? ⟨gb690, 2, none⟩ = some (.string a1_2) ∧ w'.cell? ⟨gb690, 3, none⟩ = some (.string a1_3) ∧ w'.cell? (ad697.add ((x7_1).toNat * 3)) = some (.string ((rd_T72 l0 x7_1).f0)) ∧ w'.cell? ⟨(ad697.add ((x7_1).toNat * 3)).block, (ad697.add ((x7_1).toNat * 3)).off + 1, none⟩ = some (.string ((rd_T72 l0 x7_1).f1)) ∧ w'.cell? ⟨(ad697.add ((x7_1).toNat * 3)).block, (ad697.add ((x7_1).toNat * 3)).off + 2, none⟩ = some (.string ((rd_T72 l0 x7_1).f2))) (ds := []) #[false, false, false, false, false, false, false, false, false, false, false, false] (by kernel_rfl) rfl rfl ⟨(blk_cell BK690.out 0).trans rfl, (blk_cell BK690.out 1).trans rfl, (blk_cell BK690.out 2).trans rfl, (blk_cell BK690.out 3).trans rfl, ((HB.out.cell (World.block_lt_of_cell? w _ hw697_0)).trans hw697_0), ((HB.out.cell (World.block_lt_of_cell? w _ hw697_1)).trans hw697_1), ((HB.out.cell (World.block_lt_of_cell? w _ hw697_2)).trans hw697_2)⟩ (fun hHeld => ?_); refine with_tabW spec_l12One.tab6 spec_l12One.bits6 (fun HT_ HW_ => ?_)
      generalize wr.drew = w13 at HO_5 BK690 HB hx697_0 hx697_1 hx697_2 hHeld ⊢
      refine pu_ (i := 0) (N := some 17) ?_
      refine pu_ (i := 1) (N := some 18) ?_
      refine pu_ (i := 2) (N := some 19) ?_
      refine pu_ (i := 3) (N := some 20) ?_
      refine pu_ (i := 4) (N := some 21) ?_
      refine pu_ (i := 5) (N := some 22) ?_
      refine pu_ (i := 7) (N := some 24) ?_
      refine tk_ (i := 6) (N := some 23) hHeld ?_
      refine tk_ (i := 8) (N := some 25) hHeld ?_
      refine on_ (i := 9) (N := some 26) (fun K hK => ?_)
      refine goes_ Try.func127 (by kernel_rfl) rfl #[.agg #[.string ((rd_T72 l0 x7_1).f0), .string ((rd_T72 l0 x7_1).f1), .string ((rd_T72 l0 x7_1).f2)], .agg #[.string a1_1, .string a1_2, .string a1_3]] (by rfl) rfl rfl ml_ ?_
      with_reducible refine (spec_l10LessProp.calls ((rd_T72 l0 x7_1).f0) ((rd_T72 l0 x7_1).f1) ((rd_T72 l0 x7_1).f2) a1_1 a1_2 a1_3 t698 _ A12.out).mono ?_
      rintro e w14 ⟨rfl, hb⟩
      refine ⟨_, rfl, ?_⟩
      replace HO_5 := A_ (Kd.R_below (vR_ HO_5.out) hb)
      replace BK690 := A_ (bw_ BK690.out hb)
      replace HB := A_ (below_step (bG_ GE690.out) hb)
      (try clear hb)
      (try clear hb2)
      (try clear hk)
      (try clear hi)
      refine hK.out _ _ ⟨(blk_cell BK690.out 0).trans rfl, (blk_cell BK690.out 1).trans rfl, (blk_cell BK690.out 2).trans rfl, (blk_cell BK690.out 3).trans rfl, ((HB.out.cell (World.block_lt_of_cell? w _ hw697_0)).trans hw697_0), ((HB.out.cell (World.block_lt_of_cell? w _ hw697_1)).trans hw697_1), ((HB.out.cell (World.block_lt_of_cell? w _ hw697_2)).trans hw697_2)⟩ (fun hHeld => ?_)
      clear hK K
      refine no_ (some 26) ?_
      refine pu_ (i := 10) (N := some 27) ?_
      refine pu_ (i := 11) (N := some 28) ?_
      refine done_ (done_of HT_.out (by kernel_rfl)) ?_
      (try clear hHeld)
      try go_wp2
      go_meet
      case rel => exact ⟨_, (!t698), rs_, H', ⟨by have := HK1.out; first | omega | exact Nat.le_refl _⟩, ⟨vR_ HO_5.out⟩, ⟨vb_ BK690.out⟩, ⟨bG_ GE690.out⟩⟩
   case rest =>
    clear HC8
    try clear c1
    try clear p2
    try clear p6
    try clear q6
    try clear hx6
    try clear c7
    try clear c7b0
    try clear c9
    try clear c11
    try clear c11b0
    try clear c12
    try clear hcz6_0
    try clear hcz6_1
    try clear hcz6_2
    try clear hcz6_3
    try clear hfz6_0
    try clear hfz6_1
    try clear hfz6_2
    try clear hfz6_3
    try clear hx697_0
    try clear hx697_1
    try clear hx697_2
    try clear p2
    try clear p697
    try clear q697
    obtain ⟨kq, x28_7, rfl, HA, HJ7, HO_5, BK690, HB⟩ := hcut
    cases kq with
    | zero => exact absurd HA.out (by simp [spec_l12One.j1])
    | succ kj7 =>
     have H := HA.out
     clear HA
     simp only [spec_l12One.j1] at H
     by_cases c15 : x28_7 = true
     · subst c15
       rw [if_pos rfl] at H
       by_cases c16 : x5_1.length < 2932031007402
       rotate_left
       · exact absurd H (by rw [if_neg c16]; simp)
       rw [if_pos c16] at H
       have LMc16 := Aside0.mk c16
       clear c16
       obtain ⟨y699, hy699⟩ : ∃ y_ : List (S72), y_ = (x5_1 ++ [(⟨a1_1, a1_2, a1_3⟩ : S72)]) := ⟨_, rfl⟩
       replace H : (if 0 ≤ x7_1 then (if x7_1 < (l0.length : Int) then (if ((rd_T72 l0 x7_1).f0).toList = a1_1.toList then (if ((rd_T72 l0 x7_1).f1).toList = a1_2.toList then (spec_l12One.l0 kj7 l0 y699 true (wrap64 (x7_1 + 1)) a1_0 a1_1 a1_2 a1_3) else (if y699.length < 2932031007402 then (spec_l12One.l0 kj7 l0 (y699 ++ [(⟨(rd_T72 l0 x7_1).f0, (rd_T72 l0 x7_1).f1, (rd_T72 l0 x7_1).f2⟩ : S72)]) true (wrap64 (x7_1 + 1)) a1_0 a1_1 a1_2 a1_3) else (none))) else (if y699.length < 2932031007402 then (spec_l12One.l0 kj7 l0 (y699 ++ [(⟨(rd_T72 l0 x7_1).f0, (rd_T72 l0 x7_1).f1, (rd_T72 l0 x7_1).f2⟩ : S72)]) true (wrap64 (x7_1 + 1)) a1_0 a1_1 a1_2 a1_3) else (none))) else (none)) else (none)) = some r := hy_ hy699 H
       have Ny699 := Aside0.mk hy699
       clear hy699
       by_cases c17 : 0 ≤ x7_1
       rotate_left
       · exact absurd H (by rw [if_neg c17]; simp)
       rw [if_pos c17] at H
       have c17b0 : decide (0 ≤ x7_1) = true := decide_eq_true c17
       clear c17
       by_cases c18 : x7_1 < (l0.length : Int)
       rotate_left
       · exact absurd H (by rw [if_neg c18]; simp)
       rw [if_pos c18] at H
       have c18b0 : decide (x7_1 < (l0.length : Int)) = true := decide_eq_true c18
       clear c18
       by_cases c19 : ((rd_T72 l0 x7_1).f0).toList = a1_1.toList
       rotate_left
       · rw [if_neg c19] at H
         have c19b0 : (((rd_T72 l0 x7_1).f0).toList == a1_1.toList) = false := beq_eq_false_iff_ne.mpr c19
         have c19b1 : (((rd_T72 l0 x7_1).f0).toList != a1_1.toList) = true := bne_iff_ne.mpr c19
         by_cases c29 : y699.length < 2932031007402
         rotate_left
         · exact absurd H (by rw [if_neg c29]; simp)
         rw [if_pos c29] at H
         have LMc29 := Aside0.mk c29
         clear c29
         obtain ⟨y709, hy709⟩ : ∃ y_ : List (S72), y_ = (y699 ++ [(⟨(rd_T72 l0 x7_1).f0, (rd_T72 l0 x7_1).f1, (rd_T72 l0 x7_1).f2⟩ : S72)]) := ⟨_, rfl⟩
         replace H : (spec_l12One.l0 kj7 l0 y709 true (wrap64 (x7_1 + 1)) a1_0 a1_1 a1_2 a1_3) = some r := hy_ hy709 H
         have Ny709 := Aside0.mk hy709
         clear hy709
         have H' := Aside0.mk H
         clear H
         have hcz30_0 : wc.cell? ⟨gb690, 0, none⟩ = some (.bool a1_0) := (blk_cell BK690.out 0).trans rfl
         have hcz30_1 : wc.cell? ⟨gb690, 1, none⟩ = some (.string a1_1) := (blk_cell BK690.out 1).trans rfl
         have hcz30_2 : wc.cell? ⟨gb690, 2, none⟩ = some (.string a1_2) := (blk_cell BK690.out 2).trans rfl
         have hcz30_3 : wc.cell? ⟨gb690, 3, none⟩ = some (.string a1_3) := (blk_cell BK690.out 3).trans rfl
         have hfz30_0 := blk_frozen BK690.out 0
         have hfz30_1 := blk_frozen BK690.out 1
         have hfz30_2 := blk_frozen BK690.out 2
         have hfz30_3 := blk_frozen BK690.out 3
         try go_wp2_with (first | ((with_reducible refine gate_builtin (b := .append) (xs := #[.tmp 29, .tmp 32]) rfl ?_); at_builtin; refine Kd.R_append k72 (w0 := w) w.heap.size rfl (.tmp 29) (.tmp 32) 55 72 (.agg #[(.string ⟨#[]⟩), (.string ⟨#[]⟩), (.string ⟨#[]⟩)]) 48 rfl Try.underlying55 info72 rfl (by decide) (by omega) u5 x5_1 (⟨a1_1, a1_2, a1_3⟩ : S72) [.string a1_1, .string a1_2, .string a1_3] (fun _ => True) (fun _ => False) rfl rfl ?aP (fun _ hk => hk.elim) ?aF ?aO ?aB ?aS ?aL ?_; (case aP => exact k72_mkM _ _ _ (⟨a1_1, a1_2, a1_3⟩ : S72)); (case aB => exact (bG_ GE690.out)); (case aF => exact (fun _ _ => trivial)); (case aO => exact (vR_ HO_5.out)); (case aS => exact (below_size (bG_ GE690.out))); (case aL => have := LMc16.out; omega); intro v700 w31 ho hb hg hat; rw [← Ny699.out] at ho; replace BK690 := A_ (blk_grown (g := gb690) (o := .cells #[.bool a1_0, .string a1_1, .string a1_2, .string a1_3] 74 (0, 0)) (vb_ BK690.out) hg (Kd.R_ne HO_5.out BK690.out (by decide))); replace HB := A_ (hb); have HO701 := A_ (ho); clear HO_5; clear ho hb hg hat))
         replace HO701 := A_ (Kd.R_drew HO701.out)
         replace BK690 := A_ (blk_drew BK690.out)
         replace HB := A_ (below_drew1 HB.out)
         have p702 : 0 ≤ (x7_1 : Int) := of_decide_eq_true as_
         have q702 : x7_1 < (l0.length : Int) := of_decide_eq_true as_
         obtain ⟨ad702, e702, hx702_0, hx702_1, hx702_2⟩ := at_T72 HR0.out x7_1 p702 q702
         have hw702_2 := hx702_2
         have hw702_1 := hx702_1
         have hw702_0 := hx702_0
         cases e702
         replace hx702_0 := bc_ HB.out hx702_0
         replace hx702_1 := bc_ HB.out hx702_1
         replace hx702_2 := bc_ HB.out hx702_2
         replace p702 := eq_true p702
         replace q702 := eq_true q702
         refine start_ (n := 20) (S := fun w' => w'.cell? ⟨gb690, 0, none⟩ = some (.bool a1_0) ∧ w'.cell? ⟨gb690, 1, none⟩ = some (.string a1_1) ∧ w'.cell? ⟨gb690, 2, none⟩ = some (.string a1_2) ∧ w'.cell? ⟨gb690, 3, none⟩ = some (.string a1_3) ∧ w'.cell? (ad702.add ((x7_1).toNat * 3)) = some (.string ((rd_T72 l0 x7_1).f0)) ∧ w'.cell? ⟨(ad702.add ((x7_1).toNat * 3)).block, (ad702.add ((x7_1).toNat * 3)).off + 1, none⟩ = some (.string ((rd_T72 l0 x7_1).f1)) ∧ w'.cell? ⟨(ad702.add ((x7_1).toNat * 3)).block, (ad702.add ((x7_1).toNat * 3)).off + 2, none⟩ = some (.string ((rd_T72 l0 x7_1).f2))) (ds := []) #[false, false, false, false, false, false, false, false, false, false, false, false, false, false, false, false, false, false, false, false] (by kernel_rfl) rfl rfl ⟨(blk_cell BK690.out 0).trans rfl, (blk_cell BK690.out 1).trans rfl, (blk_cell BK690.out 2).trans rfl, (blk_cell BK690.out 3).trans rfl, ((HB.out.cell (World.block_lt_of_cell? w _ hw702_0)).trans hw702_0), ((HB.out.cell (World.block_lt_of_cell? w _ hw702_1)).trans hw702_1), ((HB.out.cell (World.block_lt_of_cell? w _ hw702_2)).trans hw702_2)⟩ (fun hHeld => ?_); refine with_tabW spec_l12One.tab9 spec_l12One.bits9 (fun HT_ HW_ => ?_)
         generalize w31.drew = w32 at HO701 BK690 HB hx702_0 hx702_1 hx702_2 hHeld ⊢
         refine pu_ (i := 0) (N := some 34) ?_
         refine pu_ (i := 1) (N := some 35) ?_
         refine pu_ (i := 2) (N := some 36) ?_
         refine pu_ (i := 3) (N := some 37) ?_
         refine pu_ (i := 5) (N := some 39) ?_
         refine pu_ (i := 6) (N := some 40) ?_
         refine tk_ (i := 4) (N := some 38) hHeld ?_
         refine tk_ (i := 7) (N := some 41) hHeld ?_
         refine pu_ (i := 8) (N := some 42) ?_
         refine pu_ (i := 9) (N := some 43) ?_
         refine pn_ (i := 10) (N := some 44) ?_
         refine pn_ (i := 11) (N := some 45) ?_
         refine pn_ (i := 12) (N := some 46) ?_
         refine pn_ (i := 13) (N := some 47) ?_
         refine pn_ (i := 14) (N := some 48) ?_
         refine pn_ (i := 15) (N := some 49) ?_
         refine pn_ (i := 16) (N := some 50) ?_
         refine pn_ (i := 17) (N := some 51) ?_
         refine pn_ (i := 18) (N := some 52) ?_
         refine pu_ (i := 19) (N := some 53) ?_
         refine done_ (done_of HT_.out (by kernel_rfl)) ?_
         (try clear hHeld)
         have p708 : 0 ≤ (x7_1 : Int) := of_decide_eq_true as_
         have q708 : x7_1 < (l0.length : Int) := of_decide_eq_true as_
         obtain ⟨ad708, e708, hx708_0, hx708_1, hx708_2⟩ := at_T72 HR0.out x7_1 p708 q708
         obtain rfl : ad702 = ad708 := (by injection e708)
         replace hx708_0 := bc_ HB.out hx708_0
         replace hx708_1 := bc_ HB.out hx708_1
         replace hx708_2 := bc_ HB.out hx708_2
         replace p708 := eq_true p708
         replace q708 := eq_true q708
         try go_wp2_with (first | ((with_reducible refine gate_builtin (b := .append) (xs := #[.tmp 54, .tmp 59]) rfl ?_); at_builtin; refine Kd.R_append k72 (w0 := w) w.heap.size rfl (.tmp 54) (.tmp 59) 55 72 (.agg #[(.string ⟨#[]⟩), (.string ⟨#[]⟩), (.string ⟨#[]⟩)]) 48 rfl Try.underlying55 info72 rfl (by decide) (by omega) v700 y699 (⟨(rd_T72 l0 x7_1).f0, (rd_T72 l0 x7_1).f1, (rd_T72 l0 x7_1).f2⟩ : S72) [.string ((rd_T72 l0 x7_1).f0), .string ((rd_T72 l0 x7_1).f1), .string ((rd_T72 l0 x7_1).f2)] (fun _ => True) (fun _ => False) rfl rfl ?aP (fun _ hk => hk.elim) ?aF ?aO ?aB ?aS ?aL ?_; (case aP => exact k72_mkM _ _ _ (⟨(rd_T72 l0 x7_1).f0, (rd_T72 l0 x7_1).f1, (rd_T72 l0 x7_1).f2⟩ : S72)); (case aB => exact (bG_ GE690.out)); (case aF => exact (fun _ _ => trivial)); (case aO => exact (vR_ HO701.out)); (case aS => exact (below_size (bG_ GE690.out))); (case aL => have := LMc29.out; omega); intro v710 w33 ho hb hg hat; rw [← Ny709.out] at ho; replace BK690 := A_ (blk_grown (g := gb690) (o := .cells #[.bool a1_0, .string a1_1, .string a1_2, .string a1_3] 74 (0, 0)) (vb_ BK690.out) hg (Kd.R_ne HO701.out BK690.out (by decide))); replace HB := A_ (hb); have HO711 := A_ (ho); clear HO701; clear ho hb hg hat))
         go_roundg kj7
         case measure => have := HK1.out; have := HJ7.out; omega
         case rel => exact ⟨(y709), (true), (wrap64 (x7_1 + 1)), rs_, rs_, H', ⟨by have := HK1.out; have := HJ7.out; omega⟩, ⟨vR_ HO711.out⟩, ⟨vb_ BK690.out⟩, ⟨bG_ GE690.out⟩⟩
       rw [if_pos c19] at H
       have c19b0 : (((rd_T72 l0 x7_1).f0).toList == a1_1.toList) = true := beq_iff_eq.mpr c19
       have c19b1 : (((rd_T72 l0 x7_1).f0).toList != a1_1.toList) = false := bne_eq_false_iff_eq.mpr c19
       clear c19
       by_cases c20 : ((rd_T72 l0 x7_1).f1).toList = a1_2.toList
       · rw [if_pos c20] at H
         have c20b0 : (((rd_T72 l0 x7_1).f1).toList == a1_2.toList) = true := beq_iff_eq.mpr c20
         have c20b1 : (((rd_T72 l0 x7_1).f1).toList != a1_2.toList) = false := bne_eq_false_iff_eq.mpr c20
         clear c20
         have H' := Aside0.mk H
         clear H
         have hcz21_0 : wc.cell? ⟨gb690, 0, none⟩ = some (.bool a1_0) := (blk_cell BK690.out 0).trans rfl
         have hcz21_1 : wc.cell? ⟨gb690, 1, none⟩ = some (.string a1_1) := (blk_cell BK690.out 1).trans rfl
         have hcz21_2 : wc.cell? ⟨gb690, 2, none⟩ = some (.string a1_2) := (blk_cell BK690.out 2).trans rfl
         have hcz21_3 : wc.cell? ⟨gb690, 3, none⟩ = some (.string a1_3) := (blk_cell BK690.out 3).trans rfl
         have hfz21_0 := blk_frozen BK690.out 0
         have hfz21_1 := blk_frozen BK690.out 1
         have hfz21_2 := blk_frozen BK690.out 2
         have hfz21_3 := blk_frozen BK690.out 3
         try go_wp2_with (first | ((with_reducible refine gate_builtin (b := .append) (xs := #[.tmp 29, .tmp 32]) rfl ?_); at_builtin; refine Kd.R_append k72 (w0 := w) w.heap.size rfl (.tmp 29) (.tmp 32) 55 72 (.agg #[(.string ⟨#[]⟩), (.string ⟨#[]⟩), (.string ⟨#[]⟩)]) 48 rfl Try.underlying55 info72 rfl (by decide) (by omega) u5 x5_1 (⟨a1_1, a1_2, a1_3⟩ : S72) [.string a1_1, .string a1_2, .string a1_3] (fun _ => True) (fun _ => False) rfl rfl ?aP (fun _ hk => hk.elim) ?aF ?aO ?aB ?aS ?aL ?_; (case aP => exact k72_mkM _ _ _ (⟨a1_1, a1_2, a1_3⟩ : S72)); (case aB => exact (bG_ GE690.out)); (case aF => exact (fun _ _ => trivial)); (case aO => exact (vR_ HO_5.out)); (case aS => exact (below_size (bG_ GE690.out))); (case aL => have := LMc16.out; omega); intro v700 w22 ho hb hg hat; rw [← Ny699.out] at ho; replace BK690 := A_ (blk_grown (g := gb690) (o := .cells #[.bool a1_0, .string a1_1, .string a1_2, .string a1_3] 74 (0, 0)) (vb_ BK690.out) hg (Kd.R_ne HO_5.out BK690.out (by decide))); replace HB := A_ (hb); have HO701 := A_ (ho); clear HO_5; clear ho hb hg hat))
         replace HO701 := A_ (Kd.R_drew HO701.out)
         replace BK690 := A_ (blk_drew BK690.out)
         replace HB := A_ (below_drew1 HB.out)
         have p702 : 0 ≤ (x7_1 : Int) := of_decide_eq_true as_
         have q702 : x7_1 < (l0.length : Int) := of_decide_eq_true as_
         obtain ⟨ad702, e702, hx702_0, hx702_1, hx702_2⟩ := at_T72 HR0.out x7_1 p702 q702
         have hw702_2 := hx702_2
         have hw702_1 := hx702_1
         have hw702_0 := hx702_0
         cases e702
         replace hx702_0 := bc_ HB.out hx702_0
         replace hx702_1 := bc_ HB.out hx702_1
         replace hx702_2 := bc_ HB.out hx702_2
         replace p702 := eq_true p702
         replace q702 := eq_true q702
         have p703 : 0 ≤ (x7_1 : Int) := of_decide_eq_true as_
         have q703 : x7_1 < (l0.length : Int) := of_decide_eq_true as_
         obtain ⟨ad703, e703, hx703_0, hx703_1, hx703_2⟩ := at_T72 HR0.out x7_1 p703 q703
         have hw703_2 := hx703_2
         have hw703_1 := hx703_1
         have hw703_0 := hx703_0
         obtain rfl : ad702 = ad703 := (by injection e703)
         replace hx703_0 := bc_ HB.out hx703_0
         replace hx703_1 := bc_ HB.out hx703_1
         replace hx703_2 := bc_ HB.out hx703_2
         replace p703 := eq_true p703
         replace q703 := eq_true q703
         refine start_ (n := 20) (S := fun w' => w'.cell? ⟨gb690, 0, none⟩ = some (.bool a1_0) ∧ w'.cell? ⟨gb690, 1, none⟩ = some (.string a1_1) ∧ w'.cell? ⟨gb690, 2, none⟩ = some (.string a1_2) ∧ w'.cell? ⟨gb690, 3, none⟩ = some (.string a1_3) ∧ w'.cell? (ad702.add ((x7_1).toNat * 3)) = some (.string ((rd_T72 l0 x7_1).f0)) ∧ w'.cell? ⟨(ad702.add ((x7_1).toNat * 3)).block, (ad702.add ((x7_1).toNat * 3)).off + 1, none⟩ = some (.string ((rd_T72 l0 x7_1).f1)) ∧ w'.cell? ⟨(ad702.add ((x7_1).toNat * 3)).block, (ad702.add ((x7_1).toNat * 3)).off + 2, none⟩ = some (.string ((rd_T72 l0 x7_1).f2)) ∧ w'.cell? (ad702.add ((x7_1).toNat * 3)) = some (.string ((rd_T72 l0 x7_1).f0)) ∧ w'.cell? ⟨(ad702.add ((x7_1).toNat * 3)).block, (ad702.add ((x7_1).toNat * 3)).off + 1, none⟩ = some (.string ((rd_T72 l0 x7_1).f1)) ∧ w'.cell? ⟨(ad702.add ((x7_1).toNat * 3)).block, (ad702.add ((x7_1).toNat * 3)).off + 2, none⟩ = some (.string ((rd_T72 l0 x7_1).f2))) (ds := []) #[false, false, false, false, false, false, false, false, false, false, false, false, false, false, false, false, false, false, false, false] (by kernel_rfl) rfl rfl ⟨(blk_cell BK690.out 0).trans rfl, (blk_cell BK690.out 1).trans rfl, (blk_cell BK690.out 2).trans rfl, (blk_cell BK690.out 3).trans rfl, ((HB.out.cell (World.block_lt_of_cell? w _ hw702_0)).trans hw702_0), ((HB.out.cell (World.block_lt_of_cell? w _ hw702_1)).trans hw702_1), ((HB.out.cell (World.block_lt_of_cell? w _ hw702_2)).trans hw702_2), ((HB.out.cell (World.block_lt_of_cell? w _ hw703_0)).trans hw703_0), ((HB.out.cell (World.block_lt_of_cell? w _ hw703_1)).trans hw703_1), ((HB.out.cell (World.block_lt_of_cell? w _ hw703_2)).trans hw703_2)⟩ (fun hHeld => ?_); refine with_tabW spec_l12One.tab9 spec_l12One.bits9 (fun HT_ HW_ => ?_)
         generalize w22.drew = w23 at HO701 BK690 HB hx702_0 hx702_1 hx702_2 hx703_0 hx703_1 hx703_2 hHeld ⊢
         refine pu_ (i := 0) (N := some 34) ?_
         refine pu_ (i := 1) (N := some 35) ?_
         refine pu_ (i := 2) (N := some 36) ?_
         refine pu_ (i := 3) (N := some 37) ?_
         refine pu_ (i := 5) (N := some 39) ?_
         refine pu_ (i := 6) (N := some 40) ?_
         refine tk_ (i := 4) (N := some 38) hHeld ?_
         refine tk_ (i := 7) (N := some 41) hHeld ?_
         refine pu_ (i := 8) (N := some 42) ?_
         refine pu_ (i := 9) (N := some 43) ?_
         refine pu_ (i := 10) (N := some 44) ?_
         refine pu_ (i := 11) (N := some 45) ?_
         refine pu_ (i := 12) (N := some 46) ?_
         refine pu_ (i := 13) (N := some 47) ?_
         refine pu_ (i := 15) (N := some 49) ?_
         refine pu_ (i := 16) (N := some 50) ?_
         refine tk_ (i := 14) (N := some 48) hHeld ?_
         refine tk_ (i := 17) (N := some 51) hHeld ?_
         refine pu_ (i := 18) (N := some 52) ?_
         refine pu_ (i := 19) (N := some 53) ?_
         refine done_ (done_of HT_.out (by kernel_rfl)) ?_
         (try clear hHeld)
         try go_wp2
         go_roundg kj7
         case measure => have := HK1.out; have := HJ7.out; omega
         case rel => exact ⟨(y699), (true), (wrap64 (x7_1 + 1)), rs_, rs_, H', ⟨by have := HK1.out; have := HJ7.out; omega⟩, ⟨vR_ HO701.out⟩, ⟨vb_ BK690.out⟩, ⟨bG_ GE690.out⟩⟩
       rw [if_neg c20] at H
       have c20b0 : (((rd_T72 l0 x7_1).f1).toList == a1_2.toList) = false := beq_eq_false_iff_ne.mpr c20
       have c20b1 : (((rd_T72 l0 x7_1).f1).toList != a1_2.toList) = true := bne_iff_ne.mpr c20
       by_cases c24 : y699.length < 2932031007402
       rotate_left
       · exact absurd H (by rw [if_neg c24]; simp)
       rw [if_pos c24] at H
       have LMc24 := Aside0.mk c24
       clear c24
       obtain ⟨y705, hy705⟩ : ∃ y_ : List (S72), y_ = (y699 ++ [(⟨(rd_T72 l0 x7_1).f0, (rd_T72 l0 x7_1).f1, (rd_T72 l0 x7_1).f2⟩ : S72)]) := ⟨_, rfl⟩
       replace H : (spec_l12One.l0 kj7 l0 y705 true (wrap64 (x7_1 + 1)) a1_0 a1_1 a1_2 a1_3) = some r := hy_ hy705 H
       have Ny705 := Aside0.mk hy705
       clear hy705
       have H' := Aside0.mk H
       clear H
       have hcz25_0 : wc.cell? ⟨gb690, 0, none⟩ = some (.bool a1_0) := (blk_cell BK690.out 0).trans rfl
       have hcz25_1 : wc.cell? ⟨gb690, 1, none⟩ = some (.string a1_1) := (blk_cell BK690.out 1).trans rfl
       have hcz25_2 : wc.cell? ⟨gb690, 2, none⟩ = some (.string a1_2) := (blk_cell BK690.out 2).trans rfl
       have hcz25_3 : wc.cell? ⟨gb690, 3, none⟩ = some (.string a1_3) := (blk_cell BK690.out 3).trans rfl
       have hfz25_0 := blk_frozen BK690.out 0
       have hfz25_1 := blk_frozen BK690.out 1
       have hfz25_2 := blk_frozen BK690.out 2
       have hfz25_3 := blk_frozen BK690.out 3
       try go_wp2_with (first | ((with_reducible refine gate_builtin (b := .append) (xs := #[.tmp 29, .tmp 32]) rfl ?_); at_builtin; refine Kd.R_append k72 (w0 := w) w.heap.size rfl (.tmp 29) (.tmp 32) 55 72 (.agg #[(.string ⟨#[]⟩), (.string ⟨#[]⟩), (.string ⟨#[]⟩)]) 48 rfl Try.underlying55 info72 rfl (by decide) (by omega) u5 x5_1 (⟨a1_1, a1_2, a1_3⟩ : S72) [.string a1_1, .string a1_2, .string a1_3] (fun _ => True) (fun _ => False) rfl rfl ?aP (fun _ hk => hk.elim) ?aF ?aO ?aB ?aS ?aL ?_; (case aP => exact k72_mkM _ _ _ (⟨a1_1, a1_2, a1_3⟩ : S72)); (case aB => exact (bG_ GE690.out)); (case aF => exact (fun _ _ => trivial)); (case aO => exact (vR_ HO_5.out)); (case aS => exact (below_size (bG_ GE690.out))); (case aL => have := LMc16.out; omega); intro v700 w26 ho hb hg hat; rw [← Ny699.out] at ho; replace BK690 := A_ (blk_grown (g := gb690) (o := .cells #[.bool a1_0, .string a1_1, .string a1_2, .string a1_3] 74 (0, 0)) (vb_ BK690.out) hg (Kd.R_ne HO_5.out BK690.out (by decide))); replace HB := A_ (hb); have HO701 := A_ (ho); clear HO_5; clear ho hb hg hat))
       replace HO701 := A_ (Kd.R_drew HO701.out)
       replace BK690 := A_ (blk_drew BK690.out)
       replace HB := A_ (below_drew1 HB.out)
       have p702 : 0 ≤ (x7_1 : Int) := of_decide_eq_true as_
       have q702 : x7_1 < (l0.length : Int) := of_decide_eq_true as_
       obtain ⟨ad702, e702, hx702_0, hx702_1, hx702_2⟩ := at_T72 HR0.out x7_1 p702 q702
       have hw702_2 := hx702_2
       have hw702_1 := hx702_1
       have hw702_0 := hx702_0
       cases e702
       replace hx702_0 := bc_ HB.out hx702_0
       replace hx702_1 := bc_ HB.out hx702_1
       replace hx702_2 := bc_ HB.out hx702_2
       replace p702 := eq_true p702
       replace q702 := eq_true q702
       have p703 : 0 ≤ (x7_1 : Int) := of_decide_eq_true as_
       have q703 : x7_1 < (l0.length : Int) := of_decide_eq_true as_
       obtain ⟨ad703, e703, hx703_0, hx703_1, hx703_2⟩ := at_T72 HR0.out x7_1 p703 q703
       have hw703_2 := hx703_2
       have hw703_1 := hx703_1
       have hw703_0 := hx703_0
       obtain rfl : ad702 = ad703 := (by injection e703)
       replace hx703_0 := bc_ HB.out hx703_0
       replace hx703_1 := bc_ HB.out hx703_1
       replace hx703_2 := bc_ HB.out hx703_2
       replace p703 := eq_true p703
       replace q703 := eq_true q703
       refine start_ (n := 20) (S := fun w' => w'.cell? ⟨gb690, 0, none⟩ = some (.bool a1_0) ∧ w'.cell? ⟨gb690, 1, none⟩ = some (.string a1_1) ∧ w'.cell? ⟨gb690, 2, none⟩ = some (.string a1_2) ∧ w'.cell? ⟨gb690, 3, none⟩ = some (.string a1_3) ∧ w'.cell? (ad702.add ((x7_1).toNat * 3)) = some (.string ((rd_T72 l0 x7_1).f0)) ∧ w'.cell? ⟨(ad702.add ((x7_1).toNat * 3)).block, (ad702.add ((x7_1).toNat * 3)).off + 1, none⟩ = some (.string ((rd_T72 l0 x7_1).f1)) ∧ w'.cell? ⟨(ad702.add ((x7_1).toNat * 3)).block, (ad702.add ((x7_1).toNat * 3)).off + 2, none⟩ = some (.string ((rd_T72 l0 x7_1).f2)) ∧ w'.cell? (ad702.add ((x7_1).toNat * 3)) = some (.string ((rd_T72 l0 x7_1).f0)) ∧ w'.cell? ⟨(ad702.add ((x7_1).toNat * 3)).block, (ad702.add ((x7_1).toNat * 3)).off + 1, none⟩ = some (.string ((rd_T72 l0 x7_1).f1)) ∧ w'.cell? ⟨(ad702.add ((x7_1).toNat * 3)).block, (ad702.add ((x7_1).toNat * 3)).off + 2, none⟩ = some (.string ((rd_T72 l0 x7_1).f2))) (ds := []) #[false, false, false, false, false, false, false, false, false, false, false, false, false, false, false, false, false, false, false, false] (by kernel_rfl) rfl rfl ⟨(blk_cell BK690.out 0).trans rfl, (blk_cell BK690.out 1).trans rfl, (blk_cell BK690.out 2).trans rfl, (blk_cell BK690.out 3).trans rfl, ((HB.out.cell (World.block_lt_of_cell? w _ hw702_0)).trans hw702_0), ((HB.out.cell (World.block_lt_of_cell? w _ hw702_1)).trans hw702_1), ((HB.out.cell (World.block_lt_of_cell? w _ hw702_2)).trans hw702_2), ((HB.out.cell (World.block_lt_of_cell? w _ hw703_0)).trans hw703_0), ((HB.out.cell (World.block_lt_of_cell? w _ hw703_1)).trans hw703_1), ((HB.out.cell (World.block_lt_of_cell? w _ hw703_2)).trans hw703_2)⟩ (fun hHeld => ?_); refine with_tabW spec_l12One.tab9 spec_l12One.bits9 (fun HT_ HW_ => ?_)
       generalize w26.drew = w27 at HO701 BK690 HB hx702_0 hx702_1 hx702_2 hx703_0 hx703_1 hx703_2 hHeld ⊢
       refine pu_ (i := 0) (N := some 34) ?_
       refine pu_ (i := 1) (N := some 35) ?_
       refine pu_ (i := 2) (N := some 36) ?_
       refine pu_ (i := 3) (N := some 37) ?_
       refine pu_ (i := 5) (N := some 39) ?_
       refine pu_ (i := 6) (N := some 40) ?_
       refine tk_ (i := 4) (N := some 38) hHeld ?_
       refine tk_ (i := 7) (N := some 41) hHeld ?_
       refine pu_ (i := 8) (N := some 42) ?_
       refine pu_ (i := 9) (N := some 43) ?_
       refine pu_ (i := 10) (N := some 44) ?_
       refine pu_ (i := 11) (N := some 45) ?_
       refine pu_ (i := 12) (N := some 46) ?_
       refine pu_ (i := 13) (N := some 47) ?_
       refine pu_ (i := 15) (N := some 49) ?_
       refine pu_ (i := 16) (N := some 50) ?_
       refine tk_ (i := 14) (N := some 48) hHeld ?_
       refine tk_ (i := 17) (N := some 51) hHeld ?_
       refine pu_ (i := 18) (N := some 52) ?_
       refine pu_ (i := 19) (N := some 53) ?_
       refine done_ (done_of HT_.out (by kernel_rfl)) ?_
       (try clear hHeld)
       have p704 : 0 ≤ (x7_1 : Int) := of_decide_eq_true as_
       have q704 : x7_1 < (l0.length : Int) := of_decide_eq_true as_
       obtain ⟨ad704, e704, hx704_0, hx704_1, hx704_2⟩ := at_T72 HR0.out x7_1 p704 q704
       obtain rfl : ad702 = ad704 := (by injection e704)
       replace hx704_0 := bc_ HB.out hx704_0
       replace hx704_1 := bc_ HB.out hx704_1
       replace hx704_2 := bc_ HB.out hx704_2
       replace p704 := eq_true p704
       replace q704 := eq_true q704
       try go_wp2_with (first | ((with_reducible refine gate_builtin (b := .append) (xs := #[.tmp 54, .tmp 59]) rfl ?_); at_builtin; refine Kd.R_append k72 (w0 := w) w.heap.size rfl (.tmp 54) (.tmp 59) 55 72 (.agg #[(.string ⟨#[]⟩), (.string ⟨#[]⟩), (.string ⟨#[]⟩)]) 48 rfl Try.underlying55 info72 rfl (by decide) (by omega) v700 y699 (⟨(rd_T72 l0 x7_1).f0, (rd_T72 l0 x7_1).f1, (rd_T72 l0 x7_1).f2⟩ : S72) [.string ((rd_T72 l0 x7_1).f0), .string ((rd_T72 l0 x7_1).f1), .string ((rd_T72 l0 x7_1).f2)] (fun _ => True) (fun _ => False) rfl rfl ?aP (fun _ hk => hk.elim) ?aF ?aO ?aB ?aS ?aL ?_; (case aP => exact k72_mkM _ _ _ (⟨(rd_T72 l0 x7_1).f0, (rd_T72 l0 x7_1).f1, (rd_T72 l0 x7_1).f2⟩ : S72)); (case aB => exact (bG_ GE690.out)); (case aF => exact (fun _ _ => trivial)); (case aO => exact (vR_ HO701.out)); (case aS => exact (below_size (bG_ GE690.out))); (case aL => have := LMc24.out; omega); intro v706 w28 ho hb hg hat; rw [← Ny705.out] at ho; replace BK690 := A_ (blk_grown (g := gb690) (o := .cells #[.bool a1_0, .string a1_1, .string a1_2, .string a1_3] 74 (0, 0)) (vb_ BK690.out) hg (Kd.R_ne HO701.out BK690.out (by decide))); replace HB := A_ (hb); have HO707 := A_ (ho); clear HO701; clear ho hb hg hat))
       go_roundg kj7
       case measure => have := HK1.out; have := HJ7.out; omega
       case rel => exact ⟨(y705), (true), (wrap64 (x7_1 + 1)), rs_, rs_, H', ⟨by have := HK1.out; have := HJ7.out; omega⟩, ⟨vR_ HO707.out⟩, ⟨vb_ BK690.out⟩, ⟨bG_ GE690.out⟩⟩
     · replace c15 := Bool.eq_false_iff.mpr c15
       subst c15
       rw [if_neg nf_] at H
       by_cases c34 : 0 ≤ x7_1
       rotate_left
       · exact absurd H (by rw [if_neg c34]; simp)
       rw [if_pos c34] at H
       have c34b0 : decide (0 ≤ x7_1) = true := decide_eq_true c34
       clear c34
       by_cases c35 : x7_1 < (l0.length : Int)
       rotate_left
       · exact absurd H (by rw [if_neg c35]; simp)
       rw [if_pos c35] at H
       have c35b0 : decide (x7_1 < (l0.length : Int)) = true := decide_eq_true c35
       clear c35
       by_cases c36 : ((rd_T72 l0 x7_1).f0).toList = a1_1.toList
       rotate_left
       · rw [if_neg c36] at H
         have c36b0 : (((rd_T72 l0 x7_1).f0).toList == a1_1.toList) = false := beq_eq_false_iff_ne.mpr c36
         have c36b1 : (((rd_T72 l0 x7_1).f0).toList != a1_1.toList) = true := bne_iff_ne.mpr c36
         by_cases c42 : x5_1.length < 2932031007402
         rotate_left
         · exact absurd H (by rw [if_neg c42]; simp)
         rw [if_pos c42] at H
         have LMc42 := Aside0.mk c42
         clear c42
         obtain ⟨y719, hy719⟩ : ∃ y_ : List (S72), y_ = (x5_1 ++ [(⟨(rd_T72 l0 x7_1).f0, (rd_T72 l0 x7_1).f1, (rd_T72 l0 x7_1).f2⟩ : S72)]) := ⟨_, rfl⟩
         replace H : (spec_l12One.l0 kj7 l0 y719 x6_1 (wrap64 (x7_1 + 1)) a1_0 a1_1 a1_2 a1_3) = some r := hy_ hy719 H
         have Ny719 := Aside0.mk hy719
         clear hy719
         have H' := Aside0.mk H
         clear H
         try go_wp2
         replace HO_5 := A_ (Kd.R_drew HO_5.out)
         replace BK690 := A_ (blk_drew BK690.out)
         replace HB := A_ (below_drew1 HB.out)
         have p712 : 0 ≤ (x7_1 : Int) := of_decide_eq_true as_
         have q712 : x7_1 < (l0.length : Int) := of_decide_eq_true as_
         obtain ⟨ad712, e712, hx712_0, hx712_1, hx712_2⟩ := at_T72 HR0.out x7_1 p712 q712
         have hw712_2 := hx712_2
         have hw712_1 := hx712_1
         have hw712_0 := hx712_0
         cases e712
         replace hx712_0 := bc_ HB.out hx712_0
         replace hx712_1 := bc_ HB.out hx712_1
         replace hx712_2 := bc_ HB.out hx712_2
         replace p712 := eq_true p712
         replace q712 := eq_true q712
         refine start_ (n := 20) (S := fun w' => w'.cell? ⟨gb690, 0, none⟩ = some (.bool a1_0) ∧ w'.cell? ⟨gb690, 1, none⟩ = some (.string a1_1) ∧ w'.cell? ⟨gb690, 2, none⟩ = some (.string a1_2) ∧ w'.cell? ⟨gb690, 3, none⟩ = some (.string a1_3) ∧ w'.cell? (ad712.add ((x7_1).toNat * 3)) = some (.string ((rd_T72 l0 x7_1).f0)) ∧ w'.cell? ⟨(ad712.add ((x7_1).toNat * 3)).block, (ad712.add ((x7_1).toNat * 3)).off + 1, none⟩ = some (.string ((rd_T72 l0 x7_1).f1)) ∧ w'.cell? ⟨(ad712.add ((x7_1).toNat * 3)).block, (ad712.add ((x7_1).toNat * 3)).off + 2, none⟩ = some (.string ((rd_T72 l0 x7_1).f2))) (ds := []) #[false, false, false, false, false, false, false, false, false, false, false, false, false, false, false, false, false, false, false, false] (by kernel_rfl) rfl rfl ⟨(blk_cell BK690.out 0).trans rfl, (blk_cell BK690.out 1).trans rfl, (blk_cell BK690.out 2).trans rfl, (blk_cell BK690.out 3).trans rfl, ((HB.out.cell (World.block_lt_of_cell? w _ hw712_0)).trans hw712_0), ((HB.out.cell (World.block_lt_of_cell? w _ hw712_1)).trans hw712_1), ((HB.out.cell (World.block_lt_of_cell? w _ hw712_2)).trans hw712_2)⟩ (fun hHeld => ?_); refine with_tabW spec_l12One.tab9 spec_l12One.bits9 (fun HT_ HW_ => ?_)
         generalize wc.drew = w43 at HO_5 BK690 HB hx712_0 hx712_1 hx712_2 hHeld ⊢
         refine pu_ (i := 0) (N := some 34) ?_
         refine pu_ (i := 1) (N := some 35) ?_
         refine pu_ (i := 2) (N := some 36) ?_
         refine pu_ (i := 3) (N := some 37) ?_
         refine pu_ (i := 5) (N := some 39) ?_
         refine pu_ (i := 6) (N := some 40) ?_
         refine tk_ (i := 4) (N := some 38) hHeld ?_
         refine tk_ (i := 7) (N := some 41) hHeld ?_
         refine pu_ (i := 8) (N := some 42) ?_
         refine pu_ (i := 9) (N := some 43) ?_
         refine pn_ (i := 10) (N := some 44) ?_
         refine pn_ (i := 11) (N := some 45) ?_
         refine pn_ (i := 12) (N := some 46) ?_
         refine pn_ (i := 13) (N := some 47) ?_
         refine pn_ (i := 14) (N := some 48) ?_
         refine pn_ (i := 15) (N := some 49) ?_
         refine pn_ (i := 16) (N := some 50) ?_
         refine pn_ (i := 17) (N := some 51) ?_
         refine pn_ (i := 18) (N := some 52) ?_
         refine pu_ (i := 19) (N := some 53) ?_
         refine done_ (done_of HT_.out (by kernel_rfl)) ?_
         (try clear hHeld)
         have p718 : 0 ≤ (x7_1 : Int) := of_decide_eq_true as_
         have q718 : x7_1 < (l0.length : Int) := of_decide_eq_true as_
         obtain ⟨ad718, e718, hx718_0, hx718_1, hx718_2⟩ := at_T72 HR0.out x7_1 p718 q718
         obtain rfl : ad712 = ad718 := (by injection e718)
         replace hx718_0 := bc_ HB.out hx718_0
         replace hx718_1 := bc_ HB.out hx718_1
         replace hx718_2 := bc_ HB.out hx718_2
         replace p718 := eq_true p718
         replace q718 := eq_true q718
         try go_wp2_with (first | ((with_reducible refine gate_builtin (b := .append) (xs := #[.tmp 54, .tmp 59]) rfl ?_); at_builtin; refine Kd.R_append k72 (w0 := w) w.heap.size rfl (.tmp 54) (.tmp 59) 55 72 (.agg #[(.string ⟨#[]⟩), (.string ⟨#[]⟩), (.string ⟨#[]⟩)]) 48 rfl Try.underlying55 info72 rfl (by decide) (by omega) u5 x5_1 (⟨(rd_T72 l0 x7_1).f0, (rd_T72 l0 x7_1).f1, (rd_T72 l0 x7_1).f2⟩ : S72) [.string ((rd_T72 l0 x7_1).f0), .string ((rd_T72 l0 x7_1).f1), .string ((rd_T72 l0 x7_1).f2)] (fun _ => True) (fun _ => False) rfl rfl ?aP (fun _ hk => hk.elim) ?aF ?aO ?aB ?aS ?aL ?_; (case aP => exact k72_mkM _ _ _ (⟨(rd_T72 l0 x7_1).f0, (rd_T72 l0 x7_1).f1, (rd_T72 l0 x7_1).f2⟩ : S72)); (case aB => exact (bG_ GE690.out)); (case aF => exact (fun _ _ => trivial)); (case aO => exact (vR_ HO_5.out)); (case aS => exact (below_size (bG_ GE690.out))); (case aL => have := LMc42.out; omega); intro v720 w44 ho hb hg hat; rw [← Ny719.out] at ho; replace BK690 := A_ (blk_grown (g := gb690) (o := .cells #[.bool a1_0, .string a1_1, .string a1_2, .string a1_3] 74 (0, 0)) (vb_ BK690.out) hg (Kd.R_ne HO_5.out BK690.out (by decide))); replace HB := A_ (hb); have HO721 := A_ (ho); clear HO_5; clear ho hb hg hat))
         go_roundg kj7
         case measure => have := HK1.out; have := HJ7.out; omega
         case rel => exact ⟨(y719), (x6_1), (wrap64 (x7_1 + 1)), rs_, rs_, H', ⟨by have := HK1.out; have := HJ7.out; omega⟩, ⟨vR_ HO721.out⟩, ⟨vb_ BK690.out⟩, ⟨bG_ GE690.out⟩⟩
       rw [if_pos c36] at H
       have c36b0 : (((rd_T72 l0 x7_1).f0).toList == a1_1.toList) = true := beq_iff_eq.mpr c36
       have c36b1 : (((rd_T72 l0 x7_1).f0).toList != a1_1.toList) = false := bne_eq_false_iff_eq.mpr c36
       clear c36
       by_cases c37 : ((rd_T72 l0 x7_1).f1).toList = a1_2.toList
       · rw [if_pos c37] at H
         have c37b0 : (((rd_T72 l0 x7_1).f1).toList == a1_2.toList) = true := beq_iff_eq.mpr c37
         have c37b1 : (((rd_T72 l0 x7_1).f1).toList != a1_2.toList) = false := bne_eq_false_iff_eq.mpr c37
         clear c37
         have H' := Aside0.mk H
         clear H
         try go_wp2
         replace HO_5 := A_ (Kd.R_drew HO_5.out)
         replace BK690 := A_ (blk_drew BK690.out)
         replace HB := A_ (below_drew1 HB.out)
         have p712 : 0 ≤ (x7_1 : Int) := of_decide_eq_true as_
         have q712 : x7_1 < (l0.length : Int) := of_decide_eq_true as_
         obtain ⟨ad712, e712, hx712_0, hx712_1, hx712_2⟩ := at_T72 HR0.out x7_1 p712 q712
         have hw712_2 := hx712_2
         have hw712_1 := hx712_1
         have hw712_0 := hx712_0
         cases e712
         replace hx712_0 := bc_ HB.out hx712_0
         replace hx712_1 := bc_ HB.out hx712_1
         replace hx712_2 := bc_ HB.out hx712_2
         replace p712 := eq_true p712
         replace q712 := eq_true q712
         have p713 : 0 ≤ (x7_1 : Int) := of_decide_eq_true as_
         have q713 : x7_1 < (l0.length : Int) := of_decide_eq_true as_
         obtain ⟨ad713, e713, hx713_0, hx713_1, hx713_2⟩ := at_T72 HR0.out x7_1 p713 q713
         have hw713_2 := hx713_2
         have hw713_1 := hx713_1
         have hw713_0 := hx713_0
         obtain rfl : ad712 = ad713 := (by injection e713)
         replace hx713_0 := bc_ HB.out hx713_0
         replace hx713_1 := bc_ HB.out hx713_1
         replace hx713_2 := bc_ HB.out hx713_2
         replace p713 := eq_true p713
         replace q713 := eq_true q713
         refine start_ (n := 20) (S := fun w' => w'.cell? ⟨gb690, 0, none⟩ = some (.bool a1_0) ∧ w'.cell? ⟨gb690, 1, none⟩ = some (.string a1_1) ∧ w'.cell? ⟨gb690, 2, none⟩ = some (.string a1_2) ∧ w'.cell? ⟨gb690, 3, none⟩ = some (.string a1_3) ∧ w'.cell? (ad712.add ((x7_1).toNat * 3)) = some (.string ((rd_T72 l0 x7_1).f0)) ∧ w'.cell? ⟨(ad712.add ((x7_1).toNat * 3)).block, (ad712.add ((x7_1).toNat * 3)).off + 1, none⟩ = some (.string ((rd_T72 l0 x7_1).f1)) ∧ w'.cell? ⟨(ad712.add ((x7_1).toNat * 3)).block, (ad712.add ((x7_1).toNat * 3)).off + 2, none⟩ = some (.string ((rd_T72 l0 x7_1).f2)) ∧ w'.cell? (ad712.add ((x7_1).toNat * 3)) = some (.string ((rd_T72 l0 x7_1).f0)) ∧ w'.cell? ⟨(ad712.add ((x7_1).toNat * 3)).block, (ad712.add ((x7_1).toNat * 3)).off + 1, none⟩ = some (.string ((rd_T72 l0 x7_1).f1)) ∧ w'.cell? ⟨(ad712.add ((x7_1).toNat * 3)).block, (ad712.add ((x7_1).toNat * 3)).off + 2, none⟩ = some (.string ((rd_T72 l0 x7_1).f2))) (ds := []) #[false, false, false, false, false, false, false, false, false, false, false, false, false, false, false, false, false, false, false, false] (by kernel_rfl) rfl rfl ⟨(blk_cell BK690.out 0).trans rfl, (blk_cell BK690.out 1).trans rfl, (blk_cell BK690.out 2).trans rfl, (blk_cell BK690.out 3).trans rfl, ((HB.out.cell (World.block_lt_of_cell? w _ hw712_0)).trans hw712_0), ((HB.out.cell (World.block_lt_of_cell? w _ hw712_1)).trans hw712_1), ((HB.out.cell (World.block_lt_of_cell? w _ hw712_2)).trans hw712_2), ((HB.out.cell (World.block_lt_of_cell? w _ hw713_0)).trans hw713_0), ((HB.out.cell (World.block_lt_of_cell? w _ hw713_1)).trans hw713_1), ((HB.out.cell (World.block_lt_of_cell? w _ hw713_2)).trans hw713_2)⟩ (fun hHeld => ?_); refine with_tabW spec_l12One.tab9 spec_l12One.bits9 (fun HT_ HW_ => ?_)
         generalize wc.drew = w38 at HO_5 BK690 HB hx712_0 hx712_1 hx712_2 hx713_0 hx713_1 hx713_2 hHeld ⊢
         refine pu_ (i := 0) (N := some 34) ?_
         refine pu_ (i := 1) (N := some 35) ?_
         refine pu_ (i := 2) (N := some 36) ?_
         refine pu_ (i := 3) (N := some 37) ?_
         refine pu_ (i := 5) (N := some 39) ?_
         refine pu_ (i := 6) (N := some 40) ?_
         refine tk_ (i := 4) (N := some 38) hHeld ?_
         refine tk_ (i := 7) (N := some 41) hHeld ?_
         refine pu_ (i := 8) (N := some 42) ?_
         refine pu_ (i := 9) (N := some 43) ?_
         refine pu_ (i := 10) (N := some 44) ?_
         refine pu_ (i := 11) (N := some 45) ?_
         refine pu_ (i := 12) (N := some 46) ?_
         refine pu_ (i := 13) (N := some 47) ?_
         refine pu_ (i := 15) (N := some 49) ?_
         refine pu_ (i := 16) (N := some 50) ?_
         refine tk_ (i := 14) (N := some 48) hHeld ?_
         refine tk_ (i := 17) (N := some 51) hHeld ?_
         refine pu_ (i := 18) (N := some 52) ?_
         refine pu_ (i := 19) (N := some 53) ?_
         refine done_ (done_of HT_.out (by kernel_rfl)) ?_
         (try clear hHeld)
         try go_wp2
         go_roundg kj7
         case measure => have := HK1.out; have := HJ7.out; omega
         case rel => exact ⟨(x5_1), (x6_1), (wrap64 (x7_1 + 1)), rs_, rs_, H', ⟨by have := HK1.out; have := HJ7.out; omega⟩, ⟨vR_ HO_5.out⟩, ⟨vb_ BK690.out⟩, ⟨bG_ GE690.out⟩⟩
       rw [if_neg c37] at H
       have c37b0 : (((rd_T72 l0 x7_1).f1).toList == a1_2.toList) = false := beq_eq_false_iff_ne.mpr c37
       have c37b1 : (((rd_T72 l0 x7_1).f1).toList != a1_2.toList) = true := bne_iff_ne.mpr c37
       by_cases c39 : x5_1.length < 2932031007402
       rotate_left
       · exact absurd H (by rw [if_neg c39]; simp)
       rw [if_pos c39] at H
       have LMc39 := Aside0.mk c39
       clear c39
       obtain ⟨y715, hy715⟩ : ∃ y_ : List (S72), y_ = (x5_1 ++ [(⟨(rd_T72 l0 x7_1).f0, (rd_T72 l0 x7_1).f1, (rd_T72 l0 x7_1).f2⟩ : S72)]) := ⟨_, rfl⟩
       replace H : (spec_l12One.l0 kj7 l0 y715 x6_1 (wrap64 (x7_1 + 1)) a1_0 a1_1 a1_2 a1_3) = some r := hy_ hy715 H
       have Ny715 := Aside0.mk hy715
       clear hy715
       have H' := Aside0.mk H
       clear H
       try go_wp2
       replace HO_5 := A_ (Kd.R_drew HO_5.out)
       replace BK690 := A_ (blk_drew BK690.out)
       replace HB := A_ (below_drew1 HB.out)
       have p712 : 0 ≤ (x7_1 : Int) := of_decide_eq_true as_
       have q712 : x7_1 < (l0.length : Int) := of_decide_eq_true as_
       obtain ⟨ad712, e712, hx712_0, hx712_1, hx712_2⟩ := at_T72 HR0.out x7_1 p712 q712
       have hw712_2 := hx712_2
       have hw712_1 := hx712_1
       have hw712_0 := hx712_0
       cases e712
       replace hx712_0 := bc_ HB.out hx712_0
       replace hx712_1 := bc_ HB.out hx712_1
       replace hx712_2 := bc_ HB.out hx712_2
       replace p712 := eq_true p712
       replace q712 := eq_true q712
       have p713 : 0 ≤ (x7_1 : Int) := of_decide_eq_true as_
       have q713 : x7_1 < (l0.length : Int) := of_decide_eq_true as_
       obtain ⟨ad713, e713, hx713_0, hx713_1, hx713_2⟩ := at_T72 HR0.out x7_1 p713 q713
       have hw713_2 := hx713_2
       have hw713_1 := hx713_1
       have hw713_0 := hx713_0
       obtain rfl : ad712 = ad713 := (by injection e713)
       replace hx713_0 := bc_ HB.out hx713_0
       replace hx713_1 := bc_ HB.out hx713_1
       replace hx713_2 := bc_ HB.out hx713_2
       replace p713 := eq_true p713
       replace q713 := eq_true q713
       refine start_ (n := 20) (S := fun w' => w'.cell? ⟨gb690, 0, none⟩ = some (.bool a1_0) ∧ w'.cell? ⟨gb690, 1, none⟩ = some (.string a1_1) ∧ w'.cell? ⟨gb690, 2, none⟩ = some (.string a1_2) ∧ w'.cell? ⟨gb690, 3, none⟩ = some (.string a1_3) ∧ w'.cell? (ad712.add ((x7_1).toNat * 3)) = some (.string ((rd_T72 l0 x7_1).f0)) ∧ w'.cell? ⟨(ad712.add ((x7_1).toNat * 3)).block, (ad712.add ((x7_1).toNat * 3)).off + 1, none⟩ = some (.string ((rd_T72 l0 x7_1).f1)) ∧ w'.cell? ⟨(ad712.add ((x7_1).toNat * 3)).block, (ad712.add ((x7_1).toNat * 3)).off + 2, none⟩ = some (.string ((rd_T72 l0 x7_1).f2)) ∧ w'.cell? (ad712.add ((x7_1).toNat * 3)) = some (.string ((rd_T72 l0 x7_1).f0)) ∧ w'.cell? ⟨(ad712.add ((x7_1).toNat * 3)).block, (ad712.add ((x7_1).toNat * 3)).off + 1, none⟩ = some (.string ((rd_T72 l0 x7_1).f1)) ∧ w'.cell? ⟨(ad712.add ((x7_1).toNat * 3)).block, (ad712.add ((x7_1).toNat * 3)).off + 2, none⟩ = some (.string ((rd_T72 l0 x7_1).f2))) (ds := []) #[false, false, false, false, false, false, false, false, false, false, false, false, false, false, false, false, false, false, false, false] (by kernel_rfl) rfl rfl ⟨(blk_cell BK690.out 0).trans rfl, (blk_cell BK690.out 1).trans rfl, (blk_cell BK690.out 2).trans rfl, (blk_cell BK690.out 3).trans rfl, ((HB.out.cell (World.block_lt_of_cell? w _ hw712_0)).trans hw712_0), ((HB.out.cell (World.block_lt_of_cell? w _ hw712_1)).trans hw712_1), ((HB.out.cell (World.block_lt_of_cell? w _ hw712_2)).trans hw712_2), ((HB.out.cell (World.block_lt_of_cell? w _ hw713_0)).trans hw713_0), ((HB.out.cell (World.block_lt_of_cell? w _ hw713_1)).trans hw713_1), ((HB.out.cell (World.block_lt_of_cell? w _ hw713_2)).trans hw713_2)⟩ (fun hHeld => ?_); refine with_tabW spec_l12One.tab9 spec_l12One.bits9 (fun HT_ HW_ => ?_)
       generalize wc.drew = w40 at HO_5 BK690 HB hx712_0 hx712_1 hx712_2 hx713_0 hx713_1 hx713_2 hHeld ⊢
       refine pu_ (i := 0) (N := some 34) ?_
       refine pu_ (i := 1) (N := some 35) ?_
       refine pu_ (i := 2) (N := some 36) ?_
       refine pu_ (i := 3) (N := some 37) ?_
       refine pu_ (i := 5) (N := some 39) ?_
       refine pu_ (i := 6) (N := some 40) ?_
       refine tk_ (i := 4) (N := some 38) hHeld ?_
       refine tk_ (i := 7) (N := some 41) hHeld ?_
       refine pu_ (i := 8) (N := some 42) ?_
       refine pu_ (i := 9) (N := some 43) ?_
       refine pu_ (i := 10) (N := some 44) ?_
       refine pu_ (i := 11) (N := some 45) ?_
       refine pu_ (i := 12) (N := some 46) ?_
       refine pu_ (i := 13) (N := some 47) ?_
       refine pu_ (i := 15) (N := some 49) ?_
       refine pu_ (i := 16) (N := some 50) ?_
       refine tk_ (i := 14) (N := some 48) hHeld ?_
       refine tk_ (i := 17) (N := some 51) hHeld ?_
       refine pu_ (i := 18) (N := some 52) ?_
       refine pu_ (i := 19) (N := some 53) ?_
       refine done_ (done_of HT_.out (by kernel_rfl)) ?_
       (try clear hHeld)
       have p714 : 0 ≤ (x7_1 : Int) := of_decide_eq_true as_
       have q714 : x7_1 < (l0.length : Int) := of_decide_eq_true as_
       obtain ⟨ad714, e714, hx714_0, hx714_1, hx714_2⟩ := at_T72 HR0.out x7_1 p714 q714
       obtain rfl : ad712 = ad714 := (by injection e714)
       replace hx714_0 := bc_ HB.out hx714_0
       replace hx714_1 := bc_ HB.out hx714_1
       replace hx714_2 := bc_ HB.out hx714_2
       replace p714 := eq_true p714
       replace q714 := eq_true q714
       try go_wp2_with (first | ((with_reducible refine gate_builtin (b := .append) (xs := #[.tmp 54, .tmp 59]) rfl ?_); at_builtin; refine Kd.R_append k72 (w0 := w) w.heap.size rfl (.tmp 54) (.tmp 59) 55 72 (.agg #[(.string ⟨#[]⟩), (.string ⟨#[]⟩), (.string ⟨#[]⟩)]) 48 rfl Try.underlying55 info72 rfl (by decide) (by omega) u5 x5_1 (⟨(rd_T72 l0 x7_1).f0, (rd_T72 l0 x7_1).f1, (rd_T72 l0 x7_1).f2⟩ : S72) [.string ((rd_T72 l0 x7_1).f0), .string ((rd_T72 l0 x7_1).f1), .string ((rd_T72 l0 x7_1).f2)] (fun _ => True) (fun _ => False) rfl rfl ?aP (fun _ hk => hk.elim) ?aF ?aO ?aB ?aS ?aL ?_; (case aP => exact k72_mkM _ _ _ (⟨(rd_T72 l0 x7_1).f0, (rd_T72 l0 x7_1).f1, (rd_T72 l0 x7_1).f2⟩ : S72)); (case aB => exact (bG_ GE690.out)); (case aF => exact (fun _ _ => trivial)); (case aO => exact (vR_ HO_5.out)); (case aS => exact (below_size (bG_ GE690.out))); (case aL => have := LMc39.out; omega); intro v716 w41 ho hb hg hat; rw [← Ny715.out] at ho; replace BK690 := A_ (blk_grown (g := gb690) (o := .cells #[.bool a1_0, .string a1_1, .string a1_2, .string a1_3] 74 (0, 0)) (vb_ BK690.out) hg (Kd.R_ne HO_5.out BK690.out (by decide))); replace HB := A_ (hb); have HO717 := A_ (ho); clear HO_5; clear ho hb hg hat))
       go_roundg kj7
       case measure => have := HK1.out; have := HJ7.out; omega
       case rel => exact ⟨(y715), (x6_1), (wrap64 (x7_1 + 1)), rs_, rs_, H', ⟨by have := HK1.out; have := HJ7.out; omega⟩, ⟨vR_ HO717.out⟩, ⟨vb_ BK690.out⟩, ⟨bG_ GE690.out⟩⟩
end Go.Proofs.Ytbgggcgjijljkaa.Q
