/- Printed walks. No condition. -/
import Derived.Test.YtbgggcgjijljkaaVFnPropsG22
import Derived.Test.YtbgggcgjijljkaaVFnPropsG25
import Derived.Test.YtbgggcgjijljkaaVFnPropsG26
import Derived.Test.YtbgggcgjijljkaaVFnPropsG23
import Derived.Test.YtbgggcgjijljkaaVFnPropsG24
namespace Go.Proofs.Ytbgggcgjijljkaa.Q
open Go.RowKit Go.Proofs.YtbgggcgjijljkaaW.PrintWords Go.Proofs.YtbgggcgjijljkaaW.PrintLast Go.Proofs.YtbgggcgjijljkaaW.PrintMore
attribute [local go_sem] max2_int min2_int max_two min_two max_three min_three max_four min_four
set_option linter.unusedVariables false
set_option linter.unusedSimpArgs false
def Sto (g : Nat) (W w' : World) : Prop := ∃ l : List (Nat × Value), w' = l.foldl (fun w p => w.setCell ⟨g, p.1, none⟩ p.2) W
theorem bIHSets0_ {P : Prop} (h : P := by repeat (first | (with_reducible first | exact HB.out | apply below_alloc | apply pw_below_drewN | apply below_drew1 | refine below_set ?_ (IsS116.ge HI0.out)) | exact HB.out)) : P := h
theorem bIHSets1_ {P : Prop} (h : P := by repeat (first | (with_reducible first | exact HI0.out | apply IsS116.alloc | apply IsS116.drewN | apply IsS116.drew | apply IsS116.set_1 | apply IsS116.set_2) | exact HI0.out)) : P := h
theorem Sto.refl (g : Nat) (W : World) : Sto g W W := ⟨[], rfl⟩
theorem Sto.step {g : Nat} {W w1 : World} (h : Sto g W w1) (i : Nat) (u : Value) : Sto g W (w1.setCell ⟨g, i, none⟩ u) := by
 obtain ⟨l, rfl⟩ := h
 exact ⟨l ++ [(i, u)], by simp⟩
theorem Sto.keeps {g : Nat} {W w' : World} (h : Sto g W w') {I : World → Prop} (h0 : I W) (hs : ∀ w i u, I w → I (w.setCell ⟨g, i, none⟩ u)) : I w' := by
 obtain ⟨l, rfl⟩ := h
 induction l generalizing W with
 | nil => exact h0
 | cons p l ih => exact ih (hs _ _ _ h0)
def IsBlk (g : Nat) (t : TypeId) (w : World) (cs : Array Value) : Prop := w.heap[g]? = some (.cells cs t (0, 0))
theorem IsBlk.set {g : Nat} {t : TypeId} {w : World} {cs : Array Value} (h : IsBlk g t w cs) (i : Nat) (u : Value) : IsBlk g t (w.setCell ⟨g, i, none⟩ u) (cs.setIfInBounds i u) := blk_set h i u
theorem IsBlk.of {g : Nat} {t : TypeId} {w : World} {cs : Array Value} (h : w.heap[g]? = some (.cells cs t (0, 0))) : IsBlk g t w cs := h
theorem box_store {P : Program} {ops : Array Oper} {rest : List Oper} {o : Oper} {a : Act} {Q : Exit → Act → World → Prop} {W w1 : World} {g : Nat} {t0 t : TypeId} {p : Tmp} {v : Operand} {cs : Array Value} (hgd : o.guard = none) (_ho : o.op = .store t (.tmp p) v) (hN : o.dst = none)
 (hrun : (execOp a.eval o).run P W = .ok .skip w1) (hs : Sto g W w1) (hb : IsBlk g t0 w1 cs)
 (h : ∀ w', Sto g W w' → w'.heap[g]? = some (.cells cs t0 (0, 0)) → wpList P ops Q rest a w') : wpList P ops Q (o :: rest) a W :=
 store_event hgd _ho hN hrun (fun w' e => h w' (e ▸ hs) (e ▸ (show w1.heap[g]? = some (.cells cs t0 (0, 0)) from hb)))
section
variable {w0 W w' : World} {g : Nat} (hw : Sto g W w')
include hw
theorem stored_R {α : Type} {d : Kd α} {e base : Nat} {ok : Nat → Prop} {v : Value} {xs : List α} (h : d.R e W base ok v xs) (hne : ∀ k, ok k → k ≠ g) : d.R e w' base ok v xs := hw.keeps (I := fun w => d.R e w base ok v xs) h (fun _ _ u h => Kd.R_far h hne u)
theorem stored_keep {k : Nat} {row : Option Nat} (h : KeepBut w0 W k row) (hg : w0.heap.size ≤ g) : KeepBut w0 w' k row := hw.keeps (I := fun w => KeepBut w0 w k row) h (fun _ _ u h => keep_far h hg u)
theorem stored_below (h : Below w0.heap.size w0 W) (hg : w0.heap.size ≤ g) : Below w0.heap.size w0 w' := hw.keeps (I := fun w => Below w0.heap.size w0 w) h (fun _ _ _ h => below_set h hg)
end
theorem stored_IsS116 {w0 W w' : World} {g gb : Nat} {f0 f1 f2} (hw : Sto gb W w') (h : IsS116 w0 W g f0 f1 f2) (hne : g ≠ gb) : IsS116 w0 w' g f0 f1 f2 := hw.keeps (I := fun w => IsS116 w0 w g f0 f1 f2) h (fun _ _ u h => IsS116.far h hne u)
set_option maxHeartbeats 16000000 in
set_option maxRecDepth 100000 in
theorem spec_l12Sets.calls (k : Nat) (g : Nat) (s0_0 : List Int) (s0_1 : Int) (s0_2 : Int) (r1 : List (S74)) (r2 : Int) (r3 : Int) (w0 w : World) (hI : IsS116 w0 w g s0_0 s0_1 s0_2) (hB : Below w0.heap.size w0 w) (h : spec_l12Sets.f k s0_0 s0_1 s0_2 = some (r1, r2, r3)) :
 Calls Try.prog 121 #[.pointer (some ⟨g, 0, none⟩)] w fun e w' => ∃ v0_ : Value, e = .returned (v0_) ∧ Kd.R k74 74 w' w.heap.size (fun _ => True) v0_ r1 ∧ IsS116 w0 w' g s0_0 r2 r3 ∧ Below w0.heap.size w0 w' ∧ KeepBut w w' g none := by
 have hu74 := Try.underlying74
 have HI0 := Aside0.mk hI
 have HK := A_ (KeepBut.refl w g none)
 have HL := Aside0.mk hB.size
 clear hI
 have HW0 := Aside0.mk hB.size
 have HB := Aside0.mk hB
 clear hB
 have H : ((spec_l1Below.f s0_0 s0_1 s0_2 4).bind fun bt1417 => (spec_l12Sets.l0 k (([] : List (S74))) bt1417.1 s0_0 bt1417.2.1 bt1417.2.2)) = some (r1, r2, r3) := h
 clear h
 obtain ⟨y1414, hy1414⟩ : ∃ y_ : List (S74), y_ = (([] : List (S74))) := ⟨_, rfl⟩
 replace H : ((spec_l1Below.f s0_0 s0_1 s0_2 4).bind fun bt1417 => (spec_l12Sets.l0 k y1414 bt1417.1 s0_0 bt1417.2.1 bt1417.2.2)) = some (r1, r2, r3) := hy_ hy1414 H
 have Ny1414 := Aside0.mk hy1414
 clear hy1414
 obtain ⟨⟨t1417, t1418, t1419⟩, A2, H⟩ := bo_ H
 (try dsimp only at H)
 have H' := Aside0.mk H
 clear H
 go_enter Try.func121, Try.ntmps121
 go_wp2_with (first | ((with_reducible refine gate_dst (N := 6) rfl ?_); refine Kd.R_lit k74 _ 74 ?hg (N := 6) ?hd (xs := ([] : List (S74))) (inner := []) (ok := fun _ => True) (okp := fun _ => True) ?hr ?hp (fun _ hk => hk) trivial (Below.refl _ _) (Nat.le_refl _) (by simp) ?_; (case hd => rfl); (case hg => rfl); (case hr => first | (go_simp; done) | (go_simp; rfl)); (case hp => exact (Reps.none _ _)); intro v1415 w3 ho4 hb hg_ hnew_; clear hg_ hnew_; (first | rw [← Ny1414.out] at ho4 | (simp only [Int.reduceToNat] at ho4; rw [← Ny1414.out] at ho4)); have HO1416 := A_ (Kd.R_lower ho4 (keep_size (w := w) (g := g) (row := none) bK_)); replace HK := A_ (KeepBut.trans bK_ (KeepBut.of_below hb g none) (.inl rfl)); replace HB := A_ (below_step bIHSets0_ hb); replace HI0 := A_ (IsS116.below bIHSets1_ hb); clear hb ho4) | ((with_reducible refine gate_callee (f := 117) rfl ?_); refine gL_ (some 8) Try.func117 #[.pointer (some ⟨g, 0, none⟩), .int .i64 4] ?_; (with_reducible refine (spec_l1Below.calls g s0_0 s0_1 s0_2 4 t1417 t1418 t1419 w0 _ ?s1 ?s2 A2.out).mono ?_); (case s1 => exact bIHSets1_); (case s2 => exact bIHSets0_); rintro e w5 ⟨rfl, hi, hb, hk⟩; refine ⟨_, rfl, ?_⟩; replace HO1416 := A_ (Kd.R_mono (Kd.R_keep (IsS116.apart (show IsS116 w0 _ g s0_0 s0_1 s0_2 from bIHSets1_) (vR_ HO1416.out) (by decide)) hk (fun _ h => h.2)) (fun _ h => h.1)); replace HK := A_ (KeepBut.trans bK_ hk (.inl rfl)); replace HB := A_ (hb); replace HI0 := A_ (hi); (try clear hb); (try clear hk); (try clear hi)))
 go_loopg [3, 4] k (fun kq v3 v4 w' => ∃ (x3_1 : List (S74)) (x4_1 : Int) (x1001_1 : Int) (x1002_1 : Int), v4 = .int .i64 x4_1 ∧ Aside0 (spec_l12Sets.l0 kq x3_1 x4_1 s0_0 x1001_1 x1002_1 = some (r1, r2, r3)) ∧ Aside0 (kq ≤ k) ∧ Aside0 (Kd.R k74 74 w' w.heap.size (fun _ => True) v3 x3_1) ∧ Aside0 (IsS116 w0 w' g s0_0 x1001_1 x1002_1) ∧ Aside0 (KeepBut w w' g none) ∧ Aside0 (Below w0.heap.size w0 w'))
 case atStart => exact ⟨(y1414), (t1417), (t1418), (t1419), rs_, H', ⟨Nat.le_refl _⟩, ⟨vR_ HO1416.out⟩, ⟨bIHSets1_⟩, ⟨bK_⟩, ⟨bIHSets0_⟩⟩
 case round =>
  clear H'
  try clear c1
  try clear p2
  obtain ⟨x3_1, x4_1, x1001_1, x1002_1, rfl, HA, HK1, HO_3, HI0, HK, HB⟩ := hrel
  cases gk with
  | zero => exact absurd HA.out (by simp [spec_l12Sets.l0])
  | succ k1 =>
   have H := HA.out
   clear HA
   simp only [spec_l12Sets.l0] at H
   by_cases c6 : x4_1 > 0
   rotate_left
   · rw [if_neg c6] at H
     have c6b0 : decide (0 < x4_1) = false := decide_eq_false c6
     clear c6
     simp only [Option.some.injEq, Prod.mk.injEq] at H
     obtain ⟨rfl, rfl, rfl⟩ := H
     go_wp2
     go_ret
     exact ⟨_, rr_, by (with_reducible repeat (first | apply Kd.R_alloc | apply Kd.R_drewN | apply Kd.R_drew)); exact HO_3.out, bIHSets1_, bIHSets0_, bK_⟩
   rw [if_pos c6] at H
   have c6b0 : decide (0 < x4_1) = true := decide_eq_true c6
   clear c6
   obtain ⟨⟨t1420, t1421, t1422⟩, A7, H⟩ := bo_ H
   (try dsimp only at H)
   obtain ⟨⟨t1423, t1424, t1425, t1426, t1427⟩, A8, H⟩ := bo_ H
   (try dsimp only at H)
   by_cases c9 : t1420 = true
   · subst c9
     rw [if_pos rfl] at H
     by_cases c10 : x3_1.length < 2513169434916
     rotate_left
     · exact absurd H (by rw [if_neg c10]; simp)
     rw [if_pos c10] at H
     have LMc10 := Aside0.mk c10
     clear c10
     obtain ⟨y1429, hy1429⟩ : ∃ y_ : List (S74), y_ = (x3_1 ++ [(⟨true, (⟨t1423, t1424, (⟨#[]⟩ : ByteArray)⟩ : S72)⟩ : S74)]) := ⟨_, rfl⟩
     replace H : (spec_l12Sets.l0 k1 y1429 (wrap64 (x4_1 - 1)) s0_0 t1426 t1427) = some (r1, r2, r3) := hy_ hy1429 H
     have Ny1429 := Aside0.mk hy1429
     clear hy1429
     have H' := Aside0.mk H
     clear H
     go_wp2_with (first | ((with_reducible refine gate_callee (f := 118) rfl ?_); refine gL_ (some 14) Try.func118 #[.pointer (some ⟨g, 0, none⟩), .int .i64 3] ?_; (with_reducible refine (spec_l1Once.calls g s0_0 x1001_1 x1002_1 3 true t1421 t1422 w0 _ ?s1 ?s2 A7.out).mono ?_); (case s1 => exact bIHSets1_); (case s2 => exact bIHSets0_); rintro e w11 ⟨rfl, hi, hb, hk⟩; refine ⟨_, rfl, ?_⟩; replace HO_3 := A_ (Kd.R_mono (Kd.R_keep (IsS116.apart (show IsS116 w0 _ g s0_0 x1001_1 x1002_1 from bIHSets1_) (vR_ HO_3.out) (by decide)) hk (fun _ h => h.2)) (fun _ h => h.1)); replace HK := A_ (KeepBut.trans bK_ hk (.inl rfl)); replace HB := A_ (hb); replace HI0 := A_ (hi); (try clear hb); (try clear hk); (try clear hi)) | ((with_reducible refine gate_callee (f := 128) rfl ?_); refine gL_ (some 16) Try.func128 #[.pointer (some ⟨g, 0, none⟩)] ?_; (with_reducible refine (spec_l10OneProp.calls g s0_0 t1421 t1422 t1423 t1424 t1425 t1426 t1427 w0 _ ?s1 ?s2 A8.out).mono ?_); (case s1 => exact bIHSets1_); (case s2 => exact bIHSets0_); rintro e w12 ⟨rfl, hi, hb, hk⟩; refine ⟨_, rfl, ?_⟩; replace HO_3 := A_ (Kd.R_mono (Kd.R_keep (IsS116.apart (show IsS116 w0 _ g s0_0 t1421 t1422 from bIHSets1_) (vR_ HO_3.out) (by decide)) hk (fun _ h => h.2)) (fun _ h => h.1)); replace HK := A_ (KeepBut.trans bK_ hk (.inl rfl)); replace HB := A_ (hb); replace HI0 := A_ (hi); (try clear hb); (try clear hk); (try clear hi)) | ((with_reducible refine gate_dst (N := 5) rfl ?_); refine bx_ (N := 5) (cs := #[.bool false, .string (⟨#[]⟩ : ByteArray), .string (⟨#[]⟩ : ByteArray), .string (⟨#[]⟩ : ByteArray)]) (t := 74) ?_; intro gb1428 hg w13 hbox hb; replace HO_3 := A_ (Kd.R_below (Kd.R_elderB (vR_ HO_3.out) gb1428 (Nat.le_of_eq hg.symm)) hb); replace HB := A_ (below_step bIHSets0_ hb); have BK1428 := A_ (hbox); have GW1428 := A_ ((by rw [hg]; exact (keep_size (w := w) (g := g) (row := none) bK_) : w.heap.size ≤ gb1428)); have GE1428 := A_ ((Nat.le_trans HW0.out (by rw [hg]; exact (keep_size (w := w) (g := g) (row := none) bK_) : w.heap.size ≤ gb1428) : w0.heap.size ≤ gb1428)); replace HK := A_ (KeepBut.trans bK_ (KeepBut.of_below hb g none) (.inl rfl)); have NB0_1428 := A_ ((by rw [hg]; exact Nat.ne_of_lt (IsS116.lt (show IsS116 w0 _ g s0_0 t1426 t1427 from bIHSets1_)) : g ≠ gb1428)); have NB1428_0 := A_ ((by rw [hg]; exact Nat.ne_of_gt (IsS116.lt (show IsS116 w0 _ g s0_0 t1426 t1427 from bIHSets1_)) : gb1428 ≠ g)); replace HI0 := A_ (IsS116.below bIHSets1_ hb); clear hb hbox hg; have hnb14 := NB1428_0.out; have hnc14 := NB0_1428.out; obtain ⟨hcz15_0, hcz15_1, hcz15_2, hcz15_3, hfz15_0, hfz15_1, hfz15_2, hfz15_3⟩ := cz4_ BK1428.out) | ((with_reducible refine gate_store (t := _) (p := _) (v := _) rfl ?_); apply box_store (g := gb1428); (case hrun => first | (go_simp; done) | (go_simp; rfl)); (case _ho => rfl); (case hN => rfl); (case hgd => rfl); (case hs => repeat (first | (with_reducible exact Sto.refl _ _) | refine Sto.step ?_ _ _)); (case hb => repeat (first | (with_reducible exact IsBlk.of BK1428.out) | (with_reducible apply IsBlk.set))); intro w' hw' bk_; simp only [List.setIfInBounds_toArray, List.set_cons_zero, List.set_cons_succ] at bk_; replace HO_3 := A_ (stored_R hw' HO_3.out (fun _ hk => hk.2)); replace HI0 := A_ (stored_IsS116 hw' HI0.out NB0_1428.out); replace HK := A_ (stored_keep hw' HK.out GW1428.out); replace HB := A_ (stored_below hw' HB.out GE1428.out); replace BK1428 := A_ (bk_); clear bk_ hw' hcz15_0 hfz15_0 hcz15_1 hfz15_1 hcz15_2 hfz15_2 hcz15_3 hfz15_3; have hcz15_0 := (blk_cell BK1428.out 0); simp only [List.getElem?_toArray, List.getElem?_cons_zero, List.getElem?_cons_succ] at hcz15_0; have hcz15_1 := (blk_cell BK1428.out 1); simp only [List.getElem?_toArray, List.getElem?_cons_zero, List.getElem?_cons_succ] at hcz15_1; have hcz15_2 := (blk_cell BK1428.out 2); simp only [List.getElem?_toArray, List.getElem?_cons_zero, List.getElem?_cons_succ] at hcz15_2; have hcz15_3 := (blk_cell BK1428.out 3); simp only [List.getElem?_toArray, List.getElem?_cons_zero, List.getElem?_cons_succ] at hcz15_3; have hfz15_0 := blk_frozen BK1428.out 0; have hfz15_1 := blk_frozen BK1428.out 1; have hfz15_2 := blk_frozen BK1428.out 2; have hfz15_3 := blk_frozen BK1428.out 3) | ((with_reducible refine gate_builtin (b := .append) (xs := #[.tmp 22, .tmp 24]) rfl ?_); at_builtin; refine Kd.R_append k74 w.heap.size rfl (.tmp 22) (.tmp 24) 42 74 (.agg #[(.bool false), (.string ⟨#[]⟩), (.string ⟨#[]⟩), (.string ⟨#[]⟩)]) 56 rfl Try.underlying42 info74 rfl (by decide) (by omega) u3 x3_1 (⟨true, (⟨t1423, t1424, (⟨#[]⟩ : ByteArray)⟩ : S72)⟩ : S74) [.bool true, .string t1423, .string t1424, .string (⟨#[]⟩ : ByteArray)] (fun k_ => k_ ≠ gb1428) (fun _ => False) rfl (by first | (go_simp; done) | (go_simp; rfl)) ?aP (fun _ hk => hk.elim) ?aF ?aO (Below.refl _ _) ?aS ?aL ?_; (case aP => exact k74_mkM _ _ _ (⟨true, (⟨t1423, t1424, (⟨#[]⟩ : ByteArray)⟩ : S72)⟩ : S74)); (case aF => exact (fun k_ hk => Kd.freshB (g := gb1428) (o := .cells #[.bool true, .string t1423, .string t1424, .string (⟨#[]⟩ : ByteArray)] 74 (0, 0)) (by (with_reducible repeat (first | refine blk_drewN ?_ _ | refine blk_drew ?_ | refine blk_alloc ?_ _)); (with_reducible repeat (first | refine blk_drewN ?_ _ | refine blk_drew ?_ | refine blk_alloc ?_ _)); (with_reducible repeat (first | refine blk_drewN ?_ _ | refine blk_drew ?_ | refine blk_alloc ?_ _)); (with_reducible repeat (first | refine blk_drewN ?_ _ | refine blk_drew ?_ | refine blk_alloc ?_ _)); (with_reducible repeat (first | refine blk_drewN ?_ _ | refine blk_drew ?_ | refine blk_alloc ?_ _)); (with_reducible repeat (first | refine blk_drewN ?_ _ | refine blk_drew ?_ | refine blk_alloc ?_ _)); exact BK1428.out) k_ hk)); (case aO => exact (by (with_reducible repeat (first | apply Kd.R_alloc | apply Kd.R_drewN | apply Kd.R_drew)); exact Kd.R_mono (Kd.R_mono HO_3.out (fun k_ hk => (⟨hk, hk.2⟩ : _ ∧ k_ ≠ gb1428))) (fun _ hk => hk.1.2))); (case aS => exact (keep_size (w := w) (g := g) (row := none) (by repeat (first | (with_reducible first | exact HK.out | apply KeepBut.set_ | apply keep_drewN | apply keep_drew | apply keep_alloc | refine keep_far ?_ GW1428.out _) | exact HK.out)))); (case aL => have := LMc10.out; omega); intro v1430 w16 ho hb hg hat; rw [← Ny1429.out] at ho; replace BK1428 := A_ (blk_grown (g := gb1428) (o := .cells #[.bool true, .string t1423, .string t1424, .string (⟨#[]⟩ : ByteArray)] 74 (0, 0)) (by (with_reducible repeat (first | refine blk_drewN ?_ _ | refine blk_drew ?_ | refine blk_alloc ?_ _)); (with_reducible repeat (first | refine blk_drewN ?_ _ | refine blk_drew ?_ | refine blk_alloc ?_ _)); (with_reducible repeat (first | refine blk_drewN ?_ _ | refine blk_drew ?_ | refine blk_alloc ?_ _)); (with_reducible repeat (first | refine blk_drewN ?_ _ | refine blk_drew ?_ | refine blk_alloc ?_ _)); (with_reducible repeat (first | refine blk_drewN ?_ _ | refine blk_drew ?_ | refine blk_alloc ?_ _)); (with_reducible repeat (first | refine blk_drewN ?_ _ | refine blk_drew ?_ | refine blk_alloc ?_ _)); exact BK1428.out) hg (Kd.R_away HO_3.out (fun _ hk => hk.2))); replace HB := A_ (below_weaken (by repeat (first | (with_reducible first | exact HB.out | apply below_alloc | apply pw_below_drewN | apply below_drew1 | refine below_set ?_ (IsS116.ge HI0.out) | refine below_set ?_ GE1428.out) | exact HB.out)) HL.out hb); replace HI0 := A_ (IsS116.grown (by repeat (first | (with_reducible first | exact HI0.out | apply IsS116.alloc | apply IsS116.drewN | apply IsS116.drew | apply IsS116.set_1 | apply IsS116.set_2 | refine IsS116.far ?_ NB0_1428.out _) | exact HI0.out)) hg (IsS116.own_ne HI0.out HO_3.out (by decide))); replace HK := A_ (KeepBut.trans (by repeat (first | (with_reducible first | exact HK.out | apply KeepBut.set_ | apply keep_drewN | apply keep_drew | apply keep_alloc | refine keep_far ?_ GW1428.out _) | exact HK.out)) (KeepBut.of_grown hg g) (Kd.R_base2 HO_3.out)); have HO1431 := A_ (ho); clear HO_3; clear ho hb hg hat))
     go_roundg k1
     case measure => have := HK1.out; omega
     case rel => exact ⟨(y1429), (wrap64 (x4_1 - 1)), (t1426), (t1427), rs_, H', ⟨by have := HK1.out; omega⟩, ⟨by (with_reducible repeat (first | apply Kd.R_alloc | apply Kd.R_drewN | apply Kd.R_drew)); exact Kd.R_mono HO1431.out (fun _ hk => trivial)⟩, ⟨by repeat (first | (with_reducible first | exact HI0.out | apply IsS116.alloc | apply IsS116.drewN | apply IsS116.drew | apply IsS116.set_1 | apply IsS116.set_2 | refine IsS116.far ?_ NB0_1428.out _) | exact HI0.out)⟩, ⟨by repeat (first | (with_reducible first | exact HK.out | apply KeepBut.set_ | apply keep_drewN | apply keep_drew | apply keep_alloc | refine keep_far ?_ GW1428.out _) | exact HK.out)⟩, ⟨by repeat (first | (with_reducible first | exact HB.out | apply below_alloc | apply pw_below_drewN | apply below_drew1 | refine below_set ?_ (IsS116.ge HI0.out) | refine below_set ?_ GE1428.out) | exact HB.out)⟩⟩
   · replace c9 := Bool.eq_false_iff.mpr c9
     subst c9
     rw [if_neg nf_] at H
     by_cases c17 : x3_1.length < 2513169434916
     rotate_left
     · exact absurd H (by rw [if_neg c17]; simp)
     rw [if_pos c17] at H
     have LMc17 := Aside0.mk c17
     clear c17
     obtain ⟨y1432, hy1432⟩ : ∃ y_ : List (S74), y_ = (x3_1 ++ [(⟨false, (⟨t1423, t1424, t1425⟩ : S72)⟩ : S74)]) := ⟨_, rfl⟩
     replace H : (spec_l12Sets.l0 k1 y1432 (wrap64 (x4_1 - 1)) s0_0 t1426 t1427) = some (r1, r2, r3) := hy_ hy1432 H
     have Ny1432 := Aside0.mk hy1432
     clear hy1432
     have H' := Aside0.mk H
     clear H
     go_wp2_with (first | ((with_reducible refine gate_callee (f := 118) rfl ?_); refine gL_ (some 14) Try.func118 #[.pointer (some ⟨g, 0, none⟩), .int .i64 3] ?_; (with_reducible refine (spec_l1Once.calls g s0_0 x1001_1 x1002_1 3 false t1421 t1422 w0 _ ?s1 ?s2 A7.out).mono ?_); (case s1 => exact bIHSets1_); (case s2 => exact bIHSets0_); rintro e w18 ⟨rfl, hi, hb, hk⟩; refine ⟨_, rfl, ?_⟩; replace HO_3 := A_ (Kd.R_mono (Kd.R_keep (IsS116.apart (show IsS116 w0 _ g s0_0 x1001_1 x1002_1 from bIHSets1_) (vR_ HO_3.out) (by decide)) hk (fun _ h => h.2)) (fun _ h => h.1)); replace HK := A_ (KeepBut.trans bK_ hk (.inl rfl)); replace HB := A_ (hb); replace HI0 := A_ (hi); (try clear hb); (try clear hk); (try clear hi)) | ((with_reducible refine gate_callee (f := 128) rfl ?_); refine gL_ (some 16) Try.func128 #[.pointer (some ⟨g, 0, none⟩)] ?_; (with_reducible refine (spec_l10OneProp.calls g s0_0 t1421 t1422 t1423 t1424 t1425 t1426 t1427 w0 _ ?s1 ?s2 A8.out).mono ?_); (case s1 => exact bIHSets1_); (case s2 => exact bIHSets0_); rintro e w19 ⟨rfl, hi, hb, hk⟩; refine ⟨_, rfl, ?_⟩; replace HO_3 := A_ (Kd.R_mono (Kd.R_keep (IsS116.apart (show IsS116 w0 _ g s0_0 t1421 t1422 from bIHSets1_) (vR_ HO_3.out) (by decide)) hk (fun _ h => h.2)) (fun _ h => h.1)); replace HK := A_ (KeepBut.trans bK_ hk (.inl rfl)); replace HB := A_ (hb); replace HI0 := A_ (hi); (try clear hb); (try clear hk); (try clear hi)) | ((with_reducible refine gate_dst (N := 5) rfl ?_); refine bx_ (N := 5) (cs := #[.bool false, .string (⟨#[]⟩ : ByteArray), .string (⟨#[]⟩ : ByteArray), .string (⟨#[]⟩ : ByteArray)]) (t := 74) ?_; intro gb1428 hg w20 hbox hb; replace HO_3 := A_ (Kd.R_below (Kd.R_elderB (vR_ HO_3.out) gb1428 (Nat.le_of_eq hg.symm)) hb); replace HB := A_ (below_step bIHSets0_ hb); have BK1428 := A_ (hbox); have GW1428 := A_ ((by rw [hg]; exact (keep_size (w := w) (g := g) (row := none) bK_) : w.heap.size ≤ gb1428)); have GE1428 := A_ ((Nat.le_trans HW0.out (by rw [hg]; exact (keep_size (w := w) (g := g) (row := none) bK_) : w.heap.size ≤ gb1428) : w0.heap.size ≤ gb1428)); replace HK := A_ (KeepBut.trans bK_ (KeepBut.of_below hb g none) (.inl rfl)); have NB0_1428 := A_ ((by rw [hg]; exact Nat.ne_of_lt (IsS116.lt (show IsS116 w0 _ g s0_0 t1426 t1427 from bIHSets1_)) : g ≠ gb1428)); have NB1428_0 := A_ ((by rw [hg]; exact Nat.ne_of_gt (IsS116.lt (show IsS116 w0 _ g s0_0 t1426 t1427 from bIHSets1_)) : gb1428 ≠ g)); replace HI0 := A_ (IsS116.below bIHSets1_ hb); clear hb hbox hg; have hnb21 := NB1428_0.out; have hnc21 := NB0_1428.out; obtain ⟨hcz22_0, hcz22_1, hcz22_2, hcz22_3, hfz22_0, hfz22_1, hfz22_2, hfz22_3⟩ := cz4_ BK1428.out) | ((with_reducible refine gate_store (t := _) (p := _) (v := _) rfl ?_); apply box_store (g := gb1428); (case hrun => first | (go_simp; done) | (go_simp; rfl)); (case _ho => rfl); (case hN => rfl); (case hgd => rfl); (case hs => repeat (first | (with_reducible exact Sto.refl _ _) | refine Sto.step ?_ _ _)); (case hb => repeat (first | (with_reducible exact IsBlk.of BK1428.out) | (with_reducible apply IsBlk.set))); intro w' hw' bk_; simp only [List.setIfInBounds_toArray, List.set_cons_zero, List.set_cons_succ] at bk_; replace HO_3 := A_ (stored_R hw' HO_3.out (fun _ hk => hk.2)); replace HI0 := A_ (stored_IsS116 hw' HI0.out NB0_1428.out); replace HK := A_ (stored_keep hw' HK.out GW1428.out); replace HB := A_ (stored_below hw' HB.out GE1428.out); replace BK1428 := A_ (bk_); clear bk_ hw' hcz22_0 hfz22_0 hcz22_1 hfz22_1 hcz22_2 hfz22_2 hcz22_3 hfz22_3; have hcz22_0 := (blk_cell BK1428.out 0); simp only [List.getElem?_toArray, List.getElem?_cons_zero, List.getElem?_cons_succ] at hcz22_0; have hcz22_1 := (blk_cell BK1428.out 1); simp only [List.getElem?_toArray, List.getElem?_cons_zero, List.getElem?_cons_succ] at hcz22_1; have hcz22_2 := (blk_cell BK1428.out 2); simp only [List.getElem?_toArray, List.getElem?_cons_zero, List.getElem?_cons_succ] at hcz22_2; have hcz22_3 := (blk_cell BK1428.out 3); simp only [List.getElem?_toArray, List.getElem?_cons_zero, List.getElem?_cons_succ] at hcz22_3; have hfz22_0 := blk_frozen BK1428.out 0; have hfz22_1 := blk_frozen BK1428.out 1; have hfz22_2 := blk_frozen BK1428.out 2; have hfz22_3 := blk_frozen BK1428.out 3) | ((with_reducible refine gate_builtin (b := .append) (xs := #[.tmp 22, .tmp 24]) rfl ?_); at_builtin; refine Kd.R_append k74 w.heap.size rfl (.tmp 22) (.tmp 24) 42 74 (.agg #[(.bool false), (.string ⟨#[]⟩), (.string ⟨#[]⟩), (.string ⟨#[]⟩)]) 56 rfl Try.underlying42 info74 rfl (by decide) (by omega) u3 x3_1 (⟨false, (⟨t1423, t1424, t1425⟩ : S72)⟩ : S74) [.bool false, .string t1423, .string t1424, .string t1425] (fun k_ => k_ ≠ gb1428) (fun _ => False) rfl (by first | (go_simp; done) | (go_simp; rfl)) ?aP (fun _ hk => hk.elim) ?aF ?aO (Below.refl _ _) ?aS ?aL ?_; (case aP => exact k74_mkM _ _ _ (⟨false, (⟨t1423, t1424, t1425⟩ : S72)⟩ : S74)); (case aF => exact (fun k_ hk => Kd.freshB (g := gb1428) (o := .cells #[.bool false, .string t1423, .string t1424, .string t1425] 74 (0, 0)) (by (with_reducible repeat (first | refine blk_drewN ?_ _ | refine blk_drew ?_ | refine blk_alloc ?_ _)); (with_reducible repeat (first | refine blk_drewN ?_ _ | refine blk_drew ?_ | refine blk_alloc ?_ _)); (with_reducible repeat (first | refine blk_drewN ?_ _ | refine blk_drew ?_ | refine blk_alloc ?_ _)); (with_reducible repeat (first | refine blk_drewN ?_ _ | refine blk_drew ?_ | refine blk_alloc ?_ _)); (with_reducible repeat (first | refine blk_drewN ?_ _ | refine blk_drew ?_ | refine blk_alloc ?_ _)); exact BK1428.out) k_ hk)); (case aO => exact (by (with_reducible repeat (first | apply Kd.R_alloc | apply Kd.R_drewN | apply Kd.R_drew)); exact Kd.R_mono (Kd.R_mono HO_3.out (fun k_ hk => (⟨hk, hk.2⟩ : _ ∧ k_ ≠ gb1428))) (fun _ hk => hk.1.2))); (case aS => exact (keep_size (w := w) (g := g) (row := none) (by repeat (first | (with_reducible first | exact HK.out | apply KeepBut.set_ | apply keep_drewN | apply keep_drew | apply keep_alloc | refine keep_far ?_ GW1428.out _) | exact HK.out)))); (case aL => have := LMc17.out; omega); intro v1433 w23 ho hb hg hat; rw [← Ny1432.out] at ho; replace BK1428 := A_ (blk_grown (g := gb1428) (o := .cells #[.bool false, .string t1423, .string t1424, .string t1425] 74 (0, 0)) (by (with_reducible repeat (first | refine blk_drewN ?_ _ | refine blk_drew ?_ | refine blk_alloc ?_ _)); (with_reducible repeat (first | refine blk_drewN ?_ _ | refine blk_drew ?_ | refine blk_alloc ?_ _)); (with_reducible repeat (first | refine blk_drewN ?_ _ | refine blk_drew ?_ | refine blk_alloc ?_ _)); (with_reducible repeat (first | refine blk_drewN ?_ _ | refine blk_drew ?_ | refine blk_alloc ?_ _)); (with_reducible repeat (first | refine blk_drewN ?_ _ | refine blk_drew ?_ | refine blk_alloc ?_ _)); exact BK1428.out) hg (Kd.R_away HO_3.out (fun _ hk => hk.2))); replace HB := A_ (below_weaken (by repeat (first | (with_reducible first | exact HB.out | apply below_alloc | apply pw_below_drewN | apply below_drew1 | refine below_set ?_ (IsS116.ge HI0.out) | refine below_set ?_ GE1428.out) | exact HB.out)) HL.out hb); replace HI0 := A_ (IsS116.grown (by repeat (first | (with_reducible first | exact HI0.out | apply IsS116.alloc | apply IsS116.drewN | apply IsS116.drew | apply IsS116.set_1 | apply IsS116.set_2 | refine IsS116.far ?_ NB0_1428.out _) | exact HI0.out)) hg (IsS116.own_ne HI0.out HO_3.out (by decide))); replace HK := A_ (KeepBut.trans (by repeat (first | (with_reducible first | exact HK.out | apply KeepBut.set_ | apply keep_drewN | apply keep_drew | apply keep_alloc | refine keep_far ?_ GW1428.out _) | exact HK.out)) (KeepBut.of_grown hg g) (Kd.R_base2 HO_3.out)); have HO1434 := A_ (ho); clear HO_3; clear ho hb hg hat))
     go_roundg k1
     case measure => have := HK1.out; omega
     case rel => exact ⟨(y1432), (wrap64 (x4_1 - 1)), (t1426), (t1427), rs_, H', ⟨by have := HK1.out; omega⟩, ⟨by (with_reducible repeat (first | apply Kd.R_alloc | apply Kd.R_drewN | apply Kd.R_drew)); exact Kd.R_mono HO1434.out (fun _ hk => trivial)⟩, ⟨by repeat (first | (with_reducible first | exact HI0.out | apply IsS116.alloc | apply IsS116.drewN | apply IsS116.drew | apply IsS116.set_1 | apply IsS116.set_2 | refine IsS116.far ?_ NB0_1428.out _) | exact HI0.out)⟩, ⟨by repeat (first | (with_reducible first | exact HK.out | apply KeepBut.set_ | apply keep_drewN | apply keep_drew | apply keep_alloc | refine keep_far ?_ GW1428.out _) | exact HK.out)⟩, ⟨by repeat (first | (with_reducible first | exact HB.out | apply below_alloc | apply pw_below_drewN | apply below_drew1 | refine below_set ?_ (IsS116.ge HI0.out) | refine below_set ?_ GE1428.out) | exact HB.out)⟩⟩
end Go.Proofs.Ytbgggcgjijljkaa.Q

/- Printed walks. No condition. -/
namespace Go.Proofs.Ytbgggcgjijljkaa.Q
open Go.RowKit Go.Proofs.YtbgggcgjijljkaaW.PrintWords Go.Proofs.YtbgggcgjijljkaaW.PrintLast Go.Proofs.YtbgggcgjijljkaaW.PrintMore
attribute [local go_sem] max2_int min2_int max_two min_two max_three min_three max_four min_four
set_option linter.unusedVariables false
set_option linter.unusedSimpArgs false
theorem bIHWFnProps1_ {P : Prop} (h : P := by repeat (first | (with_reducible first | exact HB.out | apply below_alloc | apply pw_below_drewN | apply below_drew1 | refine below_set ?_ (IsS116.ge HI0.out)) | exact HB.out)) : P := h
theorem bIHWFnProps2_ {P : Prop} (h : P := by repeat (first | (with_reducible first | exact HI0.out | apply IsS116.alloc | apply IsS116.drewN | apply IsS116.drew | apply IsS116.set_1 | apply IsS116.set_2) | exact HI0.out)) : P := h
set_option maxHeartbeats 16000000 in
set_option maxRecDepth 100000 in
theorem spec_l12Any.calls (k : Nat) (g : Nat) (s0_0 : List Int) (s0_1 : Int) (s0_2 : Int) (r1 : List (S74)) (r2 : Int) (r3 : Int) (w0 w : World) (hI : IsS116 w0 w g s0_0 s0_1 s0_2) (hB : Below w0.heap.size w0 w) (h : spec_l12Any.f k s0_0 s0_1 s0_2 = some (r1, r2, r3)) :
 Calls Try.prog 92 #[.pointer (some ⟨g, 0, none⟩)] w fun e w' => ∃ v0_ : Value, e = .returned (v0_) ∧ Kd.R k74 74 w' w.heap.size (fun _ => True) v0_ r1 ∧ IsS116 w0 w' g s0_0 r2 r3 ∧ Below w0.heap.size w0 w' ∧ KeepBut w w' g none := by
 have hu72 := Try.underlying72
 have hu74 := Try.underlying74
 have HI0 := Aside0.mk hI
 have HK := A_ (KeepBut.refl w g none)
 have HL := Aside0.mk hB.size
 clear hI
 have HW0 := Aside0.mk hB.size
 have HB := Aside0.mk hB
 clear hB
 have H : ((spec_l12Sets.f k s0_0 s0_1 s0_2).bind fun bt1441 => ((spec_l1Below.f s0_0 bt1441.2.1 bt1441.2.2 6).bind fun bt1446 => (if bt1446.1 = 0 then ((spec_l1Once.f s0_0 bt1446.2.1 bt1446.2.2 2).bind fun bt1449 => ((spec_l1Str.f s0_0 bt1449.2.1 bt1449.2.2 (([(⟨#[122]⟩ : ByteArray), (⟨#[1]⟩ : ByteArray)] : List ByteArray))).bind fun bt1455 => ((spec_l1Str.f s0_0 bt1455.2.1 bt1455.2.2 (([(⟨#[97]⟩ : ByteArray), (⟨#[65]⟩ : ByteArray)] : List ByteArray))).bind fun bt1461 => ((spec_l1Str.f s0_0 bt1461.2.1 bt1461.2.2 (([(⟨#[120]⟩ : ByteArray), (⟨#[116, 119, 101, 110, 116, 121, 45, 111, 110, 101, 45, 98, 121, 116, 101, 115, 45, 116, 101, 120, 116]⟩ : ByteArray)] : List ByteArray))).bind fun bt1467 => (if bt1441.1.length < 2513169434916 then (some ((bt1441.1 ++ [(⟨bt1449.1, (⟨bt1455.1, bt1461.1, bt1467.1⟩ : S72)⟩ : S74)]), bt1467.2.1, bt1467.2.2)) else (none)))))) else (if bt1446.1 = 1 then (spec_l12Any.l0 k bt1441.1 0 s0_0 bt1446.2.1 bt1446.2.2) else (some (bt1441.1, bt1446.2.1, bt1446.2.2)))))) = some (r1, r2, r3) := h
 clear h
 obtain ⟨⟨t1441, t1444, t1445⟩, A2, H⟩ := bo_ H
 (try dsimp only at H)
 obtain ⟨⟨t1446, t1447, t1448⟩, A3, H⟩ := bo_ H
 (try dsimp only at H)
 by_cases c4 : t1446 = 0
 rotate_left
 · rw [if_neg c4] at H
   have c4b0 : (t1446 == 0) = false := beq_eq_false_iff_ne.mpr c4
   have c4b1 : (t1446 != 0) = true := bne_iff_ne.mpr c4
   by_cases c26 : t1446 = 1
   rotate_left
   · rw [if_neg c26] at H
     have c26b0 : (t1446 == 1) = false := beq_eq_false_iff_ne.mpr c26
     have c26b1 : (t1446 != 1) = true := bne_iff_ne.mpr c26
     simp only [Option.some.injEq, Prod.mk.injEq] at H
     obtain ⟨rfl, rfl, rfl⟩ := H
     go_enter Try.func92, Try.ntmps92
     go_wp2_with (first | ((with_reducible refine gate_callee (f := 121) rfl ?_); refine gL_ (some 6) Try.func121 #[.pointer (some ⟨g, 0, none⟩)] ?_; (with_reducible refine (spec_l12Sets.calls k g s0_0 s0_1 s0_2 t1441 t1444 t1445 w0 _ ?s1 ?s2 A2.out).mono ?_); (case s1 => exact bIHWFnProps2_); (case s2 => exact bIHWFnProps1_); rintro e w35 ⟨v1442, rfl, ho0, hi, hb, hk⟩; refine ⟨_, rfl, ?_⟩; have HO1443 := A_ (Kd.R_lower ho0 (keep_size (w := w) (g := g) (row := none) bK_)); replace HK := A_ (KeepBut.trans bK_ hk (.inl rfl)); replace HB := A_ (hb); replace HI0 := A_ (hi); (try clear hb); (try clear hk); (try clear hi); (try clear ho0)) | ((with_reducible refine gate_callee (f := 117) rfl ?_); refine gL_ (some 8) Try.func117 #[.pointer (some ⟨g, 0, none⟩), .int .i64 6] ?_; (with_reducible refine (spec_l1Below.calls g s0_0 t1444 t1445 6 t1446 t1447 t1448 w0 _ ?s1 ?s2 A3.out).mono ?_); (case s1 => exact bIHWFnProps2_); (case s2 => exact bIHWFnProps1_); rintro e w36 ⟨rfl, hi, hb, hk⟩; refine ⟨_, rfl, ?_⟩; replace HO1443 := A_ (Kd.R_mono (Kd.R_keep (IsS116.apart (show IsS116 w0 _ g s0_0 t1444 t1445 from bIHWFnProps2_) (vR_ HO1443.out) (by decide)) hk (fun _ h => h.2)) (fun _ h => h.1)); replace HK := A_ (KeepBut.trans bK_ hk (.inl rfl)); replace HB := A_ (hb); replace HI0 := A_ (hi); (try clear hb); (try clear hk); (try clear hi)))
     go_ret
     exact ⟨_, rr_, by (with_reducible repeat (first | apply Kd.R_alloc | apply Kd.R_drewN | apply Kd.R_drew)); exact HO1443.out, bIHWFnProps2_, bIHWFnProps1_, bK_⟩
   rw [if_pos c26] at H
   have c26b0 : (t1446 == 1) = true := beq_iff_eq.mpr c26
   have c26b1 : (t1446 != 1) = false := bne_eq_false_iff_eq.mpr c26
   clear c26
   have H' := Aside0.mk H
   clear H
   go_enter Try.func92, Try.ntmps92
   go_wp2_with (first | ((with_reducible refine gate_callee (f := 121) rfl ?_); refine gL_ (some 6) Try.func121 #[.pointer (some ⟨g, 0, none⟩)] ?_; (with_reducible refine (spec_l12Sets.calls k g s0_0 s0_1 s0_2 t1441 t1444 t1445 w0 _ ?s1 ?s2 A2.out).mono ?_); (case s1 => exact bIHWFnProps2_); (case s2 => exact bIHWFnProps1_); rintro e w27 ⟨v1442, rfl, ho0, hi, hb, hk⟩; refine ⟨_, rfl, ?_⟩; have HO1443 := A_ (Kd.R_lower ho0 (keep_size (w := w) (g := g) (row := none) bK_)); replace HK := A_ (KeepBut.trans bK_ hk (.inl rfl)); replace HB := A_ (hb); replace HI0 := A_ (hi); (try clear hb); (try clear hk); (try clear hi); (try clear ho0)) | ((with_reducible refine gate_callee (f := 117) rfl ?_); refine gL_ (some 8) Try.func117 #[.pointer (some ⟨g, 0, none⟩), .int .i64 6] ?_; (with_reducible refine (spec_l1Below.calls g s0_0 t1444 t1445 6 t1446 t1447 t1448 w0 _ ?s1 ?s2 A3.out).mono ?_); (case s1 => exact bIHWFnProps2_); (case s2 => exact bIHWFnProps1_); rintro e w28 ⟨rfl, hi, hb, hk⟩; refine ⟨_, rfl, ?_⟩; replace HO1443 := A_ (Kd.R_mono (Kd.R_keep (IsS116.apart (show IsS116 w0 _ g s0_0 t1444 t1445 from bIHWFnProps2_) (vR_ HO1443.out) (by decide)) hk (fun _ h => h.2)) (fun _ h => h.1)); replace HK := A_ (KeepBut.trans bK_ hk (.inl rfl)); replace HB := A_ (hb); replace HI0 := A_ (hi); (try clear hb); (try clear hk); (try clear hi)))
   go_loopg [3, 4] k (fun kq v3 v4 w' => ∃ (x3_1 : List (S74)) (x4_1 : Int), v4 = .int .i64 x4_1 ∧ Aside0 (spec_l12Any.l0 kq x3_1 x4_1 s0_0 t1447 t1448 = some (r1, r2, r3)) ∧ Aside0 (kq ≤ k) ∧ Aside0 (Kd.R k74 74 w' w.heap.size (fun _ => True) v3 x3_1) ∧ Aside0 (IsS116 w0 w' g s0_0 t1447 t1448) ∧ Aside0 (KeepBut w w' g none) ∧ Aside0 (Below w0.heap.size w0 w'))
   case atStart => exact ⟨(t1441), (0), rs_, H', ⟨Nat.le_refl _⟩, ⟨vR_ HO1443.out⟩, ⟨bIHWFnProps2_⟩, ⟨bK_⟩, ⟨bIHWFnProps1_⟩⟩
   case round =>
    clear H'
    try clear c1
    try clear c2
    try clear p2
    try clear c4
    try clear c4b0
    try clear c4b1
    try clear c9
    try clear c11
    try clear c12
    try clear c26
    try clear c26b0
    try clear c26b1
    obtain ⟨x3_1, x4_1, rfl, HA, HK1, HO_3, HI0, HK, HB⟩ := hrel
    cases gk with
    | zero => exact absurd HA.out (by simp [spec_l12Any.l0])
    | succ k1 =>
     have H := HA.out
     clear HA
     simp only [spec_l12Any.l0] at H
     by_cases c29 : x4_1 < 5
     rotate_left
     · rw [if_neg c29] at H
       have c29b0 : decide (x4_1 < 5) = false := decide_eq_false c29
       clear c29
       simp only [Option.some.injEq, Prod.mk.injEq] at H
       obtain ⟨rfl, rfl, rfl⟩ := H
       go_wp2
       go_ret
       exact ⟨_, rr_, by (with_reducible repeat (first | apply Kd.R_alloc | apply Kd.R_drewN | apply Kd.R_drew)); exact HO_3.out, bIHWFnProps2_, bIHWFnProps1_, bK_⟩
     rw [if_pos c29] at H
     have c29b0 : decide (x4_1 < 5) = true := decide_eq_true c29
     clear c29
     obtain ⟨t1473, A30, H⟩ := bo_ H
     (try dsimp only at H)
     by_cases c31 : 1 + t1473.size ≤ 9223372036854775807
     rotate_left
     · exact absurd H (by rw [if_neg c31]; simp)
     rw [if_pos c31] at H
     have c31b0 := eq_true c31
     have c31b1 : decide (1 + t1473.size ≤ 9223372036854775807) = true := decide_eq_true c31
     try have c31b2 : (9223372036854775807 < 1 + t1473.size) = False := eq_false (Nat.not_lt.2 c31)
     by_cases c32 : x3_1.length < 2513169434916
     rotate_left
     · exact absurd H (by rw [if_neg c32]; simp)
     rw [if_pos c32] at H
     have LMc32 := Aside0.mk c32
     clear c32
     obtain ⟨y1474, hy1474⟩ : ∃ y_ : List (S74), y_ = (x3_1 ++ [(⟨false, (⟨(⟨#[]⟩ : ByteArray), (⟨#[110]⟩ : ByteArray) ++ t1473, (⟨#[]⟩ : ByteArray)⟩ : S72)⟩ : S74)]) := ⟨_, rfl⟩
     replace H : (spec_l12Any.l0 k1 y1474 (wrap64 (x4_1 + 1)) s0_0 t1447 t1448) = some (r1, r2, r3) := hy_ hy1474 H
     have Ny1474 := Aside0.mk hy1474
     clear hy1474
     have H' := Aside0.mk H
     clear H
     go_wp2_with (first | ((with_reducible refine gate_callee (f := 122) rfl ?_); refine gL_ (some 35) Try.func122 #[.int .i64 x4_1] ?_; (with_reducible refine (spec_NumText.calls k1 x4_1 t1473 _ A30.out).mono ?_); rintro e w33 ⟨rfl, hb⟩; refine ⟨_, rfl, ?_⟩; replace HO_3 := A_ (Kd.R_below (vR_ HO_3.out) hb); replace HK := A_ (KeepBut.trans bK_ (KeepBut.of_below hb g none) (.inl rfl)); replace HB := A_ (below_step bIHWFnProps1_ hb); replace HI0 := A_ (IsS116.below bIHWFnProps2_ hb); (try clear hb)) | ((with_reducible refine gate_builtin (b := .append) (xs := #[.tmp 33, .tmp 39]) rfl ?_); at_builtin; refine Kd.R_append k74 w.heap.size rfl (.tmp 33) (.tmp 39) 42 74 (.agg #[(.bool false), (.string ⟨#[]⟩), (.string ⟨#[]⟩), (.string ⟨#[]⟩)]) 56 rfl Try.underlying42 info74 rfl (by decide) (by omega) u3 x3_1 (⟨false, (⟨(⟨#[]⟩ : ByteArray), (⟨#[110]⟩ : ByteArray) ++ t1473, (⟨#[]⟩ : ByteArray)⟩ : S72)⟩ : S74) [.bool false, .string (⟨#[]⟩ : ByteArray), .string ((⟨#[110]⟩ : ByteArray) ++ t1473), .string (⟨#[]⟩ : ByteArray)] (fun _ => True) (fun _ => False) rfl rfl ?aP (fun _ hk => hk.elim) ?aF ?aO (Below.refl _ _) ?aS ?aL ?_; (case aP => exact k74_mkM _ _ _ (⟨false, (⟨(⟨#[]⟩ : ByteArray), (⟨#[110]⟩ : ByteArray) ++ t1473, (⟨#[]⟩ : ByteArray)⟩ : S72)⟩ : S74)); (case aF => exact (fun _ _ => trivial)); (case aO => exact (vR_ HO_3.out)); (case aS => exact (keep_size (w := w) (g := g) (row := none) bK_)); (case aL => have := LMc32.out; omega); intro v1475 w34 ho hb hg hat; rw [← Ny1474.out] at ho; replace HB := A_ (below_weaken bIHWFnProps1_ HL.out hb); replace HI0 := A_ (IsS116.grown bIHWFnProps2_ hg (IsS116.own_ne HI0.out HO_3.out (by decide))); replace HK := A_ (KeepBut.trans bK_ (KeepBut.of_grown hg g) (Kd.R_base2 HO_3.out)); have HO1476 := A_ (ho); clear HO_3; clear ho hb hg hat))
     go_roundg k1
     case measure => have := HK1.out; omega
     case rel => exact ⟨(y1474), (wrap64 (x4_1 + 1)), rs_, H', ⟨by have := HK1.out; omega⟩, ⟨vR_ HO1476.out⟩, ⟨bIHWFnProps2_⟩, ⟨bK_⟩, ⟨bIHWFnProps1_⟩⟩
 rw [if_pos c4] at H
 have c4b0 : (t1446 == 0) = true := beq_iff_eq.mpr c4
 have c4b1 : (t1446 != 0) = false := bne_eq_false_iff_eq.mpr c4
 clear c4
 obtain ⟨⟨t1449, t1450, t1451⟩, A5, H⟩ := bo_ H
 (try dsimp only at H)
 obtain ⟨y1452, hy1452⟩ : ∃ y_ : List ByteArray, y_ = (([(⟨#[122]⟩ : ByteArray), (⟨#[1]⟩ : ByteArray)] : List ByteArray)) := ⟨_, rfl⟩
 replace H : ((spec_l1Str.f s0_0 t1450 t1451 y1452).bind fun bt1455 => ((spec_l1Str.f s0_0 bt1455.2.1 bt1455.2.2 (([(⟨#[97]⟩ : ByteArray), (⟨#[65]⟩ : ByteArray)] : List ByteArray))).bind fun bt1461 => ((spec_l1Str.f s0_0 bt1461.2.1 bt1461.2.2 (([(⟨#[120]⟩ : ByteArray), (⟨#[116, 119, 101, 110, 116, 121, 45, 111, 110, 101, 45, 98, 121, 116, 101, 115, 45, 116, 101, 120, 116]⟩ : ByteArray)] : List ByteArray))).bind fun bt1467 => (if t1441.length < 2513169434916 then (some ((t1441 ++ [(⟨t1449, (⟨bt1455.1, bt1461.1, bt1467.1⟩ : S72)⟩ : S74)]), bt1467.2.1, bt1467.2.2)) else (none))))) = some (r1, r2, r3) := hy_ hy1452 H
 have Ny1452 := Aside0.mk hy1452
 clear hy1452
 obtain ⟨⟨t1455, t1456, t1457⟩, A6, H⟩ := bo_ H
 (try dsimp only at H)
 obtain ⟨y1458, hy1458⟩ : ∃ y_ : List ByteArray, y_ = (([(⟨#[97]⟩ : ByteArray), (⟨#[65]⟩ : ByteArray)] : List ByteArray)) := ⟨_, rfl⟩
 replace H : ((spec_l1Str.f s0_0 t1456 t1457 y1458).bind fun bt1461 => ((spec_l1Str.f s0_0 bt1461.2.1 bt1461.2.2 (([(⟨#[120]⟩ : ByteArray), (⟨#[116, 119, 101, 110, 116, 121, 45, 111, 110, 101, 45, 98, 121, 116, 101, 115, 45, 116, 101, 120, 116]⟩ : ByteArray)] : List ByteArray))).bind fun bt1467 => (if t1441.length < 2513169434916 then (some ((t1441 ++ [(⟨t1449, (⟨t1455, bt1461.1, bt1467.1⟩ : S72)⟩ : S74)]), bt1467.2.1, bt1467.2.2)) else (none)))) = some (r1, r2, r3) := hy_ hy1458 H
 have Ny1458 := Aside0.mk hy1458
 clear hy1458
 obtain ⟨⟨t1461, t1462, t1463⟩, A7, H⟩ := bo_ H
 (try dsimp only at H)
 obtain ⟨y1464, hy1464⟩ : ∃ y_ : List ByteArray, y_ = (([(⟨#[120]⟩ : ByteArray), (⟨#[116, 119, 101, 110, 116, 121, 45, 111, 110, 101, 45, 98, 121, 116, 101, 115, 45, 116, 101, 120, 116]⟩ : ByteArray)] : List ByteArray)) := ⟨_, rfl⟩
 replace H : ((spec_l1Str.f s0_0 t1462 t1463 y1464).bind fun bt1467 => (if t1441.length < 2513169434916 then (some ((t1441 ++ [(⟨t1449, (⟨t1455, t1461, bt1467.1⟩ : S72)⟩ : S74)]), bt1467.2.1, bt1467.2.2)) else (none))) = some (r1, r2, r3) := hy_ hy1464 H
 have Ny1464 := Aside0.mk hy1464
 clear hy1464
 obtain ⟨⟨t1467, t1468, t1469⟩, A8, H⟩ := bo_ H
 (try dsimp only at H)
 by_cases c9 : t1441.length < 2513169434916
 rotate_left
 · exact absurd H (by rw [if_neg c9]; simp)
 rw [if_pos c9] at H
 have LMc9 := Aside0.mk c9
 clear c9
 obtain ⟨y1470, hy1470⟩ : ∃ y_ : List (S74), y_ = (t1441 ++ [(⟨t1449, (⟨t1455, t1461, t1467⟩ : S72)⟩ : S74)]) := ⟨_, rfl⟩
 replace H : (some (y1470, t1468, t1469)) = some (r1, r2, r3) := hy_ hy1470 H
 have Ny1470 := Aside0.mk hy1470
 clear hy1470
 simp only [Option.some.injEq, Prod.mk.injEq] at H
 obtain ⟨rfl, rfl, rfl⟩ := H
 go_enter Try.func92, Try.ntmps92
 go_wp2_with (first | ((with_reducible refine gate_callee (f := 121) rfl ?_); refine gL_ (some 6) Try.func121 #[.pointer (some ⟨g, 0, none⟩)] ?_; (with_reducible refine (spec_l12Sets.calls k g s0_0 s0_1 s0_2 t1441 t1444 t1445 w0 _ ?s1 ?s2 A2.out).mono ?_); (case s1 => exact bIHWFnProps2_); (case s2 => exact bIHWFnProps1_); rintro e w10 ⟨v1442, rfl, ho0, hi, hb, hk⟩; refine ⟨_, rfl, ?_⟩; have HO1443 := A_ (Kd.R_lower ho0 (keep_size (w := w) (g := g) (row := none) bK_)); replace HK := A_ (KeepBut.trans bK_ hk (.inl rfl)); replace HB := A_ (hb); replace HI0 := A_ (hi); (try clear hb); (try clear hk); (try clear hi); (try clear ho0)) | ((with_reducible refine gate_callee (f := 117) rfl ?_); refine gL_ (some 8) Try.func117 #[.pointer (some ⟨g, 0, none⟩), .int .i64 6] ?_; (with_reducible refine (spec_l1Below.calls g s0_0 t1444 t1445 6 t1446 t1447 t1448 w0 _ ?s1 ?s2 A3.out).mono ?_); (case s1 => exact bIHWFnProps2_); (case s2 => exact bIHWFnProps1_); rintro e w11 ⟨rfl, hi, hb, hk⟩; refine ⟨_, rfl, ?_⟩; replace HO1443 := A_ (Kd.R_mono (Kd.R_keep (IsS116.apart (show IsS116 w0 _ g s0_0 t1444 t1445 from bIHWFnProps2_) (vR_ HO1443.out) (by decide)) hk (fun _ h => h.2)) (fun _ h => h.1)); replace HK := A_ (KeepBut.trans bK_ hk (.inl rfl)); replace HB := A_ (hb); replace HI0 := A_ (hi); (try clear hb); (try clear hk); (try clear hi)) | ((with_reducible refine gate_callee (f := 118) rfl ?_); refine gL_ (some 13) Try.func118 #[.pointer (some ⟨g, 0, none⟩), .int .i64 2] ?_; (with_reducible refine (spec_l1Once.calls g s0_0 t1447 t1448 2 t1449 t1450 t1451 w0 _ ?s1 ?s2 A5.out).mono ?_); (case s1 => exact bIHWFnProps2_); (case s2 => exact bIHWFnProps1_); rintro e w12 ⟨rfl, hi, hb, hk⟩; refine ⟨_, rfl, ?_⟩; replace HO1443 := A_ (Kd.R_mono (Kd.R_keep (IsS116.apart (show IsS116 w0 _ g s0_0 t1447 t1448 from bIHWFnProps2_) (vR_ HO1443.out) (by decide)) hk (fun _ h => h.2)) (fun _ h => h.1)); replace HK := A_ (KeepBut.trans bK_ hk (.inl rfl)); replace HB := A_ (hb); replace HI0 := A_ (hi); (try clear hb); (try clear hk); (try clear hi)) | ((with_reducible refine gate_dst (N := 15) rfl ?_); refine Kd.R_lit Kd.string _ 9 ?hg (N := 15) ?hd (xs := ([(⟨#[122]⟩ : ByteArray), (⟨#[1]⟩ : ByteArray)] : List ByteArray)) (inner := [.string (⟨#[122]⟩ : ByteArray), .string (⟨#[1]⟩ : ByteArray)]) (ok := fun _ => True) (okp := fun _ => True) ?hr ?hp (fun _ hk => hk) trivial (Below.refl _ _) (Nat.le_refl _) (by simp) ?_; (case hd => rfl); (case hg => rfl); (case hr => first | (go_simp; done) | (go_simp; rfl)); (case hp => exact (Reps.one (show Kd.M Kd.string _ _ _ (⟨#[122]⟩ : ByteArray) [.string (⟨#[122]⟩ : ByteArray)] from rfl) (Reps.one (show Kd.M Kd.string _ _ _ (⟨#[1]⟩ : ByteArray) [.string (⟨#[1]⟩ : ByteArray)] from rfl) (Reps.none _ _)))); intro v1453 w13 ho14 hb hg_ hnew_; clear hg_ hnew_; (first | rw [← Ny1452.out] at ho14 | (simp only [Int.reduceToNat] at ho14; rw [← Ny1452.out] at ho14)); replace HO1443 := A_ (Kd.R_below (vR_ HO1443.out) hb); have HO1454 := A_ (Kd.R_lower ho14 (keep_size (w := w) (g := g) (row := none) bK_)); replace HK := A_ (KeepBut.trans bK_ (KeepBut.of_below hb g none) (.inl rfl)); replace HB := A_ (below_step bIHWFnProps1_ hb); replace HI0 := A_ (IsS116.below bIHWFnProps2_ hb); clear hb ho14; obtain ⟨Ao15, co15, eo15⟩ := Kd.R_slice HO1454.out; subst eo15) | ((with_reducible refine gate_callee (f := 99) rfl ?_); refine gL_ (some 16) Try.func99 #[.pointer (some ⟨g, 0, none⟩), .slice Ao15 y1452.length co15] ?_; (with_reducible refine (spec_l1Str.calls g s0_0 t1450 t1451 _ _ y1452 t1455 t1456 t1457 w0 _ ?s1 ?s2 ?s3 ?s4 ?s5 A6.out).mono ?_); (case s1 => exact bIHWFnProps2_); (case s2 => exact bIHWFnProps1_); (case s3 => exact cC_ (Kd.R_reads' HO1454.out).2.2); (case s4 => exact (Kd.R_reads' HO1454.out).2.1); (case s5 => exact far_slice (IsS116.own_ne HI0.out HO1454.out (by decide))); rintro e w16 ⟨rfl, hi, hb, hk⟩; refine ⟨_, rfl, ?_⟩; replace HO1443 := A_ (Kd.R_mono (Kd.R_keep (IsS116.apart (show IsS116 w0 _ g s0_0 t1450 t1451 from bIHWFnProps2_) (vR_ HO1443.out) (by decide)) hk (fun _ h => h.2)) (fun _ h => h.1)); replace HO1454 := A_ (Kd.R_mono (Kd.R_keep (IsS116.apart (show IsS116 w0 _ g s0_0 t1450 t1451 from bIHWFnProps2_) (vR_ HO1454.out) (by decide)) hk (fun _ h => h.2)) (fun _ h => h.1)); replace HK := A_ (KeepBut.trans bK_ hk (.inl rfl)); replace HB := A_ (hb); replace HI0 := A_ (hi); (try clear hb); (try clear hk); (try clear hi)) | ((with_reducible refine gate_dst (N := 18) rfl ?_); refine Kd.R_lit Kd.string _ 9 ?hg (N := 18) ?hd (xs := ([(⟨#[97]⟩ : ByteArray), (⟨#[65]⟩ : ByteArray)] : List ByteArray)) (inner := [.string (⟨#[97]⟩ : ByteArray), .string (⟨#[65]⟩ : ByteArray)]) (ok := fun _ => True) (okp := fun _ => True) ?hr ?hp (fun _ hk => hk) trivial (Below.refl _ _) (Nat.le_refl _) (by simp) ?_; (case hd => rfl); (case hg => rfl); (case hr => first | (go_simp; done) | (go_simp; rfl)); (case hp => exact (Reps.one (show Kd.M Kd.string _ _ _ (⟨#[97]⟩ : ByteArray) [.string (⟨#[97]⟩ : ByteArray)] from rfl) (Reps.one (show Kd.M Kd.string _ _ _ (⟨#[65]⟩ : ByteArray) [.string (⟨#[65]⟩ : ByteArray)] from rfl) (Reps.none _ _)))); intro v1459 w17 ho18 hb hg_ hnew_; clear hg_ hnew_; (first | rw [← Ny1458.out] at ho18 | (simp only [Int.reduceToNat] at ho18; rw [← Ny1458.out] at ho18)); replace HO1443 := A_ (Kd.R_below (vR_ HO1443.out) hb); have HO1460 := A_ (Kd.R_lower (Kd.R_new' ho18 (Kd.R_lt (vR_ HO1454.out))) (keep_size (w := w) (g := g) (row := none) bK_)); replace HO1454 := A_ (Kd.R_elder' (vR_ HO1454.out) (kb_ ho18) hb); replace HK := A_ (KeepBut.trans bK_ (KeepBut.of_below hb g none) (.inl rfl)); replace HB := A_ (below_step bIHWFnProps1_ hb); replace HI0 := A_ (IsS116.below bIHWFnProps2_ hb); clear hb ho18; obtain ⟨Ao19, co19, eo19⟩ := Kd.R_slice HO1460.out; subst eo19) | ((with_reducible refine gate_callee (f := 99) rfl ?_); refine gL_ (some 19) Try.func99 #[.pointer (some ⟨g, 0, none⟩), .slice Ao19 y1458.length co19] ?_; (with_reducible refine (spec_l1Str.calls g s0_0 t1456 t1457 _ _ y1458 t1461 t1462 t1463 w0 _ ?s1 ?s2 ?s3 ?s4 ?s5 A7.out).mono ?_); (case s1 => exact bIHWFnProps2_); (case s2 => exact bIHWFnProps1_); (case s3 => exact cC_ (Kd.R_reads' HO1460.out).2.2); (case s4 => exact (Kd.R_reads' HO1460.out).2.1); (case s5 => exact far_slice (IsS116.own_ne HI0.out HO1460.out (by decide))); rintro e w20 ⟨rfl, hi, hb, hk⟩; refine ⟨_, rfl, ?_⟩; replace HO1443 := A_ (Kd.R_mono (Kd.R_keep (IsS116.apart (show IsS116 w0 _ g s0_0 t1456 t1457 from bIHWFnProps2_) (vR_ HO1443.out) (by decide)) hk (fun _ h => h.2)) (fun _ h => h.1)); replace HO1454 := A_ (Kd.R_mono (Kd.R_keep (IsS116.apart (show IsS116 w0 _ g s0_0 t1456 t1457 from bIHWFnProps2_) (vR_ HO1454.out) (by decide)) hk (fun _ h => h.2)) (fun _ h => h.1)); replace HO1460 := A_ (Kd.R_mono (Kd.R_keep (IsS116.apart (show IsS116 w0 _ g s0_0 t1456 t1457 from bIHWFnProps2_) (vR_ HO1460.out) (by decide)) hk (fun _ h => h.2)) (fun _ h => h.1)); replace HK := A_ (KeepBut.trans bK_ hk (.inl rfl)); replace HB := A_ (hb); replace HI0 := A_ (hi); (try clear hb); (try clear hk); (try clear hi)) | ((with_reducible refine gate_dst (N := 21) rfl ?_); refine Kd.R_lit Kd.string _ 9 ?hg (N := 21) ?hd (xs := ([(⟨#[120]⟩ : ByteArray), (⟨#[116, 119, 101, 110, 116, 121, 45, 111, 110, 101, 45, 98, 121, 116, 101, 115, 45, 116, 101, 120, 116]⟩ : ByteArray)] : List ByteArray)) (inner := [.string (⟨#[120]⟩ : ByteArray), .string (⟨#[116, 119, 101, 110, 116, 121, 45, 111, 110, 101, 45, 98, 121, 116, 101, 115, 45, 116, 101, 120, 116]⟩ : ByteArray)]) (ok := fun _ => True) (okp := fun _ => True) ?hr ?hp (fun _ hk => hk) trivial (Below.refl _ _) (Nat.le_refl _) (by simp) ?_; (case hd => rfl); (case hg => rfl); (case hr => first | (go_simp; done) | (go_simp; rfl)); (case hp => exact (Reps.one (show Kd.M Kd.string _ _ _ (⟨#[120]⟩ : ByteArray) [.string (⟨#[120]⟩ : ByteArray)] from rfl) (Reps.one (show Kd.M Kd.string _ _ _ (⟨#[116, 119, 101, 110, 116, 121, 45, 111, 110, 101, 45, 98, 121, 116, 101, 115, 45, 116, 101, 120, 116]⟩ : ByteArray) [.string (⟨#[116, 119, 101, 110, 116, 121, 45, 111, 110, 101, 45, 98, 121, 116, 101, 115, 45, 116, 101, 120, 116]⟩ : ByteArray)] from rfl) (Reps.none _ _)))); intro v1465 w21 ho22 hb hg_ hnew_; clear hg_ hnew_; (first | rw [← Ny1464.out] at ho22 | (simp only [Int.reduceToNat] at ho22; rw [← Ny1464.out] at ho22)); replace HO1443 := A_ (Kd.R_below (vR_ HO1443.out) hb); have HO1466 := A_ (Kd.R_lower (Kd.R_new' (Kd.R_new' ho22 (Kd.R_lt (vR_ HO1454.out))) (Kd.R_lt (vR_ HO1460.out))) (keep_size (w := w) (g := g) (row := none) bK_)); replace HO1454 := A_ (Kd.R_elder' (vR_ HO1454.out) (kb_ ho22) hb); replace HO1460 := A_ (Kd.R_elder' (vR_ HO1460.out) (kb_ ho22) hb); replace HK := A_ (KeepBut.trans bK_ (KeepBut.of_below hb g none) (.inl rfl)); replace HB := A_ (below_step bIHWFnProps1_ hb); replace HI0 := A_ (IsS116.below bIHWFnProps2_ hb); clear hb ho22; obtain ⟨Ao23, co23, eo23⟩ := Kd.R_slice HO1466.out; subst eo23) | ((with_reducible refine gate_callee (f := 99) rfl ?_); refine gL_ (some 22) Try.func99 #[.pointer (some ⟨g, 0, none⟩), .slice Ao23 y1464.length co23] ?_; (with_reducible refine (spec_l1Str.calls g s0_0 t1462 t1463 _ _ y1464 t1467 t1468 t1469 w0 _ ?s1 ?s2 ?s3 ?s4 ?s5 A8.out).mono ?_); (case s1 => exact bIHWFnProps2_); (case s2 => exact bIHWFnProps1_); (case s3 => exact cC_ (Kd.R_reads' HO1466.out).2.2); (case s4 => exact (Kd.R_reads' HO1466.out).2.1); (case s5 => exact far_slice (IsS116.own_ne HI0.out HO1466.out (by decide))); rintro e w24 ⟨rfl, hi, hb, hk⟩; refine ⟨_, rfl, ?_⟩; replace HO1443 := A_ (Kd.R_mono (Kd.R_keep (IsS116.apart (show IsS116 w0 _ g s0_0 t1462 t1463 from bIHWFnProps2_) (vR_ HO1443.out) (by decide)) hk (fun _ h => h.2)) (fun _ h => h.1)); replace HO1454 := A_ (Kd.R_mono (Kd.R_keep (IsS116.apart (show IsS116 w0 _ g s0_0 t1462 t1463 from bIHWFnProps2_) (vR_ HO1454.out) (by decide)) hk (fun _ h => h.2)) (fun _ h => h.1)); replace HO1460 := A_ (Kd.R_mono (Kd.R_keep (IsS116.apart (show IsS116 w0 _ g s0_0 t1462 t1463 from bIHWFnProps2_) (vR_ HO1460.out) (by decide)) hk (fun _ h => h.2)) (fun _ h => h.1)); replace HO1466 := A_ (Kd.R_mono (Kd.R_keep (IsS116.apart (show IsS116 w0 _ g s0_0 t1462 t1463 from bIHWFnProps2_) (vR_ HO1466.out) (by decide)) hk (fun _ h => h.2)) (fun _ h => h.1)); replace HK := A_ (KeepBut.trans bK_ hk (.inl rfl)); replace HB := A_ (hb); replace HI0 := A_ (hi); (try clear hb); (try clear hk); (try clear hi)) | ((with_reducible refine gate_builtin (b := .append) (xs := #[.tmp 11, .tmp 25]) rfl ?_); at_builtin; refine Kd.R_append k74 w.heap.size rfl (.tmp 11) (.tmp 25) 42 74 (.agg #[(.bool false), (.string ⟨#[]⟩), (.string ⟨#[]⟩), (.string ⟨#[]⟩)]) 56 rfl Try.underlying42 info74 rfl (by decide) (by omega) v1442 t1441 (⟨t1449, (⟨t1455, t1461, t1467⟩ : S72)⟩ : S74) [.bool t1449, .string t1455, .string t1461, .string t1467] (fun _ => True) (fun _ => False) rfl rfl ?aP (fun _ hk => hk.elim) ?aF ?aO (Below.refl _ _) ?aS ?aL ?_; (case aP => exact k74_mkM _ _ _ (⟨t1449, (⟨t1455, t1461, t1467⟩ : S72)⟩ : S74)); (case aF => exact (fun _ _ => trivial)); (case aO => exact (vR_ HO1443.out)); (case aS => exact (keep_size (w := w) (g := g) (row := none) bK_)); (case aL => have := LMc9.out; omega); intro v1471 w25 ho hb hg hat; rw [← Ny1470.out] at ho; replace HO1454 := A_ (Kd.R_over' (vR_ HO1454.out) (Kd.R_typed (vR_ HO1443.out)) (by decide) hg); replace HO1460 := A_ (Kd.R_over' (vR_ HO1460.out) (Kd.R_typed (vR_ HO1443.out)) (by decide) hg); replace HO1466 := A_ (Kd.R_over' (vR_ HO1466.out) (Kd.R_typed (vR_ HO1443.out)) (by decide) hg); replace HB := A_ (below_weaken bIHWFnProps1_ HL.out hb); replace HI0 := A_ (IsS116.grown bIHWFnProps2_ hg (IsS116.own_ne HI0.out HO1443.out (by decide))); replace HK := A_ (KeepBut.trans bK_ (KeepBut.of_grown hg g) (Kd.R_base2 HO1443.out)); have HO1472 := A_ (ho); clear HO1443; clear ho hb hg hat))
 go_ret
 exact ⟨_, rr_, by (with_reducible repeat (first | apply Kd.R_alloc | apply Kd.R_drewN | apply Kd.R_drew)); exact HO1472.out, bIHWFnProps2_, bIHWFnProps1_, bK_⟩
set_option maxHeartbeats 16000000 in
set_option maxRecDepth 100000 in
theorem spec_DrawSetProps.calls (k : Nat) (A0 : Option Addr) (c0 : Nat) (l0 : List Int) (r1 : List (S72)) (r2 : List (S74)) (w : World) (hr0 : Kd.C (Kd.int .u8) w A0 l0.length l0) (hc0 : l0.length ≤ c0) (h : spec_DrawSetProps.f k l0 = some (r1, r2)) :
 Calls Try.prog 52 #[.slice A0 l0.length c0] w fun e w' => ∃ v0_ v1_ : Value, e = .returned (.tuple #[v0_, v1_]) ∧ Kd.R k72 72 w' w.heap.size (fun _ => True) v0_ r1 ∧ Kd.R k74 74 w' w.heap.size (fun _ => True) v1_ r2 ∧ Below w.heap.size w w' := by
 have HR0 := Aside0.mk hr0
 have HC0 := Aside0.mk hc0
 clear hr0 hc0
 have HB := A_ (Below.refl w.heap.size w)
 have H : ((spec_DrawPropsOk.f k l0).bind fun t1477 => ((spec_l1New.f k l0).bind fun bt1480 => ((spec_l12Any.f k bt1480.1 bt1480.2.1 bt1480.2.2).bind fun bt1484 => (some (t1477, bt1484.1))))) = some (r1, r2) := h
 clear h
 obtain ⟨t1477, A2, H⟩ := bo_ H
 (try dsimp only at H)
 obtain ⟨⟨t1480, t1481, t1482⟩, A3, H⟩ := bo_ H
 (try dsimp only at H)
 obtain ⟨⟨t1484, t1487, t1488⟩, A4, H⟩ := bo_ H
 (try dsimp only at H)
 simp only [Option.some.injEq, Prod.mk.injEq] at H
 obtain ⟨rfl, rfl⟩ := H
 go_enter Try.func52, Try.ntmps52
 go_wp2_with (first | ((with_reducible refine gate_callee (f := 91) rfl ?_); refine gL_ (some 7) Try.func91 #[.slice A0 l0.length c0] ?_; (with_reducible refine (spec_DrawPropsOk.calls k _ _ l0 t1477 _ ?s1 ?s2 A2.out).mono ?_); (case s1 => exact cC_ HR0.out); (case s2 => exact HC0.out); rintro e w5 ⟨v1478, rfl, ho0, hb⟩; refine ⟨_, rfl, ?_⟩; have HO1479 := A_ (Kd.R_lower ho0 (below_size bB_)); replace HB := A_ (below_step bB_ hb); (try clear hb); (try clear hb2); (try clear hk); (try clear hi); (try clear ho0)) | ((with_reducible refine gate_callee (f := 84) rfl ?_); refine gL_ (some 9) Try.func84 #[.slice A0 l0.length c0] ?_; (with_reducible refine (spec_l1New.calls k _ _ l0 t1480 t1481 t1482 w _ ?s1 ?s2 ?s3 A3.out).mono ?_); (case s1 => repeat (first | (with_reducible first | exact HB.out | apply below_alloc | apply pw_below_drewN | apply below_drew1) | exact HB.out)); (case s2 => exact HR0.out); (case s3 => exact HC0.out); rintro e w6 ⟨g1483, rfl, hi, hb, hb2⟩; refine ⟨_, rfl, ?_⟩; replace HO1479 := A_ (Kd.R_below (vR_ HO1479.out) hb2); replace HB := A_ (hb); have HI1483 := A_ (hi); (try clear hb); (try clear hb2); (try clear hk); (try clear hi)) | ((with_reducible refine gate_callee (f := 92) rfl ?_); refine gL_ (some 12) Try.func92 #[.pointer (some ⟨g1483, 0, none⟩)] ?_; (with_reducible refine (spec_l12Any.calls k g1483 t1480 t1481 t1482 t1484 t1487 t1488 w _ ?s1 ?s2 A4.out).mono ?_); (case s1 => repeat (first | (with_reducible first | exact HI1483.out | apply IsS116.alloc | apply IsS116.drewN | apply IsS116.drew | apply IsS116.set_1 | apply IsS116.set_2) | exact HI1483.out)); (case s2 => repeat (first | (with_reducible first | exact HB.out | apply below_alloc | apply pw_below_drewN | apply below_drew1 | refine below_set ?_ (IsS116.ge HI1483.out)) | exact HB.out)); rintro e w7 ⟨v1485, rfl, ho0, hi, hb, hk⟩; refine ⟨_, rfl, ?_⟩; replace HO1479 := A_ (Kd.R_mono (Kd.R_keep (IsS116.apart (show IsS116 w _ g1483 t1480 t1481 t1482 from by repeat (first | (with_reducible first | exact HI1483.out | apply IsS116.alloc | apply IsS116.drewN | apply IsS116.drew | apply IsS116.set_1 | apply IsS116.set_2) | exact HI1483.out)) (vR_ HO1479.out) (by decide)) hk (fun _ h => h.2)) (fun _ h => h.1)); have HO1486 := A_ (Kd.R_lower ho0 (below_size (by repeat (first | (with_reducible first | exact HB.out | apply below_alloc | apply pw_below_drewN | apply below_drew1 | refine below_set ?_ (IsS116.ge HI1483.out)) | exact HB.out)))); replace HB := A_ (hb); replace HI1483 := A_ (hi); (try clear hb); (try clear hb2); (try clear hk); (try clear hi); (try clear ho0)))
 go_ret2
 exact ⟨_, _, rr_, by (with_reducible repeat (first | apply Kd.R_alloc | apply Kd.R_drewN | apply Kd.R_drew)); exact HO1479.out, by (with_reducible repeat (first | apply Kd.R_alloc | apply Kd.R_drewN | apply Kd.R_drew)); exact HO1486.out, by repeat (first | (with_reducible first | exact HB.out | apply below_alloc | apply pw_below_drewN | apply below_drew1 | refine below_set ?_ (IsS116.ge HI1483.out)) | exact HB.out)⟩
set_option maxHeartbeats 16000000 in
set_option maxRecDepth 100000 in
theorem laws_FnProps.calls (k : Nat) (A0 : Option Addr) (c0 : Nat) (l0 : List Int) (r : Bool) (w : World) (hr0 : Kd.C (Kd.int .u8) w A0 l0.length l0) (hc0 : l0.length ≤ c0) (h : laws_FnProps.f k l0 = some r) :
 Calls Try.prog 12 #[.slice A0 l0.length c0] w fun e w' => e = .returned (.bool r) ∧ Below w.heap.size w w' := by
 have hu74 := Try.underlying74
 have HR0 := Aside0.mk hr0
 have HC0 := Aside0.mk hc0
 clear hr0 hc0
 have HB := A_ (Below.refl w.heap.size w)
 have H : ((laws_big.f l0).bind fun t1515 => (if t1515 = true then (some true) else ((spec_DrawSetProps.f k l0).bind fun bt1516 => ((impl_SetProps.f k bt1516.1 bt1516.2).bind fun bt1522 => ((spec_SetProps.f k bt1516.1 bt1516.2).bind fun bt1526 => ((spec_DrawPropOf.f k l0).bind fun bt1530 => ((impl_PropOf.f k bt1530.1 bt1530.2.1 bt1530.2.2).bind fun bt1535 => ((spec_PropOf.f k bt1530.1 bt1530.2.1 bt1530.2.2).bind fun bt1537 => (if (bt1522.2 != bt1526.2) = true then (laws_FnProps.j0 k bt1516.1 bt1516.2 bt1522.1 bt1522.2 true) else ((laws_sameProps.f k bt1522.1 bt1526.1).bind fun t1539 => (if t1539 = true then (if (bt1535.2 != bt1537.2) = true then (laws_FnProps.j0 k bt1516.1 bt1516.2 bt1522.1 bt1522.2 true) else (laws_FnProps.j0 k bt1516.1 bt1516.2 bt1522.1 bt1522.2 (bt1535.1.toList != bt1537.1.toList))) else (laws_FnProps.j0 k bt1516.1 bt1516.2 bt1522.1 bt1522.2 true)))))))))))) = some r := h
 clear h
 obtain ⟨t1515, A2, H⟩ := bo_ H
 (try dsimp only at H)
 by_cases c3 : t1515 = true
 · subst c3
   rw [if_pos rfl] at H
   obtain rfl := Option.some.inj H
   go_enter Try.func12, Try.ntmps12
   go_wp2_with (first | ((with_reducible refine gate_callee (f := 38) rfl ?_); refine gL_ (some 20) Try.func38 #[.slice A0 l0.length c0] ?_; (with_reducible refine (laws_big.calls _ _ l0 true _ ?s1 ?s2 A2.out).mono ?_); (case s1 => exact cC_ HR0.out); (case s2 => exact HC0.out); rintro e w' ⟨rfl, ⟨nd, rfl⟩⟩; refine ⟨_, rfl, ?_⟩))
   go_ret
   exact ⟨rr_, bB_⟩
 · replace c3 := Bool.eq_false_iff.mpr c3
   subst c3
   rw [if_neg nf_] at H
   obtain ⟨⟨t1516, t1517⟩, A4, H⟩ := bo_ H
   (try dsimp only at H)
   obtain ⟨⟨t1522, t1523⟩, A5, H⟩ := bo_ H
   (try dsimp only at H)
   obtain ⟨⟨t1526, t1527⟩, A6, H⟩ := bo_ H
   (try dsimp only at H)
   obtain ⟨⟨t1530, t1531, t1532⟩, A7, H⟩ := bo_ H
   (try dsimp only at H)
   obtain ⟨⟨t1535, t1536⟩, A8, H⟩ := bo_ H
   (try dsimp only at H)
   obtain ⟨⟨t1537, t1538⟩, A9, H⟩ := bo_ H
   (try dsimp only at H)
   have HC10 := Aside0.mk H
   clear H
   go_enter Try.func12, Try.ntmps12
   go_upto_region 9 with (first | ((with_reducible refine gate_callee (f := 38) rfl ?_); refine gL_ (some 20) Try.func38 #[.slice A0 l0.length c0] ?_; (with_reducible refine (laws_big.calls _ _ l0 false _ ?s1 ?s2 A2.out).mono ?_); (case s1 => exact cC_ HR0.out); (case s2 => exact HC0.out); rintro e w' ⟨rfl, ⟨nd, rfl⟩⟩; refine ⟨_, rfl, ?_⟩) | ((with_reducible refine gate_callee (f := 52) rfl ?_); refine gL_ (some 23) Try.func52 #[.slice A0 l0.length c0] ?_; (with_reducible refine (spec_DrawSetProps.calls k _ _ l0 t1516 t1517 _ ?s1 ?s2 A4.out).mono ?_); (case s1 => exact cC_ HR0.out); (case s2 => exact HC0.out); rintro e w11 ⟨v1518, v1520, rfl, ho0, ho1, hb⟩; refine ⟨_, rfl, ?_⟩; have HO1519 := A_ (Kd.R_lower ho0 (below_size bB_)); have HO1521 := A_ (Kd.R_lower ho1 (below_size bB_)); replace HB := A_ (below_step bB_ hb); (try clear hb); (try clear ho0); (try clear ho1); obtain ⟨Ao12, co12, eo12⟩ := Kd.R_slice HO1519.out; subst eo12; obtain ⟨Ao13, co13, eo13⟩ := Kd.R_slice HO1521.out; subst eo13) | ((with_reducible refine gate_callee (f := 53) rfl ?_); refine gL_ (some 29) Try.func53 #[.slice Ao12 t1516.length co12, .slice Ao13 t1517.length co13] ?_; (with_reducible refine (impl_SetProps.calls k _ _ t1516 _ _ t1517 t1522 t1523 _ ?s1 ?s2 ?s3 ?s4 A5.out).mono ?_); (case s1 => exact cC_ (Kd.R_reads' HO1519.out).2.2); (case s2 => exact (Kd.R_reads' HO1519.out).2.1); (case s3 => exact cC_ (Kd.R_reads' HO1521.out).2.2); (case s4 => exact (Kd.R_reads' HO1521.out).2.1); rintro e w14 ⟨v1524, rfl, ho0, hb⟩; refine ⟨_, rfl, ?_⟩; replace HO1521 := A_ (Kd.R_below (vR_ HO1521.out) hb); have HO1525 := A_ (Kd.R_lower (Kd.R_new' ho0 (Kd.R_lt (vR_ HO1519.out))) (below_size bB_)); replace HO1519 := A_ (Kd.R_elder' (vR_ HO1519.out) (kb_ ho0) hb); replace HB := A_ (below_step bB_ hb); (try clear hb); (try clear ho0)) | ((with_reducible refine gate_callee (f := 54) rfl ?_); refine gL_ (some 35) Try.func54 #[.slice Ao12 t1516.length co12, .slice Ao13 t1517.length co13] ?_; (with_reducible refine (spec_SetProps.calls k _ _ t1516 _ _ t1517 t1526 t1527 _ ?s1 ?s2 ?s3 ?s4 A6.out).mono ?_); (case s1 => exact cC_ (Kd.R_reads' HO1519.out).2.2); (case s2 => exact (Kd.R_reads' HO1519.out).2.1); (case s3 => exact cC_ (Kd.R_reads' HO1521.out).2.2); (case s4 => exact (Kd.R_reads' HO1521.out).2.1); rintro e w15 ⟨v1528, rfl, ho0, hb⟩; refine ⟨_, rfl, ?_⟩; replace HO1521 := A_ (Kd.R_below (vR_ HO1521.out) hb); have HO1529 := A_ (Kd.R_lower (Kd.R_new' (Kd.R_new' ho0 (Kd.R_lt (vR_ HO1519.out))) (Kd.R_lt (vR_ HO1525.out))) (below_size bB_)); replace HO1519 := A_ (Kd.R_elder' (vR_ HO1519.out) (kb_ ho0) hb); replace HO1525 := A_ (Kd.R_elder' (vR_ HO1525.out) (kb_ ho0) hb); replace HB := A_ (below_step bB_ hb); (try clear hb); (try clear ho0)) | ((with_reducible refine gate_callee (f := 55) rfl ?_); refine gL_ (some 40) Try.func55 #[.slice A0 l0.length c0] ?_; (with_reducible refine (spec_DrawPropOf.calls k _ _ l0 t1530 t1531 t1532 _ ?s1 ?s2 A7.out).mono ?_); (case s1 => exact cC_ (Kd.C_below HR0.out HB.out)); (case s2 => exact HC0.out); rintro e w16 ⟨v1533, rfl, ho0, hb⟩; refine ⟨_, rfl, ?_⟩; replace HO1521 := A_ (Kd.R_below (vR_ HO1521.out) hb); have HO1534 := A_ (Kd.R_lower (Kd.R_new' (Kd.R_new' (Kd.R_new' ho0 (Kd.R_lt (vR_ HO1519.out))) (Kd.R_lt (vR_ HO1525.out))) (Kd.R_lt (vR_ HO1529.out))) (below_size bB_)); replace HO1519 := A_ (Kd.R_elder' (vR_ HO1519.out) (kb_ ho0) hb); replace HO1525 := A_ (Kd.R_elder' (vR_ HO1525.out) (kb_ ho0) hb); replace HO1529 := A_ (Kd.R_elder' (vR_ HO1529.out) (kb_ ho0) hb); replace HB := A_ (below_step bB_ hb); (try clear hb); (try clear ho0); obtain ⟨Ao17, co17, eo17⟩ := Kd.R_slice HO1534.out; subst eo17) | ((with_reducible refine gate_callee (f := 56) rfl ?_); refine gL_ (some 48) Try.func56 #[.slice Ao17 t1530.length co17, .string t1531, .string t1532] ?_; (with_reducible refine (impl_PropOf.calls k _ _ t1530 t1531 t1532 t1535 t1536 _ ?s1 ?s2 A8.out).mono ?_); (case s1 => exact cC_ (Kd.R_reads' HO1534.out).2.2); (case s2 => exact (Kd.R_reads' HO1534.out).2.1); rintro e w18 ⟨rfl, hb⟩; refine ⟨_, rfl, ?_⟩; replace HO1519 := A_ (Kd.R_below (vR_ HO1519.out) hb); replace HO1521 := A_ (Kd.R_below (vR_ HO1521.out) hb); replace HO1525 := A_ (Kd.R_below (vR_ HO1525.out) hb); replace HO1529 := A_ (Kd.R_below (vR_ HO1529.out) hb); replace HO1534 := A_ (Kd.R_below (vR_ HO1534.out) hb); replace HB := A_ (below_step bB_ hb); (try clear hb)) | ((with_reducible refine gate_callee (f := 57) rfl ?_); refine gL_ (some 55) Try.func57 #[.slice Ao17 t1530.length co17, .string t1531, .string t1532] ?_; (with_reducible refine (spec_PropOf.calls k _ _ t1530 t1531 t1532 t1537 t1538 _ ?s1 ?s2 A9.out).mono ?_); (case s1 => exact cC_ (Kd.R_reads' HO1534.out).2.2); (case s2 => exact (Kd.R_reads' HO1534.out).2.1); rintro e w' ⟨rfl, ⟨nd, rfl⟩⟩; refine ⟨_, rfl, ?_⟩))
   (try simp only [Act.put, List.setIfInBounds_toArray, List.set_cons_zero, List.set_cons_succ])
   go_cut [76] (fun v76 wc => ∃ (kq : Nat) (x76_9 : Bool), v76 = .bool x76_9 ∧ Aside0 (laws_FnProps.j0 kq t1516 t1517 t1522 t1523 x76_9 = some r) ∧ Aside0 (kq ≤ k) ∧ Aside0 (Kd.R k72 72 wc w.heap.size (fun k_ => some k_ ≠ (v1524 : Value).ownBlock) (.slice Ao12 t1516.length co12) t1516) ∧ Aside0 (Kd.R k74 74 wc w.heap.size (fun _ => True) (.slice Ao13 t1517.length co13) t1517) ∧ Aside0 (Kd.R k72 72 wc w.heap.size (fun k_ => some k_ ≠ ((.slice Ao12 t1516.length co12) : Value).ownBlock) v1524 t1522) ∧ Aside0 (Below w.heap.size w wc))
   case first =>
    have H := HC10.out
    clear HC10
    by_cases c19 : (t1523 != t1527) = true
    · rw [if_pos c19] at H
      have c19b0 : (t1523 != t1527) = true := c19
      (try (have c19b1 : decide (t1523 = t1527) = false := by simpa using c19))
      (try (have c19b2 : (t1523 == t1527) = false := by simpa using c19))
      (try (have c19b3 : ¬ (t1523 = t1527) := by simpa using c19))
      clear c19
      (first | rw [c19b0] | (simp only [i64_w, i32_w]; rw [c19b0]) | skip)
      have H' := Aside0.mk H
      clear H
      go_wp2
      go_meet
      case rel => exact ⟨_, (true), rs_, H', ⟨by first | omega | exact Nat.le_refl _⟩, ⟨by (with_reducible repeat (first | apply Kd.R_alloc | apply Kd.R_drewN | apply Kd.R_drew)); exact Kd.R_mono HO1519.out (fun _ hk => hk.1.1.2)⟩, ⟨vR_ HO1521.out⟩, ⟨by (with_reducible repeat (first | apply Kd.R_alloc | apply Kd.R_drewN | apply Kd.R_drew)); exact Kd.R_mono HO1525.out (fun _ hk => hk.1.1.2)⟩, ⟨bB_⟩⟩
    rw [if_neg c19] at H
    have c19b0 : (t1523 != t1527) = false := by simpa using c19
    (try (have c19b1 : decide (t1523 = t1527) = true := by simpa using c19))
    (try (have c19b2 : (t1523 == t1527) = true := by simpa using c19))
    clear c19
    (first | rw [c19b0] | (simp only [i64_w, i32_w]; rw [c19b0]) | skip)
    obtain ⟨t1539, A20, H⟩ := bo_ H
    (try dsimp only at H)
    by_cases c21 : t1539 = true
    · subst c21
      rw [if_pos rfl] at H
      by_cases c22 : (t1536 != t1538) = true
      rotate_left
      · rw [if_neg c22] at H
        have c22b0 : (t1536 != t1538) = false := by simpa using c22
        (try (have c22b1 : decide (t1536 = t1538) = true := by simpa using c22))
        (try (have c22b2 : (t1536 == t1538) = true := by simpa using c22))
        clear c22
        have H' := Aside0.mk H
        clear H
        obtain ⟨Ao25, co25, eo25⟩ := Kd.R_slice HO1525.out
        subst eo25
        obtain ⟨Ao26, co26, eo26⟩ := Kd.R_slice HO1529.out
        subst eo26
        go_wp2_with (first | (go_at_call 51; (with_reducible refine (laws_sameProps.calls k _ _ t1522 _ _ t1526 true _ ?s1 ?s2 ?s3 ?s4 A20.out).mono ?_); (case s1 => exact cC_ (Kd.R_reads' HO1525.out).2.2); (case s2 => exact (Kd.R_reads' HO1525.out).2.1); (case s3 => exact cC_ (Kd.R_reads' HO1529.out).2.2); (case s4 => exact (Kd.R_reads' HO1529.out).2.1); rintro e w' ⟨rfl, ⟨nd, rfl⟩⟩))
        go_meet
        case rel => exact ⟨_, ((t1535.toList != t1537.toList)), rs_, H', ⟨by first | omega | exact Nat.le_refl _⟩, ⟨by (with_reducible repeat (first | apply Kd.R_alloc | apply Kd.R_drewN | apply Kd.R_drew)); exact Kd.R_mono HO1519.out (fun _ hk => hk.1.1.2)⟩, ⟨vR_ HO1521.out⟩, ⟨by (with_reducible repeat (first | apply Kd.R_alloc | apply Kd.R_drewN | apply Kd.R_drew)); exact Kd.R_mono HO1525.out (fun _ hk => hk.1.1.2)⟩, ⟨bB_⟩⟩
      rw [if_pos c22] at H
      have c22b0 : (t1536 != t1538) = true := c22
      (try (have c22b1 : decide (t1536 = t1538) = false := by simpa using c22))
      (try (have c22b2 : (t1536 == t1538) = false := by simpa using c22))
      (try (have c22b3 : ¬ (t1536 = t1538) := by simpa using c22))
      clear c22
      have H' := Aside0.mk H
      clear H
      obtain ⟨Ao23, co23, eo23⟩ := Kd.R_slice HO1525.out
      subst eo23
      obtain ⟨Ao24, co24, eo24⟩ := Kd.R_slice HO1529.out
      subst eo24
      go_wp2_with (first | (go_at_call 51; (with_reducible refine (laws_sameProps.calls k _ _ t1522 _ _ t1526 true _ ?s1 ?s2 ?s3 ?s4 A20.out).mono ?_); (case s1 => exact cC_ (Kd.R_reads' HO1525.out).2.2); (case s2 => exact (Kd.R_reads' HO1525.out).2.1); (case s3 => exact cC_ (Kd.R_reads' HO1529.out).2.2); (case s4 => exact (Kd.R_reads' HO1529.out).2.1); rintro e w' ⟨rfl, ⟨nd, rfl⟩⟩))
      go_meet
      case rel => exact ⟨_, (true), rs_, H', ⟨by first | omega | exact Nat.le_refl _⟩, ⟨by (with_reducible repeat (first | apply Kd.R_alloc | apply Kd.R_drewN | apply Kd.R_drew)); exact Kd.R_mono HO1519.out (fun _ hk => hk.1.1.2)⟩, ⟨vR_ HO1521.out⟩, ⟨by (with_reducible repeat (first | apply Kd.R_alloc | apply Kd.R_drewN | apply Kd.R_drew)); exact Kd.R_mono HO1525.out (fun _ hk => hk.1.1.2)⟩, ⟨bB_⟩⟩
    · replace c21 := Bool.eq_false_iff.mpr c21
      subst c21
      rw [if_neg nf_] at H
      have H' := Aside0.mk H
      clear H
      obtain ⟨Ao27, co27, eo27⟩ := Kd.R_slice HO1525.out
      subst eo27
      obtain ⟨Ao28, co28, eo28⟩ := Kd.R_slice HO1529.out
      subst eo28
      go_wp2_with (first | (go_at_call 51; (with_reducible refine (laws_sameProps.calls k _ _ t1522 _ _ t1526 false _ ?s1 ?s2 ?s3 ?s4 A20.out).mono ?_); (case s1 => exact cC_ (Kd.R_reads' HO1525.out).2.2); (case s2 => exact (Kd.R_reads' HO1525.out).2.1); (case s3 => exact cC_ (Kd.R_reads' HO1529.out).2.2); (case s4 => exact (Kd.R_reads' HO1529.out).2.1); rintro e w' ⟨rfl, ⟨nd, rfl⟩⟩))
      go_meet
      case rel => exact ⟨_, (true), rs_, H', ⟨by first | omega | exact Nat.le_refl _⟩, ⟨by (with_reducible repeat (first | apply Kd.R_alloc | apply Kd.R_drewN | apply Kd.R_drew)); exact Kd.R_mono HO1519.out (fun _ hk => hk.1.1.2)⟩, ⟨vR_ HO1521.out⟩, ⟨by (with_reducible repeat (first | apply Kd.R_alloc | apply Kd.R_drewN | apply Kd.R_drew)); exact Kd.R_mono HO1525.out (fun _ hk => hk.1.1.2)⟩, ⟨bB_⟩⟩
   case rest =>
    clear HC10
    try clear c1
    try clear c2
    try clear p2
    try clear c3
    try clear c5
    try clear c12
    try clear c19
    try clear c19b0
    try clear c19b1
    try clear c19b2
    try clear c21
    try clear c22
    try clear c22b0
    try clear c22b1
    try clear c22b2
    obtain ⟨kq, x76_9, rfl, HA, HJ9, HO_3, HO_4, HO_5, HB⟩ := hcut
    cases kq with
    | zero => exact absurd HA.out (by simp [laws_FnProps.j0])
    | succ kj9 =>
     have H := HA.out
     clear HA
     simp only [laws_FnProps.j0] at H
     by_cases c29 : x76_9 = true
     · subst c29
       rw [if_pos rfl] at H
       obtain rfl := Option.some.inj H
       go_wp2
       go_ret
       exact ⟨rr_, bB_⟩
     · replace c29 := Bool.eq_false_iff.mpr c29
       subst c29
       rw [if_neg nf_] at H
       by_cases c30 : t1523 = true
       · subst c30
         rw [if_pos rfl] at H
         by_cases c31 : (t1517.length : Int) > 0
         rotate_left
         · rw [if_neg c31] at H
           have c31b0 : decide (0 < (t1517.length : Int)) = false := decide_eq_false c31
           have c31b1 : decide (0 < t1517.length) = false := decide_eq_false (by omega)
           clear c31
           obtain ⟨t1547, A63, H⟩ := bo_ H
           (try dsimp only at H)
           obtain rfl := Option.some.inj H
           obtain ⟨Ao64, co64, eo64⟩ := Kd.R_slice HO_5.out
           subst eo64
           go_wp2_with (first | ((with_reducible refine gate_callee (f := 58) rfl ?_); refine gL_ (some 117) Try.func58 #[.slice Ao64 t1522.length co64] ?_; (with_reducible refine (impl_PropsOk.calls kj9 _ _ t1522 t1547 _ ?s1 ?s2 A63.out).mono ?_); (case s1 => exact cC_ (Kd.R_reads' HO_5.out).2.2); (case s2 => exact (Kd.R_reads' HO_5.out).2.1); rintro e w65 ⟨rfl, hb⟩; refine ⟨_, rfl, ?_⟩; replace HO_3 := A_ (Kd.R_below (vR_ HO_3.out) hb); replace HO_4 := A_ (Kd.R_below (vR_ HO_4.out) hb); replace HO_5 := A_ (Kd.R_below (vR_ HO_5.out) hb); replace HB := A_ (below_step bB_ hb); (try clear hb)))
           go_ret
           exact ⟨rr_, bB_⟩
         rw [if_pos c31] at H
         have c31b0 : decide (0 < (t1517.length : Int)) = true := decide_eq_true c31
         have c31b1 : decide (0 < t1517.length) = true := decide_eq_true (by omega)
         clear c31
         obtain ⟨ji32, hji32⟩ : ∃ j_ : Int, (wrap64 ((t1517.length : Int) - 1)) = j_ := ⟨_, rfl⟩
         replace H : (if 0 ≤ (ji32) then (if (ji32) < (t1517.length : Int) then ((impl_PropOf.f kj9 t1522 ((rd_T74 t1517 (ji32)).f1.f0) ((rd_T74 t1517 (ji32)).f1.f1)).bind fun bt1543 => (if (bt1543.2 == ((rd_T74 t1517 (ji32)).f0)) = true then (some false) else (if bt1543.2 = true then (if bt1543.1.toList = ((rd_T74 t1517 (ji32)).f1.f2).toList then ((impl_PropsOk.f kj9 t1522).bind fun t1545 => (some t1545)) else (some false)) else ((impl_PropsOk.f kj9 t1522).bind fun t1546 => (some t1546))))) else (none)) else (none)) = some r := by first | (rw [hji32] at H; exact H) | (simp only [hji32] at H ⊢; exact H)
         have hji32w : (IntKind.i64.wrap ((t1517.length : Int) - 1)) = ji32 := (i64_w _).trans hji32
         by_cases c33 : 0 ≤ (ji32)
         rotate_left
         · exact absurd H (by rw [if_neg c33]; simp)
         rw [if_pos c33] at H
         have c33b0 : decide (0 ≤ (ji32)) = true := decide_eq_true c33
         clear c33
         by_cases c34 : (ji32) < (t1517.length : Int)
         rotate_left
         · exact absurd H (by rw [if_neg c34]; simp)
         rw [if_pos c34] at H
         have c34b0 : decide ((ji32) < (t1517.length : Int)) = true := decide_eq_true c34
         clear c34
         obtain ⟨⟨t1543, t1544⟩, A35, H⟩ := bo_ H
         (try dsimp only at H)
         by_cases c36 : (t1544 == ((rd_T74 t1517 (ji32)).f0)) = true
         · rw [if_pos c36] at H
           have c36b0 : (t1544 == ((rd_T74 t1517 (ji32)).f0)) = true := c36
           (try (have c36b1 : decide (t1544 = ((rd_T74 t1517 (ji32)).f0)) = true := by simpa using c36))
           (try (have c36b2 : (t1544 == ((rd_T74 t1517 (ji32)).f0)) = true := by simpa using c36))
           clear c36
           obtain rfl := Option.some.inj H
           have p1541 : 0 ≤ ((ji32) : Int) := of_decide_eq_true as_
           have q1541 : (ji32) < (t1517.length : Int) := of_decide_eq_true as_
           obtain ⟨ad1541, e1541, hx1541_0, hx1541_1, hx1541_2, hx1541_3⟩ := at_T74 (Kd.R_reads' HO_4.out).2.2 (ji32) p1541 q1541
           cases e1541
           replace p1541 := eq_true p1541
           replace q1541 := eq_true q1541
           go_wp2_with (first | ((with_reducible refine gate_dst (N := 16) rfl ?_); refine bx_ (N := 16) (cs := #[.bool false, .string (⟨#[]⟩ : ByteArray), .string (⟨#[]⟩ : ByteArray), .string (⟨#[]⟩ : ByteArray)]) (t := 74) ?_; intro gb1542 hg w37 hbox hb; replace HO_3 := A_ (Kd.R_below (vR_ HO_3.out) hb); replace HO_4 := A_ (Kd.R_below (Kd.R_elderB (vR_ HO_4.out) gb1542 (Nat.le_of_eq hg.symm)) hb); replace HO_5 := A_ (Kd.R_below (vR_ HO_5.out) hb); have BK1542 := A_ (hbox); have GW1542 := A_ (ge_ hg bB_ : w.heap.size ≤ gb1542); have GE1542 := A_ (ge_ hg bB_ : w.heap.size ≤ gb1542); replace HB := A_ (below_step bB_ hb); clear hb hbox hg; obtain ⟨hcz38_0, hcz38_1, hcz38_2, hcz38_3, hfz38_0, hfz38_1, hfz38_2, hfz38_3⟩ := cz4_ BK1542.out; obtain ⟨Ao39, co39, eo39⟩ := Kd.R_slice HO_5.out; subst eo39) | ((with_reducible refine gate_callee (f := 56) rfl ?_); refine goesL_ (some 99) rfl rfl Try.func56 (by kernel_rfl) rfl #[.slice Ao39 t1522.length co39, .string ((rd_T74 t1517 (ji32)).f1.f0), .string ((rd_T74 t1517 (ji32)).f1.f1)] rfl (by (try simp only [List.map_toArray, List.map_cons, List.map_nil]); first | done | (simp only [hji32]; rfl) | rfl | (simp only [List.length_drop, List.length_take]; rfl)) ?_; (with_reducible refine (impl_PropOf.calls kj9 _ _ t1522 ((rd_T74 t1517 (ji32)).f1.f0) ((rd_T74 t1517 (ji32)).f1.f1) t1543 t1544 _ ?s1 ?s2 A35.out).mono ?_); (case s1 => refine (Kd.R_reads' (e := 72) (base := w.heap.size) (ok := fun k_ => some k_ ≠ (.slice Ao12 t1516.length co12 : Value).ownBlock) (n := t1522.length) (c := co39) ?_).2.2; exact (by (with_reducible repeat (first | apply Kd.R_alloc | apply Kd.R_drewN | apply Kd.R_drew)); exact (Kd.R_mono (Kd.R_far (p := ⟨gb1542, 3, none⟩) (Kd.R_far (p := ⟨gb1542, 2, none⟩) (Kd.R_far (p := ⟨gb1542, 1, none⟩) (Kd.R_far (p := ⟨gb1542, 0, none⟩) (Kd.R_types HO_5.out BK1542.out (by decide)) (fun _ hk => hk.2) (.bool ((rd_T74 t1517 (ji32)).f0))) (fun _ hk => hk.2) (.string ((rd_T74 t1517 (ji32)).f1.f0))) (fun _ hk => hk.2) (.string ((rd_T74 t1517 (ji32)).f1.f1))) (fun _ hk => hk.2) (.string ((rd_T74 t1517 (ji32)).f1.f2))) (fun _ h_ => h_.1)))); (case s2 => exact (Kd.R_reads' HO_5.out).2.1); rintro e w40 ⟨rfl, hb⟩; refine ⟨_, rfl, ?_⟩; replace HO_3 := A_ (Kd.R_below (by (with_reducible repeat (first | apply Kd.R_alloc | apply Kd.R_drewN | apply Kd.R_drew)); exact (Kd.R_mono (Kd.R_far (p := ⟨gb1542, 3, none⟩) (Kd.R_far (p := ⟨gb1542, 2, none⟩) (Kd.R_far (p := ⟨gb1542, 1, none⟩) (Kd.R_far (p := ⟨gb1542, 0, none⟩) (Kd.R_types HO_3.out BK1542.out (by decide)) (fun _ hk => hk.2) (.bool ((rd_T74 t1517 (ji32)).f0))) (fun _ hk => hk.2) (.string ((rd_T74 t1517 (ji32)).f1.f0))) (fun _ hk => hk.2) (.string ((rd_T74 t1517 (ji32)).f1.f1))) (fun _ hk => hk.2) (.string ((rd_T74 t1517 (ji32)).f1.f2))) (fun _ h_ => h_.1))) hb); replace HO_4 := A_ (Kd.R_below (by (with_reducible repeat (first | apply Kd.R_alloc | apply Kd.R_drewN | apply Kd.R_drew)); exact (Kd.R_mono (Kd.R_far (p := ⟨gb1542, 3, none⟩) (Kd.R_far (p := ⟨gb1542, 2, none⟩) (Kd.R_far (p := ⟨gb1542, 1, none⟩) (Kd.R_far (p := ⟨gb1542, 0, none⟩) (Kd.R_mono HO_4.out (fun k_ hk => (⟨hk, hk.2⟩ : _ ∧ k_ ≠ gb1542))) (fun _ hk => hk.2) (.bool ((rd_T74 t1517 (ji32)).f0))) (fun _ hk => hk.2) (.string ((rd_T74 t1517 (ji32)).f1.f0))) (fun _ hk => hk.2) (.string ((rd_T74 t1517 (ji32)).f1.f1))) (fun _ hk => hk.2) (.string ((rd_T74 t1517 (ji32)).f1.f2))) (fun _ h_ => h_.1))) hb); replace HO_5 := A_ (Kd.R_below (by (with_reducible repeat (first | apply Kd.R_alloc | apply Kd.R_drewN | apply Kd.R_drew)); exact (Kd.R_mono (Kd.R_far (p := ⟨gb1542, 3, none⟩) (Kd.R_far (p := ⟨gb1542, 2, none⟩) (Kd.R_far (p := ⟨gb1542, 1, none⟩) (Kd.R_far (p := ⟨gb1542, 0, none⟩) (Kd.R_types HO_5.out BK1542.out (by decide)) (fun _ hk => hk.2) (.bool ((rd_T74 t1517 (ji32)).f0))) (fun _ hk => hk.2) (.string ((rd_T74 t1517 (ji32)).f1.f0))) (fun _ hk => hk.2) (.string ((rd_T74 t1517 (ji32)).f1.f1))) (fun _ hk => hk.2) (.string ((rd_T74 t1517 (ji32)).f1.f2))) (fun _ h_ => h_.1))) hb); replace BK1542 := A_ (blk_below (g := gb1542) (o := .cells #[.bool ((rd_T74 t1517 (ji32)).f0), .string ((rd_T74 t1517 (ji32)).f1.f0), .string ((rd_T74 t1517 (ji32)).f1.f1), .string ((rd_T74 t1517 (ji32)).f1.f2)] 74 (0, 0)) (by (with_reducible repeat (first | refine blk_drewN ?_ _ | refine blk_drew ?_ | refine blk_alloc ?_ _)); refine blk_put (cs := #[.bool ((rd_T74 t1517 (ji32)).f0), .string ((rd_T74 t1517 (ji32)).f1.f0), .string ((rd_T74 t1517 (ji32)).f1.f1), .string (⟨#[]⟩ : ByteArray)]) ?_ 3 _ rfl; (with_reducible repeat (first | refine blk_drewN ?_ _ | refine blk_drew ?_ | refine blk_alloc ?_ _)); refine blk_put (cs := #[.bool ((rd_T74 t1517 (ji32)).f0), .string ((rd_T74 t1517 (ji32)).f1.f0), .string (⟨#[]⟩ : ByteArray), .string (⟨#[]⟩ : ByteArray)]) ?_ 2 _ rfl; (with_reducible repeat (first | refine blk_drewN ?_ _ | refine blk_drew ?_ | refine blk_alloc ?_ _)); refine blk_put (cs := #[.bool ((rd_T74 t1517 (ji32)).f0), .string (⟨#[]⟩ : ByteArray), .string (⟨#[]⟩ : ByteArray), .string (⟨#[]⟩ : ByteArray)]) ?_ 1 _ rfl; (with_reducible repeat (first | refine blk_drewN ?_ _ | refine blk_drew ?_ | refine blk_alloc ?_ _)); refine blk_put (cs := #[.bool false, .string (⟨#[]⟩ : ByteArray), .string (⟨#[]⟩ : ByteArray), .string (⟨#[]⟩ : ByteArray)]) ?_ 0 _ rfl; (with_reducible repeat (first | refine blk_drewN ?_ _ | refine blk_drew ?_ | refine blk_alloc ?_ _)); exact BK1542.out) hb); replace HB := A_ (below_step (bG_ GE1542.out) hb); (try clear hb); (try clear hk); obtain ⟨hcz41_0, hcz41_1, hcz41_2, hcz41_3, hfz41_0, hfz41_1, hfz41_2, hfz41_3⟩ := cz4_ BK1542.out))
           go_ret
           exact ⟨by first | rfl | (simp [errW_none, errW_some] <;> rfl) | (simp only [← hji32]; first | rfl | (simp [errW_none, errW_some] <;> rfl)) | (simp [*, errW_none, errW_some] <;> rfl), bG_ GE1542.out⟩
         rw [if_neg c36] at H
         have c36b0 : (t1544 == ((rd_T74 t1517 (ji32)).f0)) = false := by simpa using c36
         (try (have c36b1 : decide (t1544 = ((rd_T74 t1517 (ji32)).f0)) = false := by simpa using c36))
         (try (have c36b2 : (t1544 == ((rd_T74 t1517 (ji32)).f0)) = false := by simpa using c36))
         (try (have c36b3 : ¬ (t1544 = ((rd_T74 t1517 (ji32)).f0)) := by simpa using c36))
         clear c36
         by_cases c42 : t1544 = true
         · subst c42
           rw [if_pos rfl] at H
           by_cases c43 : t1543.toList = ((rd_T74 t1517 (ji32)).f1.f2).toList
           rotate_left
           · rw [if_neg c43] at H
             have c43b0 : (t1543.toList == ((rd_T74 t1517 (ji32)).f1.f2).toList) = false := beq_eq_false_iff_ne.mpr c43
             have c43b1 : (t1543.toList != ((rd_T74 t1517 (ji32)).f1.f2).toList) = true := bne_iff_ne.mpr c43
             obtain rfl := Option.some.inj H
             have p1541 : 0 ≤ ((ji32) : Int) := of_decide_eq_true as_
             have q1541 : (ji32) < (t1517.length : Int) := of_decide_eq_true as_
             obtain ⟨ad1541, e1541, hx1541_0, hx1541_1, hx1541_2, hx1541_3⟩ := at_T74 (Kd.R_reads' HO_4.out).2.2 (ji32) p1541 q1541
             cases e1541
             replace p1541 := eq_true p1541
             replace q1541 := eq_true q1541
             go_wp2_with (first | ((with_reducible refine gate_dst (N := 16) rfl ?_); refine bx_ (N := 16) (cs := #[.bool false, .string (⟨#[]⟩ : ByteArray), .string (⟨#[]⟩ : ByteArray), .string (⟨#[]⟩ : ByteArray)]) (t := 74) ?_; intro gb1542 hg w51 hbox hb; replace HO_3 := A_ (Kd.R_below (vR_ HO_3.out) hb); replace HO_4 := A_ (Kd.R_below (Kd.R_elderB (vR_ HO_4.out) gb1542 (Nat.le_of_eq hg.symm)) hb); replace HO_5 := A_ (Kd.R_below (vR_ HO_5.out) hb); have BK1542 := A_ (hbox); have GW1542 := A_ (ge_ hg bB_ : w.heap.size ≤ gb1542); have GE1542 := A_ (ge_ hg bB_ : w.heap.size ≤ gb1542); replace HB := A_ (below_step bB_ hb); clear hb hbox hg; obtain ⟨hcz52_0, hcz52_1, hcz52_2, hcz52_3, hfz52_0, hfz52_1, hfz52_2, hfz52_3⟩ := cz4_ BK1542.out; obtain ⟨Ao53, co53, eo53⟩ := Kd.R_slice HO_5.out; subst eo53) | ((with_reducible refine gate_callee (f := 56) rfl ?_); refine goesL_ (some 99) rfl rfl Try.func56 (by kernel_rfl) rfl #[.slice Ao53 t1522.length co53, .string ((rd_T74 t1517 (ji32)).f1.f0), .string ((rd_T74 t1517 (ji32)).f1.f1)] rfl (by (try simp only [List.map_toArray, List.map_cons, List.map_nil]); first | done | (simp only [hji32]; rfl) | rfl | (simp only [List.length_drop, List.length_take]; rfl)) ?_; (with_reducible refine (impl_PropOf.calls kj9 _ _ t1522 ((rd_T74 t1517 (ji32)).f1.f0) ((rd_T74 t1517 (ji32)).f1.f1) t1543 true _ ?s1 ?s2 A35.out).mono ?_); (case s1 => refine (Kd.R_reads' (e := 72) (base := w.heap.size) (ok := fun k_ => some k_ ≠ (.slice Ao12 t1516.length co12 : Value).ownBlock) (n := t1522.length) (c := co53) ?_).2.2; exact (by (with_reducible repeat (first | apply Kd.R_alloc | apply Kd.R_drewN | apply Kd.R_drew)); exact (Kd.R_mono (Kd.R_far (p := ⟨gb1542, 3, none⟩) (Kd.R_far (p := ⟨gb1542, 2, none⟩) (Kd.R_far (p := ⟨gb1542, 1, none⟩) (Kd.R_far (p := ⟨gb1542, 0, none⟩) (Kd.R_types HO_5.out BK1542.out (by decide)) (fun _ hk => hk.2) (.bool ((rd_T74 t1517 (ji32)).f0))) (fun _ hk => hk.2) (.string ((rd_T74 t1517 (ji32)).f1.f0))) (fun _ hk => hk.2) (.string ((rd_T74 t1517 (ji32)).f1.f1))) (fun _ hk => hk.2) (.string ((rd_T74 t1517 (ji32)).f1.f2))) (fun _ h_ => h_.1)))); (case s2 => exact (Kd.R_reads' HO_5.out).2.1); rintro e w54 ⟨rfl, hb⟩; refine ⟨_, rfl, ?_⟩; replace HO_3 := A_ (Kd.R_below (by (with_reducible repeat (first | apply Kd.R_alloc | apply Kd.R_drewN | apply Kd.R_drew)); exact (Kd.R_mono (Kd.R_far (p := ⟨gb1542, 3, none⟩) (Kd.R_far (p := ⟨gb1542, 2, none⟩) (Kd.R_far (p := ⟨gb1542, 1, none⟩) (Kd.R_far (p := ⟨gb1542, 0, none⟩) (Kd.R_types HO_3.out BK1542.out (by decide)) (fun _ hk => hk.2) (.bool ((rd_T74 t1517 (ji32)).f0))) (fun _ hk => hk.2) (.string ((rd_T74 t1517 (ji32)).f1.f0))) (fun _ hk => hk.2) (.string ((rd_T74 t1517 (ji32)).f1.f1))) (fun _ hk => hk.2) (.string ((rd_T74 t1517 (ji32)).f1.f2))) (fun _ h_ => h_.1))) hb); replace HO_4 := A_ (Kd.R_below (by (with_reducible repeat (first | apply Kd.R_alloc | apply Kd.R_drewN | apply Kd.R_drew)); exact (Kd.R_mono (Kd.R_far (p := ⟨gb1542, 3, none⟩) (Kd.R_far (p := ⟨gb1542, 2, none⟩) (Kd.R_far (p := ⟨gb1542, 1, none⟩) (Kd.R_far (p := ⟨gb1542, 0, none⟩) (Kd.R_mono HO_4.out (fun k_ hk => (⟨hk, hk.2⟩ : _ ∧ k_ ≠ gb1542))) (fun _ hk => hk.2) (.bool ((rd_T74 t1517 (ji32)).f0))) (fun _ hk => hk.2) (.string ((rd_T74 t1517 (ji32)).f1.f0))) (fun _ hk => hk.2) (.string ((rd_T74 t1517 (ji32)).f1.f1))) (fun _ hk => hk.2) (.string ((rd_T74 t1517 (ji32)).f1.f2))) (fun _ h_ => h_.1))) hb); replace HO_5 := A_ (Kd.R_below (by (with_reducible repeat (first | apply Kd.R_alloc | apply Kd.R_drewN | apply Kd.R_drew)); exact (Kd.R_mono (Kd.R_far (p := ⟨gb1542, 3, none⟩) (Kd.R_far (p := ⟨gb1542, 2, none⟩) (Kd.R_far (p := ⟨gb1542, 1, none⟩) (Kd.R_far (p := ⟨gb1542, 0, none⟩) (Kd.R_types HO_5.out BK1542.out (by decide)) (fun _ hk => hk.2) (.bool ((rd_T74 t1517 (ji32)).f0))) (fun _ hk => hk.2) (.string ((rd_T74 t1517 (ji32)).f1.f0))) (fun _ hk => hk.2) (.string ((rd_T74 t1517 (ji32)).f1.f1))) (fun _ hk => hk.2) (.string ((rd_T74 t1517 (ji32)).f1.f2))) (fun _ h_ => h_.1))) hb); replace BK1542 := A_ (blk_below (g := gb1542) (o := .cells #[.bool ((rd_T74 t1517 (ji32)).f0), .string ((rd_T74 t1517 (ji32)).f1.f0), .string ((rd_T74 t1517 (ji32)).f1.f1), .string ((rd_T74 t1517 (ji32)).f1.f2)] 74 (0, 0)) (by (with_reducible repeat (first | refine blk_drewN ?_ _ | refine blk_drew ?_ | refine blk_alloc ?_ _)); refine blk_put (cs := #[.bool ((rd_T74 t1517 (ji32)).f0), .string ((rd_T74 t1517 (ji32)).f1.f0), .string ((rd_T74 t1517 (ji32)).f1.f1), .string (⟨#[]⟩ : ByteArray)]) ?_ 3 _ rfl; (with_reducible repeat (first | refine blk_drewN ?_ _ | refine blk_drew ?_ | refine blk_alloc ?_ _)); refine blk_put (cs := #[.bool ((rd_T74 t1517 (ji32)).f0), .string ((rd_T74 t1517 (ji32)).f1.f0), .string (⟨#[]⟩ : ByteArray), .string (⟨#[]⟩ : ByteArray)]) ?_ 2 _ rfl; (with_reducible repeat (first | refine blk_drewN ?_ _ | refine blk_drew ?_ | refine blk_alloc ?_ _)); refine blk_put (cs := #[.bool ((rd_T74 t1517 (ji32)).f0), .string (⟨#[]⟩ : ByteArray), .string (⟨#[]⟩ : ByteArray), .string (⟨#[]⟩ : ByteArray)]) ?_ 1 _ rfl; (with_reducible repeat (first | refine blk_drewN ?_ _ | refine blk_drew ?_ | refine blk_alloc ?_ _)); refine blk_put (cs := #[.bool false, .string (⟨#[]⟩ : ByteArray), .string (⟨#[]⟩ : ByteArray), .string (⟨#[]⟩ : ByteArray)]) ?_ 0 _ rfl; (with_reducible repeat (first | refine blk_drewN ?_ _ | refine blk_drew ?_ | refine blk_alloc ?_ _)); exact BK1542.out) hb); replace HB := A_ (below_step (bG_ GE1542.out) hb); (try clear hb); (try clear hk); obtain ⟨hcz55_0, hcz55_1, hcz55_2, hcz55_3, hfz55_0, hfz55_1, hfz55_2, hfz55_3⟩ := cz4_ BK1542.out))
             go_ret
             exact ⟨by first | rfl | (simp [errW_none, errW_some] <;> rfl) | (simp only [← hji32]; first | rfl | (simp [errW_none, errW_some] <;> rfl)) | (simp [*, errW_none, errW_some] <;> rfl), bG_ GE1542.out⟩
           rw [if_pos c43] at H
           have c43b0 : (t1543.toList == ((rd_T74 t1517 (ji32)).f1.f2).toList) = true := beq_iff_eq.mpr c43
           have c43b1 : (t1543.toList != ((rd_T74 t1517 (ji32)).f1.f2).toList) = false := bne_eq_false_iff_eq.mpr c43
           clear c43
           obtain ⟨t1545, A44, H⟩ := bo_ H
           (try dsimp only at H)
           obtain rfl := Option.some.inj H
           have p1541 : 0 ≤ ((ji32) : Int) := of_decide_eq_true as_
           have q1541 : (ji32) < (t1517.length : Int) := of_decide_eq_true as_
           obtain ⟨ad1541, e1541, hx1541_0, hx1541_1, hx1541_2, hx1541_3⟩ := at_T74 (Kd.R_reads' HO_4.out).2.2 (ji32) p1541 q1541
           cases e1541
           replace p1541 := eq_true p1541
           replace q1541 := eq_true q1541
           go_wp2_with (first | ((with_reducible refine gate_dst (N := 16) rfl ?_); refine bx_ (N := 16) (cs := #[.bool false, .string (⟨#[]⟩ : ByteArray), .string (⟨#[]⟩ : ByteArray), .string (⟨#[]⟩ : ByteArray)]) (t := 74) ?_; intro gb1542 hg w45 hbox hb; replace HO_3 := A_ (Kd.R_below (vR_ HO_3.out) hb); replace HO_4 := A_ (Kd.R_below (Kd.R_elderB (vR_ HO_4.out) gb1542 (Nat.le_of_eq hg.symm)) hb); replace HO_5 := A_ (Kd.R_below (vR_ HO_5.out) hb); have BK1542 := A_ (hbox); have GW1542 := A_ (ge_ hg bB_ : w.heap.size ≤ gb1542); have GE1542 := A_ (ge_ hg bB_ : w.heap.size ≤ gb1542); replace HB := A_ (below_step bB_ hb); clear hb hbox hg; obtain ⟨hcz46_0, hcz46_1, hcz46_2, hcz46_3, hfz46_0, hfz46_1, hfz46_2, hfz46_3⟩ := cz4_ BK1542.out; obtain ⟨Ao47, co47, eo47⟩ := Kd.R_slice HO_5.out; subst eo47) | ((with_reducible refine gate_callee (f := 56) rfl ?_); refine goesL_ (some 99) rfl rfl Try.func56 (by kernel_rfl) rfl #[.slice Ao47 t1522.length co47, .string ((rd_T74 t1517 (ji32)).f1.f0), .string ((rd_T74 t1517 (ji32)).f1.f1)] rfl (by (try simp only [List.map_toArray, List.map_cons, List.map_nil]); first | done | (simp only [hji32]; rfl) | rfl | (simp only [List.length_drop, List.length_take]; rfl)) ?_; (with_reducible refine (impl_PropOf.calls kj9 _ _ t1522 ((rd_T74 t1517 (ji32)).f1.f0) ((rd_T74 t1517 (ji32)).f1.f1) t1543 true _ ?s1 ?s2 A35.out).mono ?_); (case s1 => refine (Kd.R_reads' (e := 72) (base := w.heap.size) (ok := fun k_ => some k_ ≠ (.slice Ao12 t1516.length co12 : Value).ownBlock) (n := t1522.length) (c := co47) ?_).2.2; exact (by (with_reducible repeat (first | apply Kd.R_alloc | apply Kd.R_drewN | apply Kd.R_drew)); exact (Kd.R_mono (Kd.R_far (p := ⟨gb1542, 3, none⟩) (Kd.R_far (p := ⟨gb1542, 2, none⟩) (Kd.R_far (p := ⟨gb1542, 1, none⟩) (Kd.R_far (p := ⟨gb1542, 0, none⟩) (Kd.R_types HO_5.out BK1542.out (by decide)) (fun _ hk => hk.2) (.bool ((rd_T74 t1517 (ji32)).f0))) (fun _ hk => hk.2) (.string ((rd_T74 t1517 (ji32)).f1.f0))) (fun _ hk => hk.2) (.string ((rd_T74 t1517 (ji32)).f1.f1))) (fun _ hk => hk.2) (.string ((rd_T74 t1517 (ji32)).f1.f2))) (fun _ h_ => h_.1)))); (case s2 => exact (Kd.R_reads' HO_5.out).2.1); rintro e w48 ⟨rfl, hb⟩; refine ⟨_, rfl, ?_⟩; replace HO_3 := A_ (Kd.R_below (by (with_reducible repeat (first | apply Kd.R_alloc | apply Kd.R_drewN | apply Kd.R_drew)); exact (Kd.R_mono (Kd.R_far (p := ⟨gb1542, 3, none⟩) (Kd.R_far (p := ⟨gb1542, 2, none⟩) (Kd.R_far (p := ⟨gb1542, 1, none⟩) (Kd.R_far (p := ⟨gb1542, 0, none⟩) (Kd.R_types HO_3.out BK1542.out (by decide)) (fun _ hk => hk.2) (.bool ((rd_T74 t1517 (ji32)).f0))) (fun _ hk => hk.2) (.string ((rd_T74 t1517 (ji32)).f1.f0))) (fun _ hk => hk.2) (.string ((rd_T74 t1517 (ji32)).f1.f1))) (fun _ hk => hk.2) (.string ((rd_T74 t1517 (ji32)).f1.f2))) (fun _ h_ => h_.1))) hb); replace HO_4 := A_ (Kd.R_below (by (with_reducible repeat (first | apply Kd.R_alloc | apply Kd.R_drewN | apply Kd.R_drew)); exact (Kd.R_mono (Kd.R_far (p := ⟨gb1542, 3, none⟩) (Kd.R_far (p := ⟨gb1542, 2, none⟩) (Kd.R_far (p := ⟨gb1542, 1, none⟩) (Kd.R_far (p := ⟨gb1542, 0, none⟩) (Kd.R_mono HO_4.out (fun k_ hk => (⟨hk, hk.2⟩ : _ ∧ k_ ≠ gb1542))) (fun _ hk => hk.2) (.bool ((rd_T74 t1517 (ji32)).f0))) (fun _ hk => hk.2) (.string ((rd_T74 t1517 (ji32)).f1.f0))) (fun _ hk => hk.2) (.string ((rd_T74 t1517 (ji32)).f1.f1))) (fun _ hk => hk.2) (.string ((rd_T74 t1517 (ji32)).f1.f2))) (fun _ h_ => h_.1))) hb); replace HO_5 := A_ (Kd.R_below (by (with_reducible repeat (first | apply Kd.R_alloc | apply Kd.R_drewN | apply Kd.R_drew)); exact (Kd.R_mono (Kd.R_far (p := ⟨gb1542, 3, none⟩) (Kd.R_far (p := ⟨gb1542, 2, none⟩) (Kd.R_far (p := ⟨gb1542, 1, none⟩) (Kd.R_far (p := ⟨gb1542, 0, none⟩) (Kd.R_types HO_5.out BK1542.out (by decide)) (fun _ hk => hk.2) (.bool ((rd_T74 t1517 (ji32)).f0))) (fun _ hk => hk.2) (.string ((rd_T74 t1517 (ji32)).f1.f0))) (fun _ hk => hk.2) (.string ((rd_T74 t1517 (ji32)).f1.f1))) (fun _ hk => hk.2) (.string ((rd_T74 t1517 (ji32)).f1.f2))) (fun _ h_ => h_.1))) hb); replace BK1542 := A_ (blk_below (g := gb1542) (o := .cells #[.bool ((rd_T74 t1517 (ji32)).f0), .string ((rd_T74 t1517 (ji32)).f1.f0), .string ((rd_T74 t1517 (ji32)).f1.f1), .string ((rd_T74 t1517 (ji32)).f1.f2)] 74 (0, 0)) (by (with_reducible repeat (first | refine blk_drewN ?_ _ | refine blk_drew ?_ | refine blk_alloc ?_ _)); refine blk_put (cs := #[.bool ((rd_T74 t1517 (ji32)).f0), .string ((rd_T74 t1517 (ji32)).f1.f0), .string ((rd_T74 t1517 (ji32)).f1.f1), .string (⟨#[]⟩ : ByteArray)]) ?_ 3 _ rfl; (with_reducible repeat (first | refine blk_drewN ?_ _ | refine blk_drew ?_ | refine blk_alloc ?_ _)); refine blk_put (cs := #[.bool ((rd_T74 t1517 (ji32)).f0), .string ((rd_T74 t1517 (ji32)).f1.f0), .string (⟨#[]⟩ : ByteArray), .string (⟨#[]⟩ : ByteArray)]) ?_ 2 _ rfl; (with_reducible repeat (first | refine blk_drewN ?_ _ | refine blk_drew ?_ | refine blk_alloc ?_ _)); refine blk_put (cs := #[.bool ((rd_T74 t1517 (ji32)).f0), .string (⟨#[]⟩ : ByteArray), .string (⟨#[]⟩ : ByteArray), .string (⟨#[]⟩ : ByteArray)]) ?_ 1 _ rfl; (with_reducible repeat (first | refine blk_drewN ?_ _ | refine blk_drew ?_ | refine blk_alloc ?_ _)); refine blk_put (cs := #[.bool false, .string (⟨#[]⟩ : ByteArray), .string (⟨#[]⟩ : ByteArray), .string (⟨#[]⟩ : ByteArray)]) ?_ 0 _ rfl; (with_reducible repeat (first | refine blk_drewN ?_ _ | refine blk_drew ?_ | refine blk_alloc ?_ _)); exact BK1542.out) hb); replace HB := A_ (below_step (bG_ GE1542.out) hb); (try clear hb); (try clear hk); obtain ⟨hcz49_0, hcz49_1, hcz49_2, hcz49_3, hfz49_0, hfz49_1, hfz49_2, hfz49_3⟩ := cz4_ BK1542.out) | ((with_reducible refine gate_callee (f := 58) rfl ?_); refine gL_ (some 117) Try.func58 #[.slice Ao47 t1522.length co47] ?_; (with_reducible refine (impl_PropsOk.calls kj9 _ _ t1522 t1545 _ ?s1 ?s2 A44.out).mono ?_); (case s1 => exact cC_ (Kd.R_reads' HO_5.out).2.2); (case s2 => exact (Kd.R_reads' HO_5.out).2.1); rintro e w50 ⟨rfl, hb⟩; refine ⟨_, rfl, ?_⟩; replace HO_3 := A_ (Kd.R_below (vR_ HO_3.out) hb); replace HO_4 := A_ (Kd.R_below (vR_ HO_4.out) hb); replace HO_5 := A_ (Kd.R_below (vR_ HO_5.out) hb); replace BK1542 := A_ (bw_ BK1542.out hb); replace HB := A_ (below_step (bG_ GE1542.out) hb); (try clear hb); (try clear hk)))
           go_ret
           exact ⟨by first | rfl | (simp [errW_none, errW_some] <;> rfl) | (simp only [← hji32]; first | rfl | (simp [errW_none, errW_some] <;> rfl)) | (simp [*, errW_none, errW_some] <;> rfl), bG_ GE1542.out⟩
         · replace c42 := Bool.eq_false_iff.mpr c42
           subst c42
           rw [if_neg nf_] at H
           obtain ⟨t1546, A56, H⟩ := bo_ H
           (try dsimp only at H)
           obtain rfl := Option.some.inj H
           have p1541 : 0 ≤ ((ji32) : Int) := of_decide_eq_true as_
           have q1541 : (ji32) < (t1517.length : Int) := of_decide_eq_true as_
           obtain ⟨ad1541, e1541, hx1541_0, hx1541_1, hx1541_2, hx1541_3⟩ := at_T74 (Kd.R_reads' HO_4.out).2.2 (ji32) p1541 q1541
           cases e1541
           replace p1541 := eq_true p1541
           replace q1541 := eq_true q1541
           go_wp2_with (first | ((with_reducible refine gate_dst (N := 16) rfl ?_); refine bx_ (N := 16) (cs := #[.bool false, .string (⟨#[]⟩ : ByteArray), .string (⟨#[]⟩ : ByteArray), .string (⟨#[]⟩ : ByteArray)]) (t := 74) ?_; intro gb1542 hg w57 hbox hb; replace HO_3 := A_ (Kd.R_below (vR_ HO_3.out) hb); replace HO_4 := A_ (Kd.R_below (Kd.R_elderB (vR_ HO_4.out) gb1542 (Nat.le_of_eq hg.symm)) hb); replace HO_5 := A_ (Kd.R_below (vR_ HO_5.out) hb); have BK1542 := A_ (hbox); have GW1542 := A_ (ge_ hg bB_ : w.heap.size ≤ gb1542); have GE1542 := A_ (ge_ hg bB_ : w.heap.size ≤ gb1542); replace HB := A_ (below_step bB_ hb); clear hb hbox hg; obtain ⟨hcz58_0, hcz58_1, hcz58_2, hcz58_3, hfz58_0, hfz58_1, hfz58_2, hfz58_3⟩ := cz4_ BK1542.out; obtain ⟨Ao59, co59, eo59⟩ := Kd.R_slice HO_5.out; subst eo59) | ((with_reducible refine gate_callee (f := 56) rfl ?_); refine goesL_ (some 99) rfl rfl Try.func56 (by kernel_rfl) rfl #[.slice Ao59 t1522.length co59, .string ((rd_T74 t1517 (ji32)).f1.f0), .string ((rd_T74 t1517 (ji32)).f1.f1)] rfl (by (try simp only [List.map_toArray, List.map_cons, List.map_nil]); first | done | (simp only [hji32]; rfl) | rfl | (simp only [List.length_drop, List.length_take]; rfl)) ?_; (with_reducible refine (impl_PropOf.calls kj9 _ _ t1522 ((rd_T74 t1517 (ji32)).f1.f0) ((rd_T74 t1517 (ji32)).f1.f1) t1543 false _ ?s1 ?s2 A35.out).mono ?_); (case s1 => refine (Kd.R_reads' (e := 72) (base := w.heap.size) (ok := fun k_ => some k_ ≠ (.slice Ao12 t1516.length co12 : Value).ownBlock) (n := t1522.length) (c := co59) ?_).2.2; exact (by (with_reducible repeat (first | apply Kd.R_alloc | apply Kd.R_drewN | apply Kd.R_drew)); exact (Kd.R_mono (Kd.R_far (p := ⟨gb1542, 3, none⟩) (Kd.R_far (p := ⟨gb1542, 2, none⟩) (Kd.R_far (p := ⟨gb1542, 1, none⟩) (Kd.R_far (p := ⟨gb1542, 0, none⟩) (Kd.R_types HO_5.out BK1542.out (by decide)) (fun _ hk => hk.2) (.bool ((rd_T74 t1517 (ji32)).f0))) (fun _ hk => hk.2) (.string ((rd_T74 t1517 (ji32)).f1.f0))) (fun _ hk => hk.2) (.string ((rd_T74 t1517 (ji32)).f1.f1))) (fun _ hk => hk.2) (.string ((rd_T74 t1517 (ji32)).f1.f2))) (fun _ h_ => h_.1)))); (case s2 => exact (Kd.R_reads' HO_5.out).2.1); rintro e w60 ⟨rfl, hb⟩; refine ⟨_, rfl, ?_⟩; replace HO_3 := A_ (Kd.R_below (by (with_reducible repeat (first | apply Kd.R_alloc | apply Kd.R_drewN | apply Kd.R_drew)); exact (Kd.R_mono (Kd.R_far (p := ⟨gb1542, 3, none⟩) (Kd.R_far (p := ⟨gb1542, 2, none⟩) (Kd.R_far (p := ⟨gb1542, 1, none⟩) (Kd.R_far (p := ⟨gb1542, 0, none⟩) (Kd.R_types HO_3.out BK1542.out (by decide)) (fun _ hk => hk.2) (.bool ((rd_T74 t1517 (ji32)).f0))) (fun _ hk => hk.2) (.string ((rd_T74 t1517 (ji32)).f1.f0))) (fun _ hk => hk.2) (.string ((rd_T74 t1517 (ji32)).f1.f1))) (fun _ hk => hk.2) (.string ((rd_T74 t1517 (ji32)).f1.f2))) (fun _ h_ => h_.1))) hb); replace HO_4 := A_ (Kd.R_below (by (with_reducible repeat (first | apply Kd.R_alloc | apply Kd.R_drewN | apply Kd.R_drew)); exact (Kd.R_mono (Kd.R_far (p := ⟨gb1542, 3, none⟩) (Kd.R_far (p := ⟨gb1542, 2, none⟩) (Kd.R_far (p := ⟨gb1542, 1, none⟩) (Kd.R_far (p := ⟨gb1542, 0, none⟩) (Kd.R_mono HO_4.out (fun k_ hk => (⟨hk, hk.2⟩ : _ ∧ k_ ≠ gb1542))) (fun _ hk => hk.2) (.bool ((rd_T74 t1517 (ji32)).f0))) (fun _ hk => hk.2) (.string ((rd_T74 t1517 (ji32)).f1.f0))) (fun _ hk => hk.2) (.string ((rd_T74 t1517 (ji32)).f1.f1))) (fun _ hk => hk.2) (.string ((rd_T74 t1517 (ji32)).f1.f2))) (fun _ h_ => h_.1))) hb); replace HO_5 := A_ (Kd.R_below (by (with_reducible repeat (first | apply Kd.R_alloc | apply Kd.R_drewN | apply Kd.R_drew)); exact (Kd.R_mono (Kd.R_far (p := ⟨gb1542, 3, none⟩) (Kd.R_far (p := ⟨gb1542, 2, none⟩) (Kd.R_far (p := ⟨gb1542, 1, none⟩) (Kd.R_far (p := ⟨gb1542, 0, none⟩) (Kd.R_types HO_5.out BK1542.out (by decide)) (fun _ hk => hk.2) (.bool ((rd_T74 t1517 (ji32)).f0))) (fun _ hk => hk.2) (.string ((rd_T74 t1517 (ji32)).f1.f0))) (fun _ hk => hk.2) (.string ((rd_T74 t1517 (ji32)).f1.f1))) (fun _ hk => hk.2) (.string ((rd_T74 t1517 (ji32)).f1.f2))) (fun _ h_ => h_.1))) hb); replace BK1542 := A_ (blk_below (g := gb1542) (o := .cells #[.bool ((rd_T74 t1517 (ji32)).f0), .string ((rd_T74 t1517 (ji32)).f1.f0), .string ((rd_T74 t1517 (ji32)).f1.f1), .string ((rd_T74 t1517 (ji32)).f1.f2)] 74 (0, 0)) (by (with_reducible repeat (first | refine blk_drewN ?_ _ | refine blk_drew ?_ | refine blk_alloc ?_ _)); refine blk_put (cs := #[.bool ((rd_T74 t1517 (ji32)).f0), .string ((rd_T74 t1517 (ji32)).f1.f0), .string ((rd_T74 t1517 (ji32)).f1.f1), .string (⟨#[]⟩ : ByteArray)]) ?_ 3 _ rfl; (with_reducible repeat (first | refine blk_drewN ?_ _ | refine blk_drew ?_ | refine blk_alloc ?_ _)); refine blk_put (cs := #[.bool ((rd_T74 t1517 (ji32)).f0), .string ((rd_T74 t1517 (ji32)).f1.f0), .string (⟨#[]⟩ : ByteArray), .string (⟨#[]⟩ : ByteArray)]) ?_ 2 _ rfl; (with_reducible repeat (first | refine blk_drewN ?_ _ | refine blk_drew ?_ | refine blk_alloc ?_ _)); refine blk_put (cs := #[.bool ((rd_T74 t1517 (ji32)).f0), .string (⟨#[]⟩ : ByteArray), .string (⟨#[]⟩ : ByteArray), .string (⟨#[]⟩ : ByteArray)]) ?_ 1 _ rfl; (with_reducible repeat (first | refine blk_drewN ?_ _ | refine blk_drew ?_ | refine blk_alloc ?_ _)); refine blk_put (cs := #[.bool false, .string (⟨#[]⟩ : ByteArray), .string (⟨#[]⟩ : ByteArray), .string (⟨#[]⟩ : ByteArray)]) ?_ 0 _ rfl; (with_reducible repeat (first | refine blk_drewN ?_ _ | refine blk_drew ?_ | refine blk_alloc ?_ _)); exact BK1542.out) hb); replace HB := A_ (below_step (bG_ GE1542.out) hb); (try clear hb); (try clear hk); obtain ⟨hcz61_0, hcz61_1, hcz61_2, hcz61_3, hfz61_0, hfz61_1, hfz61_2, hfz61_3⟩ := cz4_ BK1542.out) | ((with_reducible refine gate_callee (f := 58) rfl ?_); refine gL_ (some 117) Try.func58 #[.slice Ao59 t1522.length co59] ?_; (with_reducible refine (impl_PropsOk.calls kj9 _ _ t1522 t1546 _ ?s1 ?s2 A56.out).mono ?_); (case s1 => exact cC_ (Kd.R_reads' HO_5.out).2.2); (case s2 => exact (Kd.R_reads' HO_5.out).2.1); rintro e w62 ⟨rfl, hb⟩; refine ⟨_, rfl, ?_⟩; replace HO_3 := A_ (Kd.R_below (vR_ HO_3.out) hb); replace HO_4 := A_ (Kd.R_below (vR_ HO_4.out) hb); replace HO_5 := A_ (Kd.R_below (vR_ HO_5.out) hb); replace BK1542 := A_ (bw_ BK1542.out hb); replace HB := A_ (below_step (bG_ GE1542.out) hb); (try clear hb); (try clear hk)))
           go_ret
           exact ⟨by first | rfl | (simp [errW_none, errW_some] <;> rfl) | (simp only [← hji32]; first | rfl | (simp [errW_none, errW_some] <;> rfl)) | (simp [*, errW_none, errW_some] <;> rfl), bG_ GE1542.out⟩
       · replace c30 := Bool.eq_false_iff.mpr c30
         subst c30
         rw [if_neg nf_] at H
         obtain ⟨t1540, A66, H⟩ := bo_ H
         (try dsimp only at H)
         obtain rfl := Option.some.inj H
         obtain ⟨Ao67, co67, eo67⟩ := Kd.R_slice HO_5.out
         subst eo67
         go_wp2_with (first | ((with_reducible refine gate_callee (f := 51) rfl ?_); refine gL_ (some 81) Try.func51 #[.slice Ao67 t1522.length co67, .slice Ao12 t1516.length co12] ?_; (with_reducible refine (laws_sameProps.calls kj9 _ _ t1522 _ _ t1516 t1540 _ ?s1 ?s2 ?s3 ?s4 A66.out).mono ?_); (case s1 => exact cC_ (Kd.R_reads' HO_5.out).2.2); (case s2 => exact (Kd.R_reads' HO_5.out).2.1); (case s3 => exact cC_ (Kd.R_reads' HO_3.out).2.2); (case s4 => exact (Kd.R_reads' HO_3.out).2.1); rintro e w' ⟨rfl, ⟨nd, rfl⟩⟩; refine ⟨_, rfl, ?_⟩))
         go_ret
         exact ⟨rr_, bB_⟩
end Go.Proofs.Ytbgggcgjijljkaa.Q
