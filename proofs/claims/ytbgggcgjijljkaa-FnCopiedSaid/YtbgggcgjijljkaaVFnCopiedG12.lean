/- Steps of walks that recur, with their proofs found where they are used. No condition. -/
import Derived.Test.YtbgggcgjijljkaaVFnCopiedWMore
import Derived.Shelf.Strings.Search1
import Derived.Shelf.Strings.Search2
import Derived.Shelf.Strings.Search3
import Derived.Shelf.LaysM
import Derived.Shelf.Strings.Shaped
import Derived.Test.YtbgggcgjijljkaaProg
import Derived.Lib.Bytealg
namespace Go.Proofs.Ytbgggcgjijljkaa.Q
open Go.RowKit Go.Proofs.YtbgggcgjijljkaaW.PrintWords Go.Proofs.YtbgggcgjijljkaaW.PrintLast
set_option linter.unusedVariables false
theorem bB_ {P : Prop} (h : P := by repeat (first | (with_reducible first | exact HB.out | apply below_alloc | apply pw_below_drewN | apply below_drew1) | exact HB.out)) : P := h
theorem A_ {p : Prop} (h : p) : Aside0 p := ⟨h⟩
theorem si_ {α : Type} {a b : α} (h : some a = some b) : a = b := Option.some.inj h
theorem od_ {p : Prop} [i : Decidable p] (h : decide p = true := by first | (with_reducible assumption) | assumption) : p := of_decide_eq_true h
theorem gc_ {P : Program} {ops : Array Oper} {rest : List Oper} {o : Oper} {a : Act} {Q : Exit -> Act -> World -> Prop} {W : World} {f : FuncId} {ar : Array Operand} {ts : Array TypeId} (_ho : o.op = .call { callee := .value (.func f), args := ar, argTypes := ts }) (h : wpList P ops Q (o :: rest) a W) : wpList P ops Q (o :: rest) a W := h
theorem gd_ {P : Program} {ops : Array Oper} {rest : List Oper} {o : Oper} {a : Act} {Q : Exit -> Act -> World -> Prop} {W : World} {N : Tmp} (_hN : o.dst = some N) (h : wpList P ops Q (o :: rest) a W) : wpList P ops Q (o :: rest) a W := h
theorem bl_ {W : World} {g t : Nat} {cs : Array Value} {v : Value} (h : W.heap[g]? = some (.cells cs t (0, 0))) (j : Nat) (e : cs[j]? = some v := by rfl) : W.cell? ⟨g, j, none⟩ = some v := (blk_cell h j).trans e
theorem be_ {w w1 : World} {a : Addr} {v : Value} (h : w.cell? a = some v) (hb : Below w.heap.size w w1 := by repeat (first | (with_reducible first | exact HB.out | apply below_alloc | apply pw_below_drewN | apply below_drew1) | exact HB.out)) : w1.cell? a = some v := (hb.cell (World.block_lt_of_cell? w _ h)).trans h
theorem bK_ {P : Prop} (h : P := by repeat (first | (with_reducible first | exact HK.out | apply KeepBut.set_ | apply keep_drewN | apply keep_drew | apply keep_alloc) | exact HK.out)) : P := h
theorem kb_ {A P : Prop} (a : A) (h : A -> P := by intro h_; first | exact Kd.R_base h_ | exact Kd.S_base h_ | exact Kd.N_base h_) : P := h a
theorem eT_ {α : Type} [BEq α] [LawfulBEq α] {a b : α} (h : a = b) : (a == b) = true /\ (a != b) = false := ⟨beq_iff_eq.mpr h, bne_eq_false_iff_eq.mpr h⟩
theorem eF_ {α : Type} [BEq α] [LawfulBEq α] {a b : α} (h : ¬ a = b) : (a == b) = false /\ (a != b) = true := ⟨beq_eq_false_iff_ne.mpr h, bne_iff_ne.mpr h⟩
theorem nf_ : ¬ (false = true) := by decide
theorem hy_ {α : Type} {y x : α} {A P : Prop} (e : y = x) (H : A) (h : y = x -> A -> P := by intro e_ H; first | (rw [e_]; with_reducible exact H) | (have H2_ := (Option.bind_some _ _).symm.trans H; rw [e_]; with_reducible exact H2_) | (have H2_ := (Option.bind_some _ _).symm.trans H; with_reducible exact H2_) | with_reducible exact H | (rw [e_]; exact H) | exact H) : P := h e H
theorem bG_ {A P : Prop} (g : A) (h : A -> P := by intro g_; repeat (first | (with_reducible first | exact HB.out | apply below_alloc | apply pw_below_drewN | apply below_drew1 | refine below_set ?_ g_) | exact HB.out)) : P := h g
theorem ml_ {P : Prop} (h : P := by (try simp only [List.map_toArray, List.map_cons, List.map_nil]); first | done | rfl | (simp only [List.length_drop, List.length_take]; rfl)) : P := h
theorem cC_ {A P : Prop} (a : A) (h : A -> P := by intro h_; repeat (first | exact h_ | (with_reducible refine Kd.C_alloc ?_ _) | (with_reducible refine Kd.C_drewN ?_ _) | (with_reducible refine Kd.C_drew ?_))) : P := h a
theorem vR_ {A P : Prop} (a : A) (h : A -> P := by intro h_; (with_reducible repeat (first | apply Kd.R_alloc | apply Kd.R_drewN | apply Kd.R_drew)); exact h_) : P := h a
theorem vS_ {A P : Prop} (a : A) (h : A -> P := by intro h_; (with_reducible repeat (first | apply Kd.S_alloc | apply Kd.S_drewN | apply Kd.S_drew)); exact h_) : P := h a
theorem vN_ {A P : Prop} (a : A) (h : A -> P := by intro h_; (with_reducible repeat (first | apply Kd.N_alloc | apply Kd.N_drewN | apply Kd.N_drew)); exact h_) : P := h a
theorem vV_ {A P : Prop} (a : A) (h : A -> P := by intro h_; (with_reducible repeat (first | apply Kd.V_alloc | apply Kd.V_drewN | apply Kd.V_drew)); exact h_) : P := h a
theorem vb_ {A P : Prop} (a : A) (h : A -> P := by intro h_; (with_reducible repeat (first | refine blk_drewN ?_ _ | refine blk_drew ?_ | refine blk_alloc ?_ _)); exact h_) : P := h a
theorem bw_ {o : Obj} {g : Nat} {W0 W W1 : World} (h0 : W0.heap[g]? = some o) (hb : Below W.heap.size W W1) (h1 : W0.heap[g]? = some o -> W.heap[g]? = some o := by intro h_; (with_reducible repeat (first | refine blk_drewN ?_ _ | refine blk_drew ?_ | refine blk_alloc ?_ _)); exact h_) : W1.heap[g]? = some o := blk_below (h1 h0) hb
theorem gn_ {o : Obj} {g gb : Nat} {W0 W : World} (hg : gb = W.heap.size) (h0 : W0.heap[g]? = some o) (h1 : W0.heap[g]? = some o -> W.heap[g]? = some o := by intro h_; (with_reducible repeat (first | refine blk_drewN ?_ _ | refine blk_drew ?_ | refine blk_alloc ?_ _)); exact h_) : gb ≠ g := by rw [hg]; exact Nat.ne_of_gt (blk_lt (h1 h0))
theorem gm_ {o : Obj} {g gb : Nat} {W0 W : World} (hg : gb = W.heap.size) (h0 : W0.heap[g]? = some o) (h1 : W0.heap[g]? = some o -> W.heap[g]? = some o := by intro h_; (with_reducible repeat (first | refine blk_drewN ?_ _ | refine blk_drew ?_ | refine blk_alloc ?_ _)); exact h_) : g ≠ gb := by rw [hg]; exact Nat.ne_of_lt (blk_lt (h1 h0))
theorem ge_ {gb : Nat} {w W : World} (hg : gb = W.heap.size) (hb : Below w.heap.size w W) : w.heap.size <= gb := by rw [hg]; exact below_size hb
theorem hl_ {A P : Prop} (a : A) (h : A -> P := by intro h_; (repeat' apply And.intro) <;> exact (blk_cell h_ _).trans rfl) : P := h a
theorem rs_ {P : Prop} (h : P := by first | rfl | (simp; done) | (simp [*]; done)) : P := h
theorem dr_ {P : Prop} (h : P := by repeat (first | exact Drawn0.refl _ | apply Drawn0.step)) : P := h
theorem bo_ {α β : Type} {o : Option α} {f : α -> Option β} {r : β} (h : o.bind f = some r) : ∃ t, Aside0 (o = some t) /\ f t = some r := by
  obtain ⟨t, h1, h2⟩ := Option.bind_eq_some_iff.mp h
  exact ⟨t, ⟨h1⟩, h2⟩
theorem as_ {P : Prop} (h : P := by first | (with_reducible assumption) | assumption) : P := h
theorem rr_ {P : Prop} (h : P := by first | rfl | (simp [errW_none, errW_some] <;> rfl) | (simp [*, errW_none, errW_some] <;> rfl)) : P := h
theorem bc_ {w w1 : World} {a : Addr} {v : Value} (hb : Below w.heap.size w w1) (h : w.cell? a = some v) : w1.cell? a = some v := (hb.cell (World.block_lt_of_cell? w _ h)).trans h
theorem cz3_ {W : World} {g t : Nat} {c0 c1 c2 : Value} (h : W.heap[g]? = some (.cells #[c0, c1, c2] t (0, 0))) : W.cell? ⟨g, 0, none⟩ = some c0 /\ W.cell? ⟨g, 1, none⟩ = some c1 /\ W.cell? ⟨g, 2, none⟩ = some c2 /\ W.frozen? ⟨g, 0, none⟩ = false /\ W.frozen? ⟨g, 1, none⟩ = false /\ W.frozen? ⟨g, 2, none⟩ = false := ⟨(blk_cell h 0).trans rfl, (blk_cell h 1).trans rfl, (blk_cell h 2).trans rfl, blk_frozen h 0, blk_frozen h 1, blk_frozen h 2⟩
theorem cz4_ {W : World} {g t : Nat} {c0 c1 c2 c3 : Value} (h : W.heap[g]? = some (.cells #[c0, c1, c2, c3] t (0, 0))) : W.cell? ⟨g, 0, none⟩ = some c0 /\ W.cell? ⟨g, 1, none⟩ = some c1 /\ W.cell? ⟨g, 2, none⟩ = some c2 /\ W.cell? ⟨g, 3, none⟩ = some c3 /\ W.frozen? ⟨g, 0, none⟩ = false /\ W.frozen? ⟨g, 1, none⟩ = false /\ W.frozen? ⟨g, 2, none⟩ = false /\ W.frozen? ⟨g, 3, none⟩ = false := ⟨(blk_cell h 0).trans rfl, (blk_cell h 1).trans rfl, (blk_cell h 2).trans rfl, (blk_cell h 3).trans rfl, blk_frozen h 0, blk_frozen h 1, blk_frozen h 2, blk_frozen h 3⟩
theorem cz5_ {W : World} {g t : Nat} {c0 c1 c2 c3 c4 : Value} (h : W.heap[g]? = some (.cells #[c0, c1, c2, c3, c4] t (0, 0))) : W.cell? ⟨g, 0, none⟩ = some c0 /\ W.cell? ⟨g, 1, none⟩ = some c1 /\ W.cell? ⟨g, 2, none⟩ = some c2 /\ W.cell? ⟨g, 3, none⟩ = some c3 /\ W.cell? ⟨g, 4, none⟩ = some c4 /\ W.frozen? ⟨g, 0, none⟩ = false /\ W.frozen? ⟨g, 1, none⟩ = false /\ W.frozen? ⟨g, 2, none⟩ = false /\ W.frozen? ⟨g, 3, none⟩ = false /\ W.frozen? ⟨g, 4, none⟩ = false := ⟨(blk_cell h 0).trans rfl, (blk_cell h 1).trans rfl, (blk_cell h 2).trans rfl, (blk_cell h 3).trans rfl, (blk_cell h 4).trans rfl, blk_frozen h 0, blk_frozen h 1, blk_frozen h 2, blk_frozen h 3, blk_frozen h 4⟩
section
theorem bx_ {P : Program} {ops : Array Oper} {rest : List Oper} {o : Oper} {a : Act} {Q : Exit -> Act -> World -> Prop} {W : World} {N : Tmp} {cs : Array Value} {t : TypeId} (h : ∀ g, g = W.heap.size -> ∀ w1, w1.heap[g]? = some (.cells cs t (0, 0)) -> Below W.heap.size W w1 -> wpList P ops Q rest (a.put o.dst (.pointer (some ⟨g, 0, none⟩))) w1)
    (hgd : o.guard = none := by rfl) (hd : o.dst = some N := by rfl) (hrun : (execOp a.eval o).run P W = .ok (.value (.pointer (some ⟨W.heap.size, 0, none⟩))) (W.alloc (.cells cs t (0, 0))) := by first | (go_simp; done) | (go_simp; rfl)) : wpList P ops Q (o :: rest) a W := box_event hgd hd hrun h
theorem gL_ {P : Program} {ops : Array Oper} {Q : Exit -> Act -> World -> Prop} {rest : List Oper} {oi : Oper} {a : Act} {w : World} (N : Option Tmp) {f : FuncId} {fn : Func} {ar : Array Operand} {ts : Array TypeId} (hf : P.funcs[f]? = some fn) (args : Array Value)
    (h : Calls P f args w fun e w' => ∃ v, e = .returned v /\ wpList P ops Q rest (a.put N v) w') (hd : oi.dst = N := by rfl) (hg : oi.guard = none := by rfl) (hname : (fn.name == "runtime.NumGoroutine") = false := by kernel_rfl) (hb : fn.body.isSome = true := by rfl)
    (hop : oi.op = .call { callee := .value (.func f), args := ar, argTypes := ts } := by rfl) (hargs : ar.map a.eval = args := by (try simp only [List.map_toArray, List.map_cons, List.map_nil]); first | done | rfl | (simp only [List.length_drop, List.length_take]; rfl)) : wpList P ops Q (oi :: rest) a w := goesL_ N hd hg hf hname hb args hop hargs h
variable {P : Program} {md : Region.Mode} {ops : Array Oper} {Q : Exit -> Act -> World -> Prop} {S : World -> Prop} {ds : List Nat}
theorem pu_ {i : Nat} {N : Option Tmp} {oi : Oper} {v : Value} {fuel : Nat} {l l' : Array Bool} {a : Act} {w : World} {a' : Act} (h : wpAnyLast P md ops Q S ds fuel l' a' w)
    (hl : l.setIfInBounds i true = l' := by (simp only [List.setIfInBounds_toArray, List.set_cons_zero, List.set_cons_succ]; rfl)) (hi : ops[i]? = some oi := by rfl) (hN : oi.dst = N := by rfl) (hc : anyB md ops l l' i = true := by first | exact any_of HT_.out (by kernel_rfl) | kernel_rfl) (hQ : ∀ c a w, Q (.panic c) (a.put oi.dst v) w -> Q (.panic c) a w := by exact (fun _ _ _ h => h)) (hy : Yields P ops oi v a := by (refine Or.inl ⟨by rfl, ?_⟩; intro w'; go_simp; with_reducible rfl)) (ha : a.put N v = a' := by (simp only [Act.put, List.setIfInBounds_toArray, List.set_cons_zero, List.set_cons_succ, i64_w, i32_w]; rfl)) : wpAnyLast P md ops Q S ds (fuel + 1) l a w := pure_ l' hi hN hc hQ hy ha h
theorem pn_ {i : Nat} {N : Option Tmp} {oi : Oper} {fuel : Nat} {l l' : Array Bool} {a : Act} {w : World} {a' : Act} (h : wpAnyLast P md ops Q S ds fuel l' a' w)
    (hl : l.setIfInBounds i true = l' := by (simp only [List.setIfInBounds_toArray, List.set_cons_zero, List.set_cons_succ]; rfl)) (hi : ops[i]? = some oi := by rfl) (hN : oi.dst = N := by rfl) (hc : anyB md ops l l' i = true := by first | exact any_of HT_.out (by kernel_rfl) | kernel_rfl) (hQ : ∀ c a w, Q (.panic c) (a.put oi.dst undef) w -> Q (.panic c) a w := by exact (fun _ _ _ h => h)) (hy : Yields P ops oi undef a := by exact Or.inr ⟨by rfl, rfl⟩) (ha : a.put N undef = a' := by (simp only [Act.put, List.setIfInBounds_toArray, List.set_cons_zero, List.set_cons_succ, i64_w, i32_w]; rfl)) : wpAnyLast P md ops Q S ds (fuel + 1) l a w := pure_ l' hi hN hc hQ hy ha h
theorem tk_ {i : Nat} {N : Option Tmp} {oi : Oper} {v : Value} {fuel : Nat} {l l' : Array Bool} {a : Act} {w : World} {a' : Act} (hS : S w) (h : wpAnyLast P md ops Q S ds fuel l' a' w)
    (hl : l.setIfInBounds i true = l' := by (simp only [List.setIfInBounds_toArray, List.set_cons_zero, List.set_cons_succ]; rfl)) (hi : ops[i]? = some oi := by rfl) (hN : oi.dst = N := by rfl) (hc : takeB md ops ds l l' i = true := by first | exact take_ofW HT_.out HW_.out (by kernel_rfl) | kernel_rfl) (hQ : ∀ c a w, Q (.panic c) (a.put oi.dst v) w -> Q (.panic c) a w := by exact (fun _ _ _ h => h)) (hy : YieldsIf P ops S oi v a := by (refine Or.inl ⟨by rfl, ?_⟩; intro w' h_; (repeat (obtain ⟨s_, h_⟩ := h_)); go_simp; with_reducible rfl)) (ha : a.put N v = a' := by (simp only [Act.put, List.setIfInBounds_toArray, List.set_cons_zero, List.set_cons_succ, i64_w, i32_w]; rfl)) : wpAnyLast P md ops Q S ds (fuel + 1) l a w := take_ l' hi hN hc hQ hy hS ha h
theorem on_ {i : Nat} {N : Option Tmp} {oi : Oper} {fuel : Nat} {l l' : Array Bool} {a : Act} {w : World}
    (h : ∀ K : Act -> World -> Prop, Shut (∀ a' w', S w' -> (S w' -> wpAnyLast P md ops Q S ds fuel l' a' w') -> K a' w') -> if Region.wanted oi (yielded ops a.tmps) = true then Oper.wp P oi a w K Q else K (a.put N undef) w)
    (hl : l.setIfInBounds i true = l' := by (simp only [List.setIfInBounds_toArray, List.set_cons_zero, List.set_cons_succ]; rfl)) (hi : ops[i]? = some oi := by rfl) (hN : oi.dst = N := by rfl) (hc : readyB md ops l l' i = true := by first | exact one_of HT_.out (by kernel_rfl) | kernel_rfl) (hd : i ∉ ds := by decide) : wpAnyLast P md ops Q S ds (fuel + 1) l a w := one_ l' hi hN hc hd h
theorem no_ {fuel : Nat} {l : Array Bool} {a0 a' : Act} {v : Value} {dst : Option Tmp} {w : World} (N : Option Tmp) (h : wpAnyLast P md ops Q S ds fuel l a' w) (hd : dst = N := by rfl) (ha : Act.put a0 N v = a' := by (simp only [Act.put, List.setIfInBounds_toArray, List.set_cons_zero, List.set_cons_succ, i64_w, i32_w]; rfl)) : wpAnyLast P md ops Q S ds fuel l (Act.put a0 dst v) w := by subst hd; exact norm_ ha h
end
section
variable {P : Program} {ops : Array Oper} {Q : Exit -> Act -> World -> Prop} {ds : List Nat} {id n : Nat} {a : Act} {w : World}
theorem st3_ {a0 a1 a2 : Addr} {v0 v1 v2 : Value} {l : Array Bool} (h0 : w.drew.cell? a0 = some v0) (h1 : w.drew.cell? a1 = some v1) (h2 : w.drew.cell? a2 = some v2) (h : w.drew.cell? a0 = some v0 /\ w.drew.cell? a1 = some v1 /\ w.drew.cell? a2 = some v2 -> wpAnyLast P .any ops Q (fun w' => w'.cell? a0 = some v0 /\ w'.cell? a1 = some v1 /\ w'.cell? a2 = some v2) ds n l a w.drew) (hm : P.follows .mixedOrders = true := by kernel_rfl) (hn : ops.size = n := by rfl) (hl : (List.replicate n false).toArray = l := by (simp only [List.replicate_succ, List.replicate_zero]; rfl)) : (Code.region id ops true).wp P Q a w := start_ (S := fun w' => w'.cell? a0 = some v0 /\ w'.cell? a1 = some v1 /\ w'.cell? a2 = some v2) l hm hn ((by rw [← hl]; simp)) ⟨h0, h1, h2⟩ h
theorem st5_ {a0 a1 a2 a3 a4 : Addr} {v0 v1 v2 v3 v4 : Value} {l : Array Bool} (h0 : w.drew.cell? a0 = some v0) (h1 : w.drew.cell? a1 = some v1) (h2 : w.drew.cell? a2 = some v2) (h3 : w.drew.cell? a3 = some v3) (h4 : w.drew.cell? a4 = some v4) (h : w.drew.cell? a0 = some v0 /\ w.drew.cell? a1 = some v1 /\ w.drew.cell? a2 = some v2 /\ w.drew.cell? a3 = some v3 /\ w.drew.cell? a4 = some v4 -> wpAnyLast P .any ops Q (fun w' => w'.cell? a0 = some v0 /\ w'.cell? a1 = some v1 /\ w'.cell? a2 = some v2 /\ w'.cell? a3 = some v3 /\ w'.cell? a4 = some v4) ds n l a w.drew) (hm : P.follows .mixedOrders = true := by kernel_rfl) (hn : ops.size = n := by rfl) (hl : (List.replicate n false).toArray = l := by (simp only [List.replicate_succ, List.replicate_zero]; rfl)) : (Code.region id ops true).wp P Q a w := start_ (S := fun w' => w'.cell? a0 = some v0 /\ w'.cell? a1 = some v1 /\ w'.cell? a2 = some v2 /\ w'.cell? a3 = some v3 /\ w'.cell? a4 = some v4) l hm hn ((by rw [← hl]; simp)) ⟨h0, h1, h2, h3, h4⟩ h
theorem st6_ {a0 a1 a2 a3 a4 a5 : Addr} {v0 v1 v2 v3 v4 v5 : Value} {l : Array Bool} (h0 : w.drew.cell? a0 = some v0) (h1 : w.drew.cell? a1 = some v1) (h2 : w.drew.cell? a2 = some v2) (h3 : w.drew.cell? a3 = some v3) (h4 : w.drew.cell? a4 = some v4) (h5 : w.drew.cell? a5 = some v5) (h : w.drew.cell? a0 = some v0 /\ w.drew.cell? a1 = some v1 /\ w.drew.cell? a2 = some v2 /\ w.drew.cell? a3 = some v3 /\ w.drew.cell? a4 = some v4 /\ w.drew.cell? a5 = some v5 -> wpAnyLast P .any ops Q (fun w' => w'.cell? a0 = some v0 /\ w'.cell? a1 = some v1 /\ w'.cell? a2 = some v2 /\ w'.cell? a3 = some v3 /\ w'.cell? a4 = some v4 /\ w'.cell? a5 = some v5) ds n l a w.drew) (hm : P.follows .mixedOrders = true := by kernel_rfl) (hn : ops.size = n := by rfl) (hl : (List.replicate n false).toArray = l := by (simp only [List.replicate_succ, List.replicate_zero]; rfl)) : (Code.region id ops true).wp P Q a w := start_ (S := fun w' => w'.cell? a0 = some v0 /\ w'.cell? a1 = some v1 /\ w'.cell? a2 = some v2 /\ w'.cell? a3 = some v3 /\ w'.cell? a4 = some v4 /\ w'.cell? a5 = some v5) l hm hn ((by rw [← hl]; simp)) ⟨h0, h1, h2, h3, h4, h5⟩ h
theorem st7_ {a0 a1 a2 a3 a4 a5 a6 : Addr} {v0 v1 v2 v3 v4 v5 v6 : Value} {l : Array Bool} (h0 : w.drew.cell? a0 = some v0) (h1 : w.drew.cell? a1 = some v1) (h2 : w.drew.cell? a2 = some v2) (h3 : w.drew.cell? a3 = some v3) (h4 : w.drew.cell? a4 = some v4) (h5 : w.drew.cell? a5 = some v5) (h6 : w.drew.cell? a6 = some v6) (h : w.drew.cell? a0 = some v0 /\ w.drew.cell? a1 = some v1 /\ w.drew.cell? a2 = some v2 /\ w.drew.cell? a3 = some v3 /\ w.drew.cell? a4 = some v4 /\ w.drew.cell? a5 = some v5 /\ w.drew.cell? a6 = some v6 -> wpAnyLast P .any ops Q (fun w' => w'.cell? a0 = some v0 /\ w'.cell? a1 = some v1 /\ w'.cell? a2 = some v2 /\ w'.cell? a3 = some v3 /\ w'.cell? a4 = some v4 /\ w'.cell? a5 = some v5 /\ w'.cell? a6 = some v6) ds n l a w.drew) (hm : P.follows .mixedOrders = true := by kernel_rfl) (hn : ops.size = n := by rfl) (hl : (List.replicate n false).toArray = l := by (simp only [List.replicate_succ, List.replicate_zero]; rfl)) : (Code.region id ops true).wp P Q a w := start_ (S := fun w' => w'.cell? a0 = some v0 /\ w'.cell? a1 = some v1 /\ w'.cell? a2 = some v2 /\ w'.cell? a3 = some v3 /\ w'.cell? a4 = some v4 /\ w'.cell? a5 = some v5 /\ w'.cell? a6 = some v6) l hm hn ((by rw [← hl]; simp)) ⟨h0, h1, h2, h3, h4, h5, h6⟩ h
theorem st9_ {a0 a1 a2 a3 a4 a5 a6 a7 a8 : Addr} {v0 v1 v2 v3 v4 v5 v6 v7 v8 : Value} {l : Array Bool} (h0 : w.drew.cell? a0 = some v0) (h1 : w.drew.cell? a1 = some v1) (h2 : w.drew.cell? a2 = some v2) (h3 : w.drew.cell? a3 = some v3) (h4 : w.drew.cell? a4 = some v4) (h5 : w.drew.cell? a5 = some v5) (h6 : w.drew.cell? a6 = some v6) (h7 : w.drew.cell? a7 = some v7) (h8 : w.drew.cell? a8 = some v8) (h : w.drew.cell? a0 = some v0 /\ w.drew.cell? a1 = some v1 /\ w.drew.cell? a2 = some v2 /\ w.drew.cell? a3 = some v3 /\ w.drew.cell? a4 = some v4 /\ w.drew.cell? a5 = some v5 /\ w.drew.cell? a6 = some v6 /\ w.drew.cell? a7 = some v7 /\ w.drew.cell? a8 = some v8 -> wpAnyLast P .any ops Q (fun w' => w'.cell? a0 = some v0 /\ w'.cell? a1 = some v1 /\ w'.cell? a2 = some v2 /\ w'.cell? a3 = some v3 /\ w'.cell? a4 = some v4 /\ w'.cell? a5 = some v5 /\ w'.cell? a6 = some v6 /\ w'.cell? a7 = some v7 /\ w'.cell? a8 = some v8) ds n l a w.drew) (hm : P.follows .mixedOrders = true := by kernel_rfl) (hn : ops.size = n := by rfl) (hl : (List.replicate n false).toArray = l := by (simp only [List.replicate_succ, List.replicate_zero]; rfl)) : (Code.region id ops true).wp P Q a w := start_ (S := fun w' => w'.cell? a0 = some v0 /\ w'.cell? a1 = some v1 /\ w'.cell? a2 = some v2 /\ w'.cell? a3 = some v3 /\ w'.cell? a4 = some v4 /\ w'.cell? a5 = some v5 /\ w'.cell? a6 = some v6 /\ w'.cell? a7 = some v7 /\ w'.cell? a8 = some v8) l hm hn ((by rw [← hl]; simp)) ⟨h0, h1, h2, h3, h4, h5, h6, h7, h8⟩ h
theorem st10_ {a0 a1 a2 a3 a4 a5 a6 a7 a8 a9 : Addr} {v0 v1 v2 v3 v4 v5 v6 v7 v8 v9 : Value} {l : Array Bool} (h0 : w.drew.cell? a0 = some v0) (h1 : w.drew.cell? a1 = some v1) (h2 : w.drew.cell? a2 = some v2) (h3 : w.drew.cell? a3 = some v3) (h4 : w.drew.cell? a4 = some v4) (h5 : w.drew.cell? a5 = some v5) (h6 : w.drew.cell? a6 = some v6) (h7 : w.drew.cell? a7 = some v7) (h8 : w.drew.cell? a8 = some v8) (h9 : w.drew.cell? a9 = some v9) (h : w.drew.cell? a0 = some v0 /\ w.drew.cell? a1 = some v1 /\ w.drew.cell? a2 = some v2 /\ w.drew.cell? a3 = some v3 /\ w.drew.cell? a4 = some v4 /\ w.drew.cell? a5 = some v5 /\ w.drew.cell? a6 = some v6 /\ w.drew.cell? a7 = some v7 /\ w.drew.cell? a8 = some v8 /\ w.drew.cell? a9 = some v9 -> wpAnyLast P .any ops Q (fun w' => w'.cell? a0 = some v0 /\ w'.cell? a1 = some v1 /\ w'.cell? a2 = some v2 /\ w'.cell? a3 = some v3 /\ w'.cell? a4 = some v4 /\ w'.cell? a5 = some v5 /\ w'.cell? a6 = some v6 /\ w'.cell? a7 = some v7 /\ w'.cell? a8 = some v8 /\ w'.cell? a9 = some v9) ds n l a w.drew) (hm : P.follows .mixedOrders = true := by kernel_rfl) (hn : ops.size = n := by rfl) (hl : (List.replicate n false).toArray = l := by (simp only [List.replicate_succ, List.replicate_zero]; rfl)) : (Code.region id ops true).wp P Q a w := start_ (S := fun w' => w'.cell? a0 = some v0 /\ w'.cell? a1 = some v1 /\ w'.cell? a2 = some v2 /\ w'.cell? a3 = some v3 /\ w'.cell? a4 = some v4 /\ w'.cell? a5 = some v5 /\ w'.cell? a6 = some v6 /\ w'.cell? a7 = some v7 /\ w'.cell? a8 = some v8 /\ w'.cell? a9 = some v9) l hm hn ((by rw [← hl]; simp)) ⟨h0, h1, h2, h3, h4, h5, h6, h7, h8, h9⟩ h
end
theorem p5_01234_ {w : World} {g t : Nat} {c0 c1 c2 c3 c4 u0 u1 u2 u3 u4 : Value} (h : w.heap[g]? = some (.cells #[c0, c1, c2, c3, c4] t (0, 0))) : (((((w.setCell ⟨g, 0, none⟩ u0).setCell ⟨g, 1, none⟩ u1).setCell ⟨g, 2, none⟩ u2).setCell ⟨g, 3, none⟩ u3).setCell ⟨g, 4, none⟩ u4).heap[g]? = some (.cells #[u0, u1, u2, u3, u4] t (0, 0)) := blk_put (blk_put (blk_put (blk_put (blk_put h 0 _ rfl) 1 _ rfl) 2 _ rfl) 3 _ rfl) 4 _ rfl
theorem p5_0_ {w : World} {g t : Nat} {c0 c1 c2 c3 c4 u0 : Value} (h : w.heap[g]? = some (.cells #[c0, c1, c2, c3, c4] t (0, 0))) : (w.setCell ⟨g, 0, none⟩ u0).heap[g]? = some (.cells #[u0, c1, c2, c3, c4] t (0, 0)) := blk_put h 0 _ rfl
theorem p3_012_ {w : World} {g t : Nat} {c0 c1 c2 u0 u1 u2 : Value} (h : w.heap[g]? = some (.cells #[c0, c1, c2] t (0, 0))) : (((w.setCell ⟨g, 0, none⟩ u0).setCell ⟨g, 1, none⟩ u1).setCell ⟨g, 2, none⟩ u2).heap[g]? = some (.cells #[u0, u1, u2] t (0, 0)) := blk_put (blk_put (blk_put h 0 _ rfl) 1 _ rfl) 2 _ rfl
theorem p5_3_ {w : World} {g t : Nat} {c0 c1 c2 c3 c4 u0 : Value} (h : w.heap[g]? = some (.cells #[c0, c1, c2, c3, c4] t (0, 0))) : (w.setCell ⟨g, 3, none⟩ u0).heap[g]? = some (.cells #[c0, c1, c2, u0, c4] t (0, 0)) := blk_put h 3 _ rfl
end Go.Proofs.Ytbgggcgjijljkaa.Q

/-
  DERIVED: THE SHELF's CONTRACTS AT THIS DUMP, IN PLAIN WORDS (tools/lay-plain.mjs out of 'TryShelf.lean', which tools/lay-shelf.mjs wrote): THE SAME DECLARATIONS UNDER THE SAME NAMES: 'import', 'namespace', 'open', 'def', 'theorem' AND NOTHING ELSE: no command of the shelf's: FOR A HAND-IN. Each laying: the table of numbers ('.._ren') and one theorem, a field a fact of the dump's own or the kernel's comparison; each contract: ONE APPLICATION.
-/
namespace Go.Proofs
open Go.Shelf
def Try.lays144_ren : Go.Shelf.Ren := ⟨fun | 144 => 137 | 143 => 138 | 219 => 139 | 217 => 140 | 225 => 141 | 224 => 142 | 267 => 143 | 266 => 144 | 314 => 145 | n => n, fun | 9 => 9 | 4 => 4 | 3 => 3 | 5 => 5 | 46 => 126 | 146 => 131 | 51 => 130 | n => n, fun | 1 => 0 | n => n⟩
theorem Try.lays144 : Go.Proofs.Lays.n144 Try.prog Try.lays144_ren := {
  mixed := by kernel_rfl
  f143 := Try.func138.trans (congrArg some (by kernel_rfl))
  f144 := Try.func137.trans (congrArg some (by kernel_rfl))
  f217 := Try.func140.trans (congrArg some (by kernel_rfl))
  f219 := Try.func139.trans (congrArg some (by kernel_rfl))
  f224 := Try.func142.trans (congrArg some (by kernel_rfl))
  f225 := Try.func141.trans (congrArg some (by kernel_rfl))
  f266 := Try.func144.trans (congrArg some (by kernel_rfl))
  f267 := Try.func143.trans (congrArg some (by kernel_rfl))
  f314 := Try.func145.trans (congrArg some (by kernel_rfl))
  t3 := Try.underlying3
  a3 := Try.isAgg3
  z3 := Try.sizeOf3
  v3 := Try.zeroValue3
  t4 := Try.underlying4
  a4 := Try.isAgg4
  z4 := Try.sizeOf4
  v4 := Try.zeroValue4
  t5 := Try.underlying5
  a5 := Try.isAgg5
  z5 := Try.sizeOf5
  v5 := Try.zeroValue5
  t9 := Try.underlying9
  a9 := Try.isAgg9
  z9 := Try.sizeOf9
  v9 := Try.zeroValue9
  t46 := Try.underlying126
  a46 := Try.isAgg126
  z46 := Try.sizeOf126
  v46 := Try.zeroValue126
  t51 := Try.underlying130
  a51 := Try.isAgg130
  z51 := Try.sizeOf130
  v51 := Try.zeroValue130
  t146 := Try.underlying131
  a146 := Try.isAgg131
  z146 := Try.sizeOf131
  v146 := Try.zeroValue131
  g1 := by kernel_rfl }
open Go.RowKit Go.Lib in
theorem Try.strings_Contains_one (s : ByteArray) (c : UInt8) (w : World) :
    Calls Try.prog 137 #[.string s, .string ⟨#[c]⟩] w fun e w' => e = .returned (.bool (decide (0 <= Lib.indexByte s.data.toList c))) /\ w' = w := Any.strings_Contains_one Try.lays144 s c w
end Go.Proofs

/- Functions of Go's library as the shelf's contracts have them, in the form of the printed functions: strings.Contains at a text of one byte. No condition. -/
set_option linter.unusedSimpArgs false
set_option linter.unusedVariables false
namespace Go.Proofs.Ytbgggcgjijljkaa.Q
open Go.RowKit Go.Proofs.YtbgggcgjijljkaaW.PrintWords
def strings_Contains.f (a0 a1 : ByteArray) : Option Bool := match a1.data.toList with
  | [c] => some (decide (0 <= Lib.indexByte a0.data.toList c))
  | _ => none
theorem strings_Contains.calls (a0 a1 : ByteArray) (r : Bool) (w : World) (h : strings_Contains.f a0 a1 = some r) :
    Calls Try.prog 137 #[.string a0, .string a1] w fun e w' => e = .returned (.bool r) /\ Drawn0 w w' := by
  unfold strings_Contains.f at h
  split at h
  . rename_i c hc
    obtain rfl : a1 = ⟨#[c]⟩ := by
      cases a1 with
      | mk x => congr 1; exact Array.toList_inj.1 hc
    obtain rfl := Option.some.inj h
    refine (Try.strings_Contains_one a0 c w).mono ?_
    rintro e w' ⟨rfl, rfl⟩
    exact ⟨rfl, Drawn0.refl _⟩
  . cases h
end Go.Proofs.Ytbgggcgjijljkaa.Q
