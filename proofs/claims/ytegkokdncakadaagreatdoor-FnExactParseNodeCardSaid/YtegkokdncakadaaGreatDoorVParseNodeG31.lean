/- Marked trees read: blanks passed over, nodes; the reference's reader and the program's come to the same. No condition. -/
import Derived.Lib.Strings
import Derived.Lib.SlTrimSet
import Derived.Test.YtegkokdncakadaaGreatDoorVParseNodeG30
set_option linter.unusedSimpArgs false
set_option linter.unusedVariables false
namespace Go.Proofs.YtegkokdncakadaaGreatDoor.L
open Go.RowKit Go.Proofs.YtegkokdncakadaaGreatDoorW.PrintWords Go.Proofs.YtegkokdncakadaaGreatDoorW.PrintLast Go.Proofs.YtegkokdncakadaaGreatDoor.Q
def blankL (l : List UInt8) : Bool := l.all (· == 32)
theorem dropW_nil {p : UInt8 → Bool} : ∀ {l : List UInt8}, l.dropWhile p = [] ↔ ∀ c ∈ l, p c = true := by
  intro l
  induction l with
  | nil => simp
  | cons c l ih =>
    by_cases h : p c = true
    · rw [List.dropWhile_cons_of_pos h, ih]; simp [h]
    · rw [List.dropWhile_cons_of_neg h]; simp [h]
theorem trimS_nil {l cs : List UInt8} : Lib.trimS l cs = [] ↔ ∀ c ∈ l, cs.contains c = true := by
  unfold Lib.trimS Lib.trimLeftS Lib.trimRightS
  rw [dropW_nil]
  constructor
  · intro h c hc
    have h2 : c ∈ l.reverse.takeWhile (cs.contains ·) ++ l.reverse.dropWhile (cs.contains ·) := by rw [List.takeWhile_append_dropWhile]; exact List.mem_reverse.2 hc
    rcases List.mem_append.1 h2 with h3 | h3
    · have := List.all_eq_true.1 (List.all_takeWhile (p := (cs.contains ·)) (l := l.reverse)) c h3
      exact this
    · exact h c (List.mem_reverse.2 h3)
  · intro h c hc
    exact h c (List.mem_reverse.1 (List.dropWhile_subset _ (List.mem_reverse.1 hc)))
theorem implBlank {s : ByteArray} (hs : s.size ≤ 1073741824) : impl_isBlank.f s = some (blankL (bl s)) := by
  unfold impl_isBlank.f strings_Trim.f
  rw [if_pos ⟨by omega, by decide, by decide⟩]
  simp only [Option.bind_some]
  congr 1
  apply Bool.eq_iff_iff.2
  rw [beq_iff_eq, tl_eq, bl_ofL]
  show Lib.trimS (bl s) [32] = [] ↔ _
  rw [trimS_nil]
  unfold blankL
  rw [List.all_eq_true]
  constructor
  · intro h c hc
    have := h c hc
    simpa using this
  · intro h c hc
    have := h c hc
    simpa using this
theorem specBlankB {s : ByteArray} (hs : s.size ≤ 1073741824) (hp : plainL (bl s) = true) : Ev (fun k => spec_l8Blank.f k s) (blankL (bl s)) := by
  unfold spec_l8Blank.f
  refine Ev.bind (specTrim (by rw [maxLen_eq]; omega)) (ev_cast (Ev.now _) ?_)
  apply Bool.eq_iff_iff.2
  rw [beq_iff_eq, tl_eq, bl_ofL]
  show Lib.trimS (bl s) [32, 9] = [] ↔ _
  rw [trimS_nil]
  unfold blankL
  rw [List.all_eq_true]
  constructor
  · intro h c hc
    have h1 := h c hc
    have h2 := List.all_eq_true.1 hp c hc
    rw [List.contains_iff_mem, List.mem_cons, List.mem_singleton] at h1
    rcases h1 with h1 | h1
    · exact beq_iff_eq.2 h1
    · subst h1
      revert h2; decide
  · intro h c hc
    have := beq_iff_eq.1 (h c hc)
    subst this
    rfl
theorem blank_app {a b : List UInt8} : blankL (a ++ b) = (blankL a && blankL b) := by simp [blankL]
def GT : Nat → List S24 → Prop
  | 0, l => l = []
  | n + 1, l => l.length ≤ 1000 ∧ ∀ a ∈ l, a.f0.size ≤ 1073741824 ∧ a.f1.size ≤ 1073741824 ∧ a.f2.size ≤ 1073741824 ∧ GT n a.f3
theorem GT_nil : ∀ n, GT n []
  | 0 => rfl
  | _ + 1 => ⟨by simp, nofun⟩
theorem GT_snoc {n : Nat} {l : List S24} {a : S24} (h : GT (n + 1) l) (hl : l.length < 1000) (ha : a.f0.size ≤ 1073741824 ∧ a.f1.size ≤ 1073741824 ∧ a.f2.size ≤ 1073741824 ∧ GT n a.f3) : GT (n + 1) (l ++ [a]) :=
  ⟨by simp only [List.length_append, List.length_cons, List.length_nil]; omega, all_snoc h.2 ha⟩
section
variable {l : List S82}
theorem rdP_mem {i : Int} (h0 : 0 ≤ i) (h1 : i < (l.length : Int)) : rd_T82 l i ∈ l := by
  have h2 : i.toNat < l.length := by omega
  show l.getD i.toNat _ ∈ l
  rw [List.getD_eq_getElem?_getD, List.getElem?_eq_getElem h2]
  exact List.getElem_mem h2
theorem skipBoth (hl : l.length ≤ 60) (hg : ∀ p ∈ l, GoodP p) : ∀ (m : Nat) (i : Int), 0 ≤ i → i ≤ 100 → (l.length : Int) - i ≤ m → ∃ j, i ≤ j ∧ j ≤ 100 ∧ (i ≤ (l.length : Int) → j ≤ (l.length : Int)) ∧ Ev (fun k => impl_nodes_blanks.l0 k l i) j ∧ Ev (fun k => spec_l8Skip.l0 k l i) j := by
  intro m
  induction m with
  | zero =>
    intro i h0 h1 h2
    refine ⟨i, Int.le_refl _, h1, fun h => h, Ev.step (fun k => impl_nodes_blanks.l0.eq_2 ..) (ev_iteF (by omega) (Ev.now _)), Ev.step (fun k => spec_l8Skip.l0.eq_2 ..) (ev_iteF (by omega) (Ev.now _))⟩
  | succ m ih =>
    intro i h0 h1 h2
    by_cases c1 : i < (l.length : Int)
    · have hp := hg _ (rdP_mem h0 c1)
      by_cases c2 : (rd_T82 l i).f0 = 4
      · have hI := implBlank (s := (rd_T82 l i).f4) (by have := hp.2.1; omega)
        have hS := specBlankB (s := (rd_T82 l i).f4) (by have := hp.2.1; omega) hp.1
        cases hb : blankL (bl (rd_T82 l i).f4) with
        | true =>
          rw [hb] at hI hS
          have hw : wrap64 (i + 1) = i + 1 := wrap_id (by omega) (by omega)
          obtain ⟨j, j1, j2, j3, j4, j5⟩ := ih (i + 1) (by omega) (by omega) (by omega)
          refine ⟨j, by omega, j2, fun _ => j3 (by omega), Ev.step (fun k => impl_nodes_blanks.l0.eq_2 ..) ?_, Ev.step (fun k => spec_l8Skip.l0.eq_2 ..) ?_⟩
          · rw [hw]; exact ev_iteT c1 (ev_iteT h0 (ev_iteT c2 (ev_bindS hI (ev_iteT rfl j4))))
          · rw [hw]; exact ev_iteT c1 (ev_iteT h0 (ev_iteT c2 (Ev.bind hS (ev_iteT rfl j5))))
        | false =>
          rw [hb] at hI hS
          exact ⟨i, Int.le_refl _, h1, fun h => h, Ev.step (fun k => impl_nodes_blanks.l0.eq_2 ..) (ev_iteT c1 (ev_iteT h0 (ev_iteT c2 (ev_bindS hI (ev_iteF nofun (Ev.now _)))))), Ev.step (fun k => spec_l8Skip.l0.eq_2 ..) (ev_iteT c1 (ev_iteT h0 (ev_iteT c2 (Ev.bind hS (ev_iteF nofun (Ev.now _))))))⟩
      · exact ⟨i, Int.le_refl _, h1, fun h => h, Ev.step (fun k => impl_nodes_blanks.l0.eq_2 ..) (ev_iteT c1 (ev_iteT h0 (ev_iteF c2 (Ev.now _)))), Ev.step (fun k => spec_l8Skip.l0.eq_2 ..) (ev_iteT c1 (ev_iteT h0 (ev_iteF c2 (Ev.now _))))⟩
    · exact ⟨i, Int.le_refl _, h1, fun h => h, Ev.step (fun k => impl_nodes_blanks.l0.eq_2 ..) (ev_iteF c1 (Ev.now _)), Ev.step (fun k => spec_l8Skip.l0.eq_2 ..) (ev_iteF c1 (Ev.now _))⟩
abbrev RN := ByteArray × ByteArray × ByteArray × List S24 × Int × Bool
abbrev RK := ByteArray × List S24 × Int × Bool
def NBad (l : List S82) (deep : Int) (f : Nat → Option RN) : Prop := ∃ (a b c : ByteArray) (d : List S24) (j : Int), Ev f (a, b, c, d, j, true) ∧ 0 ≤ j ∧ j ≤ (l.length : Int) + 7 - deep
def KBad (l : List S82) (deep : Int) (f : Nat → Option RK) : Prop := ∃ (c : ByteArray) (d : List S24) (j : Int), Ev f (c, d, j, true) ∧ 0 ≤ j ∧ j ≤ (l.length : Int) + 7 - deep
def NN (l : List S82) (m : Nat) : Prop := ∀ (i deep : Int) (ns : ByteArray), 0 ≤ i → i ≤ (l.length : Int) → 1 ≤ deep → deep ≤ 6 → (l.length : Int) - i ≤ m → ns.size ≤ 1073741824 →
  (∃ (n1 n2 n3 : ByteArray) (n4 : List S24) (j : Int), Ev (fun k => impl_nodes_node.f k l i false ns deep) (n1, n2, n3, n4, j, false) ∧ Ev (fun k => spec_l8Read.f k l i false ns deep) (n1, n2, n3, n4, j, false) ∧ i < j ∧ j ≤ (l.length : Int) ∧ deep ≤ 5 ∧ n1.size ≤ 1073741824 ∧ n2.size ≤ 1073741824 ∧ n3.size ≤ 1073741824 ∧ GT (5 - deep).toNat n4) ∨
  (NBad l deep (fun k => impl_nodes_node.f k l i false ns deep) ∧ NBad l deep (fun k => spec_l8Read.f k l i false ns deep))
def LL (l : List S82) (m : Nat) : Prop := ∀ (i deep : Int) (ns nm tx : ByteArray) (kids : List S24), 0 ≤ i → i ≤ (l.length : Int) → 1 ≤ deep → deep ≤ 5 → (l.length : Int) - i ≤ m → ns.size ≤ 1073741824 → plainL (bl tx) = true → (tx.size : Int) ≤ i * 1048576 → (kids.length : Int) ≤ i → GT (5 - deep).toNat kids →
  (∃ (n3 : ByteArray) (n4 : List S24) (j : Int), Ev (fun k => impl_nodes_node.l0 k l deep i false (!blankL (bl tx)) ns nm tx kids) (ns, nm, n3, n4, j, false) ∧ Ev (fun k => spec_l8Kids.l0 k l deep i false tx ns nm kids) (n3, n4, j, false) ∧ i < j ∧ j ≤ (l.length : Int) ∧ n3.size ≤ 1073741824 ∧ GT (5 - deep).toNat n4) ∨
  (NBad l deep (fun k => impl_nodes_node.l0 k l deep i false (!blankL (bl tx)) ns nm tx kids) ∧ KBad l deep (fun k => spec_l8Kids.l0 k l deep i false tx ns nm kids))
theorem endBad {l : List S82} {i : Int} {ns nm tx : ByteArray} {kids : List S24} (h0 : 0 ≤ i) (h1 : i ≤ 1000) : inodeEnd l i true ns nm tx kids = some (ns, nm, tx, kids, i + 1, true) := by
  have hw : wrap64 (i + 1) = i + 1 := wrap_id (by omega) (by omega)
  unfold inodeEnd
  rw [hw]
  by_cases c : i < (l.length : Int)
  · rw [if_pos c, if_pos h0, ite_self]
  · rw [if_neg c]
theorem readers {l : List S82} (hl : l.length ≤ 60) (hg : ∀ p ∈ l, GoodP p) : ∀ m : Nat, NN l m ∧ LL l m := by
  -- where the pieces end, both say no
  have nEnd : ∀ (i deep : Int) (ns : ByteArray), (l.length : Int) ≤ i → 0 ≤ i → i ≤ (l.length : Int) → 1 ≤ deep → deep ≤ 6 → NBad l deep (fun k => impl_nodes_node.f k l i false ns deep) ∧ NBad l deep (fun k => spec_l8Read.f k l i false ns deep) := by
    intro i deep ns h1 h0 h2 d1 d2
    refine ⟨⟨E0, E0, E0, [], i, Ev.step (fun k => impl_nodes_node.f.eq_2 ..) (ev_iteF (by omega) (Ev.now _)), h0, by omega⟩, ⟨E0, E0, E0, [], i, Ev.step (fun k => spec_l8Read.f.eq_2 ..) ?_, h0, by omega⟩⟩
    by_cases c : deep > 5
    · exact ev_iteT c (Ev.now _)
    · exact ev_iteF c (ev_iteF (by omega) (Ev.now _))
  have lEnd : ∀ (i deep : Int) (full : Bool) (ns nm tx tt : ByteArray) (kids : List S24), (l.length : Int) ≤ i → 0 ≤ i → i ≤ (l.length : Int) → 1 ≤ deep → deep ≤ 5 → NBad l deep (fun k => impl_nodes_node.l0 k l deep i false full ns nm tx kids) ∧ KBad l deep (fun k => spec_l8Kids.l0 k l deep i false tt ns nm kids) := by
    intro i deep full ns nm tx tt kids h1 h0 h2 d1 d2
    have hw : wrap64 (i + 1) = i + 1 := wrap_id (by omega) (by omega)
    refine ⟨⟨ns, nm, _, kids, i + 1, Ev.step (fun k => impl_nodes_node.l0.eq_2 ..) (ev_iteF (fun h => by omega) (ev_cast (Ev.congr (fun k => by unfold inodeEnd; rw [if_neg (show ¬ i < (l.length : Int) by omega), hw]) (Ev.now _)) rfl)), by omega, by omega⟩, ⟨E0, kids, i, Ev.step (fun k => spec_l8Kids.l0.eq_2 ..) (ev_iteF nofun (ev_iteF (by omega) (Ev.now _))), h0, by omega⟩⟩
  intro m
  induction m with
  | zero =>
    refine ⟨fun i deep ns h0 h1 d1 d2 hm _ => .inr (nEnd i deep ns (by omega) h0 h1 d1 d2), fun i deep ns nm tx kids h0 h1 d1 d2 hm _ _ _ _ _ => .inr (lEnd i deep _ ns nm tx tx kids (by omega) h0 h1 d1 d2)⟩
  | succ m ih =>
    have hN : NN l (m + 1) := by
      intro i deep ns h0 h1 d1 d2 hm hns
      by_cases c1 : i < (l.length : Int)
      rotate_left
      · exact .inr (nEnd i deep ns (by omega) h0 h1 d1 d2)
      have hp := hg _ (rdP_mem h0 c1)
      have hw : wrap64 (i + 1) = i + 1 := wrap_id (by omega) (by omega)
      by_cases c3 : deep > 5
      · exact .inr ⟨⟨E0, E0, E0, [], i, Ev.step (fun k => impl_nodes_node.f.eq_2 ..) (ev_iteT c1 (ev_iteT h0 (ev_iteT c3 (Ev.now _)))), h0, by omega⟩, ⟨E0, E0, E0, [], i, Ev.step (fun k => spec_l8Read.f.eq_2 ..) (ev_iteT c3 (Ev.now _)), h0, by omega⟩⟩
      have hNS : (if (rd_T82 l i).f3 = true then (rd_T82 l i).f2 else ns).size ≤ 1073741824 := by
        split
        · exact hp.2.2.2
        · exact hns
      by_cases c4 : (rd_T82 l i).f0 = 1
      · have hL := ih.2 (i + 1) deep (if (rd_T82 l i).f3 = true then (rd_T82 l i).f2 else ns) (rd_T82 l i).f1 E0 [] (by omega) (by omega) d1 (by omega) (by omega) hNS rfl (by show ((0 : Nat) : Int) ≤ _; omega) (by show ((0 : Nat) : Int) ≤ _; omega) (GT_nil _)
        have fI : ∀ {r}, Ev (fun k => impl_nodes_node.l0 k l deep (i + 1) false (!blankL (bl E0)) (if (rd_T82 l i).f3 = true then (rd_T82 l i).f2 else ns) (rd_T82 l i).f1 E0 []) r → Ev (fun k => impl_nodes_node.f k l i false ns deep) r := by
          intro r k
          refine Ev.step (fun k => impl_nodes_node.f.eq_2 ..) (ev_iteT c1 (ev_iteT h0 (ev_iteF c3 (ev_iteT c4 ?_))))
          rw [hw]; exact k
        have fS : ∀ {a b c d}, Ev (fun k => spec_l8Kids.l0 k l deep (i + 1) false E0 (if (rd_T82 l i).f3 = true then (rd_T82 l i).f2 else ns) (rd_T82 l i).f1 []) (a, b, c, d) → Ev (fun k => spec_l8Read.f k l i false ns deep) ((if (rd_T82 l i).f3 = true then (rd_T82 l i).f2 else ns), (rd_T82 l i).f1, a, b, c, d) := by
          intro a b c d k
          refine Ev.step (fun k => spec_l8Read.f.eq_2 ..) (ev_iteF c3 (ev_iteT c1 (ev_iteT h0 (ev_iteT c4 ?_))))
          rw [hw]; exact Ev.bind k (Ev.now _)
        rcases hL with ⟨n3, n4, j, e1, e2, j1, j2, z3, z4⟩ | ⟨⟨a, b, c, d, j, e1, j1, j2⟩, ⟨c', d', j', e2, j1', j2'⟩⟩
        · exact .inl ⟨_, _, n3, n4, j, fI e1, fS e2, by omega, j2, by omega, hNS, hp.2.2.1, z3, z4⟩
        · exact .inr ⟨⟨a, b, c, d, j, fI e1, j1, j2⟩, ⟨_, _, c', d', j', fS e2, j1', j2'⟩⟩
      by_cases c5 : (rd_T82 l i).f0 = 3
      · refine .inl ⟨(if (rd_T82 l i).f3 = true then (rd_T82 l i).f2 else ns), (rd_T82 l i).f1, E0, [], i + 1, Ev.step (fun k => impl_nodes_node.f.eq_2 ..) (ev_iteT c1 (ev_iteT h0 (ev_iteF c3 (ev_iteF c4 (ev_iteT c5 ?_))))), Ev.step (fun k => spec_l8Read.f.eq_2 ..) (ev_iteF c3 (ev_iteT c1 (ev_iteT h0 (ev_iteF c4 (ev_iteT c5 ?_))))), by omega, by omega, by omega, hNS, hp.2.2.1, Nat.zero_le _, GT_nil _⟩
        · rw [hw]; exact Ev.now _
        · rw [hw]; exact Ev.now _
      · exact .inr ⟨⟨E0, E0, E0, [], i, Ev.step (fun k => impl_nodes_node.f.eq_2 ..) (ev_iteT c1 (ev_iteT h0 (ev_iteF c3 (ev_iteF c4 (ev_iteF c5 (Ev.now _)))))), h0, by omega⟩, ⟨E0, E0, E0, [], i, Ev.step (fun k => spec_l8Read.f.eq_2 ..) (ev_iteF c3 (ev_iteT c1 (ev_iteT h0 (ev_iteF c4 (ev_iteF c5 (Ev.now _)))))), h0, by omega⟩⟩
    refine ⟨hN, ?_⟩
    intro i deep ns nm tx kids h0 h1 d1 d2 hm hns hpl htx hkl hgt
    by_cases c1 : i < (l.length : Int)
    rotate_left
    · exact .inr (lEnd i deep _ ns nm tx tx kids (by omega) h0 h1 d1 d2)
    have hp := hg _ (rdP_mem h0 c1)
    have hw : wrap64 (i + 1) = i + 1 := wrap_id (by omega) (by omega)
    have fI : ∀ {f : Nat → Option RN} {r}, Ev f r → (∀ k, (if (rd_T82 l i).f0 = 2 then inodeEnd l i (if (kids.length : Int) > 0 then (false || (!blankL (bl tx))) else false) ns nm (if (kids.length : Int) > 0 then E0 else tx) kids else if (rd_T82 l i).f0 = 4 then (if tx.size + (rd_T82 l i).f4.size ≤ 9223372036854775807 then (if (!blankL (bl tx)) = true then impl_nodes_node.l0 k l deep (wrap64 (i + 1)) false true ns nm (tx ++ (rd_T82 l i).f4) kids else (impl_isBlank.f ((rd_T82 l i).f4)).bind fun t => impl_nodes_node.l0 k l deep (wrap64 (i + 1)) false (!t) ns nm (tx ++ (rd_T82 l i).f4) kids) else none) else (impl_nodes_node.f k l i false ns (wrap64 (deep + 1))).bind fun r => (if kids.length < 1954687338268 then impl_nodes_node.l0 k l deep r.2.2.2.2.1 r.2.2.2.2.2 (!blankL (bl tx)) ns nm tx (kids ++ [(⟨r.1, r.2.1, r.2.2.1, r.2.2.2.1⟩ : S24)]) else none)) = f k) → Ev (fun k => impl_nodes_node.l0 k l deep i false (!blankL (bl tx)) ns nm tx kids) r := by
      intro f r k he
      refine Ev.step (fun k => impl_nodes_node.l0.eq_2 ..) (ev_iteT ⟨rfl, c1⟩ (ev_iteT h0 ?_))
      exact Ev.congr he k
    have fS : ∀ {f : Nat → Option RK} {r}, Ev f r → (∀ k, (if (rd_T82 l i).f0 = 2 then (if (kids.length : Int) = 0 then some (tx, kids, wrap64 (i + 1), !((rd_T82 l i).f1.toList == nm.toList)) else (spec_l8Blank.f k tx).bind fun b => some (E0, kids, wrap64 (i + 1), (if b = true then !((rd_T82 l i).f1.toList == nm.toList) else true))) else if (rd_T82 l i).f0 = 4 then (if tx.size + (rd_T82 l i).f4.size ≤ 9223372036854775807 then spec_l8Kids.l0 k l deep (wrap64 (i + 1)) false (tx ++ (rd_T82 l i).f4) ns nm kids else none) else (spec_l8Read.f k l i false ns (wrap64 (deep + 1))).bind fun r => (if kids.length < 1954687338268 then spec_l8Kids.l0 k l deep r.2.2.2.2.1 r.2.2.2.2.2 tx ns nm (kids ++ [(⟨r.1, r.2.1, r.2.2.1, r.2.2.2.1⟩ : S24)]) else none)) = f k) → Ev (fun k => spec_l8Kids.l0 k l deep i false tx ns nm kids) r := by
      intro f r k he
      refine Ev.step (fun k => spec_l8Kids.l0.eq_2 ..) (ev_iteF nofun (ev_iteT c1 (ev_iteT h0 ?_)))
      exact Ev.congr he k
    have htxs : tx.size ≤ 1073741824 := by omega
    by_cases c2 : (rd_T82 l i).f0 = 2
    · -- what closes it
      have hS := specBlankB htxs hpl
      have hend : ∀ b t, inodeEnd l i b ns nm t kids = some (ns, nm, t, kids, i + 1, (if (rd_T82 l i).f1.toList = nm.toList then b else true)) := fun b t => by unfold inodeEnd; rw [if_pos c1, if_pos h0, hw]
      have hq : ∃ q : Bool, ((rd_T82 l i).f1.toList == nm.toList) = q ∧ ∀ b : Bool, (if (rd_T82 l i).f1.toList = nm.toList then b else true) = (!q || b) := by
        by_cases c : (rd_T82 l i).f1.toList = nm.toList
        · exact ⟨true, beq_iff_eq.2 c, fun b => by rw [if_pos c]; rfl⟩
        · exact ⟨false, beq_eq_false_iff_ne.2 c, fun b => by rw [if_neg c]; rfl⟩
      obtain ⟨q, q1, q2⟩ := hq
      by_cases ck : kids = []
      · subst ck
        have hI : Ev (fun k => impl_nodes_node.l0 k l deep i false (!blankL (bl tx)) ns nm tx []) (ns, nm, tx, [], i + 1, !q) :=
          fI (Ev.now _) (fun k => by rw [if_pos c2, hend, q2]; simp)
        have hK : Ev (fun k => spec_l8Kids.l0 k l deep i false tx ns nm []) (tx, [], i + 1, !q) := fS (Ev.now _) (fun k => by rw [if_pos c2, if_pos (by rfl), hw, q1])
        cases q with
        | true => exact .inl ⟨tx, [], i + 1, hI, hK, by omega, by omega, htxs, GT_nil _⟩
        | false => exact .inr ⟨⟨_, _, _, _, _, hI, by omega, by omega⟩, ⟨_, _, _, hK, by omega, by omega⟩⟩
      · have hkp : (kids.length : Int) > 0 := by have := List.length_pos_iff.2 ck; omega
        have hI : Ev (fun k => impl_nodes_node.l0 k l deep i false (!blankL (bl tx)) ns nm tx kids) (ns, nm, E0, kids, i + 1, (!q || !blankL (bl tx))) :=
          fI (Ev.now _) (fun k => by rw [if_pos c2, hend, q2, if_pos hkp, if_pos hkp, Bool.false_or])
        have hK : Ev (fun k => spec_l8Kids.l0 k l deep i false tx ns nm kids) (E0, kids, i + 1, (!q || !blankL (bl tx))) := by
          refine fS (f := fun k => (spec_l8Blank.f k tx).bind fun b => some (E0, kids, i + 1, (if b = true then !q else true))) (Ev.bind hS (ev_cast (Ev.now _) ?_)) (fun k => by rw [if_pos c2, if_neg (by omega), hw, q1])
          cases blankL (bl tx) <;> cases q <;> rfl
        cases hr : (!q || !blankL (bl tx)) with
        | false =>
          rw [hr] at hI hK
          exact .inl ⟨E0, kids, i + 1, hI, hK, by omega, by omega, Nat.zero_le _, hgt⟩
        | true =>
          rw [hr] at hI hK
          exact .inr ⟨⟨_, _, _, _, _, hI, by omega, by omega⟩, ⟨_, _, _, hK, by omega, by omega⟩⟩
    by_cases c4 : (rd_T82 l i).f0 = 4
    · -- a text
      have hsz : tx.size + (rd_T82 l i).f4.size ≤ 9223372036854775807 := by have := hp.2.1; omega
      have hB := implBlank (s := (rd_T82 l i).f4) (by have := hp.2.1; omega)
      have happ : (!blankL (bl (tx ++ (rd_T82 l i).f4))) = (!blankL (bl tx) || !blankL (bl (rd_T82 l i).f4)) := by rw [bl_append, blank_app]; cases blankL (bl tx) <;> rfl
      have hL := ih.2 (i + 1) deep ns nm (tx ++ (rd_T82 l i).f4) kids (by omega) (by omega) d1 d2 (by omega) hns (by rw [bl_append, plain_app, hpl, hp.1]; rfl) (by rw [ByteArray.size_append]; have := hp.2.1; omega) (by omega) hgt
      have gI : ∀ {r}, Ev (fun k => impl_nodes_node.l0 k l deep (i + 1) false (!blankL (bl (tx ++ (rd_T82 l i).f4))) ns nm (tx ++ (rd_T82 l i).f4) kids) r → Ev (fun k => impl_nodes_node.l0 k l deep i false (!blankL (bl tx)) ns nm tx kids) r := by
        intro r k
        refine fI k (fun k => ?_)
        rw [if_neg c2, if_pos c4, if_pos hsz, hw, happ, hB]
        cases blankL (bl tx) <;> rfl
      have gS : ∀ {r}, Ev (fun k => spec_l8Kids.l0 k l deep (i + 1) false (tx ++ (rd_T82 l i).f4) ns nm kids) r → Ev (fun k => spec_l8Kids.l0 k l deep i false tx ns nm kids) r := fun k => fS k (fun k => by rw [if_neg c2, if_pos c4, if_pos hsz, hw])
      rcases hL with ⟨n3, n4, j, e1, e2, j1, j2, z3, z4⟩ | ⟨⟨a, b, c, d, j, e1, j1, j2⟩, ⟨c', d', j', e2, j1', j2'⟩⟩
      · exact .inl ⟨n3, n4, j, gI e1, gS e2, by omega, j2, z3, z4⟩
      · exact .inr ⟨⟨a, b, c, d, j, gI e1, j1, j2⟩, ⟨c', d', j', gS e2, j1', j2'⟩⟩
    · -- a kid
      have hwd : wrap64 (deep + 1) = deep + 1 := wrap_id (by omega) (by omega)
      have hkm : kids.length < 1954687338268 := by omega
      rcases hN i (deep + 1) ns h0 h1 (by omega) (by omega) hm hns with ⟨n1, n2, n3, n4, j, e1, e2, j1, j2, jd, z1, z2, z3, z4⟩ | ⟨⟨a, b, c, d, j, e1, j1, j2⟩, ⟨a', b', c', d', j', e2, j1', j2'⟩⟩
      · have hd1 : (5 - deep).toNat = (5 - (deep + 1)).toNat + 1 := by omega
        have hgt' : GT (5 - deep).toNat (kids ++ [(⟨n1, n2, n3, n4⟩ : S24)]) := by
          rw [hd1] at hgt ⊢
          exact GT_snoc hgt (by omega) ⟨z1, z2, z3, z4⟩
        have hL := ih.2 j deep ns nm tx (kids ++ [(⟨n1, n2, n3, n4⟩ : S24)]) (by omega) (by omega) d1 d2 (by omega) hns hpl (by omega) (by simp only [List.length_append, List.length_cons, List.length_nil]; omega) hgt'
        have gI : ∀ {r}, Ev (fun k => impl_nodes_node.l0 k l deep j false (!blankL (bl tx)) ns nm tx (kids ++ [(⟨n1, n2, n3, n4⟩ : S24)])) r → Ev (fun k => impl_nodes_node.l0 k l deep i false (!blankL (bl tx)) ns nm tx kids) r := by
          intro r k
          refine fI (f := fun k => (impl_nodes_node.f k l i false ns (deep + 1)).bind fun r => (if kids.length < 1954687338268 then impl_nodes_node.l0 k l deep r.2.2.2.2.1 r.2.2.2.2.2 (!blankL (bl tx)) ns nm tx (kids ++ [(⟨r.1, r.2.1, r.2.2.1, r.2.2.2.1⟩ : S24)]) else none)) (Ev.bind e1 (ev_iteT hkm k)) (fun k => by rw [if_neg c2, if_neg c4, hwd])
        have gS : ∀ {r}, Ev (fun k => spec_l8Kids.l0 k l deep j false tx ns nm (kids ++ [(⟨n1, n2, n3, n4⟩ : S24)])) r → Ev (fun k => spec_l8Kids.l0 k l deep i false tx ns nm kids) r := by
          intro r k
          refine fS (f := fun k => (spec_l8Read.f k l i false ns (deep + 1)).bind fun r => (if kids.length < 1954687338268 then spec_l8Kids.l0 k l deep r.2.2.2.2.1 r.2.2.2.2.2 tx ns nm (kids ++ [(⟨r.1, r.2.1, r.2.2.1, r.2.2.2.1⟩ : S24)]) else none)) (Ev.bind e2 (ev_iteT hkm k)) (fun k => by rw [if_neg c2, if_neg c4, hwd])
        rcases hL with ⟨m3, m4, j', f1, f2, k1, k2, y3, y4⟩ | ⟨⟨a, b, c, d, j', f1, k1, k2⟩, ⟨c', d', j'', f2, k1', k2'⟩⟩
        · exact .inl ⟨m3, m4, j', gI f1, gS f2, by omega, k2, y3, y4⟩
        · exact .inr ⟨⟨a, b, c, d, j', gI f1, k1, k2⟩, ⟨c', d', j'', gS f2, k1', k2'⟩⟩
      · refine .inr ⟨⟨ns, nm, E0, kids ++ [(⟨a, b, c, d⟩ : S24)], j + 1, ?_, by omega, by omega⟩, ⟨E0, kids ++ [(⟨a', b', c', d'⟩ : S24)], j', ?_, j1', by omega⟩⟩
        · refine fI (f := fun k => (impl_nodes_node.f k l i false ns (deep + 1)).bind fun r => (if kids.length < 1954687338268 then impl_nodes_node.l0 k l deep r.2.2.2.2.1 r.2.2.2.2.2 (!blankL (bl tx)) ns nm tx (kids ++ [(⟨r.1, r.2.1, r.2.2.1, r.2.2.2.1⟩ : S24)]) else none)) (Ev.bind e1 (ev_iteT hkm ?_)) (fun k => by rw [if_neg c2, if_neg c4, hwd])
          have hkp : (((kids ++ [(⟨a, b, c, d⟩ : S24)]).length : Nat) : Int) > 0 := by simp only [List.length_append, List.length_cons, List.length_nil]; omega
          refine Ev.step (fun k => impl_nodes_node.l0.eq_2 ..) (ev_iteF (fun h => by cases h.1) ?_)
          exact Ev.congr (fun k => by show inodeEnd _ _ _ _ _ _ _ = _; rw [if_pos hkp, if_pos hkp, Bool.true_or, endBad j1 (by omega)]) (Ev.now _)
        · refine fS (f := fun k => (spec_l8Read.f k l i false ns (deep + 1)).bind fun r => (if kids.length < 1954687338268 then spec_l8Kids.l0 k l deep r.2.2.2.2.1 r.2.2.2.2.2 tx ns nm (kids ++ [(⟨r.1, r.2.1, r.2.2.1, r.2.2.2.1⟩ : S24)]) else none)) (Ev.bind e2 (ev_iteT hkm ?_)) (fun k => by rw [if_neg c2, if_neg c4, hwd])
          exact Ev.step (fun k => spec_l8Kids.l0.eq_2 ..) (ev_iteT rfl (Ev.now _))
end
end Go.Proofs.YtegkokdncakadaaGreatDoor.L

/- Marked trees: what is right, as the reference and the program count it. No condition. -/
set_option linter.unusedSimpArgs false
set_option linter.unusedVariables false
namespace Go.Proofs.YtegkokdncakadaaGreatDoor.L
open Go.RowKit Go.Proofs.YtegkokdncakadaaGreatDoorW.PrintWords Go.Proofs.YtegkokdncakadaaGreatDoorW.PrintLast Go.Proofs.YtegkokdncakadaaGreatDoor.Q
theorem rd_nd {l pre suf : List S24} {a : S24} (h : l = pre ++ a :: suf) : rd_T24 l (pre.length : Int) = a := getD_at _ h
def OkB (m : Nat) (f : Nat → Option (Int × Bool)) (g : Nat → Option Int) : Prop := ∃ c ok t, Ev f (c, ok) ∧ Ev g t ∧ 0 ≤ t ∧ t ≤ 100 + 20 * (m : Int) ∧ (ok = true → t = c ∧ 1 ≤ c ∧ c ≤ 20) ∧ (ok = false → 20 < t)
def pOk (a b c : ByteArray) : Bool := !decide ((a.size : Int) > 20) && (plainL (bl a) && (smallName b && (!decide ((c.size : Int) > 60) && plainL (bl c))))
def vOk (c : ByteArray) (l : List S24) : Bool := if c.toList = [] then false else decide ((l.length : Int) > 0)
section
variable {a b c : ByteArray} {deep : Int} {l : List S24}
theorem iBadJ : Ev (fun k => impl_nodeOk.j0 k deep true a b c l) (0, false) := Ev.step (fun k => impl_nodeOk.j0.eq_2 ..) (ev_iteT rfl (Ev.now _))
theorem sBadJ : Ev (fun k => spec_l8Count.j0 k deep true a b c l) 100 := Ev.step (fun k => spec_l8Count.j0.eq_2 ..) (ev_iteT rfl (Ev.now _))
theorem vJ {α : Type} {f : Nat → Bool → Option α} {r : α} (h : Ev (fun k => f k (vOk c l)) r) : Ev (fun k => if c.toList = ([] : List UInt8) then f k false else f k (decide ((l.length : Int) > 0))) r := by
  unfold vOk at h
  by_cases e : c.toList = []
  · refine ev_iteT e ?_
    simpa only [if_pos e] using h
  · refine ev_iteF e ?_
    simpa only [if_neg e] using h
theorem iOk {r : Int × Bool} (ha : a.size ≤ 1073741824) (hb : b.size ≤ 1073741824) (hc : c.size ≤ 1073741824) (hd : deep ≤ 5) (h1 : pOk a b c = true → Ev (fun k => impl_nodeOk.j0 k deep (vOk c l) a b c l) r) (h0 : pOk a b c = false → r = (0, false)) : Ev (fun k => impl_nodeOk.f k a b c l deep) r := by
  have pa := implPlain (s := a) (by rw [maxLen_eq]; omega)
  have sb := implSmall (s := b) (by rw [maxLen_eq]; omega)
  have pc := implPlain (s := c) (by rw [maxLen_eq]; omega)
  refine Ev.step (fun k => impl_nodeOk.f.eq_2 ..) (ev_iteF (by omega) ?_)
  unfold pOk at h0 h1
  by_cases c1 : (a.size : Int) > 20
  · rw [h0 (by rw [decide_eq_true c1]; rfl)]; exact ev_iteT c1 iBadJ
  rw [decide_eq_false c1] at h0 h1
  refine ev_iteF c1 (Ev.bind pa ?_)
  cases hpa : plainL (bl a) with
  | false => rw [h0 (by rw [hpa]; rfl)]; exact ev_iteF nofun iBadJ
  | true =>
    rw [hpa] at h0 h1
    refine ev_iteT rfl (Ev.bind sb ?_)
    cases hsb : smallName b with
    | false => rw [h0 (by rw [hsb]; rfl)]; exact ev_iteF nofun iBadJ
    | true =>
      rw [hsb] at h0 h1
      refine ev_iteT rfl ?_
      by_cases c2 : (c.size : Int) > 60
      · rw [h0 (by rw [decide_eq_true c2]; rfl)]; exact ev_iteT c2 iBadJ
      rw [decide_eq_false c2] at h0 h1
      refine ev_iteF c2 (Ev.bind pc ?_)
      cases hpc : plainL (bl c) with
      | false => rw [h0 (by rw [hpc]; rfl)]; exact ev_iteF nofun iBadJ
      | true =>
        rw [hpc] at h1
        exact ev_iteT rfl (vJ (f := fun k v => impl_nodeOk.j0 k deep v a b c l) (h1 rfl))
theorem sOk {r : Int} (ha : a.size ≤ 1073741824) (hb : b.size ≤ 1073741824) (hc : c.size ≤ 1073741824) (hd : deep ≤ 5) (h1 : pOk a b c = true → Ev (fun k => spec_l8Count.j0 k deep (vOk c l) a b c l) r) (h0 : pOk a b c = false → r = 100) : Ev (fun k => spec_l8Count.f k a b c l deep) r := by
  have pa := specPlain (s := a) (by rw [maxLen_eq]; omega)
  have sb := specSmall (s := b) (by rw [maxLen_eq]; omega)
  have pc := specPlain (s := c) (by rw [maxLen_eq]; omega)
  refine Ev.step (fun k => spec_l8Count.f.eq_2 ..) (ev_iteF (by omega) (Ev.bind sb ?_))
  unfold pOk at h0 h1
  cases hsb : smallName b with
  | false => rw [h0 (by rw [hsb]; simp)]; exact ev_iteF nofun sBadJ
  | true =>
    rw [hsb] at h0 h1
    refine ev_iteT rfl ?_
    by_cases c1 : (a.size : Int) > 20
    · rw [h0 (by rw [decide_eq_true c1]; rfl)]; exact ev_iteT c1 sBadJ
    rw [decide_eq_false c1] at h0 h1
    refine ev_iteF c1 (Ev.bind pa ?_)
    cases hpa : plainL (bl a) with
    | false => rw [h0 (by rw [hpa]; rfl)]; exact ev_iteF nofun sBadJ
    | true =>
      rw [hpa] at h0 h1
      refine ev_iteT rfl ?_
      by_cases c2 : (c.size : Int) > 60
      · rw [h0 (by rw [decide_eq_true c2]; rfl)]; exact ev_iteT c2 sBadJ
      rw [decide_eq_false c2] at h0 h1
      refine ev_iteF c2 (Ev.bind pc ?_)
      cases hpc : plainL (bl c) with
      | false => rw [h0 (by rw [hpc]; rfl)]; exact ev_iteF nofun sBadJ
      | true =>
        rw [hpc] at h1
        exact ev_iteT rfl (vJ (f := fun k v => spec_l8Count.j0 k deep v a b c l) (h1 rfl))
theorem okOuter {m : Nat} (ha : a.size ≤ 1073741824) (hb : b.size ≤ 1073741824) (hc : c.size ≤ 1073741824)
    (key : deep ≤ 5 → OkB m (fun k => impl_nodeOk.l0 k deep 1 l (l.length : Int) 0) (fun k => spec_l8Count.l0 k deep 1 0 a b c l)) : OkB m (fun k => impl_nodeOk.f k a b c l deep) (fun k => spec_l8Count.f k a b c l deep) := by
  have bad : ∀ {f : Nat → Option (Int × Bool)} {g : Nat → Option Int}, Ev f (0, false) → Ev g 100 → OkB m f g := fun h1 h2 => ⟨0, false, 100, h1, h2, by omega, by omega, nofun, fun _ => by omega⟩
  by_cases hd : deep > 5
  · exact bad (Ev.step (fun k => impl_nodeOk.f.eq_2 ..) (ev_iteT hd iBadJ)) (Ev.step (fun k => spec_l8Count.f.eq_2 ..) (ev_iteT hd sBadJ))
  cases hp : pOk a b c with
  | false => exact bad (iOk ha hb hc (by omega) (fun h => absurd (hp.symm.trans h) nofun) (fun _ => rfl)) (sOk ha hb hc (by omega) (fun h => absurd (hp.symm.trans h) nofun) (fun _ => rfl))
  | true =>
    cases hv : vOk c l with
    | true => exact bad (iOk ha hb hc (by omega) (fun _ => by rw [hv]; exact iBadJ) (fun h => absurd (hp.symm.trans h) nofun)) (sOk ha hb hc (by omega) (fun _ => by rw [hv]; exact sBadJ) (fun h => absurd (hp.symm.trans h) nofun))
    | false =>
      obtain ⟨x, ok, t, e1, e2, h⟩ := key (by omega)
      refine ⟨x, ok, t, iOk ha hb hc (by omega) (fun _ => ?_) (fun h => absurd (hp.symm.trans h) nofun), sOk ha hb hc (by omega) (fun _ => ?_) (fun h => absurd (hp.symm.trans h) nofun), h⟩
      · rw [hv]; exact Ev.step (fun k => impl_nodeOk.j0.eq_2 ..) (ev_iteF nofun e1)
      · rw [hv]; exact Ev.step (fun k => spec_l8Count.j0.eq_2 ..) (ev_iteF nofun e2)
end
theorem okBoth : ∀ (m : Nat) (l : List S24), GT m l → m ≤ 1000 → ∀ (a b c : ByteArray) (deep : Int), a.size ≤ 1073741824 → b.size ≤ 1073741824 → c.size ≤ 1073741824 → 1 ≤ deep → deep ≤ 6 →
    OkB m (fun k => impl_nodeOk.f k a b c l deep) (fun k => spec_l8Count.f k a b c l deep) := by
  intro m
  induction m with
  | zero =>
    intro l hg hm a b c deep ha hb hc d1 d2
    obtain rfl : l = [] := hg
    exact okOuter ha hb hc (fun _ => ⟨1, true, 1, Ev.step (fun k => impl_nodeOk.l0.eq_2 ..) (ev_iteF (by simp) (Ev.now _)), Ev.step (fun k => spec_l8Count.l0.eq_2 ..) (ev_iteF (by simp) (Ev.now _)), by omega, by omega, fun _ => ⟨rfl, by omega, by omega⟩, nofun⟩)
  | succ m ih =>
    intro l hg hm a b c deep ha hb hc d1 d2
    refine okOuter ha hb hc (fun hd => ?_)
    have hl : l.length ≤ maxLen := by have := hg.1; rw [maxLen_eq]; omega
    have hwd : wrap64 (deep + 1) = deep + 1 := wrap_id (by omega) (by omega)
    have key : ∀ (suf pre : List S24) (c0 : Int), l = pre ++ suf → 1 ≤ c0 → c0 ≤ 20 → OkB (m + 1) (fun k => impl_nodeOk.l0 k deep c0 l (l.length : Int) pre.length) (fun k => spec_l8Count.l0 k deep c0 pre.length a b c l) := by
      intro suf
      induction suf with
      | nil =>
        intro pre c0 h h1 h2
        exact ⟨c0, true, c0, Ev.step (fun k => impl_nodeOk.l0.eq_2 ..) (ev_iteF (end_at h) (Ev.now _)), Ev.step (fun k => spec_l8Count.l0.eq_2 ..) (ev_iteF (end_at h) (Ev.now _)), by omega, by omega, fun _ => ⟨rfl, h1, h2⟩, nofun⟩
      | cons x suf ihs =>
        intro pre c0 h h1 h2
        obtain ⟨g0, g1, g2, g3⟩ := hg.2 x (by rw [h]; simp)
        obtain ⟨c', ok', t', e1, e2, t0, t1, y1, y2⟩ := ih x.f3 g3 (by omega) x.f0 x.f1 x.f2 (deep + 1) g0 g1 g2 (by omega) (by omega)
        have fI : ∀ {r}, Ev (fun k => if ok' = true then (if (wrap64 (c0 + c')) > 20 then (some ((0 : Int), false)) else (impl_nodeOk.l0 k deep (wrap64 (c0 + c')) l (l.length : Int) (pre ++ [x]).length)) else (some (0, false))) r → Ev (fun k => impl_nodeOk.l0 k deep c0 l (l.length : Int) pre.length) r := by
          intro r k
          refine Ev.step (fun k => impl_nodeOk.l0.eq_2 ..) (ev_iteT (lt_at h) (ev_iteT (nonneg_at _) (ev_iteT (lt_at h) ?_)))
          rw [rd_nd h, next_at h hl, hwd]
          exact Ev.bind e1 k
        have fS : ∀ {r}, Ev (fun k => spec_l8Count.l0 k deep (wrap64 (c0 + t')) (pre ++ [x]).length a b c l) r → Ev (fun k => spec_l8Count.l0 k deep c0 pre.length a b c l) r := by
          intro r k
          refine Ev.step (fun k => spec_l8Count.l0.eq_2 ..) (ev_iteT (lt_at h) (ev_iteT h2 (ev_iteT (nonneg_at _) ?_)))
          rw [rd_nd h, next_at h hl, hwd]
          exact Ev.bind e2 k
        have hws : wrap64 (c0 + t') = c0 + t' := wrap_id (by omega) (by omega)
        rw [hws] at fS
        have big : c0 + t' > 20 → Ev (fun k => spec_l8Count.l0 k deep c0 pre.length a b c l) (c0 + t') := by
          intro hb
          refine fS (Ev.step (fun k => spec_l8Count.l0.eq_2 ..) ?_)
          by_cases e : (((pre ++ [x]).length : Nat) : Int) < (l.length : Int)
          · exact ev_iteT e (ev_iteF (by omega) (Ev.now _))
          · exact ev_iteF e (Ev.now _)
        cases ok' with
        | false =>
          have := y2 rfl
          exact ⟨0, false, c0 + t', fI (ev_iteF nofun (Ev.now _)), big (by omega), by omega, by omega, nofun, fun _ => by omega⟩
        | true =>
          obtain ⟨rfl, z1, z2⟩ := y1 rfl
          rw [hws] at fI
          by_cases e : c0 + t' > 20
          · exact ⟨0, false, c0 + t', fI (ev_iteT rfl (ev_iteT e (Ev.now _))), big e, by omega, by omega, nofun, fun _ => by omega⟩
          · obtain ⟨c2, ok2, t2, q1, q2, q3⟩ := ihs (pre ++ [x]) (c0 + t') (snoc_at h) (by omega) (by omega)
            exact ⟨c2, ok2, t2, fI (ev_iteT rfl (ev_iteF e q1)), fS q2, q3⟩
    exact key l [] 1 rfl (by omega) (by omega)
theorem nodeOkBoth {m : Nat} {l : List S24} (hg : GT m l) (hm : m ≤ 1000) {a b c : ByteArray} (ha : a.size ≤ 1073741824) (hb : b.size ≤ 1073741824) (hc : c.size ≤ 1073741824) :
    ∃ ok : Bool, Ev (fun k => impl_NodeOk.f k a b c l) ok ∧ Ev (fun k => spec_NodeOk.f k a b c l) ok := by
  obtain ⟨x, ok, t, e1, e2, _, _, y1, y2⟩ := okBoth m l hg hm a b c 1 ha hb hc (by omega) (by omega)
  refine ⟨ok, ?_, ?_⟩
  · unfold impl_NodeOk.f; exact Ev.bind e1 (Ev.now _)
  · unfold spec_NodeOk.f
    refine Ev.bind e2 (ev_cast (Ev.now _) ?_)
    cases ok with
    | true => exact decide_eq_true (by have := y1 rfl; omega)
    | false => exact decide_eq_false (by have := y2 rfl; omega)
end Go.Proofs.YtegkokdncakadaaGreatDoor.L

/- Marked trees: ParseNode of both. No condition. -/
set_option linter.unusedSimpArgs false
set_option linter.unusedVariables false
namespace Go.Proofs.YtegkokdncakadaaGreatDoor.L
open Go.RowKit Go.Proofs.YtegkokdncakadaaGreatDoorW.PrintWords Go.Proofs.YtegkokdncakadaaGreatDoorW.PrintLast Go.Proofs.YtegkokdncakadaaGreatDoor.Q
theorem parseBoth {s : ByteArray} (hs : s.size ≤ 1048576) : ∃ (n1 n2 n3 : ByteArray) (n4 : List S24) (ok : Bool), Ev (fun k => impl_ParseNode.f k s) (n1, n2, n3, n4, ok) ∧ Ev (fun k => spec_ParseNode.f k s) (n1, n2, n3, n4, ok) ∧
    n1.size ≤ 1073741824 ∧ n2.size ≤ 1073741824 ∧ n3.size ≤ 1073741824 ∧ GT 4 n4 ∧ (ok = true → Ev (fun k => impl_NodeOk.f k n1 n2 n3 n4) true) := by
  obtain ⟨l, ok, p1, p2, hl, hg, hz⟩ := piecesBoth hs
  obtain ⟨i, i1, i2, i3, b1, b2⟩ := skipBoth hl hg 100 0 (by omega) (by omega) (by omega)
  have hi := i3 (by omega)
  have no : ∀ {a b c : ByteArray} {d : List S24} {j : Int}, Ev (fun k => impl_nodes_node.f k l i false E0 1) (a, b, c, d, j, true) → 0 ≤ j → j ≤ (l.length : Int) + 7 - 1 → Ev (fun k => impl_ParseNode.f k s) (E0, E0, E0, [], false) := by
    intro a b c d j e j1 j2
    obtain ⟨j', _, _, _, q1, _⟩ := skipBoth hl hg 100 j j1 (by omega) (by omega)
    unfold impl_ParseNode.f
    exact Ev.bind p2 (Ev.bind b1 (Ev.bind e (Ev.bind q1 (ev_iteT (.inr rfl) (Ev.now _)))))
  have noS : ∀ {a b c : ByteArray} {d : List S24} {j : Int}, Ev (fun k => spec_l8Read.f k l i (!ok) E0 1) (a, b, c, d, j, true) → 0 ≤ j → j ≤ (l.length : Int) + 7 - 1 → Ev (fun k => spec_ParseNode.f k s) (E0, E0, E0, [], false) := by
    intro a b c d j e j1 j2
    obtain ⟨j', _, _, _, _, q1⟩ := skipBoth hl hg 100 j j1 (by omega) (by omega)
    unfold spec_ParseNode.f
    exact Ev.bind p1 (Ev.bind b2 (Ev.bind e (Ev.bind q1 (ev_iteT rfl (Ev.now _)))))
  cases ok with
  | false =>
    obtain rfl := hz rfl
    simp only [List.length_nil] at hi
    obtain rfl : i = 0 := by omega
    refine ⟨E0, E0, E0, [], false, no (a := E0) (b := E0) (c := E0) (d := []) (j := 0) (Ev.step (fun k => impl_nodes_node.f.eq_2 ..) (ev_iteF (by simp) (Ev.now _))) (by omega) (by simp), noS (a := E0) (b := E0) (c := E0) (d := []) (j := 0) (Ev.step (fun k => spec_l8Read.f.eq_2 ..) (ev_iteF (by omega) (ev_iteF (by simp) (Ev.now _)))) (by omega) (by simp), Nat.zero_le _, Nat.zero_le _, Nat.zero_le _, GT_nil _, nofun⟩
  | true =>
    have hN := (readers hl hg 100).1 i 1 E0 i1 hi (by omega) (by omega) (by omega) (Nat.zero_le _)
    rcases hN with ⟨n1, n2, n3, n4, j, e1, e2, j1, j2, _, z1, z2, z3, z4⟩ | ⟨⟨a, b, c, d, j, e1, j1, j2⟩, ⟨a', b', c', d', j', e2, j1', j2'⟩⟩
    · obtain ⟨j', k1, k2, k3, q1, q2⟩ := skipBoth hl hg 100 j (by omega) (by omega) (by omega)
      have z4' : GT 4 n4 := z4
      by_cases c : j' = (l.length : Int)
      · obtain ⟨b, o1, o2⟩ := nodeOkBoth z4' (by omega) z1 z2 z3
        have fI : ∀ {r}, Ev (fun k => (if b = true then some (n1, n2, n3, n4, true) else some (E0, E0, E0, [], false))) r → Ev (fun k => impl_ParseNode.f k s) r := by
          intro r k
          unfold impl_ParseNode.f
          exact Ev.bind p2 (Ev.bind b1 (Ev.bind e1 (Ev.bind q1 (ev_iteF (fun h => by rcases h with h | h <;> cases h) (ev_iteT c (Ev.bind o1 k))))))
        have fS : ∀ {r}, Ev (fun k => (if b = true then some (n1, n2, n3, n4, true) else some (E0, E0, E0, [], false))) r → Ev (fun k => spec_ParseNode.f k s) r := by
          intro r k
          unfold spec_ParseNode.f
          exact Ev.bind p1 (Ev.bind b2 (Ev.bind e2 (Ev.bind q2 (ev_iteF nofun (ev_iteT c (Ev.bind o2 k))))))
        cases b with
        | true => exact ⟨n1, n2, n3, n4, true, fI (Ev.now _), fS (Ev.now _), z1, z2, z3, z4', fun _ => o1⟩
        | false => exact ⟨E0, E0, E0, [], false, fI (Ev.now _), fS (Ev.now _), Nat.zero_le _, Nat.zero_le _, Nat.zero_le _, GT_nil _, nofun⟩
      · refine ⟨E0, E0, E0, [], false, ?_, ?_, Nat.zero_le _, Nat.zero_le _, Nat.zero_le _, GT_nil _, nofun⟩
        · unfold impl_ParseNode.f
          exact Ev.bind p2 (Ev.bind b1 (Ev.bind e1 (Ev.bind q1 (ev_iteF (fun h => by rcases h with h | h <;> cases h) (ev_iteF c (Ev.now _))))))
        · unfold spec_ParseNode.f
          exact Ev.bind p1 (Ev.bind b2 (Ev.bind e2 (Ev.bind q2 (ev_iteF nofun (ev_iteF c (Ev.now _))))))
    · exact ⟨E0, E0, E0, [], false, no e1 j1 j2, noS e2 j1' j2', Nat.zero_le _, Nat.zero_le _, Nat.zero_le _, GT_nil _, nofun⟩
end Go.Proofs.YtegkokdncakadaaGreatDoor.L

/- The laws' marks on lists of texts: what they write, and that it is found again. No condition. -/
set_option linter.unusedSimpArgs false
set_option linter.unusedVariables false
namespace Go.Proofs.YtegkokdncakadaaGreatDoor.L
open Go.RowKit Go.Proofs.YtegkokdncakadaaGreatDoorW.PrintWords Go.Proofs.YtegkokdncakadaaGreatDoorW.PrintLast Go.Proofs.YtegkokdncakadaaGreatDoor.Q
theorem strOfNums_size (n : Int) : (strOfNums [n]).size = 1 := rfl
theorem mark_loop : ∀ (d : Nat) (k : Nat) (i : Int) (s : ByteArray), 0 ≤ i → i < 10 ^ d → i < 9223372036854775808 → d < k → s.size + d + 1 ≤ 9223372036854775807 → ∃ t, laws_markText.l0 k i s = some t := by
  intro d
  induction d with
  | zero =>
    intro k i s h0 h1 hb hk hs
    obtain ⟨k, rfl⟩ : ∃ m, k = m + 1 := ⟨k - 1, by omega⟩
    simp only [laws_markText.l0]
    rw [if_neg (by simp at h1; omega), if_pos (by omega)]
    exact ⟨_, rfl⟩
  | succ d ih =>
    intro k i s h0 h1 hb hk hs
    obtain ⟨k, rfl⟩ : ∃ m, k = m + 1 := ⟨k - 1, by omega⟩
    simp only [laws_markText.l0, Option.bind_some]
    by_cases hi : i > 0
    · rw [if_pos hi, if_pos (by rw [strOfNums_size]; omega)]
      have hd : Int.tdiv i 10 = i / 10 := Int.tdiv_eq_ediv_of_nonneg h0
      have hq : 0 ≤ i / 10 ∧ i / 10 ≤ i := ⟨by omega, by omega⟩
      rw [hd, wrap_id (by omega) (by omega)]
      refine ih k _ _ hq.1 ?_ (by omega) (by omega) ?_
      · rw [Int.pow_succ] at h1; omega
      · rw [ByteArray.size_append, strOfNums_size]; omega
    · rw [if_neg hi, if_pos (by omega)]
      exact ⟨_, rfl⟩
theorem mark_some {i : Int} (h0 : 0 ≤ i) (h1 : i < 1152921504606846976) : ∃ t, ∀ k, 32 ≤ k → laws_markText.f k i = some t := by
  have h : ∃ t, laws_markText.f 32 i = some t := by
    unfold laws_markText.f
    by_cases e : i ≤ 0
    · rw [if_pos e]; exact ⟨_, rfl⟩
    · rw [if_neg e]
      exact mark_loop 19 32 i _ h0 (by omega) (by omega) (by omega) (by show 0 + 19 + 1 ≤ _; omega)
  obtain ⟨t, ht⟩ := h
  exact ⟨t, fun k hk => at_rounds (fun k => laws_markText.mono i k) hk ht⟩
noncomputable def mt (i : Int) : ByteArray := by
  classical
  exact if h : 0 ≤ i ∧ i < 1152921504606846976 then Classical.choose (mark_some h.1 h.2) else ⟨#[]⟩
theorem mt_spec {i : Int} (h0 : 0 ≤ i) (h1 : i < 1152921504606846976) {k : Nat} (hk : 32 ≤ k) : laws_markText.f k i = some (mt i) := by
  unfold mt
  rw [dif_pos ⟨h0, h1⟩]
  exact Classical.choose_spec (mark_some h0 h1) k hk
theorem mt_ev {i : Int} (h0 : 0 ≤ i) (h1 : i < 1152921504606846976) : Ev (fun k => laws_markText.f k i) (mt i) := ⟨32, fun _ hk => mt_spec h0 h1 hk⟩
end Go.Proofs.YtegkokdncakadaaGreatDoor.L

/- Nodes: what is equal, what marks write, and that it is found again. No condition. -/
set_option linter.unusedSimpArgs false
set_option linter.unusedVariables false
namespace Go.Proofs.YtegkokdncakadaaGreatDoor.L
open Go.RowKit Go.Proofs.YtegkokdncakadaaGreatDoorW.PrintWords Go.Proofs.YtegkokdncakadaaGreatDoorW.PrintLast Go.Proofs.YtegkokdncakadaaGreatDoor.Q
theorem rd_implNode {l pre suf : List S24} {a : S24} (h : l = pre ++ a :: suf) : rd_T24 l (pre.length : Int) = a := getD_at _ h
def SmT : Nat → List S24 → Prop
  | 0, l => l = []
  | n + 1, l => l.length ≤ 1048576 ∧ ∀ a ∈ l, SmT n a.f3
def cntT : Nat → List S24 → Int
  | 0, _ => 0
  | n + 1, l => (l.map (fun a => 3 + cntT n a.f3)).sum
theorem cntT_nonneg : ∀ (n : Nat) (l : List S24), 0 ≤ cntT n l
  | 0, _ => Int.le_refl _
  | n + 1, l => by
    unfold cntT
    induction l with
    | nil => simp
    | cons a l ih =>
      have := cntT_nonneg n a.f3
      rw [List.map_cons, List.sum_cons]
      omega
theorem mhT : ∀ (n : Nat) (l : List S24) (i : Int), SmT n l → 0 ≤ i → i + cntT n l ≤ 70368744177664 →
    ∃ l', l'.length = l.length ∧ Ev (fun k => laws_markNodeS.l0 k l i 0) (i + cntT n l, l') ∧ Ev (fun k => laws_heldNodeS.l0 k l' i 0) (i + cntT n l) := by
  intro n
  induction n with
  | zero =>
    intro l i hs h0 h1
    obtain rfl : l = [] := hs
    refine ⟨[], rfl, ?_, ?_⟩
    · refine Ev.step (fun k => laws_markNodeS.l0.eq_2 ..) ?_
      simp only [List.length_nil, Int.natCast_zero, Int.lt_irrefl, if_false, cntT, Int.add_zero]
      exact Ev.now _
    · refine Ev.step (fun k => laws_heldNodeS.l0.eq_2 ..) ?_
      simp only [List.length_nil, Int.natCast_zero, Int.lt_irrefl, if_false, cntT, Int.add_zero]
      exact Ev.now _
  | succ n ihn =>
    intro l i hs h0 h1
    obtain ⟨hl, hk⟩ := hs
    have key : ∀ (suf : List S24) (i : Int), (∀ a ∈ suf, SmT n a.f3) → 0 ≤ i → i + cntT (n + 1) suf ≤ 70368744177664 → ∃ suf', suf'.length = suf.length ∧
        (∀ pre : List S24, (pre ++ suf).length ≤ 1048576 → Ev (fun k => laws_markNodeS.l0 k (pre ++ suf) i pre.length) (i + cntT (n + 1) suf, pre ++ suf')) ∧
        (∀ pre : List S24, (pre ++ suf').length ≤ 1048576 → Ev (fun k => laws_heldNodeS.l0 k (pre ++ suf') i pre.length) (i + cntT (n + 1) suf)) := by
      intro suf
      induction suf with
      | nil =>
        intro i _ h0 h1
        refine ⟨[], rfl, fun pre hp => ?_, fun pre hp => ?_⟩
        · refine Ev.step (fun k => laws_markNodeS.l0.eq_2 ..) ?_
          simp only [List.append_nil, Int.lt_irrefl, if_false, cntT, List.map_nil, List.sum_nil, Int.add_zero]
          exact Ev.now _
        · refine Ev.step (fun k => laws_heldNodeS.l0.eq_2 ..) ?_
          simp only [List.append_nil, Int.lt_irrefl, if_false, cntT, List.map_nil, List.sum_nil, Int.add_zero]
          exact Ev.now _
      | cons a suf ih =>
        intro i hp h0 h1
        have hc : cntT (n + 1) (a :: suf) = 3 + cntT n a.f3 + cntT (n + 1) suf := by
          show ((a :: suf).map (fun a => 3 + cntT n a.f3)).sum = _
          rw [List.map_cons, List.sum_cons]; rfl
        have c0 := cntT_nonneg n a.f3
        have c1 := cntT_nonneg (n + 1) suf
        rw [hc] at h1 ⊢
        have w1 : wrap64 (i + 1) = i + 1 := wrap_id (by omega) (by omega)
        have w2 : wrap64 (i + 1 + 1) = i + 1 + 1 := wrap_id (by omega) (by omega)
        have w3 : wrap64 (i + 1 + 1 + 1) = i + 1 + 1 + 1 := wrap_id (by omega) (by omega)
        obtain ⟨kids', _, hmk, hhd⟩ := ihn a.f3 (i + 1 + 1 + 1) (hp a (by simp)) (by omega) (by omega)
        obtain ⟨suf', hl', hmk2, hhd2⟩ := ih (i + 1 + 1 + 1 + cntT n a.f3) (fun x hx => hp x (by simp [hx])) (by omega) (by omega)
        have he : i + (3 + cntT n a.f3 + cntT (n + 1) suf) = i + 1 + 1 + 1 + cntT n a.f3 + cntT (n + 1) suf := by omega
        rw [he]
        refine ⟨⟨mt i, mt (i + 1), mt (i + 1 + 1), kids'⟩ :: suf', by simp [hl'], fun pre hpre => ?_, fun pre hpre => ?_⟩
        · have h : pre ++ a :: suf = pre ++ a :: suf := rfl
          have hx : (pre ++ a :: suf).length ≤ maxLen := by rw [maxLen_eq]; omega
          refine Ev.step (fun k => laws_markNodeS.l0.eq_2 ..) ?_
          simp only [if_pos (lt_at h), if_pos (nonneg_at _), rd_implNode h, w1, w2, w3]
          refine Ev.bind (mt_ev (by omega) (by omega)) ?_
          refine Ev.bind (mt_ev (by omega) (by omega)) ?_
          refine Ev.bind (mt_ev (by omega) (by omega)) ?_
          refine Ev.bind hmk ?_
          simp only [set_at h, next_at h hx]
          have := hmk2 (pre ++ [⟨mt i, mt (i + 1), mt (i + 1 + 1), kids'⟩]) (by simp at hpre ⊢; omega)
          simpa using this
        · have h : pre ++ (⟨mt i, mt (i + 1), mt (i + 1 + 1), kids'⟩ : S24) :: suf' = pre ++ (⟨mt i, mt (i + 1), mt (i + 1 + 1), kids'⟩ : S24) :: suf' := rfl
          have hx : (pre ++ (⟨mt i, mt (i + 1), mt (i + 1 + 1), kids'⟩ : S24) :: suf').length ≤ maxLen := by rw [maxLen_eq]; omega
          refine Ev.step (fun k => laws_heldNodeS.l0.eq_2 ..) ?_
          simp only [if_pos (lt_at h), if_pos (nonneg_at _), rd_implNode h, w1, w2, w3]
          refine Ev.bind (mt_ev (by omega) (by omega)) ?_
          simp only [if_true]
          refine Ev.bind (mt_ev (by omega) (by omega)) ?_
          simp only [if_true]
          refine Ev.bind (mt_ev (by omega) (by omega)) ?_
          simp only [if_true]
          refine Ev.bind (Ev.step (fun k => laws_heldNodeS.f.eq_2 ..) hhd) ?_
          simp only [if_neg (show ¬ i + 1 + 1 + 1 + cntT n a.f3 < 0 by omega), next_at h hx]
          have := hhd2 (pre ++ [⟨mt i, mt (i + 1), mt (i + 1 + 1), kids'⟩]) (by simp at hpre ⊢; omega)
          simpa using this
    obtain ⟨l', e1, e2, e3⟩ := key l i hk h0 h1
    refine ⟨l', e1, ?_, ?_⟩
    · simpa using e2 [] (by simpa using hl)
    · simpa using e3 [] (by simpa [e1] using hl)
theorem eqT0 : ∀ (n : Nat) (l : List S24), SmT n l → Ev (fun k => laws_eqNodeS.l0 k l l 0) true := by
  intro n
  induction n with
  | zero =>
    intro l hs
    obtain rfl : l = [] := hs
    refine Ev.step (fun k => laws_eqNodeS.l0.eq_2 ..) ?_
    simp only [List.length_nil, Int.natCast_zero, Int.lt_irrefl, if_false]
    exact Ev.now _
  | succ n ihn =>
    intro l hs
    obtain ⟨hl, hk⟩ := hs
    have hx : l.length ≤ maxLen := by rw [maxLen_eq]; omega
    have key : ∀ (suf pre : List S24), l = pre ++ suf → Ev (fun k => laws_eqNodeS.l0 k l l pre.length) true := by
      intro suf
      induction suf with
      | nil =>
        intro pre h
        refine Ev.step (fun k => laws_eqNodeS.l0.eq_2 ..) ?_
        simp only [if_neg (end_at h)]
        exact Ev.now _
      | cons a suf ih =>
        intro pre h
        refine Ev.step (fun k => laws_eqNodeS.l0.eq_2 ..) ?_
        simp only [if_pos (lt_at h), if_pos (nonneg_at _), rd_implNode h, eqNode_, if_true, next_at h hx]
        have h1 : Ev (fun k => (laws_eqNodeS.l0 k a.f3 a.f3 0).bind fun t => if t = true then some true else some false) true := Ev.bind (ihn a.f3 (hk a (by rw [h]; simp))) (by simp only [if_true]; exact Ev.now _)
        refine Ev.bind h1 ?_
        simp only [if_true]
        exact ih (pre ++ [a]) (snoc_at h)
    exact key l [] rfl
theorem eqT {n : Nat} {l : List S24} (h : SmT n l) (a b c : ByteArray) : Ev (fun k => laws_eqNode.f k a b c l a b c l) true := by
  unfold laws_eqNode.f laws_eqNodeS.f
  simp only [if_true]
  exact Ev.bind (eqT0 n l h) (by simp only [if_true]; exact Ev.now _)
end Go.Proofs.YtegkokdncakadaaGreatDoor.L

/- The law FnExactParseNode computes true: the program and the reference say the same, and nothing is shared. No condition. -/
set_option linter.unusedSimpArgs false
set_option linter.unusedVariables false
namespace Go.Proofs.YtegkokdncakadaaGreatDoor.Pure
open Go.RowKit Go.Proofs.YtegkokdncakadaaGreatDoorW.PrintWords Go.Proofs.YtegkokdncakadaaGreatDoorW.PrintLast Go.Proofs.YtegkokdncakadaaGreatDoor.Q Go.Proofs.YtegkokdncakadaaGreatDoor.L
theorem smT_of : ∀ {n : Nat} {l : List S24}, GT n l → SmT n l
  | 0, _, h => h
  | _ + 1, _, h => ⟨by have := h.1; omega, fun a ha => smT_of (h.2 a ha).2.2.2⟩
def cB : Nat → Int
  | 0 => 0
  | n + 1 => 1000 * (3 + cB n)
theorem cB_nonneg : ∀ n, 0 ≤ cB n
  | 0 => Int.le_refl _
  | n + 1 => by have := cB_nonneg n; show 0 ≤ 1000 * (3 + cB n); omega
theorem cnt_le : ∀ {n : Nat} {l : List S24}, GT n l → cntT n l ≤ cB n
  | 0, _, _ => Int.le_refl _
  | n + 1, l, h => by
    have hB := cB_nonneg n
    have key : ∀ (m : List S24), (∀ a ∈ m, GT n a.f3) → (m.map (fun a => 3 + cntT n a.f3)).sum ≤ (m.length : Int) * (3 + cB n) := by
      intro m
      induction m with
      | nil => intro _; simp
      | cons a m ih =>
        intro hm
        have h1 := cnt_le (hm a (by simp))
        have h2 := ih (fun x hx => hm x (by simp [hx]))
        rw [List.map_cons, List.sum_cons, List.length_cons, Int.natCast_add, Int.add_mul]
        omega
    have h1 := key l (fun a ha => (h.2 a ha).2.2.2)
    have h2 : (l.length : Int) * (3 + cB n) ≤ 1000 * (3 + cB n) := Int.mul_le_mul_of_nonneg_right (by have := h.1; omega) (by omega)
    show (l.map (fun a => 3 + cntT n a.f3)).sum ≤ 1000 * (3 + cB n)
    omega
theorem FnExactParseNode : ∀ (x0 : ByteArray), (fun s : ByteArray => s.size ≤ maxLen) x0 → ∃ k, laws_FnExactParseNode.f k x0 = some true := by
  intro x0 g0
  apply Ev.rounds
  unfold laws_FnExactParseNode.f
  by_cases c : (x0.size : Int) > 1048576
  · exact ev_iteT c (Ev.now _)
  refine ev_iteF c ?_
  obtain ⟨n1, n2, n3, n4, ok, e1, e2, _, _, _, hg, _⟩ := parseBoth (s := x0) (by omega)
  have hs := smT_of hg
  have hc := cnt_le hg
  have hc0 := cntT_nonneg 4 n4
  have hcB : cB 4 = 3003003003000 := by decide
  obtain ⟨l3, _, w3, z3⟩ := mhT 4 n4 1 hs (by omega) (by omega)
  have hn : ¬ 1 + cntT 4 n4 < 0 := by omega
  have hm : Ev (fun k => laws_markNode.f k n1 n2 n3 n4 1) (1 + cntT 4 n4, l3) := by
    unfold laws_markNode.f laws_markNodeS.f; exact w3
  have hh : Ev (fun k => laws_heldNode.f k n1 n2 n3 l3 1) (1 + cntT 4 n4) := by
    unfold laws_heldNode.f
    refine Ev.bind (Ev.step (fun k => laws_heldNodeS.f.eq_2 ..) z3) ?_
    simp only [if_neg hn]; exact Ev.now _
  have he := eqT hs n1 n2 n3
  exact Ev.bind e2 (Ev.bind e1 (Ev.bind he (ev_iteT rfl (ev_iteT rfl (Ev.bind hm (Ev.bind hh (ev_iteF hn (ev_iteT rfl (Ev.bind e1 (Ev.bind he (ev_iteT rfl (ev_iteT rfl (Ev.bind hh (ev_iteF hn (ev_iteT rfl (Ev.now _))))))))))))))))
end Go.Proofs.YtegkokdncakadaaGreatDoor.Pure
