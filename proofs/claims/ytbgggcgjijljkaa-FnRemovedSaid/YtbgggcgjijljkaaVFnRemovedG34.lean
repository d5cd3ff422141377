/- Draws of paths and of shelves; drawn shelves are right. No condition. -/
import Derived.Test.YtbgggcgjijljkaaVFnRemovedG22
import Derived.Test.YtbgggcgjijljkaaVFnRemovedG31
import Derived.Test.YtbgggcgjijljkaaVFnRemovedG32
import Derived.Test.YtbgggcgjijljkaaVFnRemovedG33
import Derived.Test.YtbgggcgjijljkaaVFnRemovedG12
import Derived.Test.YtbgggcgjijljkaaVFnRemovedG29
import Derived.Test.YtbgggcgjijljkaaVFnRemovedG30
import Derived.Test.YtbgggcgjijljkaaVFnRemovedG28
set_option linter.unusedSimpArgs false
set_option linter.unusedVariables false
namespace Go.Proofs.Ytbgggcgjijljkaa.L
open Go.RowKit Go.Proofs.YtbgggcgjijljkaaW.PrintWords Go.Proofs.YtbgggcgjijljkaaW.PrintLast Go.Proofs.Ytbgggcgjijljkaa.Q
theorem pathD {b : List Int} {p : Int} (h : Cur b p) (s : Int) {t : List S57} (ht : treeOk t = true) : ∃ l p' s', Ev (fun k => spec_l10Path.f k b p s t) (l, p', s') ∧ SmP 5 l ∧ Cur b p' := by
  have ht12 := (treeOk_iff.1 ht).2.2
  have hdraw : ∀ {q : Int}, Cur b q → ∀ u, ∃ l p' s', Ev (fun k => spec_l10Path.j0 k t false b q u) (l, p', s') ∧ SmP 5 l ∧ Cur b p' := fun hq u => by
    obtain ⟨l, q1, u1, e, hl, hq1⟩ := l2DrawD hq u
    refine ⟨l, q1, u1, ?_, ⟨by have := hl.1; omega, hl.2⟩, hq1⟩
    refine Ev.step (fun k => spec_l10Path.j0.eq_2 ..) ?_
    simp only [Bool.false_eq_true, if_false]
    exact Ev.bind e (Ev.now _)
  unfold spec_l10Path.f
  by_cases c : (t.length : Int) > 0
  · simp only [if_pos c]
    obtain ⟨d, p1, s1, e1, h1⟩ := onceD h s 3
    cases d with
    | true =>
      obtain ⟨l, p2, s2, e2, hl, h2⟩ := hdraw h1 s1
      refine ⟨l, p2, s2, ?_, hl, h2⟩
      simp only [e1, Option.bind_some, Bool.not_true]
      exact e2
    | false =>
      obtain ⟨v, p2, s2, e2, v0, v1, h2⟩ := belowD h1 s1 (n := (t.length : Int)) (by omega)
      obtain ⟨pre, r, suf, et, ei⟩ := split_at v0 v1
      have hr := (tree_path ht (show r ∈ t by rw [et]; simp)).2
      obtain ⟨hr1, hr2⟩ := pathOk_sm hr
      obtain ⟨d, p3, s3, e3, h3⟩ := onceD h2 s2 3
      subst ei
      have hrd := rd_implRes et
      have hlt := lt_at et
      cases d with
      | true =>
        obtain ⟨x, p4, s4, e4, m, h4⟩ := nameD h3 s3
        refine ⟨r.f0 ++ [x], p4, s4, ?_, ⟨by simp; omega, fun y hy => ?_⟩, h4⟩
        · simp only [e1, Option.bind_some, Bool.not_false]
          refine Ev.step (fun k => spec_l10Path.j0.eq_2 ..) ?_
          simp only [if_true, Option.bind_some, e2, if_pos (nonneg_at _), if_pos hlt, hrd, List.length_nil, Nat.zero_add, if_pos (show r.f0.length < 8796093022208 by omega), e3, e4, List.nil_append]
          exact Ev.now _
        · rcases List.mem_append.1 hy with hy | hy
          · have := hr2 y hy; omega
          · simp at hy; subst hy; exact m
      | false =>
        refine ⟨r.f0, p3, s3, ?_, ⟨by omega, fun y hy => by have := hr2 y hy; omega⟩, h3⟩
        simp only [e1, Option.bind_some, Bool.not_false]
        refine Ev.step (fun k => spec_l10Path.j0.eq_2 ..) ?_
        simp only [if_true, Option.bind_some, e2, if_pos (nonneg_at _), if_pos hlt, hrd, List.length_nil, Nat.zero_add, if_pos (show r.f0.length < 8796093022208 by omega), e3, Bool.false_eq_true, if_false, List.nil_append]
        exact Ev.now _
  · simp only [if_neg c]
    exact hdraw h s
theorem small_int {v n : Int} (h0 : 0 ≤ v) (h1 : v < n) (hn : n ≤ 1000) : IntOk v := by unfold IntOk; omega
theorem drawD {b : List Int} {p : Int} (h : Cur b p) (s : Int) : ∃ t p' s', Ev (fun k => spec_l10Draw.f k b p s) (t, p', s') ∧ (treeOk t = true ∧ SmRess t) ∧ Cur b p' := by
  unfold spec_l10Draw.f
  obtain ⟨v, p1, s1, e, v0, v1, h1⟩ := belowD h s (n := 10) (by omega)
  simp only [e, Option.bind_some]
  have key : ∀ (n : Nat) (t : List S57) (q u : Int), n ≤ 1000 → (treeOk t = true ∧ SmRess t) → Cur b q → ∃ t' p' s', Ev (fun k => spec_l10Draw.l0 k t (n : Int) b q u) (t', p', s') ∧ (treeOk t' = true ∧ SmRess t') ∧ Cur b p' := by
    intro n
    induction n with
    | zero =>
      intro t q u _ ht hq
      refine ⟨t, q, u, ?_, ht, hq⟩
      refine Ev.step (fun k => spec_l10Draw.l0.eq_2 ..) ?_
      simp only [if_neg (show ¬ ((0 : Nat) : Int) > 0 by decide)]
      exact Ev.now _
    | succ n ih =>
      intro t q u hn ht hq
      have hw : wrap64 (((n + 1 : Nat) : Int) - 1) = (n : Int) := by rw [wrap_id (by omega) (by omega)]; omega
      have hj2f : ∀ {t : List S57} {q : Int} (u : Int), (treeOk t = true ∧ SmRess t) → Cur b q → ∃ t' p' s', Ev (fun k => spec_l10Draw.j2 k t ((n + 1 : Nat) : Int) false b q u) (t', p', s') ∧ (treeOk t' = true ∧ SmRess t') ∧ Cur b p' := fun {t q} u ht hq => by
        obtain ⟨t', q', u', e, hh⟩ := ih t q u (by omega) ht hq
        refine ⟨t', q', u', ?_, hh⟩
        refine Ev.step (fun k => spec_l10Draw.j2.eq_2 ..) ?_
        simp only [Bool.false_eq_true, if_false, hw]
        exact e
      have hj1 : ∀ {t : List S57} {q : Int} (u : Int), (treeOk t = true ∧ SmRess t) → Cur b q → ∃ t' p' s', Ev (fun k => spec_l10Draw.j1 k t ((n + 1 : Nat) : Int) b q u) (t', p', s') ∧ (treeOk t' = true ∧ SmRess t') ∧ Cur b p' := fun {t q} u ht hq => by
        by_cases c : (t.length : Int) > 0
        · obtain ⟨d, q1, u1, e1, hq1⟩ := onceD hq u 3
          cases d with
          | false =>
            obtain ⟨t', q', u', e, hh⟩ := hj2f u1 ht hq1
            refine ⟨t', q', u', ?_, hh⟩
            refine Ev.step (fun k => spec_l10Draw.j1.eq_2 ..) ?_
            simp only [if_pos c, e1, Option.bind_some]
            exact e
          | true =>
            obtain ⟨v, q2, u2, e2, v0, v1, hq2⟩ := belowD hq1 u1 (n := (t.length : Int)) (by omega)
            obtain ⟨pre, r, suf, et, ei⟩ := split_at v0 v1
            obtain ⟨l, q3, u3, e3, ⟨hl, hm, hpo⟩, hq3⟩ := propsD hq2 u2
            subst ei
            have hr := (treeOk_iff.1 ht.1).1 r (by rw [et]; simp)
            have hrs := ht.2.2 r (by rw [et]; simp)
            have hnew : (treeOk (pre ++ (⟨r.f0, r.f1, r.f2, r.f3, l⟩ : S57) :: suf) = true ∧ SmRess (pre ++ (⟨r.f0, r.f1, r.f2, r.f3, l⟩ : S57) :: suf)) := by
              refine ⟨set_ok (r := r) (by rw [← et]; exact ht.1) ?_ rfl rfl, ?_, fun x hx => ?_⟩
              · have h1 := hr.1
                unfold resOk at h1 ⊢
                simp only [Bool.and_eq_true, decide_eq_true_eq] at h1 ⊢
                exact ⟨h1.1, h1.2.1, h1.2.2.1, h1.2.2.2.1, h1.2.2.2.2.1, hpo⟩
              · have := ht.2.1; rw [et] at this; simpa using this
              · rcases List.mem_append.1 hx with hx | hx
                · exact ht.2.2 x (by rw [et]; simp [hx])
                · rcases List.mem_cons.1 hx with rfl | hx
                  · exact ⟨hrs.1, hrs.2.1, hrs.2.2.1, hrs.2.2.2.1, by show l.length ≤ 1048576; omega, hm⟩
                  · exact ht.2.2 x (by rw [et]; simp [hx])
            obtain ⟨t', q', u', e, hh⟩ := ih _ q3 u3 (by omega) hnew hq3
            refine ⟨t', q', u', ?_, hh⟩
            refine Ev.step (fun k => spec_l10Draw.j1.eq_2 ..) ?_
            simp only [if_pos c, e1, Option.bind_some]
            refine Ev.step (fun k => spec_l10Draw.j2.eq_2 ..) ?_
            simp only [if_true, e2, Option.bind_some]
            refine Ev.bind e3 ?_
            simp only [if_pos (nonneg_at _), if_pos (lt_at et), rd_implRes et, set_at et, hw, List.append_assoc, List.singleton_append]
            exact e
        · obtain ⟨t', q', u', e, hh⟩ := hj2f u ht hq
          refine ⟨t', q', u', ?_, hh⟩
          refine Ev.step (fun k => spec_l10Draw.j1.eq_2 ..) ?_
          simp only [if_neg c]
          exact e
      obtain ⟨pt, q1, u1, e1, hp, hq1⟩ := pathD hq u ht.1
      have hps := hp.sm (by omega)
      obtain ⟨d, q2, u2, e2, hq2⟩ := onceD hq1 u1 2
      cases d with
      | true =>
        obtain ⟨v, q3, u3, e3, v0, v1, hq3⟩ := belowD hq2 u2 (n := 9) (by omega)
        have hv := small_int v0 v1 (by omega)
        obtain ⟨t', q', u', e, hh⟩ := hj1 u3 ⟨make_ok (p := pt) (ver := v) ht.1, make_sm ht.2 hps hv⟩ hq3
        refine ⟨t', q', u', ?_, hh⟩
        refine Ev.step (fun k => spec_l10Draw.l0.eq_2 ..) ?_
        simp only [if_pos (show ((n + 1 : Nat) : Int) > 0 by omega)]
        refine Ev.bind e1 ?_
        simp only [e2, e3, Option.bind_some, if_true]
        exact Ev.bind (specMake ht.2 hps hv) e
      | false =>
        obtain ⟨x, q3, u3, e3, m, hq3⟩ := strD hq2 u2 (l := [(⟨#[]⟩ : ByteArray), (⟨#[120]⟩ : ByteArray), (⟨#[104, 101, 108, 108, 111]⟩ : ByteArray)]) (by simp)
        have m1 := mem_sz m (by decide)
        obtain ⟨v, q4, u4, e4, v0, v1, hq4⟩ := belowD hq3 u3 (n := 9) (by omega)
        have hv := small_int v0 v1 (by omega)
        obtain ⟨t', q', u', e, hh⟩ := hj1 u4 ⟨putF_ok (p := pt) (body := x) (ver := v) ht.1, putF_sm ht.2 hps m1 hv⟩ hq4
        refine ⟨t', q', u', ?_, hh⟩
        refine Ev.step (fun k => spec_l10Draw.l0.eq_2 ..) ?_
        simp only [if_pos (show ((n + 1 : Nat) : Int) > 0 by omega)]
        refine Ev.bind e1 ?_
        simp only [e2, e3, e4, Option.bind_some, Bool.false_eq_true, if_false]
        exact Ev.bind (specPutF ht.2 hps m1 hv) e
  obtain ⟨n, rfl⟩ := Int.eq_ofNat_of_zero_le v0
  exact key n [] p1 s1 (by omega) ⟨nil_ok, by simp, by simp⟩ h1
theorem shelvesD {code : List Int} (hc : code.length ≤ 1048576) : ∃ t p q, Ev (fun k => spec_DrawShelves.f k code) (t, p, q) ∧ (treeOk t = true ∧ SmRess t) ∧ SmS p ∧ SmS q := by
  unfold spec_DrawShelves.f
  obtain ⟨s0, e0⟩ := newD hc
  obtain ⟨t, p1, s1, e1, ht, h1⟩ := drawD (cur0 hc) s0
  obtain ⟨p, p2, s2, e2, hp, h2⟩ := pathD h1 s1 ht.1
  obtain ⟨q, p3, s3, e3, hq, h3⟩ := pathD h2 s2 ht.1
  exact ⟨t, p, q, Ev.bind e0 (Ev.bind e1 (Ev.bind e2 (Ev.bind e3 (Ev.now _)))), ht, hp.sm (by omega), hq.sm (by omega)⟩
end Go.Proofs.Ytbgggcgjijljkaa.L

/- The laws' own 'is it the same'. No condition. -/
set_option linter.unusedSimpArgs false
set_option linter.unusedVariables false
namespace Go.Proofs.Ytbgggcgjijljkaa.L
open Go.RowKit Go.Proofs.YtbgggcgjijljkaaW.PrintWords Go.Proofs.YtbgggcgjijljkaaW.PrintLast Go.Proofs.Ytbgggcgjijljkaa.Q
theorem sameTextsD {a b : List ByteArray} (hl : a.length ≤ 1048576) : Ev (fun k => laws_sameTexts.f k a b) (decide (a = b)) := by
  have hm : a.length ≤ maxLen := by rw [maxLen_eq]; omega
  unfold laws_sameTexts.f
  by_cases e : (a.length : Int) = (b.length : Int)
  · simp only [if_pos e]
    refine eq_loop (a := a) (b := b) (fun k i => laws_sameTexts.l0 k a b i) ?_ ?_ a b [] [] rfl rfl rfl (by omega)
    · show Ev (fun k => laws_sameTexts.l0 k a b a.length) true
      refine Ev.step (fun k => laws_sameTexts.l0.eq_2 ..) ?_
      simp only [Int.lt_irrefl, if_false]
      exact Ev.now _
    · intro pre x su pre' y sv h h' hp
      have h3 := rd_at ByteArray.empty h'
      have h4 := lt_at h'
      rw [← hp] at h3 h4
      refine ⟨fun hne => ?_, fun heq r hr => ?_⟩
      · refine Ev.step (fun k => laws_sameTexts.l0.eq_2 ..) ?_
        simp only [if_pos (lt_at h), if_pos (nonneg_at _), if_pos h4, rd_at ByteArray.empty h, h3, ba_eq, if_neg hne]
        exact Ev.now _
      · refine Ev.step (fun k => laws_sameTexts.l0.eq_2 ..) ?_
        simp only [if_pos (lt_at h), if_pos (nonneg_at _), if_pos h4, rd_at ByteArray.empty h, h3, ba_eq, if_pos heq, next_at h hm]
        exact hr
  · simp only [if_neg e]
    rw [show decide (a = b) = false from decide_eq_false (fun h => e (by rw [h]))]
    exact Ev.now _
theorem samePropsD (l : List S72) (hl : l.length ≤ 1048576) : Ev (fun k => laws_sameProps.f k l l) true := by
  unfold laws_sameProps.f
  simp only [if_true]
  have key : ∀ (suf pre : List S72), l = pre ++ suf → Ev (fun k => laws_sameProps.l0 k l l pre.length) true := by
    intro suf
    induction suf with
    | nil =>
      intro pre h
      refine Ev.step (fun k => laws_sameProps.l0.eq_2 ..) ?_
      simp only [if_neg (end_at h)]
      exact Ev.now _
    | cons a suf ih =>
      intro pre h
      refine Ev.step (fun k => laws_sameProps.l0.eq_2 ..) ?_
      simp only [if_pos (lt_at h), if_pos (nonneg_at _), beq_self_eq_true, Bool.not_true, Bool.or_self, Bool.false_eq_true, if_false, next_at h (show l.length ≤ maxLen by rw [maxLen_eq]; omega)]
      exact ih (pre ++ [a]) (snoc_at h)
  exact key l [] rfl
theorem sameResD {r : S57} (h : SmRes r) : Ev (fun k => laws_sameRes.f k r.f0 r.f1 r.f2 r.f3 r.f4 r.f0 r.f1 r.f2 r.f3 r.f4) true := by
  unfold laws_sameRes.f
  refine Ev.bind (sameTextsD (by have := h.1.1; omega)) ?_
  simp only [decide_true, beq_self_eq_true, if_true]
  exact Ev.bind (samePropsD _ h.2.2.2.2.1) (Ev.now _)
theorem sameTreeD {t : List S57} (ht : SmRess t) : Ev (fun k => laws_sameTree.f k t t) true := by
  have hl : t.length ≤ maxLen := by have := ht.1; rw [maxLen_eq]; omega
  unfold laws_sameTree.f
  simp only [if_true]
  have key : ∀ (suf pre : List S57), t = pre ++ suf → Ev (fun k => laws_sameTree.l0 k t t pre.length) true := by
    intro suf
    induction suf with
    | nil =>
      intro pre h
      refine Ev.step (fun k => laws_sameTree.l0.eq_2 ..) ?_
      simp only [if_neg (end_at h)]
      exact Ev.now _
    | cons a suf ih =>
      intro pre h
      refine Ev.step (fun k => laws_sameTree.l0.eq_2 ..) ?_
      simp only [if_pos (lt_at h), if_pos (nonneg_at _), rd_implRes h, next_at h hl]
      refine Ev.bind (sameResD (ht.2 a (by rw [h]; simp))) ?_
      simp only [if_true]
      exact ih (pre ++ [a]) (snoc_at h)
  exact key t [] rfl
end Go.Proofs.Ytbgggcgjijljkaa.L

/- Printed walks. No condition. -/
namespace Go.Proofs.Ytbgggcgjijljkaa.Q
open Go.RowKit Go.Proofs.YtbgggcgjijljkaaW.PrintWords Go.Proofs.YtbgggcgjijljkaaW.PrintLast Go.Proofs.YtbgggcgjijljkaaW.PrintMore
attribute [local go_sem] max2_int min2_int max_two min_two max_three min_three max_four min_four
set_option linter.unusedVariables false
set_option linter.unusedSimpArgs false
theorem spec_PutFile.calls (k : Nat) (A0 : Option Addr) (c0 : Nat) (l0 : List (S57)) (A1 : Option Addr) (c1 : Nat) (l1 : List ByteArray) (a2 : ByteArray) (a3 : Int) (r1 : List (S57)) (r2 : Int) (w : World) (hr0 : Kd.C k57 w A0 l0.length l0) (hc0 : l0.length ≤ c0) (hr1 : Kd.C Kd.string w A1 l1.length l1) (hc1 : l1.length ≤ c1) (h : spec_PutFile.f k l0 l1 a2 a3 = some (r1, r2)) :
 Calls Try.prog 26 #[.slice A0 l0.length c0, .slice A1 l1.length c1, .string a2, .int .i64 a3] w fun e w' => ∃ v0_ : Value, e = .returned (.tuple #[v0_, .int .i64 r2]) ∧ Kd.S k57 57 w' w.heap.size (fun _ => True) v0_ r1 ∧ Below w.heap.size w w' := by
 exact spec_PutFileX.calls k A0 c0 l0 A1 c1 l1 a2 a3 r1 r2 w hr0 hc0 hr1 hc1 h
set_option maxHeartbeats 16000000 in
set_option maxRecDepth 100000 in
theorem spec_l10Draw.calls (k : Nat) (g : Nat) (s0_0 : List Int) (s0_1 : Int) (s0_2 : Int) (r1 : List (S57)) (r2 : Int) (r3 : Int) (w0 w : World) (hI : IsS116 w0 w g s0_0 s0_1 s0_2) (hB : Below w0.heap.size w0 w) (h : spec_l10Draw.f k s0_0 s0_1 s0_2 = some (r1, r2, r3)) :
 Calls Try.prog 85 #[.pointer (some ⟨g, 0, none⟩)] w fun e w' => ∃ v0_ : Value, e = .returned (v0_) ∧ Kd.S k57 57 w' w.heap.size (fun _ => True) v0_ r1 ∧ IsS116 w0 w' g s0_0 r2 r3 ∧ Below w0.heap.size w0 w' ∧ KeepBut w w' g none := by
 have HI0 := Aside0.mk hI
 have HK := Aside0.mk (KeepBut.refl w g none)
 have HL := Aside0.mk hB.size
 clear hI
 have HW0 := Aside0.mk hB.size
 have HB := Aside0.mk hB
 clear hB
 have H : ((spec_l1Below.f s0_0 s0_1 s0_2 10).bind fun bt1175 => (spec_l10Draw.l0 k (([] : List (S57))) bt1175.1 s0_0 bt1175.2.1 bt1175.2.2)) = some (r1, r2, r3) := h
 clear h
 obtain ⟨y1172, hy1172⟩ : ∃ y_ : List (S57), y_ = (([] : List (S57))) := ⟨_, rfl⟩
 replace H : ((spec_l1Below.f s0_0 s0_1 s0_2 10).bind fun bt1175 => (spec_l10Draw.l0 k y1172 bt1175.1 s0_0 bt1175.2.1 bt1175.2.2)) = some (r1, r2, r3) := by first | (rw [hy1172]; with_reducible exact H) | (have H2_ := (Option.bind_some _ _).symm.trans H; rw [hy1172]; with_reducible exact H2_) | (have H2_ := (Option.bind_some _ _).symm.trans H; with_reducible exact H2_) | with_reducible exact H | (rw [hy1172]; exact H) | exact H
 have Ny1172 := Aside0.mk hy1172
 clear hy1172
 obtain ⟨⟨t1175, t1176, t1177⟩, A2, H⟩ := bo_ H
 (try dsimp only at H)
 have H' := Aside0.mk H
 clear H
 go_enter Try.func85, Try.ntmps85
 go_wp2_with (first | ((with_reducible refine gate_dst (N := 6) rfl ?_); refine Kd.S_lit k57 _ 57 ?hg (N := 6) ?hd (xs := ([] : List (S57))) (inner := []) (ok := fun _ => True) (okp := fun _ => True) ?hr ?hp (fun _ hk => hk) trivial (Below.refl _ _) (Nat.le_refl _) (by simp) ?_; (case hd => rfl); (case hg => rfl); (case hr => first | (go_simp; done) | (go_simp; rfl)); (case hp => exact (Reps.none _ _)); intro v1173 w3 ho4 hb hg_ hnew_; clear hg_ hnew_; (first | rw [← Ny1172.out] at ho4 | (simp only [Int.reduceToNat] at ho4; rw [← Ny1172.out] at ho4)); have n0_ := Aside0.mk (Kd.S_lower ho4 (keep_size (w := w) (g := g) (row := none) (by repeat (first | (with_reducible first | exact HK.out | apply KeepBut.set_ | apply keep_drewN | apply keep_drew | apply keep_alloc) | exact HK.out)))); have n1_ := Aside0.mk (IsS116.below (by repeat (first | (with_reducible first | exact HI0.out | apply IsS116.alloc | apply IsS116.drewN | apply IsS116.drew | apply IsS116.set_1 | apply IsS116.set_2) | exact HI0.out)) hb); have n2_ := Aside0.mk (KeepBut.trans (by repeat (first | (with_reducible first | exact HK.out | apply KeepBut.set_ | apply keep_drewN | apply keep_drew | apply keep_alloc) | exact HK.out)) (KeepBut.of_below hb g none) (.inl rfl)); have n3_ := Aside0.mk (below_step (by repeat (first | (with_reducible first | exact HB.out | apply below_alloc | apply pw_below_drewN | apply below_drew1 | refine below_set ?_ (IsS116.ge HI0.out)) | exact HB.out)) hb); clear HI0; clear HK; clear HB; have HO1174 := n0_; have HI0 := n1_; have HK := n2_; have HB := n3_; clear n0_ n1_ n2_ n3_; clear hb ho4) | ((with_reducible refine gate_callee (f := 117) rfl ?_); refine gL_ (some 8) Try.func117 #[.pointer (some ⟨g, 0, none⟩), .int .i64 10] ?_; (with_reducible refine (spec_l1Below.calls g s0_0 s0_1 s0_2 10 t1175 t1176 t1177 w0 _ ?side1 ?side2 A2.out).mono ?_); (case side1 => repeat (first | (with_reducible first | exact HI0.out | apply IsS116.alloc | apply IsS116.drewN | apply IsS116.drew | apply IsS116.set_1 | apply IsS116.set_2) | exact HI0.out)); (case side2 => repeat (first | (with_reducible first | exact HB.out | apply below_alloc | apply pw_below_drewN | apply below_drew1 | refine below_set ?_ (IsS116.ge HI0.out)) | exact HB.out)); rintro e w5 ⟨rfl, hi, hb, hk⟩; refine ⟨_, rfl, ?_⟩; have n0_ := Aside0.mk (Kd.S_mono (Kd.S_keep (IsS116.apartS (show IsS116 w0 _ g s0_0 s0_1 s0_2 from by repeat (first | (with_reducible first | exact HI0.out | apply IsS116.alloc | apply IsS116.drewN | apply IsS116.drew | apply IsS116.set_1 | apply IsS116.set_2) | exact HI0.out)) (vS_ HO1174.out) (by decide)) hk (fun _ h => h.2)) (fun _ h => h.1)); have n1_ := Aside0.mk (KeepBut.trans (by repeat (first | (with_reducible first | exact HK.out | apply KeepBut.set_ | apply keep_drewN | apply keep_drew | apply keep_alloc) | exact HK.out)) hk (.inl rfl)); have n2_ := Aside0.mk (hb); have n3_ := Aside0.mk (hi); clear HO1174; clear HK; clear HB; clear HI0; have HO1174 := n0_; have HK := n1_; have HB := n2_; have HI0 := n3_; clear n0_ n1_ n2_ n3_; (try clear hb); (try clear hk); (try clear hi)))
 go_loopg [3, 4] k (fun kq v3 v4 w' => ∃ (x3_1 : List (S57)) (x4_1 : Int) (x1001_1 : Int) (x1002_1 : Int), v4 = .int .i64 x4_1 ∧ Aside0 (spec_l10Draw.l0 kq x3_1 x4_1 s0_0 x1001_1 x1002_1 = some (r1, r2, r3)) ∧ Aside0 (kq ≤ k) ∧ Aside0 (Kd.S k57 57 w' w.heap.size (fun _ => True) v3 x3_1) ∧ Aside0 (IsS116 w0 w' g s0_0 x1001_1 x1002_1) ∧ Aside0 (KeepBut w w' g none) ∧ Aside0 (Below w0.heap.size w0 w'))
 case atStart => exact ⟨(y1172), (t1175), (t1176), (t1177), rs_, H', ⟨Nat.le_refl _⟩, ⟨by (with_reducible repeat (first | apply Kd.S_alloc | apply Kd.S_drewN | apply Kd.S_drew)); exact HO1174.out⟩, ⟨by repeat (first | (with_reducible first | exact HI0.out | apply IsS116.alloc | apply IsS116.drewN | apply IsS116.drew | apply IsS116.set_1 | apply IsS116.set_2) | exact HI0.out)⟩, ⟨by repeat (first | (with_reducible first | exact HK.out | apply KeepBut.set_ | apply keep_drewN | apply keep_drew | apply keep_alloc) | exact HK.out)⟩, ⟨by repeat (first | (with_reducible first | exact HB.out | apply below_alloc | apply pw_below_drewN | apply below_drew1 | refine below_set ?_ (IsS116.ge HI0.out)) | exact HB.out)⟩⟩
 case round =>
  clear H'
  try clear c1
  try clear p2
  obtain ⟨x3_1, x4_1, x1001_1, x1002_1, rfl, HA, HK1, HO_3, HI0, HK, HB⟩ := hrel
  cases gk with
  | zero => exact absurd HA.out (by simp [spec_l10Draw.l0])
  | succ k1 =>
   have H := HA.out
   clear HA
   simp only [spec_l10Draw.l0] at H
   by_cases c6 : x4_1 > 0
   rotate_left
   · rw [if_neg c6] at H
     have c6b0 : decide (0 < x4_1) = false := decide_eq_false c6
     clear c6
     simp only [Option.some.injEq, Prod.mk.injEq] at H
     obtain ⟨rfl, rfl, rfl⟩ := H
     go_wp2
     go_ret
     exact ⟨_, rr_, by (with_reducible repeat (first | apply Kd.S_alloc | apply Kd.S_drewN | apply Kd.S_drew)); exact HO_3.out, by repeat (first | (with_reducible first | exact HI0.out | apply IsS116.alloc | apply IsS116.drewN | apply IsS116.drew | apply IsS116.set_1 | apply IsS116.set_2) | exact HI0.out), by repeat (first | (with_reducible first | exact HB.out | apply below_alloc | apply pw_below_drewN | apply below_drew1 | refine below_set ?_ (IsS116.ge HI0.out)) | exact HB.out), by repeat (first | (with_reducible first | exact HK.out | apply KeepBut.set_ | apply keep_drewN | apply keep_drew | apply keep_alloc) | exact HK.out)⟩
   rw [if_pos c6] at H
   have c6b0 : decide (0 < x4_1) = true := decide_eq_true c6
   clear c6
   obtain ⟨⟨t1178, t1181, t1182⟩, A7, H⟩ := bo_ H
   (try dsimp only at H)
   obtain ⟨⟨t1183, t1184, t1185⟩, A8, H⟩ := bo_ H
   (try dsimp only at H)
   have HC9 := Aside0.mk H
   clear H
   obtain ⟨Ao10, co10, eo10⟩ := Kd.S_slice HO_3.out
   subst eo10
   go_upto_if 17 with (first | ((with_reducible refine gate_callee (f := 86) rfl ?_); refine gL_ (some 15) Try.func86 #[.pointer (some ⟨g, 0, none⟩), .slice Ao10 x3_1.length co10] ?_; (with_reducible refine (spec_l10Path.calls k1 g s0_0 x1001_1 x1002_1 _ _ x3_1 t1178 t1181 t1182 w0 _ ?side1 ?side2 ?side3 ?side4 A7.out).mono ?_); (case side1 => repeat (first | (with_reducible first | exact HI0.out | apply IsS116.alloc | apply IsS116.drewN | apply IsS116.drew | apply IsS116.set_1 | apply IsS116.set_2) | exact HI0.out)); (case side2 => repeat (first | (with_reducible first | exact HB.out | apply below_alloc | apply pw_below_drewN | apply below_drew1 | refine below_set ?_ (IsS116.ge HI0.out)) | exact HB.out)); (case side3 => exact Kd.C_foot_own ((Kd.S_R (IsS116.apartS (show IsS116 w0 _ g s0_0 x1001_1 x1002_1 from by repeat (first | (with_reducible first | exact HI0.out | apply IsS116.alloc | apply IsS116.drewN | apply IsS116.drew | apply IsS116.set_1 | apply IsS116.set_2) | exact HI0.out)) (vS_ HO_3.out) (by decide)))) (fun _ h_ => h_.2)); (case side4 => exact (Kd.S_reads' HO_3.out).2.1); rintro e w11 ⟨v1179, rfl, ho0, hi, hb, hk⟩; refine ⟨_, rfl, ?_⟩; have n0_ := Aside0.mk (Kd.S_mono (Kd.S_told (Kd.S_oldK (IsS116.apartS (show IsS116 w0 _ g s0_0 x1001_1 x1002_1 from by repeat (first | (with_reducible first | exact HI0.out | apply IsS116.alloc | apply IsS116.drewN | apply IsS116.drew | apply IsS116.set_1 | apply IsS116.set_2) | exact HI0.out)) (vS_ HO_3.out) (by decide)) hk) (by first | exact Kd.R_base ho0 | exact Kd.S_base ho0)) (fun _ h_ => h_.1)); have n1_ := Aside0.mk (Kd.R_lower ho0 (keep_size (w := w) (g := g) (row := none) (by repeat (first | (with_reducible first | exact HK.out | apply KeepBut.set_ | apply keep_drewN | apply keep_drew | apply keep_alloc) | exact HK.out)))); have n2_ := Aside0.mk (KeepBut.trans (by repeat (first | (with_reducible first | exact HK.out | apply KeepBut.set_ | apply keep_drewN | apply keep_drew | apply keep_alloc) | exact HK.out)) hk (.inl rfl)); have n3_ := Aside0.mk (hb); have n4_ := Aside0.mk (hi); clear HO_3; clear HK; clear HB; clear HI0; have HO_3 := n0_; have HO1180 := n1_; have HK := n2_; have HB := n3_; have HI0 := n4_; clear n0_ n1_ n2_ n3_ n4_; (try clear hb); (try clear hk); (try clear hi); (try clear ho0)) | ((with_reducible refine gate_callee (f := 118) rfl ?_); refine gL_ (some 17) Try.func118 #[.pointer (some ⟨g, 0, none⟩), .int .i64 2] ?_; (with_reducible refine (spec_l1Once.calls g s0_0 t1181 t1182 2 t1183 t1184 t1185 w0 _ ?side1 ?side2 A8.out).mono ?_); (case side1 => repeat (first | (with_reducible first | exact HI0.out | apply IsS116.alloc | apply IsS116.drewN | apply IsS116.drew | apply IsS116.set_1 | apply IsS116.set_2) | exact HI0.out)); (case side2 => repeat (first | (with_reducible first | exact HB.out | apply below_alloc | apply pw_below_drewN | apply below_drew1 | refine below_set ?_ (IsS116.ge HI0.out)) | exact HB.out)); rintro e w12 ⟨rfl, hi, hb, hk⟩; refine ⟨_, rfl, ?_⟩; have n0_ := Aside0.mk (Kd.S_mono (Kd.S_keep (IsS116.apartS (show IsS116 w0 _ g s0_0 t1181 t1182 from by repeat (first | (with_reducible first | exact HI0.out | apply IsS116.alloc | apply IsS116.drewN | apply IsS116.drew | apply IsS116.set_1 | apply IsS116.set_2) | exact HI0.out)) (vS_ HO_3.out) (by decide)) hk (fun _ h => h.2)) (fun _ h => h.1)); have n1_ := Aside0.mk (Kd.R_mono (Kd.R_keep (IsS116.apart (show IsS116 w0 _ g s0_0 t1181 t1182 from by repeat (first | (with_reducible first | exact HI0.out | apply IsS116.alloc | apply IsS116.drewN | apply IsS116.drew | apply IsS116.set_1 | apply IsS116.set_2) | exact HI0.out)) (vR_ HO1180.out) (by decide)) hk (fun _ h => h.2)) (fun _ h => h.1)); have n2_ := Aside0.mk (KeepBut.trans (by repeat (first | (with_reducible first | exact HK.out | apply KeepBut.set_ | apply keep_drewN | apply keep_drew | apply keep_alloc) | exact HK.out)) hk (.inl rfl)); have n3_ := Aside0.mk (hb); have n4_ := Aside0.mk (hi); clear HO_3; clear HO1180; clear HK; clear HB; clear HI0; have HO_3 := n0_; have HO1180 := n1_; have HK := n2_; have HB := n3_; have HI0 := n4_; clear n0_ n1_ n2_ n3_ n4_; (try clear hb); (try clear hk); (try clear hi)))
   (try simp only [Act.put, List.setIfInBounds_toArray, List.set_cons_zero, List.set_cons_succ])
   go_cut [3] (fun v3 wc => ∃ (kq : Nat) (x3_8 : List (S57)) (x1001_8 : Int) (x1002_8 : Int), Aside0 (spec_l10Draw.j1 kq x3_8 x4_1 s0_0 x1001_8 x1002_8 = some (r1, r2, r3)) ∧ Aside0 (kq ≤ k1) ∧ Aside0 (Kd.S k57 57 wc w.heap.size (fun _ => True) v3 x3_8) ∧ Aside0 (IsS116 w0 wc g s0_0 x1001_8 x1002_8) ∧ Aside0 (KeepBut w wc g none) ∧ Aside0 (Below w0.heap.size w0 wc))
   case first =>
    have H := HC9.out
    clear HC9
    by_cases c13 : t1183 = true
    · subst c13
      rw [if_pos rfl] at H
      obtain ⟨⟨t1186, t1187, t1188⟩, A14, H⟩ := bo_ H
      (try dsimp only at H)
      obtain ⟨⟨t1189, t1192⟩, A15, H⟩ := bo_ H
      (try dsimp only at H)
      have H' := Aside0.mk H
      clear H
      go_wp2_with (first | ((with_reducible refine gate_callee (f := 117) rfl ?_); refine gL_ (some 22) Try.func117 #[.pointer (some ⟨g, 0, none⟩), .int .i64 9] ?_; (with_reducible refine (spec_l1Below.calls g s0_0 t1184 t1185 9 t1186 t1187 t1188 w0 _ ?side1 ?side2 A14.out).mono ?_); (case side1 => repeat (first | (with_reducible first | exact HI0.out | apply IsS116.alloc | apply IsS116.drewN | apply IsS116.drew | apply IsS116.set_1 | apply IsS116.set_2) | exact HI0.out)); (case side2 => repeat (first | (with_reducible first | exact HB.out | apply below_alloc | apply pw_below_drewN | apply below_drew1 | refine below_set ?_ (IsS116.ge HI0.out)) | exact HB.out)); rintro e w16 ⟨rfl, hi, hb, hk⟩; refine ⟨_, rfl, ?_⟩; have n0_ := Aside0.mk (Kd.S_mono (Kd.S_keep (IsS116.apartS (show IsS116 w0 _ g s0_0 t1184 t1185 from by repeat (first | (with_reducible first | exact HI0.out | apply IsS116.alloc | apply IsS116.drewN | apply IsS116.drew | apply IsS116.set_1 | apply IsS116.set_2) | exact HI0.out)) (vS_ HO_3.out) (by decide)) hk (fun _ h => h.2)) (fun _ h => h.1)); have n1_ := Aside0.mk (Kd.R_mono (Kd.R_keep (IsS116.apart (show IsS116 w0 _ g s0_0 t1184 t1185 from by repeat (first | (with_reducible first | exact HI0.out | apply IsS116.alloc | apply IsS116.drewN | apply IsS116.drew | apply IsS116.set_1 | apply IsS116.set_2) | exact HI0.out)) (vR_ HO1180.out) (by decide)) hk (fun _ h => h.2)) (fun _ h => h.1)); have n2_ := Aside0.mk (KeepBut.trans (by repeat (first | (with_reducible first | exact HK.out | apply KeepBut.set_ | apply keep_drewN | apply keep_drew | apply keep_alloc) | exact HK.out)) hk (.inl rfl)); have n3_ := Aside0.mk (hb); have n4_ := Aside0.mk (hi); clear HO_3; clear HO1180; clear HK; clear HB; clear HI0; have HO_3 := n0_; have HO1180 := n1_; have HK := n2_; have HB := n3_; have HI0 := n4_; clear n0_ n1_ n2_ n3_ n4_; (try clear hb); (try clear hk); (try clear hi); obtain ⟨Ao17, co17, eo17⟩ := Kd.R_slice HO1180.out; subst eo17) | ((with_reducible refine gate_callee (f := 24) rfl ?_); refine gL_ (some 23) Try.func24 #[.slice Ao10 x3_1.length co10, .slice Ao17 t1178.length co17, .int .i64 t1186] ?_; (with_reducible refine (spec_MakeColl.calls k1 (fun k_ => ((True ∧ some k_ ≠ (.slice Ao17 t1178.length co17 : Value).ownBlock) ∧ k_ ≠ g)) _ _ x3_1 (fun k_ => some k_ = (.slice Ao17 t1178.length co17 : Value).ownBlock) _ _ t1178 t1186 t1189 t1192 _ ?side1 ?side2 A15.out).mono ?_); (case side1 => exact Kd.S_V (IsS116.apartS HI0.out (HO_3.out) (by decide))); (case side2 => exact Kd.R_V (Kd.R_tight rfl (IsS116.apart HI0.out (Kd.R_apart' (HO1180.out) (Kd.S_typed HO_3.out) (by decide)) (by decide)))); rintro e w18 ⟨v1190, rfl, ho0, hb⟩; refine ⟨_, rfl, ?_⟩; have n0_ := Aside0.mk (Kd.S_elder' (vS_ HO_3.out) (by first | exact Kd.S_base ho0 | exact Kd.S_base ho0) hb); have n1_ := Aside0.mk (Kd.R_below (vR_ HO1180.out) hb); have n2_ := Aside0.mk (Kd.S_lower (Kd.S_new' (Kd.S_new' (Kd.S_mono (ok' := fun k_ => True) ho0 (fun _ hk_ => trivial)) (Kd.S_lt (vS_ HO_3.out))) (Kd.R_lt (vR_ HO1180.out))) (keep_size (w := w) (g := g) (row := none) (by repeat (first | (with_reducible first | exact HK.out | apply KeepBut.set_ | apply keep_drewN | apply keep_drew | apply keep_alloc) | exact HK.out)))); have n3_ := Aside0.mk (IsS116.below (by repeat (first | (with_reducible first | exact HI0.out | apply IsS116.alloc | apply IsS116.drewN | apply IsS116.drew | apply IsS116.set_1 | apply IsS116.set_2) | exact HI0.out)) hb); have n4_ := Aside0.mk (KeepBut.trans (by repeat (first | (with_reducible first | exact HK.out | apply KeepBut.set_ | apply keep_drewN | apply keep_drew | apply keep_alloc) | exact HK.out)) (KeepBut.of_below hb g none) (.inl rfl)); have n5_ := Aside0.mk (below_step (by repeat (first | (with_reducible first | exact HB.out | apply below_alloc | apply pw_below_drewN | apply below_drew1 | refine below_set ?_ (IsS116.ge HI0.out)) | exact HB.out)) hb); clear HO_3; clear HO1180; clear HI0; clear HK; clear HB; have HO_3 := n0_; have HO1180 := n1_; have HO1191 := n2_; have HI0 := n3_; have HK := n4_; have HB := n5_; clear n0_ n1_ n2_ n3_ n4_ n5_; (try clear hb); (try clear hk); (try clear hi); (try clear ho0)))
      go_meet
      case rel => exact ⟨_, (t1189), (t1187), (t1188), H', ⟨by have := HK1.out; first | omega | exact Nat.le_refl _⟩, ⟨by (with_reducible repeat (first | apply Kd.S_alloc | apply Kd.S_drewN | apply Kd.S_drew)); exact Kd.S_mono HO1191.out (fun _ hk => trivial)⟩, ⟨by repeat (first | (with_reducible first | exact HI0.out | apply IsS116.alloc | apply IsS116.drewN | apply IsS116.drew | apply IsS116.set_1 | apply IsS116.set_2) | exact HI0.out)⟩, ⟨by repeat (first | (with_reducible first | exact HK.out | apply KeepBut.set_ | apply keep_drewN | apply keep_drew | apply keep_alloc) | exact HK.out)⟩, ⟨by repeat (first | (with_reducible first | exact HB.out | apply below_alloc | apply pw_below_drewN | apply below_drew1 | refine below_set ?_ (IsS116.ge HI0.out)) | exact HB.out)⟩⟩
    · replace c13 := Bool.eq_false_iff.mpr c13
      subst c13
      rw [if_neg (show ¬ (false = true) by decide)] at H
      obtain ⟨y1193, hy1193⟩ : ∃ y_ : List ByteArray, y_ = (([(⟨#[]⟩ : ByteArray), (⟨#[120]⟩ : ByteArray), (⟨#[104, 101, 108, 108, 111]⟩ : ByteArray)] : List ByteArray)) := ⟨_, rfl⟩
      replace H : ((spec_l1Str.f s0_0 t1184 t1185 y1193).bind fun bt1196 => ((spec_l1Below.f s0_0 bt1196.2.1 bt1196.2.2 9).bind fun bt1199 => ((spec_PutFile.f k1 x3_1 t1178 bt1196.1 bt1199.1).bind fun bt1202 => (spec_l10Draw.j1 k1 bt1202.1 x4_1 s0_0 bt1199.2.1 bt1199.2.2)))) = some (r1, r2, r3) := by first | (rw [hy1193]; with_reducible exact H) | (have H2_ := (Option.bind_some _ _).symm.trans H; rw [hy1193]; with_reducible exact H2_) | (have H2_ := (Option.bind_some _ _).symm.trans H; with_reducible exact H2_) | with_reducible exact H | (rw [hy1193]; exact H) | exact H
      have Ny1193 := Aside0.mk hy1193
      clear hy1193
      obtain ⟨⟨t1196, t1197, t1198⟩, A19, H⟩ := bo_ H
      (try dsimp only at H)
      obtain ⟨⟨t1199, t1200, t1201⟩, A20, H⟩ := bo_ H
      (try dsimp only at H)
      obtain ⟨⟨t1202, t1203⟩, A21, H⟩ := bo_ H
      (try dsimp only at H)
      have H' := Aside0.mk H
      clear H
      go_wp2_with (first | ((with_reducible refine gate_dst (N := 30) rfl ?_); refine Kd.R_lit Kd.string _ 9 ?hg (N := 30) ?hd (xs := ([(⟨#[]⟩ : ByteArray), (⟨#[120]⟩ : ByteArray), (⟨#[104, 101, 108, 108, 111]⟩ : ByteArray)] : List ByteArray)) (inner := [.string (⟨#[]⟩ : ByteArray), .string (⟨#[120]⟩ : ByteArray), .string (⟨#[104, 101, 108, 108, 111]⟩ : ByteArray)]) (ok := fun _ => True) (okp := fun _ => True) ?hr ?hp (fun _ hk => hk) trivial (Below.refl _ _) (Nat.le_refl _) (by simp) ?_; (case hd => rfl); (case hg => rfl); (case hr => first | (go_simp; done) | (go_simp; rfl)); (case hp => exact (Reps.one (show Kd.M Kd.string _ _ _ (⟨#[]⟩ : ByteArray) [.string (⟨#[]⟩ : ByteArray)] from rfl) (Reps.one (show Kd.M Kd.string _ _ _ (⟨#[120]⟩ : ByteArray) [.string (⟨#[120]⟩ : ByteArray)] from rfl) (Reps.one (show Kd.M Kd.string _ _ _ (⟨#[104, 101, 108, 108, 111]⟩ : ByteArray) [.string (⟨#[104, 101, 108, 108, 111]⟩ : ByteArray)] from rfl) (Reps.none _ _))))); intro v1194 w22 ho23 hb hg_ hnew_; clear hg_ hnew_; (first | rw [← Ny1193.out] at ho23 | (simp only [Int.reduceToNat] at ho23; rw [← Ny1193.out] at ho23)); have n0_ := Aside0.mk (Kd.S_elder' (vS_ HO_3.out) (by first | exact Kd.R_base ho23 | exact Kd.S_base ho23) hb); have n1_ := Aside0.mk (Kd.R_elder' (vR_ HO1180.out) (by first | exact Kd.R_base ho23 | exact Kd.S_base ho23) hb); have n2_ := Aside0.mk (Kd.R_lower (Kd.R_new' ho23 (Kd.R_lt (vR_ HO1180.out))) (keep_size (w := w) (g := g) (row := none) (by repeat (first | (with_reducible first | exact HK.out | apply KeepBut.set_ | apply keep_drewN | apply keep_drew | apply keep_alloc) | exact HK.out)))); have n3_ := Aside0.mk (IsS116.below (by repeat (first | (with_reducible first | exact HI0.out | apply IsS116.alloc | apply IsS116.drewN | apply IsS116.drew | apply IsS116.set_1 | apply IsS116.set_2) | exact HI0.out)) hb); have n4_ := Aside0.mk (KeepBut.trans (by repeat (first | (with_reducible first | exact HK.out | apply KeepBut.set_ | apply keep_drewN | apply keep_drew | apply keep_alloc) | exact HK.out)) (KeepBut.of_below hb g none) (.inl rfl)); have n5_ := Aside0.mk (below_step (by repeat (first | (with_reducible first | exact HB.out | apply below_alloc | apply pw_below_drewN | apply below_drew1 | refine below_set ?_ (IsS116.ge HI0.out)) | exact HB.out)) hb); clear HO_3; clear HO1180; clear HI0; clear HK; clear HB; have HO_3 := n0_; have HO1180 := n1_; have HO1195 := n2_; have HI0 := n3_; have HK := n4_; have HB := n5_; clear n0_ n1_ n2_ n3_ n4_ n5_; clear hb ho23; obtain ⟨Ao24, co24, eo24⟩ := Kd.R_slice HO1195.out; subst eo24) | ((with_reducible refine gate_callee (f := 99) rfl ?_); refine gL_ (some 31) Try.func99 #[.pointer (some ⟨g, 0, none⟩), .slice Ao24 y1193.length co24] ?_; (with_reducible refine (spec_l1Str.calls g s0_0 t1184 t1185 _ _ y1193 t1196 t1197 t1198 w0 _ ?side1 ?side2 ?side3 ?side4 ?side5 A19.out).mono ?_); (case side1 => repeat (first | (with_reducible first | exact HI0.out | apply IsS116.alloc | apply IsS116.drewN | apply IsS116.drew | apply IsS116.set_1 | apply IsS116.set_2) | exact HI0.out)); (case side2 => repeat (first | (with_reducible first | exact HB.out | apply below_alloc | apply pw_below_drewN | apply below_drew1 | refine below_set ?_ (IsS116.ge HI0.out)) | exact HB.out)); (case side3 => exact cC_ (Kd.R_reads' HO1195.out).2.2); (case side4 => exact (Kd.R_reads' HO1195.out).2.1); (case side5 => exact far_slice (IsS116.own_ne HI0.out HO1195.out (by decide))); rintro e w25 ⟨rfl, hi, hb, hk⟩; refine ⟨_, rfl, ?_⟩; have n0_ := Aside0.mk (Kd.S_mono (Kd.S_keep (IsS116.apartS (show IsS116 w0 _ g s0_0 t1184 t1185 from by repeat (first | (with_reducible first | exact HI0.out | apply IsS116.alloc | apply IsS116.drewN | apply IsS116.drew | apply IsS116.set_1 | apply IsS116.set_2) | exact HI0.out)) (vS_ HO_3.out) (by decide)) hk (fun _ h => h.2)) (fun _ h => h.1)); have n1_ := Aside0.mk (Kd.R_mono (Kd.R_keep (IsS116.apart (show IsS116 w0 _ g s0_0 t1184 t1185 from by repeat (first | (with_reducible first | exact HI0.out | apply IsS116.alloc | apply IsS116.drewN | apply IsS116.drew | apply IsS116.set_1 | apply IsS116.set_2) | exact HI0.out)) (vR_ HO1180.out) (by decide)) hk (fun _ h => h.2)) (fun _ h => h.1)); have n2_ := Aside0.mk (Kd.R_mono (Kd.R_keep (IsS116.apart (show IsS116 w0 _ g s0_0 t1184 t1185 from by repeat (first | (with_reducible first | exact HI0.out | apply IsS116.alloc | apply IsS116.drewN | apply IsS116.drew | apply IsS116.set_1 | apply IsS116.set_2) | exact HI0.out)) (vR_ HO1195.out) (by decide)) hk (fun _ h => h.2)) (fun _ h => h.1)); have n3_ := Aside0.mk (KeepBut.trans (by repeat (first | (with_reducible first | exact HK.out | apply KeepBut.set_ | apply keep_drewN | apply keep_drew | apply keep_alloc) | exact HK.out)) hk (.inl rfl)); have n4_ := Aside0.mk (hb); have n5_ := Aside0.mk (hi); clear HO_3; clear HO1180; clear HO1195; clear HK; clear HB; clear HI0; have HO_3 := n0_; have HO1180 := n1_; have HO1195 := n2_; have HK := n3_; have HB := n4_; have HI0 := n5_; clear n0_ n1_ n2_ n3_ n4_ n5_; (try clear hb); (try clear hk); (try clear hi)) | ((with_reducible refine gate_callee (f := 117) rfl ?_); refine gL_ (some 33) Try.func117 #[.pointer (some ⟨g, 0, none⟩), .int .i64 9] ?_; (with_reducible refine (spec_l1Below.calls g s0_0 t1197 t1198 9 t1199 t1200 t1201 w0 _ ?side1 ?side2 A20.out).mono ?_); (case side1 => repeat (first | (with_reducible first | exact HI0.out | apply IsS116.alloc | apply IsS116.drewN | apply IsS116.drew | apply IsS116.set_1 | apply IsS116.set_2) | exact HI0.out)); (case side2 => repeat (first | (with_reducible first | exact HB.out | apply below_alloc | apply pw_below_drewN | apply below_drew1 | refine below_set ?_ (IsS116.ge HI0.out)) | exact HB.out)); rintro e w26 ⟨rfl, hi, hb, hk⟩; refine ⟨_, rfl, ?_⟩; have n0_ := Aside0.mk (Kd.S_mono (Kd.S_keep (IsS116.apartS (show IsS116 w0 _ g s0_0 t1197 t1198 from by repeat (first | (with_reducible first | exact HI0.out | apply IsS116.alloc | apply IsS116.drewN | apply IsS116.drew | apply IsS116.set_1 | apply IsS116.set_2) | exact HI0.out)) (vS_ HO_3.out) (by decide)) hk (fun _ h => h.2)) (fun _ h => h.1)); have n1_ := Aside0.mk (Kd.R_mono (Kd.R_keep (IsS116.apart (show IsS116 w0 _ g s0_0 t1197 t1198 from by repeat (first | (with_reducible first | exact HI0.out | apply IsS116.alloc | apply IsS116.drewN | apply IsS116.drew | apply IsS116.set_1 | apply IsS116.set_2) | exact HI0.out)) (vR_ HO1180.out) (by decide)) hk (fun _ h => h.2)) (fun _ h => h.1)); have n2_ := Aside0.mk (Kd.R_mono (Kd.R_keep (IsS116.apart (show IsS116 w0 _ g s0_0 t1197 t1198 from by repeat (first | (with_reducible first | exact HI0.out | apply IsS116.alloc | apply IsS116.drewN | apply IsS116.drew | apply IsS116.set_1 | apply IsS116.set_2) | exact HI0.out)) (vR_ HO1195.out) (by decide)) hk (fun _ h => h.2)) (fun _ h => h.1)); have n3_ := Aside0.mk (KeepBut.trans (by repeat (first | (with_reducible first | exact HK.out | apply KeepBut.set_ | apply keep_drewN | apply keep_drew | apply keep_alloc) | exact HK.out)) hk (.inl rfl)); have n4_ := Aside0.mk (hb); have n5_ := Aside0.mk (hi); clear HO_3; clear HO1180; clear HO1195; clear HK; clear HB; clear HI0; have HO_3 := n0_; have HO1180 := n1_; have HO1195 := n2_; have HK := n3_; have HB := n4_; have HI0 := n5_; clear n0_ n1_ n2_ n3_ n4_ n5_; (try clear hb); (try clear hk); (try clear hi); obtain ⟨Ao27, co27, eo27⟩ := Kd.R_slice HO1180.out; subst eo27) | ((with_reducible refine gate_callee (f := 26) rfl ?_); refine gL_ (some 34) Try.func26 #[.slice Ao10 x3_1.length co10, .slice Ao27 t1178.length co27, .string t1196, .int .i64 t1199] ?_; (with_reducible refine (spec_PutFile.calls k1 _ _ x3_1 _ _ t1178 t1196 t1199 t1202 t1203 _ ?side1 ?side2 ?side3 ?side4 A21.out).mono ?_); (case side1 => exact cC_ (Kd.S_reads' HO_3.out).2.2); (case side2 => exact (Kd.S_reads' HO_3.out).2.1); (case side3 => exact cC_ (Kd.R_reads' HO1180.out).2.2); (case side4 => exact (Kd.R_reads' HO1180.out).2.1); rintro e w28 ⟨v1204, rfl, ho0, hb⟩; refine ⟨_, rfl, ?_⟩; have n0_ := Aside0.mk (Kd.S_elder' (vS_ HO_3.out) (by first | exact Kd.S_base ho0 | exact Kd.S_base ho0) hb); have n1_ := Aside0.mk (Kd.R_below (vR_ HO1180.out) hb); have n2_ := Aside0.mk (Kd.R_below (vR_ HO1195.out) hb); have n3_ := Aside0.mk (Kd.S_lower (Kd.S_new' (Kd.S_new' (Kd.S_new' ho0 (Kd.S_lt (vS_ HO_3.out))) (Kd.R_lt (vR_ HO1180.out))) (Kd.R_lt (vR_ HO1195.out))) (keep_size (w := w) (g := g) (row := none) (by repeat (first | (with_reducible first | exact HK.out | apply KeepBut.set_ | apply keep_drewN | apply keep_drew | apply keep_alloc) | exact HK.out)))); have n4_ := Aside0.mk (IsS116.below (by repeat (first | (with_reducible first | exact HI0.out | apply IsS116.alloc | apply IsS116.drewN | apply IsS116.drew | apply IsS116.set_1 | apply IsS116.set_2) | exact HI0.out)) hb); have n5_ := Aside0.mk (KeepBut.trans (by repeat (first | (with_reducible first | exact HK.out | apply KeepBut.set_ | apply keep_drewN | apply keep_drew | apply keep_alloc) | exact HK.out)) (KeepBut.of_below hb g none) (.inl rfl)); have n6_ := Aside0.mk (below_step (by repeat (first | (with_reducible first | exact HB.out | apply below_alloc | apply pw_below_drewN | apply below_drew1 | refine below_set ?_ (IsS116.ge HI0.out)) | exact HB.out)) hb); clear HO_3; clear HO1180; clear HO1195; clear HI0; clear HK; clear HB; have HO_3 := n0_; have HO1180 := n1_; have HO1195 := n2_; have HO1205 := n3_; have HI0 := n4_; have HK := n5_; have HB := n6_; clear n0_ n1_ n2_ n3_ n4_ n5_ n6_; (try clear hb); (try clear hk); (try clear hi); (try clear ho0)))
      go_meet
      case rel => exact ⟨_, (t1202), (t1200), (t1201), H', ⟨by have := HK1.out; first | omega | exact Nat.le_refl _⟩, ⟨by (with_reducible repeat (first | apply Kd.S_alloc | apply Kd.S_drewN | apply Kd.S_drew)); exact Kd.S_mono HO1205.out (fun _ hk => trivial)⟩, ⟨by repeat (first | (with_reducible first | exact HI0.out | apply IsS116.alloc | apply IsS116.drewN | apply IsS116.drew | apply IsS116.set_1 | apply IsS116.set_2) | exact HI0.out)⟩, ⟨by repeat (first | (with_reducible first | exact HK.out | apply KeepBut.set_ | apply keep_drewN | apply keep_drew | apply keep_alloc) | exact HK.out)⟩, ⟨by repeat (first | (with_reducible first | exact HB.out | apply below_alloc | apply pw_below_drewN | apply below_drew1 | refine below_set ?_ (IsS116.ge HI0.out)) | exact HB.out)⟩⟩
   case rest =>
    clear HC9
    try clear c1
    try clear c2
    try clear p2
    try clear c6
    try clear c6b0
    try clear c8
    try clear c9
    try clear c11
    try clear c13
    try clear c24
    try clear c26
    try clear p2
    obtain ⟨kq, x3_8, x1001_8, x1002_8, HA, HJ8, HO_3, HI0, HK, HB⟩ := hcut
    cases kq with
    | zero => exact absurd HA.out (by simp [spec_l10Draw.j1])
    | succ kj8 =>
     have H := HA.out
     clear HA
     simp only [spec_l10Draw.j1] at H
     have HC29 := Aside0.mk H
     clear H
     go_upto_region 9 with (fail)
     go_cut [43] (fun v43 wc => ∃ (kq : Nat) (x43_28 : Bool) (x1001_28 : Int) (x1002_28 : Int), v43 = .bool x43_28 ∧ Aside0 (spec_l10Draw.j2 kq x3_8 x4_1 x43_28 s0_0 x1001_28 x1002_28 = some (r1, r2, r3)) ∧ Aside0 (kq ≤ kj8) ∧ Aside0 (Kd.S k57 57 wc w.heap.size (fun _ => True) u3 x3_8) ∧ Aside0 (IsS116 w0 wc g s0_0 x1001_28 x1002_28) ∧ Aside0 (KeepBut w wc g none) ∧ Aside0 (Below w0.heap.size w0 wc))
     case first =>
      have H := HC29.out
      clear HC29
      by_cases c30 : (x3_8.length : Int) > 0
      rotate_left
      · rw [if_neg c30] at H
        have c30b0 : decide (0 < (x3_8.length : Int)) = false := decide_eq_false c30
        have c30b1 : decide (0 < x3_8.length) = false := decide_eq_false (by omega)
        clear c30
        (first | rw [c30b0] | (simp only [i64_w, i32_w]; rw [c30b0]) | skip)
        have H' := Aside0.mk H
        clear H
        obtain ⟨Ao34, co34, eo34⟩ := Kd.S_slice HO_3.out
        subst eo34
        go_wp2
        go_meet
        case rel => exact ⟨_, (false), (x1001_8), (x1002_8), rs_, H', ⟨by have := HK1.out; have := HJ8.out; first | omega | exact Nat.le_refl _⟩, ⟨by (with_reducible repeat (first | apply Kd.S_alloc | apply Kd.S_drewN | apply Kd.S_drew)); exact HO_3.out⟩, ⟨by repeat (first | (with_reducible first | exact HI0.out | apply IsS116.alloc | apply IsS116.drewN | apply IsS116.drew | apply IsS116.set_1 | apply IsS116.set_2) | exact HI0.out)⟩, ⟨by repeat (first | (with_reducible first | exact HK.out | apply KeepBut.set_ | apply keep_drewN | apply keep_drew | apply keep_alloc) | exact HK.out)⟩, ⟨by repeat (first | (with_reducible first | exact HB.out | apply below_alloc | apply pw_below_drewN | apply below_drew1 | refine below_set ?_ (IsS116.ge HI0.out)) | exact HB.out)⟩⟩
      rw [if_pos c30] at H
      have c30b0 : decide (0 < (x3_8.length : Int)) = true := decide_eq_true c30
      have c30b1 : decide (0 < x3_8.length) = true := decide_eq_true (by omega)
      clear c30
      (first | rw [c30b0] | (simp only [i64_w, i32_w]; rw [c30b0]) | skip)
      obtain ⟨⟨t1206, t1207, t1208⟩, A31, H⟩ := bo_ H
      (try dsimp only at H)
      have H' := Aside0.mk H
      clear H
      obtain ⟨Ao32, co32, eo32⟩ := Kd.S_slice HO_3.out
      subst eo32
      go_wp2_with (first | (go_at_call 118; (with_reducible refine (spec_l1Once.calls g s0_0 x1001_8 x1002_8 3 t1206 t1207 t1208 w0 _ ?side1 ?side2 A31.out).mono ?_); (case side1 => repeat (first | (with_reducible first | exact HI0.out | apply IsS116.alloc | apply IsS116.drewN | apply IsS116.drew | apply IsS116.set_1 | apply IsS116.set_2) | exact HI0.out)); (case side2 => repeat (first | (with_reducible first | exact HB.out | apply below_alloc | apply pw_below_drewN | apply below_drew1 | refine below_set ?_ (IsS116.ge HI0.out)) | exact HB.out)); rintro e w33 ⟨rfl, hi, hb, hk⟩; have n0_ := Aside0.mk (Kd.S_mono (Kd.S_keep (IsS116.apartS (show IsS116 w0 _ g s0_0 x1001_8 x1002_8 from by repeat (first | (with_reducible first | exact HI0.out | apply IsS116.alloc | apply IsS116.drewN | apply IsS116.drew | apply IsS116.set_1 | apply IsS116.set_2) | exact HI0.out)) (vS_ HO_3.out) (by decide)) hk (fun _ h => h.2)) (fun _ h => h.1)); have n1_ := Aside0.mk (KeepBut.trans (by repeat (first | (with_reducible first | exact HK.out | apply KeepBut.set_ | apply keep_drewN | apply keep_drew | apply keep_alloc) | exact HK.out)) hk (.inl rfl)); have n2_ := Aside0.mk (hb); have n3_ := Aside0.mk (hi); clear HO_3; clear HK; clear HB; clear HI0; have HO_3 := n0_; have HK := n1_; have HB := n2_; have HI0 := n3_; clear n0_ n1_ n2_ n3_; (try clear hb); (try clear hk); (try clear hi)))
      go_meet
      case rel => exact ⟨_, (t1206), (t1207), (t1208), rs_, H', ⟨by have := HK1.out; have := HJ8.out; first | omega | exact Nat.le_refl _⟩, ⟨by (with_reducible repeat (first | apply Kd.S_alloc | apply Kd.S_drewN | apply Kd.S_drew)); exact HO_3.out⟩, ⟨by repeat (first | (with_reducible first | exact HI0.out | apply IsS116.alloc | apply IsS116.drewN | apply IsS116.drew | apply IsS116.set_1 | apply IsS116.set_2) | exact HI0.out)⟩, ⟨by repeat (first | (with_reducible first | exact HK.out | apply KeepBut.set_ | apply keep_drewN | apply keep_drew | apply keep_alloc) | exact HK.out)⟩, ⟨by repeat (first | (with_reducible first | exact HB.out | apply below_alloc | apply pw_below_drewN | apply below_drew1 | refine below_set ?_ (IsS116.ge HI0.out)) | exact HB.out)⟩⟩
     case rest =>
      clear HC29
      try clear c1
      try clear c2
      try clear p2
      try clear c3
      try clear c6
      try clear c6b0
      try clear c8
      try clear c9
      try clear c11
      try clear c13
      try clear c24
      try clear c26
      try clear c30
      try clear c30b0
      try clear c30b1
      try clear p2
      obtain ⟨kq, x43_28, x1001_28, x1002_28, rfl, HA, HJ28, HO_3, HI0, HK, HB⟩ := hcut
      cases kq with
      | zero => exact absurd HA.out (by simp [spec_l10Draw.j2])
      | succ kj28 =>
       have H := HA.out
       clear HA
       simp only [spec_l10Draw.j2] at H
       by_cases c35 : x43_28 = true
       · subst c35
         rw [if_pos rfl] at H
         obtain ⟨⟨t1209, t1210, t1211⟩, A36, H⟩ := bo_ H
         (try dsimp only at H)
         obtain ⟨⟨t1212, t1215, t1216⟩, A37, H⟩ := bo_ H
         (try dsimp only at H)
         by_cases c38 : 0 ≤ t1209
         rotate_left
         · exact absurd H (by rw [if_neg c38]; simp)
         rw [if_pos c38] at H
         have c38b0 : decide (0 ≤ t1209) = true := decide_eq_true c38
         clear c38
         by_cases c39 : t1209 < (x3_8.length : Int)
         rotate_left
         · exact absurd H (by rw [if_neg c39]; simp)
         rw [if_pos c39] at H
         have c39b0 : decide (t1209 < (x3_8.length : Int)) = true := decide_eq_true c39
         clear c39
         obtain ⟨y1217, hy1217⟩ : ∃ y_ : List (S57), y_ = (x3_8.set (t1209 : Int).toNat (⟨(rd_T57 x3_8 t1209).f0, (rd_T57 x3_8 t1209).f1, (rd_T57 x3_8 t1209).f2, (rd_T57 x3_8 t1209).f3, t1212⟩ : S57)) := ⟨_, rfl⟩
         replace H : (spec_l10Draw.l0 kj28 y1217 (wrap64 (x4_1 - 1)) s0_0 t1215 t1216) = some (r1, r2, r3) := by first | (rw [hy1217]; with_reducible exact H) | (have H2_ := (Option.bind_some _ _).symm.trans H; rw [hy1217]; with_reducible exact H2_) | (have H2_ := (Option.bind_some _ _).symm.trans H; with_reducible exact H2_) | with_reducible exact H | (rw [hy1217]; exact H) | exact H
         have Ny1217 := Aside0.mk hy1217
         clear hy1217
         have H' := Aside0.mk H
         clear H
         obtain ⟨Ao41, co41, eo41⟩ := Kd.S_slice HO_3.out
         subst eo41
         go_wp2_with (first | ((with_reducible refine gate_callee (f := 117) rfl ?_); refine gL_ (some 48) Try.func117 #[.pointer (some ⟨g, 0, none⟩), .int .i64 (x3_8.length : Int)] ?_; (with_reducible refine (spec_l1Below.calls g s0_0 x1001_28 x1002_28 (x3_8.length : Int) t1209 t1210 t1211 w0 _ ?side1 ?side2 A36.out).mono ?_); (case side1 => repeat (first | (with_reducible first | exact HI0.out | apply IsS116.alloc | apply IsS116.drewN | apply IsS116.drew | apply IsS116.set_1 | apply IsS116.set_2) | exact HI0.out)); (case side2 => repeat (first | (with_reducible first | exact HB.out | apply below_alloc | apply pw_below_drewN | apply below_drew1 | refine below_set ?_ (IsS116.ge HI0.out)) | exact HB.out)); rintro e w42 ⟨rfl, hi, hb, hk⟩; refine ⟨_, rfl, ?_⟩; have n0_ := Aside0.mk (Kd.S_mono (Kd.S_keep (IsS116.apartS (show IsS116 w0 _ g s0_0 x1001_28 x1002_28 from by repeat (first | (with_reducible first | exact HI0.out | apply IsS116.alloc | apply IsS116.drewN | apply IsS116.drew | apply IsS116.set_1 | apply IsS116.set_2) | exact HI0.out)) (vS_ HO_3.out) (by decide)) hk (fun _ h => h.2)) (fun _ h => h.1)); have n1_ := Aside0.mk (KeepBut.trans (by repeat (first | (with_reducible first | exact HK.out | apply KeepBut.set_ | apply keep_drewN | apply keep_drew | apply keep_alloc) | exact HK.out)) hk (.inl rfl)); have n2_ := Aside0.mk (hb); have n3_ := Aside0.mk (hi); clear HO_3; clear HK; clear HB; clear HI0; have HO_3 := n0_; have HK := n1_; have HB := n2_; have HI0 := n3_; clear n0_ n1_ n2_ n3_; (try clear hb); (try clear hk); (try clear hi)) | ((with_reducible refine gate_callee (f := 98) rfl ?_); refine gL_ (some 50) Try.func98 #[.pointer (some ⟨g, 0, none⟩)] ?_; (with_reducible refine (spec_l10Props.calls kj28 g s0_0 t1210 t1211 t1212 t1215 t1216 w0 _ ?side1 ?side2 A37.out).mono ?_); (case side1 => repeat (first | (with_reducible first | exact HI0.out | apply IsS116.alloc | apply IsS116.drewN | apply IsS116.drew | apply IsS116.set_1 | apply IsS116.set_2) | exact HI0.out)); (case side2 => repeat (first | (with_reducible first | exact HB.out | apply below_alloc | apply pw_below_drewN | apply below_drew1 | refine below_set ?_ (IsS116.ge HI0.out)) | exact HB.out)); rintro e w43 ⟨v1213, rfl, ho0, hi, hb, hk⟩; refine ⟨_, rfl, ?_⟩; have n0_ := Aside0.mk (Kd.S_mono (Kd.S_told (Kd.S_oldK (IsS116.apartS (show IsS116 w0 _ g s0_0 t1210 t1211 from by repeat (first | (with_reducible first | exact HI0.out | apply IsS116.alloc | apply IsS116.drewN | apply IsS116.drew | apply IsS116.set_1 | apply IsS116.set_2) | exact HI0.out)) (vS_ HO_3.out) (by decide)) hk) (by first | exact Kd.R_base ho0 | exact Kd.S_base ho0)) (fun _ h_ => h_.1)); have n1_ := Aside0.mk (Kd.R_lower ho0 (keep_size (w := w) (g := g) (row := none) (by repeat (first | (with_reducible first | exact HK.out | apply KeepBut.set_ | apply keep_drewN | apply keep_drew | apply keep_alloc) | exact HK.out)))); have n2_ := Aside0.mk (KeepBut.trans (by repeat (first | (with_reducible first | exact HK.out | apply KeepBut.set_ | apply keep_drewN | apply keep_drew | apply keep_alloc) | exact HK.out)) hk (.inl rfl)); have n3_ := Aside0.mk (hb); have n4_ := Aside0.mk (hi); clear HO_3; clear HK; clear HB; clear HI0; have HO_3 := n0_; have HO1214 := n1_; have HK := n2_; have HB := n3_; have HI0 := n4_; clear n0_ n1_ n2_ n3_ n4_; (try clear hb); (try clear hk); (try clear hi); (try clear ho0); have p40 : 0 ≤ (t1209 : Int) := of_decide_eq_true as_; have q40 : (t1209 : Int) < ((x3_8.length : Int) : Int) := of_decide_eq_true as_; obtain ⟨go40, co40, eo40, gb40, gl40, cl40, HG40⟩ := Kd.S_form HO_3.out (by omega); (first | cases eo40 | (injection eo40 with ea_ en_ ec_; (first | subst ea_ | (injection ea_ with ea_; subst ea_)); subst ec_; clear en_)); have GB40 := Aside0.mk gb40; have GG40 := Aside0.mk HG40; clear gb40 gl40 HG40; obtain ⟨_, ce40, hcl40, hM40, hcc40, hfr40, _, _⟩ := Kd.S_elem HO_3.out z57 (t1209 : Int) p40 q40; obtain ⟨ve40_0, ve40_4, rfl, ge40_0, ge40_4⟩ := k57_openM hM40; have hx40_0 : w43.cell? ⟨go40, (t1209 : Int).toNat * 5, none⟩ = some (ve40_0) := hcc40 0 _ rfl; have hx40_1 : w43.cell? ⟨go40, (t1209 : Int).toNat * 5 + 1, none⟩ = some (.bool ((rd_T57 x3_8 t1209).f1)) := hcc40 1 _ rfl; have hx40_2 : w43.cell? ⟨go40, (t1209 : Int).toNat * 5 + 2, none⟩ = some (.string ((rd_T57 x3_8 t1209).f2)) := hcc40 2 _ rfl; have hx40_3 : w43.cell? ⟨go40, (t1209 : Int).toNat * 5 + 3, none⟩ = some (.int .i64 ((rd_T57 x3_8 t1209).f3)) := hcc40 3 _ rfl; have hx40_4 : w43.cell? ⟨go40, (t1209 : Int).toNat * 5 + 4, none⟩ = some (ve40_4) := hcc40 4 _ rfl; have hf40_0 : w43.frozen? ⟨go40, (t1209 : Int).toNat * 5, none⟩ = false := hfr40 0; have hf40_1 : w43.frozen? ⟨go40, (t1209 : Int).toNat * 5 + 1, none⟩ = false := hfr40 1; have hf40_2 : w43.frozen? ⟨go40, (t1209 : Int).toNat * 5 + 2, none⟩ = false := hfr40 2; have hf40_3 : w43.frozen? ⟨go40, (t1209 : Int).toNat * 5 + 3, none⟩ = false := hfr40 3; have hf40_4 : w43.frozen? ⟨go40, (t1209 : Int).toNat * 5 + 4, none⟩ = false := hfr40 4; (try clear hcl40); (try clear hcc40); (try clear hfr40); (try clear hM40); replace p40 := eq_true p40; replace q40 := eq_true q40; obtain ⟨Ao46, co46, eo46⟩ := Kd.R_slice HO1214.out; subst eo46; have n_ := Aside0.mk (Kd.S_mono (ok' := (fun k_ => some k_ ≠ (.slice Ao46 t1212.length co46 : Value).ownBlock)) HO_3.out (fun k_ hk => hk.2)); clear HO_3; have HO_3 := n_; clear n_; have HX44 := Aside0.mk (show Kd.S k57 57 w43 w.heap.size (fun k_ => ((fun _ => True)) k_ ∧ ¬ ((fun k_ => some k_ = (.slice Ao46 t1212.length co46 : Value).ownBlock)) k_) (.slice (some ⟨go40, 0, none⟩) x3_8.length co41) x3_8 from (by (with_reducible repeat (first | apply Kd.S_alloc | apply Kd.S_drewN | apply Kd.S_drew)); exact Kd.S_mono HO_3.out (fun k_ hk => ⟨trivial, fun e_ => hk e_⟩))); obtain ⟨oki44, ce44, hcl44, hM44, hcc44, hfr44, hoki44, hH44⟩ := Kd.S_elem HX44.out z57 (t1209 : Int) (of_decide_eq_true as_) (by have h_ : (t1209 : Int) < ((x3_8.length : Int) : Int) := of_decide_eq_true as_; first | exact h_ | (have e_ := (Kd.S_reads' HO_3.out).1; omega) | simpa using h_); obtain ⟨ve44_0, ve44_4, rfl, ge44_0, ge44_4⟩ := k57_openM hM44; have HP44 := Kd.S_seg hH44 (of_decide_eq_true as_) (by have h_ : (t1209 : Int) < ((x3_8.length : Int) : Int) := of_decide_eq_true as_; first | exact h_ | (have e_ := (Kd.S_reads' HO_3.out).1; omega) | simpa using h_) (seg := [.slice Ao46 t1212.length co46]) (j := 4) (show 5 ≤ 5 from by decide) (x' := (⟨(rd_T57 x3_8 t1209).f0, (rd_T57 x3_8 t1209).f1, (rd_T57 x3_8 t1209).f2, (rd_T57 x3_8 t1209).f3, t1212⟩ : S57)) (k57_mkM _ _ _ (⟨(rd_T57 x3_8 t1209).f0, (rd_T57 x3_8 t1209).f1, (rd_T57 x3_8 t1209).f2, (rd_T57 x3_8 t1209).f3, t1212⟩ : S57) (Kd.R_mono ge44_0 (fun _ h_ => Or.inl h_)) (Kd.R_mono (Kd.R_tight rfl (Kd.R_mono (ok' := fun k_ => ((fun _ => True)) k_ ∧ k_ ≠ go40) (Kd.R_apart' (HO1214.out) (Kd.S_typed HO_3.out) (by decide)) (fun k_ hk => ⟨trivial, fun e_ => (hk.2) (by rw [e_]; rfl)⟩))) (fun _ h_ => Or.inr (h_)))) (fun _ hk => hk) (fun k_ hk_ => ((Kd.R_mono (ok' := fun k_ => ((fun _ => True)) k_ ∧ k_ ≠ go40) (Kd.R_apart' (HO1214.out) (Kd.S_typed HO_3.out) (by decide)) (fun k_ hk => ⟨trivial, fun e_ => (hk.2) (by rw [e_]; rfl)⟩))).1 k_ hk_.symm); have hx44_4 := hcc44 4 _ rfl; (try simp only [show (k57).sz = 5 from rfl, Nat.mul_one, Nat.add_zero] at hx44_4); have hf44_4 := hfr44 4; (try simp only [show (k57).sz = 5 from rfl, Nat.mul_one, Nat.add_zero] at hf44_4); (try clear hcl44); (try clear hcc44); (try clear hfr44); (try clear hM44); (try clear hoki44); (try clear hH44)) | ((with_reducible refine gate_store (t := 55) (p := 52) rfl ?_); refine store_event (t := 55) (p := 52) (v := ?vo_w45) (w1 := (w43.setCell ⟨go40, (t1209 : Int).toNat * 5 + 4, none⟩ (.slice Ao46 t1212.length co46))) ?hg ?ho ?hn ?hr ?_; (case ho => rfl); (case hg => rfl); (case hn => rfl); (case hr => first | (go_simp; done) | (go_simp; rfl)); intro w45 hw; have hg : w43.grownBy w45 (some go40) := (by rw [hw]; exact HP44.2); have hp_ : Kd.S k57 57 w45 w.heap.size (fun _ => True) (.slice (some ⟨go40, 0, none⟩) x3_8.length co41) y1217 := (by rw [hw, Ny1217.out]; exact HP44.1); clear HP44; have n0_ := Aside0.mk (hp_); have n1_ := Aside0.mk (IsS116.grown (by repeat (first | (with_reducible first | exact HI0.out | apply IsS116.alloc | apply IsS116.drewN | apply IsS116.drew | apply IsS116.set_1 | apply IsS116.set_2) | exact HI0.out)) hg (IsS116.own_neS HI0.out HO_3.out (by decide))); have n2_ := Aside0.mk ((by rw [hw]; exact below_set (HB.out) (Nat.le_trans HL.out GB40.out) : Below w0.heap.size w0 w45)); have n3_ := Aside0.mk (KeepBut.trans (by repeat (first | (with_reducible first | exact HK.out | apply KeepBut.set_ | apply keep_drewN | apply keep_drew | apply keep_alloc) | exact HK.out)) (KeepBut.of_grown hg g) (Kd.S_base2 HO_3.out)); clear HO_3; clear HI0; clear HB; clear HK; clear HO1214; have HO_3 := n0_; have HI0 := n1_; have HB := n2_; have HK := n3_; clear n0_ n1_ n2_ n3_; clear hg hw hp_))
         go_roundg kj28
         case measure => have := HK1.out; have := HJ8.out; have := HJ28.out; omega
         case rel => exact ⟨(y1217), (wrap64 (x4_1 - 1)), (t1215), (t1216), rs_, H', ⟨by have := HK1.out; have := HJ8.out; have := HJ28.out; omega⟩, ⟨by (with_reducible repeat (first | apply Kd.S_alloc | apply Kd.S_drewN | apply Kd.S_drew)); exact HO_3.out⟩, ⟨by repeat (first | (with_reducible first | exact HI0.out | apply IsS116.alloc | apply IsS116.drewN | apply IsS116.drew | apply IsS116.set_1 | apply IsS116.set_2) | exact HI0.out)⟩, ⟨by repeat (first | (with_reducible first | exact HK.out | apply KeepBut.set_ | apply keep_drewN | apply keep_drew | apply keep_alloc) | exact HK.out)⟩, ⟨by repeat (first | (with_reducible first | exact HB.out | apply below_alloc | apply pw_below_drewN | apply below_drew1 | refine below_set ?_ (IsS116.ge HI0.out)) | exact HB.out)⟩⟩
       · replace c35 := Bool.eq_false_iff.mpr c35
         subst c35
         rw [if_neg (show ¬ (false = true) by decide)] at H
         have H' := Aside0.mk H
         clear H
         go_wp2
         go_roundg kj28
         case measure => have := HK1.out; have := HJ8.out; have := HJ28.out; omega
         case rel => exact ⟨(x3_8), (wrap64 (x4_1 - 1)), (x1001_28), (x1002_28), rs_, H', ⟨by have := HK1.out; have := HJ8.out; have := HJ28.out; omega⟩, ⟨by (with_reducible repeat (first | apply Kd.S_alloc | apply Kd.S_drewN | apply Kd.S_drew)); exact HO_3.out⟩, ⟨by repeat (first | (with_reducible first | exact HI0.out | apply IsS116.alloc | apply IsS116.drewN | apply IsS116.drew | apply IsS116.set_1 | apply IsS116.set_2) | exact HI0.out)⟩, ⟨by repeat (first | (with_reducible first | exact HK.out | apply KeepBut.set_ | apply keep_drewN | apply keep_drew | apply keep_alloc) | exact HK.out)⟩, ⟨by repeat (first | (with_reducible first | exact HB.out | apply below_alloc | apply pw_below_drewN | apply below_drew1 | refine below_set ?_ (IsS116.ge HI0.out)) | exact HB.out)⟩⟩
set_option maxHeartbeats 16000000 in
set_option maxRecDepth 100000 in
theorem spec_DrawShelves.calls (k : Nat) (A0 : Option Addr) (c0 : Nat) (l0 : List Int) (r1 : List (S57)) (r2 : List ByteArray) (r3 : List ByteArray) (w : World) (hr0 : Kd.C (Kd.int .u8) w A0 l0.length l0) (hc0 : l0.length ≤ c0) (h : spec_DrawShelves.f k l0 = some (r1, r2, r3)) :
 Calls Try.prog 39 #[.slice A0 l0.length c0] w fun e w' => ∃ v0_ v1_ v2_ : Value, e = .returned (.tuple #[v0_, v1_, v2_]) ∧ Kd.S k57 57 w' w.heap.size (fun k_ => some k_ ≠ (v1_ : Value).ownBlock ∧ some k_ ≠ (v2_ : Value).ownBlock) v0_ r1 ∧ Kd.R Kd.string 9 w' w.heap.size (fun k_ => some k_ ≠ (v2_ : Value).ownBlock) v1_ r2 ∧ Kd.R Kd.string 9 w' w.heap.size (fun k_ => some k_ ≠ (v1_ : Value).ownBlock) v2_ r3 ∧ Below w.heap.size w w' := by
 have HR0 := Aside0.mk hr0
 have HC0 := Aside0.mk hc0
 clear hr0 hc0
 have HB := Aside0.mk (Below.refl w.heap.size w)
 have H : ((spec_l1New.f k l0).bind fun bt1218 => ((spec_l10Draw.f k bt1218.1 bt1218.2.1 bt1218.2.2).bind fun bt1222 => ((spec_l10Path.f k bt1218.1 bt1222.2.1 bt1222.2.2 bt1222.1).bind fun bt1227 => ((spec_l10Path.f k bt1218.1 bt1227.2.1 bt1227.2.2 bt1222.1).bind fun bt1232 => (some (bt1222.1, bt1227.1, bt1232.1)))))) = some (r1, r2, r3) := h
 clear h
 obtain ⟨⟨t1218, t1219, t1220⟩, A2, H⟩ := bo_ H
 (try dsimp only at H)
 obtain ⟨⟨t1222, t1225, t1226⟩, A3, H⟩ := bo_ H
 (try dsimp only at H)
 obtain ⟨⟨t1227, t1230, t1231⟩, A4, H⟩ := bo_ H
 (try dsimp only at H)
 obtain ⟨⟨t1232, t1235, t1236⟩, A5, H⟩ := bo_ H
 (try dsimp only at H)
 simp only [Option.some.injEq, Prod.mk.injEq] at H
 obtain ⟨rfl, rfl, rfl⟩ := H
 go_enter Try.func39, Try.ntmps39
 go_wp2_with (first | ((with_reducible refine gate_callee (f := 84) rfl ?_); refine gL_ (some 9) Try.func84 #[.slice A0 l0.length c0] ?_; (with_reducible refine (spec_l1New.calls k _ _ l0 t1218 t1219 t1220 w _ ?side1 ?side2 ?side3 A2.out).mono ?_); (case side1 => repeat (first | (with_reducible first | exact HB.out | apply below_alloc | apply pw_below_drewN | apply below_drew1) | exact HB.out)); (case side2 => exact HR0.out); (case side3 => exact HC0.out); rintro e w6 ⟨g1221, rfl, hi, hb, hb2⟩; refine ⟨_, rfl, ?_⟩; have n0_ := Aside0.mk (hb); have n1_ := Aside0.mk (hi); clear HB; have HB := n0_; have HI1221 := n1_; clear n0_ n1_; (try clear hb); (try clear hb2); (try clear hk); (try clear hi)) | ((with_reducible refine gate_callee (f := 85) rfl ?_); refine gL_ (some 11) Try.func85 #[.pointer (some ⟨g1221, 0, none⟩)] ?_; (with_reducible refine (spec_l10Draw.calls k g1221 t1218 t1219 t1220 t1222 t1225 t1226 w _ ?side1 ?side2 A3.out).mono ?_); (case side1 => repeat (first | (with_reducible first | exact HI1221.out | apply IsS116.alloc | apply IsS116.drewN | apply IsS116.drew | apply IsS116.set_1 | apply IsS116.set_2) | exact HI1221.out)); (case side2 => repeat (first | (with_reducible first | exact HB.out | apply below_alloc | apply pw_below_drewN | apply below_drew1 | refine below_set ?_ (IsS116.ge HI1221.out)) | exact HB.out)); rintro e w7 ⟨v1223, rfl, ho0, hi, hb, hk⟩; refine ⟨_, rfl, ?_⟩; have n0_ := Aside0.mk (Kd.S_lower ho0 (below_size (by repeat (first | (with_reducible first | exact HB.out | apply below_alloc | apply pw_below_drewN | apply below_drew1 | refine below_set ?_ (IsS116.ge HI1221.out)) | exact HB.out)))); have n1_ := Aside0.mk (hb); have n2_ := Aside0.mk (hi); clear HB; clear HI1221; have HO1224 := n0_; have HB := n1_; have HI1221 := n2_; clear n0_ n1_ n2_; (try clear hb); (try clear hb2); (try clear hk); (try clear hi); (try clear ho0); obtain ⟨Ao8, co8, eo8⟩ := Kd.S_slice HO1224.out; subst eo8) | ((with_reducible refine gate_callee (f := 86) rfl ?_); refine gL_ (some 14) Try.func86 #[.pointer (some ⟨g1221, 0, none⟩), .slice Ao8 t1222.length co8] ?_; (with_reducible refine (spec_l10Path.calls k g1221 t1218 t1225 t1226 _ _ t1222 t1227 t1230 t1231 w _ ?side1 ?side2 ?side3 ?side4 A4.out).mono ?_); (case side1 => repeat (first | (with_reducible first | exact HI1221.out | apply IsS116.alloc | apply IsS116.drewN | apply IsS116.drew | apply IsS116.set_1 | apply IsS116.set_2) | exact HI1221.out)); (case side2 => repeat (first | (with_reducible first | exact HB.out | apply below_alloc | apply pw_below_drewN | apply below_drew1 | refine below_set ?_ (IsS116.ge HI1221.out)) | exact HB.out)); (case side3 => exact Kd.C_foot_own ((Kd.S_R (IsS116.apartS (show IsS116 w _ g1221 t1218 t1225 t1226 from by repeat (first | (with_reducible first | exact HI1221.out | apply IsS116.alloc | apply IsS116.drewN | apply IsS116.drew | apply IsS116.set_1 | apply IsS116.set_2) | exact HI1221.out)) (vS_ HO1224.out) (by decide)))) (fun _ h_ => h_.2)); (case side4 => exact (Kd.S_reads' HO1224.out).2.1); rintro e w9 ⟨v1228, rfl, ho0, hi, hb, hk⟩; refine ⟨_, rfl, ?_⟩; have n0_ := Aside0.mk (Kd.S_mono (Kd.S_told (Kd.S_oldK (IsS116.apartS (show IsS116 w _ g1221 t1218 t1225 t1226 from by repeat (first | (with_reducible first | exact HI1221.out | apply IsS116.alloc | apply IsS116.drewN | apply IsS116.drew | apply IsS116.set_1 | apply IsS116.set_2) | exact HI1221.out)) (vS_ HO1224.out) (by decide)) hk) (by first | exact Kd.R_base ho0 | exact Kd.S_base ho0)) (fun _ h_ => h_.1)); have n1_ := Aside0.mk (Kd.R_lower ho0 (below_size (by repeat (first | (with_reducible first | exact HB.out | apply below_alloc | apply pw_below_drewN | apply below_drew1 | refine below_set ?_ (IsS116.ge HI1221.out)) | exact HB.out)))); have n2_ := Aside0.mk (hb); have n3_ := Aside0.mk (hi); clear HO1224; clear HB; clear HI1221; have HO1224 := n0_; have HO1229 := n1_; have HB := n2_; have HI1221 := n3_; clear n0_ n1_ n2_ n3_; (try clear hb); (try clear hb2); (try clear hk); (try clear hi); (try clear ho0)) | ((with_reducible refine gate_callee (f := 86) rfl ?_); refine gL_ (some 19) Try.func86 #[.pointer (some ⟨g1221, 0, none⟩), .slice Ao8 t1222.length co8] ?_; (with_reducible refine (spec_l10Path.calls k g1221 t1218 t1230 t1231 _ _ t1222 t1232 t1235 t1236 w _ ?side1 ?side2 ?side3 ?side4 A5.out).mono ?_); (case side1 => repeat (first | (with_reducible first | exact HI1221.out | apply IsS116.alloc | apply IsS116.drewN | apply IsS116.drew | apply IsS116.set_1 | apply IsS116.set_2) | exact HI1221.out)); (case side2 => repeat (first | (with_reducible first | exact HB.out | apply below_alloc | apply pw_below_drewN | apply below_drew1 | refine below_set ?_ (IsS116.ge HI1221.out)) | exact HB.out)); (case side3 => exact Kd.C_foot_own ((Kd.S_R (IsS116.apartS (show IsS116 w _ g1221 t1218 t1230 t1231 from by repeat (first | (with_reducible first | exact HI1221.out | apply IsS116.alloc | apply IsS116.drewN | apply IsS116.drew | apply IsS116.set_1 | apply IsS116.set_2) | exact HI1221.out)) (vS_ HO1224.out) (by decide)))) (fun _ h_ => h_.2)); (case side4 => exact (Kd.S_reads' HO1224.out).2.1); rintro e w10 ⟨v1233, rfl, ho0, hi, hb, hk⟩; refine ⟨_, rfl, ?_⟩; have n0_ := Aside0.mk (Kd.S_mono (Kd.S_told (Kd.S_oldK (IsS116.apartS (show IsS116 w _ g1221 t1218 t1230 t1231 from by repeat (first | (with_reducible first | exact HI1221.out | apply IsS116.alloc | apply IsS116.drewN | apply IsS116.drew | apply IsS116.set_1 | apply IsS116.set_2) | exact HI1221.out)) (vS_ HO1224.out) (by decide)) hk) (by first | exact Kd.R_base ho0 | exact Kd.S_base ho0)) (fun _ h_ => h_.1)); have n1_ := Aside0.mk (Kd.R_mono (Kd.R_told (Kd.R_oldK (IsS116.apart (show IsS116 w _ g1221 t1218 t1230 t1231 from by repeat (first | (with_reducible first | exact HI1221.out | apply IsS116.alloc | apply IsS116.drewN | apply IsS116.drew | apply IsS116.set_1 | apply IsS116.set_2) | exact HI1221.out)) (vR_ HO1229.out) (by decide)) hk) (by first | exact Kd.R_base ho0 | exact Kd.S_base ho0)) (fun _ h_ => h_.1)); have n2_ := Aside0.mk (Kd.R_lower (Kd.R_new' ho0 (Kd.R_lt (vR_ HO1229.out))) (below_size (by repeat (first | (with_reducible first | exact HB.out | apply below_alloc | apply pw_below_drewN | apply below_drew1 | refine below_set ?_ (IsS116.ge HI1221.out)) | exact HB.out)))); have n3_ := Aside0.mk (hb); have n4_ := Aside0.mk (hi); clear HO1224; clear HO1229; clear HB; clear HI1221; have HO1224 := n0_; have HO1229 := n1_; have HO1234 := n2_; have HB := n3_; have HI1221 := n4_; clear n0_ n1_ n2_ n3_ n4_; (try clear hb); (try clear hb2); (try clear hk); (try clear hi); (try clear ho0)))
 go_ret3
 exact ⟨_, _, _, rr_, by (with_reducible repeat (first | apply Kd.S_alloc | apply Kd.S_drewN | apply Kd.S_drew)); exact Kd.S_mono HO1224.out (fun _ hk => ⟨hk.1.2, hk.2⟩), by (with_reducible repeat (first | apply Kd.R_alloc | apply Kd.R_drewN | apply Kd.R_drew)); exact Kd.R_mono HO1229.out (fun _ hk => hk.2), by (with_reducible repeat (first | apply Kd.R_alloc | apply Kd.R_drewN | apply Kd.R_drew)); exact Kd.R_mono HO1234.out (fun _ hk => hk.2), by repeat (first | (with_reducible first | exact HB.out | apply below_alloc | apply pw_below_drewN | apply below_drew1 | refine below_set ?_ (IsS116.ge HI1221.out)) | exact HB.out)⟩
end Go.Proofs.Ytbgggcgjijljkaa.Q
