/- The contract of laws.markResS: what it writes of a row whose elements' rows lie apart. No condition. -/
import Derived.Test.YteabkidfgdmmpaaVKidsOfG0
import Derived.Test.YteabkidfgdmmpaaVKidsOfG4
import Derived.Test.YteabkidfgdmmpaaWWords
import Derived.Test.YteabkidfgdmmpaaWLast
import Derived.Test.YteabkidfgdmmpaaWApart
import Derived.Test.YteabkidfgdmmpaaWKept
import Derived.Test.YteabkidfgdmmpaaWMore
import Derived.Test.YteabkidfgdmmpaaProg
import Derived.Test.YteabkidfgdmmpaaVKidsOfG3
set_option linter.unusedVariables false
set_option linter.unusedSimpArgs false
namespace Go.Proofs.Yteabkidfgdmmpaa.Q
open Go.RowKit Go.Proofs.YteabkidfgdmmpaaW.PrintWords Go.Proofs.YteabkidfgdmmpaaW.PrintLast
def laws_markResS.l0 : Nat → List (S59) → Int → Int → Option (Int × List (S59))
  | 0, _, _, _ => none
  | k + 1, x0, x1, x5 => if x5 < (x0.length : Int) then (if 0 ≤ x5 then ((laws_markStringS.f k ((rd_T59 x0 x5).f0) x1).bind fun bt1a => ((laws_markText.f k (wrap64 (bt1a.1 + 1))).bind fun t2 => ((laws_markPropS.f k ((rd_T59 x0 x5).f4) (wrap64 ((wrap64 ((wrap64 (bt1a.1 + 1)) + 1)) + 1))).bind fun bt3a => (laws_markResS.l0 k (x0.set (x5 : Int).toNat (⟨bt1a.2, (bt1a.1.tmod 3 == 0), t2, (wrap64 ((wrap64 (bt1a.1 + 1)) + 1)), bt3a.2⟩ : S59)) bt3a.1 (wrap64 (x5 + 1)))))) else none) else (some (x1, x0))
def laws_markResS.f (k : Nat) (l0 : List (S59)) (a1 : Int) : Option (Int × List (S59)) := laws_markResS.l0 k l0 a1 0
theorem markResS_cells {α : Type} {d : Kd α} {e g n cap : Nat} {w : World} {base : Nat} {ok oki : Nat → Prop} {xs : List α} {i : Int} {c : List Value} (h : Kd.H d e w base ok (.slice (some ⟨g, 0, none⟩) n cap) xs i oki c) (h0 : 0 ≤ i) (h1 : i < n) : (∀ j u, c[j]? = some u → w.cell? ⟨g, i.toNat * d.sz + j, none⟩ = some u) ∧ (∀ j, w.frozen? ⟨g, i.toNat * d.sz + j, none⟩ = false) := by
  obtain ⟨rows, _, hraw, _, _, hcc, _⟩ := Kd.H_raw h h0 h1
  obtain ⟨_, _, _, _, hfr⟩ := Kd.R_elem hraw [] i h0 h1
  exact ⟨hcc, hfr⟩
set_option maxHeartbeats 16000000 in
set_option maxRecDepth 100000 in
theorem laws_markResS.calls (k : Nat) (P0_ : Nat → Prop) (u9000_ : Value) (l0 : List (S59)) (a1 : Int) (r1 : Int) (r2 : List (S59)) (w0 w : World) (hB : Below w0.heap.size w0 w) (ho0 : Kd.S k59 59 w w0.heap.size P0_ u9000_ l0) (h : laws_markResS.f k l0 a1 = some (r1, r2)) :
    Calls Try.prog 43 #[u9000_, .int .i64 a1] w fun e w' => e = .returned (.int .i64 r1) ∧ Kd.S k59 59 w' w0.heap.size P0_ u9000_ r2 ∧ Below w0.heap.size w0 w' ∧ Kept w w' P0_ := by
  obtain ⟨A0, c0, rfl⟩ := Kd.S_slice ho0
  have HO := Aside0.mk ho0
  have HB := Aside0.mk hB
  have HK := Aside0.mk (Kept.refl w P0_)
  clear hB ho0
  have H' : Aside0 (laws_markResS.l0 k l0 a1 0 = some (r1, r2)) := ⟨h⟩
  clear h
  go_enter Try.func43, Try.ntmps43
  go_wp2
  go_loopg [1, 5] k (fun kq v1 v5 w' => ∃ (x0_1 : List (S59)) (x1_1 : Int) (x5_1 : Int), v1 = .int .i64 x1_1 ∧ v5 = .int .i64 x5_1 ∧ Aside0 (laws_markResS.l0 kq x0_1 x1_1 x5_1 = some (r1, r2)) ∧ Aside0 (kq ≤ k) ∧ Aside0 (Kd.S k59 59 w' w0.heap.size P0_ (.slice A0 l0.length c0) x0_1) ∧ Aside0 (x0_1.length = l0.length) ∧ Aside0 (Below w0.heap.size w0 w') ∧ Aside0 (Kept w w' P0_))
  case atStart => exact ⟨l0, a1, 0, rfl, rfl, H', ⟨Nat.le_refl _⟩, HO, ⟨rfl⟩, HB, HK⟩
  case round =>
    clear H' HO HB HK
    obtain ⟨x0, x1, x5, rfl, rfl, HA, HK1, HO, HL, HB, HK⟩ := hrel
    cases gk with
    | zero => exact absurd HA.out (by simp [laws_markResS.l0])
    | succ k1 =>
      have H := HA.out
      clear HA
      simp only [laws_markResS.l0] at H
      by_cases c3 : x5 < (x0.length : Int)
      rotate_left
      · rw [if_neg c3] at H
        have c3b0 : decide (x5 < (l0.length : Int)) = false := decide_eq_false (by rw [← HL.out]; exact c3)
        obtain ⟨rfl, rfl⟩ := Prod.mk.inj (Option.some.inj H)
        go_wp2
        go_ret
        exact ⟨rfl, HO.out, HB.out, HK.out⟩
      rw [if_pos c3] at H
      have c3' : x5 < (l0.length : Int) := by rw [← HL.out]; exact c3
      have c3b0 : decide (x5 < (l0.length : Int)) = true := decide_eq_true c3'
      by_cases c4 : 0 ≤ x5
      rotate_left
      · rw [if_neg c4] at H
        exact absurd H (by simp)
      rw [if_pos c4] at H
      have c4b0 : decide (0 ≤ x5) = true := decide_eq_true c4
      replace H := Option.bind_eq_some_iff.mp H
      obtain ⟨⟨t1a, t1b⟩, A0_, H⟩ := H
      dsimp only at H
      have At1a := Aside0.mk A0_
      clear A0_
      replace H := Option.bind_eq_some_iff.mp H
      obtain ⟨t2, A0_, H⟩ := H
      have At2 := Aside0.mk A0_
      clear A0_
      replace H := Option.bind_eq_some_iff.mp H
      obtain ⟨⟨t3a, t3b⟩, A0_, H⟩ := H
      dsimp only at H
      have At3a := Aside0.mk A0_
      clear A0_
      have H' : Aside0 ((laws_markResS.l0 k1 (x0.set (x5 : Int).toNat (⟨t1b, (t1a.tmod 3 == 0), t2, (wrap64 ((wrap64 (t1a + 1)) + 1)), t3b⟩ : S59)) t3a (wrap64 (x5 + 1))) = some (r1, r2)) := ⟨H⟩
      clear H
      obtain ⟨g, cap, ev, hgb, hgl, _⟩ := Kd.S_form HO.out (by omega)
      injection ev with eA en ec
      subst eA
      subst ec
      clear en
      obtain ⟨oki, c, hcl, hM, hcc, hfr, hoki, hH⟩ := Kd.S_elem HO.out z59 x5 c4 c3'
      obtain ⟨v0, v4, rfl, g0, g4⟩ := k59_openM hM
      obtain ⟨Av0, cv0, rfl⟩ := Kd.R_slice g0
      obtain ⟨Av4, cv4, rfl⟩ := Kd.R_slice g4
      have HI0 : Aside0 (∀ k_, some k_ = (.slice Av0 (rd_T59 x0 x5).f0.length cv0 : Value).ownBlock → oki k_) := ⟨fun k_ h_ => g0.1 k_ h_.symm⟩
      have HP0 : Aside0 (Kd.string.R 9 wr w0.heap.size (fun k_ => some k_ = (.slice Av0 (rd_T59 x0 x5).f0.length cv0 : Value).ownBlock) (.slice Av0 (rd_T59 x0 x5).f0.length cv0 : Value) ((rd_T59 x0 x5).f0)) := ⟨Kd.R_tight rfl g0⟩
      have HI4 : Aside0 (∀ k_, some k_ = (.slice Av4 (rd_T59 x0 x5).f4.length cv4 : Value).ownBlock → oki k_) := ⟨fun k_ h_ => g4.1 k_ h_.symm⟩
      have HP4 : Aside0 (k71.R 71 wr w0.heap.size (fun k_ => some k_ = (.slice Av4 (rd_T59 x0 x5).f4.length cv4 : Value).ownBlock) (.slice Av4 (rd_T59 x0 x5).f4.length cv4 : Value) ((rd_T59 x0 x5).f4)) := ⟨Kd.R_tight rfl g4⟩
      have HA0_4 : Aside0 (∀ k_, some k_ = (.slice Av0 (rd_T59 x0 x5).f0.length cv0 : Value).ownBlock → some k_ = (.slice Av4 (rd_T59 x0 x5).f4.length cv4 : Value).ownBlock → False) := ⟨fun k_ h_ h2_ => by obtain ⟨_, e1_⟩ := Kd.R_typed g0 k_ h_.symm; obtain ⟨_, e2_⟩ := Kd.R_typed g4 k_ h2_.symm; have e3_ := Option.some.inj (e1_.symm.trans e2_); injection e3_ with _ h9_ _; exact absurd h9_ (by decide)⟩
      have HH : Aside0 (Kd.H k59 59 wr w0.heap.size P0_ (.slice (some ⟨g, 0, none⟩) l0.length c0) x0 x5 oki [(.slice Av0 (rd_T59 x0 x5).f0.length cv0 : Value), .bool (rd_T59 x0 x5).f1, .string (rd_T59 x0 x5).f2, .int .i64 (rd_T59 x0 x5).f3, (.slice Av4 (rd_T59 x0 x5).f4.length cv4 : Value)]) := ⟨hH⟩
      have HN := Aside0.mk (fun k_ (h_ : oki k_) => (hoki k_ h_).2)
      have HQ := Aside0.mk (fun k_ (h_ : oki k_) => (hoki k_ h_).1)
      have HG : Aside0 (P0_ g) := ⟨(Kd.S_R HO.out).1 g rfl⟩
      have GB := Aside0.mk hgb
      clear hcl hM hcc hfr hoki hH hgb hgl HO g0 g4
      have hc_ := markResS_cells HH.out c4 c3'
      have hx0 : wr.cell? ⟨g, (x5 : Int).toNat * 5, none⟩ = some ((.slice Av0 (rd_T59 x0 x5).f0.length cv0 : Value)) := hc_.1 0 _ rfl
      have hx1 : wr.cell? ⟨g, (x5 : Int).toNat * 5 + 1, none⟩ = some (.bool (rd_T59 x0 x5).f1) := hc_.1 1 _ rfl
      have hx2 : wr.cell? ⟨g, (x5 : Int).toNat * 5 + 2, none⟩ = some (.string (rd_T59 x0 x5).f2) := hc_.1 2 _ rfl
      have hx3 : wr.cell? ⟨g, (x5 : Int).toNat * 5 + 3, none⟩ = some (.int .i64 (rd_T59 x0 x5).f3) := hc_.1 3 _ rfl
      have hx4 : wr.cell? ⟨g, (x5 : Int).toNat * 5 + 4, none⟩ = some ((.slice Av4 (rd_T59 x0 x5).f4.length cv4 : Value)) := hc_.1 4 _ rfl
      have hf0 : wr.frozen? ⟨g, (x5 : Int).toNat * 5, none⟩ = false := hc_.2 0
      have hf1 : wr.frozen? ⟨g, (x5 : Int).toNat * 5 + 1, none⟩ = false := hc_.2 1
      have hf2 : wr.frozen? ⟨g, (x5 : Int).toNat * 5 + 2, none⟩ = false := hc_.2 2
      have hf3 : wr.frozen? ⟨g, (x5 : Int).toNat * 5 + 3, none⟩ = false := hc_.2 3
      have hf4 : wr.frozen? ⟨g, (x5 : Int).toNat * 5 + 4, none⟩ = false := hc_.2 4
      clear hc_
      have c3k := Aside0.mk c3'
      have c4k := Aside0.mk c4
      replace c3 := eq_true c3'
      replace c4 := eq_true c4
      clear c3'
      go_wp2_with (first | ((with_reducible refine gate_callee (f := 22) rfl ?_); refine goesL_ (some 18) rfl rfl Try.func22 (by kernel_rfl) rfl #[(.slice Av0 (rd_T59 x0 x5).f0.length cv0 : Value), .int .i64 x1] rfl (by (try simp only [List.map_toArray, List.map_cons, List.map_nil]); first | done | rfl) ?_; (with_reducible refine (laws_markStringS.calls k1 (fun k_ => some k_ = (.slice Av0 (rd_T59 x0 x5).f0.length cv0 : Value).ownBlock) (.slice Av0 (rd_T59 x0 x5).f0.length cv0 : Value) ((rd_T59 x0 x5).f0) x1 t1a t1b w0 _ HB.out HP0.out At1a.out).mono ?_); rintro e w_1 ⟨rfl, hr_, hb_, hk_⟩; refine ⟨_, rfl, ?_⟩; have m0_ : Aside0 (Kd.H k59 59 w_1 w0.heap.size P0_ (.slice (some ⟨g, 0, none⟩) l0.length c0) x0 x5 oki [(.slice Av0 (rd_T59 x0 x5).f0.length cv0 : Value), .bool (rd_T59 x0 x5).f1, .string (rd_T59 x0 x5).f2, .int .i64 (rd_T59 x0 x5).f3, (.slice Av4 (rd_T59 x0 x5).f4.length cv4 : Value)]) := ⟨Kd.H_step HH.out (fun k_ _ hn_ hl_ => hk_.2 k_ hl_ (fun h3_ => hn_ (HI0.out k_ h3_)))⟩; have m1_ : Aside0 (Kd.string.R 9 w_1 w0.heap.size (fun k_ => some k_ = (.slice Av0 (rd_T59 x0 x5).f0.length cv0 : Value).ownBlock) (.slice Av0 (rd_T59 x0 x5).f0.length cv0 : Value) t1b) := ⟨Kd.R_tight rfl hr_⟩; have m2_ : Aside0 (k71.R 71 w_1 w0.heap.size (fun k_ => some k_ = (.slice Av4 (rd_T59 x0 x5).f4.length cv4 : Value).ownBlock) (.slice Av4 (rd_T59 x0 x5).f4.length cv4 : Value) ((rd_T59 x0 x5).f4)) := ⟨Kd.R_step HP4.out (fun k_ h1_ hl_ => hk_.2 k_ hl_ (fun h3_ => HA0_4.out k_ h3_ h1_))⟩; have m3_ : Aside0 (Below w0.heap.size w0 w_1) := ⟨hb_⟩; have m4_ : Aside0 (Kept w w_1 P0_) := ⟨Kept.then_ HK.out hk_ (fun k_ h_ => .inl (HQ.out k_ (HI0.out k_ h_)))⟩; clear HH HP0 HP4 HB HK; clear hx0 hf0 hx1 hf1 hx2 hf2 hx3 hf3 hx4 hf4; have HH := m0_; have HP0 := m1_; have HP4 := m2_; have HB := m3_; have HK := m4_; clear m0_ m1_ m2_ m3_ m4_; have hc_ := markResS_cells HH.out c4k.out c3k.out; have hx0 : w_1.cell? ⟨g, (x5 : Int).toNat * 5, none⟩ = some ((.slice Av0 (rd_T59 x0 x5).f0.length cv0 : Value)) := hc_.1 0 _ rfl; have hx1 : w_1.cell? ⟨g, (x5 : Int).toNat * 5 + 1, none⟩ = some (.bool (rd_T59 x0 x5).f1) := hc_.1 1 _ rfl; have hx2 : w_1.cell? ⟨g, (x5 : Int).toNat * 5 + 2, none⟩ = some (.string (rd_T59 x0 x5).f2) := hc_.1 2 _ rfl; have hx3 : w_1.cell? ⟨g, (x5 : Int).toNat * 5 + 3, none⟩ = some (.int .i64 (rd_T59 x0 x5).f3) := hc_.1 3 _ rfl; have hx4 : w_1.cell? ⟨g, (x5 : Int).toNat * 5 + 4, none⟩ = some ((.slice Av4 (rd_T59 x0 x5).f4.length cv4 : Value)) := hc_.1 4 _ rfl; have hf0 : w_1.frozen? ⟨g, (x5 : Int).toNat * 5, none⟩ = false := hc_.2 0; have hf1 : w_1.frozen? ⟨g, (x5 : Int).toNat * 5 + 1, none⟩ = false := hc_.2 1; have hf2 : w_1.frozen? ⟨g, (x5 : Int).toNat * 5 + 2, none⟩ = false := hc_.2 2; have hf3 : w_1.frozen? ⟨g, (x5 : Int).toNat * 5 + 3, none⟩ = false := hc_.2 3; have hf4 : w_1.frozen? ⟨g, (x5 : Int).toNat * 5 + 4, none⟩ = false := hc_.2 4; clear hc_; clear hr_ hb_ hk_) | ((with_reducible refine gate_store (t := 4) (p := 25) rfl ?_); refine store_event (t := 4) (p := 25) (v := ?vo_1) (w1 := (w_1.setCell ⟨g, (x5 : Int).toNat * 5 + 1, none⟩ (.bool (t1a.tmod 3 == 0)))) ?hg ?ho ?hn ?hr ?_; (case ho => rfl); (case hg => rfl); (case hn => rfl); (case hr => first | (go_simp; done) | (go_simp; rfl)); intro w_2 hw_; have hs_ := Kd.H_seg HH.out c4k.out c3k.out (seg := [.bool (t1a.tmod 3 == 0)]) (j := 1) (show 2 ≤ 5 by decide) (by intro q_ hq_; rcases List.mem_singleton.1 hq_ with rfl; rfl); have hg_ : w_1.grownBy w_2 (some g) := (by rw [hw_]; exact hs_.2); have m0_ : Aside0 (Kd.H k59 59 w_2 w0.heap.size P0_ (.slice (some ⟨g, 0, none⟩) l0.length c0) x0 x5 oki [(.slice Av0 (rd_T59 x0 x5).f0.length cv0 : Value), .bool (t1a.tmod 3 == 0), .string (rd_T59 x0 x5).f2, .int .i64 (rd_T59 x0 x5).f3, (.slice Av4 (rd_T59 x0 x5).f4.length cv4 : Value)]) := ⟨(by rw [hw_]; exact hs_.1)⟩; have m1_ : Aside0 (Kd.string.R 9 w_2 w0.heap.size (fun k_ => some k_ = (.slice Av0 (rd_T59 x0 x5).f0.length cv0 : Value).ownBlock) (.slice Av0 (rd_T59 x0 x5).f0.length cv0 : Value) t1b) := ⟨Kd.R_grown HP0.out hg_ (fun k_ h_ e_ => HN.out k_ (HI0.out k_ h_) (by injection e_))⟩; have m2_ : Aside0 (k71.R 71 w_2 w0.heap.size (fun k_ => some k_ = (.slice Av4 (rd_T59 x0 x5).f4.length cv4 : Value).ownBlock) (.slice Av4 (rd_T59 x0 x5).f4.length cv4 : Value) ((rd_T59 x0 x5).f4)) := ⟨Kd.R_grown HP4.out hg_ (fun k_ h_ e_ => HN.out k_ (HI4.out k_ h_) (by injection e_))⟩; have m3_ : Aside0 (Below w0.heap.size w0 w_2) := ⟨(by rw [hw_]; exact below_set HB.out GB.out)⟩; have m4_ : Aside0 (Kept w w_2 P0_) := ⟨Kept.of_grown hg_ HK.out (fun k_ e_ => .inl (by injection e_ with e_; rw [← e_]; exact HG.out))⟩; clear HH HP0 HP4 HB HK; clear hx0 hf0 hx1 hf1 hx2 hf2 hx3 hf3 hx4 hf4; have HH := m0_; have HP0 := m1_; have HP4 := m2_; have HB := m3_; have HK := m4_; clear m0_ m1_ m2_ m3_ m4_; have hc_ := markResS_cells HH.out c4k.out c3k.out; have hx0 : w_2.cell? ⟨g, (x5 : Int).toNat * 5, none⟩ = some ((.slice Av0 (rd_T59 x0 x5).f0.length cv0 : Value)) := hc_.1 0 _ rfl; have hx1 : w_2.cell? ⟨g, (x5 : Int).toNat * 5 + 1, none⟩ = some (.bool (t1a.tmod 3 == 0)) := hc_.1 1 _ rfl; have hx2 : w_2.cell? ⟨g, (x5 : Int).toNat * 5 + 2, none⟩ = some (.string (rd_T59 x0 x5).f2) := hc_.1 2 _ rfl; have hx3 : w_2.cell? ⟨g, (x5 : Int).toNat * 5 + 3, none⟩ = some (.int .i64 (rd_T59 x0 x5).f3) := hc_.1 3 _ rfl; have hx4 : w_2.cell? ⟨g, (x5 : Int).toNat * 5 + 4, none⟩ = some ((.slice Av4 (rd_T59 x0 x5).f4.length cv4 : Value)) := hc_.1 4 _ rfl; have hf0 : w_2.frozen? ⟨g, (x5 : Int).toNat * 5, none⟩ = false := hc_.2 0; have hf1 : w_2.frozen? ⟨g, (x5 : Int).toNat * 5 + 1, none⟩ = false := hc_.2 1; have hf2 : w_2.frozen? ⟨g, (x5 : Int).toNat * 5 + 2, none⟩ = false := hc_.2 2; have hf3 : w_2.frozen? ⟨g, (x5 : Int).toNat * 5 + 3, none⟩ = false := hc_.2 3; have hf4 : w_2.frozen? ⟨g, (x5 : Int).toNat * 5 + 4, none⟩ = false := hc_.2 4; clear hc_; clear hw_ hs_ hg_) | ((with_reducible refine gate_callee (f := 63) rfl ?_); refine goesL_ (some 31) rfl rfl Try.func63 (by kernel_rfl) rfl #[.int .i64 (wrap64 (t1a + 1))] rfl (by (try simp only [List.map_toArray, List.map_cons, List.map_nil]); first | done | rfl) ?_; (with_reducible refine (laws_markText.calls k1 (wrap64 (t1a + 1)) t2 _ At2.out).mono ?_); rintro e w_3 ⟨rfl, hb_⟩; refine ⟨_, rfl, ?_⟩; have m0_ : Aside0 (Kd.H k59 59 w_3 w0.heap.size P0_ (.slice (some ⟨g, 0, none⟩) l0.length c0) x0 x5 oki [(.slice Av0 (rd_T59 x0 x5).f0.length cv0 : Value), .bool (t1a.tmod 3 == 0), .string (rd_T59 x0 x5).f2, .int .i64 (rd_T59 x0 x5).f3, (.slice Av4 (rd_T59 x0 x5).f4.length cv4 : Value)]) := ⟨Kd.H_below HH.out hb_⟩; have m1_ : Aside0 (Kd.string.R 9 w_3 w0.heap.size (fun k_ => some k_ = (.slice Av0 (rd_T59 x0 x5).f0.length cv0 : Value).ownBlock) (.slice Av0 (rd_T59 x0 x5).f0.length cv0 : Value) t1b) := ⟨Kd.R_below HP0.out hb_⟩; have m2_ : Aside0 (k71.R 71 w_3 w0.heap.size (fun k_ => some k_ = (.slice Av4 (rd_T59 x0 x5).f4.length cv4 : Value).ownBlock) (.slice Av4 (rd_T59 x0 x5).f4.length cv4 : Value) ((rd_T59 x0 x5).f4)) := ⟨Kd.R_below HP4.out hb_⟩; have m3_ : Aside0 (Below w0.heap.size w0 w_3) := ⟨below_step HB.out hb_⟩; have m4_ : Aside0 (Kept w w_3 P0_) := ⟨Kept.below HK.out hb_⟩; clear HH HP0 HP4 HB HK; clear hx0 hf0 hx1 hf1 hx2 hf2 hx3 hf3 hx4 hf4; have HH := m0_; have HP0 := m1_; have HP4 := m2_; have HB := m3_; have HK := m4_; clear m0_ m1_ m2_ m3_ m4_; have hc_ := markResS_cells HH.out c4k.out c3k.out; have hx0 : w_3.cell? ⟨g, (x5 : Int).toNat * 5, none⟩ = some ((.slice Av0 (rd_T59 x0 x5).f0.length cv0 : Value)) := hc_.1 0 _ rfl; have hx1 : w_3.cell? ⟨g, (x5 : Int).toNat * 5 + 1, none⟩ = some (.bool (t1a.tmod 3 == 0)) := hc_.1 1 _ rfl; have hx2 : w_3.cell? ⟨g, (x5 : Int).toNat * 5 + 2, none⟩ = some (.string (rd_T59 x0 x5).f2) := hc_.1 2 _ rfl; have hx3 : w_3.cell? ⟨g, (x5 : Int).toNat * 5 + 3, none⟩ = some (.int .i64 (rd_T59 x0 x5).f3) := hc_.1 3 _ rfl; have hx4 : w_3.cell? ⟨g, (x5 : Int).toNat * 5 + 4, none⟩ = some ((.slice Av4 (rd_T59 x0 x5).f4.length cv4 : Value)) := hc_.1 4 _ rfl; have hf0 : w_3.frozen? ⟨g, (x5 : Int).toNat * 5, none⟩ = false := hc_.2 0; have hf1 : w_3.frozen? ⟨g, (x5 : Int).toNat * 5 + 1, none⟩ = false := hc_.2 1; have hf2 : w_3.frozen? ⟨g, (x5 : Int).toNat * 5 + 2, none⟩ = false := hc_.2 2; have hf3 : w_3.frozen? ⟨g, (x5 : Int).toNat * 5 + 3, none⟩ = false := hc_.2 3; have hf4 : w_3.frozen? ⟨g, (x5 : Int).toNat * 5 + 4, none⟩ = false := hc_.2 4; clear hc_; clear hb_) | ((with_reducible refine gate_store (t := 9) (p := 33) rfl ?_); refine store_event (t := 9) (p := 33) (v := ?vo_3) (w1 := (w_3.setCell ⟨g, (x5 : Int).toNat * 5 + 2, none⟩ (.string t2))) ?hg ?ho ?hn ?hr ?_; (case ho => rfl); (case hg => rfl); (case hn => rfl); (case hr => first | (go_simp; done) | (go_simp; rfl)); intro w_4 hw_; have hs_ := Kd.H_seg HH.out c4k.out c3k.out (seg := [.string t2]) (j := 2) (show 3 ≤ 5 by decide) (by intro q_ hq_; rcases List.mem_singleton.1 hq_ with rfl; rfl); have hg_ : w_3.grownBy w_4 (some g) := (by rw [hw_]; exact hs_.2); have m0_ : Aside0 (Kd.H k59 59 w_4 w0.heap.size P0_ (.slice (some ⟨g, 0, none⟩) l0.length c0) x0 x5 oki [(.slice Av0 (rd_T59 x0 x5).f0.length cv0 : Value), .bool (t1a.tmod 3 == 0), .string t2, .int .i64 (rd_T59 x0 x5).f3, (.slice Av4 (rd_T59 x0 x5).f4.length cv4 : Value)]) := ⟨(by rw [hw_]; exact hs_.1)⟩; have m1_ : Aside0 (Kd.string.R 9 w_4 w0.heap.size (fun k_ => some k_ = (.slice Av0 (rd_T59 x0 x5).f0.length cv0 : Value).ownBlock) (.slice Av0 (rd_T59 x0 x5).f0.length cv0 : Value) t1b) := ⟨Kd.R_grown HP0.out hg_ (fun k_ h_ e_ => HN.out k_ (HI0.out k_ h_) (by injection e_))⟩; have m2_ : Aside0 (k71.R 71 w_4 w0.heap.size (fun k_ => some k_ = (.slice Av4 (rd_T59 x0 x5).f4.length cv4 : Value).ownBlock) (.slice Av4 (rd_T59 x0 x5).f4.length cv4 : Value) ((rd_T59 x0 x5).f4)) := ⟨Kd.R_grown HP4.out hg_ (fun k_ h_ e_ => HN.out k_ (HI4.out k_ h_) (by injection e_))⟩; have m3_ : Aside0 (Below w0.heap.size w0 w_4) := ⟨(by rw [hw_]; exact below_set HB.out GB.out)⟩; have m4_ : Aside0 (Kept w w_4 P0_) := ⟨Kept.of_grown hg_ HK.out (fun k_ e_ => .inl (by injection e_ with e_; rw [← e_]; exact HG.out))⟩; clear HH HP0 HP4 HB HK; clear hx0 hf0 hx1 hf1 hx2 hf2 hx3 hf3 hx4 hf4; have HH := m0_; have HP0 := m1_; have HP4 := m2_; have HB := m3_; have HK := m4_; clear m0_ m1_ m2_ m3_ m4_; have hc_ := markResS_cells HH.out c4k.out c3k.out; have hx0 : w_4.cell? ⟨g, (x5 : Int).toNat * 5, none⟩ = some ((.slice Av0 (rd_T59 x0 x5).f0.length cv0 : Value)) := hc_.1 0 _ rfl; have hx1 : w_4.cell? ⟨g, (x5 : Int).toNat * 5 + 1, none⟩ = some (.bool (t1a.tmod 3 == 0)) := hc_.1 1 _ rfl; have hx2 : w_4.cell? ⟨g, (x5 : Int).toNat * 5 + 2, none⟩ = some (.string t2) := hc_.1 2 _ rfl; have hx3 : w_4.cell? ⟨g, (x5 : Int).toNat * 5 + 3, none⟩ = some (.int .i64 (rd_T59 x0 x5).f3) := hc_.1 3 _ rfl; have hx4 : w_4.cell? ⟨g, (x5 : Int).toNat * 5 + 4, none⟩ = some ((.slice Av4 (rd_T59 x0 x5).f4.length cv4 : Value)) := hc_.1 4 _ rfl; have hf0 : w_4.frozen? ⟨g, (x5 : Int).toNat * 5, none⟩ = false := hc_.2 0; have hf1 : w_4.frozen? ⟨g, (x5 : Int).toNat * 5 + 1, none⟩ = false := hc_.2 1; have hf2 : w_4.frozen? ⟨g, (x5 : Int).toNat * 5 + 2, none⟩ = false := hc_.2 2; have hf3 : w_4.frozen? ⟨g, (x5 : Int).toNat * 5 + 3, none⟩ = false := hc_.2 3; have hf4 : w_4.frozen? ⟨g, (x5 : Int).toNat * 5 + 4, none⟩ = false := hc_.2 4; clear hc_; clear hw_ hs_ hg_) | ((with_reducible refine gate_store (t := 3) (p := 40) rfl ?_); refine store_event (t := 3) (p := 40) (v := ?vo_4) (w1 := (w_4.setCell ⟨g, (x5 : Int).toNat * 5 + 3, none⟩ (.int .i64 (wrap64 ((wrap64 (t1a + 1)) + 1))))) ?hg ?ho ?hn ?hr ?_; (case ho => rfl); (case hg => rfl); (case hn => rfl); (case hr => first | (go_simp; done) | (go_simp; rfl)); intro w_5 hw_; have hs_ := Kd.H_seg HH.out c4k.out c3k.out (seg := [.int .i64 (wrap64 ((wrap64 (t1a + 1)) + 1))]) (j := 3) (show 4 ≤ 5 by decide) (by intro q_ hq_; rcases List.mem_singleton.1 hq_ with rfl; rfl); have hg_ : w_4.grownBy w_5 (some g) := (by rw [hw_]; exact hs_.2); have m0_ : Aside0 (Kd.H k59 59 w_5 w0.heap.size P0_ (.slice (some ⟨g, 0, none⟩) l0.length c0) x0 x5 oki [(.slice Av0 (rd_T59 x0 x5).f0.length cv0 : Value), .bool (t1a.tmod 3 == 0), .string t2, .int .i64 (wrap64 ((wrap64 (t1a + 1)) + 1)), (.slice Av4 (rd_T59 x0 x5).f4.length cv4 : Value)]) := ⟨(by rw [hw_]; exact hs_.1)⟩; have m1_ : Aside0 (Kd.string.R 9 w_5 w0.heap.size (fun k_ => some k_ = (.slice Av0 (rd_T59 x0 x5).f0.length cv0 : Value).ownBlock) (.slice Av0 (rd_T59 x0 x5).f0.length cv0 : Value) t1b) := ⟨Kd.R_grown HP0.out hg_ (fun k_ h_ e_ => HN.out k_ (HI0.out k_ h_) (by injection e_))⟩; have m2_ : Aside0 (k71.R 71 w_5 w0.heap.size (fun k_ => some k_ = (.slice Av4 (rd_T59 x0 x5).f4.length cv4 : Value).ownBlock) (.slice Av4 (rd_T59 x0 x5).f4.length cv4 : Value) ((rd_T59 x0 x5).f4)) := ⟨Kd.R_grown HP4.out hg_ (fun k_ h_ e_ => HN.out k_ (HI4.out k_ h_) (by injection e_))⟩; have m3_ : Aside0 (Below w0.heap.size w0 w_5) := ⟨(by rw [hw_]; exact below_set HB.out GB.out)⟩; have m4_ : Aside0 (Kept w w_5 P0_) := ⟨Kept.of_grown hg_ HK.out (fun k_ e_ => .inl (by injection e_ with e_; rw [← e_]; exact HG.out))⟩; clear HH HP0 HP4 HB HK; clear hx0 hf0 hx1 hf1 hx2 hf2 hx3 hf3 hx4 hf4; have HH := m0_; have HP0 := m1_; have HP4 := m2_; have HB := m3_; have HK := m4_; clear m0_ m1_ m2_ m3_ m4_; have hc_ := markResS_cells HH.out c4k.out c3k.out; have hx0 : w_5.cell? ⟨g, (x5 : Int).toNat * 5, none⟩ = some ((.slice Av0 (rd_T59 x0 x5).f0.length cv0 : Value)) := hc_.1 0 _ rfl; have hx1 : w_5.cell? ⟨g, (x5 : Int).toNat * 5 + 1, none⟩ = some (.bool (t1a.tmod 3 == 0)) := hc_.1 1 _ rfl; have hx2 : w_5.cell? ⟨g, (x5 : Int).toNat * 5 + 2, none⟩ = some (.string t2) := hc_.1 2 _ rfl; have hx3 : w_5.cell? ⟨g, (x5 : Int).toNat * 5 + 3, none⟩ = some (.int .i64 (wrap64 ((wrap64 (t1a + 1)) + 1))) := hc_.1 3 _ rfl; have hx4 : w_5.cell? ⟨g, (x5 : Int).toNat * 5 + 4, none⟩ = some ((.slice Av4 (rd_T59 x0 x5).f4.length cv4 : Value)) := hc_.1 4 _ rfl; have hf0 : w_5.frozen? ⟨g, (x5 : Int).toNat * 5, none⟩ = false := hc_.2 0; have hf1 : w_5.frozen? ⟨g, (x5 : Int).toNat * 5 + 1, none⟩ = false := hc_.2 1; have hf2 : w_5.frozen? ⟨g, (x5 : Int).toNat * 5 + 2, none⟩ = false := hc_.2 2; have hf3 : w_5.frozen? ⟨g, (x5 : Int).toNat * 5 + 3, none⟩ = false := hc_.2 3; have hf4 : w_5.frozen? ⟨g, (x5 : Int).toNat * 5 + 4, none⟩ = false := hc_.2 4; clear hc_; clear hw_ hs_ hg_) | ((with_reducible refine gate_callee (f := 77) rfl ?_); refine goesL_ (some 49) rfl rfl Try.func77 (by kernel_rfl) rfl #[(.slice Av4 (rd_T59 x0 x5).f4.length cv4 : Value), .int .i64 (wrap64 ((wrap64 ((wrap64 (t1a + 1)) + 1)) + 1))] rfl (by (try simp only [List.map_toArray, List.map_cons, List.map_nil]); first | done | rfl) ?_; (with_reducible refine (laws_markPropS.calls k1 (fun k_ => some k_ = (.slice Av4 (rd_T59 x0 x5).f4.length cv4 : Value).ownBlock) (.slice Av4 (rd_T59 x0 x5).f4.length cv4 : Value) ((rd_T59 x0 x5).f4) (wrap64 ((wrap64 ((wrap64 (t1a + 1)) + 1)) + 1)) t3a t3b w0 _ HB.out HP4.out At3a.out).mono ?_); rintro e w_6 ⟨rfl, hr_, hb_, hk_⟩; refine ⟨_, rfl, ?_⟩; have m0_ : Aside0 (Kd.H k59 59 w_6 w0.heap.size P0_ (.slice (some ⟨g, 0, none⟩) l0.length c0) x0 x5 oki [(.slice Av0 (rd_T59 x0 x5).f0.length cv0 : Value), .bool (t1a.tmod 3 == 0), .string t2, .int .i64 (wrap64 ((wrap64 (t1a + 1)) + 1)), (.slice Av4 (rd_T59 x0 x5).f4.length cv4 : Value)]) := ⟨Kd.H_step HH.out (fun k_ _ hn_ hl_ => hk_.2 k_ hl_ (fun h3_ => hn_ (HI4.out k_ h3_)))⟩; have m1_ : Aside0 (k71.R 71 w_6 w0.heap.size (fun k_ => some k_ = (.slice Av4 (rd_T59 x0 x5).f4.length cv4 : Value).ownBlock) (.slice Av4 (rd_T59 x0 x5).f4.length cv4 : Value) t3b) := ⟨Kd.R_tight rfl hr_⟩; have m2_ : Aside0 (Kd.string.R 9 w_6 w0.heap.size (fun k_ => some k_ = (.slice Av0 (rd_T59 x0 x5).f0.length cv0 : Value).ownBlock) (.slice Av0 (rd_T59 x0 x5).f0.length cv0 : Value) t1b) := ⟨Kd.R_step HP0.out (fun k_ h1_ hl_ => hk_.2 k_ hl_ (fun h3_ => HA0_4.out k_ h1_ h3_))⟩; have m3_ : Aside0 (Below w0.heap.size w0 w_6) := ⟨hb_⟩; have m4_ : Aside0 (Kept w w_6 P0_) := ⟨Kept.then_ HK.out hk_ (fun k_ h_ => .inl (HQ.out k_ (HI4.out k_ h_)))⟩; clear HH HP4 HP0 HB HK; clear hx0 hf0 hx1 hf1 hx2 hf2 hx3 hf3 hx4 hf4; have HH := m0_; have HP4 := m1_; have HP0 := m2_; have HB := m3_; have HK := m4_; clear m0_ m1_ m2_ m3_ m4_; have hc_ := markResS_cells HH.out c4k.out c3k.out; have hx0 : w_6.cell? ⟨g, (x5 : Int).toNat * 5, none⟩ = some ((.slice Av0 (rd_T59 x0 x5).f0.length cv0 : Value)) := hc_.1 0 _ rfl; have hx1 : w_6.cell? ⟨g, (x5 : Int).toNat * 5 + 1, none⟩ = some (.bool (t1a.tmod 3 == 0)) := hc_.1 1 _ rfl; have hx2 : w_6.cell? ⟨g, (x5 : Int).toNat * 5 + 2, none⟩ = some (.string t2) := hc_.1 2 _ rfl; have hx3 : w_6.cell? ⟨g, (x5 : Int).toNat * 5 + 3, none⟩ = some (.int .i64 (wrap64 ((wrap64 (t1a + 1)) + 1))) := hc_.1 3 _ rfl; have hx4 : w_6.cell? ⟨g, (x5 : Int).toNat * 5 + 4, none⟩ = some ((.slice Av4 (rd_T59 x0 x5).f4.length cv4 : Value)) := hc_.1 4 _ rfl; have hf0 : w_6.frozen? ⟨g, (x5 : Int).toNat * 5, none⟩ = false := hc_.2 0; have hf1 : w_6.frozen? ⟨g, (x5 : Int).toNat * 5 + 1, none⟩ = false := hc_.2 1; have hf2 : w_6.frozen? ⟨g, (x5 : Int).toNat * 5 + 2, none⟩ = false := hc_.2 2; have hf3 : w_6.frozen? ⟨g, (x5 : Int).toNat * 5 + 3, none⟩ = false := hc_.2 3; have hf4 : w_6.frozen? ⟨g, (x5 : Int).toNat * 5 + 4, none⟩ = false := hc_.2 4; clear hc_; clear hr_ hb_ hk_))
      go_roundg k1
      case measure => have := HK1.out; omega
      case rel => exact ⟨_, t3a, wrap64 (x5 + 1), rfl, rfl, H', ⟨by have := HK1.out; omega⟩, ⟨Kd.H_back HH.out (k59_mkM _ _ _ (⟨t1b, (t1a.tmod 3 == 0), t2, (wrap64 ((wrap64 (t1a + 1)) + 1)), t3b⟩ : S59) (Kd.R_mono HP0.out HI0.out) (Kd.R_mono HP4.out HI4.out)) (fun _ h_ => h_)⟩, ⟨by rw [List.length_set]; exact HL.out⟩, HB, HK⟩
end Go.Proofs.Yteabkidfgdmmpaa.Q

/- The contract of laws.markStringSS: what it writes of a row whose elements' rows lie apart. No condition. -/
set_option linter.unusedSimpArgs false
set_option linter.unusedVariables false
namespace Go.Proofs.Yteabkidfgdmmpaa.Q
open Go.RowKit Go.Proofs.YteabkidfgdmmpaaW.PrintWords Go.Proofs.YteabkidfgdmmpaaW.PrintLast
/-- What is read of a list of lists. -/
def rdSS (xs : List (List ByteArray)) (i : Int) : List ByteArray := xs.getD i.toNat []
def laws_markStringSS.l0 : Nat → List (List ByteArray) → Int → Int → Option (Int × List (List ByteArray))
  | 0, _, _, _ => none
  | k + 1, x0, x1, x5 => if x5 < (x0.length : Int) then (if 0 ≤ x5 then ((laws_markStringS.f k (rdSS x0 x5) x1).bind fun bt => laws_markStringSS.l0 k (x0.set x5.toNat bt.2) bt.1 (wrap64 (x5 + 1))) else none) else (some (x1, x0))
def laws_markStringSS.f (k : Nat) (l0 : List (List ByteArray)) (a1 : Int) : Option (Int × List (List ByteArray)) := laws_markStringSS.l0 k l0 a1 0
set_option maxHeartbeats 8000000 in
set_option maxRecDepth 100000 in
theorem laws_markStringSS.calls (k : Nat) (P0_ : Nat → Prop) (u9000_ : Value) (l0 : List (List ByteArray)) (a1 : Int) (r1 : Int) (r2 : List (List ByteArray)) (w0 w : World) (hB : Below w0.heap.size w0 w) (ho0 : Kd.S (Kd.slice 9 Kd.string) 22 w w0.heap.size P0_ u9000_ l0) (h : laws_markStringSS.f k l0 a1 = some (r1, r2)) :
    Calls Try.prog 44 #[u9000_, .int .i64 a1] w fun e w' => e = .returned (.int .i64 r1) ∧ Kd.S (Kd.slice 9 Kd.string) 22 w' w0.heap.size P0_ u9000_ r2 ∧ Below w0.heap.size w0 w' ∧ Kept w w' P0_ := by
  obtain ⟨A0, c0, rfl⟩ := Kd.S_slice ho0
  have HO := Aside0.mk ho0
  have HB := Aside0.mk hB
  have HK := Aside0.mk (Kept.refl w P0_)
  clear hB ho0
  have H : (laws_markStringSS.l0 k l0 a1 0) = some (r1, r2) := h
  clear h
  have H' := Aside0.mk H
  clear H
  go_enter Try.func44, Try.ntmps44
  go_wp2
  go_loopg [1, 5] k (fun kq v1 v5 w' => ∃ (x0_1 : List (List ByteArray)) (x1_1 : Int) (x5_1 : Int), v1 = .int .i64 x1_1 ∧ v5 = .int .i64 x5_1 ∧ Aside0 (laws_markStringSS.l0 kq x0_1 x1_1 x5_1 = some (r1, r2)) ∧ Aside0 (kq ≤ k) ∧ Aside0 (Kd.S (Kd.slice 9 Kd.string) 22 w' w0.heap.size P0_ (.slice A0 l0.length c0) x0_1) ∧ Aside0 (x0_1.length = l0.length) ∧ Aside0 (Below w0.heap.size w0 w') ∧ Aside0 (Kept w w' P0_))
  case atStart => exact ⟨l0, a1, 0, rfl, rfl, H', ⟨Nat.le_refl _⟩, HO, ⟨rfl⟩, HB, HK⟩
  case round =>
    clear H' HO HB HK
    obtain ⟨x0_1, x1_1, x5_1, rfl, rfl, HA, HK1, HO, HL, HB, HK⟩ := hrel
    cases gk with
    | zero => exact absurd HA.out (by simp [laws_markStringSS.l0])
    | succ k1 =>
      have H := HA.out
      clear HA
      simp only [laws_markStringSS.l0] at H
      by_cases c3 : x5_1 < (x0_1.length : Int)
      · rw [if_pos c3] at H
        have c3' : x5_1 < (l0.length : Int) := by rw [← HL.out]; exact c3
        have c3b0 : decide (x5_1 < (l0.length : Int)) = true := decide_eq_true c3'
        by_cases c4 : 0 ≤ x5_1
        · rw [if_pos c4] at H
          have c4b0 : decide (0 ≤ x5_1) = true := decide_eq_true c4
          replace H := Option.bind_eq_some_iff.mp H
          obtain ⟨⟨t1, t2⟩, A50, H⟩ := H
          have A5 := Aside0.mk A50
          clear A50
          have H' := Aside0.mk H
          clear H
          obtain ⟨g, cap, ev, hgb, hgl, _⟩ := Kd.S_form HO.out (by omega)
          injection ev with eA en ec
          subst eA
          subst ec
          clear en
          obtain ⟨oki, c, hcl, hM, hcc, hfr, hoki, hH⟩ := Kd.S_elem HO.out [] x5_1 c4 c3'
          obtain ⟨ve, rfl, ge⟩ := hM
          have hx := hcc 0 _ rfl
          (try simp only [show ((Kd.slice 9 Kd.string)).sz = 1 from rfl, Nat.mul_one, Nat.add_zero] at hx)
          obtain ⟨Av, cv, rfl⟩ := Kd.R_slice ge
          have GE := Aside0.mk (show Kd.R Kd.string 9 wr w0.heap.size oki (.slice Av (rdSS x0_1 x5_1).length cv) (rdSS x0_1 x5_1) from ge)
          replace hx : wr.cell? ⟨g, x5_1.toNat, none⟩ = some (.slice Av (rdSS x0_1 x5_1).length cv) := hx
          have HH := Aside0.mk hH
          have HI := Aside0.mk hoki
          clear hcl hcc hfr ge hH hoki
          replace c3 := eq_true c3'
          replace c4 := eq_true c4
          go_wp2_with ((with_reducible refine gate_callee (f := 22) rfl ?_); refine goesL_ (some 17) rfl rfl Try.func22 (by kernel_rfl) rfl #[.slice Av (rdSS x0_1 x5_1).length cv, .int .i64 x1_1] rfl (by (try simp only [List.map_toArray, List.map_cons, List.map_nil]); first | done | rfl) ?_; (with_reducible refine (laws_markStringS.calls k1 oki _ (rdSS x0_1 x5_1) x1_1 t1 t2 w0 _ HB.out GE.out A5.out).mono ?_); rintro e w8 ⟨rfl, hr, hb, hk⟩; refine ⟨_, rfl, ?_⟩; have hM8 := Kd.R_mono (ok' := oki) (Kd.R_tight rfl hr) (fun k hk => GE.out.1 k hk.symm); have hH8 := Kd.H_step HH.out (fun k _ hn hlt => hk.2 k hlt hn); have HO8 := Aside0.mk (Kd.H_back hH8 (Kd.M_row hM8) (fun _ h => h)); have HK8 := Aside0.mk (Kept.then_ HK.out hk (fun k h => .inl (HI.out k h).1)); have HB8 := Aside0.mk hb; clear hr hb hk hM8 hH8)
          go_roundg k1
          case measure => have := HK1.out; omega
          case rel => exact ⟨_, t1, wrap64 (x5_1 + 1), rfl, rfl, H', ⟨by have := HK1.out; omega⟩, HO8, ⟨by rw [List.length_set]; exact HL.out⟩, HB8, HK8⟩
        · rw [if_neg c4] at H
          exact absurd H (by simp)
      · rw [if_neg c3] at H
        have c3b0 : decide (x5_1 < (l0.length : Int)) = false := decide_eq_false (by rw [← HL.out]; exact c3)
        obtain ⟨rfl, rfl⟩ := Prod.mk.inj (Option.some.inj H)
        go_wp2
        go_ret
        exact ⟨rfl, HO.out, HB.out, HK.out⟩
end Go.Proofs.Yteabkidfgdmmpaa.Q

namespace Go.Proofs.Yteabkidfgdmmpaa.Q
open Go.RowKit Go.Proofs.YteabkidfgdmmpaaW.PrintWords Go.Proofs.YteabkidfgdmmpaaW.PrintLast Go.Proofs.YteabkidfgdmmpaaW.PrintMore
attribute [local go_sem] max2_int min2_int max_two min_two max_three min_three max_four min_four   -- for this text's walks alone
set_option linter.unusedVariables false
set_option linter.unusedSimpArgs false

/-! ### laws_heldStringSS: function 45 -/
def laws_heldStringSS.l0 : Nat → List (List ByteArray) → Int → Int → Option (Int)
  | 0, _, _, _ => none
  | k + 1, x0, x1, x5 => if x5 < (x0.length : Int) then (if 0 ≤ x5 then ((laws_heldStringS.f k (rd_L4 x0 x5) x1).bind fun t434 => (if t434 < 0 then (some (-1)) else (laws_heldStringSS.l0 k x0 t434 (wrap64 (x5 + 1))))) else (none)) else (some x1)
def laws_heldStringSS.f (k : Nat) (l0 : List (List ByteArray)) (a1 : Int) : Option (Int) := laws_heldStringSS.l0 k l0 a1 0
theorem laws_heldStringSS.mono_l : ∀ k, (∀ y0 y1 y2, LeO (laws_heldStringSS.l0 k y0 y1 y2) (laws_heldStringSS.l0 (k + 1) y0 y1 y2))
  | 0 => fun _ _ _ r h => by simp [laws_heldStringSS.l0] at h
  | k + 1 => by
    have ih0 := laws_heldStringSS.mono_l k
    · intro y0 y1 y2
      unfold laws_heldStringSS.l0
      repeat' first
      | (with_reducible exact ih0 _ _ _)
      | (with_reducible exact laws_heldStringS.mono _ _ _)
      | (with_reducible exact LeO.refl _)
      | (with_reducible exact LeO.none _)
      | (with_reducible refine LeO.ite ?_ ?_)
      | (with_reducible refine LeO.bind ?_ (fun _ => ?_))
      | exact ih0 _ _ _
      | exact laws_heldStringS.mono _ _ _
      | exact LeO.none _
      | refine LeO.ite ?_ ?_
      | refine LeO.bind ?_ (fun _ => ?_)
theorem laws_heldStringSS.mono : ∀ a0 a1 k, LeO (laws_heldStringSS.f k a0 a1) (laws_heldStringSS.f (k + 1) a0 a1) := by
  intro a0 a1 k
  have ih0 := laws_heldStringSS.mono_l k
  unfold laws_heldStringSS.f
  repeat' first
      | (with_reducible exact ih0 _ _ _)
      | (with_reducible exact laws_heldStringS.mono _ _ _)
      | (with_reducible exact LeO.refl _)
      | (with_reducible exact LeO.none _)
      | (with_reducible refine LeO.ite ?_ ?_)
      | (with_reducible refine LeO.bind ?_ (fun _ => ?_))
      | exact ih0 _ _ _
      | exact laws_heldStringS.mono _ _ _
      | exact LeO.none _
      | refine LeO.ite ?_ ?_
      | refine LeO.bind ?_ (fun _ => ?_)
set_option maxHeartbeats 8000000 in
set_option maxRecDepth 100000 in
theorem laws_heldStringSS.calls (k : Nat) (A0 : Option Addr) (c0 : Nat) (l0 : List (List ByteArray)) (a1 : Int) (r : Int) (w : World) (hr0 : Kd.C (Kd.slice 9 Kd.string) w A0 l0.length l0) (hc0 : l0.length ≤ c0) (h : laws_heldStringSS.f k l0 a1 = some r) :
    Calls Try.prog 45 #[.slice A0 l0.length c0, .int .i64 a1] w fun e w' => e = .returned (.int .i64 r) ∧ Below w.heap.size w w' := by
  have HR0 := Aside0.mk hr0
  have HC0 := Aside0.mk hc0
  clear hr0 hc0
  have HB := Aside0.mk (Below.refl w.heap.size w)
  have H : (laws_heldStringSS.l0 k l0 a1 0) = some r := h
  clear h
  have H' := Aside0.mk H
  clear H
  go_enter Try.func45, Try.ntmps45
  go_wp2
  go_loopg [1, 5] k (fun kq v1 v5 w' => ∃ (x1_1 : Int) (x5_1 : Int), v1 = .int .i64 x1_1 ∧ v5 = .int .i64 x5_1 ∧ Aside0 (laws_heldStringSS.l0 kq l0 x1_1 x5_1 = some r) ∧ Aside0 (kq ≤ k) ∧ Aside0 (Below w.heap.size w w'))
  case atStart => exact ⟨(a1), (0), (by first | rfl | (simp; done) | (simp [*]; done)), (by first | rfl | (simp; done) | (simp [*]; done)), H', ⟨Nat.le_refl _⟩, ⟨by repeat (first | (with_reducible first | exact HB.out | apply below_alloc | apply pw_below_drewN | apply below_drew1) | exact HB.out)⟩⟩
  case round =>
    clear H'
    try clear p2
    obtain ⟨x1_1, x5_1, rfl, rfl, HA, HK1, HB⟩ := hrel
    cases gk with
    | zero => exact absurd HA.out (by simp [laws_heldStringSS.l0])
    | succ k1 =>
      have H := HA.out
      clear HA
      simp only [laws_heldStringSS.l0] at H
      by_cases c3 : x5_1 < (l0.length : Int)
      · rw [if_pos c3] at H
        have c3b0 : decide (x5_1 < (l0.length : Int)) = true := decide_eq_true c3
        clear c3
        by_cases c4 : 0 ≤ x5_1
        · rw [if_pos c4] at H
          have c4b0 : decide (0 ≤ x5_1) = true := decide_eq_true c4
          clear c4
          replace H := Option.bind_eq_some_iff.mp H
          obtain ⟨t434, A50, H⟩ := H
          replace H : (if t434 < 0 then (some (-1)) else (laws_heldStringSS.l0 k1 l0 t434 (wrap64 (x5_1 + 1)))) = some r := H
          have A5 := Aside0.mk A50
          clear A50
          by_cases c6 : t434 < 0
          · rw [if_pos c6] at H
            have c6b0 : decide (t434 < 0) = true := decide_eq_true c6
            clear c6
            obtain rfl := Option.some.inj H
            have p433 : 0 ≤ (x5_1 : Int) := of_decide_eq_true (by first | (with_reducible assumption) | assumption)
            have q433 : x5_1 < (l0.length : Int) := of_decide_eq_true (by first | (with_reducible assumption) | assumption)
            obtain ⟨ad433, A433_0, c433_0, e433, hx433_0, hl433_0, hi433_0⟩ := at_L4 HR0.out x5_1 p433 q433
            cases e433
            replace hx433_0 := (HB.out.cell (World.block_lt_of_cell? w _ hx433_0)).trans hx433_0
            have HR433_0 := Aside0.mk hi433_0
            have HC433_0 := Aside0.mk hl433_0
            clear hi433_0 hl433_0
            replace p433 := eq_true p433
            replace q433 := eq_true q433
            go_wp2_with (first | ((with_reducible refine gate_callee (f := 23) rfl ?_); refine goesL_ (some 17) rfl rfl Try.func23 (by kernel_rfl) rfl #[.slice A433_0 (rd_L4 l0 x5_1).length c433_0, .int .i64 x1_1] rfl (by (try simp only [List.map_toArray, List.map_cons, List.map_nil]); first | done | rfl | (simp only [List.length_drop, List.length_take]; rfl)) ?_; (with_reducible refine (laws_heldStringS.calls k1 _ _ (rd_L4 l0 x5_1) x1_1 t434 _ ?side1 ?side2 A5.out).mono ?_); (case side1 => repeat (first | exact (Kd.C_below HR433_0.out HB.out) | (with_reducible refine Kd.C_alloc ?_ _) | (with_reducible refine Kd.C_drewN ?_ _) | (with_reducible refine Kd.C_drew ?_))); (case side2 => exact HC433_0.out); rintro e w7 ⟨rfl, hb⟩; refine ⟨_, rfl, ?_⟩; have n0_ := Aside0.mk (below_step (by repeat (first | (with_reducible first | exact HB.out | apply below_alloc | apply pw_below_drewN | apply below_drew1) | exact HB.out)) hb); clear HB; have HB := n0_; clear n0_; (try clear hb); (try clear hb2); (try clear hk); (try clear hi)))
            go_ret
            exact ⟨by first | rfl | (simp [errW_none, errW_some] <;> rfl) | (simp [*, errW_none, errW_some] <;> rfl), by repeat (first | (with_reducible first | exact HB.out | apply below_alloc | apply pw_below_drewN | apply below_drew1) | exact HB.out)⟩
          · rw [if_neg c6] at H
            have c6b0 : decide (t434 < 0) = false := decide_eq_false c6
            clear c6
            have H' := Aside0.mk H
            clear H
            have p433 : 0 ≤ (x5_1 : Int) := of_decide_eq_true (by first | (with_reducible assumption) | assumption)
            have q433 : x5_1 < (l0.length : Int) := of_decide_eq_true (by first | (with_reducible assumption) | assumption)
            obtain ⟨ad433, A433_0, c433_0, e433, hx433_0, hl433_0, hi433_0⟩ := at_L4 HR0.out x5_1 p433 q433
            cases e433
            replace hx433_0 := (HB.out.cell (World.block_lt_of_cell? w _ hx433_0)).trans hx433_0
            have HR433_0 := Aside0.mk hi433_0
            have HC433_0 := Aside0.mk hl433_0
            clear hi433_0 hl433_0
            replace p433 := eq_true p433
            replace q433 := eq_true q433
            go_wp2_with (first | ((with_reducible refine gate_callee (f := 23) rfl ?_); refine goesL_ (some 17) rfl rfl Try.func23 (by kernel_rfl) rfl #[.slice A433_0 (rd_L4 l0 x5_1).length c433_0, .int .i64 x1_1] rfl (by (try simp only [List.map_toArray, List.map_cons, List.map_nil]); first | done | rfl | (simp only [List.length_drop, List.length_take]; rfl)) ?_; (with_reducible refine (laws_heldStringS.calls k1 _ _ (rd_L4 l0 x5_1) x1_1 t434 _ ?side1 ?side2 A5.out).mono ?_); (case side1 => repeat (first | exact (Kd.C_below HR433_0.out HB.out) | (with_reducible refine Kd.C_alloc ?_ _) | (with_reducible refine Kd.C_drewN ?_ _) | (with_reducible refine Kd.C_drew ?_))); (case side2 => exact HC433_0.out); rintro e w8 ⟨rfl, hb⟩; refine ⟨_, rfl, ?_⟩; have n0_ := Aside0.mk (below_step (by repeat (first | (with_reducible first | exact HB.out | apply below_alloc | apply pw_below_drewN | apply below_drew1) | exact HB.out)) hb); clear HB; have HB := n0_; clear n0_; (try clear hb); (try clear hb2); (try clear hk); (try clear hi)))
            go_roundg k1
            case measure => have := HK1.out; omega
            case rel => exact ⟨(t434), (wrap64 (x5_1 + 1)), (by first | rfl | (simp; done) | (simp [*]; done)), (by first | rfl | (simp; done) | (simp [*]; done)), H', ⟨by have := HK1.out; omega⟩, ⟨by repeat (first | (with_reducible first | exact HB.out | apply below_alloc | apply pw_below_drewN | apply below_drew1) | exact HB.out)⟩⟩
        · rw [if_neg c4] at H
          exact absurd H (by simp)
      · rw [if_neg c3] at H
        have c3b0 : decide (x5_1 < (l0.length : Int)) = false := decide_eq_false c3
        clear c3
        obtain rfl := Option.some.inj H
        go_wp2
        go_ret
        exact ⟨by first | rfl | (simp [errW_none, errW_some] <;> rfl) | (simp [*, errW_none, errW_some] <;> rfl), by repeat (first | (with_reducible first | exact HB.out | apply below_alloc | apply pw_below_drewN | apply below_drew1) | exact HB.out)⟩

-- NOT PRINTED: function 10 (laws_FnExactKidsOf)

end Go.Proofs.Yteabkidfgdmmpaa.Q
