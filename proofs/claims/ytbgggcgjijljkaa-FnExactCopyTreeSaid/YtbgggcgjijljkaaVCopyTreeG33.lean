/- The contract of laws.markResS: what it writes of a row whose elements' rows lie apart. No condition. -/
import Derived.Test.YtbgggcgjijljkaaVCopyTreeG31
set_option linter.unusedVariables false
set_option linter.unusedSimpArgs false
namespace Go.Proofs.Ytbgggcgjijljkaa.Q
open Go.RowKit Go.Proofs.YtbgggcgjijljkaaW.PrintWords Go.Proofs.YtbgggcgjijljkaaW.PrintLast
def laws_markResS.l0 : Nat -> List (S57) -> Int -> Int -> Option (Int × List (S57))
 | 0, _, _, _ => none
 | k + 1, x0, x1, x5 => if x5 < (x0.length : Int) then (if 0 <= x5 then ((laws_markStringS.f k ((rd_T57 x0 x5).f0) x1).bind fun bt1a => ((laws_markText.f k (wrap64 (bt1a.1 + 1))).bind fun t2 => ((laws_markPropS.f k ((rd_T57 x0 x5).f4) (wrap64 ((wrap64 ((wrap64 (bt1a.1 + 1)) + 1)) + 1))).bind fun bt3a => (laws_markResS.l0 k (x0.set (x5 : Int).toNat (⟨bt1a.2, (bt1a.1.tmod 3 == 0), t2, (wrap64 ((wrap64 (bt1a.1 + 1)) + 1)), bt3a.2⟩ : S57)) bt3a.1 (wrap64 (x5 + 1)))))) else none) else (some (x1, x0))
def laws_markResS.f (k : Nat) (l0 : List (S57)) (a1 : Int) : Option (Int × List (S57)) := laws_markResS.l0 k l0 a1 0
theorem markResS_cells {α : Type} {d : Kd α} {e g n cap : Nat} {w : World} {base : Nat} {ok oki : Nat -> Prop} {xs : List α} {i : Int} {c : List Value} (h : Kd.H d e w base ok (.slice (some ⟨g, 0, none⟩) n cap) xs i oki c) (h0 : 0 <= i) (h1 : i < n) : (∀ j u, c[j]? = some u -> w.cell? ⟨g, i.toNat * d.sz + j, none⟩ = some u) /\ (∀ j, w.frozen? ⟨g, i.toNat * d.sz + j, none⟩ = false) := by
 obtain ⟨rows, _, hraw, _, _, hcc, _⟩ := Kd.H_raw h h0 h1
 obtain ⟨_, _, _, _, hfr⟩ := Kd.R_elem hraw [] i h0 h1
 exact ⟨hcc, hfr⟩
set_option maxHeartbeats 16000000 in
set_option maxRecDepth 100000 in
theorem laws_markResS.calls (k : Nat) (P0_ : Nat -> Prop) (u9000_ : Value) (l0 : List (S57)) (a1 : Int) (r1 : Int) (r2 : List (S57)) (w0 w : World) (hB : Below w0.heap.size w0 w) (ho0 : Kd.S k57 57 w w0.heap.size P0_ u9000_ l0) (h : laws_markResS.f k l0 a1 = some (r1, r2)) :
 Calls Try.prog 21 #[u9000_, .int .i64 a1] w fun e w' => e = .returned (.int .i64 r1) /\ Kd.S k57 57 w' w0.heap.size P0_ u9000_ r2 /\ Below w0.heap.size w0 w' /\ Kept w w' P0_ := by
 obtain ⟨A0, c0, rfl⟩ := Kd.S_slice ho0
 have HO := A_ ho0
 have HB := A_ hB
 have HK := A_ (Kept.refl w P0_)
 clear hB ho0
 have H' : Aside0 (laws_markResS.l0 k l0 a1 0 = some (r1, r2)) := ⟨h⟩
 clear h
 go_enter Try.func21, Try.ntmps21
 go_wp2
 go_loopg [1, 5] k (fun kq v1 v5 w' => ∃ (x0_1 : List (S57)) (x1_1 : Int) (x5_1 : Int), v1 = .int .i64 x1_1 /\ v5 = .int .i64 x5_1 /\ Aside0 (laws_markResS.l0 kq x0_1 x1_1 x5_1 = some (r1, r2)) /\ Aside0 (kq <= k) /\ Aside0 (Kd.S k57 57 w' w0.heap.size P0_ (.slice A0 l0.length c0) x0_1) /\ Aside0 (x0_1.length = l0.length) /\ Aside0 (Below w0.heap.size w0 w') /\ Aside0 (Kept w w' P0_))
 case atStart => exact ⟨l0, a1, 0, rfl, rfl, H', ⟨Nat.le_refl _⟩, HO, ⟨rfl⟩, HB, HK⟩
 case round =>
  clear H' HO HB HK
  obtain ⟨x0, x1, x5, rfl, rfl, HA, HK1, HO, HL, HB, HK⟩ := hrel
  cases gk with
  | zero => exact absurd HA.out (by simp [laws_markResS.l0])
  | succ k1 =>
   have H := HA.out
   clear HA
   simp only [laws_markResS.l0] at H
   by_cases c3 : x5 < (x0.length : Int)
   rotate_left
   . rw [if_neg c3] at H
     have c3b0 : decide (x5 < (l0.length : Int)) = false := decide_eq_false (by rw [← HL.out]; exact c3)
     obtain ⟨rfl, rfl⟩ := Prod.mk.inj (Option.some.inj H)
     go_wp2
     go_ret
     exact ⟨rfl, HO.out, HB.out, HK.out⟩
   rw [if_pos c3] at H
   have c3' : x5 < (l0.length : Int) := by rw [← HL.out]; exact c3
   have c3b0 : decide (x5 < (l0.length : Int)) = true := decide_eq_true c3'
   by_cases c4 : 0 <= x5
   rotate_left
   . rw [if_neg c4] at H
     exact absurd H (by simp)
   rw [if_pos c4] at H
   have c4b0 := decide_eq_true c4
   replace H := Option.bind_eq_some_iff.mp H
   obtain ⟨⟨t1a, t1b⟩, A0_, H⟩ := H
   dsimp only at H
   have At1a := A_ A0_
   clear A0_
   replace H := Option.bind_eq_some_iff.mp H
   obtain ⟨t2, A0_, H⟩ := H
   have At2 := A_ A0_
   clear A0_
   replace H := Option.bind_eq_some_iff.mp H
   obtain ⟨⟨t3a, t3b⟩, A0_, H⟩ := H
   dsimp only at H
   have At3a := A_ A0_
   clear A0_
   have H' : Aside0 ((laws_markResS.l0 k1 (x0.set (x5 : Int).toNat (⟨t1b, (t1a.tmod 3 == 0), t2, (wrap64 ((wrap64 (t1a + 1)) + 1)), t3b⟩ : S57)) t3a (wrap64 (x5 + 1))) = some (r1, r2)) := ⟨H⟩
   clear H
   obtain ⟨g, cap, ev, hgb, hgl, _⟩ := Kd.S_form HO.out (by omega)
   injection ev with eA en ec
   subst eA
   subst ec
   clear en
   obtain ⟨oki, c, hcl, hM, hcc, hfr, hoki, hH⟩ := Kd.S_elem HO.out z57 x5 c4 c3'
   obtain ⟨v0, v4, rfl, g0, g4⟩ := k57_openM hM
   obtain ⟨Av0, cv0, rfl⟩ := Kd.R_slice g0
   obtain ⟨Av4, cv4, rfl⟩ := Kd.R_slice g4
   have HI0 : Aside0 (∀ k_, some k_ = (.slice Av0 (rd_T57 x0 x5).f0.length cv0 : Value).ownBlock -> oki k_) := ⟨fun k_ h_ => g0.1 k_ h_.symm⟩
   have HP0 : Aside0 (Kd.string.R 9 wr w0.heap.size (fun k_ => some k_ = (.slice Av0 (rd_T57 x0 x5).f0.length cv0 : Value).ownBlock) (.slice Av0 (rd_T57 x0 x5).f0.length cv0 : Value) ((rd_T57 x0 x5).f0)) := ⟨Kd.R_tight rfl g0⟩
   have HI4 : Aside0 (∀ k_, some k_ = (.slice Av4 (rd_T57 x0 x5).f4.length cv4 : Value).ownBlock -> oki k_) := ⟨fun k_ h_ => g4.1 k_ h_.symm⟩
   have HP4 : Aside0 (k72.R 72 wr w0.heap.size (fun k_ => some k_ = (.slice Av4 (rd_T57 x0 x5).f4.length cv4 : Value).ownBlock) (.slice Av4 (rd_T57 x0 x5).f4.length cv4 : Value) ((rd_T57 x0 x5).f4)) := ⟨Kd.R_tight rfl g4⟩
   have HA0_4 : Aside0 (∀ k_, some k_ = (.slice Av0 (rd_T57 x0 x5).f0.length cv0 : Value).ownBlock -> some k_ = (.slice Av4 (rd_T57 x0 x5).f4.length cv4 : Value).ownBlock -> False) := ⟨fun k_ h_ h2_ => by obtain ⟨_, e1_⟩ := Kd.R_typed g0 k_ h_.symm; obtain ⟨_, e2_⟩ := Kd.R_typed g4 k_ h2_.symm; have e3_ := Option.some.inj (e1_.symm.trans e2_); injection e3_ with _ h9_ _; exact absurd h9_ (by decide)⟩
   have HH : Aside0 (Kd.H k57 57 wr w0.heap.size P0_ (.slice (some ⟨g, 0, none⟩) l0.length c0) x0 x5 oki [(.slice Av0 (rd_T57 x0 x5).f0.length cv0 : Value), .bool (rd_T57 x0 x5).f1, .string (rd_T57 x0 x5).f2, .int .i64 (rd_T57 x0 x5).f3, (.slice Av4 (rd_T57 x0 x5).f4.length cv4 : Value)]) := ⟨hH⟩
   have HN := A_ (fun k_ (h_ : oki k_) => (hoki k_ h_).2)
   have HQ := A_ (fun k_ (h_ : oki k_) => (hoki k_ h_).1)
   have HG : Aside0 (P0_ g) := ⟨(Kd.S_R HO.out).1 g rfl⟩
   have GB := A_ hgb
   clear hcl hM hcc hfr hoki hH hgb hgl HO g0 g4
   have hc_ := markResS_cells HH.out c4 c3'
   have hx0 : wr.cell? ⟨g, (x5 : Int).toNat * 5, none⟩ = some ((.slice Av0 (rd_T57 x0 x5).f0.length cv0 : Value)) := hc_.1 0 _ rfl
   have hx1 : wr.cell? ⟨g, (x5 : Int).toNat * 5 + 1, none⟩ = some (.bool (rd_T57 x0 x5).f1) := hc_.1 1 _ rfl
   have hx2 : wr.cell? ⟨g, (x5 : Int).toNat * 5 + 2, none⟩ = some (.string (rd_T57 x0 x5).f2) := hc_.1 2 _ rfl
   have hx3 : wr.cell? ⟨g, (x5 : Int).toNat * 5 + 3, none⟩ = some (.int .i64 (rd_T57 x0 x5).f3) := hc_.1 3 _ rfl
   have hx4 : wr.cell? ⟨g, (x5 : Int).toNat * 5 + 4, none⟩ = some ((.slice Av4 (rd_T57 x0 x5).f4.length cv4 : Value)) := hc_.1 4 _ rfl
   have hf0 : wr.frozen? ⟨g, (x5 : Int).toNat * 5, none⟩ = false := hc_.2 0
   have hf1 : wr.frozen? ⟨g, (x5 : Int).toNat * 5 + 1, none⟩ = false := hc_.2 1
   have hf2 : wr.frozen? ⟨g, (x5 : Int).toNat * 5 + 2, none⟩ = false := hc_.2 2
   have hf3 : wr.frozen? ⟨g, (x5 : Int).toNat * 5 + 3, none⟩ = false := hc_.2 3
   have hf4 : wr.frozen? ⟨g, (x5 : Int).toNat * 5 + 4, none⟩ = false := hc_.2 4
   clear hc_
   have c3k := A_ c3'
   have c4k := A_ c4
   replace c3 := eq_true c3'
   replace c4 := eq_true c4
   clear c3'
   go_wp2_with (first | ((with_reducible refine gc_ (f := 22) rfl ?_); refine gL_ (some 18) Try.func22 #[(.slice Av0 (rd_T57 x0 x5).f0.length cv0 : Value), .int .i64 x1] ?_; (with_reducible refine (laws_markStringS.calls k1 (fun k_ => some k_ = (.slice Av0 (rd_T57 x0 x5).f0.length cv0 : Value).ownBlock) (.slice Av0 (rd_T57 x0 x5).f0.length cv0 : Value) ((rd_T57 x0 x5).f0) x1 t1a t1b w0 _ HB.out HP0.out At1a.out).mono ?_); rintro e w_1 ⟨rfl, hr_, hb_, hk_⟩; refine ⟨_, rfl, ?_⟩; have m0_ : Aside0 (Kd.H k57 57 w_1 w0.heap.size P0_ (.slice (some ⟨g, 0, none⟩) l0.length c0) x0 x5 oki [(.slice Av0 (rd_T57 x0 x5).f0.length cv0 : Value), .bool (rd_T57 x0 x5).f1, .string (rd_T57 x0 x5).f2, .int .i64 (rd_T57 x0 x5).f3, (.slice Av4 (rd_T57 x0 x5).f4.length cv4 : Value)]) := ⟨Kd.H_step HH.out (fun k_ _ hn_ hl_ => hk_.2 k_ hl_ (fun h3_ => hn_ (HI0.out k_ h3_)))⟩; have m1_ : Aside0 (Kd.string.R 9 w_1 w0.heap.size (fun k_ => some k_ = (.slice Av0 (rd_T57 x0 x5).f0.length cv0 : Value).ownBlock) (.slice Av0 (rd_T57 x0 x5).f0.length cv0 : Value) t1b) := ⟨Kd.R_tight rfl hr_⟩; have m2_ : Aside0 (k72.R 72 w_1 w0.heap.size (fun k_ => some k_ = (.slice Av4 (rd_T57 x0 x5).f4.length cv4 : Value).ownBlock) (.slice Av4 (rd_T57 x0 x5).f4.length cv4 : Value) ((rd_T57 x0 x5).f4)) := ⟨Kd.R_step HP4.out (fun k_ h1_ hl_ => hk_.2 k_ hl_ (fun h3_ => HA0_4.out k_ h3_ h1_))⟩; have m3_ : Aside0 (Below w0.heap.size w0 w_1) := ⟨hb_⟩; have m4_ : Aside0 (Kept w w_1 P0_) := ⟨Kept.then_ HK.out hk_ (fun k_ h_ => .inl (HQ.out k_ (HI0.out k_ h_)))⟩; clear HH HP0 HP4 HB HK; clear hx0 hf0 hx1 hf1 hx2 hf2 hx3 hf3 hx4 hf4; have HH := m0_; have HP0 := m1_; have HP4 := m2_; have HB := m3_; have HK := m4_; clear m0_ m1_ m2_ m3_ m4_; have hc_ := markResS_cells HH.out c4k.out c3k.out; have hx0 : w_1.cell? ⟨g, (x5 : Int).toNat * 5, none⟩ = some ((.slice Av0 (rd_T57 x0 x5).f0.length cv0 : Value)) := hc_.1 0 _ rfl; have hx1 : w_1.cell? ⟨g, (x5 : Int).toNat * 5 + 1, none⟩ = some (.bool (rd_T57 x0 x5).f1) := hc_.1 1 _ rfl; have hx2 : w_1.cell? ⟨g, (x5 : Int).toNat * 5 + 2, none⟩ = some (.string (rd_T57 x0 x5).f2) := hc_.1 2 _ rfl; have hx3 : w_1.cell? ⟨g, (x5 : Int).toNat * 5 + 3, none⟩ = some (.int .i64 (rd_T57 x0 x5).f3) := hc_.1 3 _ rfl; have hx4 : w_1.cell? ⟨g, (x5 : Int).toNat * 5 + 4, none⟩ = some ((.slice Av4 (rd_T57 x0 x5).f4.length cv4 : Value)) := hc_.1 4 _ rfl; have hf0 : w_1.frozen? ⟨g, (x5 : Int).toNat * 5, none⟩ = false := hc_.2 0; have hf1 : w_1.frozen? ⟨g, (x5 : Int).toNat * 5 + 1, none⟩ = false := hc_.2 1; have hf2 : w_1.frozen? ⟨g, (x5 : Int).toNat * 5 + 2, none⟩ = false := hc_.2 2; have hf3 : w_1.frozen? ⟨g, (x5 : Int).toNat * 5 + 3, none⟩ = false := hc_.2 3; have hf4 : w_1.frozen? ⟨g, (x5 : Int).toNat * 5 + 4, none⟩ = false := hc_.2 4; clear hc_; clear hr_ hb_ hk_) | ((with_reducible refine gate_store (t := 4) (p := 25) rfl ?_); refine store_event (t := 4) (p := 25) (v := ?vo_1) (w1 := (w_1.setCell ⟨g, (x5 : Int).toNat * 5 + 1, none⟩ (.bool (t1a.tmod 3 == 0)))) ?hg ?ho ?hn ?hr ?_; (case ho => rfl); (case hg => rfl); (case hn => rfl); (case hr => first | (go_simp; done) | (go_simp; rfl)); intro w_2 hw_; have hs_ := Kd.H_seg HH.out c4k.out c3k.out (seg := [.bool (t1a.tmod 3 == 0)]) (j := 1) (show 2 <= 5 by decide) (by intro q_ hq_; rcases List.mem_singleton.1 hq_ with rfl; rfl); have hg_ : w_1.grownBy w_2 (some g) := (by rw [hw_]; exact hs_.2); have m0_ : Aside0 (Kd.H k57 57 w_2 w0.heap.size P0_ (.slice (some ⟨g, 0, none⟩) l0.length c0) x0 x5 oki [(.slice Av0 (rd_T57 x0 x5).f0.length cv0 : Value), .bool (t1a.tmod 3 == 0), .string (rd_T57 x0 x5).f2, .int .i64 (rd_T57 x0 x5).f3, (.slice Av4 (rd_T57 x0 x5).f4.length cv4 : Value)]) := ⟨(by rw [hw_]; exact hs_.1)⟩; have m1_ : Aside0 (Kd.string.R 9 w_2 w0.heap.size (fun k_ => some k_ = (.slice Av0 (rd_T57 x0 x5).f0.length cv0 : Value).ownBlock) (.slice Av0 (rd_T57 x0 x5).f0.length cv0 : Value) t1b) := ⟨Kd.R_grown HP0.out hg_ (fun k_ h_ e_ => HN.out k_ (HI0.out k_ h_) (by injection e_))⟩; have m2_ : Aside0 (k72.R 72 w_2 w0.heap.size (fun k_ => some k_ = (.slice Av4 (rd_T57 x0 x5).f4.length cv4 : Value).ownBlock) (.slice Av4 (rd_T57 x0 x5).f4.length cv4 : Value) ((rd_T57 x0 x5).f4)) := ⟨Kd.R_grown HP4.out hg_ (fun k_ h_ e_ => HN.out k_ (HI4.out k_ h_) (by injection e_))⟩; have m3_ : Aside0 (Below w0.heap.size w0 w_2) := ⟨(by rw [hw_]; exact below_set HB.out GB.out)⟩; have m4_ : Aside0 (Kept w w_2 P0_) := ⟨Kept.of_grown hg_ HK.out (fun k_ e_ => .inl (by injection e_ with e_; rw [← e_]; exact HG.out))⟩; clear HH HP0 HP4 HB HK; clear hx0 hf0 hx1 hf1 hx2 hf2 hx3 hf3 hx4 hf4; have HH := m0_; have HP0 := m1_; have HP4 := m2_; have HB := m3_; have HK := m4_; clear m0_ m1_ m2_ m3_ m4_; have hc_ := markResS_cells HH.out c4k.out c3k.out; have hx0 : w_2.cell? ⟨g, (x5 : Int).toNat * 5, none⟩ = some ((.slice Av0 (rd_T57 x0 x5).f0.length cv0 : Value)) := hc_.1 0 _ rfl; have hx1 : w_2.cell? ⟨g, (x5 : Int).toNat * 5 + 1, none⟩ = some (.bool (t1a.tmod 3 == 0)) := hc_.1 1 _ rfl; have hx2 : w_2.cell? ⟨g, (x5 : Int).toNat * 5 + 2, none⟩ = some (.string (rd_T57 x0 x5).f2) := hc_.1 2 _ rfl; have hx3 : w_2.cell? ⟨g, (x5 : Int).toNat * 5 + 3, none⟩ = some (.int .i64 (rd_T57 x0 x5).f3) := hc_.1 3 _ rfl; have hx4 : w_2.cell? ⟨g, (x5 : Int).toNat * 5 + 4, none⟩ = some ((.slice Av4 (rd_T57 x0 x5).f4.length cv4 : Value)) := hc_.1 4 _ rfl; have hf0 : w_2.frozen? ⟨g, (x5 : Int).toNat * 5, none⟩ = false := hc_.2 0; have hf1 : w_2.frozen? ⟨g, (x5 : Int).toNat * 5 + 1, none⟩ = false := hc_.2 1; have hf2 : w_2.frozen? ⟨g, (x5 : Int).toNat * 5 + 2, none⟩ = false := hc_.2 2; have hf3 : w_2.frozen? ⟨g, (x5 : Int).toNat * 5 + 3, none⟩ = false := hc_.2 3; have hf4 : w_2.frozen? ⟨g, (x5 : Int).toNat * 5 + 4, none⟩ = false := hc_.2 4; clear hc_; clear hw_ hs_ hg_) | ((with_reducible refine gc_ (f := 69) rfl ?_); refine gL_ (some 31) Try.func69 #[.int .i64 (wrap64 (t1a + 1))] ?_; (with_reducible refine (laws_markText.calls k1 (wrap64 (t1a + 1)) t2 _ At2.out).mono ?_); rintro e w_3 ⟨rfl, hb_⟩; refine ⟨_, rfl, ?_⟩; have m0_ : Aside0 (Kd.H k57 57 w_3 w0.heap.size P0_ (.slice (some ⟨g, 0, none⟩) l0.length c0) x0 x5 oki [(.slice Av0 (rd_T57 x0 x5).f0.length cv0 : Value), .bool (t1a.tmod 3 == 0), .string (rd_T57 x0 x5).f2, .int .i64 (rd_T57 x0 x5).f3, (.slice Av4 (rd_T57 x0 x5).f4.length cv4 : Value)]) := ⟨Kd.H_below HH.out hb_⟩; have m1_ : Aside0 (Kd.string.R 9 w_3 w0.heap.size (fun k_ => some k_ = (.slice Av0 (rd_T57 x0 x5).f0.length cv0 : Value).ownBlock) (.slice Av0 (rd_T57 x0 x5).f0.length cv0 : Value) t1b) := ⟨Kd.R_below HP0.out hb_⟩; have m2_ : Aside0 (k72.R 72 w_3 w0.heap.size (fun k_ => some k_ = (.slice Av4 (rd_T57 x0 x5).f4.length cv4 : Value).ownBlock) (.slice Av4 (rd_T57 x0 x5).f4.length cv4 : Value) ((rd_T57 x0 x5).f4)) := ⟨Kd.R_below HP4.out hb_⟩; have m3_ : Aside0 (Below w0.heap.size w0 w_3) := ⟨below_step HB.out hb_⟩; have m4_ : Aside0 (Kept w w_3 P0_) := ⟨Kept.below HK.out hb_⟩; clear HH HP0 HP4 HB HK; clear hx0 hf0 hx1 hf1 hx2 hf2 hx3 hf3 hx4 hf4; have HH := m0_; have HP0 := m1_; have HP4 := m2_; have HB := m3_; have HK := m4_; clear m0_ m1_ m2_ m3_ m4_; have hc_ := markResS_cells HH.out c4k.out c3k.out; have hx0 : w_3.cell? ⟨g, (x5 : Int).toNat * 5, none⟩ = some ((.slice Av0 (rd_T57 x0 x5).f0.length cv0 : Value)) := hc_.1 0 _ rfl; have hx1 : w_3.cell? ⟨g, (x5 : Int).toNat * 5 + 1, none⟩ = some (.bool (t1a.tmod 3 == 0)) := hc_.1 1 _ rfl; have hx2 : w_3.cell? ⟨g, (x5 : Int).toNat * 5 + 2, none⟩ = some (.string (rd_T57 x0 x5).f2) := hc_.1 2 _ rfl; have hx3 : w_3.cell? ⟨g, (x5 : Int).toNat * 5 + 3, none⟩ = some (.int .i64 (rd_T57 x0 x5).f3) := hc_.1 3 _ rfl; have hx4 : w_3.cell? ⟨g, (x5 : Int).toNat * 5 + 4, none⟩ = some ((.slice Av4 (rd_T57 x0 x5).f4.length cv4 : Value)) := hc_.1 4 _ rfl; have hf0 : w_3.frozen? ⟨g, (x5 : Int).toNat * 5, none⟩ = false := hc_.2 0; have hf1 : w_3.frozen? ⟨g, (x5 : Int).toNat * 5 + 1, none⟩ = false := hc_.2 1; have hf2 : w_3.frozen? ⟨g, (x5 : Int).toNat * 5 + 2, none⟩ = false := hc_.2 2; have hf3 : w_3.frozen? ⟨g, (x5 : Int).toNat * 5 + 3, none⟩ = false := hc_.2 3; have hf4 : w_3.frozen? ⟨g, (x5 : Int).toNat * 5 + 4, none⟩ = false := hc_.2 4; clear hc_; clear hb_) | ((with_reducible refine gate_store (t := 9) (p := 33) rfl ?_); refine store_event (t := 9) (p := 33) (v := ?vo_3) (w1 := (w_3.setCell ⟨g, (x5 : Int).toNat * 5 + 2, none⟩ (.string t2))) ?hg ?ho ?hn ?hr ?_; (case ho => rfl); (case hg => rfl); (case hn => rfl); (case hr => first | (go_simp; done) | (go_simp; rfl)); intro w_4 hw_; have hs_ := Kd.H_seg HH.out c4k.out c3k.out (seg := [.string t2]) (j := 2) (show 3 <= 5 by decide) (by intro q_ hq_; rcases List.mem_singleton.1 hq_ with rfl; rfl); have hg_ : w_3.grownBy w_4 (some g) := (by rw [hw_]; exact hs_.2); have m0_ : Aside0 (Kd.H k57 57 w_4 w0.heap.size P0_ (.slice (some ⟨g, 0, none⟩) l0.length c0) x0 x5 oki [(.slice Av0 (rd_T57 x0 x5).f0.length cv0 : Value), .bool (t1a.tmod 3 == 0), .string t2, .int .i64 (rd_T57 x0 x5).f3, (.slice Av4 (rd_T57 x0 x5).f4.length cv4 : Value)]) := ⟨(by rw [hw_]; exact hs_.1)⟩; have m1_ : Aside0 (Kd.string.R 9 w_4 w0.heap.size (fun k_ => some k_ = (.slice Av0 (rd_T57 x0 x5).f0.length cv0 : Value).ownBlock) (.slice Av0 (rd_T57 x0 x5).f0.length cv0 : Value) t1b) := ⟨Kd.R_grown HP0.out hg_ (fun k_ h_ e_ => HN.out k_ (HI0.out k_ h_) (by injection e_))⟩; have m2_ : Aside0 (k72.R 72 w_4 w0.heap.size (fun k_ => some k_ = (.slice Av4 (rd_T57 x0 x5).f4.length cv4 : Value).ownBlock) (.slice Av4 (rd_T57 x0 x5).f4.length cv4 : Value) ((rd_T57 x0 x5).f4)) := ⟨Kd.R_grown HP4.out hg_ (fun k_ h_ e_ => HN.out k_ (HI4.out k_ h_) (by injection e_))⟩; have m3_ : Aside0 (Below w0.heap.size w0 w_4) := ⟨(by rw [hw_]; exact below_set HB.out GB.out)⟩; have m4_ : Aside0 (Kept w w_4 P0_) := ⟨Kept.of_grown hg_ HK.out (fun k_ e_ => .inl (by injection e_ with e_; rw [← e_]; exact HG.out))⟩; clear HH HP0 HP4 HB HK; clear hx0 hf0 hx1 hf1 hx2 hf2 hx3 hf3 hx4 hf4; have HH := m0_; have HP0 := m1_; have HP4 := m2_; have HB := m3_; have HK := m4_; clear m0_ m1_ m2_ m3_ m4_; have hc_ := markResS_cells HH.out c4k.out c3k.out; have hx0 : w_4.cell? ⟨g, (x5 : Int).toNat * 5, none⟩ = some ((.slice Av0 (rd_T57 x0 x5).f0.length cv0 : Value)) := hc_.1 0 _ rfl; have hx1 : w_4.cell? ⟨g, (x5 : Int).toNat * 5 + 1, none⟩ = some (.bool (t1a.tmod 3 == 0)) := hc_.1 1 _ rfl; have hx2 : w_4.cell? ⟨g, (x5 : Int).toNat * 5 + 2, none⟩ = some (.string t2) := hc_.1 2 _ rfl; have hx3 : w_4.cell? ⟨g, (x5 : Int).toNat * 5 + 3, none⟩ = some (.int .i64 (rd_T57 x0 x5).f3) := hc_.1 3 _ rfl; have hx4 : w_4.cell? ⟨g, (x5 : Int).toNat * 5 + 4, none⟩ = some ((.slice Av4 (rd_T57 x0 x5).f4.length cv4 : Value)) := hc_.1 4 _ rfl; have hf0 : w_4.frozen? ⟨g, (x5 : Int).toNat * 5, none⟩ = false := hc_.2 0; have hf1 : w_4.frozen? ⟨g, (x5 : Int).toNat * 5 + 1, none⟩ = false := hc_.2 1; have hf2 : w_4.frozen? ⟨g, (x5 : Int).toNat * 5 + 2, none⟩ = false := hc_.2 2; have hf3 : w_4.frozen? ⟨g, (x5 : Int).toNat * 5 + 3, none⟩ = false := hc_.2 3; have hf4 : w_4.frozen? ⟨g, (x5 : Int).toNat * 5 + 4, none⟩ = false := hc_.2 4; clear hc_; clear hw_ hs_ hg_) | ((with_reducible refine gate_store (t := 3) (p := 40) rfl ?_); refine store_event (t := 3) (p := 40) (v := ?vo_4) (w1 := (w_4.setCell ⟨g, (x5 : Int).toNat * 5 + 3, none⟩ (.int .i64 (wrap64 ((wrap64 (t1a + 1)) + 1))))) ?hg ?ho ?hn ?hr ?_; (case ho => rfl); (case hg => rfl); (case hn => rfl); (case hr => first | (go_simp; done) | (go_simp; rfl)); intro w_5 hw_; have hs_ := Kd.H_seg HH.out c4k.out c3k.out (seg := [.int .i64 (wrap64 ((wrap64 (t1a + 1)) + 1))]) (j := 3) (show 4 <= 5 by decide) (by intro q_ hq_; rcases List.mem_singleton.1 hq_ with rfl; rfl); have hg_ : w_4.grownBy w_5 (some g) := (by rw [hw_]; exact hs_.2); have m0_ : Aside0 (Kd.H k57 57 w_5 w0.heap.size P0_ (.slice (some ⟨g, 0, none⟩) l0.length c0) x0 x5 oki [(.slice Av0 (rd_T57 x0 x5).f0.length cv0 : Value), .bool (t1a.tmod 3 == 0), .string t2, .int .i64 (wrap64 ((wrap64 (t1a + 1)) + 1)), (.slice Av4 (rd_T57 x0 x5).f4.length cv4 : Value)]) := ⟨(by rw [hw_]; exact hs_.1)⟩; have m1_ : Aside0 (Kd.string.R 9 w_5 w0.heap.size (fun k_ => some k_ = (.slice Av0 (rd_T57 x0 x5).f0.length cv0 : Value).ownBlock) (.slice Av0 (rd_T57 x0 x5).f0.length cv0 : Value) t1b) := ⟨Kd.R_grown HP0.out hg_ (fun k_ h_ e_ => HN.out k_ (HI0.out k_ h_) (by injection e_))⟩; have m2_ : Aside0 (k72.R 72 w_5 w0.heap.size (fun k_ => some k_ = (.slice Av4 (rd_T57 x0 x5).f4.length cv4 : Value).ownBlock) (.slice Av4 (rd_T57 x0 x5).f4.length cv4 : Value) ((rd_T57 x0 x5).f4)) := ⟨Kd.R_grown HP4.out hg_ (fun k_ h_ e_ => HN.out k_ (HI4.out k_ h_) (by injection e_))⟩; have m3_ : Aside0 (Below w0.heap.size w0 w_5) := ⟨(by rw [hw_]; exact below_set HB.out GB.out)⟩; have m4_ : Aside0 (Kept w w_5 P0_) := ⟨Kept.of_grown hg_ HK.out (fun k_ e_ => .inl (by injection e_ with e_; rw [← e_]; exact HG.out))⟩; clear HH HP0 HP4 HB HK; clear hx0 hf0 hx1 hf1 hx2 hf2 hx3 hf3 hx4 hf4; have HH := m0_; have HP0 := m1_; have HP4 := m2_; have HB := m3_; have HK := m4_; clear m0_ m1_ m2_ m3_ m4_; have hc_ := markResS_cells HH.out c4k.out c3k.out; have hx0 : w_5.cell? ⟨g, (x5 : Int).toNat * 5, none⟩ = some ((.slice Av0 (rd_T57 x0 x5).f0.length cv0 : Value)) := hc_.1 0 _ rfl; have hx1 : w_5.cell? ⟨g, (x5 : Int).toNat * 5 + 1, none⟩ = some (.bool (t1a.tmod 3 == 0)) := hc_.1 1 _ rfl; have hx2 : w_5.cell? ⟨g, (x5 : Int).toNat * 5 + 2, none⟩ = some (.string t2) := hc_.1 2 _ rfl; have hx3 : w_5.cell? ⟨g, (x5 : Int).toNat * 5 + 3, none⟩ = some (.int .i64 (wrap64 ((wrap64 (t1a + 1)) + 1))) := hc_.1 3 _ rfl; have hx4 : w_5.cell? ⟨g, (x5 : Int).toNat * 5 + 4, none⟩ = some ((.slice Av4 (rd_T57 x0 x5).f4.length cv4 : Value)) := hc_.1 4 _ rfl; have hf0 : w_5.frozen? ⟨g, (x5 : Int).toNat * 5, none⟩ = false := hc_.2 0; have hf1 : w_5.frozen? ⟨g, (x5 : Int).toNat * 5 + 1, none⟩ = false := hc_.2 1; have hf2 : w_5.frozen? ⟨g, (x5 : Int).toNat * 5 + 2, none⟩ = false := hc_.2 2; have hf3 : w_5.frozen? ⟨g, (x5 : Int).toNat * 5 + 3, none⟩ = false := hc_.2 3; have hf4 : w_5.frozen? ⟨g, (x5 : Int).toNat * 5 + 4, none⟩ = false := hc_.2 4; clear hc_; clear hw_ hs_ hg_) | ((with_reducible refine gc_ (f := 70) rfl ?_); refine gL_ (some 49) Try.func70 #[(.slice Av4 (rd_T57 x0 x5).f4.length cv4 : Value), .int .i64 (wrap64 ((wrap64 ((wrap64 (t1a + 1)) + 1)) + 1))] ?_; (with_reducible refine (laws_markPropS.calls k1 (fun k_ => some k_ = (.slice Av4 (rd_T57 x0 x5).f4.length cv4 : Value).ownBlock) (.slice Av4 (rd_T57 x0 x5).f4.length cv4 : Value) ((rd_T57 x0 x5).f4) (wrap64 ((wrap64 ((wrap64 (t1a + 1)) + 1)) + 1)) t3a t3b w0 _ HB.out HP4.out At3a.out).mono ?_); rintro e w_6 ⟨rfl, hr_, hb_, hk_⟩; refine ⟨_, rfl, ?_⟩; have m0_ : Aside0 (Kd.H k57 57 w_6 w0.heap.size P0_ (.slice (some ⟨g, 0, none⟩) l0.length c0) x0 x5 oki [(.slice Av0 (rd_T57 x0 x5).f0.length cv0 : Value), .bool (t1a.tmod 3 == 0), .string t2, .int .i64 (wrap64 ((wrap64 (t1a + 1)) + 1)), (.slice Av4 (rd_T57 x0 x5).f4.length cv4 : Value)]) := ⟨Kd.H_step HH.out (fun k_ _ hn_ hl_ => hk_.2 k_ hl_ (fun h3_ => hn_ (HI4.out k_ h3_)))⟩; have m1_ : Aside0 (k72.R 72 w_6 w0.heap.size (fun k_ => some k_ = (.slice Av4 (rd_T57 x0 x5).f4.length cv4 : Value).ownBlock) (.slice Av4 (rd_T57 x0 x5).f4.length cv4 : Value) t3b) := ⟨Kd.R_tight rfl hr_⟩; have m2_ : Aside0 (Kd.string.R 9 w_6 w0.heap.size (fun k_ => some k_ = (.slice Av0 (rd_T57 x0 x5).f0.length cv0 : Value).ownBlock) (.slice Av0 (rd_T57 x0 x5).f0.length cv0 : Value) t1b) := ⟨Kd.R_step HP0.out (fun k_ h1_ hl_ => hk_.2 k_ hl_ (fun h3_ => HA0_4.out k_ h1_ h3_))⟩; have m3_ : Aside0 (Below w0.heap.size w0 w_6) := ⟨hb_⟩; have m4_ : Aside0 (Kept w w_6 P0_) := ⟨Kept.then_ HK.out hk_ (fun k_ h_ => .inl (HQ.out k_ (HI4.out k_ h_)))⟩; clear HH HP4 HP0 HB HK; clear hx0 hf0 hx1 hf1 hx2 hf2 hx3 hf3 hx4 hf4; have HH := m0_; have HP4 := m1_; have HP0 := m2_; have HB := m3_; have HK := m4_; clear m0_ m1_ m2_ m3_ m4_; have hc_ := markResS_cells HH.out c4k.out c3k.out; have hx0 : w_6.cell? ⟨g, (x5 : Int).toNat * 5, none⟩ = some ((.slice Av0 (rd_T57 x0 x5).f0.length cv0 : Value)) := hc_.1 0 _ rfl; have hx1 : w_6.cell? ⟨g, (x5 : Int).toNat * 5 + 1, none⟩ = some (.bool (t1a.tmod 3 == 0)) := hc_.1 1 _ rfl; have hx2 : w_6.cell? ⟨g, (x5 : Int).toNat * 5 + 2, none⟩ = some (.string t2) := hc_.1 2 _ rfl; have hx3 : w_6.cell? ⟨g, (x5 : Int).toNat * 5 + 3, none⟩ = some (.int .i64 (wrap64 ((wrap64 (t1a + 1)) + 1))) := hc_.1 3 _ rfl; have hx4 : w_6.cell? ⟨g, (x5 : Int).toNat * 5 + 4, none⟩ = some ((.slice Av4 (rd_T57 x0 x5).f4.length cv4 : Value)) := hc_.1 4 _ rfl; have hf0 : w_6.frozen? ⟨g, (x5 : Int).toNat * 5, none⟩ = false := hc_.2 0; have hf1 : w_6.frozen? ⟨g, (x5 : Int).toNat * 5 + 1, none⟩ = false := hc_.2 1; have hf2 : w_6.frozen? ⟨g, (x5 : Int).toNat * 5 + 2, none⟩ = false := hc_.2 2; have hf3 : w_6.frozen? ⟨g, (x5 : Int).toNat * 5 + 3, none⟩ = false := hc_.2 3; have hf4 : w_6.frozen? ⟨g, (x5 : Int).toNat * 5 + 4, none⟩ = false := hc_.2 4; clear hc_; clear hr_ hb_ hk_))
   go_roundg k1
   case measure => have := HK1.out; omega
   case rel => exact ⟨_, t3a, wrap64 (x5 + 1), rfl, rfl, H', ⟨by have := HK1.out; omega⟩, ⟨Kd.H_back HH.out (k57_mkM _ _ _ (⟨t1b, (t1a.tmod 3 == 0), t2, (wrap64 ((wrap64 (t1a + 1)) + 1)), t3b⟩ : S57) (Kd.R_mono HP0.out HI0.out) (Kd.R_mono HP4.out HI4.out)) (fun _ h_ => h_)⟩, ⟨by rw [List.length_set]; exact HL.out⟩, HB, HK⟩
open Go.RowKit Go.Proofs.YtbgggcgjijljkaaW.PrintWords Go.Proofs.YtbgggcgjijljkaaW.PrintLast Go.Proofs.YtbgggcgjijljkaaW.PrintMore
attribute [local go_sem] max2_int min2_int max_two min_two max_three min_three max_four min_four
set_option linter.unusedVariables false
set_option linter.unusedSimpArgs false
def laws_heldStringS.l0 : Nat -> List ByteArray -> Int -> Int -> Option (Int)
 | 0, _, _, _ => none
 | k + 1, x0, x1, x5 => if x5 < (x0.length : Int) then (if 0 <= x5 then ((laws_markText.f k x1).bind fun t417 => (if (rdOf ByteArray.empty x0 x5).toList = t417.toList then (laws_heldStringS.l0 k x0 (wrap64 (x1 + 1)) (wrap64 (x5 + 1))) else (some (-1)))) else (none)) else (some x1)
def laws_heldStringS.f (k : Nat) (l0 : List ByteArray) (a1 : Int) : Option (Int) := laws_heldStringS.l0 k l0 a1 0
set_option maxHeartbeats 8000000 in
set_option maxRecDepth 100000 in
theorem laws_heldStringS.calls (k : Nat) (A0 : Option Addr) (c0 : Nat) (l0 : List ByteArray) (a1 : Int) (r : Int) (w : World) (hr0 : Kd.C Kd.string w A0 l0.length l0) (hc0 : l0.length <= c0) (h : laws_heldStringS.f k l0 a1 = some r) :
 Calls Try.prog 71 #[.slice A0 l0.length c0, .int .i64 a1] w fun e w' => e = .returned (.int .i64 r) /\ Below w.heap.size w w' := by
 have HR0 := A_ hr0
 clear hr0 hc0
 have HB := A_ (Below.refl w.heap.size w)
 have H : (laws_heldStringS.l0 k l0 a1 0) = some r := h
 clear h
 have H' := A_ H
 clear H
 go_enter Try.func71, Try.ntmps71
 go_wp2
 go_loopg [1, 5] k (fun kq v1 v5 w' => ∃ (x1_1 : Int) (x5_1 : Int), v1 = .int .i64 x1_1 /\ v5 = .int .i64 x5_1 /\ Aside0 (laws_heldStringS.l0 kq l0 x1_1 x5_1 = some r) /\ Aside0 (kq <= k) /\ Aside0 (Below w.heap.size w w'))
 case atStart => exact ⟨(a1), (0), rs_, rs_, H', ⟨Nat.le_refl _⟩, ⟨bB_⟩⟩
 case round =>
  clear H'
  obtain ⟨x1_1, x5_1, rfl, rfl, HA, HK1, HB⟩ := hrel
  cases gk with
  | zero => exact absurd HA.out (by simp [laws_heldStringS.l0])
  | succ k1 =>
   have H := HA.out
   clear HA
   simp only [laws_heldStringS.l0] at H
   by_cases c3 : x5_1 < (l0.length : Int)
   rotate_left
   . rw [if_neg c3] at H
     have c3b0 := decide_eq_false c3
     clear c3
     obtain rfl := si_ H
     go_wp2
     go_ret
     exact ⟨rr_, bB_⟩
   rw [if_pos c3] at H
   have c3b0 := decide_eq_true c3
   clear c3
   by_cases c4 : 0 <= x5_1
   rotate_left
   . exact absurd H (by rw [if_neg c4]; simp)
   rw [if_pos c4] at H
   have c4b0 := decide_eq_true c4
   clear c4
   obtain ⟨t11, A5, H⟩ := bo_ H
   (try dsimp only at H)
   by_cases c6 : (rdOf ByteArray.empty l0 x5_1).toList = t11.toList
   rotate_left
   . rw [if_neg c6] at H
     obtain ⟨c6b0, c6b1⟩ := eF_ c6
     obtain rfl := si_ H
     try go_wp2
     replace HB := A_ (below_drew1 HB.out)
     have p2 : 0 <= (x5_1 : Int) := od_
     have q2 : x5_1 < (l0.length : Int) := od_
     obtain ⟨ad2, e2, hx2_0⟩ := Kd.at_string HR0.out x5_1 p2 q2
     have hw2_0 := hx2_0
     cases e2
     replace hx2_0 := bc_ HB.out hx2_0
     replace p2 := eq_true p2
     replace q2 := eq_true q2
     refine start_ (n := 7) (S := fun w' => w'.cell? (ad2.add (x5_1).toNat) = some (.string (rdOf ByteArray.empty l0 x5_1))) (ds := []) #[false, false, false, false, false, false, false] (by kernel_rfl) rfl rfl ((be_ hw2_0)) (fun hHeld => ?_)
     generalize wr.drew = w9 at HB hx2_0 hHeld ⊢
     refine pu_ (i := 0) (N := some 12) ?_
     refine pu_ (i := 1) (N := some 13) ?_
     refine pu_ (i := 2) (N := some 14) ?_
     refine pu_ (i := 4) (N := some 16) ?_
     refine take_ (i := 3) (N := some 15) (v := ?_) (a' := ?_) #[true, true, true, true, true, false, false] rfl rfl (by kernel_rfl) (fun _ _ _ h => h) (Or.inl ⟨by rfl, ?_⟩) hHeld ?_ ?_
     rotate_left
     . intro w' s0
       go_simp
       with_reducible rfl
     rotate_left
     . simp only [Act.put, List.setIfInBounds_toArray, List.set_cons_zero, List.set_cons_succ, i64_w, i32_w]
       rfl
     refine on_ (i := 5) (N := some 17) (fun K hK => ?_)
     refine goes_ Try.func69 (by kernel_rfl) rfl #[.int .i64 x1_1] (by rfl) rfl rfl ml_ ?_
     with_reducible refine (laws_markText.calls k1 x1_1 t11 _ A5.out).mono ?_
     rintro e w10 ⟨rfl, hb⟩
     refine ⟨_, rfl, ?_⟩
     replace HB := A_ (below_step bB_ hb)
     clear hb
     refine hK.out _ _ ((be_ hw2_0)) (fun hHeld => ?_)
     clear hK K
     refine no_ (some 17) ?_
     refine pu_ (i := 6) (N := some 18) ?_
     refine done_ (by kernel_rfl) ?_
     try go_wp2
     go_ret
     exact ⟨rr_, bB_⟩
   rw [if_pos c6] at H
   obtain ⟨c6b0, c6b1⟩ := eT_ c6
   clear c6
   have H' := A_ H
   clear H
   try go_wp2
   replace HB := A_ (below_drew1 HB.out)
   have p2 : 0 <= (x5_1 : Int) := od_
   have q2 : x5_1 < (l0.length : Int) := od_
   obtain ⟨ad2, e2, hx2_0⟩ := Kd.at_string HR0.out x5_1 p2 q2
   have hw2_0 := hx2_0
   cases e2
   replace hx2_0 := bc_ HB.out hx2_0
   replace p2 := eq_true p2
   replace q2 := eq_true q2
   refine start_ (n := 7) (S := fun w' => w'.cell? (ad2.add (x5_1).toNat) = some (.string (rdOf ByteArray.empty l0 x5_1))) (ds := []) #[false, false, false, false, false, false, false] (by kernel_rfl) rfl rfl ((be_ hw2_0)) (fun hHeld => ?_)
   generalize wr.drew = w7 at HB hx2_0 hHeld ⊢
   refine pu_ (i := 0) (N := some 12) ?_
   refine pu_ (i := 1) (N := some 13) ?_
   refine pu_ (i := 2) (N := some 14) ?_
   refine pu_ (i := 4) (N := some 16) ?_
   refine take_ (i := 3) (N := some 15) (v := ?_) (a' := ?_) #[true, true, true, true, true, false, false] rfl rfl (by kernel_rfl) (fun _ _ _ h => h) (Or.inl ⟨by rfl, ?_⟩) hHeld ?_ ?_
   rotate_left
   . intro w' s0
     go_simp
     with_reducible rfl
   rotate_left
   . simp only [Act.put, List.setIfInBounds_toArray, List.set_cons_zero, List.set_cons_succ, i64_w, i32_w]
     rfl
   refine on_ (i := 5) (N := some 17) (fun K hK => ?_)
   refine goes_ Try.func69 (by kernel_rfl) rfl #[.int .i64 x1_1] (by rfl) rfl rfl ml_ ?_
   with_reducible refine (laws_markText.calls k1 x1_1 t11 _ A5.out).mono ?_
   rintro e w8 ⟨rfl, hb⟩
   refine ⟨_, rfl, ?_⟩
   replace HB := A_ (below_step bB_ hb)
   clear hb
   refine hK.out _ _ ((be_ hw2_0)) (fun hHeld => ?_)
   clear hK K
   refine no_ (some 17) ?_
   refine pu_ (i := 6) (N := some 18) ?_
   refine done_ (by kernel_rfl) ?_
   try go_wp2
   go_roundg k1
   case measure => have := HK1.out; omega
   case rel => exact ⟨(wrap64 (x1_1 + 1)), (wrap64 (x5_1 + 1)), rs_, rs_, H', ⟨by have := HK1.out; omega⟩, ⟨bB_⟩⟩
def laws_heldPropS.l0 : Nat -> List (S72) -> Int -> Int -> Option (Int)
 | 0, _, _, _ => none
 | k + 1, x0, x1, x5 => if x5 < (x0.length : Int) then (if 0 <= x5 then ((laws_markText.f k x1).bind fun t419 => (if ((rd_T72 x0 x5).f0).toList = t419.toList then ((laws_markText.f k (wrap64 (x1 + 1))).bind fun t421 => (if ((rd_T72 x0 x5).f1).toList = t421.toList then ((laws_markText.f k (wrap64 ((wrap64 (x1 + 1)) + 1))).bind fun t423 => (if ((rd_T72 x0 x5).f2).toList = t423.toList then (laws_heldPropS.l0 k x0 (wrap64 ((wrap64 ((wrap64 (x1 + 1)) + 1)) + 1)) (wrap64 (x5 + 1))) else (some (-1)))) else (some (-1)))) else (some (-1)))) else (none)) else (some x1)
def laws_heldPropS.f (k : Nat) (l0 : List (S72)) (a1 : Int) : Option (Int) := laws_heldPropS.l0 k l0 a1 0
def laws_heldPropS.T4 : Bool × List (List Nat × List Nat) := (true, [([], []), ([], []), ([0, 1], [0, 1]), ([2], [2]), ([3], [3]), ([], []), ([5], [5]), ([4, 6], [4, 6])])
def laws_heldPropS.B4 : List Nat := [0, 0, 3, 7, 15, 0, 32, 127]
theorem laws_heldPropS.tab4 : rtab .any (opsOf Try.f72 4) = laws_heldPropS.T4 := by kernel_rfl
theorem laws_heldPropS.bits4 : waitsOk laws_heldPropS.T4.2 laws_heldPropS.B4 = true := by kernel_rfl
def laws_heldPropS.T7 : Bool × List (List Nat × List Nat) := (true, [([], []), ([], []), ([0, 1], [0, 1]), ([2], [2]), ([3], [3]), ([], []), ([5], [5]), ([4, 6], [4, 6])])
def laws_heldPropS.B7 : List Nat := [0, 0, 3, 7, 15, 0, 32, 127]
theorem laws_heldPropS.tab7 : rtab .any (opsOf Try.f72 7) = laws_heldPropS.T7 := by kernel_rfl
theorem laws_heldPropS.bits7 : waitsOk laws_heldPropS.T7.2 laws_heldPropS.B7 = true := by kernel_rfl
def laws_heldPropS.T10 : Bool × List (List Nat × List Nat) := (true, [([], []), ([], []), ([0, 1], [0, 1]), ([2], [2]), ([3], [3]), ([], []), ([5], [5]), ([4, 6], [4, 6])])
def laws_heldPropS.B10 : List Nat := [0, 0, 3, 7, 15, 0, 32, 127]
theorem laws_heldPropS.tab10 : rtab .any (opsOf Try.f72 10) = laws_heldPropS.T10 := by kernel_rfl
theorem laws_heldPropS.bits10 : waitsOk laws_heldPropS.T10.2 laws_heldPropS.B10 = true := by kernel_rfl
set_option maxHeartbeats 8000000 in
set_option maxRecDepth 100000 in
theorem laws_heldPropS.calls (k : Nat) (A0 : Option Addr) (c0 : Nat) (l0 : List (S72)) (a1 : Int) (r : Int) (w : World) (hr0 : Kd.C k72 w A0 l0.length l0) (hc0 : l0.length <= c0) (h : laws_heldPropS.f k l0 a1 = some r) :
 Calls Try.prog 72 #[.slice A0 l0.length c0, .int .i64 a1] w fun e w' => e = .returned (.int .i64 r) /\ Below w.heap.size w w' := by
 have HR0 := A_ hr0
 clear hr0 hc0
 have HB := A_ (Below.refl w.heap.size w)
 have H : (laws_heldPropS.l0 k l0 a1 0) = some r := h
 clear h
 have H' := A_ H
 clear H
 go_enter Try.func72, Try.ntmps72
 go_wp2
 go_loopg [1, 5] k (fun kq v1 v5 w' => ∃ (x1_1 : Int) (x5_1 : Int), v1 = .int .i64 x1_1 /\ v5 = .int .i64 x5_1 /\ Aside0 (laws_heldPropS.l0 kq l0 x1_1 x5_1 = some r) /\ Aside0 (kq <= k) /\ Aside0 (Below w.heap.size w w'))
 case atStart => exact ⟨(a1), (0), rs_, rs_, H', ⟨Nat.le_refl _⟩, ⟨bB_⟩⟩
 case round =>
  clear H'
  obtain ⟨x1_1, x5_1, rfl, rfl, HA, HK1, HB⟩ := hrel
  cases gk with
  | zero => exact absurd HA.out (by simp [laws_heldPropS.l0])
  | succ k1 =>
   have H := HA.out
   clear HA
   simp only [laws_heldPropS.l0] at H
   by_cases c3 : x5_1 < (l0.length : Int)
   rotate_left
   . rw [if_neg c3] at H
     have c3b0 := decide_eq_false c3
     clear c3
     obtain rfl := si_ H
     go_wp2
     go_ret
     exact ⟨rr_, bB_⟩
   rw [if_pos c3] at H
   have c3b0 := decide_eq_true c3
   clear c3
   by_cases c4 : 0 <= x5_1
   rotate_left
   . exact absurd H (by rw [if_neg c4]; simp)
   rw [if_pos c4] at H
   have c4b0 := decide_eq_true c4
   clear c4
   obtain ⟨t31, A5, H⟩ := bo_ H
   (try dsimp only at H)
   by_cases c6 : ((rd_T72 l0 x5_1).f0).toList = t31.toList
   rotate_left
   . rw [if_neg c6] at H
     obtain ⟨c6b0, c6b1⟩ := eF_ c6
     obtain rfl := si_ H
     try go_wp2
     replace HB := A_ (below_drew1 HB.out)
     have p2 : 0 <= (x5_1 : Int) := od_
     have q2 : x5_1 < (l0.length : Int) := od_
     obtain ⟨ad2, e2, hx2_0, hx2_1, hx2_2⟩ := at_T72 HR0.out x5_1 p2 q2
     have hw2_2 := hx2_2
     have hw2_1 := hx2_1
     have hw2_0 := hx2_0
     cases e2
     replace hx2_0 := bc_ HB.out hx2_0
     replace hx2_1 := bc_ HB.out hx2_1
     replace hx2_2 := bc_ HB.out hx2_2
     replace p2 := eq_true p2
     replace q2 := eq_true q2
     refine st3_ (n := 8) (ds := []) (be_ hw2_0) (be_ hw2_1) (be_ hw2_2) (fun hHeld => ?_); refine with_tabW laws_heldPropS.tab4 laws_heldPropS.bits4 (fun HT_ HW_ => ?_)
     generalize wr.drew = w27 at HB hx2_0 hx2_1 hx2_2 hHeld ⊢
     refine pu_ (i := 0) (N := some 12) ?_
     refine pu_ (i := 1) (N := some 13) ?_
     refine pu_ (i := 2) (N := some 14) ?_
     refine pu_ (i := 3) (N := some 15) ?_
     refine pu_ (i := 5) (N := some 17) ?_
     refine tk_ (i := 4) (N := some 16) hHeld ?_
     refine on_ (i := 6) (N := some 18) (fun K hK => ?_)
     refine goes_ Try.func69 (by kernel_rfl) rfl #[.int .i64 x1_1] (by rfl) rfl rfl ml_ ?_
     with_reducible refine (laws_markText.calls k1 x1_1 t31 _ A5.out).mono ?_
     rintro e w28 ⟨rfl, hb⟩
     refine ⟨_, rfl, ?_⟩
     replace HB := A_ (below_step bB_ hb)
     clear hb
     refine hK.out _ _ ⟨(be_ hw2_0), (be_ hw2_1), (be_ hw2_2)⟩ (fun hHeld => ?_)
     clear hK K
     refine no_ (some 18) ?_
     refine pu_ (i := 7) (N := some 19) ?_
     refine done_ (done_of HT_.out (by kernel_rfl)) ?_
     (try clear hHeld)
     try go_wp2
     go_ret
     exact ⟨rr_, bB_⟩
   rw [if_pos c6] at H
   obtain ⟨c6b0, c6b1⟩ := eT_ c6
   clear c6
   obtain ⟨t32, A7, H⟩ := bo_ H
   (try dsimp only at H)
   by_cases c8 : ((rd_T72 l0 x5_1).f1).toList = t32.toList
   rotate_left
   . rw [if_neg c8] at H
     obtain ⟨c8b0, c8b1⟩ := eF_ c8
     obtain rfl := si_ H
     try go_wp2
     replace HB := A_ (below_drew1 HB.out)
     have p2 : 0 <= (x5_1 : Int) := od_
     have q2 : x5_1 < (l0.length : Int) := od_
     obtain ⟨ad2, e2, hx2_0, hx2_1, hx2_2⟩ := at_T72 HR0.out x5_1 p2 q2
     have hw2_2 := hx2_2
     have hw2_1 := hx2_1
     have hw2_0 := hx2_0
     cases e2
     replace hx2_0 := bc_ HB.out hx2_0
     replace hx2_1 := bc_ HB.out hx2_1
     replace hx2_2 := bc_ HB.out hx2_2
     replace p2 := eq_true p2
     replace q2 := eq_true q2
     refine st3_ (n := 8) (ds := []) (be_ hw2_0) (be_ hw2_1) (be_ hw2_2) (fun hHeld => ?_); refine with_tabW laws_heldPropS.tab4 laws_heldPropS.bits4 (fun HT_ HW_ => ?_)
     generalize wr.drew = w23 at HB hx2_0 hx2_1 hx2_2 hHeld ⊢
     refine pu_ (i := 0) (N := some 12) ?_
     refine pu_ (i := 1) (N := some 13) ?_
     refine pu_ (i := 2) (N := some 14) ?_
     refine pu_ (i := 3) (N := some 15) ?_
     refine pu_ (i := 5) (N := some 17) ?_
     refine tk_ (i := 4) (N := some 16) hHeld ?_
     refine on_ (i := 6) (N := some 18) (fun K hK => ?_)
     refine goes_ Try.func69 (by kernel_rfl) rfl #[.int .i64 x1_1] (by rfl) rfl rfl ml_ ?_
     with_reducible refine (laws_markText.calls k1 x1_1 t31 _ A5.out).mono ?_
     rintro e w24 ⟨rfl, hb⟩
     refine ⟨_, rfl, ?_⟩
     replace HB := A_ (below_step bB_ hb)
     clear hb
     refine hK.out _ _ ⟨(be_ hw2_0), (be_ hw2_1), (be_ hw2_2)⟩ (fun hHeld => ?_)
     clear hK K
     refine no_ (some 18) ?_
     refine pu_ (i := 7) (N := some 19) ?_
     refine done_ (done_of HT_.out (by kernel_rfl)) ?_
     (try clear hHeld)
     try go_wp2
     replace HB := A_ (below_drew1 HB.out)
     have p29 : 0 <= (x5_1 : Int) := od_
     have q29 : x5_1 < (l0.length : Int) := od_
     obtain ⟨ad29, e29, hx29_0, hx29_1, hx29_2⟩ := at_T72 HR0.out x5_1 p29 q29
     have hw29_2 := hx29_2
     have hw29_1 := hx29_1
     have hw29_0 := hx29_0
     obtain rfl : ad2 = ad29 := (by injection e29)
     replace hx29_0 := bc_ HB.out hx29_0
     replace hx29_1 := bc_ HB.out hx29_1
     replace hx29_2 := bc_ HB.out hx29_2
     replace p29 := eq_true p29
     replace q29 := eq_true q29
     refine st3_ (n := 8) (ds := []) (be_ hw29_0) (be_ hw29_1) (be_ hw29_2) (fun hHeld => ?_); refine with_tabW laws_heldPropS.tab7 laws_heldPropS.bits7 (fun HT_ HW_ => ?_)
     generalize w24.drew = w25 at HB hx29_0 hx29_1 hx29_2 hHeld ⊢
     refine pu_ (i := 0) (N := some 22) ?_
     refine pu_ (i := 1) (N := some 23) ?_
     refine pu_ (i := 2) (N := some 24) ?_
     refine pu_ (i := 3) (N := some 25) ?_
     refine pu_ (i := 5) (N := some 27) ?_
     refine tk_ (i := 4) (N := some 26) hHeld ?_
     refine on_ (i := 6) (N := some 28) (fun K hK => ?_)
     refine goes_ Try.func69 (by kernel_rfl) rfl #[.int .i64 (wrap64 (x1_1 + 1))] (by rfl) rfl rfl ml_ ?_
     with_reducible refine (laws_markText.calls k1 (wrap64 (x1_1 + 1)) t32 _ A7.out).mono ?_
     rintro e w26 ⟨rfl, hb⟩
     refine ⟨_, rfl, ?_⟩
     replace HB := A_ (below_step bB_ hb)
     clear hb
     refine hK.out _ _ ⟨(be_ hw29_0), (be_ hw29_1), (be_ hw29_2)⟩ (fun hHeld => ?_)
     clear hK K
     refine no_ (some 28) ?_
     refine pu_ (i := 7) (N := some 29) ?_
     refine done_ (done_of HT_.out (by kernel_rfl)) ?_
     (try clear hHeld)
     try go_wp2
     go_ret
     exact ⟨rr_, bB_⟩
   rw [if_pos c8] at H
   obtain ⟨c8b0, c8b1⟩ := eT_ c8
   clear c8
   obtain ⟨t33, A9, H⟩ := bo_ H
   (try dsimp only at H)
   by_cases c10 : ((rd_T72 l0 x5_1).f2).toList = t33.toList
   rotate_left
   . rw [if_neg c10] at H
     obtain ⟨c10b0, c10b1⟩ := eF_ c10
     obtain rfl := si_ H
     try go_wp2
     replace HB := A_ (below_drew1 HB.out)
     have p2 : 0 <= (x5_1 : Int) := od_
     have q2 : x5_1 < (l0.length : Int) := od_
     obtain ⟨ad2, e2, hx2_0, hx2_1, hx2_2⟩ := at_T72 HR0.out x5_1 p2 q2
     have hw2_2 := hx2_2
     have hw2_1 := hx2_1
     have hw2_0 := hx2_0
     cases e2
     replace hx2_0 := bc_ HB.out hx2_0
     replace hx2_1 := bc_ HB.out hx2_1
     replace hx2_2 := bc_ HB.out hx2_2
     replace p2 := eq_true p2
     replace q2 := eq_true q2
     refine st3_ (n := 8) (ds := []) (be_ hw2_0) (be_ hw2_1) (be_ hw2_2) (fun hHeld => ?_); refine with_tabW laws_heldPropS.tab4 laws_heldPropS.bits4 (fun HT_ HW_ => ?_)
     generalize wr.drew = w17 at HB hx2_0 hx2_1 hx2_2 hHeld ⊢
     refine pu_ (i := 0) (N := some 12) ?_
     refine pu_ (i := 1) (N := some 13) ?_
     refine pu_ (i := 2) (N := some 14) ?_
     refine pu_ (i := 3) (N := some 15) ?_
     refine pu_ (i := 5) (N := some 17) ?_
     refine tk_ (i := 4) (N := some 16) hHeld ?_
     refine on_ (i := 6) (N := some 18) (fun K hK => ?_)
     refine goes_ Try.func69 (by kernel_rfl) rfl #[.int .i64 x1_1] (by rfl) rfl rfl ml_ ?_
     with_reducible refine (laws_markText.calls k1 x1_1 t31 _ A5.out).mono ?_
     rintro e w18 ⟨rfl, hb⟩
     refine ⟨_, rfl, ?_⟩
     replace HB := A_ (below_step bB_ hb)
     clear hb
     refine hK.out _ _ ⟨(be_ hw2_0), (be_ hw2_1), (be_ hw2_2)⟩ (fun hHeld => ?_)
     clear hK K
     refine no_ (some 18) ?_
     refine pu_ (i := 7) (N := some 19) ?_
     refine done_ (done_of HT_.out (by kernel_rfl)) ?_
     (try clear hHeld)
     try go_wp2
     replace HB := A_ (below_drew1 HB.out)
     have p29 : 0 <= (x5_1 : Int) := od_
     have q29 : x5_1 < (l0.length : Int) := od_
     obtain ⟨ad29, e29, hx29_0, hx29_1, hx29_2⟩ := at_T72 HR0.out x5_1 p29 q29
     have hw29_2 := hx29_2
     have hw29_1 := hx29_1
     have hw29_0 := hx29_0
     obtain rfl : ad2 = ad29 := (by injection e29)
     replace hx29_0 := bc_ HB.out hx29_0
     replace hx29_1 := bc_ HB.out hx29_1
     replace hx29_2 := bc_ HB.out hx29_2
     replace p29 := eq_true p29
     replace q29 := eq_true q29
     refine st3_ (n := 8) (ds := []) (be_ hw29_0) (be_ hw29_1) (be_ hw29_2) (fun hHeld => ?_); refine with_tabW laws_heldPropS.tab7 laws_heldPropS.bits7 (fun HT_ HW_ => ?_)
     generalize w18.drew = w19 at HB hx29_0 hx29_1 hx29_2 hHeld ⊢
     refine pu_ (i := 0) (N := some 22) ?_
     refine pu_ (i := 1) (N := some 23) ?_
     refine pu_ (i := 2) (N := some 24) ?_
     refine pu_ (i := 3) (N := some 25) ?_
     refine pu_ (i := 5) (N := some 27) ?_
     refine tk_ (i := 4) (N := some 26) hHeld ?_
     refine on_ (i := 6) (N := some 28) (fun K hK => ?_)
     refine goes_ Try.func69 (by kernel_rfl) rfl #[.int .i64 (wrap64 (x1_1 + 1))] (by rfl) rfl rfl ml_ ?_
     with_reducible refine (laws_markText.calls k1 (wrap64 (x1_1 + 1)) t32 _ A7.out).mono ?_
     rintro e w20 ⟨rfl, hb⟩
     refine ⟨_, rfl, ?_⟩
     replace HB := A_ (below_step bB_ hb)
     clear hb
     refine hK.out _ _ ⟨(be_ hw29_0), (be_ hw29_1), (be_ hw29_2)⟩ (fun hHeld => ?_)
     clear hK K
     refine no_ (some 28) ?_
     refine pu_ (i := 7) (N := some 29) ?_
     refine done_ (done_of HT_.out (by kernel_rfl)) ?_
     (try clear hHeld)
     try go_wp2
     replace HB := A_ (below_drew1 HB.out)
     have p30 : 0 <= (x5_1 : Int) := od_
     have q30 : x5_1 < (l0.length : Int) := od_
     obtain ⟨ad30, e30, hx30_0, hx30_1, hx30_2⟩ := at_T72 HR0.out x5_1 p30 q30
     have hw30_2 := hx30_2
     have hw30_1 := hx30_1
     have hw30_0 := hx30_0
     obtain rfl : ad2 = ad30 := (by injection e30)
     replace hx30_0 := bc_ HB.out hx30_0
     replace hx30_1 := bc_ HB.out hx30_1
     replace hx30_2 := bc_ HB.out hx30_2
     replace p30 := eq_true p30
     replace q30 := eq_true q30
     refine st3_ (n := 8) (ds := []) (be_ hw30_0) (be_ hw30_1) (be_ hw30_2) (fun hHeld => ?_); refine with_tabW laws_heldPropS.tab10 laws_heldPropS.bits10 (fun HT_ HW_ => ?_)
     generalize w20.drew = w21 at HB hx30_0 hx30_1 hx30_2 hHeld ⊢
     refine pu_ (i := 0) (N := some 32) ?_
     refine pu_ (i := 1) (N := some 33) ?_
     refine pu_ (i := 2) (N := some 34) ?_
     refine pu_ (i := 3) (N := some 35) ?_
     refine pu_ (i := 5) (N := some 37) ?_
     refine tk_ (i := 4) (N := some 36) hHeld ?_
     refine on_ (i := 6) (N := some 38) (fun K hK => ?_)
     refine goes_ Try.func69 (by kernel_rfl) rfl #[.int .i64 (wrap64 ((wrap64 (x1_1 + 1)) + 1))] (by rfl) rfl rfl ml_ ?_
     with_reducible refine (laws_markText.calls k1 (wrap64 ((wrap64 (x1_1 + 1)) + 1)) t33 _ A9.out).mono ?_
     rintro e w22 ⟨rfl, hb⟩
     refine ⟨_, rfl, ?_⟩
     replace HB := A_ (below_step bB_ hb)
     clear hb
     refine hK.out _ _ ⟨(be_ hw30_0), (be_ hw30_1), (be_ hw30_2)⟩ (fun hHeld => ?_)
     clear hK K
     refine no_ (some 38) ?_
     refine pu_ (i := 7) (N := some 39) ?_
     refine done_ (done_of HT_.out (by kernel_rfl)) ?_
     (try clear hHeld)
     try go_wp2
     go_ret
     exact ⟨rr_, bB_⟩
   rw [if_pos c10] at H
   obtain ⟨c10b0, c10b1⟩ := eT_ c10
   clear c10
   have H' := A_ H
   clear H
   try go_wp2
   replace HB := A_ (below_drew1 HB.out)
   have p2 : 0 <= (x5_1 : Int) := od_
   have q2 : x5_1 < (l0.length : Int) := od_
   obtain ⟨ad2, e2, hx2_0, hx2_1, hx2_2⟩ := at_T72 HR0.out x5_1 p2 q2
   have hw2_2 := hx2_2
   have hw2_1 := hx2_1
   have hw2_0 := hx2_0
   cases e2
   replace hx2_0 := bc_ HB.out hx2_0
   replace hx2_1 := bc_ HB.out hx2_1
   replace hx2_2 := bc_ HB.out hx2_2
   replace p2 := eq_true p2
   replace q2 := eq_true q2
   refine st3_ (n := 8) (ds := []) (be_ hw2_0) (be_ hw2_1) (be_ hw2_2) (fun hHeld => ?_); refine with_tabW laws_heldPropS.tab4 laws_heldPropS.bits4 (fun HT_ HW_ => ?_)
   generalize wr.drew = w11 at HB hx2_0 hx2_1 hx2_2 hHeld ⊢
   refine pu_ (i := 0) (N := some 12) ?_
   refine pu_ (i := 1) (N := some 13) ?_
   refine pu_ (i := 2) (N := some 14) ?_
   refine pu_ (i := 3) (N := some 15) ?_
   refine pu_ (i := 5) (N := some 17) ?_
   refine tk_ (i := 4) (N := some 16) hHeld ?_
   refine on_ (i := 6) (N := some 18) (fun K hK => ?_)
   refine goes_ Try.func69 (by kernel_rfl) rfl #[.int .i64 x1_1] (by rfl) rfl rfl ml_ ?_
   with_reducible refine (laws_markText.calls k1 x1_1 t31 _ A5.out).mono ?_
   rintro e w12 ⟨rfl, hb⟩
   refine ⟨_, rfl, ?_⟩
   replace HB := A_ (below_step bB_ hb)
   clear hb
   refine hK.out _ _ ⟨(be_ hw2_0), (be_ hw2_1), (be_ hw2_2)⟩ (fun hHeld => ?_)
   clear hK K
   refine no_ (some 18) ?_
   refine pu_ (i := 7) (N := some 19) ?_
   refine done_ (done_of HT_.out (by kernel_rfl)) ?_
   (try clear hHeld)
   try go_wp2
   replace HB := A_ (below_drew1 HB.out)
   have p29 : 0 <= (x5_1 : Int) := od_
   have q29 : x5_1 < (l0.length : Int) := od_
   obtain ⟨ad29, e29, hx29_0, hx29_1, hx29_2⟩ := at_T72 HR0.out x5_1 p29 q29
   have hw29_2 := hx29_2
   have hw29_1 := hx29_1
   have hw29_0 := hx29_0
   obtain rfl : ad2 = ad29 := (by injection e29)
   replace hx29_0 := bc_ HB.out hx29_0
   replace hx29_1 := bc_ HB.out hx29_1
   replace hx29_2 := bc_ HB.out hx29_2
   replace p29 := eq_true p29
   replace q29 := eq_true q29
   refine st3_ (n := 8) (ds := []) (be_ hw29_0) (be_ hw29_1) (be_ hw29_2) (fun hHeld => ?_); refine with_tabW laws_heldPropS.tab7 laws_heldPropS.bits7 (fun HT_ HW_ => ?_)
   generalize w12.drew = w13 at HB hx29_0 hx29_1 hx29_2 hHeld ⊢
   refine pu_ (i := 0) (N := some 22) ?_
   refine pu_ (i := 1) (N := some 23) ?_
   refine pu_ (i := 2) (N := some 24) ?_
   refine pu_ (i := 3) (N := some 25) ?_
   refine pu_ (i := 5) (N := some 27) ?_
   refine tk_ (i := 4) (N := some 26) hHeld ?_
   refine on_ (i := 6) (N := some 28) (fun K hK => ?_)
   refine goes_ Try.func69 (by kernel_rfl) rfl #[.int .i64 (wrap64 (x1_1 + 1))] (by rfl) rfl rfl ml_ ?_
   with_reducible refine (laws_markText.calls k1 (wrap64 (x1_1 + 1)) t32 _ A7.out).mono ?_
   rintro e w14 ⟨rfl, hb⟩
   refine ⟨_, rfl, ?_⟩
   replace HB := A_ (below_step bB_ hb)
   clear hb
   refine hK.out _ _ ⟨(be_ hw29_0), (be_ hw29_1), (be_ hw29_2)⟩ (fun hHeld => ?_)
   clear hK K
   refine no_ (some 28) ?_
   refine pu_ (i := 7) (N := some 29) ?_
   refine done_ (done_of HT_.out (by kernel_rfl)) ?_
   (try clear hHeld)
   try go_wp2
   replace HB := A_ (below_drew1 HB.out)
   have p30 : 0 <= (x5_1 : Int) := od_
   have q30 : x5_1 < (l0.length : Int) := od_
   obtain ⟨ad30, e30, hx30_0, hx30_1, hx30_2⟩ := at_T72 HR0.out x5_1 p30 q30
   have hw30_2 := hx30_2
   have hw30_1 := hx30_1
   have hw30_0 := hx30_0
   obtain rfl : ad2 = ad30 := (by injection e30)
   replace hx30_0 := bc_ HB.out hx30_0
   replace hx30_1 := bc_ HB.out hx30_1
   replace hx30_2 := bc_ HB.out hx30_2
   replace p30 := eq_true p30
   replace q30 := eq_true q30
   refine st3_ (n := 8) (ds := []) (be_ hw30_0) (be_ hw30_1) (be_ hw30_2) (fun hHeld => ?_); refine with_tabW laws_heldPropS.tab10 laws_heldPropS.bits10 (fun HT_ HW_ => ?_)
   generalize w14.drew = w15 at HB hx30_0 hx30_1 hx30_2 hHeld ⊢
   refine pu_ (i := 0) (N := some 32) ?_
   refine pu_ (i := 1) (N := some 33) ?_
   refine pu_ (i := 2) (N := some 34) ?_
   refine pu_ (i := 3) (N := some 35) ?_
   refine pu_ (i := 5) (N := some 37) ?_
   refine tk_ (i := 4) (N := some 36) hHeld ?_
   refine on_ (i := 6) (N := some 38) (fun K hK => ?_)
   refine goes_ Try.func69 (by kernel_rfl) rfl #[.int .i64 (wrap64 ((wrap64 (x1_1 + 1)) + 1))] (by rfl) rfl rfl ml_ ?_
   with_reducible refine (laws_markText.calls k1 (wrap64 ((wrap64 (x1_1 + 1)) + 1)) t33 _ A9.out).mono ?_
   rintro e w16 ⟨rfl, hb⟩
   refine ⟨_, rfl, ?_⟩
   replace HB := A_ (below_step bB_ hb)
   clear hb
   refine hK.out _ _ ⟨(be_ hw30_0), (be_ hw30_1), (be_ hw30_2)⟩ (fun hHeld => ?_)
   clear hK K
   refine no_ (some 38) ?_
   refine pu_ (i := 7) (N := some 39) ?_
   refine done_ (done_of HT_.out (by kernel_rfl)) ?_
   (try clear hHeld)
   try go_wp2
   go_roundg k1
   case measure => have := HK1.out; omega
   case rel => exact ⟨(wrap64 ((wrap64 ((wrap64 (x1_1 + 1)) + 1)) + 1)), (wrap64 (x5_1 + 1)), rs_, rs_, H', ⟨by have := HK1.out; omega⟩, ⟨bB_⟩⟩
def laws_heldResS.l0 : Nat -> List (S57) -> Int -> Int -> Option (Int)
 | 0, _, _, _ => none
 | k + 1, x0, x1, x5 => if x5 < (x0.length : Int) then (if 0 <= x5 then ((laws_heldStringS.f k ((rd_T57 x0 x5).f0) x1).bind fun t425 => (if t425 < 0 then (some (-1)) else (if (((rd_T57 x0 x5).f1) != ((Int.tmod t425 3) == 0)) = true then (some (-1)) else ((laws_markText.f k (wrap64 (t425 + 1))).bind fun t428 => (if ((rd_T57 x0 x5).f2).toList = t428.toList then (if ((rd_T57 x0 x5).f3) = (wrap64 ((wrap64 (t425 + 1)) + 1)) then ((laws_heldPropS.f k ((rd_T57 x0 x5).f4) (wrap64 ((wrap64 ((wrap64 (t425 + 1)) + 1)) + 1))).bind fun t431 => (if t431 < 0 then (some (-1)) else (laws_heldResS.l0 k x0 t431 (wrap64 (x5 + 1))))) else (some (-1))) else (some (-1))))))) else (none)) else (some x1)
def laws_heldResS.f (k : Nat) (l0 : List (S57)) (a1 : Int) : Option (Int) := laws_heldResS.l0 k l0 a1 0
def laws_heldResS.T10 : Bool × List (List Nat × List Nat) := (true, [([], []), ([], []), ([0, 1], [0, 1]), ([2], [2]), ([3], [3]), ([], []), ([5], [5]), ([4, 6], [4, 6])])
def laws_heldResS.B10 : List Nat := [0, 0, 3, 7, 15, 0, 32, 127]
theorem laws_heldResS.tab10 : rtab .any (opsOf Try.f23 10) = laws_heldResS.T10 := by kernel_rfl
theorem laws_heldResS.bits10 : waitsOk laws_heldResS.T10.2 laws_heldResS.B10 = true := by kernel_rfl
set_option maxHeartbeats 8000000 in
set_option maxRecDepth 100000 in
theorem laws_heldResS.calls (k : Nat) (A0 : Option Addr) (c0 : Nat) (l0 : List (S57)) (a1 : Int) (r : Int) (w : World) (hr0 : Kd.C k57 w A0 l0.length l0) (hc0 : l0.length <= c0) (h : laws_heldResS.f k l0 a1 = some r) :
 Calls Try.prog 23 #[.slice A0 l0.length c0, .int .i64 a1] w fun e w' => e = .returned (.int .i64 r) /\ Below w.heap.size w w' := by
 have HR0 := A_ hr0
 clear hr0 hc0
 have HB := A_ (Below.refl w.heap.size w)
 have H : (laws_heldResS.l0 k l0 a1 0) = some r := h
 clear h
 have H' := A_ H
 clear H
 go_enter Try.func23, Try.ntmps23
 go_wp2
 go_loopg [1, 5] k (fun kq v1 v5 w' => ∃ (x1_1 : Int) (x5_1 : Int), v1 = .int .i64 x1_1 /\ v5 = .int .i64 x5_1 /\ Aside0 (laws_heldResS.l0 kq l0 x1_1 x5_1 = some r) /\ Aside0 (kq <= k) /\ Aside0 (Below w.heap.size w w'))
 case atStart => exact ⟨(a1), (0), rs_, rs_, H', ⟨Nat.le_refl _⟩, ⟨bB_⟩⟩
 case round =>
  clear H'
  obtain ⟨x1_1, x5_1, rfl, rfl, HA, HK1, HB⟩ := hrel
  cases gk with
  | zero => exact absurd HA.out (by simp [laws_heldResS.l0])
  | succ k1 =>
   have H := HA.out
   clear HA
   simp only [laws_heldResS.l0] at H
   by_cases c3 : x5_1 < (l0.length : Int)
   rotate_left
   . rw [if_neg c3] at H
     have c3b0 := decide_eq_false c3
     clear c3
     obtain rfl := si_ H
     go_wp2
     go_ret
     exact ⟨rr_, bB_⟩
   rw [if_pos c3] at H
   have c3b0 := decide_eq_true c3
   clear c3
   by_cases c4 : 0 <= x5_1
   rotate_left
   . exact absurd H (by rw [if_neg c4]; simp)
   rw [if_pos c4] at H
   have c4b0 := decide_eq_true c4
   clear c4
   obtain ⟨t34, A5, H⟩ := bo_ H
   (try dsimp only at H)
   by_cases c6 : t34 < 0
   . rw [if_pos c6] at H
     have c6b0 := decide_eq_true c6
     clear c6
     obtain rfl := si_ H
     have p29 : 0 <= (x5_1 : Int) := od_
     have q29 : x5_1 < (l0.length : Int) := od_
     obtain ⟨ad29, A29_0, c29_0, A29_4, c29_4, e29, hx29_0, hx29_1, hx29_2, hx29_3, hx29_4, hl29_0, hi29_0, hl29_4, hi29_4⟩ := at_T57 HR0.out x5_1 p29 q29
     cases e29
     replace hx29_0 := bc_ HB.out hx29_0
     replace hx29_1 := bc_ HB.out hx29_1
     replace hx29_2 := bc_ HB.out hx29_2
     replace hx29_3 := bc_ HB.out hx29_3
     replace hx29_4 := bc_ HB.out hx29_4
     have HR29_0 := A_ hi29_0
     have HC29_0 := A_ hl29_0
     clear hi29_0 hl29_0
     clear hi29_4 hl29_4
     replace p29 := eq_true p29
     replace q29 := eq_true q29
     go_wp2_with (first | ((with_reducible refine gc_ (f := 71) rfl ?_); refine gL_ (some 18) Try.func71 #[.slice A29_0 ((rd_T57 l0 x5_1).f0).length c29_0, .int .i64 x1_1] ?_; (with_reducible refine (laws_heldStringS.calls k1 _ _ ((rd_T57 l0 x5_1).f0) x1_1 t34 _ ?s1 ?s2 A5.out).mono ?_); (case s1 => exact cC_ (Kd.C_below HR29_0.out HB.out)); (case s2 => exact HC29_0.out); rintro e w7 ⟨rfl, hb⟩; refine ⟨_, rfl, ?_⟩; replace HB := A_ (below_step bB_ hb); clear hb))
     go_ret
     exact ⟨rr_, bB_⟩
   rw [if_neg c6] at H
   have c6b0 := decide_eq_false c6
   clear c6
   by_cases c8 : (((rd_T57 l0 x5_1).f1) != ((Int.tmod t34 3) == 0)) = true
   . rw [if_pos c8] at H
     have c8b0 : (((rd_T57 l0 x5_1).f1) != ((Int.tmod t34 3) == 0)) = true := c8
     (try (have c8b1 : decide (((rd_T57 l0 x5_1).f1) = ((Int.tmod t34 3) == 0)) = false := by simpa using c8))
     (try (have c8b2 : (((rd_T57 l0 x5_1).f1) == ((Int.tmod t34 3) == 0)) = false := by simpa using c8))
     (try (have c8b3 : ¬ (((rd_T57 l0 x5_1).f1) = ((Int.tmod t34 3) == 0)) := by simpa using c8))
     clear c8
     obtain rfl := si_ H
     have p29 : 0 <= (x5_1 : Int) := od_
     have q29 : x5_1 < (l0.length : Int) := od_
     obtain ⟨ad29, A29_0, c29_0, A29_4, c29_4, e29, hx29_0, hx29_1, hx29_2, hx29_3, hx29_4, hl29_0, hi29_0, hl29_4, hi29_4⟩ := at_T57 HR0.out x5_1 p29 q29
     cases e29
     replace hx29_0 := bc_ HB.out hx29_0
     replace hx29_1 := bc_ HB.out hx29_1
     replace hx29_2 := bc_ HB.out hx29_2
     replace hx29_3 := bc_ HB.out hx29_3
     replace hx29_4 := bc_ HB.out hx29_4
     have HR29_0 := A_ hi29_0
     have HC29_0 := A_ hl29_0
     clear hi29_0 hl29_0
     clear hi29_4 hl29_4
     replace p29 := eq_true p29
     replace q29 := eq_true q29
     go_wp2_with (first | ((with_reducible refine gc_ (f := 71) rfl ?_); refine gL_ (some 18) Try.func71 #[.slice A29_0 ((rd_T57 l0 x5_1).f0).length c29_0, .int .i64 x1_1] ?_; (with_reducible refine (laws_heldStringS.calls k1 _ _ ((rd_T57 l0 x5_1).f0) x1_1 t34 _ ?s1 ?s2 A5.out).mono ?_); (case s1 => exact cC_ (Kd.C_below HR29_0.out HB.out)); (case s2 => exact HC29_0.out); rintro e w9 ⟨rfl, hb⟩; refine ⟨_, rfl, ?_⟩; replace HB := A_ (below_step bB_ hb); clear hb; have p31 : 0 <= (x5_1 : Int) := od_; have q31 : x5_1 < (l0.length : Int) := od_; obtain ⟨ad31, A31_0, c31_0, A31_4, c31_4, e31, hx31_0, hx31_1, hx31_2, hx31_3, hx31_4, hl31_0, hi31_0, hl31_4, hi31_4⟩ := at_T57 HR0.out x5_1 p31 q31; obtain rfl : ad29 = ad31 := (by injection e31); replace hx31_0 := bc_ HB.out hx31_0; replace hx31_1 := bc_ HB.out hx31_1; replace hx31_2 := bc_ HB.out hx31_2; replace hx31_3 := bc_ HB.out hx31_3; replace hx31_4 := bc_ HB.out hx31_4; clear hi31_0 hl31_0; clear hi31_4 hl31_4; replace p31 := eq_true p31; replace q31 := eq_true q31))
     go_ret
     exact ⟨rr_, bB_⟩
   rw [if_neg c8] at H
   have c8b0 : (((rd_T57 l0 x5_1).f1) != ((Int.tmod t34 3) == 0)) = false := by simpa using c8
   (try (have c8b1 : decide (((rd_T57 l0 x5_1).f1) = ((Int.tmod t34 3) == 0)) = true := by simpa using c8))
   (try (have c8b2 : (((rd_T57 l0 x5_1).f1) == ((Int.tmod t34 3) == 0)) = true := by simpa using c8))
   clear c8
   obtain ⟨t35, A10, H⟩ := bo_ H
   (try dsimp only at H)
   by_cases c11 : ((rd_T57 l0 x5_1).f2).toList = t35.toList
   rotate_left
   . rw [if_neg c11] at H
     obtain ⟨c11b0, c11b1⟩ := eF_ c11
     obtain rfl := si_ H
     have p29 : 0 <= (x5_1 : Int) := od_
     have q29 : x5_1 < (l0.length : Int) := od_
     obtain ⟨ad29, A29_0, c29_0, A29_4, c29_4, e29, hx29_0, hx29_1, hx29_2, hx29_3, hx29_4, hl29_0, hi29_0, hl29_4, hi29_4⟩ := at_T57 HR0.out x5_1 p29 q29
     cases e29
     replace hx29_0 := bc_ HB.out hx29_0
     replace hx29_1 := bc_ HB.out hx29_1
     replace hx29_2 := bc_ HB.out hx29_2
     replace hx29_3 := bc_ HB.out hx29_3
     replace hx29_4 := bc_ HB.out hx29_4
     have HR29_0 := A_ hi29_0
     have HC29_0 := A_ hl29_0
     clear hi29_0 hl29_0
     clear hi29_4 hl29_4
     replace p29 := eq_true p29
     replace q29 := eq_true q29
     try go_wp2_with (first | ((with_reducible refine gc_ (f := 71) rfl ?_); refine gL_ (some 18) Try.func71 #[.slice A29_0 ((rd_T57 l0 x5_1).f0).length c29_0, .int .i64 x1_1] ?_; (with_reducible refine (laws_heldStringS.calls k1 _ _ ((rd_T57 l0 x5_1).f0) x1_1 t34 _ ?s1 ?s2 A5.out).mono ?_); (case s1 => exact cC_ (Kd.C_below HR29_0.out HB.out)); (case s2 => exact HC29_0.out); rintro e w26 ⟨rfl, hb⟩; refine ⟨_, rfl, ?_⟩; replace HB := A_ (below_step bB_ hb); clear hb; have p31 : 0 <= (x5_1 : Int) := od_; have q31 : x5_1 < (l0.length : Int) := od_; obtain ⟨ad31, A31_0, c31_0, A31_4, c31_4, e31, hx31_0, hx31_1, hx31_2, hx31_3, hx31_4, hl31_0, hi31_0, hl31_4, hi31_4⟩ := at_T57 HR0.out x5_1 p31 q31; obtain rfl : ad29 = ad31 := (by injection e31); replace hx31_0 := bc_ HB.out hx31_0; replace hx31_1 := bc_ HB.out hx31_1; replace hx31_2 := bc_ HB.out hx31_2; replace hx31_3 := bc_ HB.out hx31_3; replace hx31_4 := bc_ HB.out hx31_4; clear hi31_0 hl31_0; clear hi31_4 hl31_4; replace p31 := eq_true p31; replace q31 := eq_true q31))
     replace HB := A_ (below_drew1 HB.out)
     have p30 : 0 <= (x5_1 : Int) := od_
     have q30 : x5_1 < (l0.length : Int) := od_
     obtain ⟨ad30, A30_0, c30_0, A30_4, c30_4, e30, hx30_0, hx30_1, hx30_2, hx30_3, hx30_4, hl30_0, hi30_0, hl30_4, hi30_4⟩ := at_T57 HR0.out x5_1 p30 q30
     have hw30_4 := hx30_4
     have hw30_3 := hx30_3
     have hw30_2 := hx30_2
     have hw30_1 := hx30_1
     have hw30_0 := hx30_0
     obtain rfl : ad29 = ad30 := (by injection e30)
     replace hx30_0 := bc_ HB.out hx30_0
     replace hx30_1 := bc_ HB.out hx30_1
     replace hx30_2 := bc_ HB.out hx30_2
     replace hx30_3 := bc_ HB.out hx30_3
     replace hx30_4 := bc_ HB.out hx30_4
     clear hi30_0 hl30_0
     clear hi30_4 hl30_4
     replace p30 := eq_true p30
     replace q30 := eq_true q30
     refine st5_ (n := 8) (ds := []) (be_ hw30_0) (be_ hw30_1) (be_ hw30_2) (be_ hw30_3) (be_ hw30_4) (fun hHeld => ?_); refine with_tabW laws_heldResS.tab10 laws_heldResS.bits10 (fun HT_ HW_ => ?_)
     generalize w26.drew = w27 at HB hx30_0 hx30_1 hx30_2 hx30_3 hx30_4 hHeld ⊢
     refine pu_ (i := 0) (N := some 32) ?_
     refine pu_ (i := 1) (N := some 33) ?_
     refine pu_ (i := 2) (N := some 34) ?_
     refine pu_ (i := 3) (N := some 35) ?_
     refine pu_ (i := 5) (N := some 37) ?_
     refine tk_ (i := 4) (N := some 36) hHeld ?_
     refine on_ (i := 6) (N := some 38) (fun K hK => ?_)
     refine goes_ Try.func69 (by kernel_rfl) rfl #[.int .i64 (wrap64 (t34 + 1))] (by rfl) rfl rfl ml_ ?_
     with_reducible refine (laws_markText.calls k1 (wrap64 (t34 + 1)) t35 _ A10.out).mono ?_
     rintro e w28 ⟨rfl, hb⟩
     refine ⟨_, rfl, ?_⟩
     replace HB := A_ (below_step bB_ hb)
     clear hb
     refine hK.out _ _ ⟨(be_ hw30_0), (be_ hw30_1), (be_ hw30_2), (be_ hw30_3), (be_ hw30_4)⟩ (fun hHeld => ?_)
     clear hK K
     refine no_ (some 38) ?_
     refine pu_ (i := 7) (N := some 39) ?_
     refine done_ (done_of HT_.out (by kernel_rfl)) ?_
     (try clear hHeld)
     try go_wp2
     go_ret
     exact ⟨rr_, bB_⟩
   rw [if_pos c11] at H
   obtain ⟨c11b0, c11b1⟩ := eT_ c11
   clear c11
   by_cases c12 : ((rd_T57 l0 x5_1).f3) = (wrap64 ((wrap64 (t34 + 1)) + 1))
   rotate_left
   . rw [if_neg c12] at H
     obtain ⟨c12b0, c12b1⟩ := eF_ c12
     obtain rfl := si_ H
     have p29 : 0 <= (x5_1 : Int) := od_
     have q29 : x5_1 < (l0.length : Int) := od_
     obtain ⟨ad29, A29_0, c29_0, A29_4, c29_4, e29, hx29_0, hx29_1, hx29_2, hx29_3, hx29_4, hl29_0, hi29_0, hl29_4, hi29_4⟩ := at_T57 HR0.out x5_1 p29 q29
     cases e29
     replace hx29_0 := bc_ HB.out hx29_0
     replace hx29_1 := bc_ HB.out hx29_1
     replace hx29_2 := bc_ HB.out hx29_2
     replace hx29_3 := bc_ HB.out hx29_3
     replace hx29_4 := bc_ HB.out hx29_4
     have HR29_0 := A_ hi29_0
     have HC29_0 := A_ hl29_0
     clear hi29_0 hl29_0
     clear hi29_4 hl29_4
     replace p29 := eq_true p29
     replace q29 := eq_true q29
     try go_wp2_with (first | ((with_reducible refine gc_ (f := 71) rfl ?_); refine gL_ (some 18) Try.func71 #[.slice A29_0 ((rd_T57 l0 x5_1).f0).length c29_0, .int .i64 x1_1] ?_; (with_reducible refine (laws_heldStringS.calls k1 _ _ ((rd_T57 l0 x5_1).f0) x1_1 t34 _ ?s1 ?s2 A5.out).mono ?_); (case s1 => exact cC_ (Kd.C_below HR29_0.out HB.out)); (case s2 => exact HC29_0.out); rintro e w23 ⟨rfl, hb⟩; refine ⟨_, rfl, ?_⟩; replace HB := A_ (below_step bB_ hb); clear hb; have p31 : 0 <= (x5_1 : Int) := od_; have q31 : x5_1 < (l0.length : Int) := od_; obtain ⟨ad31, A31_0, c31_0, A31_4, c31_4, e31, hx31_0, hx31_1, hx31_2, hx31_3, hx31_4, hl31_0, hi31_0, hl31_4, hi31_4⟩ := at_T57 HR0.out x5_1 p31 q31; obtain rfl : ad29 = ad31 := (by injection e31); replace hx31_0 := bc_ HB.out hx31_0; replace hx31_1 := bc_ HB.out hx31_1; replace hx31_2 := bc_ HB.out hx31_2; replace hx31_3 := bc_ HB.out hx31_3; replace hx31_4 := bc_ HB.out hx31_4; clear hi31_0 hl31_0; clear hi31_4 hl31_4; replace p31 := eq_true p31; replace q31 := eq_true q31))
     replace HB := A_ (below_drew1 HB.out)
     have p30 : 0 <= (x5_1 : Int) := od_
     have q30 : x5_1 < (l0.length : Int) := od_
     obtain ⟨ad30, A30_0, c30_0, A30_4, c30_4, e30, hx30_0, hx30_1, hx30_2, hx30_3, hx30_4, hl30_0, hi30_0, hl30_4, hi30_4⟩ := at_T57 HR0.out x5_1 p30 q30
     have hw30_4 := hx30_4
     have hw30_3 := hx30_3
     have hw30_2 := hx30_2
     have hw30_1 := hx30_1
     have hw30_0 := hx30_0
     obtain rfl : ad29 = ad30 := (by injection e30)
     replace hx30_0 := bc_ HB.out hx30_0
     replace hx30_1 := bc_ HB.out hx30_1
     replace hx30_2 := bc_ HB.out hx30_2
     replace hx30_3 := bc_ HB.out hx30_3
     replace hx30_4 := bc_ HB.out hx30_4
     clear hi30_0 hl30_0
     clear hi30_4 hl30_4
     replace p30 := eq_true p30
     replace q30 := eq_true q30
     refine st5_ (n := 8) (ds := []) (be_ hw30_0) (be_ hw30_1) (be_ hw30_2) (be_ hw30_3) (be_ hw30_4) (fun hHeld => ?_); refine with_tabW laws_heldResS.tab10 laws_heldResS.bits10 (fun HT_ HW_ => ?_)
     generalize w23.drew = w24 at HB hx30_0 hx30_1 hx30_2 hx30_3 hx30_4 hHeld ⊢
     refine pu_ (i := 0) (N := some 32) ?_
     refine pu_ (i := 1) (N := some 33) ?_
     refine pu_ (i := 2) (N := some 34) ?_
     refine pu_ (i := 3) (N := some 35) ?_
     refine pu_ (i := 5) (N := some 37) ?_
     refine tk_ (i := 4) (N := some 36) hHeld ?_
     refine on_ (i := 6) (N := some 38) (fun K hK => ?_)
     refine goes_ Try.func69 (by kernel_rfl) rfl #[.int .i64 (wrap64 (t34 + 1))] (by rfl) rfl rfl ml_ ?_
     with_reducible refine (laws_markText.calls k1 (wrap64 (t34 + 1)) t35 _ A10.out).mono ?_
     rintro e w25 ⟨rfl, hb⟩
     refine ⟨_, rfl, ?_⟩
     replace HB := A_ (below_step bB_ hb)
     clear hb
     refine hK.out _ _ ⟨(be_ hw30_0), (be_ hw30_1), (be_ hw30_2), (be_ hw30_3), (be_ hw30_4)⟩ (fun hHeld => ?_)
     clear hK K
     refine no_ (some 38) ?_
     refine pu_ (i := 7) (N := some 39) ?_
     refine done_ (done_of HT_.out (by kernel_rfl)) ?_
     (try clear hHeld)
     have p32 : 0 <= (x5_1 : Int) := od_
     have q32 : x5_1 < (l0.length : Int) := od_
     obtain ⟨ad32, A32_0, c32_0, A32_4, c32_4, e32, hx32_0, hx32_1, hx32_2, hx32_3, hx32_4, hl32_0, hi32_0, hl32_4, hi32_4⟩ := at_T57 HR0.out x5_1 p32 q32
     obtain rfl : ad29 = ad32 := (by injection e32)
     replace hx32_0 := bc_ HB.out hx32_0
     replace hx32_1 := bc_ HB.out hx32_1
     replace hx32_2 := bc_ HB.out hx32_2
     replace hx32_3 := bc_ HB.out hx32_3
     replace hx32_4 := bc_ HB.out hx32_4
     clear hi32_0 hl32_0
     clear hi32_4 hl32_4
     replace p32 := eq_true p32
     replace q32 := eq_true q32
     try go_wp2
     go_ret
     exact ⟨rr_, bB_⟩
   rw [if_pos c12] at H
   obtain ⟨c12b0, c12b1⟩ := eT_ c12
   clear c12
   obtain ⟨t36, A13, H⟩ := bo_ H
   (try dsimp only at H)
   by_cases c14 : t36 < 0
   . rw [if_pos c14] at H
     have c14b0 := decide_eq_true c14
     clear c14
     obtain rfl := si_ H
     have p29 : 0 <= (x5_1 : Int) := od_
     have q29 : x5_1 < (l0.length : Int) := od_
     obtain ⟨ad29, A29_0, c29_0, A29_4, c29_4, e29, hx29_0, hx29_1, hx29_2, hx29_3, hx29_4, hl29_0, hi29_0, hl29_4, hi29_4⟩ := at_T57 HR0.out x5_1 p29 q29
     cases e29
     replace hx29_0 := bc_ HB.out hx29_0
     replace hx29_1 := bc_ HB.out hx29_1
     replace hx29_2 := bc_ HB.out hx29_2
     replace hx29_3 := bc_ HB.out hx29_3
     replace hx29_4 := bc_ HB.out hx29_4
     have HR29_0 := A_ hi29_0
     have HC29_0 := A_ hl29_0
     clear hi29_0 hl29_0
     clear hi29_4 hl29_4
     replace p29 := eq_true p29
     replace q29 := eq_true q29
     try go_wp2_with (first | ((with_reducible refine gc_ (f := 71) rfl ?_); refine gL_ (some 18) Try.func71 #[.slice A29_0 ((rd_T57 l0 x5_1).f0).length c29_0, .int .i64 x1_1] ?_; (with_reducible refine (laws_heldStringS.calls k1 _ _ ((rd_T57 l0 x5_1).f0) x1_1 t34 _ ?s1 ?s2 A5.out).mono ?_); (case s1 => exact cC_ (Kd.C_below HR29_0.out HB.out)); (case s2 => exact HC29_0.out); rintro e w15 ⟨rfl, hb⟩; refine ⟨_, rfl, ?_⟩; replace HB := A_ (below_step bB_ hb); clear hb; have p31 : 0 <= (x5_1 : Int) := od_; have q31 : x5_1 < (l0.length : Int) := od_; obtain ⟨ad31, A31_0, c31_0, A31_4, c31_4, e31, hx31_0, hx31_1, hx31_2, hx31_3, hx31_4, hl31_0, hi31_0, hl31_4, hi31_4⟩ := at_T57 HR0.out x5_1 p31 q31; obtain rfl : ad29 = ad31 := (by injection e31); replace hx31_0 := bc_ HB.out hx31_0; replace hx31_1 := bc_ HB.out hx31_1; replace hx31_2 := bc_ HB.out hx31_2; replace hx31_3 := bc_ HB.out hx31_3; replace hx31_4 := bc_ HB.out hx31_4; clear hi31_0 hl31_0; clear hi31_4 hl31_4; replace p31 := eq_true p31; replace q31 := eq_true q31))
     replace HB := A_ (below_drew1 HB.out)
     have p30 : 0 <= (x5_1 : Int) := od_
     have q30 : x5_1 < (l0.length : Int) := od_
     obtain ⟨ad30, A30_0, c30_0, A30_4, c30_4, e30, hx30_0, hx30_1, hx30_2, hx30_3, hx30_4, hl30_0, hi30_0, hl30_4, hi30_4⟩ := at_T57 HR0.out x5_1 p30 q30
     have hw30_4 := hx30_4
     have hw30_3 := hx30_3
     have hw30_2 := hx30_2
     have hw30_1 := hx30_1
     have hw30_0 := hx30_0
     obtain rfl : ad29 = ad30 := (by injection e30)
     replace hx30_0 := bc_ HB.out hx30_0
     replace hx30_1 := bc_ HB.out hx30_1
     replace hx30_2 := bc_ HB.out hx30_2
     replace hx30_3 := bc_ HB.out hx30_3
     replace hx30_4 := bc_ HB.out hx30_4
     clear hi30_0 hl30_0
     clear hi30_4 hl30_4
     replace p30 := eq_true p30
     replace q30 := eq_true q30
     refine st5_ (n := 8) (ds := []) (be_ hw30_0) (be_ hw30_1) (be_ hw30_2) (be_ hw30_3) (be_ hw30_4) (fun hHeld => ?_); refine with_tabW laws_heldResS.tab10 laws_heldResS.bits10 (fun HT_ HW_ => ?_)
     generalize w15.drew = w16 at HB hx30_0 hx30_1 hx30_2 hx30_3 hx30_4 hHeld ⊢
     refine pu_ (i := 0) (N := some 32) ?_
     refine pu_ (i := 1) (N := some 33) ?_
     refine pu_ (i := 2) (N := some 34) ?_
     refine pu_ (i := 3) (N := some 35) ?_
     refine pu_ (i := 5) (N := some 37) ?_
     refine tk_ (i := 4) (N := some 36) hHeld ?_
     refine on_ (i := 6) (N := some 38) (fun K hK => ?_)
     refine goes_ Try.func69 (by kernel_rfl) rfl #[.int .i64 (wrap64 (t34 + 1))] (by rfl) rfl rfl ml_ ?_
     with_reducible refine (laws_markText.calls k1 (wrap64 (t34 + 1)) t35 _ A10.out).mono ?_
     rintro e w17 ⟨rfl, hb⟩
     refine ⟨_, rfl, ?_⟩
     replace HB := A_ (below_step bB_ hb)
     clear hb
     refine hK.out _ _ ⟨(be_ hw30_0), (be_ hw30_1), (be_ hw30_2), (be_ hw30_3), (be_ hw30_4)⟩ (fun hHeld => ?_)
     clear hK K
     refine no_ (some 38) ?_
     refine pu_ (i := 7) (N := some 39) ?_
     refine done_ (done_of HT_.out (by kernel_rfl)) ?_
     (try clear hHeld)
     have p32 : 0 <= (x5_1 : Int) := od_
     have q32 : x5_1 < (l0.length : Int) := od_
     obtain ⟨ad32, A32_0, c32_0, A32_4, c32_4, e32, hx32_0, hx32_1, hx32_2, hx32_3, hx32_4, hl32_0, hi32_0, hl32_4, hi32_4⟩ := at_T57 HR0.out x5_1 p32 q32
     obtain rfl : ad29 = ad32 := (by injection e32)
     replace hx32_0 := bc_ HB.out hx32_0
     replace hx32_1 := bc_ HB.out hx32_1
     replace hx32_2 := bc_ HB.out hx32_2
     replace hx32_3 := bc_ HB.out hx32_3
     replace hx32_4 := bc_ HB.out hx32_4
     clear hi32_0 hl32_0
     clear hi32_4 hl32_4
     replace p32 := eq_true p32
     replace q32 := eq_true q32
     have p33 : 0 <= (x5_1 : Int) := od_
     have q33 : x5_1 < (l0.length : Int) := od_
     obtain ⟨ad33, A33_0, c33_0, A33_4, c33_4, e33, hx33_0, hx33_1, hx33_2, hx33_3, hx33_4, hl33_0, hi33_0, hl33_4, hi33_4⟩ := at_T57 HR0.out x5_1 p33 q33
     obtain rfl : ad29 = ad33 := (by injection e33)
     replace hx33_0 := bc_ HB.out hx33_0
     replace hx33_1 := bc_ HB.out hx33_1
     replace hx33_2 := bc_ HB.out hx33_2
     replace hx33_3 := bc_ HB.out hx33_3
     replace hx33_4 := bc_ HB.out hx33_4
     clear hi33_0 hl33_0
     have HR33_4 := A_ hi33_4
     have HC33_4 := A_ hl33_4
     clear hi33_4 hl33_4
     replace p33 := eq_true p33
     replace q33 := eq_true q33
     have ea_ := Option.some.inj (hx32_0.symm.trans hx33_0)
     injection ea_ with ea_ en_ ec_
     subst ea_
     subst ec_
     clear en_
     have ea_ := Option.some.inj (hx32_4.symm.trans hx33_4)
     injection ea_ with ea_ en_ ec_
     subst ea_
     subst ec_
     clear en_
     try go_wp2_with (first | ((with_reducible refine gc_ (f := 72) rfl ?_); refine gL_ (some 57) Try.func72 #[.slice A32_4 ((rd_T57 l0 x5_1).f4).length c32_4, .int .i64 (wrap64 ((wrap64 ((wrap64 (t34 + 1)) + 1)) + 1))] ?_; (with_reducible refine (laws_heldPropS.calls k1 _ _ ((rd_T57 l0 x5_1).f4) (wrap64 ((wrap64 ((wrap64 (t34 + 1)) + 1)) + 1)) t36 _ ?s1 ?s2 A13.out).mono ?_); (case s1 => exact cC_ (Kd.C_below HR33_4.out HB.out)); (case s2 => exact HC33_4.out); rintro e w18 ⟨rfl, hb⟩; refine ⟨_, rfl, ?_⟩; replace HB := A_ (below_step bB_ hb); clear hb))
     go_ret
     exact ⟨rr_, bB_⟩
   rw [if_neg c14] at H
   have c14b0 := decide_eq_false c14
   clear c14
   have H' := A_ H
   clear H
   have p29 : 0 <= (x5_1 : Int) := od_
   have q29 : x5_1 < (l0.length : Int) := od_
   obtain ⟨ad29, A29_0, c29_0, A29_4, c29_4, e29, hx29_0, hx29_1, hx29_2, hx29_3, hx29_4, hl29_0, hi29_0, hl29_4, hi29_4⟩ := at_T57 HR0.out x5_1 p29 q29
   cases e29
   replace hx29_0 := bc_ HB.out hx29_0
   replace hx29_1 := bc_ HB.out hx29_1
   replace hx29_2 := bc_ HB.out hx29_2
   replace hx29_3 := bc_ HB.out hx29_3
   replace hx29_4 := bc_ HB.out hx29_4
   have HR29_0 := A_ hi29_0
   have HC29_0 := A_ hl29_0
   clear hi29_0 hl29_0
   clear hi29_4 hl29_4
   replace p29 := eq_true p29
   replace q29 := eq_true q29
   try go_wp2_with (first | ((with_reducible refine gc_ (f := 71) rfl ?_); refine gL_ (some 18) Try.func71 #[.slice A29_0 ((rd_T57 l0 x5_1).f0).length c29_0, .int .i64 x1_1] ?_; (with_reducible refine (laws_heldStringS.calls k1 _ _ ((rd_T57 l0 x5_1).f0) x1_1 t34 _ ?s1 ?s2 A5.out).mono ?_); (case s1 => exact cC_ (Kd.C_below HR29_0.out HB.out)); (case s2 => exact HC29_0.out); rintro e w19 ⟨rfl, hb⟩; refine ⟨_, rfl, ?_⟩; replace HB := A_ (below_step bB_ hb); clear hb; have p31 : 0 <= (x5_1 : Int) := od_; have q31 : x5_1 < (l0.length : Int) := od_; obtain ⟨ad31, A31_0, c31_0, A31_4, c31_4, e31, hx31_0, hx31_1, hx31_2, hx31_3, hx31_4, hl31_0, hi31_0, hl31_4, hi31_4⟩ := at_T57 HR0.out x5_1 p31 q31; obtain rfl : ad29 = ad31 := (by injection e31); replace hx31_0 := bc_ HB.out hx31_0; replace hx31_1 := bc_ HB.out hx31_1; replace hx31_2 := bc_ HB.out hx31_2; replace hx31_3 := bc_ HB.out hx31_3; replace hx31_4 := bc_ HB.out hx31_4; clear hi31_0 hl31_0; clear hi31_4 hl31_4; replace p31 := eq_true p31; replace q31 := eq_true q31))
   replace HB := A_ (below_drew1 HB.out)
   have p30 : 0 <= (x5_1 : Int) := od_
   have q30 : x5_1 < (l0.length : Int) := od_
   obtain ⟨ad30, A30_0, c30_0, A30_4, c30_4, e30, hx30_0, hx30_1, hx30_2, hx30_3, hx30_4, hl30_0, hi30_0, hl30_4, hi30_4⟩ := at_T57 HR0.out x5_1 p30 q30
   have hw30_4 := hx30_4
   have hw30_3 := hx30_3
   have hw30_2 := hx30_2
   have hw30_1 := hx30_1
   have hw30_0 := hx30_0
   obtain rfl : ad29 = ad30 := (by injection e30)
   replace hx30_0 := bc_ HB.out hx30_0
   replace hx30_1 := bc_ HB.out hx30_1
   replace hx30_2 := bc_ HB.out hx30_2
   replace hx30_3 := bc_ HB.out hx30_3
   replace hx30_4 := bc_ HB.out hx30_4
   clear hi30_0 hl30_0
   clear hi30_4 hl30_4
   replace p30 := eq_true p30
   replace q30 := eq_true q30
   refine st5_ (n := 8) (ds := []) (be_ hw30_0) (be_ hw30_1) (be_ hw30_2) (be_ hw30_3) (be_ hw30_4) (fun hHeld => ?_); refine with_tabW laws_heldResS.tab10 laws_heldResS.bits10 (fun HT_ HW_ => ?_)
   generalize w19.drew = w20 at HB hx30_0 hx30_1 hx30_2 hx30_3 hx30_4 hHeld ⊢
   refine pu_ (i := 0) (N := some 32) ?_
   refine pu_ (i := 1) (N := some 33) ?_
   refine pu_ (i := 2) (N := some 34) ?_
   refine pu_ (i := 3) (N := some 35) ?_
   refine pu_ (i := 5) (N := some 37) ?_
   refine tk_ (i := 4) (N := some 36) hHeld ?_
   refine on_ (i := 6) (N := some 38) (fun K hK => ?_)
   refine goes_ Try.func69 (by kernel_rfl) rfl #[.int .i64 (wrap64 (t34 + 1))] (by rfl) rfl rfl ml_ ?_
   with_reducible refine (laws_markText.calls k1 (wrap64 (t34 + 1)) t35 _ A10.out).mono ?_
   rintro e w21 ⟨rfl, hb⟩
   refine ⟨_, rfl, ?_⟩
   replace HB := A_ (below_step bB_ hb)
   clear hb
   refine hK.out _ _ ⟨(be_ hw30_0), (be_ hw30_1), (be_ hw30_2), (be_ hw30_3), (be_ hw30_4)⟩ (fun hHeld => ?_)
   clear hK K
   refine no_ (some 38) ?_
   refine pu_ (i := 7) (N := some 39) ?_
   refine done_ (done_of HT_.out (by kernel_rfl)) ?_
   (try clear hHeld)
   have p32 : 0 <= (x5_1 : Int) := od_
   have q32 : x5_1 < (l0.length : Int) := od_
   obtain ⟨ad32, A32_0, c32_0, A32_4, c32_4, e32, hx32_0, hx32_1, hx32_2, hx32_3, hx32_4, hl32_0, hi32_0, hl32_4, hi32_4⟩ := at_T57 HR0.out x5_1 p32 q32
   obtain rfl : ad29 = ad32 := (by injection e32)
   replace hx32_0 := bc_ HB.out hx32_0
   replace hx32_1 := bc_ HB.out hx32_1
   replace hx32_2 := bc_ HB.out hx32_2
   replace hx32_3 := bc_ HB.out hx32_3
   replace hx32_4 := bc_ HB.out hx32_4
   clear hi32_0 hl32_0
   clear hi32_4 hl32_4
   replace p32 := eq_true p32
   replace q32 := eq_true q32
   have p33 : 0 <= (x5_1 : Int) := od_
   have q33 : x5_1 < (l0.length : Int) := od_
   obtain ⟨ad33, A33_0, c33_0, A33_4, c33_4, e33, hx33_0, hx33_1, hx33_2, hx33_3, hx33_4, hl33_0, hi33_0, hl33_4, hi33_4⟩ := at_T57 HR0.out x5_1 p33 q33
   obtain rfl : ad29 = ad33 := (by injection e33)
   replace hx33_0 := bc_ HB.out hx33_0
   replace hx33_1 := bc_ HB.out hx33_1
   replace hx33_2 := bc_ HB.out hx33_2
   replace hx33_3 := bc_ HB.out hx33_3
   replace hx33_4 := bc_ HB.out hx33_4
   clear hi33_0 hl33_0
   have HR33_4 := A_ hi33_4
   have HC33_4 := A_ hl33_4
   clear hi33_4 hl33_4
   replace p33 := eq_true p33
   replace q33 := eq_true q33
   have ea_ := Option.some.inj (hx32_0.symm.trans hx33_0)
   injection ea_ with ea_ en_ ec_
   subst ea_
   subst ec_
   clear en_
   have ea_ := Option.some.inj (hx32_4.symm.trans hx33_4)
   injection ea_ with ea_ en_ ec_
   subst ea_
   subst ec_
   clear en_
   try go_wp2_with (first | ((with_reducible refine gc_ (f := 72) rfl ?_); refine gL_ (some 57) Try.func72 #[.slice A32_4 ((rd_T57 l0 x5_1).f4).length c32_4, .int .i64 (wrap64 ((wrap64 ((wrap64 (t34 + 1)) + 1)) + 1))] ?_; (with_reducible refine (laws_heldPropS.calls k1 _ _ ((rd_T57 l0 x5_1).f4) (wrap64 ((wrap64 ((wrap64 (t34 + 1)) + 1)) + 1)) t36 _ ?s1 ?s2 A13.out).mono ?_); (case s1 => exact cC_ (Kd.C_below HR33_4.out HB.out)); (case s2 => exact HC33_4.out); rintro e w22 ⟨rfl, hb⟩; refine ⟨_, rfl, ?_⟩; replace HB := A_ (below_step bB_ hb); clear hb))
   go_roundg k1
   case measure => have := HK1.out; omega
   case rel => exact ⟨(t36), (wrap64 (x5_1 + 1)), rs_, rs_, H', ⟨by have := HK1.out; omega⟩, ⟨bB_⟩⟩
end Go.Proofs.Ytbgggcgjijljkaa.Q
