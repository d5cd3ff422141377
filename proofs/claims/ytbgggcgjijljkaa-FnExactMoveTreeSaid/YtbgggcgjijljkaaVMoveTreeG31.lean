/- The contract of laws.markResS: what it writes of a row whose elements' rows lie apart. No condition. -/
import Derived.Test.YtbgggcgjijljkaaVMoveTreeG29
set_option linter.unusedVariables false
set_option linter.unusedSimpArgs false
namespace Go.Proofs.Ytbgggcgjijljkaa.Q
open Go.RowKit Go.Proofs.YtbgggcgjijljkaaW.PrintWords Go.Proofs.YtbgggcgjijljkaaW.PrintLast
def laws_markResS.l0 : Nat -> List (S57) -> Int -> Int -> Option (Int × List (S57))
 | 0, _, _, _ => none
 | k + 1, x0, x1, x5 => if x5 < (x0.length : Int) then (if 0 <= x5 then ((laws_markStringS.f k ((rd_T57 x0 x5).f0) x1).bind fun bt1a => ((laws_markText.f k (wrap64 (bt1a.1 + 1))).bind fun t2 => ((laws_markPropS.f k ((rd_T57 x0 x5).f4) (wrap64 ((wrap64 ((wrap64 (bt1a.1 + 1)) + 1)) + 1))).bind fun bt3a => (laws_markResS.l0 k (x0.set (x5 : Int).toNat (⟨bt1a.2, (bt1a.1.tmod 3 == 0), t2, (wrap64 ((wrap64 (bt1a.1 + 1)) + 1)), bt3a.2⟩ : S57)) bt3a.1 (wrap64 (x5 + 1)))))) else none) else (some (x1, x0))
def laws_markResS.f (k : Nat) (l0 : List (S57)) (a1 : Int) : Option (Int × List (S57)) := laws_markResS.l0 k l0 a1 0
theorem markResS_cells {α : Type} {d : Kd α} {e g n cap : Nat} {w : World} {base : Nat} {ok oki : Nat -> Prop} {xs : List α} {i : Int} {c : List Value} (h : Kd.H d e w base ok (.slice (some ⟨g, 0, none⟩) n cap) xs i oki c) (h0 : 0 <= i) (h1 : i < n) : (∀ j u, c[j]? = some u -> w.cell? ⟨g, i.toNat * d.sz + j, none⟩ = some u) /\ (∀ j, w.frozen? ⟨g, i.toNat * d.sz + j, none⟩ = false) := by
 obtain ⟨rows, _, hraw, _, _, hcc, _⟩ := Kd.H_raw h h0 h1
 obtain ⟨_, _, _, _, hfr⟩ := Kd.R_elem hraw [] i h0 h1
 exact ⟨hcc, hfr⟩
set_option maxHeartbeats 16000000 in
set_option maxRecDepth 100000 in
theorem laws_markResS.calls (k : Nat) (P0_ : Nat -> Prop) (u9000_ : Value) (l0 : List (S57)) (a1 : Int) (r1 : Int) (r2 : List (S57)) (w0 w : World) (hB : Below w0.heap.size w0 w) (ho0 : Kd.S k57 57 w w0.heap.size P0_ u9000_ l0) (h : laws_markResS.f k l0 a1 = some (r1, r2)) :
 Calls Try.prog 21 #[u9000_, .int .i64 a1] w fun e w' => e = .returned (.int .i64 r1) /\ Kd.S k57 57 w' w0.heap.size P0_ u9000_ r2 /\ Below w0.heap.size w0 w' /\ Kept w w' P0_ := by
 obtain ⟨A0, c0, rfl⟩ := Kd.S_slice ho0
 have HO := A_ ho0
 have HB := A_ hB
 have HK := A_ (Kept.refl w P0_)
 clear hB ho0
 have H' : Aside0 (laws_markResS.l0 k l0 a1 0 = some (r1, r2)) := ⟨h⟩
 clear h
 go_enter Try.func21, Try.ntmps21
 go_wp2
 go_loopg [1, 5] k (fun kq v1 v5 w' => ∃ (x0_1 : List (S57)) (x1_1 : Int) (x5_1 : Int), v1 = .int .i64 x1_1 /\ v5 = .int .i64 x5_1 /\ Aside0 (laws_markResS.l0 kq x0_1 x1_1 x5_1 = some (r1, r2)) /\ Aside0 (kq <= k) /\ Aside0 (Kd.S k57 57 w' w0.heap.size P0_ (.slice A0 l0.length c0) x0_1) /\ Aside0 (x0_1.length = l0.length) /\ Aside0 (Below w0.heap.size w0 w') /\ Aside0 (Kept w w' P0_))
 case atStart => exact ⟨l0, a1, 0, rfl, rfl, H', ⟨Nat.le_refl _⟩, HO, ⟨rfl⟩, HB, HK⟩
 case round =>
  clear H' HO HB HK
  obtain ⟨x0, x1, x5, rfl, rfl, HA, HK1, HO, HL, HB, HK⟩ := hrel
  cases gk with
  | zero => exact absurd HA.out (by simp [laws_markResS.l0])
  | succ k1 =>
   have H := HA.out
   clear HA
   simp only [laws_markResS.l0] at H
   by_cases c3 : x5 < (x0.length : Int)
   rotate_left
   . rw [if_neg c3] at H
     have c3b0 : decide (x5 < (l0.length : Int)) = false := decide_eq_false (by rw [← HL.out]; exact c3)
     obtain ⟨rfl, rfl⟩ := Prod.mk.inj (Option.some.inj H)
     go_wp2
     go_ret
     exact ⟨rfl, HO.out, HB.out, HK.out⟩
   rw [if_pos c3] at H
   have c3' : x5 < (l0.length : Int) := by rw [← HL.out]; exact c3
   have c3b0 : decide (x5 < (l0.length : Int)) = true := decide_eq_true c3'
   by_cases c4 : 0 <= x5
   rotate_left
   . rw [if_neg c4] at H
     exact absurd H (by simp)
   rw [if_pos c4] at H
   have c4b0 := decide_eq_true c4
   replace H := Option.bind_eq_some_iff.mp H
   obtain ⟨⟨t1a, t1b⟩, A0_, H⟩ := H
   dsimp only at H
   have At1a := A_ A0_
   clear A0_
   replace H := Option.bind_eq_some_iff.mp H
   obtain ⟨t2, A0_, H⟩ := H
   have At2 := A_ A0_
   clear A0_
   replace H := Option.bind_eq_some_iff.mp H
   obtain ⟨⟨t3a, t3b⟩, A0_, H⟩ := H
   dsimp only at H
   have At3a := A_ A0_
   clear A0_
   have H' : Aside0 ((laws_markResS.l0 k1 (x0.set (x5 : Int).toNat (⟨t1b, (t1a.tmod 3 == 0), t2, (wrap64 ((wrap64 (t1a + 1)) + 1)), t3b⟩ : S57)) t3a (wrap64 (x5 + 1))) = some (r1, r2)) := ⟨H⟩
   clear H
   obtain ⟨g, cap, ev, hgb, hgl, _⟩ := Kd.S_form HO.out (by omega)
   injection ev with eA en ec
   subst eA
   subst ec
   clear en
   obtain ⟨oki, c, hcl, hM, hcc, hfr, hoki, hH⟩ := Kd.S_elem HO.out z57 x5 c4 c3'
   obtain ⟨v0, v4, rfl, g0, g4⟩ := k57_openM hM
   obtain ⟨Av0, cv0, rfl⟩ := Kd.R_slice g0
   obtain ⟨Av4, cv4, rfl⟩ := Kd.R_slice g4
   have HI0 : Aside0 (∀ k_, some k_ = (.slice Av0 (rd_T57 x0 x5).f0.length cv0 : Value).ownBlock -> oki k_) := ⟨fun k_ h_ => g0.1 k_ h_.symm⟩
   have HP0 : Aside0 (Kd.string.R 9 wr w0.heap.size (fun k_ => some k_ = (.slice Av0 (rd_T57 x0 x5).f0.length cv0 : Value).ownBlock) (.slice Av0 (rd_T57 x0 x5).f0.length cv0 : Value) ((rd_T57 x0 x5).f0)) := ⟨Kd.R_tight rfl g0⟩
   have HI4 : Aside0 (∀ k_, some k_ = (.slice Av4 (rd_T57 x0 x5).f4.length cv4 : Value).ownBlock -> oki k_) := ⟨fun k_ h_ => g4.1 k_ h_.symm⟩
   have HP4 : Aside0 (k72.R 72 wr w0.heap.size (fun k_ => some k_ = (.slice Av4 (rd_T57 x0 x5).f4.length cv4 : Value).ownBlock) (.slice Av4 (rd_T57 x0 x5).f4.length cv4 : Value) ((rd_T57 x0 x5).f4)) := ⟨Kd.R_tight rfl g4⟩
   have HA0_4 : Aside0 (∀ k_, some k_ = (.slice Av0 (rd_T57 x0 x5).f0.length cv0 : Value).ownBlock -> some k_ = (.slice Av4 (rd_T57 x0 x5).f4.length cv4 : Value).ownBlock -> False) := ⟨fun k_ h_ h2_ => by obtain ⟨_, e1_⟩ := Kd.R_typed g0 k_ h_.symm; obtain ⟨_, e2_⟩ := Kd.R_typed g4 k_ h2_.symm; have e3_ := Option.some.inj (e1_.symm.trans e2_); injection e3_ with _ h9_ _; exact absurd h9_ (by decide)⟩
   have HH : Aside0 (Kd.H k57 57 wr w0.heap.size P0_ (.slice (some ⟨g, 0, none⟩) l0.length c0) x0 x5 oki [(.slice Av0 (rd_T57 x0 x5).f0.length cv0 : Value), .bool (rd_T57 x0 x5).f1, .string (rd_T57 x0 x5).f2, .int .i64 (rd_T57 x0 x5).f3, (.slice Av4 (rd_T57 x0 x5).f4.length cv4 : Value)]) := ⟨hH⟩
   have HN := A_ (fun k_ (h_ : oki k_) => (hoki k_ h_).2)
   have HQ := A_ (fun k_ (h_ : oki k_) => (hoki k_ h_).1)
   have HG : Aside0 (P0_ g) := ⟨(Kd.S_R HO.out).1 g rfl⟩
   have GB := A_ hgb
   clear hcl hM hcc hfr hoki hH hgb hgl HO g0 g4
   have hc_ := markResS_cells HH.out c4 c3'
   have hx0 : wr.cell? ⟨g, (x5 : Int).toNat * 5, none⟩ = some ((.slice Av0 (rd_T57 x0 x5).f0.length cv0 : Value)) := hc_.1 0 _ rfl
   have hx1 : wr.cell? ⟨g, (x5 : Int).toNat * 5 + 1, none⟩ = some (.bool (rd_T57 x0 x5).f1) := hc_.1 1 _ rfl
   have hx2 : wr.cell? ⟨g, (x5 : Int).toNat * 5 + 2, none⟩ = some (.string (rd_T57 x0 x5).f2) := hc_.1 2 _ rfl
   have hx3 : wr.cell? ⟨g, (x5 : Int).toNat * 5 + 3, none⟩ = some (.int .i64 (rd_T57 x0 x5).f3) := hc_.1 3 _ rfl
   have hx4 : wr.cell? ⟨g, (x5 : Int).toNat * 5 + 4, none⟩ = some ((.slice Av4 (rd_T57 x0 x5).f4.length cv4 : Value)) := hc_.1 4 _ rfl
   have hf0 : wr.frozen? ⟨g, (x5 : Int).toNat * 5, none⟩ = false := hc_.2 0
   have hf1 : wr.frozen? ⟨g, (x5 : Int).toNat * 5 + 1, none⟩ = false := hc_.2 1
   have hf2 : wr.frozen? ⟨g, (x5 : Int).toNat * 5 + 2, none⟩ = false := hc_.2 2
   have hf3 : wr.frozen? ⟨g, (x5 : Int).toNat * 5 + 3, none⟩ = false := hc_.2 3
   have hf4 : wr.frozen? ⟨g, (x5 : Int).toNat * 5 + 4, none⟩ = false := hc_.2 4
   clear hc_
   have c3k := A_ c3'
   have c4k := A_ c4
   replace c3 := eq_true c3'
   replace c4 := eq_true c4
   clear c3'
   go_wp2_with (first | ((with_reducible refine gc_ (f := 22) rfl ?_); refine gL_ (some 18) Try.func22 #[(.slice Av0 (rd_T57 x0 x5).f0.length cv0 : Value), .int .i64 x1] ?_; (with_reducible refine (laws_markStringS.calls k1 (fun k_ => some k_ = (.slice Av0 (rd_T57 x0 x5).f0.length cv0 : Value).ownBlock) (.slice Av0 (rd_T57 x0 x5).f0.length cv0 : Value) ((rd_T57 x0 x5).f0) x1 t1a t1b w0 _ HB.out HP0.out At1a.out).mono ?_); rintro e w_1 ⟨rfl, hr_, hb_, hk_⟩; refine ⟨_, rfl, ?_⟩; have m0_ : Aside0 (Kd.H k57 57 w_1 w0.heap.size P0_ (.slice (some ⟨g, 0, none⟩) l0.length c0) x0 x5 oki [(.slice Av0 (rd_T57 x0 x5).f0.length cv0 : Value), .bool (rd_T57 x0 x5).f1, .string (rd_T57 x0 x5).f2, .int .i64 (rd_T57 x0 x5).f3, (.slice Av4 (rd_T57 x0 x5).f4.length cv4 : Value)]) := ⟨Kd.H_step HH.out (fun k_ _ hn_ hl_ => hk_.2 k_ hl_ (fun h3_ => hn_ (HI0.out k_ h3_)))⟩; have m1_ : Aside0 (Kd.string.R 9 w_1 w0.heap.size (fun k_ => some k_ = (.slice Av0 (rd_T57 x0 x5).f0.length cv0 : Value).ownBlock) (.slice Av0 (rd_T57 x0 x5).f0.length cv0 : Value) t1b) := ⟨Kd.R_tight rfl hr_⟩; have m2_ : Aside0 (k72.R 72 w_1 w0.heap.size (fun k_ => some k_ = (.slice Av4 (rd_T57 x0 x5).f4.length cv4 : Value).ownBlock) (.slice Av4 (rd_T57 x0 x5).f4.length cv4 : Value) ((rd_T57 x0 x5).f4)) := ⟨Kd.R_step HP4.out (fun k_ h1_ hl_ => hk_.2 k_ hl_ (fun h3_ => HA0_4.out k_ h3_ h1_))⟩; have m3_ : Aside0 (Below w0.heap.size w0 w_1) := ⟨hb_⟩; have m4_ : Aside0 (Kept w w_1 P0_) := ⟨Kept.then_ HK.out hk_ (fun k_ h_ => .inl (HQ.out k_ (HI0.out k_ h_)))⟩; clear HH HP0 HP4 HB HK; clear hx0 hf0 hx1 hf1 hx2 hf2 hx3 hf3 hx4 hf4; have HH := m0_; have HP0 := m1_; have HP4 := m2_; have HB := m3_; have HK := m4_; clear m0_ m1_ m2_ m3_ m4_; have hc_ := markResS_cells HH.out c4k.out c3k.out; have hx0 : w_1.cell? ⟨g, (x5 : Int).toNat * 5, none⟩ = some ((.slice Av0 (rd_T57 x0 x5).f0.length cv0 : Value)) := hc_.1 0 _ rfl; have hx1 : w_1.cell? ⟨g, (x5 : Int).toNat * 5 + 1, none⟩ = some (.bool (rd_T57 x0 x5).f1) := hc_.1 1 _ rfl; have hx2 : w_1.cell? ⟨g, (x5 : Int).toNat * 5 + 2, none⟩ = some (.string (rd_T57 x0 x5).f2) := hc_.1 2 _ rfl; have hx3 : w_1.cell? ⟨g, (x5 : Int).toNat * 5 + 3, none⟩ = some (.int .i64 (rd_T57 x0 x5).f3) := hc_.1 3 _ rfl; have hx4 : w_1.cell? ⟨g, (x5 : Int).toNat * 5 + 4, none⟩ = some ((.slice Av4 (rd_T57 x0 x5).f4.length cv4 : Value)) := hc_.1 4 _ rfl; have hf0 : w_1.frozen? ⟨g, (x5 : Int).toNat * 5, none⟩ = false := hc_.2 0; have hf1 : w_1.frozen? ⟨g, (x5 : Int).toNat * 5 + 1, none⟩ = false := hc_.2 1; have hf2 : w_1.frozen? ⟨g, (x5 : Int).toNat * 5 + 2, none⟩ = false := hc_.2 2; have hf3 : w_1.frozen? ⟨g, (x5 : Int).toNat * 5 + 3, none⟩ = false := hc_.2 3; have hf4 : w_1.frozen? ⟨g, (x5 : Int).toNat * 5 + 4, none⟩ = false := hc_.2 4; clear hc_; clear hr_ hb_ hk_) | ((with_reducible refine gate_store (t := 4) (p := 25) rfl ?_); refine store_event (t := 4) (p := 25) (v := ?vo_1) (w1 := (w_1.setCell ⟨g, (x5 : Int).toNat * 5 + 1, none⟩ (.bool (t1a.tmod 3 == 0)))) ?hg ?ho ?hn ?hr ?_; (case ho => rfl); (case hg => rfl); (case hn => rfl); (case hr => first | (go_simp; done) | (go_simp; rfl)); intro w_2 hw_; have hs_ := Kd.H_seg HH.out c4k.out c3k.out (seg := [.bool (t1a.tmod 3 == 0)]) (j := 1) (show 2 <= 5 by decide) (by intro q_ hq_; rcases List.mem_singleton.1 hq_ with rfl; rfl); have hg_ : w_1.grownBy w_2 (some g) := (by rw [hw_]; exact hs_.2); have m0_ : Aside0 (Kd.H k57 57 w_2 w0.heap.size P0_ (.slice (some ⟨g, 0, none⟩) l0.length c0) x0 x5 oki [(.slice Av0 (rd_T57 x0 x5).f0.length cv0 : Value), .bool (t1a.tmod 3 == 0), .string (rd_T57 x0 x5).f2, .int .i64 (rd_T57 x0 x5).f3, (.slice Av4 (rd_T57 x0 x5).f4.length cv4 : Value)]) := ⟨(by rw [hw_]; exact hs_.1)⟩; have m1_ : Aside0 (Kd.string.R 9 w_2 w0.heap.size (fun k_ => some k_ = (.slice Av0 (rd_T57 x0 x5).f0.length cv0 : Value).ownBlock) (.slice Av0 (rd_T57 x0 x5).f0.length cv0 : Value) t1b) := ⟨Kd.R_grown HP0.out hg_ (fun k_ h_ e_ => HN.out k_ (HI0.out k_ h_) (by injection e_))⟩; have m2_ : Aside0 (k72.R 72 w_2 w0.heap.size (fun k_ => some k_ = (.slice Av4 (rd_T57 x0 x5).f4.length cv4 : Value).ownBlock) (.slice Av4 (rd_T57 x0 x5).f4.length cv4 : Value) ((rd_T57 x0 x5).f4)) := ⟨Kd.R_grown HP4.out hg_ (fun k_ h_ e_ => HN.out k_ (HI4.out k_ h_) (by injection e_))⟩; have m3_ : Aside0 (Below w0.heap.size w0 w_2) := ⟨(by rw [hw_]; exact below_set HB.out GB.out)⟩; have m4_ : Aside0 (Kept w w_2 P0_) := ⟨Kept.of_grown hg_ HK.out (fun k_ e_ => .inl (by injection e_ with e_; rw [← e_]; exact HG.out))⟩; clear HH HP0 HP4 HB HK; clear hx0 hf0 hx1 hf1 hx2 hf2 hx3 hf3 hx4 hf4; have HH := m0_; have HP0 := m1_; have HP4 := m2_; have HB := m3_; have HK := m4_; clear m0_ m1_ m2_ m3_ m4_; have hc_ := markResS_cells HH.out c4k.out c3k.out; have hx0 : w_2.cell? ⟨g, (x5 : Int).toNat * 5, none⟩ = some ((.slice Av0 (rd_T57 x0 x5).f0.length cv0 : Value)) := hc_.1 0 _ rfl; have hx1 : w_2.cell? ⟨g, (x5 : Int).toNat * 5 + 1, none⟩ = some (.bool (t1a.tmod 3 == 0)) := hc_.1 1 _ rfl; have hx2 : w_2.cell? ⟨g, (x5 : Int).toNat * 5 + 2, none⟩ = some (.string (rd_T57 x0 x5).f2) := hc_.1 2 _ rfl; have hx3 : w_2.cell? ⟨g, (x5 : Int).toNat * 5 + 3, none⟩ = some (.int .i64 (rd_T57 x0 x5).f3) := hc_.1 3 _ rfl; have hx4 : w_2.cell? ⟨g, (x5 : Int).toNat * 5 + 4, none⟩ = some ((.slice Av4 (rd_T57 x0 x5).f4.length cv4 : Value)) := hc_.1 4 _ rfl; have hf0 : w_2.frozen? ⟨g, (x5 : Int).toNat * 5, none⟩ = false := hc_.2 0; have hf1 : w_2.frozen? ⟨g, (x5 : Int).toNat * 5 + 1, none⟩ = false := hc_.2 1; have hf2 : w_2.frozen? ⟨g, (x5 : Int).toNat * 5 + 2, none⟩ = false := hc_.2 2; have hf3 : w_2.frozen? ⟨g, (x5 : Int).toNat * 5 + 3, none⟩ = false := hc_.2 3; have hf4 : w_2.frozen? ⟨g, (x5 : Int).toNat * 5 + 4, none⟩ = false := hc_.2 4; clear hc_; clear hw_ hs_ hg_) | ((with_reducible refine gc_ (f := 69) rfl ?_); refine gL_ (some 31) Try.func69 #[.int .i64 (wrap64 (t1a + 1))] ?_; (with_reducible refine (laws_markText.calls k1 (wrap64 (t1a + 1)) t2 _ At2.out).mono ?_); rintro e w_3 ⟨rfl, hb_⟩; refine ⟨_, rfl, ?_⟩; have m0_ : Aside0 (Kd.H k57 57 w_3 w0.heap.size P0_ (.slice (some ⟨g, 0, none⟩) l0.length c0) x0 x5 oki [(.slice Av0 (rd_T57 x0 x5).f0.length cv0 : Value), .bool (t1a.tmod 3 == 0), .string (rd_T57 x0 x5).f2, .int .i64 (rd_T57 x0 x5).f3, (.slice Av4 (rd_T57 x0 x5).f4.length cv4 : Value)]) := ⟨Kd.H_below HH.out hb_⟩; have m1_ : Aside0 (Kd.string.R 9 w_3 w0.heap.size (fun k_ => some k_ = (.slice Av0 (rd_T57 x0 x5).f0.length cv0 : Value).ownBlock) (.slice Av0 (rd_T57 x0 x5).f0.length cv0 : Value) t1b) := ⟨Kd.R_below HP0.out hb_⟩; have m2_ : Aside0 (k72.R 72 w_3 w0.heap.size (fun k_ => some k_ = (.slice Av4 (rd_T57 x0 x5).f4.length cv4 : Value).ownBlock) (.slice Av4 (rd_T57 x0 x5).f4.length cv4 : Value) ((rd_T57 x0 x5).f4)) := ⟨Kd.R_below HP4.out hb_⟩; have m3_ : Aside0 (Below w0.heap.size w0 w_3) := ⟨below_step HB.out hb_⟩; have m4_ : Aside0 (Kept w w_3 P0_) := ⟨Kept.below HK.out hb_⟩; clear HH HP0 HP4 HB HK; clear hx0 hf0 hx1 hf1 hx2 hf2 hx3 hf3 hx4 hf4; have HH := m0_; have HP0 := m1_; have HP4 := m2_; have HB := m3_; have HK := m4_; clear m0_ m1_ m2_ m3_ m4_; have hc_ := markResS_cells HH.out c4k.out c3k.out; have hx0 : w_3.cell? ⟨g, (x5 : Int).toNat * 5, none⟩ = some ((.slice Av0 (rd_T57 x0 x5).f0.length cv0 : Value)) := hc_.1 0 _ rfl; have hx1 : w_3.cell? ⟨g, (x5 : Int).toNat * 5 + 1, none⟩ = some (.bool (t1a.tmod 3 == 0)) := hc_.1 1 _ rfl; have hx2 : w_3.cell? ⟨g, (x5 : Int).toNat * 5 + 2, none⟩ = some (.string (rd_T57 x0 x5).f2) := hc_.1 2 _ rfl; have hx3 : w_3.cell? ⟨g, (x5 : Int).toNat * 5 + 3, none⟩ = some (.int .i64 (rd_T57 x0 x5).f3) := hc_.1 3 _ rfl; have hx4 : w_3.cell? ⟨g, (x5 : Int).toNat * 5 + 4, none⟩ = some ((.slice Av4 (rd_T57 x0 x5).f4.length cv4 : Value)) := hc_.1 4 _ rfl; have hf0 : w_3.frozen? ⟨g, (x5 : Int).toNat * 5, none⟩ = false := hc_.2 0; have hf1 : w_3.frozen? ⟨g, (x5 : Int).toNat * 5 + 1, none⟩ = false := hc_.2 1; have hf2 : w_3.frozen? ⟨g, (x5 : Int).toNat * 5 + 2, none⟩ = false := hc_.2 2; have hf3 : w_3.frozen? ⟨g, (x5 : Int).toNat * 5 + 3, none⟩ = false := hc_.2 3; have hf4 : w_3.frozen? ⟨g, (x5 : Int).toNat * 5 + 4, none⟩ = false := hc_.2 4; clear hc_; clear hb_) | ((with_reducible refine gate_store (t := 9) (p := 33) rfl ?_); refine store_event (t := 9) (p := 33) (v := ?vo_3) (w1 := (w_3.setCell ⟨g, (x5 : Int).toNat * 5 + 2, none⟩ (.string t2))) ?hg ?ho ?hn ?hr ?_; (case ho => rfl); (case hg => rfl); (case hn => rfl); (case hr => first | (go_simp; done) | (go_simp; rfl)); intro w_4 hw_; have hs_ := Kd.H_seg HH.out c4k.out c3k.out (seg := [.string t2]) (j := 2) (show 3 <= 5 by decide) (by intro q_ hq_; rcases List.mem_singleton.1 hq_ with rfl; rfl); have hg_ : w_3.grownBy w_4 (some g) := (by rw [hw_]; exact hs_.2); have m0_ : Aside0 (Kd.H k57 57 w_4 w0.heap.size P0_ (.slice (some ⟨g, 0, none⟩) l0.length c0) x0 x5 oki [(.slice Av0 (rd_T57 x0 x5).f0.length cv0 : Value), .bool (t1a.tmod 3 == 0), .string t2, .int .i64 (rd_T57 x0 x5).f3, (.slice Av4 (rd_T57 x0 x5).f4.length cv4 : Value)]) := ⟨(by rw [hw_]; exact hs_.1)⟩; have m1_ : Aside0 (Kd.string.R 9 w_4 w0.heap.size (fun k_ => some k_ = (.slice Av0 (rd_T57 x0 x5).f0.length cv0 : Value).ownBlock) (.slice Av0 (rd_T57 x0 x5).f0.length cv0 : Value) t1b) := ⟨Kd.R_grown HP0.out hg_ (fun k_ h_ e_ => HN.out k_ (HI0.out k_ h_) (by injection e_))⟩; have m2_ : Aside0 (k72.R 72 w_4 w0.heap.size (fun k_ => some k_ = (.slice Av4 (rd_T57 x0 x5).f4.length cv4 : Value).ownBlock) (.slice Av4 (rd_T57 x0 x5).f4.length cv4 : Value) ((rd_T57 x0 x5).f4)) := ⟨Kd.R_grown HP4.out hg_ (fun k_ h_ e_ => HN.out k_ (HI4.out k_ h_) (by injection e_))⟩; have m3_ : Aside0 (Below w0.heap.size w0 w_4) := ⟨(by rw [hw_]; exact below_set HB.out GB.out)⟩; have m4_ : Aside0 (Kept w w_4 P0_) := ⟨Kept.of_grown hg_ HK.out (fun k_ e_ => .inl (by injection e_ with e_; rw [← e_]; exact HG.out))⟩; clear HH HP0 HP4 HB HK; clear hx0 hf0 hx1 hf1 hx2 hf2 hx3 hf3 hx4 hf4; have HH := m0_; have HP0 := m1_; have HP4 := m2_; have HB := m3_; have HK := m4_; clear m0_ m1_ m2_ m3_ m4_; have hc_ := markResS_cells HH.out c4k.out c3k.out; have hx0 : w_4.cell? ⟨g, (x5 : Int).toNat * 5, none⟩ = some ((.slice Av0 (rd_T57 x0 x5).f0.length cv0 : Value)) := hc_.1 0 _ rfl; have hx1 : w_4.cell? ⟨g, (x5 : Int).toNat * 5 + 1, none⟩ = some (.bool (t1a.tmod 3 == 0)) := hc_.1 1 _ rfl; have hx2 : w_4.cell? ⟨g, (x5 : Int).toNat * 5 + 2, none⟩ = some (.string t2) := hc_.1 2 _ rfl; have hx3 : w_4.cell? ⟨g, (x5 : Int).toNat * 5 + 3, none⟩ = some (.int .i64 (rd_T57 x0 x5).f3) := hc_.1 3 _ rfl; have hx4 : w_4.cell? ⟨g, (x5 : Int).toNat * 5 + 4, none⟩ = some ((.slice Av4 (rd_T57 x0 x5).f4.length cv4 : Value)) := hc_.1 4 _ rfl; have hf0 : w_4.frozen? ⟨g, (x5 : Int).toNat * 5, none⟩ = false := hc_.2 0; have hf1 : w_4.frozen? ⟨g, (x5 : Int).toNat * 5 + 1, none⟩ = false := hc_.2 1; have hf2 : w_4.frozen? ⟨g, (x5 : Int).toNat * 5 + 2, none⟩ = false := hc_.2 2; have hf3 : w_4.frozen? ⟨g, (x5 : Int).toNat * 5 + 3, none⟩ = false := hc_.2 3; have hf4 : w_4.frozen? ⟨g, (x5 : Int).toNat * 5 + 4, none⟩ = false := hc_.2 4; clear hc_; clear hw_ hs_ hg_) | ((with_reducible refine gate_store (t := 3) (p := 40) rfl ?_); refine store_event (t := 3) (p := 40) (v := ?vo_4) (w1 := (w_4.setCell ⟨g, (x5 : Int).toNat * 5 + 3, none⟩ (.int .i64 (wrap64 ((wrap64 (t1a + 1)) + 1))))) ?hg ?ho ?hn ?hr ?_; (case ho => rfl); (case hg => rfl); (case hn => rfl); (case hr => first | (go_simp; done) | (go_simp; rfl)); intro w_5 hw_; have hs_ := Kd.H_seg HH.out c4k.out c3k.out (seg := [.int .i64 (wrap64 ((wrap64 (t1a + 1)) + 1))]) (j := 3) (show 4 <= 5 by decide) (by intro q_ hq_; rcases List.mem_singleton.1 hq_ with rfl; rfl); have hg_ : w_4.grownBy w_5 (some g) := (by rw [hw_]; exact hs_.2); have m0_ : Aside0 (Kd.H k57 57 w_5 w0.heap.size P0_ (.slice (some ⟨g, 0, none⟩) l0.length c0) x0 x5 oki [(.slice Av0 (rd_T57 x0 x5).f0.length cv0 : Value), .bool (t1a.tmod 3 == 0), .string t2, .int .i64 (wrap64 ((wrap64 (t1a + 1)) + 1)), (.slice Av4 (rd_T57 x0 x5).f4.length cv4 : Value)]) := ⟨(by rw [hw_]; exact hs_.1)⟩; have m1_ : Aside0 (Kd.string.R 9 w_5 w0.heap.size (fun k_ => some k_ = (.slice Av0 (rd_T57 x0 x5).f0.length cv0 : Value).ownBlock) (.slice Av0 (rd_T57 x0 x5).f0.length cv0 : Value) t1b) := ⟨Kd.R_grown HP0.out hg_ (fun k_ h_ e_ => HN.out k_ (HI0.out k_ h_) (by injection e_))⟩; have m2_ : Aside0 (k72.R 72 w_5 w0.heap.size (fun k_ => some k_ = (.slice Av4 (rd_T57 x0 x5).f4.length cv4 : Value).ownBlock) (.slice Av4 (rd_T57 x0 x5).f4.length cv4 : Value) ((rd_T57 x0 x5).f4)) := ⟨Kd.R_grown HP4.out hg_ (fun k_ h_ e_ => HN.out k_ (HI4.out k_ h_) (by injection e_))⟩; have m3_ : Aside0 (Below w0.heap.size w0 w_5) := ⟨(by rw [hw_]; exact below_set HB.out GB.out)⟩; have m4_ : Aside0 (Kept w w_5 P0_) := ⟨Kept.of_grown hg_ HK.out (fun k_ e_ => .inl (by injection e_ with e_; rw [← e_]; exact HG.out))⟩; clear HH HP0 HP4 HB HK; clear hx0 hf0 hx1 hf1 hx2 hf2 hx3 hf3 hx4 hf4; have HH := m0_; have HP0 := m1_; have HP4 := m2_; have HB := m3_; have HK := m4_; clear m0_ m1_ m2_ m3_ m4_; have hc_ := markResS_cells HH.out c4k.out c3k.out; have hx0 : w_5.cell? ⟨g, (x5 : Int).toNat * 5, none⟩ = some ((.slice Av0 (rd_T57 x0 x5).f0.length cv0 : Value)) := hc_.1 0 _ rfl; have hx1 : w_5.cell? ⟨g, (x5 : Int).toNat * 5 + 1, none⟩ = some (.bool (t1a.tmod 3 == 0)) := hc_.1 1 _ rfl; have hx2 : w_5.cell? ⟨g, (x5 : Int).toNat * 5 + 2, none⟩ = some (.string t2) := hc_.1 2 _ rfl; have hx3 : w_5.cell? ⟨g, (x5 : Int).toNat * 5 + 3, none⟩ = some (.int .i64 (wrap64 ((wrap64 (t1a + 1)) + 1))) := hc_.1 3 _ rfl; have hx4 : w_5.cell? ⟨g, (x5 : Int).toNat * 5 + 4, none⟩ = some ((.slice Av4 (rd_T57 x0 x5).f4.length cv4 : Value)) := hc_.1 4 _ rfl; have hf0 : w_5.frozen? ⟨g, (x5 : Int).toNat * 5, none⟩ = false := hc_.2 0; have hf1 : w_5.frozen? ⟨g, (x5 : Int).toNat * 5 + 1, none⟩ = false := hc_.2 1; have hf2 : w_5.frozen? ⟨g, (x5 : Int).toNat * 5 + 2, none⟩ = false := hc_.2 2; have hf3 : w_5.frozen? ⟨g, (x5 : Int).toNat * 5 + 3, none⟩ = false := hc_.2 3; have hf4 : w_5.frozen? ⟨g, (x5 : Int).toNat * 5 + 4, none⟩ = false := hc_.2 4; clear hc_; clear hw_ hs_ hg_) | ((with_reducible refine gc_ (f := 70) rfl ?_); refine gL_ (some 49) Try.func70 #[(.slice Av4 (rd_T57 x0 x5).f4.length cv4 : Value), .int .i64 (wrap64 ((wrap64 ((wrap64 (t1a + 1)) + 1)) + 1))] ?_; (with_reducible refine (laws_markPropS.calls k1 (fun k_ => some k_ = (.slice Av4 (rd_T57 x0 x5).f4.length cv4 : Value).ownBlock) (.slice Av4 (rd_T57 x0 x5).f4.length cv4 : Value) ((rd_T57 x0 x5).f4) (wrap64 ((wrap64 ((wrap64 (t1a + 1)) + 1)) + 1)) t3a t3b w0 _ HB.out HP4.out At3a.out).mono ?_); rintro e w_6 ⟨rfl, hr_, hb_, hk_⟩; refine ⟨_, rfl, ?_⟩; have m0_ : Aside0 (Kd.H k57 57 w_6 w0.heap.size P0_ (.slice (some ⟨g, 0, none⟩) l0.length c0) x0 x5 oki [(.slice Av0 (rd_T57 x0 x5).f0.length cv0 : Value), .bool (t1a.tmod 3 == 0), .string t2, .int .i64 (wrap64 ((wrap64 (t1a + 1)) + 1)), (.slice Av4 (rd_T57 x0 x5).f4.length cv4 : Value)]) := ⟨Kd.H_step HH.out (fun k_ _ hn_ hl_ => hk_.2 k_ hl_ (fun h3_ => hn_ (HI4.out k_ h3_)))⟩; have m1_ : Aside0 (k72.R 72 w_6 w0.heap.size (fun k_ => some k_ = (.slice Av4 (rd_T57 x0 x5).f4.length cv4 : Value).ownBlock) (.slice Av4 (rd_T57 x0 x5).f4.length cv4 : Value) t3b) := ⟨Kd.R_tight rfl hr_⟩; have m2_ : Aside0 (Kd.string.R 9 w_6 w0.heap.size (fun k_ => some k_ = (.slice Av0 (rd_T57 x0 x5).f0.length cv0 : Value).ownBlock) (.slice Av0 (rd_T57 x0 x5).f0.length cv0 : Value) t1b) := ⟨Kd.R_step HP0.out (fun k_ h1_ hl_ => hk_.2 k_ hl_ (fun h3_ => HA0_4.out k_ h1_ h3_))⟩; have m3_ : Aside0 (Below w0.heap.size w0 w_6) := ⟨hb_⟩; have m4_ : Aside0 (Kept w w_6 P0_) := ⟨Kept.then_ HK.out hk_ (fun k_ h_ => .inl (HQ.out k_ (HI4.out k_ h_)))⟩; clear HH HP4 HP0 HB HK; clear hx0 hf0 hx1 hf1 hx2 hf2 hx3 hf3 hx4 hf4; have HH := m0_; have HP4 := m1_; have HP0 := m2_; have HB := m3_; have HK := m4_; clear m0_ m1_ m2_ m3_ m4_; have hc_ := markResS_cells HH.out c4k.out c3k.out; have hx0 : w_6.cell? ⟨g, (x5 : Int).toNat * 5, none⟩ = some ((.slice Av0 (rd_T57 x0 x5).f0.length cv0 : Value)) := hc_.1 0 _ rfl; have hx1 : w_6.cell? ⟨g, (x5 : Int).toNat * 5 + 1, none⟩ = some (.bool (t1a.tmod 3 == 0)) := hc_.1 1 _ rfl; have hx2 : w_6.cell? ⟨g, (x5 : Int).toNat * 5 + 2, none⟩ = some (.string t2) := hc_.1 2 _ rfl; have hx3 : w_6.cell? ⟨g, (x5 : Int).toNat * 5 + 3, none⟩ = some (.int .i64 (wrap64 ((wrap64 (t1a + 1)) + 1))) := hc_.1 3 _ rfl; have hx4 : w_6.cell? ⟨g, (x5 : Int).toNat * 5 + 4, none⟩ = some ((.slice Av4 (rd_T57 x0 x5).f4.length cv4 : Value)) := hc_.1 4 _ rfl; have hf0 : w_6.frozen? ⟨g, (x5 : Int).toNat * 5, none⟩ = false := hc_.2 0; have hf1 : w_6.frozen? ⟨g, (x5 : Int).toNat * 5 + 1, none⟩ = false := hc_.2 1; have hf2 : w_6.frozen? ⟨g, (x5 : Int).toNat * 5 + 2, none⟩ = false := hc_.2 2; have hf3 : w_6.frozen? ⟨g, (x5 : Int).toNat * 5 + 3, none⟩ = false := hc_.2 3; have hf4 : w_6.frozen? ⟨g, (x5 : Int).toNat * 5 + 4, none⟩ = false := hc_.2 4; clear hc_; clear hr_ hb_ hk_))
   go_roundg k1
   case measure => have := HK1.out; omega
   case rel => exact ⟨_, t3a, wrap64 (x5 + 1), rfl, rfl, H', ⟨by have := HK1.out; omega⟩, ⟨Kd.H_back HH.out (k57_mkM _ _ _ (⟨t1b, (t1a.tmod 3 == 0), t2, (wrap64 ((wrap64 (t1a + 1)) + 1)), t3b⟩ : S57) (Kd.R_mono HP0.out HI0.out) (Kd.R_mono HP4.out HI4.out)) (fun _ h_ => h_)⟩, ⟨by rw [List.length_set]; exact HL.out⟩, HB, HK⟩
open Go.RowKit Go.Proofs.YtbgggcgjijljkaaW.PrintWords Go.Proofs.YtbgggcgjijljkaaW.PrintLast Go.Proofs.YtbgggcgjijljkaaW.PrintMore
attribute [local go_sem] max2_int min2_int max_two min_two max_three min_three max_four min_four
set_option linter.unusedVariables false
set_option linter.unusedSimpArgs false
mutual
def impl_copied.j0 : Nat -> List (S57) -> List ByteArray -> List ByteArray -> Bool -> Int -> Bool -> Bool -> Option ((List (S57)) × Int)
  | 0, _, _, _, _, _, _, _ => none
  | k + 1, x0, x1, x2, x3, x4, x12, x20 => if x20 = true then (some (([] : List (S57)), 404)) else (if (x1.length : Int) = 0 then (impl_copied.j1 k x0 x1 x2 x3 x4 x12 true) else (if (x2.length : Int) = 0 then (impl_copied.j1 k x0 x1 x2 x3 x4 x12 true) else ((impl_isAt.f k x1 x2).bind fun t977 => (if t977 = true then (impl_copied.j1 k x0 x1 x2 x3 x4 x12 true) else ((impl_isAt.f k x2 x1).bind fun t978 => (impl_copied.j1 k x0 x1 x2 x3 x4 x12 t978))))))
def impl_copied.j1 : Nat -> List (S57) -> List ByteArray -> List ByteArray -> Bool -> Int -> Bool -> Bool -> Option ((List (S57)) × Int)
  | 0, _, _, _, _, _, _, _ => none
  | k + 1, x0, x1, x2, x3, x4, x12, x30 => if x30 = true then (some (([] : List (S57)), 403)) else (if x12 = true then (impl_copied.j2 k x0 x1 x2 x4 x12 (!x3)) else (impl_copied.j2 k x0 x1 x2 x4 x12 false))
def impl_copied.j2 : Nat -> List (S57) -> List ByteArray -> List ByteArray -> Int -> Bool -> Bool -> Option ((List (S57)) × Int)
  | 0, _, _, _, _, _, _ => none
  | k + 1, x0, x1, x2, x4, x12, x49 => if x49 = true then (some (([] : List (S57)), 412)) else ((impl_Above.f x2).bind fun t979 => ((impl_IsColl.f k x0 t979).bind fun t982 => (if t982 = true then ((impl_without.f k x0 x2).bind fun t983 => ((impl_DeepOf.f k x0 x1).bind fun t986 => (impl_copied.l0 k x1 x2 x4 x12 t983 t986 (t986.length : Int) 0))) else (some (([] : List (S57)), 409)))))
def impl_copied.l0 : Nat -> List ByteArray -> List ByteArray -> Int -> Bool -> List (S57) -> List (S57) -> Int -> Int -> Option ((List (S57)) × Int)
  | 0, _, _, _, _, _, _, _, _ => none
  | k + 1, x1, x2, x4, x12, x13, x66, x67, x68 => if x68 < x67 then (if 0 <= x68 then (if x68 < (x66.length : Int) then ((impl_copyPath.f x2).bind fun t991 => (if 0 <= (x1.length : Int) then (if (x1.length : Int) <= (((rd_T57 x66 x68).f0).length : Int) then ((some (((rd_T57 x66 x68).f0).drop ((x1.length : Int) : Int).toNat : List ByteArray)).bind fun y994 => (if t991.length + y994.length < 8796093022208 then ((some (t991 ++ y994 : List ByteArray)).bind fun y999 => ((impl_PathOk.f k y999).bind fun t1002 => (if t1002 = true then ((impl_withRes.f k x13 y999 ((rd_T57 x66 x68).f1) ((rd_T57 x66 x68).f2) x4 ((rd_T57 x66 x68).f4)).bind fun t1003 => (impl_copied.l0 k x1 x2 x4 x12 t1003 x66 x67 (wrap64 (x68 + 1)))) else (some (([] : List (S57)), 409))))) else (none))) else (none)) else (none))) else (none)) else (none)) else (if x12 = true then (some (x13, 204)) else (some (x13, 201)))
end
def impl_copied.f (k : Nat) (l0 : List (S57)) (l1 : List ByteArray) (l2 : List ByteArray) (a3 : Bool) (a4 : Int) : Option ((List (S57)) × Int) := (impl_FindRes.f k l0 l2).bind fun t975 => (if (l1.length : Int) > 0 then ((impl_FindRes.f k l0 l1).bind fun t976 => (impl_copied.j0 k l0 l1 l2 a3 a4 (decide (t975 >= 0)) (decide (t976 < 0)))) else (impl_copied.j0 k l0 l1 l2 a3 a4 (decide (t975 >= 0)) false))
def impl_copied.T14 : Bool × List (List Nat × List Nat) := (true, [([], []), ([0], [0]), ([], []), ([2], [2]), ([], []), ([4], [4]), ([3, 5], [3, 5]), ([1, 6, 1], [1, 6]), ([0, 1, 2, 3, 4, 5, 6, 7], []), ([8, 7, 7, 0, 1, 2, 3, 4, 5, 6, 7], [7, 8])])
def impl_copied.B14 : List Nat := [0, 1, 0, 4, 0, 16, 60, 127, 255, 511]
theorem impl_copied.tab14 : rtab .any (opsOf Try.f83 14) = impl_copied.T14 := by kernel_rfl
theorem impl_copied.bits14 : waitsOk impl_copied.T14.2 impl_copied.B14 = true := by kernel_rfl
end Go.Proofs.Ytbgggcgjijljkaa.Q

/- Rows whose elements' rows lie apart (S): their tags told anew; one appended to the other, or a part of one. No condition. -/
set_option linter.unusedSimpArgs false
set_option linter.unusedVariables false
namespace Go.Proofs.Ytbgggcgjijljkaa.Q
open Go.RowKit Go.Proofs.YtbgggcgjijljkaaW.PrintWords Go.Proofs.YtbgggcgjijljkaaW.PrintLast
namespace SR
section
variable {α : Type} {d : Kd α} {e n c base : Nat} {ok okp : Nat -> Prop} {w W : World} {v : Value} {A : Option Addr} {f : Nat -> Nat}
open Classical in
theorem S_of_tags {zs : List (α × Nat)} (h : (Kd.tag f d).R e w base ok v zs) (hn : ∀ (i j : Nat) (x y : α × Nat), zs[i]? = some x -> zs[j]? = some y -> x.2 = y.2 -> i = j) : Kd.S d e w base ok v (zs.map Prod.fst) := by
  obtain ⟨h0, inner, ho, hr⟩ := h
  refine ⟨fun k => if h : ∃ (j : Nat) (x : α × Nat), zs[j]? = some x /\ x.2 = f k then h.choose else 0, h0, inner, by rw [List.length_zipIdx, List.length_map]; exact ho, by rw [List.length_zipIdx, List.length_map]; exact hr.1, fun j p hj => ?_⟩
  rw [List.getElem?_zipIdx, Nat.zero_add, List.getElem?_map] at hj
  obtain ⟨x, hx, rfl⟩ := Option.map_eq_some_iff.1 hj
  obtain ⟨z, hz, rfl⟩ := Option.map_eq_some_iff.1 hx
  refine d.M_mono (fun k hk => ⟨hk.1, ?_⟩) (hr.2 j z hz)
  have h : ∃ (j : Nat) (x : α × Nat), zs[j]? = some x /\ x.2 = f k := ⟨j, z, hz, hk.2.symm⟩
  obtain ⟨x, h1, h2⟩ := h.choose_spec
  exact (dif_pos h).trans (hn _ _ x z h1 hz (h2.trans hk.2))
end
section
variable {P : Program} {ops : Array Oper} {rest : List Oper} {o : Oper} {a : Act} {Q : Exit -> Act -> World -> Prop} {Kc : Act -> World -> Prop} {α : Type}
end
def fixT {α : Type} (f : Nat -> Nat) (w : World) (base : Nat) (okM : Nat -> Prop) (d : Kd α) : Kd (α × Nat) where
  sz := d.sz
  E := []
  K := fun W x cs => d.K W x.1 cs /\ (Kd.tag f d).M w base okM x cs
  M := fun _ _ _ _ _ => False
  K_len := fun h => d.K_len h.1
  K_one := fun h => d.K_one h.1
  K_below := fun hb h => ⟨d.K_below hb h.1, h.2⟩
  K_of_M := fun h => h.elim
  M_mono := fun _ h => h
  M_bound := fun h => h
  M_move := fun _ h => h
  M_lower := fun _ h => h
section
variable {α : Type} {d : Kd α} {e n c base base' : Nat} {ok okM : Nat -> Prop} {w W : World} {v : Value} {A : Option Addr} {f : Nat -> Nat}
theorem F_fix {zs : List (α × Nat)} (h : (Kd.tag f d).R e w base ok (.slice A n c) zs) (hM : ∀ k, ok k -> some k ≠ (Value.slice A n c).ownBlock -> okM k) (hlt : ∀ k, ok k -> k < w.heap.size) : Kd.F (fixT f w base okM d) w ok A n zs := by
  intro W' hW
  obtain ⟨h0, inner, ho, hr⟩ := h
  have hm : ∀ k, ok k -> W'.heap[k]? = w.heap[k]? := fun k hk => hW k hk (hlt k hk)
  have h2 : OwnRow (fun x cs => d.K W' x.1 cs /\ (Kd.tag f d).M w base okM x cs) e d.sz W' base (.slice A n c) zs :=
    ⟨inner, own_move ho (fun k hk => hm k (h0 k hk)), hr.1, fun j p hj => ⟨d.K_of_M (d.M_move (fun k hk => hm k hk.1.1) (hr.2 j p hj)), d.M_mono (fun k hk => ⟨hM k hk.1.1 hk.1.2, hk.2⟩) (hr.2 j p hj)⟩⟩
  obtain ⟨A', c', he, hl, hr2⟩ := OwnRow.reads h2
  injection he with h1 h2 h3
  subst h1 h2 h3
  exact hr2
theorem S_of_fix {zs : List (α × Nat)} (h : Kd.N (fixT f w base okM d) e W base' ok v zs) (hb : Below w.heap.size w W) (h1 : base <= base') (h2 : w.heap.size <= base') (hlt : ∀ k, okM k -> k < w.heap.size) (hn : ∀ (i j : Nat) (x y : α × Nat), zs[i]? = some x -> zs[j]? = some y -> x.2 = y.2 -> i = j) :
    Kd.S d e W base (fun k => okM k \/ w.heap.size <= k) v (zs.map Prod.fst) := by
  obtain ⟨_, rows, hl, ⟨h0, inner, ho, hr⟩, hf⟩ := h
  have hbase : ∀ k, v.ownBlock = some k -> base' <= k := fun k hk => own_base ho k hk
  refine S_of_tags (f := f) (zs := zs) ⟨fun k hk => .inr (Nat.le_trans h2 (hbase k hk)), inner, by rw [← hl]; exact own_weaken ho h1, by rw [← hl]; exact hr.1, fun j z hj => ?_⟩ hn
  have hjl : j < rows.length := by have := (List.getElem?_eq_some_iff.1 hj).1; omega
  have hc := hr.2 j _ (List.getElem?_eq_getElem hjl)
  have hk := (Kd.FK_now (hf j z _ hj (List.getElem?_eq_getElem hjl))).2
  rw [← hc.1] at hk
  refine d.M_mono (fun k hk => ⟨⟨.inl hk.1, fun e_ => ?_⟩, hk.2⟩) (Kd.M_below (d := d) (d.M_mono (fun k hk => hk) hk) hb)
  have := hbase k e_.symm
  have := hlt k hk.1
  omega
theorem FK_fix {ok' : Nat -> Prop} {x : α} {m : Nat} {cs : List Value} (h : Kd.FK d W ok' x cs) (hM : (Kd.tag f d).M w base okM (x, m) cs) : Kd.FK (fixT f w base okM d) W ok' (x, m) cs := fun W' hW => ⟨h W' hW, hM⟩
theorem put_tags {α : Type} (l : List α) (x : α) (n : Nat) : ∀ (i j : Nat) (a b : α × Nat), (([] ++ l.zipIdx.take n) ++ [(x, l.length)] ++ l.zipIdx.drop n)[i]? = some a -> (([] ++ l.zipIdx.take n) ++ [(x, l.length)] ++ l.zipIdx.drop n)[j]? = some b -> a.2 = b.2 -> i = j := by
  have hn : ((([] ++ l.zipIdx.take n) ++ [(x, l.length)] ++ l.zipIdx.drop n).map Prod.snd).Nodup := by
    have h0 : (l.zipIdx.map Prod.snd) = List.range l.length := by
      apply List.ext_getElem?
      intro i
      rw [List.getElem?_map, List.getElem?_zipIdx]
      by_cases h : i < l.length
      . rw [List.getElem?_eq_getElem h]; simp [h]
      . rw [List.getElem?_eq_none (by omega)]; simp [h]
    simp only [List.nil_append, List.map_append, List.map_take, List.map_drop, List.map_cons, List.map_nil, h0]
    rw [List.append_assoc, List.singleton_append]
    have hp : ((List.range l.length).take n ++ l.length :: (List.range l.length).drop n).Perm (l.length :: List.range l.length) := by
      refine List.perm_middle.trans ?_
      rw [List.take_append_drop]
    refine hp.nodup_iff.2 (List.nodup_cons.2 ⟨by simp, List.nodup_range⟩)
  intro i j a b ha hb hab
  have h1 : ((([] ++ l.zipIdx.take n) ++ [(x, l.length)] ++ l.zipIdx.drop n).map Prod.snd)[i]? = some a.2 := by rw [List.getElem?_map, ha]; rfl
  have h2 : ((([] ++ l.zipIdx.take n) ++ [(x, l.length)] ++ l.zipIdx.drop n).map Prod.snd)[j]? = some a.2 := by rw [List.getElem?_map, hb, hab]; rfl
  have hi : i < ((([] ++ l.zipIdx.take n) ++ [(x, l.length)] ++ l.zipIdx.drop n).map Prod.snd).length := (List.getElem?_eq_some_iff.1 h1).1
  exact (List.getElem?_inj hi hn).1 (h1.trans h2.symm)
theorem put_list {α : Type} (l : List α) (x : α) (n : Nat) : ((([] ++ l.zipIdx.take n) ++ [(x, l.length)] ++ l.zipIdx.drop n).map Prod.fst) = (([] ++ l.take n) ++ [x]) ++ l.drop n := by
  have h0 : l.zipIdx.map Prod.fst = l := by
    apply List.ext_getElem?
    intro i
    rw [List.getElem?_map, List.getElem?_zipIdx]
    cases l[i]? <;> rfl
  simp only [List.nil_append, List.map_append, List.map_take, List.map_drop, h0, List.map_cons, List.map_nil]
end
end SR
end Go.Proofs.Ytbgggcgjijljkaa.Q
