/- A printed walk's contract told more sharply: the result's elements' rows lie apart. No condition. -/
import Derived.Test.YtiddgglidkbipaaVAddLockG22
import Derived.Test.YtiddgglidkbipaaVAddLockG28
import Derived.Test.YtiddgglidkbipaaVAddLockWFoot
import Derived.Test.YtiddgglidkbipaaVAddLockWShare
import Derived.Test.YtiddgglidkbipaaVAddLockG31
namespace Go.Proofs.Ytiddgglidkbipaa.Q
open Go.RowKit Go.Proofs.YtiddgglidkbipaaW.PrintWords Go.Proofs.YtiddgglidkbipaaW.PrintLast Go.Proofs.YtiddgglidkbipaaW.PrintMore
attribute [local go_sem] max2_int min2_int max_two min_two max_three min_three max_four min_four
set_option linter.unusedVariables false
set_option linter.unusedSimpArgs false
abbrev spec_AddLockX.f (k : Nat) (l0 : List (S28)) (a1_0 : Int) (l1_1 : List ByteArray) (a1_2 : Bool) (a1_3 : Bool) (a1_4 : Int) : Option ((List (S28)) × Bool) := spec_AddLock.f k l0 a1_0 l1_1 a1_2 a1_3 a1_4
theorem heap_spec_AddLock0 : Kd.Heap (k28) := by (try unfold k28); repeat (first | apply Kd.heap_iso | apply Kd.heap_pair | apply Kd.heap_slice | exact Kd.heap_int _ | exact Kd.heap_string | exact Kd.heap_bool | exact Kd.heap_scalar)
theorem heap_spec_AddLock1_1 : Kd.Heap (Kd.string) := by (try unfold Kd.slice); repeat (first | apply Kd.heap_iso | apply Kd.heap_pair | apply Kd.heap_slice | exact Kd.heap_int _ | exact Kd.heap_string | exact Kd.heap_bool | exact Kd.heap_scalar)
theorem spec_AddLockX.calls (k : Nat) (A0 : Option Addr) (c0 : Nat) (l0 : List (S28)) (a1_0 : Int) (A1_1 : Option Addr) (c1_1 : Nat) (l1_1 : List ByteArray) (a1_2 : Bool) (a1_3 : Bool) (a1_4 : Int) (r1 : List (S28)) (r2 : Bool) (w : World) (hr0 : Kd.C k28 w A0 l0.length l0) (hc0 : l0.length ≤ c0) (hr1_1 : Kd.C Kd.string w A1_1 l1_1.length l1_1) (hc1_1 : l1_1.length ≤ c1_1) (h : spec_AddLockX.f k l0 a1_0 l1_1 a1_2 a1_3 a1_4 = some (r1, r2)) :
    Calls Try.prog 47 #[.slice A0 l0.length c0, .agg #[.int .i64 a1_0, .slice A1_1 l1_1.length c1_1, .bool a1_2, .bool a1_3, .int .i64 a1_4]] w fun e w' => ∃ v0_ : Value, e = .returned (.tuple #[v0_, .bool r2]) ∧ Kd.S k28 28 w' w.heap.size (fun k_ => (w.heap.size ≤ k_)) v0_ r1 ∧ Below w.heap.size w w' := by
  exact spec_AddLock.calls k (fun k_ => k_ < w.heap.size) A0 c0 l0 a1_0 (fun k_ => k_ < w.heap.size) A1_1 c1_1 l1_1 a1_2 a1_3 a1_4 r1 r2 w (Kd.V_mk hc0 (Kd.C_F heap_spec_AddLock0 hr0)) (Kd.V_mk hc1_1 (Kd.C_F heap_spec_AddLock1_1 hr1_1)) h
end Go.Proofs.Ytiddgglidkbipaa.Q

/- The contract of laws.markLockS: what it writes of a row whose elements' rows lie apart. No condition. -/
set_option linter.unusedVariables false
set_option linter.unusedSimpArgs false
namespace Go.Proofs.Ytiddgglidkbipaa.Q
open Go.RowKit Go.Proofs.YtiddgglidkbipaaW.PrintWords Go.Proofs.YtiddgglidkbipaaW.PrintLast
def laws_markLockS.l0 : Nat → List (S28) → Int → Int → Option (Int × List (S28))
  | 0, _, _, _ => none
  | k + 1, x0, x1, x5 => if x5 < (x0.length : Int) then (if 0 ≤ x5 then ((laws_markStringS.f k ((rd_T28 x0 x5).f1) (wrap64 (x1 + 1))).bind fun bt1a => (laws_markLockS.l0 k (x0.set (x5 : Int).toNat (⟨x1, bt1a.2, (bt1a.1.tmod 3 == 0), ((wrap64 (bt1a.1 + 1)).tmod 3 == 0), (wrap64 ((wrap64 (bt1a.1 + 1)) + 1))⟩ : S28)) (wrap64 ((wrap64 ((wrap64 (bt1a.1 + 1)) + 1)) + 1)) (wrap64 (x5 + 1)))) else none) else (some (x1, x0))
def laws_markLockS.f (k : Nat) (l0 : List (S28)) (a1 : Int) : Option (Int × List (S28)) := laws_markLockS.l0 k l0 a1 0
theorem markLockS_cells {α : Type} {d : Kd α} {e g n cap : Nat} {w : World} {base : Nat} {ok oki : Nat → Prop} {xs : List α} {i : Int} {c : List Value} (h : Kd.H d e w base ok (.slice (some ⟨g, 0, none⟩) n cap) xs i oki c) (h0 : 0 ≤ i) (h1 : i < n) : (∀ j u, c[j]? = some u → w.cell? ⟨g, i.toNat * d.sz + j, none⟩ = some u) ∧ (∀ j, w.frozen? ⟨g, i.toNat * d.sz + j, none⟩ = false) := by
  obtain ⟨rows, _, hraw, _, _, hcc, _⟩ := Kd.H_raw h h0 h1
  obtain ⟨_, _, _, _, hfr⟩ := Kd.R_elem hraw [] i h0 h1
  exact ⟨hcc, hfr⟩
set_option maxHeartbeats 16000000 in
set_option maxRecDepth 100000 in
theorem laws_markLockS.calls (k : Nat) (P0_ : Nat → Prop) (u9000_ : Value) (l0 : List (S28)) (a1 : Int) (r1 : Int) (r2 : List (S28)) (w0 w : World) (hB : Below w0.heap.size w0 w) (ho0 : Kd.S k28 28 w w0.heap.size P0_ u9000_ l0) (h : laws_markLockS.f k l0 a1 = some (r1, r2)) :
    Calls Try.prog 34 #[u9000_, .int .i64 a1] w fun e w' => e = .returned (.int .i64 r1) ∧ Kd.S k28 28 w' w0.heap.size P0_ u9000_ r2 ∧ Below w0.heap.size w0 w' ∧ Kept w w' P0_ := by
  obtain ⟨A0, c0, rfl⟩ := Kd.S_slice ho0
  have HO := Aside0.mk ho0
  have HB := Aside0.mk hB
  have HK := Aside0.mk (Kept.refl w P0_)
  clear hB ho0
  have H' : Aside0 (laws_markLockS.l0 k l0 a1 0 = some (r1, r2)) := ⟨h⟩
  clear h
  go_enter Try.func34, Try.ntmps34
  go_wp2
  go_loopg [1, 5] k (fun kq v1 v5 w' => ∃ (x0_1 : List (S28)) (x1_1 : Int) (x5_1 : Int), v1 = .int .i64 x1_1 ∧ v5 = .int .i64 x5_1 ∧ Aside0 (laws_markLockS.l0 kq x0_1 x1_1 x5_1 = some (r1, r2)) ∧ Aside0 (kq ≤ k) ∧ Aside0 (Kd.S k28 28 w' w0.heap.size P0_ (.slice A0 l0.length c0) x0_1) ∧ Aside0 (x0_1.length = l0.length) ∧ Aside0 (Below w0.heap.size w0 w') ∧ Aside0 (Kept w w' P0_))
  case atStart => exact ⟨l0, a1, 0, rfl, rfl, H', ⟨Nat.le_refl _⟩, HO, ⟨rfl⟩, HB, HK⟩
  case round =>
    clear H' HO HB HK
    obtain ⟨x0, x1, x5, rfl, rfl, HA, HK1, HO, HL, HB, HK⟩ := hrel
    cases gk with
    | zero => exact absurd HA.out (by simp [laws_markLockS.l0])
    | succ k1 =>
      have H := HA.out
      clear HA
      simp only [laws_markLockS.l0] at H
      by_cases c3 : x5 < (x0.length : Int)
      rotate_left
      · rw [if_neg c3] at H
        have c3b0 : decide (x5 < (l0.length : Int)) = false := decide_eq_false (by rw [← HL.out]; exact c3)
        obtain ⟨rfl, rfl⟩ := Prod.mk.inj (Option.some.inj H)
        go_wp2
        go_ret
        exact ⟨rfl, HO.out, HB.out, HK.out⟩
      rw [if_pos c3] at H
      have c3' : x5 < (l0.length : Int) := by rw [← HL.out]; exact c3
      have c3b0 : decide (x5 < (l0.length : Int)) = true := decide_eq_true c3'
      by_cases c4 : 0 ≤ x5
      rotate_left
      · rw [if_neg c4] at H
        exact absurd H (by simp)
      rw [if_pos c4] at H
      have c4b0 : decide (0 ≤ x5) = true := decide_eq_true c4
      replace H := Option.bind_eq_some_iff.mp H
      obtain ⟨⟨t1a, t1b⟩, A0_, H⟩ := H
      dsimp only at H
      have At1a := Aside0.mk A0_
      clear A0_
      have H' : Aside0 ((laws_markLockS.l0 k1 (x0.set (x5 : Int).toNat (⟨x1, t1b, (t1a.tmod 3 == 0), ((wrap64 (t1a + 1)).tmod 3 == 0), (wrap64 ((wrap64 (t1a + 1)) + 1))⟩ : S28)) (wrap64 ((wrap64 ((wrap64 (t1a + 1)) + 1)) + 1)) (wrap64 (x5 + 1))) = some (r1, r2)) := ⟨H⟩
      clear H
      obtain ⟨g, cap, ev, hgb, hgl, _⟩ := Kd.S_form HO.out (by omega)
      injection ev with eA en ec
      subst eA
      subst ec
      clear en
      obtain ⟨oki, c, hcl, hM, hcc, hfr, hoki, hH⟩ := Kd.S_elem HO.out z28 x5 c4 c3'
      obtain ⟨v1, rfl, g1⟩ := k28_openM hM
      obtain ⟨Av1, cv1, rfl⟩ := Kd.R_slice g1
      have HI1 : Aside0 (∀ k_, some k_ = (.slice Av1 (rd_T28 x0 x5).f1.length cv1 : Value).ownBlock → oki k_) := ⟨fun k_ h_ => g1.1 k_ h_.symm⟩
      have HP1 : Aside0 (Kd.string.R 9 wr w0.heap.size (fun k_ => some k_ = (.slice Av1 (rd_T28 x0 x5).f1.length cv1 : Value).ownBlock) (.slice Av1 (rd_T28 x0 x5).f1.length cv1 : Value) ((rd_T28 x0 x5).f1)) := ⟨Kd.R_tight rfl g1⟩
      have HH : Aside0 (Kd.H k28 28 wr w0.heap.size P0_ (.slice (some ⟨g, 0, none⟩) l0.length c0) x0 x5 oki [.int .i64 (rd_T28 x0 x5).f0, (.slice Av1 (rd_T28 x0 x5).f1.length cv1 : Value), .bool (rd_T28 x0 x5).f2, .bool (rd_T28 x0 x5).f3, .int .i64 (rd_T28 x0 x5).f4]) := ⟨hH⟩
      have HN := Aside0.mk (fun k_ (h_ : oki k_) => (hoki k_ h_).2)
      have HQ := Aside0.mk (fun k_ (h_ : oki k_) => (hoki k_ h_).1)
      have HG : Aside0 (P0_ g) := ⟨(Kd.S_R HO.out).1 g rfl⟩
      have GB := Aside0.mk hgb
      clear hcl hM hcc hfr hoki hH hgb hgl HO g1
      have hc_ := markLockS_cells HH.out c4 c3'
      have hx0 : wr.cell? ⟨g, (x5 : Int).toNat * 5, none⟩ = some (.int .i64 (rd_T28 x0 x5).f0) := hc_.1 0 _ rfl
      have hx1 : wr.cell? ⟨g, (x5 : Int).toNat * 5 + 1, none⟩ = some ((.slice Av1 (rd_T28 x0 x5).f1.length cv1 : Value)) := hc_.1 1 _ rfl
      have hx2 : wr.cell? ⟨g, (x5 : Int).toNat * 5 + 2, none⟩ = some (.bool (rd_T28 x0 x5).f2) := hc_.1 2 _ rfl
      have hx3 : wr.cell? ⟨g, (x5 : Int).toNat * 5 + 3, none⟩ = some (.bool (rd_T28 x0 x5).f3) := hc_.1 3 _ rfl
      have hx4 : wr.cell? ⟨g, (x5 : Int).toNat * 5 + 4, none⟩ = some (.int .i64 (rd_T28 x0 x5).f4) := hc_.1 4 _ rfl
      have hf0 : wr.frozen? ⟨g, (x5 : Int).toNat * 5, none⟩ = false := hc_.2 0
      have hf1 : wr.frozen? ⟨g, (x5 : Int).toNat * 5 + 1, none⟩ = false := hc_.2 1
      have hf2 : wr.frozen? ⟨g, (x5 : Int).toNat * 5 + 2, none⟩ = false := hc_.2 2
      have hf3 : wr.frozen? ⟨g, (x5 : Int).toNat * 5 + 3, none⟩ = false := hc_.2 3
      have hf4 : wr.frozen? ⟨g, (x5 : Int).toNat * 5 + 4, none⟩ = false := hc_.2 4
      clear hc_
      have c3k := Aside0.mk c3'
      have c4k := Aside0.mk c4
      replace c3 := eq_true c3'
      replace c4 := eq_true c4
      clear c3'
      go_wp2_with (first | ((with_reducible refine gate_store (t := 3) (p := 16) rfl ?_); refine store_event (t := 3) (p := 16) (v := ?vo_0) (w1 := (wr.setCell ⟨g, (x5 : Int).toNat * 5, none⟩ (.int .i64 x1))) ?hg ?ho ?hn ?hr ?_; (case ho => rfl); (case hg => rfl); (case hn => rfl); (case hr => first | (go_simp; done) | (go_simp; rfl)); intro w_1 hw_; have hs_ := Kd.H_seg HH.out c4k.out c3k.out (seg := [.int .i64 x1]) (j := 0) (show 1 ≤ 5 by decide) (by intro q_ hq_; rcases List.mem_singleton.1 hq_ with rfl; rfl); have hg_ : wr.grownBy w_1 (some g) := (by rw [hw_]; exact hs_.2); have m0_ : Aside0 (Kd.H k28 28 w_1 w0.heap.size P0_ (.slice (some ⟨g, 0, none⟩) l0.length c0) x0 x5 oki [.int .i64 x1, (.slice Av1 (rd_T28 x0 x5).f1.length cv1 : Value), .bool (rd_T28 x0 x5).f2, .bool (rd_T28 x0 x5).f3, .int .i64 (rd_T28 x0 x5).f4]) := ⟨(by rw [hw_]; exact hs_.1)⟩; have m1_ : Aside0 (Kd.string.R 9 w_1 w0.heap.size (fun k_ => some k_ = (.slice Av1 (rd_T28 x0 x5).f1.length cv1 : Value).ownBlock) (.slice Av1 (rd_T28 x0 x5).f1.length cv1 : Value) ((rd_T28 x0 x5).f1)) := ⟨Kd.R_grown HP1.out hg_ (fun k_ h_ e_ => HN.out k_ (HI1.out k_ h_) (by injection e_))⟩; have m2_ : Aside0 (Below w0.heap.size w0 w_1) := ⟨(by rw [hw_]; exact below_set HB.out GB.out)⟩; have m3_ : Aside0 (Kept w w_1 P0_) := ⟨Kept.of_grown hg_ HK.out (fun k_ e_ => .inl (by injection e_ with e_; rw [← e_]; exact HG.out))⟩; clear HH HP1 HB HK; clear hx0 hf0 hx1 hf1 hx2 hf2 hx3 hf3 hx4 hf4; have HH := m0_; have HP1 := m1_; have HB := m2_; have HK := m3_; clear m0_ m1_ m2_ m3_; have hc_ := markLockS_cells HH.out c4k.out c3k.out; have hx0 : w_1.cell? ⟨g, (x5 : Int).toNat * 5, none⟩ = some (.int .i64 x1) := hc_.1 0 _ rfl; have hx1 : w_1.cell? ⟨g, (x5 : Int).toNat * 5 + 1, none⟩ = some ((.slice Av1 (rd_T28 x0 x5).f1.length cv1 : Value)) := hc_.1 1 _ rfl; have hx2 : w_1.cell? ⟨g, (x5 : Int).toNat * 5 + 2, none⟩ = some (.bool (rd_T28 x0 x5).f2) := hc_.1 2 _ rfl; have hx3 : w_1.cell? ⟨g, (x5 : Int).toNat * 5 + 3, none⟩ = some (.bool (rd_T28 x0 x5).f3) := hc_.1 3 _ rfl; have hx4 : w_1.cell? ⟨g, (x5 : Int).toNat * 5 + 4, none⟩ = some (.int .i64 (rd_T28 x0 x5).f4) := hc_.1 4 _ rfl; have hf0 : w_1.frozen? ⟨g, (x5 : Int).toNat * 5, none⟩ = false := hc_.2 0; have hf1 : w_1.frozen? ⟨g, (x5 : Int).toNat * 5 + 1, none⟩ = false := hc_.2 1; have hf2 : w_1.frozen? ⟨g, (x5 : Int).toNat * 5 + 2, none⟩ = false := hc_.2 2; have hf3 : w_1.frozen? ⟨g, (x5 : Int).toNat * 5 + 3, none⟩ = false := hc_.2 3; have hf4 : w_1.frozen? ⟨g, (x5 : Int).toNat * 5 + 4, none⟩ = false := hc_.2 4; clear hc_; clear hw_ hs_ hg_) | ((with_reducible refine gate_callee (f := 40) rfl ?_); refine goesL_ (some 25) rfl rfl Try.func40 (by kernel_rfl) rfl #[(.slice Av1 (rd_T28 x0 x5).f1.length cv1 : Value), .int .i64 (wrap64 (x1 + 1))] rfl (by (try simp only [List.map_toArray, List.map_cons, List.map_nil]); first | done | rfl) ?_; (with_reducible refine (laws_markStringS.calls k1 (fun k_ => some k_ = (.slice Av1 (rd_T28 x0 x5).f1.length cv1 : Value).ownBlock) (.slice Av1 (rd_T28 x0 x5).f1.length cv1 : Value) ((rd_T28 x0 x5).f1) (wrap64 (x1 + 1)) t1a t1b w0 _ HB.out HP1.out At1a.out).mono ?_); rintro e w_2 ⟨rfl, hr_, hb_, hk_⟩; refine ⟨_, rfl, ?_⟩; have m0_ : Aside0 (Kd.H k28 28 w_2 w0.heap.size P0_ (.slice (some ⟨g, 0, none⟩) l0.length c0) x0 x5 oki [.int .i64 x1, (.slice Av1 (rd_T28 x0 x5).f1.length cv1 : Value), .bool (rd_T28 x0 x5).f2, .bool (rd_T28 x0 x5).f3, .int .i64 (rd_T28 x0 x5).f4]) := ⟨Kd.H_step HH.out (fun k_ _ hn_ hl_ => hk_.2 k_ hl_ (fun h3_ => hn_ (HI1.out k_ h3_)))⟩; have m1_ : Aside0 (Kd.string.R 9 w_2 w0.heap.size (fun k_ => some k_ = (.slice Av1 (rd_T28 x0 x5).f1.length cv1 : Value).ownBlock) (.slice Av1 (rd_T28 x0 x5).f1.length cv1 : Value) t1b) := ⟨Kd.R_tight rfl hr_⟩; have m2_ : Aside0 (Below w0.heap.size w0 w_2) := ⟨hb_⟩; have m3_ : Aside0 (Kept w w_2 P0_) := ⟨Kept.then_ HK.out hk_ (fun k_ h_ => .inl (HQ.out k_ (HI1.out k_ h_)))⟩; clear HH HP1 HB HK; clear hx0 hf0 hx1 hf1 hx2 hf2 hx3 hf3 hx4 hf4; have HH := m0_; have HP1 := m1_; have HB := m2_; have HK := m3_; clear m0_ m1_ m2_ m3_; have hc_ := markLockS_cells HH.out c4k.out c3k.out; have hx0 : w_2.cell? ⟨g, (x5 : Int).toNat * 5, none⟩ = some (.int .i64 x1) := hc_.1 0 _ rfl; have hx1 : w_2.cell? ⟨g, (x5 : Int).toNat * 5 + 1, none⟩ = some ((.slice Av1 (rd_T28 x0 x5).f1.length cv1 : Value)) := hc_.1 1 _ rfl; have hx2 : w_2.cell? ⟨g, (x5 : Int).toNat * 5 + 2, none⟩ = some (.bool (rd_T28 x0 x5).f2) := hc_.1 2 _ rfl; have hx3 : w_2.cell? ⟨g, (x5 : Int).toNat * 5 + 3, none⟩ = some (.bool (rd_T28 x0 x5).f3) := hc_.1 3 _ rfl; have hx4 : w_2.cell? ⟨g, (x5 : Int).toNat * 5 + 4, none⟩ = some (.int .i64 (rd_T28 x0 x5).f4) := hc_.1 4 _ rfl; have hf0 : w_2.frozen? ⟨g, (x5 : Int).toNat * 5, none⟩ = false := hc_.2 0; have hf1 : w_2.frozen? ⟨g, (x5 : Int).toNat * 5 + 1, none⟩ = false := hc_.2 1; have hf2 : w_2.frozen? ⟨g, (x5 : Int).toNat * 5 + 2, none⟩ = false := hc_.2 2; have hf3 : w_2.frozen? ⟨g, (x5 : Int).toNat * 5 + 3, none⟩ = false := hc_.2 3; have hf4 : w_2.frozen? ⟨g, (x5 : Int).toNat * 5 + 4, none⟩ = false := hc_.2 4; clear hc_; clear hr_ hb_ hk_) | ((with_reducible refine gate_store (t := 4) (p := 32) rfl ?_); refine store_event (t := 4) (p := 32) (v := ?vo_2) (w1 := (w_2.setCell ⟨g, (x5 : Int).toNat * 5 + 2, none⟩ (.bool (t1a.tmod 3 == 0)))) ?hg ?ho ?hn ?hr ?_; (case ho => rfl); (case hg => rfl); (case hn => rfl); (case hr => first | (go_simp; done) | (go_simp; rfl)); intro w_3 hw_; have hs_ := Kd.H_seg HH.out c4k.out c3k.out (seg := [.bool (t1a.tmod 3 == 0)]) (j := 2) (show 3 ≤ 5 by decide) (by intro q_ hq_; rcases List.mem_singleton.1 hq_ with rfl; rfl); have hg_ : w_2.grownBy w_3 (some g) := (by rw [hw_]; exact hs_.2); have m0_ : Aside0 (Kd.H k28 28 w_3 w0.heap.size P0_ (.slice (some ⟨g, 0, none⟩) l0.length c0) x0 x5 oki [.int .i64 x1, (.slice Av1 (rd_T28 x0 x5).f1.length cv1 : Value), .bool (t1a.tmod 3 == 0), .bool (rd_T28 x0 x5).f3, .int .i64 (rd_T28 x0 x5).f4]) := ⟨(by rw [hw_]; exact hs_.1)⟩; have m1_ : Aside0 (Kd.string.R 9 w_3 w0.heap.size (fun k_ => some k_ = (.slice Av1 (rd_T28 x0 x5).f1.length cv1 : Value).ownBlock) (.slice Av1 (rd_T28 x0 x5).f1.length cv1 : Value) t1b) := ⟨Kd.R_grown HP1.out hg_ (fun k_ h_ e_ => HN.out k_ (HI1.out k_ h_) (by injection e_))⟩; have m2_ : Aside0 (Below w0.heap.size w0 w_3) := ⟨(by rw [hw_]; exact below_set HB.out GB.out)⟩; have m3_ : Aside0 (Kept w w_3 P0_) := ⟨Kept.of_grown hg_ HK.out (fun k_ e_ => .inl (by injection e_ with e_; rw [← e_]; exact HG.out))⟩; clear HH HP1 HB HK; clear hx0 hf0 hx1 hf1 hx2 hf2 hx3 hf3 hx4 hf4; have HH := m0_; have HP1 := m1_; have HB := m2_; have HK := m3_; clear m0_ m1_ m2_ m3_; have hc_ := markLockS_cells HH.out c4k.out c3k.out; have hx0 : w_3.cell? ⟨g, (x5 : Int).toNat * 5, none⟩ = some (.int .i64 x1) := hc_.1 0 _ rfl; have hx1 : w_3.cell? ⟨g, (x5 : Int).toNat * 5 + 1, none⟩ = some ((.slice Av1 (rd_T28 x0 x5).f1.length cv1 : Value)) := hc_.1 1 _ rfl; have hx2 : w_3.cell? ⟨g, (x5 : Int).toNat * 5 + 2, none⟩ = some (.bool (t1a.tmod 3 == 0)) := hc_.1 2 _ rfl; have hx3 : w_3.cell? ⟨g, (x5 : Int).toNat * 5 + 3, none⟩ = some (.bool (rd_T28 x0 x5).f3) := hc_.1 3 _ rfl; have hx4 : w_3.cell? ⟨g, (x5 : Int).toNat * 5 + 4, none⟩ = some (.int .i64 (rd_T28 x0 x5).f4) := hc_.1 4 _ rfl; have hf0 : w_3.frozen? ⟨g, (x5 : Int).toNat * 5, none⟩ = false := hc_.2 0; have hf1 : w_3.frozen? ⟨g, (x5 : Int).toNat * 5 + 1, none⟩ = false := hc_.2 1; have hf2 : w_3.frozen? ⟨g, (x5 : Int).toNat * 5 + 2, none⟩ = false := hc_.2 2; have hf3 : w_3.frozen? ⟨g, (x5 : Int).toNat * 5 + 3, none⟩ = false := hc_.2 3; have hf4 : w_3.frozen? ⟨g, (x5 : Int).toNat * 5 + 4, none⟩ = false := hc_.2 4; clear hc_; clear hw_ hs_ hg_) | ((with_reducible refine gate_store (t := 4) (p := 41) rfl ?_); refine store_event (t := 4) (p := 41) (v := ?vo_3) (w1 := (w_3.setCell ⟨g, (x5 : Int).toNat * 5 + 3, none⟩ (.bool ((wrap64 (t1a + 1)).tmod 3 == 0)))) ?hg ?ho ?hn ?hr ?_; (case ho => rfl); (case hg => rfl); (case hn => rfl); (case hr => first | (go_simp; done) | (go_simp; rfl)); intro w_4 hw_; have hs_ := Kd.H_seg HH.out c4k.out c3k.out (seg := [.bool ((wrap64 (t1a + 1)).tmod 3 == 0)]) (j := 3) (show 4 ≤ 5 by decide) (by intro q_ hq_; rcases List.mem_singleton.1 hq_ with rfl; rfl); have hg_ : w_3.grownBy w_4 (some g) := (by rw [hw_]; exact hs_.2); have m0_ : Aside0 (Kd.H k28 28 w_4 w0.heap.size P0_ (.slice (some ⟨g, 0, none⟩) l0.length c0) x0 x5 oki [.int .i64 x1, (.slice Av1 (rd_T28 x0 x5).f1.length cv1 : Value), .bool (t1a.tmod 3 == 0), .bool ((wrap64 (t1a + 1)).tmod 3 == 0), .int .i64 (rd_T28 x0 x5).f4]) := ⟨(by rw [hw_]; exact hs_.1)⟩; have m1_ : Aside0 (Kd.string.R 9 w_4 w0.heap.size (fun k_ => some k_ = (.slice Av1 (rd_T28 x0 x5).f1.length cv1 : Value).ownBlock) (.slice Av1 (rd_T28 x0 x5).f1.length cv1 : Value) t1b) := ⟨Kd.R_grown HP1.out hg_ (fun k_ h_ e_ => HN.out k_ (HI1.out k_ h_) (by injection e_))⟩; have m2_ : Aside0 (Below w0.heap.size w0 w_4) := ⟨(by rw [hw_]; exact below_set HB.out GB.out)⟩; have m3_ : Aside0 (Kept w w_4 P0_) := ⟨Kept.of_grown hg_ HK.out (fun k_ e_ => .inl (by injection e_ with e_; rw [← e_]; exact HG.out))⟩; clear HH HP1 HB HK; clear hx0 hf0 hx1 hf1 hx2 hf2 hx3 hf3 hx4 hf4; have HH := m0_; have HP1 := m1_; have HB := m2_; have HK := m3_; clear m0_ m1_ m2_ m3_; have hc_ := markLockS_cells HH.out c4k.out c3k.out; have hx0 : w_4.cell? ⟨g, (x5 : Int).toNat * 5, none⟩ = some (.int .i64 x1) := hc_.1 0 _ rfl; have hx1 : w_4.cell? ⟨g, (x5 : Int).toNat * 5 + 1, none⟩ = some ((.slice Av1 (rd_T28 x0 x5).f1.length cv1 : Value)) := hc_.1 1 _ rfl; have hx2 : w_4.cell? ⟨g, (x5 : Int).toNat * 5 + 2, none⟩ = some (.bool (t1a.tmod 3 == 0)) := hc_.1 2 _ rfl; have hx3 : w_4.cell? ⟨g, (x5 : Int).toNat * 5 + 3, none⟩ = some (.bool ((wrap64 (t1a + 1)).tmod 3 == 0)) := hc_.1 3 _ rfl; have hx4 : w_4.cell? ⟨g, (x5 : Int).toNat * 5 + 4, none⟩ = some (.int .i64 (rd_T28 x0 x5).f4) := hc_.1 4 _ rfl; have hf0 : w_4.frozen? ⟨g, (x5 : Int).toNat * 5, none⟩ = false := hc_.2 0; have hf1 : w_4.frozen? ⟨g, (x5 : Int).toNat * 5 + 1, none⟩ = false := hc_.2 1; have hf2 : w_4.frozen? ⟨g, (x5 : Int).toNat * 5 + 2, none⟩ = false := hc_.2 2; have hf3 : w_4.frozen? ⟨g, (x5 : Int).toNat * 5 + 3, none⟩ = false := hc_.2 3; have hf4 : w_4.frozen? ⟨g, (x5 : Int).toNat * 5 + 4, none⟩ = false := hc_.2 4; clear hc_; clear hw_ hs_ hg_) | ((with_reducible refine gate_store (t := 3) (p := 48) rfl ?_); refine store_event (t := 3) (p := 48) (v := ?vo_4) (w1 := (w_4.setCell ⟨g, (x5 : Int).toNat * 5 + 4, none⟩ (.int .i64 (wrap64 ((wrap64 (t1a + 1)) + 1))))) ?hg ?ho ?hn ?hr ?_; (case ho => rfl); (case hg => rfl); (case hn => rfl); (case hr => first | (go_simp; done) | (go_simp; rfl)); intro w_5 hw_; have hs_ := Kd.H_seg HH.out c4k.out c3k.out (seg := [.int .i64 (wrap64 ((wrap64 (t1a + 1)) + 1))]) (j := 4) (show 5 ≤ 5 by decide) (by intro q_ hq_; rcases List.mem_singleton.1 hq_ with rfl; rfl); have hg_ : w_4.grownBy w_5 (some g) := (by rw [hw_]; exact hs_.2); have m0_ : Aside0 (Kd.H k28 28 w_5 w0.heap.size P0_ (.slice (some ⟨g, 0, none⟩) l0.length c0) x0 x5 oki [.int .i64 x1, (.slice Av1 (rd_T28 x0 x5).f1.length cv1 : Value), .bool (t1a.tmod 3 == 0), .bool ((wrap64 (t1a + 1)).tmod 3 == 0), .int .i64 (wrap64 ((wrap64 (t1a + 1)) + 1))]) := ⟨(by rw [hw_]; exact hs_.1)⟩; have m1_ : Aside0 (Kd.string.R 9 w_5 w0.heap.size (fun k_ => some k_ = (.slice Av1 (rd_T28 x0 x5).f1.length cv1 : Value).ownBlock) (.slice Av1 (rd_T28 x0 x5).f1.length cv1 : Value) t1b) := ⟨Kd.R_grown HP1.out hg_ (fun k_ h_ e_ => HN.out k_ (HI1.out k_ h_) (by injection e_))⟩; have m2_ : Aside0 (Below w0.heap.size w0 w_5) := ⟨(by rw [hw_]; exact below_set HB.out GB.out)⟩; have m3_ : Aside0 (Kept w w_5 P0_) := ⟨Kept.of_grown hg_ HK.out (fun k_ e_ => .inl (by injection e_ with e_; rw [← e_]; exact HG.out))⟩; clear HH HP1 HB HK; clear hx0 hf0 hx1 hf1 hx2 hf2 hx3 hf3 hx4 hf4; have HH := m0_; have HP1 := m1_; have HB := m2_; have HK := m3_; clear m0_ m1_ m2_ m3_; have hc_ := markLockS_cells HH.out c4k.out c3k.out; have hx0 : w_5.cell? ⟨g, (x5 : Int).toNat * 5, none⟩ = some (.int .i64 x1) := hc_.1 0 _ rfl; have hx1 : w_5.cell? ⟨g, (x5 : Int).toNat * 5 + 1, none⟩ = some ((.slice Av1 (rd_T28 x0 x5).f1.length cv1 : Value)) := hc_.1 1 _ rfl; have hx2 : w_5.cell? ⟨g, (x5 : Int).toNat * 5 + 2, none⟩ = some (.bool (t1a.tmod 3 == 0)) := hc_.1 2 _ rfl; have hx3 : w_5.cell? ⟨g, (x5 : Int).toNat * 5 + 3, none⟩ = some (.bool ((wrap64 (t1a + 1)).tmod 3 == 0)) := hc_.1 3 _ rfl; have hx4 : w_5.cell? ⟨g, (x5 : Int).toNat * 5 + 4, none⟩ = some (.int .i64 (wrap64 ((wrap64 (t1a + 1)) + 1))) := hc_.1 4 _ rfl; have hf0 : w_5.frozen? ⟨g, (x5 : Int).toNat * 5, none⟩ = false := hc_.2 0; have hf1 : w_5.frozen? ⟨g, (x5 : Int).toNat * 5 + 1, none⟩ = false := hc_.2 1; have hf2 : w_5.frozen? ⟨g, (x5 : Int).toNat * 5 + 2, none⟩ = false := hc_.2 2; have hf3 : w_5.frozen? ⟨g, (x5 : Int).toNat * 5 + 3, none⟩ = false := hc_.2 3; have hf4 : w_5.frozen? ⟨g, (x5 : Int).toNat * 5 + 4, none⟩ = false := hc_.2 4; clear hc_; clear hw_ hs_ hg_))
      go_roundg k1
      case measure => have := HK1.out; omega
      case rel => exact ⟨_, (wrap64 ((wrap64 ((wrap64 (t1a + 1)) + 1)) + 1)), wrap64 (x5 + 1), rfl, rfl, H', ⟨by have := HK1.out; omega⟩, ⟨Kd.H_back HH.out (k28_mkM _ _ _ (⟨x1, t1b, (t1a.tmod 3 == 0), ((wrap64 (t1a + 1)).tmod 3 == 0), (wrap64 ((wrap64 (t1a + 1)) + 1))⟩ : S28) (Kd.R_mono HP1.out HI1.out)) (fun _ h_ => h_)⟩, ⟨by rw [List.length_set]; exact HL.out⟩, HB, HK⟩
end Go.Proofs.Ytiddgglidkbipaa.Q

namespace Go.Proofs.Ytiddgglidkbipaa.Q
open Go.RowKit Go.Proofs.YtiddgglidkbipaaW.PrintWords Go.Proofs.YtiddgglidkbipaaW.PrintLast Go.Proofs.YtiddgglidkbipaaW.PrintMore
attribute [local go_sem] max2_int min2_int max_two min_two max_three min_three max_four min_four   -- for this text's walks alone
set_option linter.unusedVariables false
set_option linter.unusedSimpArgs false
def laws_heldStringS.l0 : Nat → List ByteArray → Int → Int → Option (Int)
  | 0, _, _, _ => none
  | k + 1, x0, x1, x5 => if x5 < (x0.length : Int) then (if 0 ≤ x5 then ((laws_markText.f k x1).bind fun t383 => (if (rdOf ByteArray.empty x0 x5).toList = t383.toList then (laws_heldStringS.l0 k x0 (wrap64 (x1 + 1)) (wrap64 (x5 + 1))) else (some (-1)))) else (none)) else (some x1)
def laws_heldStringS.f (k : Nat) (l0 : List ByteArray) (a1 : Int) : Option (Int) := laws_heldStringS.l0 k l0 a1 0
set_option maxHeartbeats 8000000 in
set_option maxRecDepth 100000 in
theorem laws_heldStringS.calls (k : Nat) (A0 : Option Addr) (c0 : Nat) (l0 : List ByteArray) (a1 : Int) (r : Int) (w : World) (hr0 : Kd.C Kd.string w A0 l0.length l0) (hc0 : l0.length ≤ c0) (h : laws_heldStringS.f k l0 a1 = some r) :
    Calls Try.prog 70 #[.slice A0 l0.length c0, .int .i64 a1] w fun e w' => e = .returned (.int .i64 r) ∧ Below w.heap.size w w' := by
  have HR0 := Aside0.mk hr0
  have HC0 := Aside0.mk hc0
  clear hr0 hc0
  have HB := Aside0.mk (Below.refl w.heap.size w)
  have H : (laws_heldStringS.l0 k l0 a1 0) = some r := h
  clear h
  have H' := Aside0.mk H
  clear H
  go_enter Try.func70, Try.ntmps70
  go_wp2
  go_loopg [1, 5] k (fun kq v1 v5 w' => ∃ (x1_1 : Int) (x5_1 : Int), v1 = .int .i64 x1_1 ∧ v5 = .int .i64 x5_1 ∧ Aside0 (laws_heldStringS.l0 kq l0 x1_1 x5_1 = some r) ∧ Aside0 (kq ≤ k) ∧ Aside0 (Below w.heap.size w w'))
  case atStart => exact ⟨(a1), (0), (by first | rfl | (simp; done) | (simp [*]; done)), (by first | rfl | (simp; done) | (simp [*]; done)), H', ⟨Nat.le_refl _⟩, ⟨by repeat (first | (with_reducible first | exact HB.out | apply below_alloc | apply pw_below_drewN | apply below_drew1) | exact HB.out)⟩⟩
  case round =>
    clear H'
    try clear p2
    obtain ⟨x1_1, x5_1, rfl, rfl, HA, HK1, HB⟩ := hrel
    cases gk with
    | zero => exact absurd HA.out (by simp [laws_heldStringS.l0])
    | succ k1 =>
      have H := HA.out
      clear HA
      simp only [laws_heldStringS.l0] at H
      by_cases c3 : x5_1 < (l0.length : Int)
      · rw [if_pos c3] at H
        have c3b0 : decide (x5_1 < (l0.length : Int)) = true := decide_eq_true c3
        clear c3
        by_cases c4 : 0 ≤ x5_1
        · rw [if_pos c4] at H
          have c4b0 : decide (0 ≤ x5_1) = true := decide_eq_true c4
          clear c4
          replace H := Option.bind_eq_some_iff.mp H
          obtain ⟨t383, A50, H⟩ := H
          replace H : (if (rdOf ByteArray.empty l0 x5_1).toList = t383.toList then (laws_heldStringS.l0 k1 l0 (wrap64 (x1_1 + 1)) (wrap64 (x5_1 + 1))) else (some (-1))) = some r := H
          have A5 := Aside0.mk A50
          clear A50
          by_cases c6 : (rdOf ByteArray.empty l0 x5_1).toList = t383.toList
          · rw [if_pos c6] at H
            have c6b0 : ((rdOf ByteArray.empty l0 x5_1).toList == t383.toList) = true := beq_iff_eq.mpr c6
            have c6b1 : ((rdOf ByteArray.empty l0 x5_1).toList != t383.toList) = false := bne_eq_false_iff_eq.mpr c6
            clear c6
            have H' := Aside0.mk H
            clear H
            try go_wp2
            have n0_ := Aside0.mk (below_drew1 HB.out)
            clear HB
            have HB := n0_
            clear n0_
            have p382 : 0 ≤ (x5_1 : Int) := of_decide_eq_true (by first | (with_reducible assumption) | assumption)
            have q382 : x5_1 < (l0.length : Int) := of_decide_eq_true (by first | (with_reducible assumption) | assumption)
            obtain ⟨ad382, e382, hx382_0⟩ := Kd.at_string HR0.out x5_1 p382 q382
            have hw382_0 := hx382_0
            cases e382
            replace hx382_0 := (HB.out.cell (World.block_lt_of_cell? w _ hx382_0)).trans hx382_0
            replace p382 := eq_true p382
            replace q382 := eq_true q382
            refine start_ (n := 7) (S := fun w' => w'.cell? (ad382.add (x5_1).toNat) = some (.string (rdOf ByteArray.empty l0 x5_1))) (ds := []) #[false, false, false, false, false, false, false] (by kernel_rfl) rfl rfl (((HB.out.cell (World.block_lt_of_cell? w _ hw382_0)).trans hw382_0)) (fun hHeld => ?_)
            generalize wr.drew = w7 at HB hx382_0 hHeld ⊢
            refine pure_ (i := 0) (N := some 12) (v := ?_) (a' := ?_) #[true, false, false, false, false, false, false] rfl rfl (by kernel_rfl) (fun _ _ _ h => h) (Or.inl ⟨by rfl, ?_⟩) ?_ ?_
            rotate_left
            · intro w'
              go_simp
              with_reducible rfl
            rotate_left
            · simp only [Act.put, List.setIfInBounds_toArray, List.set_cons_zero, List.set_cons_succ, i64_w, i32_w]
              rfl
            refine pure_ (i := 1) (N := some 13) (v := ?_) (a' := ?_) #[true, true, false, false, false, false, false] rfl rfl (by kernel_rfl) (fun _ _ _ h => h) (Or.inl ⟨by rfl, ?_⟩) ?_ ?_
            rotate_left
            · intro w'
              go_simp
              with_reducible rfl
            rotate_left
            · simp only [Act.put, List.setIfInBounds_toArray, List.set_cons_zero, List.set_cons_succ, i64_w, i32_w]
              rfl
            refine pure_ (i := 2) (N := some 14) (v := ?_) (a' := ?_) #[true, true, true, false, false, false, false] rfl rfl (by kernel_rfl) (fun _ _ _ h => h) (Or.inl ⟨by rfl, ?_⟩) ?_ ?_
            rotate_left
            · intro w'
              go_simp
              with_reducible rfl
            rotate_left
            · simp only [Act.put, List.setIfInBounds_toArray, List.set_cons_zero, List.set_cons_succ, i64_w, i32_w]
              rfl
            refine pure_ (i := 4) (N := some 16) (v := ?_) (a' := ?_) #[true, true, true, false, true, false, false] rfl rfl (by kernel_rfl) (fun _ _ _ h => h) (Or.inl ⟨by rfl, ?_⟩) ?_ ?_
            rotate_left
            · intro w'
              go_simp
              with_reducible rfl
            rotate_left
            · simp only [Act.put, List.setIfInBounds_toArray, List.set_cons_zero, List.set_cons_succ, i64_w, i32_w]
              rfl
            refine take_ (i := 3) (N := some 15) (v := ?_) (a' := ?_) #[true, true, true, true, true, false, false] rfl rfl (by kernel_rfl) (fun _ _ _ h => h) (Or.inl ⟨by rfl, ?_⟩) hHeld ?_ ?_
            rotate_left
            · intro w' s0
              go_simp
              with_reducible rfl
            rotate_left
            · simp only [Act.put, List.setIfInBounds_toArray, List.set_cons_zero, List.set_cons_succ, i64_w, i32_w]
              rfl
            refine one_ (i := 5) (N := some 17) #[true, true, true, true, true, true, false] rfl rfl (by kernel_rfl) (by decide) (fun K hK => ?_)
            refine goes_ Try.func73 (by kernel_rfl) rfl #[.int .i64 x1_1] (by rfl) rfl rfl (by (try simp only [List.map_toArray, List.map_cons, List.map_nil]); first | done | rfl | (simp only [List.length_drop, List.length_take]; rfl)) ?_
            with_reducible refine (laws_markText.calls k1 x1_1 t383 _ A5.out).mono ?_
            rintro e w8 ⟨rfl, hb⟩
            refine ⟨_, rfl, ?_⟩
            have n0_ := Aside0.mk (below_step (by repeat (first | (with_reducible first | exact HB.out | apply below_alloc | apply pw_below_drewN | apply below_drew1) | exact HB.out)) hb)
            clear HB
            have HB := n0_
            clear n0_
            (try clear hb)
            (try clear hb2)
            (try clear hk)
            (try clear hi)
            refine hK.out _ _ (((HB.out.cell (World.block_lt_of_cell? w _ hw382_0)).trans hw382_0)) (fun hHeld => ?_)
            clear hK K
            refine norm_ (a' := ?_) ?_ ?_
            rotate_left
            · show Act.put _ (some 17) _ = _
              simp only [Act.put, List.setIfInBounds_toArray, List.set_cons_zero, List.set_cons_succ, i64_w, i32_w]
              rfl
            refine pure_ (i := 6) (N := some 18) (v := ?_) (a' := ?_) #[true, true, true, true, true, true, true] rfl rfl (by kernel_rfl) (fun _ _ _ h => h) (Or.inl ⟨by rfl, ?_⟩) ?_ ?_
            rotate_left
            · intro w'
              go_simp
              with_reducible rfl
            rotate_left
            · simp only [Act.put, List.setIfInBounds_toArray, List.set_cons_zero, List.set_cons_succ, i64_w, i32_w]
              rfl
            refine done_ (by kernel_rfl) ?_
            try go_wp2
            go_roundg k1
            case measure => have := HK1.out; omega
            case rel => exact ⟨(wrap64 (x1_1 + 1)), (wrap64 (x5_1 + 1)), (by first | rfl | (simp; done) | (simp [*]; done)), (by first | rfl | (simp; done) | (simp [*]; done)), H', ⟨by have := HK1.out; omega⟩, ⟨by repeat (first | (with_reducible first | exact HB.out | apply below_alloc | apply pw_below_drewN | apply below_drew1) | exact HB.out)⟩⟩
          · rw [if_neg c6] at H
            have c6b0 : ((rdOf ByteArray.empty l0 x5_1).toList == t383.toList) = false := beq_eq_false_iff_ne.mpr c6
            have c6b1 : ((rdOf ByteArray.empty l0 x5_1).toList != t383.toList) = true := bne_iff_ne.mpr c6
            obtain rfl := Option.some.inj H
            try go_wp2
            have n0_ := Aside0.mk (below_drew1 HB.out)
            clear HB
            have HB := n0_
            clear n0_
            have p382 : 0 ≤ (x5_1 : Int) := of_decide_eq_true (by first | (with_reducible assumption) | assumption)
            have q382 : x5_1 < (l0.length : Int) := of_decide_eq_true (by first | (with_reducible assumption) | assumption)
            obtain ⟨ad382, e382, hx382_0⟩ := Kd.at_string HR0.out x5_1 p382 q382
            have hw382_0 := hx382_0
            cases e382
            replace hx382_0 := (HB.out.cell (World.block_lt_of_cell? w _ hx382_0)).trans hx382_0
            replace p382 := eq_true p382
            replace q382 := eq_true q382
            refine start_ (n := 7) (S := fun w' => w'.cell? (ad382.add (x5_1).toNat) = some (.string (rdOf ByteArray.empty l0 x5_1))) (ds := []) #[false, false, false, false, false, false, false] (by kernel_rfl) rfl rfl (((HB.out.cell (World.block_lt_of_cell? w _ hw382_0)).trans hw382_0)) (fun hHeld => ?_)
            generalize wr.drew = w9 at HB hx382_0 hHeld ⊢
            refine pure_ (i := 0) (N := some 12) (v := ?_) (a' := ?_) #[true, false, false, false, false, false, false] rfl rfl (by kernel_rfl) (fun _ _ _ h => h) (Or.inl ⟨by rfl, ?_⟩) ?_ ?_
            rotate_left
            · intro w'
              go_simp
              with_reducible rfl
            rotate_left
            · simp only [Act.put, List.setIfInBounds_toArray, List.set_cons_zero, List.set_cons_succ, i64_w, i32_w]
              rfl
            refine pure_ (i := 1) (N := some 13) (v := ?_) (a' := ?_) #[true, true, false, false, false, false, false] rfl rfl (by kernel_rfl) (fun _ _ _ h => h) (Or.inl ⟨by rfl, ?_⟩) ?_ ?_
            rotate_left
            · intro w'
              go_simp
              with_reducible rfl
            rotate_left
            · simp only [Act.put, List.setIfInBounds_toArray, List.set_cons_zero, List.set_cons_succ, i64_w, i32_w]
              rfl
            refine pure_ (i := 2) (N := some 14) (v := ?_) (a' := ?_) #[true, true, true, false, false, false, false] rfl rfl (by kernel_rfl) (fun _ _ _ h => h) (Or.inl ⟨by rfl, ?_⟩) ?_ ?_
            rotate_left
            · intro w'
              go_simp
              with_reducible rfl
            rotate_left
            · simp only [Act.put, List.setIfInBounds_toArray, List.set_cons_zero, List.set_cons_succ, i64_w, i32_w]
              rfl
            refine pure_ (i := 4) (N := some 16) (v := ?_) (a' := ?_) #[true, true, true, false, true, false, false] rfl rfl (by kernel_rfl) (fun _ _ _ h => h) (Or.inl ⟨by rfl, ?_⟩) ?_ ?_
            rotate_left
            · intro w'
              go_simp
              with_reducible rfl
            rotate_left
            · simp only [Act.put, List.setIfInBounds_toArray, List.set_cons_zero, List.set_cons_succ, i64_w, i32_w]
              rfl
            refine take_ (i := 3) (N := some 15) (v := ?_) (a' := ?_) #[true, true, true, true, true, false, false] rfl rfl (by kernel_rfl) (fun _ _ _ h => h) (Or.inl ⟨by rfl, ?_⟩) hHeld ?_ ?_
            rotate_left
            · intro w' s0
              go_simp
              with_reducible rfl
            rotate_left
            · simp only [Act.put, List.setIfInBounds_toArray, List.set_cons_zero, List.set_cons_succ, i64_w, i32_w]
              rfl
            refine one_ (i := 5) (N := some 17) #[true, true, true, true, true, true, false] rfl rfl (by kernel_rfl) (by decide) (fun K hK => ?_)
            refine goes_ Try.func73 (by kernel_rfl) rfl #[.int .i64 x1_1] (by rfl) rfl rfl (by (try simp only [List.map_toArray, List.map_cons, List.map_nil]); first | done | rfl | (simp only [List.length_drop, List.length_take]; rfl)) ?_
            with_reducible refine (laws_markText.calls k1 x1_1 t383 _ A5.out).mono ?_
            rintro e w10 ⟨rfl, hb⟩
            refine ⟨_, rfl, ?_⟩
            have n0_ := Aside0.mk (below_step (by repeat (first | (with_reducible first | exact HB.out | apply below_alloc | apply pw_below_drewN | apply below_drew1) | exact HB.out)) hb)
            clear HB
            have HB := n0_
            clear n0_
            (try clear hb)
            (try clear hb2)
            (try clear hk)
            (try clear hi)
            refine hK.out _ _ (((HB.out.cell (World.block_lt_of_cell? w _ hw382_0)).trans hw382_0)) (fun hHeld => ?_)
            clear hK K
            refine norm_ (a' := ?_) ?_ ?_
            rotate_left
            · show Act.put _ (some 17) _ = _
              simp only [Act.put, List.setIfInBounds_toArray, List.set_cons_zero, List.set_cons_succ, i64_w, i32_w]
              rfl
            refine pure_ (i := 6) (N := some 18) (v := ?_) (a' := ?_) #[true, true, true, true, true, true, true] rfl rfl (by kernel_rfl) (fun _ _ _ h => h) (Or.inl ⟨by rfl, ?_⟩) ?_ ?_
            rotate_left
            · intro w'
              go_simp
              with_reducible rfl
            rotate_left
            · simp only [Act.put, List.setIfInBounds_toArray, List.set_cons_zero, List.set_cons_succ, i64_w, i32_w]
              rfl
            refine done_ (by kernel_rfl) ?_
            try go_wp2
            go_ret
            exact ⟨by first | rfl | (simp [errW_none, errW_some] <;> rfl) | (simp [*, errW_none, errW_some] <;> rfl), by repeat (first | (with_reducible first | exact HB.out | apply below_alloc | apply pw_below_drewN | apply below_drew1) | exact HB.out)⟩
        · rw [if_neg c4] at H
          exact absurd H (by simp)
      · rw [if_neg c3] at H
        have c3b0 : decide (x5_1 < (l0.length : Int)) = false := decide_eq_false c3
        clear c3
        obtain rfl := Option.some.inj H
        go_wp2
        go_ret
        exact ⟨by first | rfl | (simp [errW_none, errW_some] <;> rfl) | (simp [*, errW_none, errW_some] <;> rfl), by repeat (first | (with_reducible first | exact HB.out | apply below_alloc | apply pw_below_drewN | apply below_drew1) | exact HB.out)⟩
def laws_heldLockS.l0 : Nat → List (S28) → Int → Int → Option (Int)
  | 0, _, _, _ => none
  | k + 1, x0, x1, x5 => if x5 < (x0.length : Int) then (if 0 ≤ x5 then (if ((rd_T28 x0 x5).f0) = x1 then ((laws_heldStringS.f k ((rd_T28 x0 x5).f1) (wrap64 (x1 + 1))).bind fun t386 => (if t386 < 0 then (some (-1)) else (if (((rd_T28 x0 x5).f2) != ((Int.tmod t386 3) == 0)) = true then (some (-1)) else (if (((rd_T28 x0 x5).f3) != ((Int.tmod (wrap64 (t386 + 1)) 3) == 0)) = true then (some (-1)) else (if ((rd_T28 x0 x5).f4) = (wrap64 ((wrap64 (t386 + 1)) + 1)) then (laws_heldLockS.l0 k x0 (wrap64 ((wrap64 ((wrap64 (t386 + 1)) + 1)) + 1)) (wrap64 (x5 + 1))) else (some (-1))))))) else (some (-1))) else (none)) else (some x1)
def laws_heldLockS.f (k : Nat) (l0 : List (S28)) (a1 : Int) : Option (Int) := laws_heldLockS.l0 k l0 a1 0
set_option maxHeartbeats 8000000 in
set_option maxRecDepth 100000 in
theorem laws_heldLockS.calls (k : Nat) (A0 : Option Addr) (c0 : Nat) (l0 : List (S28)) (a1 : Int) (r : Int) (w : World) (hr0 : Kd.C k28 w A0 l0.length l0) (hc0 : l0.length ≤ c0) (h : laws_heldLockS.f k l0 a1 = some r) :
    Calls Try.prog 35 #[.slice A0 l0.length c0, .int .i64 a1] w fun e w' => e = .returned (.int .i64 r) ∧ Below w.heap.size w w' := by
  have HR0 := Aside0.mk hr0
  have HC0 := Aside0.mk hc0
  clear hr0 hc0
  have HB := Aside0.mk (Below.refl w.heap.size w)
  have H : (laws_heldLockS.l0 k l0 a1 0) = some r := h
  clear h
  have H' := Aside0.mk H
  clear H
  go_enter Try.func35, Try.ntmps35
  go_wp2
  go_loopg [1, 5] k (fun kq v1 v5 w' => ∃ (x1_1 : Int) (x5_1 : Int), v1 = .int .i64 x1_1 ∧ v5 = .int .i64 x5_1 ∧ Aside0 (laws_heldLockS.l0 kq l0 x1_1 x5_1 = some r) ∧ Aside0 (kq ≤ k) ∧ Aside0 (Below w.heap.size w w'))
  case atStart => exact ⟨(a1), (0), (by first | rfl | (simp; done) | (simp [*]; done)), (by first | rfl | (simp; done) | (simp [*]; done)), H', ⟨Nat.le_refl _⟩, ⟨by repeat (first | (with_reducible first | exact HB.out | apply below_alloc | apply pw_below_drewN | apply below_drew1) | exact HB.out)⟩⟩
  case round =>
    clear H'
    try clear p2
    obtain ⟨x1_1, x5_1, rfl, rfl, HA, HK1, HB⟩ := hrel
    cases gk with
    | zero => exact absurd HA.out (by simp [laws_heldLockS.l0])
    | succ k1 =>
      have H := HA.out
      clear HA
      simp only [laws_heldLockS.l0] at H
      by_cases c3 : x5_1 < (l0.length : Int)
      · rw [if_pos c3] at H
        have c3b0 : decide (x5_1 < (l0.length : Int)) = true := decide_eq_true c3
        clear c3
        by_cases c4 : 0 ≤ x5_1
        · rw [if_pos c4] at H
          have c4b0 : decide (0 ≤ x5_1) = true := decide_eq_true c4
          clear c4
          by_cases c5 : ((rd_T28 l0 x5_1).f0) = x1_1
          · rw [if_pos c5] at H
            have c5b0 : (((rd_T28 l0 x5_1).f0) == x1_1) = true := beq_iff_eq.mpr c5
            have c5b1 : (((rd_T28 l0 x5_1).f0) != x1_1) = false := bne_eq_false_iff_eq.mpr c5
            clear c5
            replace H := Option.bind_eq_some_iff.mp H
            obtain ⟨t386, A60, H⟩ := H
            replace H : (if t386 < 0 then (some (-1)) else (if (((rd_T28 l0 x5_1).f2) != ((Int.tmod t386 3) == 0)) = true then (some (-1)) else (if (((rd_T28 l0 x5_1).f3) != ((Int.tmod (wrap64 (t386 + 1)) 3) == 0)) = true then (some (-1)) else (if ((rd_T28 l0 x5_1).f4) = (wrap64 ((wrap64 (t386 + 1)) + 1)) then (laws_heldLockS.l0 k1 l0 (wrap64 ((wrap64 ((wrap64 (t386 + 1)) + 1)) + 1)) (wrap64 (x5_1 + 1))) else (some (-1)))))) = some r := H
            have A6 := Aside0.mk A60
            clear A60
            by_cases c7 : t386 < 0
            · rw [if_pos c7] at H
              have c7b0 : decide (t386 < 0) = true := decide_eq_true c7
              clear c7
              obtain rfl := Option.some.inj H
              have p384 : 0 ≤ (x5_1 : Int) := of_decide_eq_true (by first | (with_reducible assumption) | assumption)
              have q384 : x5_1 < (l0.length : Int) := of_decide_eq_true (by first | (with_reducible assumption) | assumption)
              obtain ⟨ad384, A384_1, c384_1, e384, hx384_0, hx384_1, hx384_2, hx384_3, hx384_4, hl384_1, hi384_1⟩ := at_T28 HR0.out x5_1 p384 q384
              cases e384
              replace hx384_0 := (HB.out.cell (World.block_lt_of_cell? w _ hx384_0)).trans hx384_0
              replace hx384_1 := (HB.out.cell (World.block_lt_of_cell? w _ hx384_1)).trans hx384_1
              replace hx384_2 := (HB.out.cell (World.block_lt_of_cell? w _ hx384_2)).trans hx384_2
              replace hx384_3 := (HB.out.cell (World.block_lt_of_cell? w _ hx384_3)).trans hx384_3
              replace hx384_4 := (HB.out.cell (World.block_lt_of_cell? w _ hx384_4)).trans hx384_4
              have HR384_1 := Aside0.mk hi384_1
              have HC384_1 := Aside0.mk hl384_1
              clear hi384_1 hl384_1
              replace p384 := eq_true p384
              replace q384 := eq_true q384
              have p385 : 0 ≤ (x5_1 : Int) := of_decide_eq_true (by first | (with_reducible assumption) | assumption)
              have q385 : x5_1 < (l0.length : Int) := of_decide_eq_true (by first | (with_reducible assumption) | assumption)
              obtain ⟨ad385, A385_1, c385_1, e385, hx385_0, hx385_1, hx385_2, hx385_3, hx385_4, hl385_1, hi385_1⟩ := at_T28 HR0.out x5_1 p385 q385
              obtain rfl : ad384 = ad385 := (by injection e385)
              replace hx385_0 := (HB.out.cell (World.block_lt_of_cell? w _ hx385_0)).trans hx385_0
              replace hx385_1 := (HB.out.cell (World.block_lt_of_cell? w _ hx385_1)).trans hx385_1
              replace hx385_2 := (HB.out.cell (World.block_lt_of_cell? w _ hx385_2)).trans hx385_2
              replace hx385_3 := (HB.out.cell (World.block_lt_of_cell? w _ hx385_3)).trans hx385_3
              replace hx385_4 := (HB.out.cell (World.block_lt_of_cell? w _ hx385_4)).trans hx385_4
              have HR385_1 := Aside0.mk hi385_1
              have HC385_1 := Aside0.mk hl385_1
              clear hi385_1 hl385_1
              replace p385 := eq_true p385
              replace q385 := eq_true q385
              have ea_ := Option.some.inj (hx384_1.symm.trans hx385_1)
              injection ea_ with ea_ en_ ec_
              subst ea_
              subst ec_
              clear en_
              go_wp2_with (first | ((with_reducible refine gate_callee (f := 70) rfl ?_); refine goesL_ (some 27) rfl rfl Try.func70 (by kernel_rfl) rfl #[.slice A384_1 ((rd_T28 l0 x5_1).f1).length c384_1, .int .i64 (wrap64 (x1_1 + 1))] rfl (by (try simp only [List.map_toArray, List.map_cons, List.map_nil]); first | done | rfl | (simp only [List.length_drop, List.length_take]; rfl)) ?_; (with_reducible refine (laws_heldStringS.calls k1 _ _ ((rd_T28 l0 x5_1).f1) (wrap64 (x1_1 + 1)) t386 _ ?side1 ?side2 A6.out).mono ?_); (case side1 => repeat (first | exact (Kd.C_below HR385_1.out HB.out) | (with_reducible refine Kd.C_alloc ?_ _) | (with_reducible refine Kd.C_drewN ?_ _) | (with_reducible refine Kd.C_drew ?_))); (case side2 => exact HC385_1.out); rintro e w8 ⟨rfl, hb⟩; refine ⟨_, rfl, ?_⟩; have n0_ := Aside0.mk (below_step (by repeat (first | (with_reducible first | exact HB.out | apply below_alloc | apply pw_below_drewN | apply below_drew1) | exact HB.out)) hb); clear HB; have HB := n0_; clear n0_; (try clear hb); (try clear hb2); (try clear hk); (try clear hi)))
              go_ret
              exact ⟨by first | rfl | (simp [errW_none, errW_some] <;> rfl) | (simp [*, errW_none, errW_some] <;> rfl), by repeat (first | (with_reducible first | exact HB.out | apply below_alloc | apply pw_below_drewN | apply below_drew1) | exact HB.out)⟩
            · rw [if_neg c7] at H
              have c7b0 : decide (t386 < 0) = false := decide_eq_false c7
              clear c7
              by_cases c9 : (((rd_T28 l0 x5_1).f2) != ((Int.tmod t386 3) == 0)) = true
              · rw [if_pos c9] at H
                have c9b0 : (((rd_T28 l0 x5_1).f2) != ((Int.tmod t386 3) == 0)) = true := c9
                (try (have c9b1 : decide (((rd_T28 l0 x5_1).f2) = ((Int.tmod t386 3) == 0)) = false := by simpa using c9))
                (try (have c9b2 : (((rd_T28 l0 x5_1).f2) == ((Int.tmod t386 3) == 0)) = false := by simpa using c9))
                (try (have c9b3 : ¬ (((rd_T28 l0 x5_1).f2) = ((Int.tmod t386 3) == 0)) := by simpa using c9))
                clear c9
                obtain rfl := Option.some.inj H
                have p384 : 0 ≤ (x5_1 : Int) := of_decide_eq_true (by first | (with_reducible assumption) | assumption)
                have q384 : x5_1 < (l0.length : Int) := of_decide_eq_true (by first | (with_reducible assumption) | assumption)
                obtain ⟨ad384, A384_1, c384_1, e384, hx384_0, hx384_1, hx384_2, hx384_3, hx384_4, hl384_1, hi384_1⟩ := at_T28 HR0.out x5_1 p384 q384
                cases e384
                replace hx384_0 := (HB.out.cell (World.block_lt_of_cell? w _ hx384_0)).trans hx384_0
                replace hx384_1 := (HB.out.cell (World.block_lt_of_cell? w _ hx384_1)).trans hx384_1
                replace hx384_2 := (HB.out.cell (World.block_lt_of_cell? w _ hx384_2)).trans hx384_2
                replace hx384_3 := (HB.out.cell (World.block_lt_of_cell? w _ hx384_3)).trans hx384_3
                replace hx384_4 := (HB.out.cell (World.block_lt_of_cell? w _ hx384_4)).trans hx384_4
                have HR384_1 := Aside0.mk hi384_1
                have HC384_1 := Aside0.mk hl384_1
                clear hi384_1 hl384_1
                replace p384 := eq_true p384
                replace q384 := eq_true q384
                have p385 : 0 ≤ (x5_1 : Int) := of_decide_eq_true (by first | (with_reducible assumption) | assumption)
                have q385 : x5_1 < (l0.length : Int) := of_decide_eq_true (by first | (with_reducible assumption) | assumption)
                obtain ⟨ad385, A385_1, c385_1, e385, hx385_0, hx385_1, hx385_2, hx385_3, hx385_4, hl385_1, hi385_1⟩ := at_T28 HR0.out x5_1 p385 q385
                obtain rfl : ad384 = ad385 := (by injection e385)
                replace hx385_0 := (HB.out.cell (World.block_lt_of_cell? w _ hx385_0)).trans hx385_0
                replace hx385_1 := (HB.out.cell (World.block_lt_of_cell? w _ hx385_1)).trans hx385_1
                replace hx385_2 := (HB.out.cell (World.block_lt_of_cell? w _ hx385_2)).trans hx385_2
                replace hx385_3 := (HB.out.cell (World.block_lt_of_cell? w _ hx385_3)).trans hx385_3
                replace hx385_4 := (HB.out.cell (World.block_lt_of_cell? w _ hx385_4)).trans hx385_4
                have HR385_1 := Aside0.mk hi385_1
                have HC385_1 := Aside0.mk hl385_1
                clear hi385_1 hl385_1
                replace p385 := eq_true p385
                replace q385 := eq_true q385
                have ea_ := Option.some.inj (hx384_1.symm.trans hx385_1)
                injection ea_ with ea_ en_ ec_
                subst ea_
                subst ec_
                clear en_
                go_wp2_with (first | ((with_reducible refine gate_callee (f := 70) rfl ?_); refine goesL_ (some 27) rfl rfl Try.func70 (by kernel_rfl) rfl #[.slice A384_1 ((rd_T28 l0 x5_1).f1).length c384_1, .int .i64 (wrap64 (x1_1 + 1))] rfl (by (try simp only [List.map_toArray, List.map_cons, List.map_nil]); first | done | rfl | (simp only [List.length_drop, List.length_take]; rfl)) ?_; (with_reducible refine (laws_heldStringS.calls k1 _ _ ((rd_T28 l0 x5_1).f1) (wrap64 (x1_1 + 1)) t386 _ ?side1 ?side2 A6.out).mono ?_); (case side1 => repeat (first | exact (Kd.C_below HR385_1.out HB.out) | (with_reducible refine Kd.C_alloc ?_ _) | (with_reducible refine Kd.C_drewN ?_ _) | (with_reducible refine Kd.C_drew ?_))); (case side2 => exact HC385_1.out); rintro e w10 ⟨rfl, hb⟩; refine ⟨_, rfl, ?_⟩; have n0_ := Aside0.mk (below_step (by repeat (first | (with_reducible first | exact HB.out | apply below_alloc | apply pw_below_drewN | apply below_drew1) | exact HB.out)) hb); clear HB; have HB := n0_; clear n0_; (try clear hb); (try clear hb2); (try clear hk); (try clear hi); have p387 : 0 ≤ (x5_1 : Int) := of_decide_eq_true (by first | (with_reducible assumption) | assumption); have q387 : x5_1 < (l0.length : Int) := of_decide_eq_true (by first | (with_reducible assumption) | assumption); obtain ⟨ad387, A387_1, c387_1, e387, hx387_0, hx387_1, hx387_2, hx387_3, hx387_4, hl387_1, hi387_1⟩ := at_T28 HR0.out x5_1 p387 q387; obtain rfl : ad384 = ad387 := (by injection e387); replace hx387_0 := (HB.out.cell (World.block_lt_of_cell? w _ hx387_0)).trans hx387_0; replace hx387_1 := (HB.out.cell (World.block_lt_of_cell? w _ hx387_1)).trans hx387_1; replace hx387_2 := (HB.out.cell (World.block_lt_of_cell? w _ hx387_2)).trans hx387_2; replace hx387_3 := (HB.out.cell (World.block_lt_of_cell? w _ hx387_3)).trans hx387_3; replace hx387_4 := (HB.out.cell (World.block_lt_of_cell? w _ hx387_4)).trans hx387_4; have HR387_1 := Aside0.mk hi387_1; have HC387_1 := Aside0.mk hl387_1; clear hi387_1 hl387_1; replace p387 := eq_true p387; replace q387 := eq_true q387))
                go_ret
                exact ⟨by first | rfl | (simp [errW_none, errW_some] <;> rfl) | (simp [*, errW_none, errW_some] <;> rfl), by repeat (first | (with_reducible first | exact HB.out | apply below_alloc | apply pw_below_drewN | apply below_drew1) | exact HB.out)⟩
              · rw [if_neg c9] at H
                have c9b0 : (((rd_T28 l0 x5_1).f2) != ((Int.tmod t386 3) == 0)) = false := by simpa using c9
                (try (have c9b1 : decide (((rd_T28 l0 x5_1).f2) = ((Int.tmod t386 3) == 0)) = true := by simpa using c9))
                (try (have c9b2 : (((rd_T28 l0 x5_1).f2) == ((Int.tmod t386 3) == 0)) = true := by simpa using c9))
                clear c9
                by_cases c11 : (((rd_T28 l0 x5_1).f3) != ((Int.tmod (wrap64 (t386 + 1)) 3) == 0)) = true
                · rw [if_pos c11] at H
                  have c11b0 : (((rd_T28 l0 x5_1).f3) != ((Int.tmod (wrap64 (t386 + 1)) 3) == 0)) = true := c11
                  (try (have c11b1 : decide (((rd_T28 l0 x5_1).f3) = ((Int.tmod (wrap64 (t386 + 1)) 3) == 0)) = false := by simpa using c11))
                  (try (have c11b2 : (((rd_T28 l0 x5_1).f3) == ((Int.tmod (wrap64 (t386 + 1)) 3) == 0)) = false := by simpa using c11))
                  (try (have c11b3 : ¬ (((rd_T28 l0 x5_1).f3) = ((Int.tmod (wrap64 (t386 + 1)) 3) == 0)) := by simpa using c11))
                  clear c11
                  obtain rfl := Option.some.inj H
                  have p384 : 0 ≤ (x5_1 : Int) := of_decide_eq_true (by first | (with_reducible assumption) | assumption)
                  have q384 : x5_1 < (l0.length : Int) := of_decide_eq_true (by first | (with_reducible assumption) | assumption)
                  obtain ⟨ad384, A384_1, c384_1, e384, hx384_0, hx384_1, hx384_2, hx384_3, hx384_4, hl384_1, hi384_1⟩ := at_T28 HR0.out x5_1 p384 q384
                  cases e384
                  replace hx384_0 := (HB.out.cell (World.block_lt_of_cell? w _ hx384_0)).trans hx384_0
                  replace hx384_1 := (HB.out.cell (World.block_lt_of_cell? w _ hx384_1)).trans hx384_1
                  replace hx384_2 := (HB.out.cell (World.block_lt_of_cell? w _ hx384_2)).trans hx384_2
                  replace hx384_3 := (HB.out.cell (World.block_lt_of_cell? w _ hx384_3)).trans hx384_3
                  replace hx384_4 := (HB.out.cell (World.block_lt_of_cell? w _ hx384_4)).trans hx384_4
                  have HR384_1 := Aside0.mk hi384_1
                  have HC384_1 := Aside0.mk hl384_1
                  clear hi384_1 hl384_1
                  replace p384 := eq_true p384
                  replace q384 := eq_true q384
                  have p385 : 0 ≤ (x5_1 : Int) := of_decide_eq_true (by first | (with_reducible assumption) | assumption)
                  have q385 : x5_1 < (l0.length : Int) := of_decide_eq_true (by first | (with_reducible assumption) | assumption)
                  obtain ⟨ad385, A385_1, c385_1, e385, hx385_0, hx385_1, hx385_2, hx385_3, hx385_4, hl385_1, hi385_1⟩ := at_T28 HR0.out x5_1 p385 q385
                  obtain rfl : ad384 = ad385 := (by injection e385)
                  replace hx385_0 := (HB.out.cell (World.block_lt_of_cell? w _ hx385_0)).trans hx385_0
                  replace hx385_1 := (HB.out.cell (World.block_lt_of_cell? w _ hx385_1)).trans hx385_1
                  replace hx385_2 := (HB.out.cell (World.block_lt_of_cell? w _ hx385_2)).trans hx385_2
                  replace hx385_3 := (HB.out.cell (World.block_lt_of_cell? w _ hx385_3)).trans hx385_3
                  replace hx385_4 := (HB.out.cell (World.block_lt_of_cell? w _ hx385_4)).trans hx385_4
                  have HR385_1 := Aside0.mk hi385_1
                  have HC385_1 := Aside0.mk hl385_1
                  clear hi385_1 hl385_1
                  replace p385 := eq_true p385
                  replace q385 := eq_true q385
                  have ea_ := Option.some.inj (hx384_1.symm.trans hx385_1)
                  injection ea_ with ea_ en_ ec_
                  subst ea_
                  subst ec_
                  clear en_
                  go_wp2_with (first | ((with_reducible refine gate_callee (f := 70) rfl ?_); refine goesL_ (some 27) rfl rfl Try.func70 (by kernel_rfl) rfl #[.slice A384_1 ((rd_T28 l0 x5_1).f1).length c384_1, .int .i64 (wrap64 (x1_1 + 1))] rfl (by (try simp only [List.map_toArray, List.map_cons, List.map_nil]); first | done | rfl | (simp only [List.length_drop, List.length_take]; rfl)) ?_; (with_reducible refine (laws_heldStringS.calls k1 _ _ ((rd_T28 l0 x5_1).f1) (wrap64 (x1_1 + 1)) t386 _ ?side1 ?side2 A6.out).mono ?_); (case side1 => repeat (first | exact (Kd.C_below HR385_1.out HB.out) | (with_reducible refine Kd.C_alloc ?_ _) | (with_reducible refine Kd.C_drewN ?_ _) | (with_reducible refine Kd.C_drew ?_))); (case side2 => exact HC385_1.out); rintro e w12 ⟨rfl, hb⟩; refine ⟨_, rfl, ?_⟩; have n0_ := Aside0.mk (below_step (by repeat (first | (with_reducible first | exact HB.out | apply below_alloc | apply pw_below_drewN | apply below_drew1) | exact HB.out)) hb); clear HB; have HB := n0_; clear n0_; (try clear hb); (try clear hb2); (try clear hk); (try clear hi); have p387 : 0 ≤ (x5_1 : Int) := of_decide_eq_true (by first | (with_reducible assumption) | assumption); have q387 : x5_1 < (l0.length : Int) := of_decide_eq_true (by first | (with_reducible assumption) | assumption); obtain ⟨ad387, A387_1, c387_1, e387, hx387_0, hx387_1, hx387_2, hx387_3, hx387_4, hl387_1, hi387_1⟩ := at_T28 HR0.out x5_1 p387 q387; obtain rfl : ad384 = ad387 := (by injection e387); replace hx387_0 := (HB.out.cell (World.block_lt_of_cell? w _ hx387_0)).trans hx387_0; replace hx387_1 := (HB.out.cell (World.block_lt_of_cell? w _ hx387_1)).trans hx387_1; replace hx387_2 := (HB.out.cell (World.block_lt_of_cell? w _ hx387_2)).trans hx387_2; replace hx387_3 := (HB.out.cell (World.block_lt_of_cell? w _ hx387_3)).trans hx387_3; replace hx387_4 := (HB.out.cell (World.block_lt_of_cell? w _ hx387_4)).trans hx387_4; have HR387_1 := Aside0.mk hi387_1; have HC387_1 := Aside0.mk hl387_1; clear hi387_1 hl387_1; replace p387 := eq_true p387; replace q387 := eq_true q387; have p388 : 0 ≤ (x5_1 : Int) := of_decide_eq_true (by first | (with_reducible assumption) | assumption); have q388 : x5_1 < (l0.length : Int) := of_decide_eq_true (by first | (with_reducible assumption) | assumption); obtain ⟨ad388, A388_1, c388_1, e388, hx388_0, hx388_1, hx388_2, hx388_3, hx388_4, hl388_1, hi388_1⟩ := at_T28 HR0.out x5_1 p388 q388; obtain rfl : ad384 = ad388 := (by injection e388); replace hx388_0 := (HB.out.cell (World.block_lt_of_cell? w _ hx388_0)).trans hx388_0; replace hx388_1 := (HB.out.cell (World.block_lt_of_cell? w _ hx388_1)).trans hx388_1; replace hx388_2 := (HB.out.cell (World.block_lt_of_cell? w _ hx388_2)).trans hx388_2; replace hx388_3 := (HB.out.cell (World.block_lt_of_cell? w _ hx388_3)).trans hx388_3; replace hx388_4 := (HB.out.cell (World.block_lt_of_cell? w _ hx388_4)).trans hx388_4; have HR388_1 := Aside0.mk hi388_1; have HC388_1 := Aside0.mk hl388_1; clear hi388_1 hl388_1; replace p388 := eq_true p388; replace q388 := eq_true q388; have ea_ := Option.some.inj (hx387_1.symm.trans hx388_1); injection ea_ with ea_ en_ ec_; subst ea_; subst ec_; clear en_))
                  go_ret
                  exact ⟨by first | rfl | (simp [errW_none, errW_some] <;> rfl) | (simp [*, errW_none, errW_some] <;> rfl), by repeat (first | (with_reducible first | exact HB.out | apply below_alloc | apply pw_below_drewN | apply below_drew1) | exact HB.out)⟩
                · rw [if_neg c11] at H
                  have c11b0 : (((rd_T28 l0 x5_1).f3) != ((Int.tmod (wrap64 (t386 + 1)) 3) == 0)) = false := by simpa using c11
                  (try (have c11b1 : decide (((rd_T28 l0 x5_1).f3) = ((Int.tmod (wrap64 (t386 + 1)) 3) == 0)) = true := by simpa using c11))
                  (try (have c11b2 : (((rd_T28 l0 x5_1).f3) == ((Int.tmod (wrap64 (t386 + 1)) 3) == 0)) = true := by simpa using c11))
                  clear c11
                  by_cases c13 : ((rd_T28 l0 x5_1).f4) = (wrap64 ((wrap64 (t386 + 1)) + 1))
                  · rw [if_pos c13] at H
                    have c13b0 : (((rd_T28 l0 x5_1).f4) == (wrap64 ((wrap64 (t386 + 1)) + 1))) = true := beq_iff_eq.mpr c13
                    have c13b1 : (((rd_T28 l0 x5_1).f4) != (wrap64 ((wrap64 (t386 + 1)) + 1))) = false := bne_eq_false_iff_eq.mpr c13
                    clear c13
                    have H' := Aside0.mk H
                    clear H
                    have p384 : 0 ≤ (x5_1 : Int) := of_decide_eq_true (by first | (with_reducible assumption) | assumption)
                    have q384 : x5_1 < (l0.length : Int) := of_decide_eq_true (by first | (with_reducible assumption) | assumption)
                    obtain ⟨ad384, A384_1, c384_1, e384, hx384_0, hx384_1, hx384_2, hx384_3, hx384_4, hl384_1, hi384_1⟩ := at_T28 HR0.out x5_1 p384 q384
                    cases e384
                    replace hx384_0 := (HB.out.cell (World.block_lt_of_cell? w _ hx384_0)).trans hx384_0
                    replace hx384_1 := (HB.out.cell (World.block_lt_of_cell? w _ hx384_1)).trans hx384_1
                    replace hx384_2 := (HB.out.cell (World.block_lt_of_cell? w _ hx384_2)).trans hx384_2
                    replace hx384_3 := (HB.out.cell (World.block_lt_of_cell? w _ hx384_3)).trans hx384_3
                    replace hx384_4 := (HB.out.cell (World.block_lt_of_cell? w _ hx384_4)).trans hx384_4
                    have HR384_1 := Aside0.mk hi384_1
                    have HC384_1 := Aside0.mk hl384_1
                    clear hi384_1 hl384_1
                    replace p384 := eq_true p384
                    replace q384 := eq_true q384
                    have p385 : 0 ≤ (x5_1 : Int) := of_decide_eq_true (by first | (with_reducible assumption) | assumption)
                    have q385 : x5_1 < (l0.length : Int) := of_decide_eq_true (by first | (with_reducible assumption) | assumption)
                    obtain ⟨ad385, A385_1, c385_1, e385, hx385_0, hx385_1, hx385_2, hx385_3, hx385_4, hl385_1, hi385_1⟩ := at_T28 HR0.out x5_1 p385 q385
                    obtain rfl : ad384 = ad385 := (by injection e385)
                    replace hx385_0 := (HB.out.cell (World.block_lt_of_cell? w _ hx385_0)).trans hx385_0
                    replace hx385_1 := (HB.out.cell (World.block_lt_of_cell? w _ hx385_1)).trans hx385_1
                    replace hx385_2 := (HB.out.cell (World.block_lt_of_cell? w _ hx385_2)).trans hx385_2
                    replace hx385_3 := (HB.out.cell (World.block_lt_of_cell? w _ hx385_3)).trans hx385_3
                    replace hx385_4 := (HB.out.cell (World.block_lt_of_cell? w _ hx385_4)).trans hx385_4
                    have HR385_1 := Aside0.mk hi385_1
                    have HC385_1 := Aside0.mk hl385_1
                    clear hi385_1 hl385_1
                    replace p385 := eq_true p385
                    replace q385 := eq_true q385
                    have ea_ := Option.some.inj (hx384_1.symm.trans hx385_1)
                    injection ea_ with ea_ en_ ec_
                    subst ea_
                    subst ec_
                    clear en_
                    go_wp2_with (first | ((with_reducible refine gate_callee (f := 70) rfl ?_); refine goesL_ (some 27) rfl rfl Try.func70 (by kernel_rfl) rfl #[.slice A384_1 ((rd_T28 l0 x5_1).f1).length c384_1, .int .i64 (wrap64 (x1_1 + 1))] rfl (by (try simp only [List.map_toArray, List.map_cons, List.map_nil]); first | done | rfl | (simp only [List.length_drop, List.length_take]; rfl)) ?_; (with_reducible refine (laws_heldStringS.calls k1 _ _ ((rd_T28 l0 x5_1).f1) (wrap64 (x1_1 + 1)) t386 _ ?side1 ?side2 A6.out).mono ?_); (case side1 => repeat (first | exact (Kd.C_below HR385_1.out HB.out) | (with_reducible refine Kd.C_alloc ?_ _) | (with_reducible refine Kd.C_drewN ?_ _) | (with_reducible refine Kd.C_drew ?_))); (case side2 => exact HC385_1.out); rintro e w14 ⟨rfl, hb⟩; refine ⟨_, rfl, ?_⟩; have n0_ := Aside0.mk (below_step (by repeat (first | (with_reducible first | exact HB.out | apply below_alloc | apply pw_below_drewN | apply below_drew1) | exact HB.out)) hb); clear HB; have HB := n0_; clear n0_; (try clear hb); (try clear hb2); (try clear hk); (try clear hi); have p387 : 0 ≤ (x5_1 : Int) := of_decide_eq_true (by first | (with_reducible assumption) | assumption); have q387 : x5_1 < (l0.length : Int) := of_decide_eq_true (by first | (with_reducible assumption) | assumption); obtain ⟨ad387, A387_1, c387_1, e387, hx387_0, hx387_1, hx387_2, hx387_3, hx387_4, hl387_1, hi387_1⟩ := at_T28 HR0.out x5_1 p387 q387; obtain rfl : ad384 = ad387 := (by injection e387); replace hx387_0 := (HB.out.cell (World.block_lt_of_cell? w _ hx387_0)).trans hx387_0; replace hx387_1 := (HB.out.cell (World.block_lt_of_cell? w _ hx387_1)).trans hx387_1; replace hx387_2 := (HB.out.cell (World.block_lt_of_cell? w _ hx387_2)).trans hx387_2; replace hx387_3 := (HB.out.cell (World.block_lt_of_cell? w _ hx387_3)).trans hx387_3; replace hx387_4 := (HB.out.cell (World.block_lt_of_cell? w _ hx387_4)).trans hx387_4; have HR387_1 := Aside0.mk hi387_1; have HC387_1 := Aside0.mk hl387_1; clear hi387_1 hl387_1; replace p387 := eq_true p387; replace q387 := eq_true q387; have p388 : 0 ≤ (x5_1 : Int) := of_decide_eq_true (by first | (with_reducible assumption) | assumption); have q388 : x5_1 < (l0.length : Int) := of_decide_eq_true (by first | (with_reducible assumption) | assumption); obtain ⟨ad388, A388_1, c388_1, e388, hx388_0, hx388_1, hx388_2, hx388_3, hx388_4, hl388_1, hi388_1⟩ := at_T28 HR0.out x5_1 p388 q388; obtain rfl : ad384 = ad388 := (by injection e388); replace hx388_0 := (HB.out.cell (World.block_lt_of_cell? w _ hx388_0)).trans hx388_0; replace hx388_1 := (HB.out.cell (World.block_lt_of_cell? w _ hx388_1)).trans hx388_1; replace hx388_2 := (HB.out.cell (World.block_lt_of_cell? w _ hx388_2)).trans hx388_2; replace hx388_3 := (HB.out.cell (World.block_lt_of_cell? w _ hx388_3)).trans hx388_3; replace hx388_4 := (HB.out.cell (World.block_lt_of_cell? w _ hx388_4)).trans hx388_4; have HR388_1 := Aside0.mk hi388_1; have HC388_1 := Aside0.mk hl388_1; clear hi388_1 hl388_1; replace p388 := eq_true p388; replace q388 := eq_true q388; have ea_ := Option.some.inj (hx387_1.symm.trans hx388_1); injection ea_ with ea_ en_ ec_; subst ea_; subst ec_; clear en_; have p389 : 0 ≤ (x5_1 : Int) := of_decide_eq_true (by first | (with_reducible assumption) | assumption); have q389 : x5_1 < (l0.length : Int) := of_decide_eq_true (by first | (with_reducible assumption) | assumption); obtain ⟨ad389, A389_1, c389_1, e389, hx389_0, hx389_1, hx389_2, hx389_3, hx389_4, hl389_1, hi389_1⟩ := at_T28 HR0.out x5_1 p389 q389; obtain rfl : ad384 = ad389 := (by injection e389); replace hx389_0 := (HB.out.cell (World.block_lt_of_cell? w _ hx389_0)).trans hx389_0; replace hx389_1 := (HB.out.cell (World.block_lt_of_cell? w _ hx389_1)).trans hx389_1; replace hx389_2 := (HB.out.cell (World.block_lt_of_cell? w _ hx389_2)).trans hx389_2; replace hx389_3 := (HB.out.cell (World.block_lt_of_cell? w _ hx389_3)).trans hx389_3; replace hx389_4 := (HB.out.cell (World.block_lt_of_cell? w _ hx389_4)).trans hx389_4; have HR389_1 := Aside0.mk hi389_1; have HC389_1 := Aside0.mk hl389_1; clear hi389_1 hl389_1; replace p389 := eq_true p389; replace q389 := eq_true q389; have ea_ := Option.some.inj (hx387_1.symm.trans hx389_1); injection ea_ with ea_ en_ ec_; subst ea_; subst ec_; clear en_))
                    go_roundg k1
                    case measure => have := HK1.out; omega
                    case rel => exact ⟨(wrap64 ((wrap64 ((wrap64 (t386 + 1)) + 1)) + 1)), (wrap64 (x5_1 + 1)), (by first | rfl | (simp; done) | (simp [*]; done)), (by first | rfl | (simp; done) | (simp [*]; done)), H', ⟨by have := HK1.out; omega⟩, ⟨by repeat (first | (with_reducible first | exact HB.out | apply below_alloc | apply pw_below_drewN | apply below_drew1) | exact HB.out)⟩⟩
                  · rw [if_neg c13] at H
                    have c13b0 : (((rd_T28 l0 x5_1).f4) == (wrap64 ((wrap64 (t386 + 1)) + 1))) = false := beq_eq_false_iff_ne.mpr c13
                    have c13b1 : (((rd_T28 l0 x5_1).f4) != (wrap64 ((wrap64 (t386 + 1)) + 1))) = true := bne_iff_ne.mpr c13
                    obtain rfl := Option.some.inj H
                    have p384 : 0 ≤ (x5_1 : Int) := of_decide_eq_true (by first | (with_reducible assumption) | assumption)
                    have q384 : x5_1 < (l0.length : Int) := of_decide_eq_true (by first | (with_reducible assumption) | assumption)
                    obtain ⟨ad384, A384_1, c384_1, e384, hx384_0, hx384_1, hx384_2, hx384_3, hx384_4, hl384_1, hi384_1⟩ := at_T28 HR0.out x5_1 p384 q384
                    cases e384
                    replace hx384_0 := (HB.out.cell (World.block_lt_of_cell? w _ hx384_0)).trans hx384_0
                    replace hx384_1 := (HB.out.cell (World.block_lt_of_cell? w _ hx384_1)).trans hx384_1
                    replace hx384_2 := (HB.out.cell (World.block_lt_of_cell? w _ hx384_2)).trans hx384_2
                    replace hx384_3 := (HB.out.cell (World.block_lt_of_cell? w _ hx384_3)).trans hx384_3
                    replace hx384_4 := (HB.out.cell (World.block_lt_of_cell? w _ hx384_4)).trans hx384_4
                    have HR384_1 := Aside0.mk hi384_1
                    have HC384_1 := Aside0.mk hl384_1
                    clear hi384_1 hl384_1
                    replace p384 := eq_true p384
                    replace q384 := eq_true q384
                    have p385 : 0 ≤ (x5_1 : Int) := of_decide_eq_true (by first | (with_reducible assumption) | assumption)
                    have q385 : x5_1 < (l0.length : Int) := of_decide_eq_true (by first | (with_reducible assumption) | assumption)
                    obtain ⟨ad385, A385_1, c385_1, e385, hx385_0, hx385_1, hx385_2, hx385_3, hx385_4, hl385_1, hi385_1⟩ := at_T28 HR0.out x5_1 p385 q385
                    obtain rfl : ad384 = ad385 := (by injection e385)
                    replace hx385_0 := (HB.out.cell (World.block_lt_of_cell? w _ hx385_0)).trans hx385_0
                    replace hx385_1 := (HB.out.cell (World.block_lt_of_cell? w _ hx385_1)).trans hx385_1
                    replace hx385_2 := (HB.out.cell (World.block_lt_of_cell? w _ hx385_2)).trans hx385_2
                    replace hx385_3 := (HB.out.cell (World.block_lt_of_cell? w _ hx385_3)).trans hx385_3
                    replace hx385_4 := (HB.out.cell (World.block_lt_of_cell? w _ hx385_4)).trans hx385_4
                    have HR385_1 := Aside0.mk hi385_1
                    have HC385_1 := Aside0.mk hl385_1
                    clear hi385_1 hl385_1
                    replace p385 := eq_true p385
                    replace q385 := eq_true q385
                    have ea_ := Option.some.inj (hx384_1.symm.trans hx385_1)
                    injection ea_ with ea_ en_ ec_
                    subst ea_
                    subst ec_
                    clear en_
                    go_wp2_with (first | ((with_reducible refine gate_callee (f := 70) rfl ?_); refine goesL_ (some 27) rfl rfl Try.func70 (by kernel_rfl) rfl #[.slice A384_1 ((rd_T28 l0 x5_1).f1).length c384_1, .int .i64 (wrap64 (x1_1 + 1))] rfl (by (try simp only [List.map_toArray, List.map_cons, List.map_nil]); first | done | rfl | (simp only [List.length_drop, List.length_take]; rfl)) ?_; (with_reducible refine (laws_heldStringS.calls k1 _ _ ((rd_T28 l0 x5_1).f1) (wrap64 (x1_1 + 1)) t386 _ ?side1 ?side2 A6.out).mono ?_); (case side1 => repeat (first | exact (Kd.C_below HR385_1.out HB.out) | (with_reducible refine Kd.C_alloc ?_ _) | (with_reducible refine Kd.C_drewN ?_ _) | (with_reducible refine Kd.C_drew ?_))); (case side2 => exact HC385_1.out); rintro e w15 ⟨rfl, hb⟩; refine ⟨_, rfl, ?_⟩; have n0_ := Aside0.mk (below_step (by repeat (first | (with_reducible first | exact HB.out | apply below_alloc | apply pw_below_drewN | apply below_drew1) | exact HB.out)) hb); clear HB; have HB := n0_; clear n0_; (try clear hb); (try clear hb2); (try clear hk); (try clear hi); have p387 : 0 ≤ (x5_1 : Int) := of_decide_eq_true (by first | (with_reducible assumption) | assumption); have q387 : x5_1 < (l0.length : Int) := of_decide_eq_true (by first | (with_reducible assumption) | assumption); obtain ⟨ad387, A387_1, c387_1, e387, hx387_0, hx387_1, hx387_2, hx387_3, hx387_4, hl387_1, hi387_1⟩ := at_T28 HR0.out x5_1 p387 q387; obtain rfl : ad384 = ad387 := (by injection e387); replace hx387_0 := (HB.out.cell (World.block_lt_of_cell? w _ hx387_0)).trans hx387_0; replace hx387_1 := (HB.out.cell (World.block_lt_of_cell? w _ hx387_1)).trans hx387_1; replace hx387_2 := (HB.out.cell (World.block_lt_of_cell? w _ hx387_2)).trans hx387_2; replace hx387_3 := (HB.out.cell (World.block_lt_of_cell? w _ hx387_3)).trans hx387_3; replace hx387_4 := (HB.out.cell (World.block_lt_of_cell? w _ hx387_4)).trans hx387_4; have HR387_1 := Aside0.mk hi387_1; have HC387_1 := Aside0.mk hl387_1; clear hi387_1 hl387_1; replace p387 := eq_true p387; replace q387 := eq_true q387; have p388 : 0 ≤ (x5_1 : Int) := of_decide_eq_true (by first | (with_reducible assumption) | assumption); have q388 : x5_1 < (l0.length : Int) := of_decide_eq_true (by first | (with_reducible assumption) | assumption); obtain ⟨ad388, A388_1, c388_1, e388, hx388_0, hx388_1, hx388_2, hx388_3, hx388_4, hl388_1, hi388_1⟩ := at_T28 HR0.out x5_1 p388 q388; obtain rfl : ad384 = ad388 := (by injection e388); replace hx388_0 := (HB.out.cell (World.block_lt_of_cell? w _ hx388_0)).trans hx388_0; replace hx388_1 := (HB.out.cell (World.block_lt_of_cell? w _ hx388_1)).trans hx388_1; replace hx388_2 := (HB.out.cell (World.block_lt_of_cell? w _ hx388_2)).trans hx388_2; replace hx388_3 := (HB.out.cell (World.block_lt_of_cell? w _ hx388_3)).trans hx388_3; replace hx388_4 := (HB.out.cell (World.block_lt_of_cell? w _ hx388_4)).trans hx388_4; have HR388_1 := Aside0.mk hi388_1; have HC388_1 := Aside0.mk hl388_1; clear hi388_1 hl388_1; replace p388 := eq_true p388; replace q388 := eq_true q388; have ea_ := Option.some.inj (hx387_1.symm.trans hx388_1); injection ea_ with ea_ en_ ec_; subst ea_; subst ec_; clear en_; have p389 : 0 ≤ (x5_1 : Int) := of_decide_eq_true (by first | (with_reducible assumption) | assumption); have q389 : x5_1 < (l0.length : Int) := of_decide_eq_true (by first | (with_reducible assumption) | assumption); obtain ⟨ad389, A389_1, c389_1, e389, hx389_0, hx389_1, hx389_2, hx389_3, hx389_4, hl389_1, hi389_1⟩ := at_T28 HR0.out x5_1 p389 q389; obtain rfl : ad384 = ad389 := (by injection e389); replace hx389_0 := (HB.out.cell (World.block_lt_of_cell? w _ hx389_0)).trans hx389_0; replace hx389_1 := (HB.out.cell (World.block_lt_of_cell? w _ hx389_1)).trans hx389_1; replace hx389_2 := (HB.out.cell (World.block_lt_of_cell? w _ hx389_2)).trans hx389_2; replace hx389_3 := (HB.out.cell (World.block_lt_of_cell? w _ hx389_3)).trans hx389_3; replace hx389_4 := (HB.out.cell (World.block_lt_of_cell? w _ hx389_4)).trans hx389_4; have HR389_1 := Aside0.mk hi389_1; have HC389_1 := Aside0.mk hl389_1; clear hi389_1 hl389_1; replace p389 := eq_true p389; replace q389 := eq_true q389; have ea_ := Option.some.inj (hx387_1.symm.trans hx389_1); injection ea_ with ea_ en_ ec_; subst ea_; subst ec_; clear en_))
                    go_ret
                    exact ⟨by first | rfl | (simp [errW_none, errW_some] <;> rfl) | (simp [*, errW_none, errW_some] <;> rfl), by repeat (first | (with_reducible first | exact HB.out | apply below_alloc | apply pw_below_drewN | apply below_drew1) | exact HB.out)⟩
          · rw [if_neg c5] at H
            have c5b0 : (((rd_T28 l0 x5_1).f0) == x1_1) = false := beq_eq_false_iff_ne.mpr c5
            have c5b1 : (((rd_T28 l0 x5_1).f0) != x1_1) = true := bne_iff_ne.mpr c5
            obtain rfl := Option.some.inj H
            have p384 : 0 ≤ (x5_1 : Int) := of_decide_eq_true (by first | (with_reducible assumption) | assumption)
            have q384 : x5_1 < (l0.length : Int) := of_decide_eq_true (by first | (with_reducible assumption) | assumption)
            obtain ⟨ad384, A384_1, c384_1, e384, hx384_0, hx384_1, hx384_2, hx384_3, hx384_4, hl384_1, hi384_1⟩ := at_T28 HR0.out x5_1 p384 q384
            cases e384
            replace hx384_0 := (HB.out.cell (World.block_lt_of_cell? w _ hx384_0)).trans hx384_0
            replace hx384_1 := (HB.out.cell (World.block_lt_of_cell? w _ hx384_1)).trans hx384_1
            replace hx384_2 := (HB.out.cell (World.block_lt_of_cell? w _ hx384_2)).trans hx384_2
            replace hx384_3 := (HB.out.cell (World.block_lt_of_cell? w _ hx384_3)).trans hx384_3
            replace hx384_4 := (HB.out.cell (World.block_lt_of_cell? w _ hx384_4)).trans hx384_4
            have HR384_1 := Aside0.mk hi384_1
            have HC384_1 := Aside0.mk hl384_1
            clear hi384_1 hl384_1
            replace p384 := eq_true p384
            replace q384 := eq_true q384
            go_wp2
            go_ret
            exact ⟨by first | rfl | (simp [errW_none, errW_some] <;> rfl) | (simp [*, errW_none, errW_some] <;> rfl), by repeat (first | (with_reducible first | exact HB.out | apply below_alloc | apply pw_below_drewN | apply below_drew1) | exact HB.out)⟩
        · rw [if_neg c4] at H
          exact absurd H (by simp)
      · rw [if_neg c3] at H
        have c3b0 : decide (x5_1 < (l0.length : Int)) = false := decide_eq_false c3
        clear c3
        obtain rfl := Option.some.inj H
        go_wp2
        go_ret
        exact ⟨by first | rfl | (simp [errW_none, errW_some] <;> rfl) | (simp [*, errW_none, errW_some] <;> rfl), by repeat (first | (with_reducible first | exact HB.out | apply below_alloc | apply pw_below_drewN | apply below_drew1) | exact HB.out)⟩
end Go.Proofs.Ytiddgglidkbipaa.Q
