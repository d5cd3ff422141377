/- A printed walk's contract told more sharply: the result's elements' rows lie apart. No condition. -/
import Derived.Test.YtbgggcgjijljkaaVFnCopiedG26
namespace Go.Proofs.Ytbgggcgjijljkaa.Q
open Go.RowKit Go.Proofs.YtbgggcgjijljkaaW.PrintWords Go.Proofs.YtbgggcgjijljkaaW.PrintLast Go.Proofs.YtbgggcgjijljkaaW.PrintMore
attribute [local go_sem] max2_int min2_int max_two min_two max_three min_three max_four min_four
set_option linter.unusedVariables false
set_option linter.unusedSimpArgs false
abbrev impl_withResX.f (k : Nat) (l0 : List (S57)) (l1_0 : List ByteArray) (a1_1 : Bool) (a1_2 : ByteArray) (a1_3 : Int) (l1_4 : List (S72)) : Option ((List (S57))) := impl_withRes.f k l0 l1_0 a1_1 a1_2 a1_3 l1_4
set_option maxHeartbeats 8000000 in
set_option maxRecDepth 100000 in
theorem impl_withResX.calls (k : Nat) (P0_ : Nat -> Prop) (A0 : Option Addr) (c0 : Nat) (l0 : List (S57)) (P1_0_ : Nat -> Prop) (A1_0 : Option Addr) (c1_0 : Nat) (l1_0 : List ByteArray) (a1_1 : Bool) (a1_2 : ByteArray) (a1_3 : Int) (P1_4_ : Nat -> Prop) (A1_4 : Option Addr) (c1_4 : Nat) (l1_4 : List (S72)) (r : List (S57)) (w0 w : World) (hB0 : Below w0.heap.size w0 w) (ho0 : Kd.S k57 57 w w0.heap.size P0_ (.slice A0 l0.length c0) l0) (ho1_0 : Kd.R Kd.string 9 w w0.heap.size P1_0_ (.slice A1_0 l1_0.length c1_0) l1_0) (ho1_4 : Kd.R k72 72 w w0.heap.size P1_4_ (.slice A1_4 l1_4.length c1_4) l1_4) (hap : ∀ k_, P0_ k_ -> ¬ (P1_0_ k_ \/ P1_4_ k_)) (h : impl_withResX.f k l0 l1_0 a1_1 a1_2 a1_3 l1_4 = some r) :
 Calls Try.prog 76 #[.slice A0 l0.length c0, .agg #[.slice A1_0 l1_0.length c1_0, .bool a1_1, .string a1_2, .int .i64 a1_3, .slice A1_4 l1_4.length c1_4]] w fun e w' => ∃ v0_ : Value, e = .returned (v0_) /\ Kd.S k57 57 w' w0.heap.size (fun k_ => ((P0_ k_ \/ P1_0_ k_ \/ P1_4_ k_) \/ w.heap.size <= k_)) v0_ r /\ Below w.heap.size w w' := by
 have hu57 := Try.underlying57
 have hs0 : Kd.V k57 57 w w.heap.size (fun k_ => P0_ k_) (.slice A0 l0.length c0) l0 := Kd.V_mk (Kd.S_reads' ho0).2.1 (Kd.S_F ho0)
 have hs1_0 : Kd.V Kd.string 9 w w.heap.size (fun k_ => P1_0_ k_) (.slice A1_0 l1_0.length c1_0) l1_0 := Kd.V_mk (Kd.R_reads' ho1_0).2.1 (Kd.R_F ho1_0)
 have hs1_4 : Kd.V k72 72 w w.heap.size (fun k_ => P1_4_ k_) (.slice A1_4 l1_4.length c1_4) l1_4 := Kd.V_mk (Kd.R_reads' ho1_4).2.1 (Kd.R_F ho1_4)
 obtain ⟨f_, okM_, HLT, HMX, HZ⟩ : ∃ (f_ : Nat -> Nat) (okM_ : Nat -> Prop), Aside0 ((∀ k_, okM_ k_ -> k_ < w.heap.size) /\ (∀ k_, okM_ k_ -> P0_ k_ \/ P1_0_ k_ \/ P1_4_ k_)) /\ Aside0 ((Kd.tag f_ k57).M w w0.heap.size okM_ ((⟨l1_0, a1_1, a1_2, a1_3, l1_4⟩ : S57), l0.length) [.slice A1_0 l1_0.length c1_0, .bool a1_1, .string a1_2, .int .i64 a1_3, .slice A1_4 l1_4.length c1_4]) /\ Aside0 (∀ W, Below w.heap.size w W -> Kd.F (SR.fixT f_ w w0.heap.size okM_ k57) W (fun k_ => P0_ k_ /\ k_ < w.heap.size) A0 l0.length l0.zipIdx) := by
  obtain ⟨f_, hf_⟩ := Kd.S_mono (ok' := fun k_ => P0_ k_ /\ k_ < w.heap.size) (Kd.S_bound ho0) (fun _ h_ => ⟨h_.1, h_.2.2.1⟩)
  refine ⟨fun k_ => open Classical in if P1_0_ k_ \/ P1_4_ k_ then l0.length else f_ k_, fun k_ => (P0_ k_ \/ P1_0_ k_ \/ P1_4_ k_) /\ k_ < w.heap.size, ⟨fun _ h_ => h_.2, fun _ h_ => h_.1⟩, ⟨?_⟩, ⟨fun W hb_ => Kd.F_below (SR.F_fix (Kd.R_tag hf_ (fun k_ h_ _ => if_neg (hap k_ h_.1))) (fun k_ h_ _ => ⟨.inl h_.1, h_.2⟩) (fun k_ h_ => h_.2)) hb_⟩⟩
  refine k57.M_mono (ok := fun k_ => (P1_0_ k_ \/ P1_4_ k_) /\ k_ < w.heap.size) (fun k_ h_ => ⟨⟨Or.inr h_.1, h_.2⟩, if_pos h_.1⟩) (k57_mkM _ _ _ (⟨l1_0, a1_1, a1_2, a1_3, l1_4⟩ : S57) (Kd.R_mono (Kd.R_bound ho1_0) (fun _ h_ => ⟨.inl h_.1, h_.2.2.1⟩)) (Kd.R_mono (Kd.R_bound ho1_4) (fun _ h_ => ⟨.inr h_.1, h_.2.2.1⟩)))
 have HO0 := A_ (show Kd.V k57 57 w w.heap.size (fun k_ => ((P0_ k_ \/ P1_0_ k_ \/ P1_4_ k_) \/ w.heap.size <= k_)) (.slice A0 l0.length c0) l0 from Kd.V_mono hs0 (fun k_ hk => .inl (.inl hk)))
 have HO1_0 := A_ (show Kd.V Kd.string 9 w w.heap.size (fun k_ => ((P0_ k_ \/ P1_0_ k_ \/ P1_4_ k_) \/ w.heap.size <= k_)) (.slice A1_0 l1_0.length c1_0) l1_0 from Kd.V_mono hs1_0 (fun k_ hk => .inl (.inr (.inl hk))))
 have HO1_4 := A_ (show Kd.V k72 72 w w.heap.size (fun k_ => ((P0_ k_ \/ P1_0_ k_ \/ P1_4_ k_) \/ w.heap.size <= k_)) (.slice A1_4 l1_4.length c1_4) l1_4 from Kd.V_mono hs1_4 (fun k_ hk => .inl (.inr (.inr hk))))
 have HB := A_ (Below.refl w.heap.size w)
 have H : (impl_withRes.l0 k l0 0 l1_0 a1_1 a1_2 a1_3 l1_4) = some r := h
 clear h
 have H' := A_ H
 clear H
 go_enter Try.func76, Try.ntmps76
 go_wp2_with (first | ((with_reducible refine gd_ (N := 3) rfl ?_); refine bx_ (N := 3) (cs := #[.slice A1_0 l1_0.length c1_0, .bool a1_1, .string a1_2, .int .i64 a1_3, .slice A1_4 l1_4.length c1_4]) (t := 57) ?_; intro gb45 hg w3 hbox hb; replace HO0 := A_ (Kd.V_below (Kd.V_elderB (vV_ HO0.out) gb45 (Nat.le_of_eq hg.symm)) hb); replace HO1_0 := A_ (Kd.V_below (Kd.V_elderB (vV_ HO1_0.out) gb45 (Nat.le_of_eq hg.symm)) hb); replace HO1_4 := A_ (Kd.V_below (Kd.V_elderB (vV_ HO1_4.out) gb45 (Nat.le_of_eq hg.symm)) hb); have BK45 := A_ (hbox); have GW45 := A_ (ge_ hg bB_ : w.heap.size <= gb45); have GE45 := A_ (ge_ hg bB_ : w.heap.size <= gb45); replace HB := A_ (below_step bB_ hb); clear hb hbox hg))
 go_loopg [5] k (fun kq v5 w' => ∃ (x5_1 : Int), v5 = .int .i64 x5_1 /\ Aside0 (impl_withRes.l0 kq l0 x5_1 l1_0 a1_1 a1_2 a1_3 l1_4 = some r) /\ Aside0 (kq <= k) /\ Aside0 (Kd.V k57 57 w' w.heap.size (fun k_ => ((P0_ k_ \/ P1_0_ k_ \/ P1_4_ k_) \/ w.heap.size <= k_) /\ k_ ≠ gb45) (.slice A0 l0.length c0) l0) /\ Aside0 (Kd.V Kd.string 9 w' w.heap.size (fun k_ => ((P0_ k_ \/ P1_0_ k_ \/ P1_4_ k_) \/ w.heap.size <= k_) /\ k_ ≠ gb45) (.slice A1_0 l1_0.length c1_0) l1_0) /\ Aside0 (Kd.V k72 72 w' w.heap.size (fun k_ => ((P0_ k_ \/ P1_0_ k_ \/ P1_4_ k_) \/ w.heap.size <= k_) /\ k_ ≠ gb45) (.slice A1_4 l1_4.length c1_4) l1_4) /\ Aside0 (w'.heap[gb45]? = some (.cells #[(.slice A1_0 l1_0.length c1_0), .bool a1_1, .string a1_2, .int .i64 a1_3, (.slice A1_4 l1_4.length c1_4)] 57 (0, 0))) /\ Aside0 (Below w.heap.size w w'))
 case atStart => exact ⟨(0), rs_, H', ⟨Nat.le_refl _⟩, ⟨vV_ HO0.out⟩, ⟨vV_ HO1_0.out⟩, ⟨vV_ HO1_4.out⟩, ⟨vb_ BK45.out⟩, ⟨bG_ GE45.out⟩⟩
 case round =>
  clear H'
  try clear c1
  try clear p2
  obtain ⟨x5_1, rfl, HA, HK1, HO_0, HO_521000, HO_521004, BK45, HB⟩ := hrel
  cases gk with
  | zero => exact absurd HA.out (by simp [impl_withRes.l0])
  | succ k1 =>
   have H := HA.out
   clear HA
   simp only [impl_withRes.l0] at H
   by_cases c4 : x5_1 < (l0.length : Int)
   rotate_left
   . rw [if_neg c4] at H
     have c4b0 := decide_eq_false c4
     clear c4
     by_cases c27 : 0 <= x5_1
     rotate_left
     . exact absurd H (by rw [if_neg c27]; simp)
     rw [if_pos c27] at H
     have c27b0 := eq_true c27
     have c27b1 := decide_eq_true c27
     clear c27
     by_cases c28 : x5_1 <= (l0.length : Int)
     rotate_left
     . exact absurd H (by rw [if_neg c28]; simp)
     rw [if_pos c28] at H
     have c28b0 := eq_true c28
     have c28b1 := decide_eq_true c28
     clear c28
     obtain ⟨y49, hy49⟩ : ∃ y_ : List (S57), y_ = (l0.take (x5_1 : Int).toNat) := ⟨_, rfl⟩
     replace H : (if ([] : List (S57)).length + y49.length < 1759218604441 then ((some (([] : List (S57)) ++ y49 : List (S57))).bind fun y62 => ((some (([(⟨l1_0, a1_1, a1_2, a1_3, l1_4⟩ : S57)] : List (S57)) : List (S57))).bind fun y60 => (if y62.length + y60.length < 1759218604441 then ((some (y62 ++ y60 : List (S57))).bind fun y50 => ((some (l0.drop (x5_1 : Int).toNat : List (S57))).bind fun y47 => (if y50.length + y47.length < 1759218604441 then (some (y50 ++ y47)) else (none)))) else (none)))) else (none)) = some r := hy_ hy49 H
     have Ny49 := A_ hy49
     obtain ⟨z545, Nz545⟩ : ∃ z_ : List (S57 × Nat), Aside0 (z_ = l0.zipIdx.take (x5_1 : Int).toNat) := ⟨_, ⟨rfl⟩⟩
     have Lz545 : Aside0 (z545.length = y49.length) := ⟨by rw [Nz545.out, Ny49.out]; simp⟩
     clear hy49
     by_cases c29 : ([] : List (S57)).length + y49.length < 1759218604441
     rotate_left
     . exact absurd H (by rw [if_neg c29]; simp)
     rw [if_pos c29] at H
     have LMc29 := A_ c29
     clear c29
     obtain ⟨y62, hy62⟩ : ∃ y_ : List (S57), y_ = (([] : List (S57)) ++ y49) := ⟨_, rfl⟩
     replace H : ((some (([(⟨l1_0, a1_1, a1_2, a1_3, l1_4⟩ : S57)] : List (S57)) : List (S57))).bind fun y60 => (if y62.length + y60.length < 1759218604441 then ((some (y62 ++ y60 : List (S57))).bind fun y50 => ((some (l0.drop (x5_1 : Int).toNat : List (S57))).bind fun y47 => (if y50.length + y47.length < 1759218604441 then (some (y50 ++ y47)) else (none)))) else (none))) = some r := hy_ hy62 H
     have Ny62 := A_ hy62
     obtain ⟨z550, Nz550⟩ : ∃ z_ : List (S57 × Nat), Aside0 (z_ = ([] : List (S57 × Nat)) ++ z545) := ⟨_, ⟨rfl⟩⟩
     have Lz550 : Aside0 (z550.length = y62.length) := ⟨by have h545_ := Lz545.out; rw [Nz550.out, Ny62.out]; simp only [List.length_append, List.length_nil]; omega⟩
     clear hy62
     obtain ⟨y60, hy60⟩ : ∃ y_ : List (S57), y_ = (([(⟨l1_0, a1_1, a1_2, a1_3, l1_4⟩ : S57)] : List (S57))) := ⟨_, rfl⟩
     replace H : (if y62.length + y60.length < 1759218604441 then ((some (y62 ++ y60 : List (S57))).bind fun y50 => ((some (l0.drop (x5_1 : Int).toNat : List (S57))).bind fun y47 => (if y50.length + y47.length < 1759218604441 then (some (y50 ++ y47)) else (none)))) else (none)) = some r := hy_ hy60 H
     have Ny60 := A_ hy60
     obtain ⟨z553, Nz553⟩ : ∃ z_ : List (S57 × Nat), Aside0 (z_ = [((⟨l1_0, a1_1, a1_2, a1_3, l1_4⟩ : S57), l0.length)]) := ⟨_, ⟨rfl⟩⟩
     have Lz553 : Aside0 (z553.length = y60.length) := ⟨by rw [Nz553.out, Ny60.out]; simp⟩
     clear hy60
     by_cases c30 : y62.length + y60.length < 1759218604441
     rotate_left
     . exact absurd H (by rw [if_neg c30]; simp)
     rw [if_pos c30] at H
     have LMc30 := A_ c30
     clear c30
     obtain ⟨y50, hy50⟩ : ∃ y_ : List (S57), y_ = (y62 ++ y60) := ⟨_, rfl⟩
     replace H : ((some (l0.drop (x5_1 : Int).toNat : List (S57))).bind fun y47 => (if y50.length + y47.length < 1759218604441 then (some (y50 ++ y47)) else (none))) = some r := hy_ hy50 H
     have Ny50 := A_ hy50
     obtain ⟨z556, Nz556⟩ : ∃ z_ : List (S57 × Nat), Aside0 (z_ = z550 ++ z553) := ⟨_, ⟨rfl⟩⟩
     have Lz556 : Aside0 (z556.length = y50.length) := ⟨by have h550_ := Lz550.out; have h553_ := Lz553.out; rw [Nz556.out, Ny50.out]; simp only [List.length_append, List.length_nil]; omega⟩
     clear hy50
     have c31b0 := eq_true (od_ : 0 <= x5_1)
     have c32b0 := eq_true (od_ : x5_1 <= (l0.length : Int))
     obtain ⟨y47, hy47⟩ : ∃ y_ : List (S57), y_ = (l0.drop (x5_1 : Int).toNat) := ⟨_, rfl⟩
     replace H : (if y50.length + y47.length < 1759218604441 then (some (y50 ++ y47)) else (none)) = some r := hy_ hy47 H
     have Ny47 := A_ hy47
     obtain ⟨z559, Nz559⟩ : ∃ z_ : List (S57 × Nat), Aside0 (z_ = l0.zipIdx.drop (x5_1 : Int).toNat) := ⟨_, ⟨rfl⟩⟩
     have Lz559 : Aside0 (z559.length = y47.length) := ⟨by rw [Nz559.out, Ny47.out]; simp⟩
     clear hy47
     by_cases c33 : y50.length + y47.length < 1759218604441
     rotate_left
     . exact absurd H (by rw [if_neg c33]; simp)
     rw [if_pos c33] at H
     have LMc33 := A_ c33
     clear c33
     obtain ⟨y71, hy71⟩ : ∃ y_ : List (S57), y_ = (y50 ++ y47) := ⟨_, rfl⟩
     replace H : (some y71) = some r := hy_ hy71 H
     have Ny71 := A_ hy71
     obtain ⟨z564, Nz564⟩ : ∃ z_ : List (S57 × Nat), Aside0 (z_ = z556 ++ z559) := ⟨_, ⟨rfl⟩⟩
     have Lz564 : Aside0 (z564.length = y71.length) := ⟨by have h556_ := Lz556.out; have h559_ := Lz559.out; rw [Nz564.out, Ny71.out]; simp only [List.length_append, List.length_nil]; omega⟩
     clear hy71
     obtain rfl := si_ H
     try go_wp2
     replace HO_0 := A_ (Kd.V_drew HO_0.out)
     replace HO_521000 := A_ (Kd.V_drew HO_521000.out)
     replace HO_521004 := A_ (Kd.V_drew HO_521004.out)
     replace BK45 := A_ (blk_drew BK45.out)
     replace HB := A_ (below_drew1 HB.out)
     refine start_ (n := 14) (S := fun w' => True) (ds := []) #[false, false, false, false, false, false, false, false, false, false, false, false, false, false] (by kernel_rfl) rfl rfl trivial (fun hHeld => ?_); refine with_tabW impl_withRes.tab2 impl_withRes.bits2 (fun HT_ HW_ => ?_)
     generalize wr.drew = w34 at HO_0 HO_521000 HO_521004 BK45 HB hHeld ⊢
     refine pu_ (i := 0) (N := some 6) ?_
     refine pu_ (i := 1) (N := some 7) ?_
     refine pu_ (i := 2) (N := some 8) ?_
     refine pu_ (i := 3) (N := some 9) ?_
     refine pu_ (i := 4) (N := some 10) ?_
     refine pn_ (i := 5) (N := some 11) ?_
     refine pn_ (i := 6) (N := some 12) ?_
     refine pn_ (i := 7) (N := some 13) ?_
     refine pn_ (i := 8) (N := some 14) ?_
     refine pn_ (i := 9) (N := some 15) ?_
     refine pn_ (i := 10) (N := some 16) ?_
     refine pn_ (i := 11) (N := some 17) ?_
     refine pn_ (i := 12) (N := some 18) ?_
     refine pu_ (i := 13) (N := some 19) ?_
     refine done_ (done_of HT_.out (by kernel_rfl)) ?_
     (try clear hHeld)
     try go_wp2
     replace HO_0 := A_ (Kd.V_drew HO_0.out)
     replace HO_521000 := A_ (Kd.V_drew HO_521000.out)
     replace HO_521004 := A_ (Kd.V_drew HO_521004.out)
     replace BK45 := A_ (blk_drew BK45.out)
     replace HB := A_ (below_drew1 HB.out)
     have q36 : (x5_1 : Int) <= ((l0.length : Int) : Int) := od_
     obtain ⟨i036, hi78, _, hsz36, _⟩ := info_parts info57
     have hroom36 : l0.length <= c0 := (Kd.V_reads' HO_0.out).2.1
     have hC36 : Kd.F k57 _ _ A0 l0.length l0 := (Kd.V_at (base := w.heap.size) HO_0.out).2.2
     have hcut36 := cut_to (P := Try.prog) 26 57 .i64 Try.underlying26 hi78 A0 l0.length c0 x5_1 od_ q36 hroom36
     have hr36 := Kd.F_take (m := (x5_1 : Int).toNat) hC36 (by omega)
     have hy36 : y49.length = (x5_1 : Int).toNat := (by rw [Ny49.out, List.length_take]; omega)
     rw [← Ny49.out] at hr36
     rw [← hy36] at hcut36
     have HO55 := A_ (show Kd.V k57 57 _ w.heap.size _ (.slice A0 y49.length c0) y49 from Kd.V_mk (by omega) hr36)
     have HZ545 : Aside0 (∀ W, Below w.heap.size w W -> Kd.F (SR.fixT f_ w w0.heap.size okM_ k57) W (fun k_ => P0_ k_ /\ k_ < w.heap.size) A0 y49.length z545) := ⟨fun W hb_ => by have h0_ := HZ.out W hb_; rw [show l0.length = l0.zipIdx.length from (List.length_zipIdx).symm] at h0_; have h_ := Kd.F_take (m := (x5_1 : Int).toNat) h0_ (by rw [List.length_zipIdx]; omega); rw [← Nz545.out, Lz545.out] at h_; exact h_⟩
     have HC55 := A_ (show y49.length <= c0 from by omega)
     clear hr36 hC36 hroom36 hi78 hsz36
     have KY36 := A_ hy36
     clear hy36
     replace q36 := eq_true q36
     have q37 : (x5_1 : Int) <= ((l0.length : Int) : Int) := od_
     obtain ⟨i037, hi74, _, hsz37, _⟩ := info_parts info57
     have hroom37 : l0.length <= c0 := (Kd.V_reads' HO_0.out).2.1
     have hC37 : Kd.F k57 _ _ A0 l0.length l0 := (Kd.V_at (base := w.heap.size) HO_0.out).2.2
     have q74 : (0 : Int) <= (x5_1 : Int) := od_
     have hcut37 := cut_from (P := Try.prog) 26 57 .i64 Try.underlying26 hi74 5 hsz37 A0 l0.length c0 x5_1 q74 q37
     have hr37 := Kd.F_cut (m := (x5_1 : Int).toNat) (c := c0) hC37 (by omega) hroom37
     obtain ⟨A37, hA37⟩ : ∃ A1, A1 = (if c0 = (x5_1 : Int).toNat then A0 else (A0 : Option Addr).map (·.add ((x5_1 : Int).toNat * 5))) := ⟨_, rfl⟩
     obtain ⟨c37, hc37⟩ : ∃ c1, c1 = c0 - (x5_1 : Int).toNat := ⟨_, rfl⟩
     have hy37 : y47.length = l0.length - (x5_1 : Int).toNat := (by rw [Ny47.out, List.length_drop] <;> omega)
     rw [show (l0).drop (x5_1 : Int).toNat = y47 from Ny47.out.symm] at hr37
     replace hr37 : Kd.F k57 _ _ A37 y47.length y47 := (by rw [hA37]; exact hr37)
     rw [← hy37, ← hA37, ← hc37] at hcut37
     have HO56 := A_ (show Kd.V k57 57 _ w.heap.size _ (.slice A37 y47.length c37) y47 from Kd.V_mk (by rw [hy37, hc37]; exact Nat.sub_le_sub_right hroom37 _) hr37)
     have HZ559 : Aside0 (∀ W, Below w.heap.size w W -> Kd.F (SR.fixT f_ w w0.heap.size okM_ k57) W (fun k_ => P0_ k_ /\ k_ < w.heap.size) A37 y47.length z559) := ⟨fun W hb_ => by have h0_ := HZ.out W hb_; rw [show l0.length = l0.zipIdx.length from (List.length_zipIdx).symm] at h0_; have h_ := Kd.F_cut (m := (x5_1 : Int).toNat) (c := c0) h0_ (by rw [List.length_zipIdx]; omega) (by rw [List.length_zipIdx]; exact hroom37); rw [← Nz559.out, Lz559.out] at h_; rw [hA37]; exact h_⟩
     have HC56 := A_ (show y47.length <= c37 from by rw [hy37, hc37]; exact Nat.sub_le_sub_right hroom37 _)
     clear hr37 hC37 hroom37 hi74 hsz37 hc37
     have KY37 := A_ hy37
     have KA37 := A_ hA37
     clear hy37 hA37
     replace q37 := eq_true q37
     refine st5_ (n := 12) (ds := []) (bl_ BK45.out 0) (bl_ BK45.out 1) (bl_ BK45.out 2) (bl_ BK45.out 3) (bl_ BK45.out 4) (fun hHeld => ?_); refine with_tabW impl_withRes.tab4 impl_withRes.bits4 (fun HT_ HW_ => ?_)
     generalize w34.drew = w35 at HO_0 HO_521000 HO_521004 BK45 HB HO55 HO56 hHeld ⊢
     refine pu_ (i := 0) (N := some 22) ?_
     refine pu_ (i := 1) (N := some 23) ?_
     refine pu_ (i := 2) (N := some 24) ?_
     refine pu_ (i := 7) (N := some 29) ?_
     refine pu_ (i := 8) (N := some 30) ?_
     refine pu_ (i := 9) (N := some 31) ?_
     refine tk_ (i := 4) (N := some 26) hHeld ?_
     refine join_ (σ := Value × Value) 3 #[true, true, true, true, true, true, false, true, true, true, false, false] (fun s_ => [(25, s_.1), (27, s_.2)]) (fun s_ w' => (w'.cell? ⟨gb45, 0, none⟩ = some (.slice A1_0 l1_0.length c1_0) /\ w'.cell? ⟨gb45, 1, none⟩ = some (.bool a1_1) /\ w'.cell? ⟨gb45, 2, none⟩ = some (.string a1_2) /\ w'.cell? ⟨gb45, 3, none⟩ = some (.int .i64 a1_3) /\ w'.cell? ⟨gb45, 4, none⟩ = some (.slice A1_4 l1_4.length c1_4)) /\ (Kd.V k57 57 w' w.heap.size (fun k_ => ((P0_ k_ \/ P1_0_ k_ \/ P1_4_ k_) \/ w.heap.size <= k_) /\ some k_ ≠ (s_.1 : Value).ownBlock /\ some k_ ≠ (s_.2 : Value).ownBlock /\ k_ ≠ gb45) (.slice A0 y49.length c0) y49) /\ (Kd.N (SR.fixT f_ w w0.heap.size okM_ k57) 57 w' w.heap.size (fun k_ => ((P0_ k_ \/ P1_0_ k_ \/ P1_4_ k_) \/ w.heap.size <= k_) /\ some k_ ≠ (s_.2 : Value).ownBlock /\ k_ ≠ gb45) s_.1 z550) /\ (Kd.N (SR.fixT f_ w w0.heap.size okM_ k57) 57 w' w.heap.size (fun k_ => ((P0_ k_ \/ P1_0_ k_ \/ P1_4_ k_) \/ w.heap.size <= k_) /\ some k_ ≠ (s_.1 : Value).ownBlock /\ k_ ≠ gb45) s_.2 z553) /\ (Kd.V k57 57 w' w.heap.size (fun k_ => ((P0_ k_ \/ P1_0_ k_ \/ P1_4_ k_) \/ w.heap.size <= k_) /\ some k_ ≠ (s_.1 : Value).ownBlock /\ some k_ ≠ (s_.2 : Value).ownBlock /\ k_ ≠ gb45) (.slice A37 y47.length c37) y47) /\ (Kd.V k57 57 w' w.heap.size (fun k_ => ((P0_ k_ \/ P1_0_ k_ \/ P1_4_ k_) \/ w.heap.size <= k_) /\ some k_ ≠ (s_.1 : Value).ownBlock /\ some k_ ≠ (s_.2 : Value).ownBlock /\ k_ ≠ gb45) (.slice A0 l0.length c0) l0) /\ (Kd.V Kd.string 9 w' w.heap.size (fun k_ => ((P0_ k_ \/ P1_0_ k_ \/ P1_4_ k_) \/ w.heap.size <= k_) /\ some k_ ≠ (s_.1 : Value).ownBlock /\ some k_ ≠ (s_.2 : Value).ownBlock /\ k_ ≠ gb45) (.slice A1_0 l1_0.length c1_0) l1_0) /\ (Kd.V k72 72 w' w.heap.size (fun k_ => ((P0_ k_ \/ P1_0_ k_ \/ P1_4_ k_) \/ w.heap.size <= k_) /\ some k_ ≠ (s_.1 : Value).ownBlock /\ some k_ ≠ (s_.2 : Value).ownBlock /\ k_ ≠ gb45) (.slice A1_4 l1_4.length c1_4) l1_4) /\ (w'.heap[gb45]? = some (.cells #[.slice A1_0 l1_0.length c1_0, .bool a1_1, .string a1_2, .int .i64 a1_3, .slice A1_4 l1_4.length c1_4] 57 (0, 0))) /\ (Below w.heap.size w w')) ?_ ?_
     rotate_left
     . intro hCont
       refine two_ (i := 3) (j := 5) (Ni := some 25) (Nj := some 27) #[true, true, true, true, true, false, false, true, true, true, false, false] #[true, true, true, false, true, true, false, true, true, true, false, false] rfl rfl rfl rfl (two_of HT_.out (by kernel_rfl)) (by decide) (by decide) (fun K hK => ?_) (fun K hK => ?_)
       . skip
         refine Kd.N_append_rows_step (SR.fixT f_ w w0.heap.size okM_ k57) (w0 := w) w.heap.size rfl (.const (.slice none 0 0)) (.tmp 24) 26 57 (.agg #[(.slice none 0 0), (.bool false), (.string ⟨#[]⟩), (.int .i64 0), (.slice none 0 0)]) 80 rfl Try.underlying26 info57 rfl (show 0 < k57.sz by decide) (by omega) (.slice none 0 0) ([] : List (S57 × Nat)) z545 _ _ _ (fun k_ => ((P0_ k_ \/ P1_0_ k_ \/ P1_4_ k_) \/ w.heap.size <= k_) /\ k_ ≠ gb45) (fun k_ => ((fun k_ => ((P0_ k_ \/ P1_0_ k_ \/ P1_4_ k_) \/ w.heap.size <= k_) /\ k_ ≠ gb45)) k_ /\ some k_ ≠ (.slice none 0 0 : Value).ownBlock) rfl rfl ?aO ?aR (fun _ hk => hk) ?aF ?aB ?aS ?aL ?_
         (case aR => exact Kd.F_mono (HZ545.out _ bB_) (fun k_ hk => ⟨⟨.inl (.inl hk.1), (fun e_ => by have := GE45.out; have := hk.2; omega)⟩, (by simp [Value.ownBlock])⟩))
         (case aB => exact (bG_ GE45.out))
         (case aF => exact (fun k_ hk => ⟨(.inr (Nat.le_trans (below_size (bG_ GE45.out)) hk)), Kd.freshB (g := gb45) (o := .cells #[.slice A1_0 l1_0.length c1_0, .bool a1_1, .string a1_2, .int .i64 a1_3, .slice A1_4 l1_4.length c1_4] 57 (0, 0)) (vb_ BK45.out) k_ hk⟩))
         (case aO => exact ((Kd.N_nil _ _ _ _ (fun k_ => ((P0_ k_ \/ P1_0_ k_ \/ P1_4_ k_) \/ w.heap.size <= k_) /\ k_ ≠ gb45))))
         (case aS => exact (below_size (bG_ GE45.out)))
         (case aL => have := LMc29.out; have h545_ := Lz545.out; simp only [List.length_nil] at *; omega)
         intro v54 w38 ho hb hg hat
         rw [← Nz550.out] at ho
         replace HO_0 := A_ (Kd.V_afterv (Kd.V_apart_nil (vV_ HO_0.out)) hg hat)
         replace HO_521000 := A_ (Kd.V_afterv (Kd.V_apart_nil (vV_ HO_521000.out)) hg hat)
         replace HO_521004 := A_ (Kd.V_afterv (Kd.V_apart_nil (vV_ HO_521004.out)) hg hat)
         replace BK45 := A_ (blk_grown (g := gb45) (o := .cells #[.slice A1_0 l1_0.length c1_0, .bool a1_1, .string a1_2, .int .i64 a1_3, .slice A1_4 l1_4.length c1_4] 57 (0, 0)) (vb_ BK45.out) hg (by simp [Value.ownBlock]))
         replace HO55 := A_ (Kd.V_afterv (Kd.V_apart_nil (vV_ HO55.out)) hg hat)
         replace HO56 := A_ (Kd.V_afterv (Kd.V_apart_nil (vV_ HO56.out)) hg hat)
         replace HB := A_ (hb)
         have HO69 := A_ (ho)
         clear ho hb hg hat
         refine hK.out _ _ (hl_ BK45.out) (fun hHeld => ?_)
         clear hK K
         refine no_ (some 25) ?_
         refine on_ (i := 5) (N := some 27) (fun K hK => ?_)
         refine Kd.N_lit_step (SR.fixT f_ w w0.heap.size okM_ k57) _ 57 ?hg (N' := 27) ?hd (xs := [((⟨l1_0, a1_1, a1_2, a1_3, l1_4⟩ : S57), l0.length)]) (inner := [.slice A1_0 l1_0.length c1_0, .bool a1_1, .string a1_2, .int .i64 a1_3, .slice A1_4 l1_4.length c1_4]) (ok := (fun k_ => ((P0_ k_ \/ P1_0_ k_ \/ P1_4_ k_) \/ w.heap.size <= k_) /\ some k_ ≠ (v54 : Value).ownBlock /\ k_ ≠ gb45)) (okp := (fun k_ => ((P0_ k_ \/ P1_0_ k_ \/ P1_4_ k_) \/ w.heap.size <= k_) /\ some k_ ≠ (v54 : Value).ownBlock /\ k_ ≠ gb45)) ?hr ?hp (fun _ hk => hk) ((show ∀ k_, w38.heap.size <= k_ -> (fun k_ => ((P0_ k_ \/ P1_0_ k_ \/ P1_4_ k_) \/ w.heap.size <= k_) /\ some k_ ≠ (v54 : Value).ownBlock /\ k_ ≠ gb45) k_ from fun k_ hk => ⟨(.inr (Nat.le_trans (below_size (bG_ GE45.out)) hk)), Kd.fresh' (Kd.N_lt (vN_ HO69.out)) k_ hk, Kd.freshB (g := gb45) (o := .cells #[.slice A1_0 l1_0.length c1_0, .bool a1_1, .string a1_2, .int .i64 a1_3, .slice A1_4 l1_4.length c1_4] 57 (0, 0)) (vb_ BK45.out) k_ hk⟩) _ (Nat.le_refl _)) (Below.refl _ _) (Nat.le_refl _) (by simp) ?_; (case hd => rfl); (case hg => rfl); (case hr => first | (go_simp; done) | (go_simp; rfl)); (case hp => exact (Reps.c5 (show Kd.FK (SR.fixT f_ w w0.heap.size okM_ k57) _ _ ((⟨l1_0, a1_1, a1_2, a1_3, l1_4⟩ : S57), l0.length) [.slice A1_0 l1_0.length c1_0, .bool a1_1, .string a1_2, .int .i64 a1_3, .slice A1_4 l1_4.length c1_4] from SR.FK_fix (d := k57) (show Kd.FK k57 _ _ (⟨l1_0, a1_1, a1_2, a1_3, l1_4⟩ : S57) [.slice A1_0 l1_0.length c1_0, .bool a1_1, .string a1_2, .int .i64 a1_3, .slice A1_4 l1_4.length c1_4] from (k57_mkF _ _ (⟨l1_0, a1_1, a1_2, a1_3, l1_4⟩ : S57) (Kd.V_reads' (Kd.V_mono (ok' := (fun k_ => ((P0_ k_ \/ P1_0_ k_ \/ P1_4_ k_) \/ w.heap.size <= k_) /\ some k_ ≠ (v54 : Value).ownBlock /\ k_ ≠ gb45)) (HO_521000.out) (fun k_ hk => ⟨hk.1.1, ⟨hk.2, hk.1.2⟩⟩))).2.1 (Kd.V_F (Kd.V_mono (ok' := (fun k_ => ((P0_ k_ \/ P1_0_ k_ \/ P1_4_ k_) \/ w.heap.size <= k_) /\ some k_ ≠ (v54 : Value).ownBlock /\ k_ ≠ gb45)) (HO_521000.out) (fun k_ hk => ⟨hk.1.1, ⟨hk.2, hk.1.2⟩⟩))) (Kd.V_reads' (Kd.V_mono (ok' := (fun k_ => ((P0_ k_ \/ P1_0_ k_ \/ P1_4_ k_) \/ w.heap.size <= k_) /\ some k_ ≠ (v54 : Value).ownBlock /\ k_ ≠ gb45)) (HO_521004.out) (fun k_ hk => ⟨hk.1.1, ⟨hk.2, hk.1.2⟩⟩))).2.1 (Kd.V_F (Kd.V_mono (ok' := (fun k_ => ((P0_ k_ \/ P1_0_ k_ \/ P1_4_ k_) \/ w.heap.size <= k_) /\ some k_ ≠ (v54 : Value).ownBlock /\ k_ ≠ gb45)) (HO_521004.out) (fun k_ hk => ⟨hk.1.1, ⟨hk.2, hk.1.2⟩⟩))))) HMX.out) (Reps.none _ _)))
         intro v68 w39 ho40 hb hg_ hnew_
         clear hg_ hnew_
         (first | rw [← Nz553.out] at ho40 | (simp only [Int.reduceToNat] at ho40; rw [← Nz553.out] at ho40))
         replace HO_0 := A_ (Kd.V_elder' (vV_ HO_0.out) (kb_ ho40) hb)
         replace HO_521000 := A_ (Kd.V_elder' (vV_ HO_521000.out) (kb_ ho40) hb)
         replace HO_521004 := A_ (Kd.V_elder' (vV_ HO_521004.out) (kb_ ho40) hb)
         replace HO55 := A_ (Kd.V_elder' (vV_ HO55.out) (kb_ ho40) hb)
         replace HO56 := A_ (Kd.V_elder' (vV_ HO56.out) (kb_ ho40) hb)
         replace HO69 := A_ (Kd.N_elder' (vN_ HO69.out) (kb_ ho40) hb)
         have HO66 := A_ (Kd.N_lower ho40 (below_size (bG_ GE45.out)))
         replace BK45 := A_ (bw_ BK45.out hb)
         replace HB := A_ (below_step (bG_ GE45.out) hb)
         clear hb ho40
         refine hK.out _ _ (hl_ BK45.out) (fun hHeld => ?_)
         clear hK K
         refine no_ (some 27) ?_
         exact norm_ (by simp only [putAll, Act.put, List.setIfInBounds_toArray, List.set_cons_zero, List.set_cons_succ]) (hCont (v54, v68) _ ⟨hHeld, (by (with_reducible repeat (first | apply Kd.V_alloc | apply Kd.V_drewN | apply Kd.V_drew)); exact Kd.V_mono HO55.out (fun _ hk => ⟨hk.1.1.1, ⟨hk.1.2, ⟨hk.2, hk.1.1.2⟩⟩⟩)), (by (with_reducible repeat (first | apply Kd.N_alloc | apply Kd.N_drewN | apply Kd.N_drew)); exact Kd.N_mono HO69.out (fun _ hk => ⟨hk.1.1, ⟨hk.2, hk.1.2⟩⟩)), (vN_ HO66.out), (by (with_reducible repeat (first | apply Kd.V_alloc | apply Kd.V_drewN | apply Kd.V_drew)); exact Kd.V_mono HO56.out (fun _ hk => ⟨hk.1.1.1, ⟨hk.1.2, ⟨hk.2, hk.1.1.2⟩⟩⟩)), (by (with_reducible repeat (first | apply Kd.V_alloc | apply Kd.V_drewN | apply Kd.V_drew)); exact Kd.V_mono HO_0.out (fun _ hk => ⟨hk.1.1.1, ⟨hk.1.2, ⟨hk.2, hk.1.1.2⟩⟩⟩)), (by (with_reducible repeat (first | apply Kd.V_alloc | apply Kd.V_drewN | apply Kd.V_drew)); exact Kd.V_mono HO_521000.out (fun _ hk => ⟨hk.1.1.1, ⟨hk.1.2, ⟨hk.2, hk.1.1.2⟩⟩⟩)), (by (with_reducible repeat (first | apply Kd.V_alloc | apply Kd.V_drewN | apply Kd.V_drew)); exact Kd.V_mono HO_521004.out (fun _ hk => ⟨hk.1.1.1, ⟨hk.1.2, ⟨hk.2, hk.1.1.2⟩⟩⟩)), (vb_ BK45.out), (bG_ GE45.out)⟩)
       . skip
         refine Kd.N_lit_step (SR.fixT f_ w w0.heap.size okM_ k57) _ 57 ?hg (N' := 27) ?hd (xs := [((⟨l1_0, a1_1, a1_2, a1_3, l1_4⟩ : S57), l0.length)]) (inner := [.slice A1_0 l1_0.length c1_0, .bool a1_1, .string a1_2, .int .i64 a1_3, .slice A1_4 l1_4.length c1_4]) (ok := (fun k_ => ((P0_ k_ \/ P1_0_ k_ \/ P1_4_ k_) \/ w.heap.size <= k_) /\ k_ ≠ gb45)) (okp := (fun k_ => ((P0_ k_ \/ P1_0_ k_ \/ P1_4_ k_) \/ w.heap.size <= k_) /\ k_ ≠ gb45)) ?hr ?hp (fun _ hk => hk) ((show ∀ k_, w35.heap.size <= k_ -> (fun k_ => ((P0_ k_ \/ P1_0_ k_ \/ P1_4_ k_) \/ w.heap.size <= k_) /\ k_ ≠ gb45) k_ from fun k_ hk => ⟨(.inr (Nat.le_trans (below_size (bG_ GE45.out)) hk)), Kd.freshB (g := gb45) (o := .cells #[.slice A1_0 l1_0.length c1_0, .bool a1_1, .string a1_2, .int .i64 a1_3, .slice A1_4 l1_4.length c1_4] 57 (0, 0)) (vb_ BK45.out) k_ hk⟩) _ (Nat.le_refl _)) (Below.refl _ _) (Nat.le_refl _) (by simp) ?_; (case hd => rfl); (case hg => rfl); (case hr => first | (go_simp; done) | (go_simp; rfl)); (case hp => exact (Reps.c5 (show Kd.FK (SR.fixT f_ w w0.heap.size okM_ k57) _ _ ((⟨l1_0, a1_1, a1_2, a1_3, l1_4⟩ : S57), l0.length) [.slice A1_0 l1_0.length c1_0, .bool a1_1, .string a1_2, .int .i64 a1_3, .slice A1_4 l1_4.length c1_4] from SR.FK_fix (d := k57) (show Kd.FK k57 _ _ (⟨l1_0, a1_1, a1_2, a1_3, l1_4⟩ : S57) [.slice A1_0 l1_0.length c1_0, .bool a1_1, .string a1_2, .int .i64 a1_3, .slice A1_4 l1_4.length c1_4] from (k57_mkF _ _ (⟨l1_0, a1_1, a1_2, a1_3, l1_4⟩ : S57) (Kd.V_reads' (Kd.V_mono (ok' := (fun k_ => ((P0_ k_ \/ P1_0_ k_ \/ P1_4_ k_) \/ w.heap.size <= k_) /\ k_ ≠ gb45)) (HO_521000.out) (fun k_ hk => ⟨hk.1, hk.2⟩))).2.1 (Kd.V_F (Kd.V_mono (ok' := (fun k_ => ((P0_ k_ \/ P1_0_ k_ \/ P1_4_ k_) \/ w.heap.size <= k_) /\ k_ ≠ gb45)) (HO_521000.out) (fun k_ hk => ⟨hk.1, hk.2⟩))) (Kd.V_reads' (Kd.V_mono (ok' := (fun k_ => ((P0_ k_ \/ P1_0_ k_ \/ P1_4_ k_) \/ w.heap.size <= k_) /\ k_ ≠ gb45)) (HO_521004.out) (fun k_ hk => ⟨hk.1, hk.2⟩))).2.1 (Kd.V_F (Kd.V_mono (ok' := (fun k_ => ((P0_ k_ \/ P1_0_ k_ \/ P1_4_ k_) \/ w.heap.size <= k_) /\ k_ ≠ gb45)) (HO_521004.out) (fun k_ hk => ⟨hk.1, hk.2⟩))))) HMX.out) (Reps.none _ _)))
         intro v68 w38 ho39 hb hg_ hnew_
         clear hg_ hnew_
         (first | rw [← Nz553.out] at ho39 | (simp only [Int.reduceToNat] at ho39; rw [← Nz553.out] at ho39))
         replace HO_0 := A_ (Kd.V_elder' (vV_ HO_0.out) (kb_ ho39) hb)
         replace HO_521000 := A_ (Kd.V_elder' (vV_ HO_521000.out) (kb_ ho39) hb)
         replace HO_521004 := A_ (Kd.V_elder' (vV_ HO_521004.out) (kb_ ho39) hb)
         replace HO55 := A_ (Kd.V_elder' (vV_ HO55.out) (kb_ ho39) hb)
         replace HO56 := A_ (Kd.V_elder' (vV_ HO56.out) (kb_ ho39) hb)
         have HO66 := A_ (Kd.N_lower ho39 (below_size (bG_ GE45.out)))
         replace BK45 := A_ (bw_ BK45.out hb)
         replace HB := A_ (below_step (bG_ GE45.out) hb)
         clear hb ho39
         refine hK.out _ _ (hl_ BK45.out) (fun hHeld => ?_)
         clear hK K
         refine no_ (some 27) ?_
         refine on_ (i := 3) (N := some 25) (fun K hK => ?_)
         refine Kd.N_append_rows_step (SR.fixT f_ w w0.heap.size okM_ k57) (w0 := w) w.heap.size rfl (.const (.slice none 0 0)) (.tmp 24) 26 57 (.agg #[(.slice none 0 0), (.bool false), (.string ⟨#[]⟩), (.int .i64 0), (.slice none 0 0)]) 80 rfl Try.underlying26 info57 rfl (show 0 < k57.sz by decide) (by omega) (.slice none 0 0) ([] : List (S57 × Nat)) z545 _ _ _ (fun k_ => ((P0_ k_ \/ P1_0_ k_ \/ P1_4_ k_) \/ w.heap.size <= k_) /\ some k_ ≠ (v68 : Value).ownBlock /\ k_ ≠ gb45) (fun k_ => ((fun k_ => ((P0_ k_ \/ P1_0_ k_ \/ P1_4_ k_) \/ w.heap.size <= k_) /\ some k_ ≠ (v68 : Value).ownBlock /\ k_ ≠ gb45)) k_ /\ some k_ ≠ (.slice none 0 0 : Value).ownBlock) rfl rfl ?aO ?aR (fun _ hk => hk) ?aF ?aB ?aS ?aL ?_
         (case aR => exact Kd.F_mono (HZ545.out _ bB_) (fun k_ hk => ⟨⟨.inl (.inl hk.1), (fun e_ => absurd (show w.heap.size <= k_ from by first | exact Kd.N_base HO66.out k_ e_.symm | exact Kd.N_base HO69.out k_ e_.symm | exact Kd.N_base HO56.out k_ e_.symm | exact Kd.N_base HO55.out k_ e_.symm) (Nat.not_le.2 hk.2)), (fun e_ => by have := GE45.out; have := hk.2; omega)⟩, (by simp [Value.ownBlock])⟩))
         (case aB => exact (bG_ GE45.out))
         (case aF => exact (fun k_ hk => ⟨(.inr (Nat.le_trans (below_size (bG_ GE45.out)) hk)), Kd.fresh' (Kd.N_lt (vN_ HO66.out)) k_ hk, Kd.freshB (g := gb45) (o := .cells #[.slice A1_0 l1_0.length c1_0, .bool a1_1, .string a1_2, .int .i64 a1_3, .slice A1_4 l1_4.length c1_4] 57 (0, 0)) (vb_ BK45.out) k_ hk⟩))
         (case aO => exact ((Kd.N_nil _ _ _ _ (fun k_ => ((P0_ k_ \/ P1_0_ k_ \/ P1_4_ k_) \/ w.heap.size <= k_) /\ some k_ ≠ (v68 : Value).ownBlock /\ k_ ≠ gb45))))
         (case aS => exact (below_size (bG_ GE45.out)))
         (case aL => have := LMc29.out; have h545_ := Lz545.out; simp only [List.length_nil] at *; omega)
         intro v54 w40 ho hb hg hat
         rw [← Nz550.out] at ho
         replace HO_0 := A_ (Kd.V_afterv (Kd.V_apart_nil (vV_ HO_0.out)) hg hat)
         replace HO_521000 := A_ (Kd.V_afterv (Kd.V_apart_nil (vV_ HO_521000.out)) hg hat)
         replace HO_521004 := A_ (Kd.V_afterv (Kd.V_apart_nil (vV_ HO_521004.out)) hg hat)
         replace BK45 := A_ (blk_grown (g := gb45) (o := .cells #[.slice A1_0 l1_0.length c1_0, .bool a1_1, .string a1_2, .int .i64 a1_3, .slice A1_4 l1_4.length c1_4] 57 (0, 0)) (vb_ BK45.out) hg (by simp [Value.ownBlock]))
         replace HO55 := A_ (Kd.V_afterv (Kd.V_apart_nil (vV_ HO55.out)) hg hat)
         replace HO56 := A_ (Kd.V_afterv (Kd.V_apart_nil (vV_ HO56.out)) hg hat)
         replace HO66 := A_ (Kd.N_afterv (Kd.N_apart_nil (vN_ HO66.out)) hg hat)
         replace HB := A_ (hb)
         have HO69 := A_ (ho)
         clear ho hb hg hat
         refine hK.out _ _ (hl_ BK45.out) (fun hHeld => ?_)
         clear hK K
         refine no_ (some 25) ?_
         exact norm_ (by simp only [putAll, Act.put, List.setIfInBounds_toArray, List.set_cons_zero, List.set_cons_succ]) (hCont (v54, v68) _ ⟨hHeld, (by (with_reducible repeat (first | apply Kd.V_alloc | apply Kd.V_drewN | apply Kd.V_drew)); exact Kd.V_mono HO55.out (fun _ hk => ⟨hk.1.1.1, ⟨hk.2, ⟨hk.1.2, hk.1.1.2⟩⟩⟩)), (vN_ HO69.out), (by (with_reducible repeat (first | apply Kd.N_alloc | apply Kd.N_drewN | apply Kd.N_drew)); exact Kd.N_mono HO66.out (fun _ hk => ⟨hk.1.1, ⟨hk.2, hk.1.2⟩⟩)), (by (with_reducible repeat (first | apply Kd.V_alloc | apply Kd.V_drewN | apply Kd.V_drew)); exact Kd.V_mono HO56.out (fun _ hk => ⟨hk.1.1.1, ⟨hk.2, ⟨hk.1.2, hk.1.1.2⟩⟩⟩)), (by (with_reducible repeat (first | apply Kd.V_alloc | apply Kd.V_drewN | apply Kd.V_drew)); exact Kd.V_mono HO_0.out (fun _ hk => ⟨hk.1.1.1, ⟨hk.2, ⟨hk.1.2, hk.1.1.2⟩⟩⟩)), (by (with_reducible repeat (first | apply Kd.V_alloc | apply Kd.V_drewN | apply Kd.V_drew)); exact Kd.V_mono HO_521000.out (fun _ hk => ⟨hk.1.1.1, ⟨hk.2, ⟨hk.1.2, hk.1.1.2⟩⟩⟩)), (by (with_reducible repeat (first | apply Kd.V_alloc | apply Kd.V_drewN | apply Kd.V_drew)); exact Kd.V_mono HO_521004.out (fun _ hk => ⟨hk.1.1.1, ⟨hk.2, ⟨hk.1.2, hk.1.1.2⟩⟩⟩)), (vb_ BK45.out), (bG_ GE45.out)⟩)
     rintro ⟨v54, v68⟩ w41 ⟨hS_, h0_, h1_, h2_, h3_, h4_, h5_, h6_, h7_, h8_⟩
     have n0_ : Aside0 (Kd.V k57 57 w41 w.heap.size (fun k_ => ((P0_ k_ \/ P1_0_ k_ \/ P1_4_ k_) \/ w.heap.size <= k_) /\ some k_ ≠ (v54 : Value).ownBlock /\ some k_ ≠ (v68 : Value).ownBlock /\ k_ ≠ gb45) (.slice A0 y49.length c0) y49) := ⟨h0_⟩
     have n1_ : Aside0 (Kd.N (SR.fixT f_ w w0.heap.size okM_ k57) 57 w41 w.heap.size (fun k_ => ((P0_ k_ \/ P1_0_ k_ \/ P1_4_ k_) \/ w.heap.size <= k_) /\ some k_ ≠ (v68 : Value).ownBlock /\ k_ ≠ gb45) v54 z550) := ⟨h1_⟩
     have n2_ : Aside0 (Kd.N (SR.fixT f_ w w0.heap.size okM_ k57) 57 w41 w.heap.size (fun k_ => ((P0_ k_ \/ P1_0_ k_ \/ P1_4_ k_) \/ w.heap.size <= k_) /\ some k_ ≠ (v54 : Value).ownBlock /\ k_ ≠ gb45) v68 z553) := ⟨h2_⟩
     have n3_ : Aside0 (Kd.V k57 57 w41 w.heap.size (fun k_ => ((P0_ k_ \/ P1_0_ k_ \/ P1_4_ k_) \/ w.heap.size <= k_) /\ some k_ ≠ (v54 : Value).ownBlock /\ some k_ ≠ (v68 : Value).ownBlock /\ k_ ≠ gb45) (.slice A37 y47.length c37) y47) := ⟨h3_⟩
     have n4_ : Aside0 (Kd.V k57 57 w41 w.heap.size (fun k_ => ((P0_ k_ \/ P1_0_ k_ \/ P1_4_ k_) \/ w.heap.size <= k_) /\ some k_ ≠ (v54 : Value).ownBlock /\ some k_ ≠ (v68 : Value).ownBlock /\ k_ ≠ gb45) (.slice A0 l0.length c0) l0) := ⟨h4_⟩
     have n5_ : Aside0 (Kd.V Kd.string 9 w41 w.heap.size (fun k_ => ((P0_ k_ \/ P1_0_ k_ \/ P1_4_ k_) \/ w.heap.size <= k_) /\ some k_ ≠ (v54 : Value).ownBlock /\ some k_ ≠ (v68 : Value).ownBlock /\ k_ ≠ gb45) (.slice A1_0 l1_0.length c1_0) l1_0) := ⟨h5_⟩
     have n6_ : Aside0 (Kd.V k72 72 w41 w.heap.size (fun k_ => ((P0_ k_ \/ P1_0_ k_ \/ P1_4_ k_) \/ w.heap.size <= k_) /\ some k_ ≠ (v54 : Value).ownBlock /\ some k_ ≠ (v68 : Value).ownBlock /\ k_ ≠ gb45) (.slice A1_4 l1_4.length c1_4) l1_4) := ⟨h6_⟩
     have n7_ : Aside0 (w41.heap[gb45]? = some (.cells #[.slice A1_0 l1_0.length c1_0, .bool a1_1, .string a1_2, .int .i64 a1_3, .slice A1_4 l1_4.length c1_4] 57 (0, 0))) := ⟨h7_⟩
     have n8_ : Aside0 (Below w.heap.size w w41) := ⟨h8_⟩
     clear HO_0
     clear HO_521000
     clear HO_521004
     clear BK45
     clear HB
     clear h0_ h1_ h2_ h3_ h4_ h5_ h6_ h7_ h8_
     have HO55 := n0_
     have HO69 := n1_
     have HO66 := n2_
     have HO56 := n3_
     have HO_0 := n4_
     have HO_521000 := n5_
     have HO_521004 := n6_
     have BK45 := n7_
     have HB := n8_
     clear n0_ n1_ n2_ n3_ n4_ n5_ n6_ n7_ n8_
     have hHeld : w41.cell? ⟨gb45, 0, none⟩ = some (.slice A1_0 l1_0.length c1_0) /\ w41.cell? ⟨gb45, 1, none⟩ = some (.bool a1_1) /\ w41.cell? ⟨gb45, 2, none⟩ = some (.string a1_2) /\ w41.cell? ⟨gb45, 3, none⟩ = some (.int .i64 a1_3) /\ w41.cell? ⟨gb45, 4, none⟩ = some (.slice A1_4 l1_4.length c1_4) := hS_
     obtain ⟨Ao43, co43, eo43⟩ := Kd.N_slice HO66.out
     (first | subst eo43 | (injection eo43 with f1_ f2_ f3_; have f4_ := f1_.symm; have f5_ := f3_.symm; clear f1_ f2_ f3_; subst f4_; subst f5_))
     refine norm_ (a' := ?_) ?_ ?_
     rotate_left
     . simp only [putAll, Act.put, List.setIfInBounds_toArray, List.set_cons_zero, List.set_cons_succ]
       rfl
     refine on_ (i := 6) (N := some 28) (fun K hK => ?_)
     refine Kd.N_append_rows_step (SR.fixT f_ w w0.heap.size okM_ k57) (w0 := w) w.heap.size (by rfl) (.tmp 25) (.tmp 27) 26 57 (.agg #[(.slice none 0 0), (.bool false), (.string ⟨#[]⟩), (.int .i64 0), (.slice none 0 0)]) 80 rfl Try.underlying26 info57 rfl (show 0 < k57.sz by decide) (by omega) v54 z550 z553 _ _ _ (fun k_ => ((P0_ k_ \/ P1_0_ k_ \/ P1_4_ k_) \/ w.heap.size <= k_) /\ k_ ≠ gb45) (fun k_ => ((fun k_ => ((P0_ k_ \/ P1_0_ k_ \/ P1_4_ k_) \/ w.heap.size <= k_) /\ k_ ≠ gb45)) k_ /\ some k_ ≠ (v54 : Value).ownBlock) rfl rfl ?aO ?aR (fun _ hk => hk) ?aF ?aB ?aS ?aL ?_
     (case aR => exact (by skip; exact Kd.N_F (Kd.N_mono (ok' := (fun k_ => ((fun k_ => ((P0_ k_ \/ P1_0_ k_ \/ P1_4_ k_) \/ w.heap.size <= k_) /\ k_ ≠ gb45)) k_ /\ some k_ ≠ (v54 : Value).ownBlock)) (HO66.out) (fun k_ hk => ⟨⟨hk.1, hk.2.2⟩, hk.2.1⟩))))
     (case aB => exact (bG_ GE45.out))
     (case aF => exact (fun k_ hk => ⟨(.inr (Nat.le_trans (below_size (bG_ GE45.out)) hk)), Kd.freshB (g := gb45) (o := .cells #[.slice A1_0 l1_0.length c1_0, .bool a1_1, .string a1_2, .int .i64 a1_3, .slice A1_4 l1_4.length c1_4] 57 (0, 0)) (vb_ BK45.out) k_ hk⟩))
     (case aO => exact (by (with_reducible repeat (first | apply Kd.N_alloc | apply Kd.N_drewN | apply Kd.N_drew)); exact Kd.N_mono HO69.out (fun _ hk => ⟨hk.1, hk.2.2⟩)))
     (case aS => exact (below_size (bG_ GE45.out)))
     (case aL => have := LMc30.out; have h550_ := Lz550.out; have h553_ := Lz553.out; simp only [List.length_nil] at *; omega)
     intro v79 w42 ho hb hg hat
     rw [← Nz556.out] at ho
     replace HO_0 := A_ (Kd.V_afterv (ok := (fun k_ => ((P0_ k_ \/ P1_0_ k_ \/ P1_4_ k_) \/ w.heap.size <= k_) /\ some k_ ≠ (.slice Ao43 z553.length co43 : Value).ownBlock /\ k_ ≠ gb45)) (by (with_reducible repeat (first | apply Kd.V_alloc | apply Kd.V_drewN | apply Kd.V_drew)); exact Kd.V_mono HO_0.out (fun _ hk => ⟨⟨hk.1, ⟨hk.2.2.1, hk.2.2.2⟩⟩, hk.2.1⟩)) hg hat)
     replace HO_521000 := A_ (Kd.V_afterv (ok := (fun k_ => ((P0_ k_ \/ P1_0_ k_ \/ P1_4_ k_) \/ w.heap.size <= k_) /\ some k_ ≠ (.slice Ao43 z553.length co43 : Value).ownBlock /\ k_ ≠ gb45)) (by (with_reducible repeat (first | apply Kd.V_alloc | apply Kd.V_drewN | apply Kd.V_drew)); exact Kd.V_mono HO_521000.out (fun _ hk => ⟨⟨hk.1, ⟨hk.2.2.1, hk.2.2.2⟩⟩, hk.2.1⟩)) hg hat)
     replace HO_521004 := A_ (Kd.V_afterv (ok := (fun k_ => ((P0_ k_ \/ P1_0_ k_ \/ P1_4_ k_) \/ w.heap.size <= k_) /\ some k_ ≠ (.slice Ao43 z553.length co43 : Value).ownBlock /\ k_ ≠ gb45)) (by (with_reducible repeat (first | apply Kd.V_alloc | apply Kd.V_drewN | apply Kd.V_drew)); exact Kd.V_mono HO_521004.out (fun _ hk => ⟨⟨hk.1, ⟨hk.2.2.1, hk.2.2.2⟩⟩, hk.2.1⟩)) hg hat)
     replace BK45 := A_ (blk_grown (g := gb45) (o := .cells #[.slice A1_0 l1_0.length c1_0, .bool a1_1, .string a1_2, .int .i64 a1_3, .slice A1_4 l1_4.length c1_4] 57 (0, 0)) (vb_ BK45.out) hg (Kd.N_away HO69.out (fun _ hk => hk.2.2)))
     replace HO55 := A_ (Kd.V_afterv (ok := (fun k_ => ((P0_ k_ \/ P1_0_ k_ \/ P1_4_ k_) \/ w.heap.size <= k_) /\ some k_ ≠ (.slice Ao43 z553.length co43 : Value).ownBlock /\ k_ ≠ gb45)) (by (with_reducible repeat (first | apply Kd.V_alloc | apply Kd.V_drewN | apply Kd.V_drew)); exact Kd.V_mono HO55.out (fun _ hk => ⟨⟨hk.1, ⟨hk.2.2.1, hk.2.2.2⟩⟩, hk.2.1⟩)) hg hat)
     replace HO56 := A_ (Kd.V_afterv (ok := (fun k_ => ((P0_ k_ \/ P1_0_ k_ \/ P1_4_ k_) \/ w.heap.size <= k_) /\ some k_ ≠ (.slice Ao43 z553.length co43 : Value).ownBlock /\ k_ ≠ gb45)) (by (with_reducible repeat (first | apply Kd.V_alloc | apply Kd.V_drewN | apply Kd.V_drew)); exact Kd.V_mono HO56.out (fun _ hk => ⟨⟨hk.1, ⟨hk.2.2.1, hk.2.2.2⟩⟩, hk.2.1⟩)) hg hat)
     replace HO66 := A_ (Kd.N_afterv (ok := (fun k_ => ((P0_ k_ \/ P1_0_ k_ \/ P1_4_ k_) \/ w.heap.size <= k_) /\ k_ ≠ gb45)) (by (with_reducible repeat (first | apply Kd.N_alloc | apply Kd.N_drewN | apply Kd.N_drew)); exact Kd.N_mono HO66.out (fun _ hk => ⟨⟨hk.1, hk.2.2⟩, hk.2.1⟩)) hg hat)
     replace HB := A_ (hb)
     have HO75 := A_ (ho)
     clear HO69
     clear ho hb hg hat
     refine hK.out _ _ (hl_ BK45.out) (fun hHeld => ?_)
     clear hK K
     refine no_ (some 28) ?_
     refine on_ (i := 10) (N := some 32) (fun K hK => ?_)
     refine Kd.N_append_rows_step (SR.fixT f_ w w0.heap.size okM_ k57) (w0 := w) w.heap.size (by rfl) (.tmp 28) (.tmp 31) 26 57 (.agg #[(.slice none 0 0), (.bool false), (.string ⟨#[]⟩), (.int .i64 0), (.slice none 0 0)]) 80 rfl Try.underlying26 info57 rfl (show 0 < k57.sz by decide) (by omega) v79 z556 z559 _ _ _ (fun k_ => ((P0_ k_ \/ P1_0_ k_ \/ P1_4_ k_) \/ w.heap.size <= k_) /\ k_ ≠ gb45) (fun k_ => ((fun k_ => ((P0_ k_ \/ P1_0_ k_ \/ P1_4_ k_) \/ w.heap.size <= k_) /\ k_ ≠ gb45)) k_ /\ some k_ ≠ (v79 : Value).ownBlock) rfl rfl ?aO ?aR (fun _ hk => hk) ?aF ?aB ?aS ?aL ?_
     (case aR => exact Kd.F_mono (HZ559.out _ bB_) (fun k_ hk => ⟨⟨.inl (.inl hk.1), (fun e_ => by have := GE45.out; have := hk.2; omega)⟩, (fun e_ => absurd (show w.heap.size <= k_ from by first | exact Kd.N_base HO75.out k_ e_.symm | exact Kd.N_base HO66.out k_ e_.symm | exact Kd.N_base HO69.out k_ e_.symm | exact Kd.N_base HO56.out k_ e_.symm | exact Kd.N_base HO55.out k_ e_.symm) (Nat.not_le.2 hk.2))⟩))
     (case aB => exact (bG_ GE45.out))
     (case aF => exact (fun k_ hk => ⟨(.inr (Nat.le_trans (below_size (bG_ GE45.out)) hk)), Kd.freshB (g := gb45) (o := .cells #[.slice A1_0 l1_0.length c1_0, .bool a1_1, .string a1_2, .int .i64 a1_3, .slice A1_4 l1_4.length c1_4] 57 (0, 0)) (vb_ BK45.out) k_ hk⟩))
     (case aO => exact (vN_ HO75.out))
     (case aS => exact (below_size (bG_ GE45.out)))
     (case aL => have := LMc33.out; have h556_ := Lz556.out; have h559_ := Lz559.out; simp only [List.length_nil] at *; omega)
     intro v85 w44 ho hb hg hat
     rw [← Nz564.out] at ho
     replace HO_0 := A_ (Kd.V_afterv (ok := (fun k_ => ((P0_ k_ \/ P1_0_ k_ \/ P1_4_ k_) \/ w.heap.size <= k_) /\ some k_ ≠ (.slice Ao43 z553.length co43 : Value).ownBlock /\ k_ ≠ gb45)) (vV_ HO_0.out) hg hat)
     replace HO_521000 := A_ (Kd.V_afterv (ok := (fun k_ => ((P0_ k_ \/ P1_0_ k_ \/ P1_4_ k_) \/ w.heap.size <= k_) /\ some k_ ≠ (.slice Ao43 z553.length co43 : Value).ownBlock /\ k_ ≠ gb45)) (vV_ HO_521000.out) hg hat)
     replace HO_521004 := A_ (Kd.V_afterv (ok := (fun k_ => ((P0_ k_ \/ P1_0_ k_ \/ P1_4_ k_) \/ w.heap.size <= k_) /\ some k_ ≠ (.slice Ao43 z553.length co43 : Value).ownBlock /\ k_ ≠ gb45)) (vV_ HO_521004.out) hg hat)
     replace BK45 := A_ (blk_grown (g := gb45) (o := .cells #[.slice A1_0 l1_0.length c1_0, .bool a1_1, .string a1_2, .int .i64 a1_3, .slice A1_4 l1_4.length c1_4] 57 (0, 0)) (vb_ BK45.out) hg (Kd.N_away HO75.out (fun _ hk => hk.2)))
     replace HO55 := A_ (Kd.V_afterv (ok := (fun k_ => ((P0_ k_ \/ P1_0_ k_ \/ P1_4_ k_) \/ w.heap.size <= k_) /\ some k_ ≠ (.slice Ao43 z553.length co43 : Value).ownBlock /\ k_ ≠ gb45)) (vV_ HO55.out) hg hat)
     replace HO56 := A_ (Kd.V_afterv (ok := (fun k_ => ((P0_ k_ \/ P1_0_ k_ \/ P1_4_ k_) \/ w.heap.size <= k_) /\ some k_ ≠ (.slice Ao43 z553.length co43 : Value).ownBlock /\ k_ ≠ gb45)) (vV_ HO56.out) hg hat)
     replace HO66 := A_ (Kd.N_afterv (ok := (fun k_ => ((P0_ k_ \/ P1_0_ k_ \/ P1_4_ k_) \/ w.heap.size <= k_) /\ k_ ≠ gb45)) (vN_ HO66.out) hg hat)
     replace HB := A_ (hb)
     have HO83 := A_ (ho)
     clear HO75
     clear ho hb hg hat
     refine hK.out _ _ (hl_ BK45.out) (fun hHeld => ?_)
     clear hK K
     refine no_ (some 32) ?_
     refine pu_ (i := 11) (N := some 4) ?_
     refine done_ (done_of HT_.out (by kernel_rfl)) ?_
     (try clear hHeld)
     try go_wp2
     go_ret
     exact ⟨_, rr_, by have hS_ := SR.S_of_fix (d := k57) HO83.out HB.out hB0.size (Nat.le_refl _) HLT.out.1 (by rw [Nz564.out, Nz556.out, Nz559.out, Nz550.out, Nz553.out, Nz545.out]; exact SR.put_tags _ _ _); rw [show z564.map Prod.fst = y71 from by rw [Nz564.out, Nz556.out, Nz559.out, Nz550.out, Nz553.out, Nz545.out, Ny71.out, Ny50.out, Ny47.out, Ny62.out, Ny60.out, Ny49.out]; exact SR.put_list _ _ _] at hS_; (with_reducible repeat (first | apply Kd.S_alloc | apply Kd.S_drewN | apply Kd.S_drew)); exact Kd.S_mono hS_ (fun k_ h_ => h_.elim (fun h1_ => .inl (HLT.out.2 k_ h1_)) .inr), bG_ GE45.out⟩
   rw [if_pos c4] at H
   have c4b0 := decide_eq_true c4
   clear c4
   by_cases c5 : 0 <= x5_1
   rotate_left
   . exact absurd H (by rw [if_neg c5]; simp)
   rw [if_pos c5] at H
   have c5b0 := decide_eq_true c5
   clear c5
   obtain ⟨t80, A6, H⟩ := bo_ H
   (try dsimp only at H)
   have HQ_ := A_ H
   clear H
   try go_wp2
   replace HO_0 := A_ (Kd.V_drew HO_0.out)
   replace HO_521000 := A_ (Kd.V_drew HO_521000.out)
   replace HO_521004 := A_ (Kd.V_drew HO_521004.out)
   replace BK45 := A_ (blk_drew BK45.out)
   replace HB := A_ (below_drew1 HB.out)
   have p46 : 0 <= (x5_1 : Int) := od_
   have q46 : x5_1 < (l0.length : Int) := od_
   obtain ⟨ad46, A46_0, c46_0, A46_4, c46_4, e46, hx46_0, hx46_1, hx46_2, hx46_3, hx46_4, hl46_0, hi46_0, hl46_4, hi46_4⟩ := at_T57 (Kd.V_reads' HO_0.out).2.2 x5_1 p46 q46
   cases e46
   obtain ⟨ce46, hce46, hMe46, hcc46⟩ := Kd.V_get HO_0.out z57 x5_1 p46 (by first | exact q46 | exact od_ | (have e_ := (Kd.V_reads' HO_0.out).1; omega))
   obtain ⟨ua46_0, uc46_0, ua46_4, uc46_4, rfl, ul46_0, ge46_0, ul46_4, ge46_4⟩ := k57_openF hMe46
   have hv46_0 := hcc46 0 _ rfl
   rw [Nat.add_zero] at hv46_0
   replace hv46_0 := Option.some.inj (hv46_0.symm.trans hx46_0)
   injection hv46_0 with hva_ hvn_ hvc_
   rw [hva_] at ge46_0
   rw [hvc_] at ul46_0
   have HL46_0 := A_ (show Kd.V Kd.string 9 _ w.heap.size _ _ ((rd_T57 l0 x5_1).f0) from Kd.V_mk ul46_0 ge46_0)
   clear hva_ hvn_ hvc_ ge46_0 ul46_0
   have hv46_4 := hcc46 4 _ rfl
   rw [add_field _ _ 4 (by omega)] at hv46_4
   replace hv46_4 := Option.some.inj (hv46_4.symm.trans hx46_4)
   injection hv46_4 with hva_ hvn_ hvc_
   rw [hva_] at ge46_4
   rw [hvc_] at ul46_4
   have HL46_4 := A_ (show Kd.V k72 72 _ w.heap.size _ _ ((rd_T57 l0 x5_1).f4) from Kd.V_mk ul46_4 ge46_4)
   clear hva_ hvn_ hvc_ ge46_4 ul46_4
   clear hcc46 hce46
   have HR46_0 := A_ hi46_0
   have HC46_0 := A_ hl46_0
   clear hi46_0 hl46_0
   have HR46_4 := A_ hi46_4
   have HC46_4 := A_ hl46_4
   clear hi46_4 hl46_4
   replace p46 := eq_true p46
   replace q46 := eq_true q46
   refine start_ (n := 14) (S := fun w' => w'.cell? ⟨gb45, 0, none⟩ = some (.slice A1_0 l1_0.length c1_0) /\ w'.cell? ⟨gb45, 1, none⟩ = some (.bool a1_1) /\ w'.cell? ⟨gb45, 2, none⟩ = some (.string a1_2) /\ w'.cell? ⟨gb45, 3, none⟩ = some (.int .i64 a1_3) /\ w'.cell? ⟨gb45, 4, none⟩ = some (.slice A1_4 l1_4.length c1_4) /\ w'.cell? (ad46.add ((x5_1).toNat * 5)) = some (.slice A46_0 ((rd_T57 l0 x5_1).f0).length c46_0) /\ w'.cell? ⟨(ad46.add ((x5_1).toNat * 5)).block, (ad46.add ((x5_1).toNat * 5)).off + 1, none⟩ = some (.bool ((rd_T57 l0 x5_1).f1)) /\ w'.cell? ⟨(ad46.add ((x5_1).toNat * 5)).block, (ad46.add ((x5_1).toNat * 5)).off + 2, none⟩ = some (.string ((rd_T57 l0 x5_1).f2)) /\ w'.cell? ⟨(ad46.add ((x5_1).toNat * 5)).block, (ad46.add ((x5_1).toNat * 5)).off + 3, none⟩ = some (.int .i64 ((rd_T57 l0 x5_1).f3)) /\ w'.cell? ⟨(ad46.add ((x5_1).toNat * 5)).block, (ad46.add ((x5_1).toNat * 5)).off + 4, none⟩ = some (.slice A46_4 ((rd_T57 l0 x5_1).f4).length c46_4)) (ds := []) #[false, false, false, false, false, false, false, false, false, false, false, false, false, false] (by kernel_rfl) rfl rfl ⟨bl_ BK45.out 0, bl_ BK45.out 1, bl_ BK45.out 2, bl_ BK45.out 3, bl_ BK45.out 4, hx46_0, hx46_1, hx46_2, hx46_3, hx46_4⟩ (fun hHeld => ?_); refine with_tabW impl_withRes.tab2 impl_withRes.bits2 (fun HT_ HW_ => ?_)
   generalize wr.drew = w16 at HO_0 HO_521000 HO_521004 BK45 HB HL46_0 HL46_4 HR46_0 HR46_4 hx46_0 hx46_1 hx46_2 hx46_3 hx46_4 hHeld ⊢
   refine pu_ (i := 0) (N := some 6) ?_
   refine pu_ (i := 1) (N := some 7) ?_
   refine pu_ (i := 2) (N := some 8) ?_
   refine pu_ (i := 3) (N := some 9) ?_
   refine pu_ (i := 4) (N := some 10) ?_
   refine pu_ (i := 5) (N := some 11) ?_
   refine pu_ (i := 6) (N := some 12) ?_
   refine pu_ (i := 7) (N := some 13) ?_
   refine pu_ (i := 8) (N := some 14) ?_
   refine pu_ (i := 10) (N := some 16) ?_
   refine tk_ (i := 9) (N := some 15) hHeld ?_
   refine tk_ (i := 11) (N := some 17) hHeld ?_
   refine on_ (i := 12) (N := some 18) (fun K hK => ?_)
   refine goes_ Try.func88 (by kernel_rfl) rfl #[.slice A46_0 ((rd_T57 l0 x5_1).f0).length c46_0, .slice A1_0 l1_0.length c1_0] (by rfl) rfl rfl ml_ ?_
   with_reducible refine (impl_LessPath.calls k1 _ _ ((rd_T57 l0 x5_1).f0) _ _ l1_0 t80 _ ?s1 ?s2 ?s3 ?s4 A6.out).mono ?_
   (case s1 => repeat (first | exact (cC_ HR46_0.out) | (with_reducible refine Kd.C_alloc ?_ _) | (with_reducible refine Kd.C_drewN ?_ _) | (with_reducible refine Kd.C_drew ?_)))
   (case s2 => exact HC46_0.out)
   (case s3 => exact cC_ (Kd.V_reads' HO_521000.out).2.2)
   (case s4 => exact (Kd.V_reads' HO_521000.out).2.1)
   rintro e w' ⟨rfl, ⟨nd, rfl⟩⟩
   refine ⟨_, rfl, ?_⟩
   refine hK.out _ _ ⟨bl_ BK45.out 0, bl_ BK45.out 1, bl_ BK45.out 2, bl_ BK45.out 3, bl_ BK45.out 4, hHeld.2.2.2.2.2.1, hHeld.2.2.2.2.2.2.1, hHeld.2.2.2.2.2.2.2.1, hHeld.2.2.2.2.2.2.2.2.1, hHeld.2.2.2.2.2.2.2.2.2⟩ (fun hHeld => ?_)
   clear hK K
   refine no_ (some 18) ?_
   refine pu_ (i := 13) (N := some 19) ?_
   refine done_ (done_of HT_.out (by kernel_rfl)) ?_
   (try clear hHeld)
   by_cases c7 : t80 = true
   . subst c7
     have H := HQ_.out
     clear HQ_
     rw [if_pos rfl] at H
     have H' := A_ H
     clear H
     try go_wp2
     go_roundg k1
     case measure => have := HK1.out; omega
     case rel => exact ⟨(wrap64 (x5_1 + 1)), rs_, H', ⟨by have := HK1.out; omega⟩, ⟨vV_ HO_0.out⟩, ⟨vV_ HO_521000.out⟩, ⟨vV_ HO_521004.out⟩, ⟨vb_ BK45.out⟩, ⟨bG_ GE45.out⟩⟩
   . replace c7 := Bool.eq_false_iff.mpr c7
     subst c7
     have H := HQ_.out
     clear HQ_
     rw [if_neg nf_] at H
     have c9b0 := eq_true (od_ : 0 <= x5_1)
     by_cases c10 : x5_1 <= (l0.length : Int)
     rotate_left
     . exact absurd H (by rw [if_neg c10]; simp)
     rw [if_pos c10] at H
     have c10b0 := eq_true c10
     have c10b1 := decide_eq_true c10
     clear c10
     obtain ⟨y51, hy51⟩ : ∃ y_ : List (S57), y_ = (l0.take (x5_1 : Int).toNat) := ⟨_, rfl⟩
     replace H : (if ([] : List (S57)).length + y51.length < 1759218604441 then ((some (([] : List (S57)) ++ y51 : List (S57))).bind fun y63 => ((some (([(⟨l1_0, a1_1, a1_2, a1_3, l1_4⟩ : S57)] : List (S57)) : List (S57))).bind fun y61 => (if y63.length + y61.length < 1759218604441 then ((some (y63 ++ y61 : List (S57))).bind fun y52 => ((some (l0.drop (x5_1 : Int).toNat : List (S57))).bind fun y48 => (if y52.length + y48.length < 1759218604441 then (some (y52 ++ y48)) else (none)))) else (none)))) else (none)) = some r := hy_ hy51 H
     have Ny51 := A_ hy51
     obtain ⟨z523, Nz523⟩ : ∃ z_ : List (S57 × Nat), Aside0 (z_ = l0.zipIdx.take (x5_1 : Int).toNat) := ⟨_, ⟨rfl⟩⟩
     have Lz523 : Aside0 (z523.length = y51.length) := ⟨by rw [Nz523.out, Ny51.out]; simp⟩
     clear hy51
     by_cases c11 : ([] : List (S57)).length + y51.length < 1759218604441
     rotate_left
     . exact absurd H (by rw [if_neg c11]; simp)
     rw [if_pos c11] at H
     have LMc11 := A_ c11
     clear c11
     obtain ⟨y63, hy63⟩ : ∃ y_ : List (S57), y_ = (([] : List (S57)) ++ y51) := ⟨_, rfl⟩
     replace H : ((some (([(⟨l1_0, a1_1, a1_2, a1_3, l1_4⟩ : S57)] : List (S57)) : List (S57))).bind fun y61 => (if y63.length + y61.length < 1759218604441 then ((some (y63 ++ y61 : List (S57))).bind fun y52 => ((some (l0.drop (x5_1 : Int).toNat : List (S57))).bind fun y48 => (if y52.length + y48.length < 1759218604441 then (some (y52 ++ y48)) else (none)))) else (none))) = some r := hy_ hy63 H
     have Ny63 := A_ hy63
     obtain ⟨z528, Nz528⟩ : ∃ z_ : List (S57 × Nat), Aside0 (z_ = ([] : List (S57 × Nat)) ++ z523) := ⟨_, ⟨rfl⟩⟩
     have Lz528 : Aside0 (z528.length = y63.length) := ⟨by have h523_ := Lz523.out; rw [Nz528.out, Ny63.out]; simp only [List.length_append, List.length_nil]; omega⟩
     clear hy63
     obtain ⟨y61, hy61⟩ : ∃ y_ : List (S57), y_ = (([(⟨l1_0, a1_1, a1_2, a1_3, l1_4⟩ : S57)] : List (S57))) := ⟨_, rfl⟩
     replace H : (if y63.length + y61.length < 1759218604441 then ((some (y63 ++ y61 : List (S57))).bind fun y52 => ((some (l0.drop (x5_1 : Int).toNat : List (S57))).bind fun y48 => (if y52.length + y48.length < 1759218604441 then (some (y52 ++ y48)) else (none)))) else (none)) = some r := hy_ hy61 H
     have Ny61 := A_ hy61
     obtain ⟨z531, Nz531⟩ : ∃ z_ : List (S57 × Nat), Aside0 (z_ = [((⟨l1_0, a1_1, a1_2, a1_3, l1_4⟩ : S57), l0.length)]) := ⟨_, ⟨rfl⟩⟩
     have Lz531 : Aside0 (z531.length = y61.length) := ⟨by rw [Nz531.out, Ny61.out]; simp⟩
     clear hy61
     by_cases c12 : y63.length + y61.length < 1759218604441
     rotate_left
     . exact absurd H (by rw [if_neg c12]; simp)
     rw [if_pos c12] at H
     have LMc12 := A_ c12
     clear c12
     obtain ⟨y52, hy52⟩ : ∃ y_ : List (S57), y_ = (y63 ++ y61) := ⟨_, rfl⟩
     replace H : ((some (l0.drop (x5_1 : Int).toNat : List (S57))).bind fun y48 => (if y52.length + y48.length < 1759218604441 then (some (y52 ++ y48)) else (none))) = some r := hy_ hy52 H
     have Ny52 := A_ hy52
     obtain ⟨z534, Nz534⟩ : ∃ z_ : List (S57 × Nat), Aside0 (z_ = z528 ++ z531) := ⟨_, ⟨rfl⟩⟩
     have Lz534 : Aside0 (z534.length = y52.length) := ⟨by have h528_ := Lz528.out; have h531_ := Lz531.out; rw [Nz534.out, Ny52.out]; simp only [List.length_append, List.length_nil]; omega⟩
     clear hy52
     have c13b0 := eq_true (od_ : 0 <= x5_1)
     have c14b0 := eq_true (od_ : x5_1 <= (l0.length : Int))
     obtain ⟨y48, hy48⟩ : ∃ y_ : List (S57), y_ = (l0.drop (x5_1 : Int).toNat) := ⟨_, rfl⟩
     replace H : (if y52.length + y48.length < 1759218604441 then (some (y52 ++ y48)) else (none)) = some r := hy_ hy48 H
     have Ny48 := A_ hy48
     obtain ⟨z537, Nz537⟩ : ∃ z_ : List (S57 × Nat), Aside0 (z_ = l0.zipIdx.drop (x5_1 : Int).toNat) := ⟨_, ⟨rfl⟩⟩
     have Lz537 : Aside0 (z537.length = y48.length) := ⟨by rw [Nz537.out, Ny48.out]; simp⟩
     clear hy48
     by_cases c15 : y52.length + y48.length < 1759218604441
     rotate_left
     . exact absurd H (by rw [if_neg c15]; simp)
     rw [if_pos c15] at H
     have LMc15 := A_ c15
     clear c15
     obtain ⟨y73, hy73⟩ : ∃ y_ : List (S57), y_ = (y52 ++ y48) := ⟨_, rfl⟩
     replace H : (some y73) = some r := hy_ hy73 H
     have Ny73 := A_ hy73
     obtain ⟨z542, Nz542⟩ : ∃ z_ : List (S57 × Nat), Aside0 (z_ = z534 ++ z537) := ⟨_, ⟨rfl⟩⟩
     have Lz542 : Aside0 (z542.length = y73.length) := ⟨by have h534_ := Lz534.out; have h537_ := Lz537.out; rw [Nz542.out, Ny73.out]; simp only [List.length_append, List.length_nil]; omega⟩
     clear hy73
     obtain rfl := si_ H
     try go_wp2
     (try (rw [drewN_self w16]; generalize hq_ : World.drewN w16 _ = w16; have n0_ : Aside0 (Kd.V Kd.string 9 w16 w.heap.size (fun k_ => ((P0_ k_ \/ P1_0_ k_ \/ P1_4_ k_) \/ w.heap.size <= k_) /\ k_ ≠ gb45) (.slice A46_0 ((rd_T57 l0 x5_1).f0).length c46_0) ((rd_T57 l0 x5_1).f0)) := ⟨by rw [← hq_]; exact (vV_ HL46_0.out)⟩; have n1_ : Aside0 (Kd.V k72 72 w16 w.heap.size (fun k_ => ((P0_ k_ \/ P1_0_ k_ \/ P1_4_ k_) \/ w.heap.size <= k_) /\ k_ ≠ gb45) (.slice A46_4 ((rd_T57 l0 x5_1).f4).length c46_4) ((rd_T57 l0 x5_1).f4)) := ⟨by rw [← hq_]; exact (vV_ HL46_4.out)⟩; have n2_ : Aside0 (Kd.V k57 57 w16 w.heap.size (fun k_ => ((P0_ k_ \/ P1_0_ k_ \/ P1_4_ k_) \/ w.heap.size <= k_) /\ k_ ≠ gb45) (.slice (some ad46) l0.length c0) l0) := ⟨by rw [← hq_]; exact (vV_ HO_0.out)⟩; have n3_ : Aside0 (Kd.V Kd.string 9 w16 w.heap.size (fun k_ => ((P0_ k_ \/ P1_0_ k_ \/ P1_4_ k_) \/ w.heap.size <= k_) /\ k_ ≠ gb45) (.slice A1_0 l1_0.length c1_0) l1_0) := ⟨by rw [← hq_]; exact (vV_ HO_521000.out)⟩; have n4_ : Aside0 (Kd.V k72 72 w16 w.heap.size (fun k_ => ((P0_ k_ \/ P1_0_ k_ \/ P1_4_ k_) \/ w.heap.size <= k_) /\ k_ ≠ gb45) (.slice A1_4 l1_4.length c1_4) l1_4) := ⟨by rw [← hq_]; exact (vV_ HO_521004.out)⟩; have n5_ : Aside0 (w16.heap[gb45]? = some (.cells #[.slice A1_0 l1_0.length c1_0, .bool a1_1, .string a1_2, .int .i64 a1_3, .slice A1_4 l1_4.length c1_4] 57 (0, 0))) := ⟨by rw [← hq_]; exact (vb_ BK45.out)⟩; have n6_ : Aside0 (Below w.heap.size w w16) := ⟨by rw [← hq_]; exact (bG_ GE45.out)⟩; have n7_ : Aside0 (Kd.C Kd.string w16 A46_0 ((rd_T57 l0 x5_1).f0).length ((rd_T57 l0 x5_1).f0)) := ⟨by rw [← hq_]; exact (cC_ HR46_0.out)⟩; have n8_ : Aside0 (Kd.C k72 w16 A46_4 ((rd_T57 l0 x5_1).f4).length ((rd_T57 l0 x5_1).f4)) := ⟨by rw [← hq_]; exact (cC_ HR46_4.out)⟩; clear HL46_0 HL46_4 HO_0 HO_521000 HO_521004 BK45 HB HR46_0 HR46_4 hq_; have HL46_0 := n0_; have HL46_4 := n1_; have HO_0 := n2_; have HO_521000 := n3_; have HO_521004 := n4_; have BK45 := n5_; have HB := n6_; have HR46_0 := n7_; have HR46_4 := n8_; clear n0_ n1_ n2_ n3_ n4_ n5_ n6_ n7_ n8_))
     replace HO_0 := A_ (Kd.V_drew HO_0.out)
     replace HO_521000 := A_ (Kd.V_drew HO_521000.out)
     replace HO_521004 := A_ (Kd.V_drew HO_521004.out)
     replace HL46_0 := A_ (Kd.V_drew HL46_0.out)
     replace HL46_4 := A_ (Kd.V_drew HL46_4.out)
     replace BK45 := A_ (blk_drew BK45.out)
     replace HR46_0 := A_ (Kd.C_drew HR46_0.out)
     replace HR46_4 := A_ (Kd.C_drew HR46_4.out)
     replace HB := A_ (below_drew1 HB.out)
     have q18 : (x5_1 : Int) <= ((l0.length : Int) : Int) := od_
     obtain ⟨i018, hi81, _, hsz18, _⟩ := info_parts info57
     have hroom18 : l0.length <= c0 := (Kd.V_reads' HO_0.out).2.1
     have hC18 : Kd.F k57 _ _ (some ad46) l0.length l0 := (Kd.V_at (base := w.heap.size) HO_0.out).2.2
     have hcut18 := cut_to (P := Try.prog) 26 57 .i64 Try.underlying26 hi81 (some ad46) l0.length c0 x5_1 od_ q18 hroom18
     have hr18 := Kd.F_take (m := (x5_1 : Int).toNat) hC18 (by omega)
     have hy18 : y51.length = (x5_1 : Int).toNat := (by rw [Ny51.out, List.length_take]; omega)
     rw [← Ny51.out] at hr18
     rw [← hy18] at hcut18
     have HO58 := A_ (show Kd.V k57 57 _ w.heap.size _ (.slice (some ad46) y51.length c0) y51 from Kd.V_mk (by omega) hr18)
     have HZ523 : Aside0 (∀ W, Below w.heap.size w W -> Kd.F (SR.fixT f_ w w0.heap.size okM_ k57) W (fun k_ => P0_ k_ /\ k_ < w.heap.size) (some ad46) y51.length z523) := ⟨fun W hb_ => by have h0_ := HZ.out W hb_; rw [show l0.length = l0.zipIdx.length from (List.length_zipIdx).symm] at h0_; have h_ := Kd.F_take (m := (x5_1 : Int).toNat) h0_ (by rw [List.length_zipIdx]; omega); rw [← Nz523.out, Lz523.out] at h_; exact h_⟩
     have HC58 := A_ (show y51.length <= c0 from by omega)
     clear hr18 hC18 hroom18 hi81 hsz18
     have KY18 := A_ hy18
     clear hy18
     replace q18 := eq_true q18
     have q19 : (x5_1 : Int) <= ((l0.length : Int) : Int) := od_
     obtain ⟨i019, hi76, _, hsz19, _⟩ := info_parts info57
     have hroom19 : l0.length <= c0 := (Kd.V_reads' HO_0.out).2.1
     have hC19 : Kd.F k57 _ _ (some ad46) l0.length l0 := (Kd.V_at (base := w.heap.size) HO_0.out).2.2
     have q76 : (0 : Int) <= (x5_1 : Int) := od_
     have hcut19 := cut_from (P := Try.prog) 26 57 .i64 Try.underlying26 hi76 5 hsz19 (some ad46) l0.length c0 x5_1 q76 q19
     have hr19 := Kd.F_cut (m := (x5_1 : Int).toNat) (c := c0) hC19 (by omega) hroom19
     obtain ⟨A19, hA19⟩ : ∃ A1, A1 = (if c0 = (x5_1 : Int).toNat then (some ad46) else ((some ad46) : Option Addr).map (·.add ((x5_1 : Int).toNat * 5))) := ⟨_, rfl⟩
     obtain ⟨c19, hc19⟩ : ∃ c1, c1 = c0 - (x5_1 : Int).toNat := ⟨_, rfl⟩
     have hy19 : y48.length = l0.length - (x5_1 : Int).toNat := (by rw [Ny48.out, List.length_drop] <;> omega)
     rw [show (l0).drop (x5_1 : Int).toNat = y48 from Ny48.out.symm] at hr19
     replace hr19 : Kd.F k57 _ _ A19 y48.length y48 := (by rw [hA19]; exact hr19)
     rw [← hy19, ← hA19, ← hc19] at hcut19
     have HO59 := A_ (show Kd.V k57 57 _ w.heap.size _ (.slice A19 y48.length c19) y48 from Kd.V_mk (by rw [hy19, hc19]; exact Nat.sub_le_sub_right hroom19 _) hr19)
     have HZ537 : Aside0 (∀ W, Below w.heap.size w W -> Kd.F (SR.fixT f_ w w0.heap.size okM_ k57) W (fun k_ => P0_ k_ /\ k_ < w.heap.size) A19 y48.length z537) := ⟨fun W hb_ => by have h0_ := HZ.out W hb_; rw [show l0.length = l0.zipIdx.length from (List.length_zipIdx).symm] at h0_; have h_ := Kd.F_cut (m := (x5_1 : Int).toNat) (c := c0) h0_ (by rw [List.length_zipIdx]; omega) (by rw [List.length_zipIdx]; exact hroom19); rw [← Nz537.out, Lz537.out] at h_; rw [hA19]; exact h_⟩
     have HC59 := A_ (show y48.length <= c19 from by rw [hy19, hc19]; exact Nat.sub_le_sub_right hroom19 _)
     clear hr19 hC19 hroom19 hi76 hsz19 hc19
     have KY19 := A_ hy19
     have KA19 := A_ hA19
     clear hy19 hA19
     replace q19 := eq_true q19
     refine st5_ (n := 12) (ds := []) (bl_ BK45.out 0) (bl_ BK45.out 1) (bl_ BK45.out 2) (bl_ BK45.out 3) (bl_ BK45.out 4) (fun hHeld => ?_); refine with_tabW impl_withRes.tab4 impl_withRes.bits4 (fun HT_ HW_ => ?_)
     generalize w16.drew = w17 at HO_0 HO_521000 HO_521004 HL46_0 HL46_4 BK45 HR46_0 HR46_4 HB HO58 HO59 hHeld ⊢
     refine pu_ (i := 0) (N := some 22) ?_
     refine pu_ (i := 1) (N := some 23) ?_
     refine pu_ (i := 2) (N := some 24) ?_
     refine pu_ (i := 7) (N := some 29) ?_
     refine pu_ (i := 8) (N := some 30) ?_
     refine pu_ (i := 9) (N := some 31) ?_
     refine tk_ (i := 4) (N := some 26) hHeld ?_
     refine join_ (σ := Value × Value) 3 #[true, true, true, true, true, true, false, true, true, true, false, false] (fun s_ => [(25, s_.1), (27, s_.2)]) (fun s_ w' => (w'.cell? ⟨gb45, 0, none⟩ = some (.slice A1_0 l1_0.length c1_0) /\ w'.cell? ⟨gb45, 1, none⟩ = some (.bool a1_1) /\ w'.cell? ⟨gb45, 2, none⟩ = some (.string a1_2) /\ w'.cell? ⟨gb45, 3, none⟩ = some (.int .i64 a1_3) /\ w'.cell? ⟨gb45, 4, none⟩ = some (.slice A1_4 l1_4.length c1_4)) /\ (Kd.V Kd.string 9 w' w.heap.size (fun k_ => ((P0_ k_ \/ P1_0_ k_ \/ P1_4_ k_) \/ w.heap.size <= k_) /\ some k_ ≠ (s_.1 : Value).ownBlock /\ some k_ ≠ (s_.2 : Value).ownBlock /\ k_ ≠ gb45) (.slice A46_0 ((rd_T57 l0 x5_1).f0).length c46_0) ((rd_T57 l0 x5_1).f0)) /\ (Kd.V k72 72 w' w.heap.size (fun k_ => ((P0_ k_ \/ P1_0_ k_ \/ P1_4_ k_) \/ w.heap.size <= k_) /\ some k_ ≠ (s_.1 : Value).ownBlock /\ some k_ ≠ (s_.2 : Value).ownBlock /\ k_ ≠ gb45) (.slice A46_4 ((rd_T57 l0 x5_1).f4).length c46_4) ((rd_T57 l0 x5_1).f4)) /\ (Kd.V k57 57 w' w.heap.size (fun k_ => ((P0_ k_ \/ P1_0_ k_ \/ P1_4_ k_) \/ w.heap.size <= k_) /\ some k_ ≠ (s_.1 : Value).ownBlock /\ some k_ ≠ (s_.2 : Value).ownBlock /\ k_ ≠ gb45) (.slice (some ad46) y51.length c0) y51) /\ (Kd.N (SR.fixT f_ w w0.heap.size okM_ k57) 57 w' w.heap.size (fun k_ => ((P0_ k_ \/ P1_0_ k_ \/ P1_4_ k_) \/ w.heap.size <= k_) /\ some k_ ≠ (s_.2 : Value).ownBlock /\ k_ ≠ gb45) s_.1 z528) /\ (Kd.N (SR.fixT f_ w w0.heap.size okM_ k57) 57 w' w.heap.size (fun k_ => ((P0_ k_ \/ P1_0_ k_ \/ P1_4_ k_) \/ w.heap.size <= k_) /\ some k_ ≠ (s_.1 : Value).ownBlock /\ k_ ≠ gb45) s_.2 z531) /\ (Kd.V k57 57 w' w.heap.size (fun k_ => ((P0_ k_ \/ P1_0_ k_ \/ P1_4_ k_) \/ w.heap.size <= k_) /\ some k_ ≠ (s_.1 : Value).ownBlock /\ some k_ ≠ (s_.2 : Value).ownBlock /\ k_ ≠ gb45) (.slice A19 y48.length c19) y48) /\ (Kd.V k57 57 w' w.heap.size (fun k_ => ((P0_ k_ \/ P1_0_ k_ \/ P1_4_ k_) \/ w.heap.size <= k_) /\ some k_ ≠ (s_.1 : Value).ownBlock /\ some k_ ≠ (s_.2 : Value).ownBlock /\ k_ ≠ gb45) (.slice (some ad46) l0.length c0) l0) /\ (Kd.V Kd.string 9 w' w.heap.size (fun k_ => ((P0_ k_ \/ P1_0_ k_ \/ P1_4_ k_) \/ w.heap.size <= k_) /\ some k_ ≠ (s_.1 : Value).ownBlock /\ some k_ ≠ (s_.2 : Value).ownBlock /\ k_ ≠ gb45) (.slice A1_0 l1_0.length c1_0) l1_0) /\ (Kd.V k72 72 w' w.heap.size (fun k_ => ((P0_ k_ \/ P1_0_ k_ \/ P1_4_ k_) \/ w.heap.size <= k_) /\ some k_ ≠ (s_.1 : Value).ownBlock /\ some k_ ≠ (s_.2 : Value).ownBlock /\ k_ ≠ gb45) (.slice A1_4 l1_4.length c1_4) l1_4) /\ (w'.heap[gb45]? = some (.cells #[.slice A1_0 l1_0.length c1_0, .bool a1_1, .string a1_2, .int .i64 a1_3, .slice A1_4 l1_4.length c1_4] 57 (0, 0))) /\ (Below w.heap.size w w')) ?_ ?_
     rotate_left
     . intro hCont
       refine two_ (i := 3) (j := 5) (Ni := some 25) (Nj := some 27) #[true, true, true, true, true, false, false, true, true, true, false, false] #[true, true, true, false, true, true, false, true, true, true, false, false] rfl rfl rfl rfl (two_of HT_.out (by kernel_rfl)) (by decide) (by decide) (fun K hK => ?_) (fun K hK => ?_)
       . skip
         refine Kd.N_append_rows_step (SR.fixT f_ w w0.heap.size okM_ k57) (w0 := w) w.heap.size rfl (.const (.slice none 0 0)) (.tmp 24) 26 57 (.agg #[(.slice none 0 0), (.bool false), (.string ⟨#[]⟩), (.int .i64 0), (.slice none 0 0)]) 80 rfl Try.underlying26 info57 rfl (show 0 < k57.sz by decide) (by omega) (.slice none 0 0) ([] : List (S57 × Nat)) z523 _ _ _ (fun k_ => ((P0_ k_ \/ P1_0_ k_ \/ P1_4_ k_) \/ w.heap.size <= k_) /\ k_ ≠ gb45) (fun k_ => ((fun k_ => ((P0_ k_ \/ P1_0_ k_ \/ P1_4_ k_) \/ w.heap.size <= k_) /\ k_ ≠ gb45)) k_ /\ some k_ ≠ (.slice none 0 0 : Value).ownBlock) rfl rfl ?aO ?aR (fun _ hk => hk) ?aF ?aB ?aS ?aL ?_
         (case aR => exact Kd.F_mono (HZ523.out _ bB_) (fun k_ hk => ⟨⟨.inl (.inl hk.1), (fun e_ => by have := GE45.out; have := hk.2; omega)⟩, (by simp [Value.ownBlock])⟩))
         (case aB => exact (bG_ GE45.out))
         (case aF => exact (fun k_ hk => ⟨(.inr (Nat.le_trans (below_size (bG_ GE45.out)) hk)), Kd.freshB (g := gb45) (o := .cells #[.slice A1_0 l1_0.length c1_0, .bool a1_1, .string a1_2, .int .i64 a1_3, .slice A1_4 l1_4.length c1_4] 57 (0, 0)) (vb_ BK45.out) k_ hk⟩))
         (case aO => exact ((Kd.N_nil _ _ _ _ (fun k_ => ((P0_ k_ \/ P1_0_ k_ \/ P1_4_ k_) \/ w.heap.size <= k_) /\ k_ ≠ gb45))))
         (case aS => exact (below_size (bG_ GE45.out)))
         (case aL => have := LMc11.out; have h523_ := Lz523.out; simp only [List.length_nil] at *; omega)
         intro v53 w20 ho hb hg hat
         rw [← Nz528.out] at ho
         replace HO_0 := A_ (Kd.V_afterv (Kd.V_apart_nil (vV_ HO_0.out)) hg hat)
         replace HO_521000 := A_ (Kd.V_afterv (Kd.V_apart_nil (vV_ HO_521000.out)) hg hat)
         replace HO_521004 := A_ (Kd.V_afterv (Kd.V_apart_nil (vV_ HO_521004.out)) hg hat)
         replace BK45 := A_ (blk_grown (g := gb45) (o := .cells #[.slice A1_0 l1_0.length c1_0, .bool a1_1, .string a1_2, .int .i64 a1_3, .slice A1_4 l1_4.length c1_4] 57 (0, 0)) (vb_ BK45.out) hg (by simp [Value.ownBlock]))
         replace HL46_0 := A_ (Kd.V_afterv (Kd.V_apart_nil (vV_ HL46_0.out)) hg hat)
         replace HL46_4 := A_ (Kd.V_afterv (Kd.V_apart_nil (vV_ HL46_4.out)) hg hat)
         replace HO58 := A_ (Kd.V_afterv (Kd.V_apart_nil (vV_ HO58.out)) hg hat)
         replace HO59 := A_ (Kd.V_afterv (Kd.V_apart_nil (vV_ HO59.out)) hg hat)
         replace HB := A_ (hb)
         have HO70 := A_ (ho)
         clear ho hb hg hat
         refine hK.out _ _ (hl_ BK45.out) (fun hHeld => ?_)
         clear hK K
         refine no_ (some 25) ?_
         refine on_ (i := 5) (N := some 27) (fun K hK => ?_)
         refine Kd.N_lit_step (SR.fixT f_ w w0.heap.size okM_ k57) _ 57 ?hg (N' := 27) ?hd (xs := [((⟨l1_0, a1_1, a1_2, a1_3, l1_4⟩ : S57), l0.length)]) (inner := [.slice A1_0 l1_0.length c1_0, .bool a1_1, .string a1_2, .int .i64 a1_3, .slice A1_4 l1_4.length c1_4]) (ok := (fun k_ => ((P0_ k_ \/ P1_0_ k_ \/ P1_4_ k_) \/ w.heap.size <= k_) /\ some k_ ≠ (v53 : Value).ownBlock /\ k_ ≠ gb45)) (okp := (fun k_ => ((P0_ k_ \/ P1_0_ k_ \/ P1_4_ k_) \/ w.heap.size <= k_) /\ some k_ ≠ (v53 : Value).ownBlock /\ k_ ≠ gb45)) ?hr ?hp (fun _ hk => hk) ((show ∀ k_, w20.heap.size <= k_ -> (fun k_ => ((P0_ k_ \/ P1_0_ k_ \/ P1_4_ k_) \/ w.heap.size <= k_) /\ some k_ ≠ (v53 : Value).ownBlock /\ k_ ≠ gb45) k_ from fun k_ hk => ⟨(.inr (Nat.le_trans (below_size (bG_ GE45.out)) hk)), Kd.fresh' (Kd.N_lt (vN_ HO70.out)) k_ hk, Kd.freshB (g := gb45) (o := .cells #[.slice A1_0 l1_0.length c1_0, .bool a1_1, .string a1_2, .int .i64 a1_3, .slice A1_4 l1_4.length c1_4] 57 (0, 0)) (vb_ BK45.out) k_ hk⟩) _ (Nat.le_refl _)) (Below.refl _ _) (Nat.le_refl _) (by simp) ?_; (case hd => rfl); (case hg => rfl); (case hr => first | (go_simp; done) | (go_simp; rfl)); (case hp => exact (Reps.c5 (show Kd.FK (SR.fixT f_ w w0.heap.size okM_ k57) _ _ ((⟨l1_0, a1_1, a1_2, a1_3, l1_4⟩ : S57), l0.length) [.slice A1_0 l1_0.length c1_0, .bool a1_1, .string a1_2, .int .i64 a1_3, .slice A1_4 l1_4.length c1_4] from SR.FK_fix (d := k57) (show Kd.FK k57 _ _ (⟨l1_0, a1_1, a1_2, a1_3, l1_4⟩ : S57) [.slice A1_0 l1_0.length c1_0, .bool a1_1, .string a1_2, .int .i64 a1_3, .slice A1_4 l1_4.length c1_4] from (k57_mkF _ _ (⟨l1_0, a1_1, a1_2, a1_3, l1_4⟩ : S57) (Kd.V_reads' (Kd.V_mono (ok' := (fun k_ => ((P0_ k_ \/ P1_0_ k_ \/ P1_4_ k_) \/ w.heap.size <= k_) /\ some k_ ≠ (v53 : Value).ownBlock /\ k_ ≠ gb45)) (HO_521000.out) (fun k_ hk => ⟨hk.1.1, ⟨hk.2, hk.1.2⟩⟩))).2.1 (Kd.V_F (Kd.V_mono (ok' := (fun k_ => ((P0_ k_ \/ P1_0_ k_ \/ P1_4_ k_) \/ w.heap.size <= k_) /\ some k_ ≠ (v53 : Value).ownBlock /\ k_ ≠ gb45)) (HO_521000.out) (fun k_ hk => ⟨hk.1.1, ⟨hk.2, hk.1.2⟩⟩))) (Kd.V_reads' (Kd.V_mono (ok' := (fun k_ => ((P0_ k_ \/ P1_0_ k_ \/ P1_4_ k_) \/ w.heap.size <= k_) /\ some k_ ≠ (v53 : Value).ownBlock /\ k_ ≠ gb45)) (HO_521004.out) (fun k_ hk => ⟨hk.1.1, ⟨hk.2, hk.1.2⟩⟩))).2.1 (Kd.V_F (Kd.V_mono (ok' := (fun k_ => ((P0_ k_ \/ P1_0_ k_ \/ P1_4_ k_) \/ w.heap.size <= k_) /\ some k_ ≠ (v53 : Value).ownBlock /\ k_ ≠ gb45)) (HO_521004.out) (fun k_ hk => ⟨hk.1.1, ⟨hk.2, hk.1.2⟩⟩))))) HMX.out) (Reps.none _ _)))
         intro v65 w21 ho22 hb hg_ hnew_
         clear hg_ hnew_
         (first | rw [← Nz531.out] at ho22 | (simp only [Int.reduceToNat] at ho22; rw [← Nz531.out] at ho22))
         replace HO_0 := A_ (Kd.V_elder' (vV_ HO_0.out) (kb_ ho22) hb)
         replace HO_521000 := A_ (Kd.V_elder' (vV_ HO_521000.out) (kb_ ho22) hb)
         replace HO_521004 := A_ (Kd.V_elder' (vV_ HO_521004.out) (kb_ ho22) hb)
         replace HL46_0 := A_ (Kd.V_elder' (vV_ HL46_0.out) (kb_ ho22) hb)
         replace HL46_4 := A_ (Kd.V_elder' (vV_ HL46_4.out) (kb_ ho22) hb)
         replace HO58 := A_ (Kd.V_elder' (vV_ HO58.out) (kb_ ho22) hb)
         replace HO59 := A_ (Kd.V_elder' (vV_ HO59.out) (kb_ ho22) hb)
         replace HO70 := A_ (Kd.N_elder' (vN_ HO70.out) (kb_ ho22) hb)
         have HO67 := A_ (Kd.N_lower ho22 (below_size (bG_ GE45.out)))
         replace BK45 := A_ (bw_ BK45.out hb)
         replace HB := A_ (below_step (bG_ GE45.out) hb)
         clear hb ho22
         refine hK.out _ _ (hl_ BK45.out) (fun hHeld => ?_)
         clear hK K
         refine no_ (some 27) ?_
         exact norm_ (by simp only [putAll, Act.put, List.setIfInBounds_toArray, List.set_cons_zero, List.set_cons_succ]) (hCont (v53, v65) _ ⟨hHeld, (by (with_reducible repeat (first | apply Kd.V_alloc | apply Kd.V_drewN | apply Kd.V_drew)); exact Kd.V_mono HL46_0.out (fun _ hk => ⟨hk.1.1.1, ⟨hk.1.2, ⟨hk.2, hk.1.1.2⟩⟩⟩)), (by (with_reducible repeat (first | apply Kd.V_alloc | apply Kd.V_drewN | apply Kd.V_drew)); exact Kd.V_mono HL46_4.out (fun _ hk => ⟨hk.1.1.1, ⟨hk.1.2, ⟨hk.2, hk.1.1.2⟩⟩⟩)), (by (with_reducible repeat (first | apply Kd.V_alloc | apply Kd.V_drewN | apply Kd.V_drew)); exact Kd.V_mono HO58.out (fun _ hk => ⟨hk.1.1.1, ⟨hk.1.2, ⟨hk.2, hk.1.1.2⟩⟩⟩)), (by (with_reducible repeat (first | apply Kd.N_alloc | apply Kd.N_drewN | apply Kd.N_drew)); exact Kd.N_mono HO70.out (fun _ hk => ⟨hk.1.1, ⟨hk.2, hk.1.2⟩⟩)), (vN_ HO67.out), (by (with_reducible repeat (first | apply Kd.V_alloc | apply Kd.V_drewN | apply Kd.V_drew)); exact Kd.V_mono HO59.out (fun _ hk => ⟨hk.1.1.1, ⟨hk.1.2, ⟨hk.2, hk.1.1.2⟩⟩⟩)), (by (with_reducible repeat (first | apply Kd.V_alloc | apply Kd.V_drewN | apply Kd.V_drew)); exact Kd.V_mono HO_0.out (fun _ hk => ⟨hk.1.1.1, ⟨hk.1.2, ⟨hk.2, hk.1.1.2⟩⟩⟩)), (by (with_reducible repeat (first | apply Kd.V_alloc | apply Kd.V_drewN | apply Kd.V_drew)); exact Kd.V_mono HO_521000.out (fun _ hk => ⟨hk.1.1.1, ⟨hk.1.2, ⟨hk.2, hk.1.1.2⟩⟩⟩)), (by (with_reducible repeat (first | apply Kd.V_alloc | apply Kd.V_drewN | apply Kd.V_drew)); exact Kd.V_mono HO_521004.out (fun _ hk => ⟨hk.1.1.1, ⟨hk.1.2, ⟨hk.2, hk.1.1.2⟩⟩⟩)), (vb_ BK45.out), (bG_ GE45.out)⟩)
       . skip
         refine Kd.N_lit_step (SR.fixT f_ w w0.heap.size okM_ k57) _ 57 ?hg (N' := 27) ?hd (xs := [((⟨l1_0, a1_1, a1_2, a1_3, l1_4⟩ : S57), l0.length)]) (inner := [.slice A1_0 l1_0.length c1_0, .bool a1_1, .string a1_2, .int .i64 a1_3, .slice A1_4 l1_4.length c1_4]) (ok := (fun k_ => ((P0_ k_ \/ P1_0_ k_ \/ P1_4_ k_) \/ w.heap.size <= k_) /\ k_ ≠ gb45)) (okp := (fun k_ => ((P0_ k_ \/ P1_0_ k_ \/ P1_4_ k_) \/ w.heap.size <= k_) /\ k_ ≠ gb45)) ?hr ?hp (fun _ hk => hk) ((show ∀ k_, w17.heap.size <= k_ -> (fun k_ => ((P0_ k_ \/ P1_0_ k_ \/ P1_4_ k_) \/ w.heap.size <= k_) /\ k_ ≠ gb45) k_ from fun k_ hk => ⟨(.inr (Nat.le_trans (below_size (bG_ GE45.out)) hk)), Kd.freshB (g := gb45) (o := .cells #[.slice A1_0 l1_0.length c1_0, .bool a1_1, .string a1_2, .int .i64 a1_3, .slice A1_4 l1_4.length c1_4] 57 (0, 0)) (vb_ BK45.out) k_ hk⟩) _ (Nat.le_refl _)) (Below.refl _ _) (Nat.le_refl _) (by simp) ?_; (case hd => rfl); (case hg => rfl); (case hr => first | (go_simp; done) | (go_simp; rfl)); (case hp => exact (Reps.c5 (show Kd.FK (SR.fixT f_ w w0.heap.size okM_ k57) _ _ ((⟨l1_0, a1_1, a1_2, a1_3, l1_4⟩ : S57), l0.length) [.slice A1_0 l1_0.length c1_0, .bool a1_1, .string a1_2, .int .i64 a1_3, .slice A1_4 l1_4.length c1_4] from SR.FK_fix (d := k57) (show Kd.FK k57 _ _ (⟨l1_0, a1_1, a1_2, a1_3, l1_4⟩ : S57) [.slice A1_0 l1_0.length c1_0, .bool a1_1, .string a1_2, .int .i64 a1_3, .slice A1_4 l1_4.length c1_4] from (k57_mkF _ _ (⟨l1_0, a1_1, a1_2, a1_3, l1_4⟩ : S57) (Kd.V_reads' (Kd.V_mono (ok' := (fun k_ => ((P0_ k_ \/ P1_0_ k_ \/ P1_4_ k_) \/ w.heap.size <= k_) /\ k_ ≠ gb45)) (HO_521000.out) (fun k_ hk => ⟨hk.1, hk.2⟩))).2.1 (Kd.V_F (Kd.V_mono (ok' := (fun k_ => ((P0_ k_ \/ P1_0_ k_ \/ P1_4_ k_) \/ w.heap.size <= k_) /\ k_ ≠ gb45)) (HO_521000.out) (fun k_ hk => ⟨hk.1, hk.2⟩))) (Kd.V_reads' (Kd.V_mono (ok' := (fun k_ => ((P0_ k_ \/ P1_0_ k_ \/ P1_4_ k_) \/ w.heap.size <= k_) /\ k_ ≠ gb45)) (HO_521004.out) (fun k_ hk => ⟨hk.1, hk.2⟩))).2.1 (Kd.V_F (Kd.V_mono (ok' := (fun k_ => ((P0_ k_ \/ P1_0_ k_ \/ P1_4_ k_) \/ w.heap.size <= k_) /\ k_ ≠ gb45)) (HO_521004.out) (fun k_ hk => ⟨hk.1, hk.2⟩))))) HMX.out) (Reps.none _ _)))
         intro v65 w20 ho21 hb hg_ hnew_
         clear hg_ hnew_
         (first | rw [← Nz531.out] at ho21 | (simp only [Int.reduceToNat] at ho21; rw [← Nz531.out] at ho21))
         replace HO_0 := A_ (Kd.V_elder' (vV_ HO_0.out) (kb_ ho21) hb)
         replace HO_521000 := A_ (Kd.V_elder' (vV_ HO_521000.out) (kb_ ho21) hb)
         replace HO_521004 := A_ (Kd.V_elder' (vV_ HO_521004.out) (kb_ ho21) hb)
         replace HL46_0 := A_ (Kd.V_elder' (vV_ HL46_0.out) (kb_ ho21) hb)
         replace HL46_4 := A_ (Kd.V_elder' (vV_ HL46_4.out) (kb_ ho21) hb)
         replace HO58 := A_ (Kd.V_elder' (vV_ HO58.out) (kb_ ho21) hb)
         replace HO59 := A_ (Kd.V_elder' (vV_ HO59.out) (kb_ ho21) hb)
         have HO67 := A_ (Kd.N_lower ho21 (below_size (bG_ GE45.out)))
         replace BK45 := A_ (bw_ BK45.out hb)
         replace HR46_0 := A_ (Kd.C_below (cC_ HR46_0.out) hb)
         replace HR46_4 := A_ (Kd.C_below (cC_ HR46_4.out) hb)
         replace HB := A_ (below_step (bG_ GE45.out) hb)
         clear hb ho21
         refine hK.out _ _ (hl_ BK45.out) (fun hHeld => ?_)
         clear hK K
         refine no_ (some 27) ?_
         refine on_ (i := 3) (N := some 25) (fun K hK => ?_)
         refine Kd.N_append_rows_step (SR.fixT f_ w w0.heap.size okM_ k57) (w0 := w) w.heap.size rfl (.const (.slice none 0 0)) (.tmp 24) 26 57 (.agg #[(.slice none 0 0), (.bool false), (.string ⟨#[]⟩), (.int .i64 0), (.slice none 0 0)]) 80 rfl Try.underlying26 info57 rfl (show 0 < k57.sz by decide) (by omega) (.slice none 0 0) ([] : List (S57 × Nat)) z523 _ _ _ (fun k_ => ((P0_ k_ \/ P1_0_ k_ \/ P1_4_ k_) \/ w.heap.size <= k_) /\ some k_ ≠ (v65 : Value).ownBlock /\ k_ ≠ gb45) (fun k_ => ((fun k_ => ((P0_ k_ \/ P1_0_ k_ \/ P1_4_ k_) \/ w.heap.size <= k_) /\ some k_ ≠ (v65 : Value).ownBlock /\ k_ ≠ gb45)) k_ /\ some k_ ≠ (.slice none 0 0 : Value).ownBlock) rfl rfl ?aO ?aR (fun _ hk => hk) ?aF ?aB ?aS ?aL ?_
         (case aR => exact Kd.F_mono (HZ523.out _ bB_) (fun k_ hk => ⟨⟨.inl (.inl hk.1), (fun e_ => absurd (show w.heap.size <= k_ from by first | exact Kd.N_base HO67.out k_ e_.symm | exact Kd.N_base HO70.out k_ e_.symm | exact Kd.N_base HO59.out k_ e_.symm | exact Kd.N_base HO58.out k_ e_.symm) (Nat.not_le.2 hk.2)), (fun e_ => by have := GE45.out; have := hk.2; omega)⟩, (by simp [Value.ownBlock])⟩))
         (case aB => exact (bG_ GE45.out))
         (case aF => exact (fun k_ hk => ⟨(.inr (Nat.le_trans (below_size (bG_ GE45.out)) hk)), Kd.fresh' (Kd.N_lt (vN_ HO67.out)) k_ hk, Kd.freshB (g := gb45) (o := .cells #[.slice A1_0 l1_0.length c1_0, .bool a1_1, .string a1_2, .int .i64 a1_3, .slice A1_4 l1_4.length c1_4] 57 (0, 0)) (vb_ BK45.out) k_ hk⟩))
         (case aO => exact ((Kd.N_nil _ _ _ _ (fun k_ => ((P0_ k_ \/ P1_0_ k_ \/ P1_4_ k_) \/ w.heap.size <= k_) /\ some k_ ≠ (v65 : Value).ownBlock /\ k_ ≠ gb45))))
         (case aS => exact (below_size (bG_ GE45.out)))
         (case aL => have := LMc11.out; have h523_ := Lz523.out; simp only [List.length_nil] at *; omega)
         intro v53 w22 ho hb hg hat
         rw [← Nz528.out] at ho
         replace HO_0 := A_ (Kd.V_afterv (Kd.V_apart_nil (vV_ HO_0.out)) hg hat)
         replace HO_521000 := A_ (Kd.V_afterv (Kd.V_apart_nil (vV_ HO_521000.out)) hg hat)
         replace HO_521004 := A_ (Kd.V_afterv (Kd.V_apart_nil (vV_ HO_521004.out)) hg hat)
         replace BK45 := A_ (blk_grown (g := gb45) (o := .cells #[.slice A1_0 l1_0.length c1_0, .bool a1_1, .string a1_2, .int .i64 a1_3, .slice A1_4 l1_4.length c1_4] 57 (0, 0)) (vb_ BK45.out) hg (by simp [Value.ownBlock]))
         replace HL46_0 := A_ (Kd.V_afterv (Kd.V_apart_nil (vV_ HL46_0.out)) hg hat)
         replace HL46_4 := A_ (Kd.V_afterv (Kd.V_apart_nil (vV_ HL46_4.out)) hg hat)
         replace HO58 := A_ (Kd.V_afterv (Kd.V_apart_nil (vV_ HO58.out)) hg hat)
         replace HO59 := A_ (Kd.V_afterv (Kd.V_apart_nil (vV_ HO59.out)) hg hat)
         replace HO67 := A_ (Kd.N_afterv (Kd.N_apart_nil (vN_ HO67.out)) hg hat)
         replace HB := A_ (hb)
         have HO70 := A_ (ho)
         clear ho hb hg hat
         refine hK.out _ _ (hl_ BK45.out) (fun hHeld => ?_)
         clear hK K
         refine no_ (some 25) ?_
         exact norm_ (by simp only [putAll, Act.put, List.setIfInBounds_toArray, List.set_cons_zero, List.set_cons_succ]) (hCont (v53, v65) _ ⟨hHeld, (by (with_reducible repeat (first | apply Kd.V_alloc | apply Kd.V_drewN | apply Kd.V_drew)); exact Kd.V_mono HL46_0.out (fun _ hk => ⟨hk.1.1.1, ⟨hk.2, ⟨hk.1.2, hk.1.1.2⟩⟩⟩)), (by (with_reducible repeat (first | apply Kd.V_alloc | apply Kd.V_drewN | apply Kd.V_drew)); exact Kd.V_mono HL46_4.out (fun _ hk => ⟨hk.1.1.1, ⟨hk.2, ⟨hk.1.2, hk.1.1.2⟩⟩⟩)), (by (with_reducible repeat (first | apply Kd.V_alloc | apply Kd.V_drewN | apply Kd.V_drew)); exact Kd.V_mono HO58.out (fun _ hk => ⟨hk.1.1.1, ⟨hk.2, ⟨hk.1.2, hk.1.1.2⟩⟩⟩)), (vN_ HO70.out), (by (with_reducible repeat (first | apply Kd.N_alloc | apply Kd.N_drewN | apply Kd.N_drew)); exact Kd.N_mono HO67.out (fun _ hk => ⟨hk.1.1, ⟨hk.2, hk.1.2⟩⟩)), (by (with_reducible repeat (first | apply Kd.V_alloc | apply Kd.V_drewN | apply Kd.V_drew)); exact Kd.V_mono HO59.out (fun _ hk => ⟨hk.1.1.1, ⟨hk.2, ⟨hk.1.2, hk.1.1.2⟩⟩⟩)), (by (with_reducible repeat (first | apply Kd.V_alloc | apply Kd.V_drewN | apply Kd.V_drew)); exact Kd.V_mono HO_0.out (fun _ hk => ⟨hk.1.1.1, ⟨hk.2, ⟨hk.1.2, hk.1.1.2⟩⟩⟩)), (by (with_reducible repeat (first | apply Kd.V_alloc | apply Kd.V_drewN | apply Kd.V_drew)); exact Kd.V_mono HO_521000.out (fun _ hk => ⟨hk.1.1.1, ⟨hk.2, ⟨hk.1.2, hk.1.1.2⟩⟩⟩)), (by (with_reducible repeat (first | apply Kd.V_alloc | apply Kd.V_drewN | apply Kd.V_drew)); exact Kd.V_mono HO_521004.out (fun _ hk => ⟨hk.1.1.1, ⟨hk.2, ⟨hk.1.2, hk.1.1.2⟩⟩⟩)), (vb_ BK45.out), (bG_ GE45.out)⟩)
     rintro ⟨v53, v65⟩ w23 ⟨hS_, h0_, h1_, h2_, h3_, h4_, h5_, h6_, h7_, h8_, h9_, h10_⟩
     have n0_ : Aside0 (Kd.V Kd.string 9 w23 w.heap.size (fun k_ => ((P0_ k_ \/ P1_0_ k_ \/ P1_4_ k_) \/ w.heap.size <= k_) /\ some k_ ≠ (v53 : Value).ownBlock /\ some k_ ≠ (v65 : Value).ownBlock /\ k_ ≠ gb45) (.slice A46_0 ((rd_T57 l0 x5_1).f0).length c46_0) ((rd_T57 l0 x5_1).f0)) := ⟨h0_⟩
     have n1_ : Aside0 (Kd.V k72 72 w23 w.heap.size (fun k_ => ((P0_ k_ \/ P1_0_ k_ \/ P1_4_ k_) \/ w.heap.size <= k_) /\ some k_ ≠ (v53 : Value).ownBlock /\ some k_ ≠ (v65 : Value).ownBlock /\ k_ ≠ gb45) (.slice A46_4 ((rd_T57 l0 x5_1).f4).length c46_4) ((rd_T57 l0 x5_1).f4)) := ⟨h1_⟩
     have n2_ : Aside0 (Kd.V k57 57 w23 w.heap.size (fun k_ => ((P0_ k_ \/ P1_0_ k_ \/ P1_4_ k_) \/ w.heap.size <= k_) /\ some k_ ≠ (v53 : Value).ownBlock /\ some k_ ≠ (v65 : Value).ownBlock /\ k_ ≠ gb45) (.slice (some ad46) y51.length c0) y51) := ⟨h2_⟩
     have n3_ : Aside0 (Kd.N (SR.fixT f_ w w0.heap.size okM_ k57) 57 w23 w.heap.size (fun k_ => ((P0_ k_ \/ P1_0_ k_ \/ P1_4_ k_) \/ w.heap.size <= k_) /\ some k_ ≠ (v65 : Value).ownBlock /\ k_ ≠ gb45) v53 z528) := ⟨h3_⟩
     have n4_ : Aside0 (Kd.N (SR.fixT f_ w w0.heap.size okM_ k57) 57 w23 w.heap.size (fun k_ => ((P0_ k_ \/ P1_0_ k_ \/ P1_4_ k_) \/ w.heap.size <= k_) /\ some k_ ≠ (v53 : Value).ownBlock /\ k_ ≠ gb45) v65 z531) := ⟨h4_⟩
     have n5_ : Aside0 (Kd.V k57 57 w23 w.heap.size (fun k_ => ((P0_ k_ \/ P1_0_ k_ \/ P1_4_ k_) \/ w.heap.size <= k_) /\ some k_ ≠ (v53 : Value).ownBlock /\ some k_ ≠ (v65 : Value).ownBlock /\ k_ ≠ gb45) (.slice A19 y48.length c19) y48) := ⟨h5_⟩
     have n6_ : Aside0 (Kd.V k57 57 w23 w.heap.size (fun k_ => ((P0_ k_ \/ P1_0_ k_ \/ P1_4_ k_) \/ w.heap.size <= k_) /\ some k_ ≠ (v53 : Value).ownBlock /\ some k_ ≠ (v65 : Value).ownBlock /\ k_ ≠ gb45) (.slice (some ad46) l0.length c0) l0) := ⟨h6_⟩
     have n7_ : Aside0 (Kd.V Kd.string 9 w23 w.heap.size (fun k_ => ((P0_ k_ \/ P1_0_ k_ \/ P1_4_ k_) \/ w.heap.size <= k_) /\ some k_ ≠ (v53 : Value).ownBlock /\ some k_ ≠ (v65 : Value).ownBlock /\ k_ ≠ gb45) (.slice A1_0 l1_0.length c1_0) l1_0) := ⟨h7_⟩
     have n8_ : Aside0 (Kd.V k72 72 w23 w.heap.size (fun k_ => ((P0_ k_ \/ P1_0_ k_ \/ P1_4_ k_) \/ w.heap.size <= k_) /\ some k_ ≠ (v53 : Value).ownBlock /\ some k_ ≠ (v65 : Value).ownBlock /\ k_ ≠ gb45) (.slice A1_4 l1_4.length c1_4) l1_4) := ⟨h8_⟩
     have n9_ : Aside0 (w23.heap[gb45]? = some (.cells #[.slice A1_0 l1_0.length c1_0, .bool a1_1, .string a1_2, .int .i64 a1_3, .slice A1_4 l1_4.length c1_4] 57 (0, 0))) := ⟨h9_⟩
     have n10_ : Aside0 (Below w.heap.size w w23) := ⟨h10_⟩
     clear HO_0
     clear HO_521000
     clear HO_521004
     clear HL46_0
     clear HL46_4
     clear BK45
     clear HR46_0
     clear HR46_4
     clear HB
     clear h0_ h1_ h2_ h3_ h4_ h5_ h6_ h7_ h8_ h9_ h10_
     have HL46_0 := n0_
     have HL46_4 := n1_
     have HO58 := n2_
     have HO70 := n3_
     have HO67 := n4_
     have HO59 := n5_
     have HO_0 := n6_
     have HO_521000 := n7_
     have HO_521004 := n8_
     have BK45 := n9_
     have HB := n10_
     clear n0_ n1_ n2_ n3_ n4_ n5_ n6_ n7_ n8_ n9_ n10_
     have hHeld : w23.cell? ⟨gb45, 0, none⟩ = some (.slice A1_0 l1_0.length c1_0) /\ w23.cell? ⟨gb45, 1, none⟩ = some (.bool a1_1) /\ w23.cell? ⟨gb45, 2, none⟩ = some (.string a1_2) /\ w23.cell? ⟨gb45, 3, none⟩ = some (.int .i64 a1_3) /\ w23.cell? ⟨gb45, 4, none⟩ = some (.slice A1_4 l1_4.length c1_4) := hS_
     obtain ⟨Ao25, co25, eo25⟩ := Kd.N_slice HO67.out
     (first | subst eo25 | (injection eo25 with f1_ f2_ f3_; have f4_ := f1_.symm; have f5_ := f3_.symm; clear f1_ f2_ f3_; subst f4_; subst f5_))
     refine norm_ (a' := ?_) ?_ ?_
     rotate_left
     . simp only [putAll, Act.put, List.setIfInBounds_toArray, List.set_cons_zero, List.set_cons_succ]
       rfl
     refine on_ (i := 6) (N := some 28) (fun K hK => ?_)
     refine Kd.N_append_rows_step (SR.fixT f_ w w0.heap.size okM_ k57) (w0 := w) w.heap.size (by rfl) (.tmp 25) (.tmp 27) 26 57 (.agg #[(.slice none 0 0), (.bool false), (.string ⟨#[]⟩), (.int .i64 0), (.slice none 0 0)]) 80 rfl Try.underlying26 info57 rfl (show 0 < k57.sz by decide) (by omega) v53 z528 z531 _ _ _ (fun k_ => ((P0_ k_ \/ P1_0_ k_ \/ P1_4_ k_) \/ w.heap.size <= k_) /\ k_ ≠ gb45) (fun k_ => ((fun k_ => ((P0_ k_ \/ P1_0_ k_ \/ P1_4_ k_) \/ w.heap.size <= k_) /\ k_ ≠ gb45)) k_ /\ some k_ ≠ (v53 : Value).ownBlock) rfl rfl ?aO ?aR (fun _ hk => hk) ?aF ?aB ?aS ?aL ?_
     (case aR => exact (by skip; exact Kd.N_F (Kd.N_mono (ok' := (fun k_ => ((fun k_ => ((P0_ k_ \/ P1_0_ k_ \/ P1_4_ k_) \/ w.heap.size <= k_) /\ k_ ≠ gb45)) k_ /\ some k_ ≠ (v53 : Value).ownBlock)) (HO67.out) (fun k_ hk => ⟨⟨hk.1, hk.2.2⟩, hk.2.1⟩))))
     (case aB => exact (bG_ GE45.out))
     (case aF => exact (fun k_ hk => ⟨(.inr (Nat.le_trans (below_size (bG_ GE45.out)) hk)), Kd.freshB (g := gb45) (o := .cells #[.slice A1_0 l1_0.length c1_0, .bool a1_1, .string a1_2, .int .i64 a1_3, .slice A1_4 l1_4.length c1_4] 57 (0, 0)) (vb_ BK45.out) k_ hk⟩))
     (case aO => exact (by (with_reducible repeat (first | apply Kd.N_alloc | apply Kd.N_drewN | apply Kd.N_drew)); exact Kd.N_mono HO70.out (fun _ hk => ⟨hk.1, hk.2.2⟩)))
     (case aS => exact (below_size (bG_ GE45.out)))
     (case aL => have := LMc12.out; have h528_ := Lz528.out; have h531_ := Lz531.out; simp only [List.length_nil] at *; omega)
     intro v82 w24 ho hb hg hat
     rw [← Nz534.out] at ho
     replace HO_0 := A_ (Kd.V_afterv (ok := (fun k_ => ((P0_ k_ \/ P1_0_ k_ \/ P1_4_ k_) \/ w.heap.size <= k_) /\ some k_ ≠ (.slice Ao25 z531.length co25 : Value).ownBlock /\ k_ ≠ gb45)) (by (with_reducible repeat (first | apply Kd.V_alloc | apply Kd.V_drewN | apply Kd.V_drew)); exact Kd.V_mono HO_0.out (fun _ hk => ⟨⟨hk.1, ⟨hk.2.2.1, hk.2.2.2⟩⟩, hk.2.1⟩)) hg hat)
     replace HO_521000 := A_ (Kd.V_afterv (ok := (fun k_ => ((P0_ k_ \/ P1_0_ k_ \/ P1_4_ k_) \/ w.heap.size <= k_) /\ some k_ ≠ (.slice Ao25 z531.length co25 : Value).ownBlock /\ k_ ≠ gb45)) (by (with_reducible repeat (first | apply Kd.V_alloc | apply Kd.V_drewN | apply Kd.V_drew)); exact Kd.V_mono HO_521000.out (fun _ hk => ⟨⟨hk.1, ⟨hk.2.2.1, hk.2.2.2⟩⟩, hk.2.1⟩)) hg hat)
     replace HO_521004 := A_ (Kd.V_afterv (ok := (fun k_ => ((P0_ k_ \/ P1_0_ k_ \/ P1_4_ k_) \/ w.heap.size <= k_) /\ some k_ ≠ (.slice Ao25 z531.length co25 : Value).ownBlock /\ k_ ≠ gb45)) (by (with_reducible repeat (first | apply Kd.V_alloc | apply Kd.V_drewN | apply Kd.V_drew)); exact Kd.V_mono HO_521004.out (fun _ hk => ⟨⟨hk.1, ⟨hk.2.2.1, hk.2.2.2⟩⟩, hk.2.1⟩)) hg hat)
     replace BK45 := A_ (blk_grown (g := gb45) (o := .cells #[.slice A1_0 l1_0.length c1_0, .bool a1_1, .string a1_2, .int .i64 a1_3, .slice A1_4 l1_4.length c1_4] 57 (0, 0)) (vb_ BK45.out) hg (Kd.N_away HO70.out (fun _ hk => hk.2.2)))
     replace HL46_0 := A_ (Kd.V_afterv (ok := (fun k_ => ((P0_ k_ \/ P1_0_ k_ \/ P1_4_ k_) \/ w.heap.size <= k_) /\ some k_ ≠ (.slice Ao25 z531.length co25 : Value).ownBlock /\ k_ ≠ gb45)) (by (with_reducible repeat (first | apply Kd.V_alloc | apply Kd.V_drewN | apply Kd.V_drew)); exact Kd.V_mono HL46_0.out (fun _ hk => ⟨⟨hk.1, ⟨hk.2.2.1, hk.2.2.2⟩⟩, hk.2.1⟩)) hg hat)
     replace HL46_4 := A_ (Kd.V_afterv (ok := (fun k_ => ((P0_ k_ \/ P1_0_ k_ \/ P1_4_ k_) \/ w.heap.size <= k_) /\ some k_ ≠ (.slice Ao25 z531.length co25 : Value).ownBlock /\ k_ ≠ gb45)) (by (with_reducible repeat (first | apply Kd.V_alloc | apply Kd.V_drewN | apply Kd.V_drew)); exact Kd.V_mono HL46_4.out (fun _ hk => ⟨⟨hk.1, ⟨hk.2.2.1, hk.2.2.2⟩⟩, hk.2.1⟩)) hg hat)
     replace HO58 := A_ (Kd.V_afterv (ok := (fun k_ => ((P0_ k_ \/ P1_0_ k_ \/ P1_4_ k_) \/ w.heap.size <= k_) /\ some k_ ≠ (.slice Ao25 z531.length co25 : Value).ownBlock /\ k_ ≠ gb45)) (by (with_reducible repeat (first | apply Kd.V_alloc | apply Kd.V_drewN | apply Kd.V_drew)); exact Kd.V_mono HO58.out (fun _ hk => ⟨⟨hk.1, ⟨hk.2.2.1, hk.2.2.2⟩⟩, hk.2.1⟩)) hg hat)
     replace HO59 := A_ (Kd.V_afterv (ok := (fun k_ => ((P0_ k_ \/ P1_0_ k_ \/ P1_4_ k_) \/ w.heap.size <= k_) /\ some k_ ≠ (.slice Ao25 z531.length co25 : Value).ownBlock /\ k_ ≠ gb45)) (by (with_reducible repeat (first | apply Kd.V_alloc | apply Kd.V_drewN | apply Kd.V_drew)); exact Kd.V_mono HO59.out (fun _ hk => ⟨⟨hk.1, ⟨hk.2.2.1, hk.2.2.2⟩⟩, hk.2.1⟩)) hg hat)
     replace HO67 := A_ (Kd.N_afterv (ok := (fun k_ => ((P0_ k_ \/ P1_0_ k_ \/ P1_4_ k_) \/ w.heap.size <= k_) /\ k_ ≠ gb45)) (by (with_reducible repeat (first | apply Kd.N_alloc | apply Kd.N_drewN | apply Kd.N_drew)); exact Kd.N_mono HO67.out (fun _ hk => ⟨⟨hk.1, hk.2.2⟩, hk.2.1⟩)) hg hat)
     replace HB := A_ (hb)
     have HO77 := A_ (ho)
     clear HO70
     clear ho hb hg hat
     refine hK.out _ _ (hl_ BK45.out) (fun hHeld => ?_)
     clear hK K
     refine no_ (some 28) ?_
     refine on_ (i := 10) (N := some 32) (fun K hK => ?_)
     refine Kd.N_append_rows_step (SR.fixT f_ w w0.heap.size okM_ k57) (w0 := w) w.heap.size (by rfl) (.tmp 28) (.tmp 31) 26 57 (.agg #[(.slice none 0 0), (.bool false), (.string ⟨#[]⟩), (.int .i64 0), (.slice none 0 0)]) 80 rfl Try.underlying26 info57 rfl (show 0 < k57.sz by decide) (by omega) v82 z534 z537 _ _ _ (fun k_ => ((P0_ k_ \/ P1_0_ k_ \/ P1_4_ k_) \/ w.heap.size <= k_) /\ k_ ≠ gb45) (fun k_ => ((fun k_ => ((P0_ k_ \/ P1_0_ k_ \/ P1_4_ k_) \/ w.heap.size <= k_) /\ k_ ≠ gb45)) k_ /\ some k_ ≠ (v82 : Value).ownBlock) rfl rfl ?aO ?aR (fun _ hk => hk) ?aF ?aB ?aS ?aL ?_
     (case aR => exact Kd.F_mono (HZ537.out _ bB_) (fun k_ hk => ⟨⟨.inl (.inl hk.1), (fun e_ => by have := GE45.out; have := hk.2; omega)⟩, (fun e_ => absurd (show w.heap.size <= k_ from by first | exact Kd.N_base HO77.out k_ e_.symm | exact Kd.N_base HO67.out k_ e_.symm | exact Kd.N_base HO70.out k_ e_.symm | exact Kd.N_base HO59.out k_ e_.symm | exact Kd.N_base HO58.out k_ e_.symm) (Nat.not_le.2 hk.2))⟩))
     (case aB => exact (bG_ GE45.out))
     (case aF => exact (fun k_ hk => ⟨(.inr (Nat.le_trans (below_size (bG_ GE45.out)) hk)), Kd.freshB (g := gb45) (o := .cells #[.slice A1_0 l1_0.length c1_0, .bool a1_1, .string a1_2, .int .i64 a1_3, .slice A1_4 l1_4.length c1_4] 57 (0, 0)) (vb_ BK45.out) k_ hk⟩))
     (case aO => exact (vN_ HO77.out))
     (case aS => exact (below_size (bG_ GE45.out)))
     (case aL => have := LMc15.out; have h534_ := Lz534.out; have h537_ := Lz537.out; simp only [List.length_nil] at *; omega)
     intro v86 w26 ho hb hg hat
     rw [← Nz542.out] at ho
     replace HO_0 := A_ (Kd.V_afterv (ok := (fun k_ => ((P0_ k_ \/ P1_0_ k_ \/ P1_4_ k_) \/ w.heap.size <= k_) /\ some k_ ≠ (.slice Ao25 z531.length co25 : Value).ownBlock /\ k_ ≠ gb45)) (vV_ HO_0.out) hg hat)
     replace HO_521000 := A_ (Kd.V_afterv (ok := (fun k_ => ((P0_ k_ \/ P1_0_ k_ \/ P1_4_ k_) \/ w.heap.size <= k_) /\ some k_ ≠ (.slice Ao25 z531.length co25 : Value).ownBlock /\ k_ ≠ gb45)) (vV_ HO_521000.out) hg hat)
     replace HO_521004 := A_ (Kd.V_afterv (ok := (fun k_ => ((P0_ k_ \/ P1_0_ k_ \/ P1_4_ k_) \/ w.heap.size <= k_) /\ some k_ ≠ (.slice Ao25 z531.length co25 : Value).ownBlock /\ k_ ≠ gb45)) (vV_ HO_521004.out) hg hat)
     replace BK45 := A_ (blk_grown (g := gb45) (o := .cells #[.slice A1_0 l1_0.length c1_0, .bool a1_1, .string a1_2, .int .i64 a1_3, .slice A1_4 l1_4.length c1_4] 57 (0, 0)) (vb_ BK45.out) hg (Kd.N_away HO77.out (fun _ hk => hk.2)))
     replace HL46_0 := A_ (Kd.V_afterv (ok := (fun k_ => ((P0_ k_ \/ P1_0_ k_ \/ P1_4_ k_) \/ w.heap.size <= k_) /\ some k_ ≠ (.slice Ao25 z531.length co25 : Value).ownBlock /\ k_ ≠ gb45)) (vV_ HL46_0.out) hg hat)
     replace HL46_4 := A_ (Kd.V_afterv (ok := (fun k_ => ((P0_ k_ \/ P1_0_ k_ \/ P1_4_ k_) \/ w.heap.size <= k_) /\ some k_ ≠ (.slice Ao25 z531.length co25 : Value).ownBlock /\ k_ ≠ gb45)) (vV_ HL46_4.out) hg hat)
     replace HO58 := A_ (Kd.V_afterv (ok := (fun k_ => ((P0_ k_ \/ P1_0_ k_ \/ P1_4_ k_) \/ w.heap.size <= k_) /\ some k_ ≠ (.slice Ao25 z531.length co25 : Value).ownBlock /\ k_ ≠ gb45)) (vV_ HO58.out) hg hat)
     replace HO59 := A_ (Kd.V_afterv (ok := (fun k_ => ((P0_ k_ \/ P1_0_ k_ \/ P1_4_ k_) \/ w.heap.size <= k_) /\ some k_ ≠ (.slice Ao25 z531.length co25 : Value).ownBlock /\ k_ ≠ gb45)) (vV_ HO59.out) hg hat)
     replace HO67 := A_ (Kd.N_afterv (ok := (fun k_ => ((P0_ k_ \/ P1_0_ k_ \/ P1_4_ k_) \/ w.heap.size <= k_) /\ k_ ≠ gb45)) (vN_ HO67.out) hg hat)
     replace HB := A_ (hb)
     have HO84 := A_ (ho)
     clear HO77
     clear ho hb hg hat
     refine hK.out _ _ (hl_ BK45.out) (fun hHeld => ?_)
     clear hK K
     refine no_ (some 32) ?_
     refine pu_ (i := 11) (N := some 4) ?_
     refine done_ (done_of HT_.out (by kernel_rfl)) ?_
     (try clear hHeld)
     try go_wp2
     go_ret
     exact ⟨_, rr_, by have hS_ := SR.S_of_fix (d := k57) HO84.out HB.out hB0.size (Nat.le_refl _) HLT.out.1 (by rw [Nz542.out, Nz534.out, Nz537.out, Nz528.out, Nz531.out, Nz523.out]; exact SR.put_tags _ _ _); rw [show z542.map Prod.fst = y73 from by rw [Nz542.out, Nz534.out, Nz537.out, Nz528.out, Nz531.out, Nz523.out, Ny73.out, Ny52.out, Ny48.out, Ny63.out, Ny61.out, Ny51.out]; exact SR.put_list _ _ _] at hS_; (with_reducible repeat (first | apply Kd.S_alloc | apply Kd.S_drewN | apply Kd.S_drew)); exact Kd.S_mono hS_ (fun k_ h_ => h_.elim (fun h1_ => .inl (HLT.out.2 k_ h1_)) .inr), bG_ GE45.out⟩
end Go.Proofs.Ytbgggcgjijljkaa.Q
