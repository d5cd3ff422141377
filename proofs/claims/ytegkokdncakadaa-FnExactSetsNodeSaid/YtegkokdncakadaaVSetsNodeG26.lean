/- What a reading of a struct says of its cells. No condition. -/
import Derived.Test.YtegkokdncakadaaVSetsNodeG25
import Derived.Laws.Strings
namespace Go.Proofs.Ytegkokdncakadaa.Q
open Go.RowKit Go.ChangeShapes Go.WideShapes Go.Proofs.YtegkokdncakadaaW.PrintWords Go.Proofs.Ytegkokdncakadaa
set_option linter.unusedVariables false
set_option linter.unusedSimpArgs false
theorem len3 {α : Type} {cs : List α} (h : cs.length = 3) : ∃ c0 c1 c2, cs = [c0, c1, c2] := by
  match cs, h with
  | [c0, c1, c2], _ => exact ⟨_, _, _, rfl⟩
theorem len4 {α : Type} {cs : List α} (h : cs.length = 4) : ∃ c0 c1 c2 c3, cs = [c0, c1, c2, c3] := by
  match cs, h with
  | [c0, c1, c2, c3], _ => exact ⟨_, _, _, _, rfl⟩
instance : Inhabited S37 := ⟨z37⟩
instance : Inhabited S39 := ⟨z39⟩
def G37 (x : S37) : Prop := (fun s : ByteArray => s.size <= maxLen) x.f0 /\ (fun s : ByteArray => s.size <= maxLen) x.f1 /\ (fun s : ByteArray => s.size <= maxLen) x.f2
theorem opens37 {H : Type} {enc : TypeId × Value -> H} {w : World} : Op.Opens enc Try.prog w 37 k37 G37 := by
  intro fuel cs x h
  obtain ⟨xs, n, _, _, hl, hlen, hf⟩ := DataW.trod_struct Try.underlying37 h
  replace hl : cs.length = 3 := hl.trans (by kernel_rfl)
  replace hlen : xs.length = 3 := hlen.trans (by kernel_rfl)
  obtain ⟨c0, c1, c2, rfl⟩ := len3 hl
  have hc9_ : Try.prog.cellsOf 9 = 1 := by kernel_rfl
  obtain ⟨a0, k0_, g0_⟩ : ∃ a, Kd.string.K w a [c0] /\ (fun s : ByteArray => s.size <= maxLen) a := by
    have h1 : DataW.trod enc Try.prog w 0 (fun _ => true) true n 9 (([c0, c1, c2].drop 0).take (Try.prog.cellsOf 9)) = xs[0]? := hf 0 _ rfl
    have hlt : 0 < xs.length := by omega
    rw [List.getElem?_eq_getElem hlt] at h1
    simp only [hc9_, List.drop_zero, List.drop_succ_cons, List.take_succ_cons, List.take_zero] at h1
    exact (Op.opens_string Try.underlying9) n [c0] _ h1
  obtain ⟨a1, k1_, g1_⟩ : ∃ a, Kd.string.K w a [c1] /\ (fun s : ByteArray => s.size <= maxLen) a := by
    have h1 : DataW.trod enc Try.prog w 0 (fun _ => true) true n 9 (([c0, c1, c2].drop 1).take (Try.prog.cellsOf 9)) = xs[1]? := hf 1 _ rfl
    have hlt : 1 < xs.length := by omega
    rw [List.getElem?_eq_getElem hlt] at h1
    simp only [hc9_, List.drop_zero, List.drop_succ_cons, List.take_succ_cons, List.take_zero] at h1
    exact (Op.opens_string Try.underlying9) n [c1] _ h1
  obtain ⟨a2, k2_, g2_⟩ : ∃ a, Kd.string.K w a [c2] /\ (fun s : ByteArray => s.size <= maxLen) a := by
    have h1 : DataW.trod enc Try.prog w 0 (fun _ => true) true n 9 (([c0, c1, c2].drop 2).take (Try.prog.cellsOf 9)) = xs[2]? := hf 2 _ rfl
    have hlt : 2 < xs.length := by omega
    rw [List.getElem?_eq_getElem hlt] at h1
    simp only [hc9_, List.drop_zero, List.drop_succ_cons, List.take_succ_cons, List.take_zero] at h1
    exact (Op.opens_string Try.underlying9) n [c2] _ h1
  exact ⟨⟨a0, a1, a2⟩, ⟨[c0], [c1, c2], rfl, k0_, ⟨[c1], [c2], rfl, k1_, k2_⟩⟩, ⟨g0_, g1_, g2_⟩⟩
def G39 (x : S39) : Prop := (fun _ : Bool => True) x.f0 /\ G37 x.f1
theorem opens39 {H : Type} {enc : TypeId × Value -> H} {w : World} : Op.Opens enc Try.prog w 39 k39 G39 := by
  intro fuel cs x h
  obtain ⟨xs, n, _, _, hl, hlen, hf⟩ := DataW.trod_struct Try.underlying39 h
  replace hl : cs.length = 4 := hl.trans (by kernel_rfl)
  replace hlen : xs.length = 2 := hlen.trans (by kernel_rfl)
  obtain ⟨c0, c1, c2, c3, rfl⟩ := len4 hl
  have hc4_ : Try.prog.cellsOf 4 = 1 := by kernel_rfl
  have hc37_ : Try.prog.cellsOf 37 = 3 := by kernel_rfl
  obtain ⟨a0, k0_, g0_⟩ : ∃ a, Kd.bool.K w a [c0] /\ (fun _ : Bool => True) a := by
    have h1 : DataW.trod enc Try.prog w 0 (fun _ => true) true n 4 (([c0, c1, c2, c3].drop 0).take (Try.prog.cellsOf 4)) = xs[0]? := hf 0 _ rfl
    have hlt : 0 < xs.length := by omega
    rw [List.getElem?_eq_getElem hlt] at h1
    simp only [hc4_, List.drop_zero, List.drop_succ_cons, List.take_succ_cons, List.take_zero] at h1
    exact (Op.opens_bool Try.underlying4) n [c0] _ h1
  obtain ⟨a1, k1_, g1_⟩ : ∃ a, k37.K w a [c1, c2, c3] /\ G37 a := by
    have h1 : DataW.trod enc Try.prog w 0 (fun _ => true) true n 37 (([c0, c1, c2, c3].drop 1).take (Try.prog.cellsOf 37)) = xs[1]? := hf 1 _ rfl
    have hlt : 1 < xs.length := by omega
    rw [List.getElem?_eq_getElem hlt] at h1
    simp only [hc37_, List.drop_zero, List.drop_succ_cons, List.take_succ_cons, List.take_zero] at h1
    exact opens37 n [c1, c2, c3] _ h1
  exact ⟨⟨a0, a1⟩, ⟨[c0], [c1, c2, c3], rfl, k0_, k1_⟩, ⟨g0_, g1_⟩⟩
end Go.Proofs.Ytegkokdncakadaa.Q

/- Small lemmas for plain laws over rounds: indices as lengths of what was passed, bytes' equality. No condition. -/
set_option linter.unusedSimpArgs false
set_option linter.unusedVariables false
namespace Go.Proofs.Ytegkokdncakadaa.L
open Go.RowKit Go.Proofs.YtegkokdncakadaaW.PrintWords Go.Proofs.YtegkokdncakadaaW.PrintLast
theorem ba_toList (s : ByteArray) : s.toList = s.data.toList := ByteArray.toList_eq s
theorem ba_inj {a b : ByteArray} (h : a.toList = b.toList) : a = b := by
  rw [ba_toList, ba_toList] at h
  cases a with | mk x => cases b with | mk y => congr 1; exact Array.toList_inj.1 h
theorem ba_eq {a b : ByteArray} : (a.toList = b.toList) = (a = b) := propext ⟨ba_inj, fun h => by rw [h]⟩
theorem maxLen_eq : maxLen = 9223372036854775807 := by decide
theorem wrap_id {x : Int} (h0 : -9223372036854775808 <= x) (h1 : x < 9223372036854775808) : wrap64 x = x := by
  unfold wrap64
  omega
section
variable {α : Type} {l pre suf : List α} {a : α}
theorem lt_at (h : l = pre ++ a :: suf) : ((pre.length : Nat) : Int) < (l.length : Int) := by subst h; simp; omega
theorem getD_at (d : α) (h : l = pre ++ a :: suf) : l.getD ((pre.length : Nat) : Int).toNat d = a := by subst h; simp [List.getD_eq_getElem?_getD]
theorem next_at (h : l = pre ++ a :: suf) (hl : l.length <= maxLen) : wrap64 ((pre.length : Int) + 1) = ((pre ++ [a]).length : Int) := by
  have : l.length = pre.length + 1 + suf.length := by subst h; simp; omega
  rw [maxLen_eq] at hl
  rw [wrap_id (by omega) (by omega)]
  simp
theorem snoc_at (h : l = pre ++ a :: suf) : l = (pre ++ [a]) ++ suf := by subst h; simp
theorem end_at (h : l = pre ++ []) : ¬ ((pre.length : Nat) : Int) < (l.length : Int) := by subst h; simp
theorem set_at {b : α} (h : l = pre ++ a :: suf) : l.set ((pre.length : Nat) : Int).toNat b = (pre ++ [b]) ++ suf := by subst h; simp
theorem nonneg_at (n : Nat) : (0 : Int) <= (n : Int) := Int.natCast_nonneg n
end
def Sz (g : Nat -> Option Int) (n : Int) (P : Prop) : Prop := Ev g (-1) \/ ∃ m : Int, 0 <= m /\ m <= n /\ Ev g m /\ P
theorem Sz.bind {g : Nat -> Option Int} {f : Nat -> Int -> Option Int} {n : Int} {P Q : Prop} (h : Sz g n P) (hk : ∀ m, 0 <= m -> m <= n -> P -> Sz (fun k => f k m) m Q) (hneg : Ev (fun k => f k (-1)) (-1)) : Sz (fun k => (g k).bind (f k)) n Q := by
  rcases h with h | ⟨m, h0, h1, h, hP⟩
  . exact .inl (Ev.bind h hneg)
  . rcases hk m h0 h1 hP with h2 | ⟨m', h0', h1', h2, hQ⟩
    . exact .inl (Ev.bind h h2)
    . exact .inr ⟨m', h0', by omega, Ev.bind h h2, hQ⟩
theorem Sz.sub {f : Nat -> Option Int} {n c : Int} {Q : Prop} (hc : 0 <= c) (hk : c <= n -> Sz f (n - c) Q) : Sz (fun k => if n - c < 0 then some (-1) else f k) n Q := by
  by_cases h : n - c < 0
  . simp only [if_pos h]; exact .inl (Ev.now _)
  . simp only [if_neg h]
    rcases hk (by omega) with h2 | ⟨m, h0, h1, h2, hQ⟩
    . exact .inl h2
    . exact .inr ⟨m, h0, by omega, h2, hQ⟩
theorem Sz.ev {α : Type} {g : Nat -> Option Int} {f : Nat -> Int -> Option α} {n : Int} {P : Prop} {r : α} (h : Sz g n P) (hneg : Ev (fun k => f k (-1)) r) (hk : ∀ m, 0 <= m -> m <= n -> P -> Ev (fun k => f k m) r) : Ev (fun k => (g k).bind (f k)) r := by
  rcases h with h | ⟨m, h0, h1, h, hP⟩
  . exact Ev.bind h hneg
  . exact Ev.bind h (hk m h0 h1 hP)
theorem sz_loop {α : Type} {l : List α} {P : α -> Prop} (g : Nat -> Int -> Int -> Option Int)
    (hend : ∀ n, Ev (fun k => g k n l.length) n)
    (hstep : ∀ pre a suf n, l = pre ++ a :: suf -> 0 <= n -> n <= 1048576 -> Ev (fun k => g k n (pre.length : Int)) (-1) \/ ∃ m, 0 <= m /\ m <= n /\ P a /\ ∀ r, Ev (fun k => g k m ((pre ++ [a]).length : Int)) r -> Ev (fun k => g k n (pre.length : Int)) r) :
    ∀ (suf pre : List α) (n : Int), l = pre ++ suf -> 0 <= n -> n <= 1048576 -> Sz (fun k => g k n (pre.length : Int)) n (∀ a ∈ suf, P a) := by
  intro suf
  induction suf with
  | nil =>
    intro pre n h h0 h1
    have := hend n
    rw [h, List.append_nil] at this
    exact .inr ⟨n, h0, Int.le_refl _, this, by simp⟩
  | cons a suf ih =>
    intro pre n h h0 h1
    rcases hstep pre a suf n h h0 h1 with h2 | ⟨m, hm0, hm1, hP, hr⟩
    . exact .inl h2
    . rcases ih (pre ++ [a]) m (snoc_at h) hm0 (by omega) with h3 | ⟨m', hm0', hm1', h3, h4⟩
      . exact .inl (hr _ h3)
      . exact .inr ⟨m', hm0', by omega, hr _ h3, fun x hx => by
          rcases List.mem_cons.1 hx with rfl | hx
          . exact hP
          . exact h4 x hx⟩
theorem to_loop {α β : Type} {l : List α} {f : α -> β} (g : Nat -> List β -> Int -> Option (List β))
    (hend : ∀ out, Ev (fun k => g k out l.length) out)
    (hstep : ∀ pre a suf (out : List β), l = pre ++ a :: suf -> ((pre.length : Nat) : Int) < (out.length : Int) -> ∀ r, Ev (fun k => g k (out.set ((pre.length : Nat) : Int).toNat (f a)) ((pre ++ [a]).length : Int)) r -> Ev (fun k => g k out (pre.length : Int)) r) :
    ∀ (suf pre : List α) (out rest : List β), l = pre ++ suf -> out = pre.map f ++ rest -> rest.length = suf.length -> Ev (fun k => g k out (pre.length : Int)) (l.map f) := by
  intro suf
  induction suf with
  | nil =>
    intro pre out rest h ho hr
    obtain rfl : rest = [] := by simpa using hr
    have := hend out
    rw [h, List.append_nil] at this ⊢
    rw [ho, List.append_nil] at this ⊢
    exact this
  | cons a suf ih =>
    intro pre out rest h ho hr
    obtain ⟨b, rest, rfl⟩ : ∃ b r, rest = b :: r := by
      cases rest with
      | nil => simp at hr
      | cons b r => exact ⟨b, r, rfl⟩
    have hlen : ((pre.length : Nat) : Int) < (out.length : Int) := by rw [ho]; simp; omega
    refine hstep pre a suf out h hlen _ (ih (pre ++ [a]) _ rest (snoc_at h) ?_ (by simpa using hr))
    rw [ho]
    simp [List.set_append]
theorem eq_loop {α : Type} [DecidableEq α] {a b : List α} (g : Nat -> Int -> Option Bool)
    (hend : Ev (fun k => g k a.length) true)
    (hstep : ∀ pre x su pre' y sv, a = pre ++ x :: su -> b = pre' ++ y :: sv -> pre.length = pre'.length -> (x ≠ y -> Ev (fun k => g k (pre.length : Int)) false) /\ (x = y -> ∀ r, Ev (fun k => g k ((pre ++ [x]).length : Int)) r -> Ev (fun k => g k (pre.length : Int)) r)) :
    ∀ (su sv pu pv : List α), a = pu ++ su -> b = pv ++ sv -> pu.length = pv.length -> su.length = sv.length -> Ev (fun k => g k (pu.length : Int)) (decide (su = sv)) := by
  intro su
  induction su with
  | nil =>
    intro sv pu pv h h' hp hs
    obtain rfl : sv = [] := by simpa using hs.symm
    rw [h, List.append_nil] at hend
    exact hend
  | cons x su ih =>
    intro sv pu pv h h' hp hs
    cases sv with
    | nil => simp at hs
    | cons y sv =>
      obtain ⟨h1, h2⟩ := hstep pu x su pv y sv h h' hp
      by_cases e : x = y
      . have h3 := h2 e _ (ih sv (pu ++ [x]) (pv ++ [y]) (snoc_at h) (snoc_at h') (by simp [hp]) (by simpa using hs))
        simp only [e, List.cons.injEq, true_and]
        exact h3
      . rw [show decide (x :: su = y :: sv) = false from decide_eq_false (fun h => e (List.cons.inj h).1)]
        exact h1 e
end Go.Proofs.Ytegkokdncakadaa.L

/- The laws' marks on lists of texts: what they write, and that it is found again. No condition. -/
set_option linter.unusedSimpArgs false
set_option linter.unusedVariables false
namespace Go.Proofs.Ytegkokdncakadaa.L
open Go.RowKit Go.Proofs.YtegkokdncakadaaW.PrintWords Go.Proofs.YtegkokdncakadaaW.PrintLast Go.Proofs.Ytegkokdncakadaa.Q
theorem strOfNums_size (n : Int) : (strOfNums [n]).size = 1 := rfl
theorem mark_loop : ∀ (d : Nat) (k : Nat) (i : Int) (s : ByteArray), 0 <= i -> i < 10 ^ d -> i < 9223372036854775808 -> d < k -> s.size + d + 1 <= 9223372036854775807 -> ∃ t, laws_markText.l0 k i s = some t := by
  intro d
  induction d with
  | zero =>
    intro k i s h0 h1 hb hk hs
    obtain ⟨k, rfl⟩ : ∃ m, k = m + 1 := ⟨k - 1, by omega⟩
    simp only [laws_markText.l0]
    rw [if_neg (by simp at h1; omega), if_pos (by omega)]
    exact ⟨_, rfl⟩
  | succ d ih =>
    intro k i s h0 h1 hb hk hs
    obtain ⟨k, rfl⟩ : ∃ m, k = m + 1 := ⟨k - 1, by omega⟩
    simp only [laws_markText.l0, Option.bind_some]
    by_cases hi : i > 0
    . rw [if_pos hi, if_pos (by rw [strOfNums_size]; omega)]
      have hd : Int.tdiv i 10 = i / 10 := Int.tdiv_eq_ediv_of_nonneg h0
      have hq : 0 <= i / 10 /\ i / 10 <= i := ⟨by omega, by omega⟩
      rw [hd, wrap_id (by omega) (by omega)]
      refine ih k _ _ hq.1 ?_ (by omega) (by omega) ?_
      . rw [Int.pow_succ] at h1; omega
      . rw [ByteArray.size_append, strOfNums_size]; omega
    . rw [if_neg hi, if_pos (by omega)]
      exact ⟨_, rfl⟩
theorem mark_some {i : Int} (h0 : 0 <= i) (h1 : i < 1152921504606846976) : ∃ t, ∀ k, 32 <= k -> laws_markText.f k i = some t := by
  have h : ∃ t, laws_markText.f 32 i = some t := by
    unfold laws_markText.f
    by_cases e : i <= 0
    . rw [if_pos e]; exact ⟨_, rfl⟩
    . rw [if_neg e]
      exact mark_loop 19 32 i _ h0 (by omega) (by omega) (by omega) (by show 0 + 19 + 1 <= _; omega)
  obtain ⟨t, ht⟩ := h
  exact ⟨t, fun k hk => at_rounds (fun k => laws_markText.mono i k) hk ht⟩
noncomputable def mt (i : Int) : ByteArray := by
  classical
  exact if h : 0 <= i /\ i < 1152921504606846976 then Classical.choose (mark_some h.1 h.2) else ⟨#[]⟩
theorem mt_spec {i : Int} (h0 : 0 <= i) (h1 : i < 1152921504606846976) {k : Nat} (hk : 32 <= k) : laws_markText.f k i = some (mt i) := by
  unfold mt
  rw [dif_pos ⟨h0, h1⟩]
  exact Classical.choose_spec (mark_some h0 h1) k hk
theorem mt_ev {i : Int} (h0 : 0 <= i) (h1 : i < 1152921504606846976) : Ev (fun k => laws_markText.f k i) (mt i) := ⟨32, fun _ hk => mt_spec h0 h1 hk⟩
end Go.Proofs.Ytegkokdncakadaa.L

/- Nodes: what is equal, what marks write, and that it is found again. No condition. -/
set_option linter.unusedSimpArgs false
set_option linter.unusedVariables false
namespace Go.Proofs.Ytegkokdncakadaa.L
open Go.RowKit Go.Proofs.YtegkokdncakadaaW.PrintWords Go.Proofs.YtegkokdncakadaaW.PrintLast Go.Proofs.Ytegkokdncakadaa.Q
theorem rd_implNode {l pre suf : List S26} {a : S26} (h : l = pre ++ a :: suf) : rd_T26 l (pre.length : Int) = a := getD_at _ h
def SmT : Nat -> List S26 -> Prop
  | 0, l => l = []
  | n + 1, l => l.length <= 1048576 /\ ∀ a ∈ l, SmT n a.f3
def cntT : Nat -> List S26 -> Int
  | 0, _ => 0
  | n + 1, l => (l.map (fun a => 3 + cntT n a.f3)).sum
theorem cntT_nonneg : ∀ (n : Nat) (l : List S26), 0 <= cntT n l
  | 0, _ => Int.le_refl _
  | n + 1, l => by
    unfold cntT
    induction l with
    | nil => simp
    | cons a l ih =>
      have := cntT_nonneg n a.f3
      rw [List.map_cons, List.sum_cons]
      omega
theorem mhT : ∀ (n : Nat) (l : List S26) (i : Int), SmT n l -> 0 <= i -> i + cntT n l <= 70368744177664 ->
    ∃ l', l'.length = l.length /\ Ev (fun k => laws_markNodeS.l0 k l i 0) (i + cntT n l, l') /\ Ev (fun k => laws_heldNodeS.l0 k l' i 0) (i + cntT n l) := by
  intro n
  induction n with
  | zero =>
    intro l i hs h0 h1
    obtain rfl : l = [] := hs
    refine ⟨[], rfl, ?_, ?_⟩
    . refine Ev.step (fun k => laws_markNodeS.l0.eq_2 ..) ?_
      simp only [List.length_nil, Int.natCast_zero, Int.lt_irrefl, if_false, cntT, Int.add_zero]
      exact Ev.now _
    . refine Ev.step (fun k => laws_heldNodeS.l0.eq_2 ..) ?_
      simp only [List.length_nil, Int.natCast_zero, Int.lt_irrefl, if_false, cntT, Int.add_zero]
      exact Ev.now _
  | succ n ihn =>
    intro l i hs h0 h1
    obtain ⟨hl, hk⟩ := hs
    have key : ∀ (suf : List S26) (i : Int), (∀ a ∈ suf, SmT n a.f3) -> 0 <= i -> i + cntT (n + 1) suf <= 70368744177664 -> ∃ suf', suf'.length = suf.length /\
        (∀ pre : List S26, (pre ++ suf).length <= 1048576 -> Ev (fun k => laws_markNodeS.l0 k (pre ++ suf) i pre.length) (i + cntT (n + 1) suf, pre ++ suf')) /\
        (∀ pre : List S26, (pre ++ suf').length <= 1048576 -> Ev (fun k => laws_heldNodeS.l0 k (pre ++ suf') i pre.length) (i + cntT (n + 1) suf)) := by
      intro suf
      induction suf with
      | nil =>
        intro i _ h0 h1
        refine ⟨[], rfl, fun pre hp => ?_, fun pre hp => ?_⟩
        . refine Ev.step (fun k => laws_markNodeS.l0.eq_2 ..) ?_
          simp only [List.append_nil, Int.lt_irrefl, if_false, cntT, List.map_nil, List.sum_nil, Int.add_zero]
          exact Ev.now _
        . refine Ev.step (fun k => laws_heldNodeS.l0.eq_2 ..) ?_
          simp only [List.append_nil, Int.lt_irrefl, if_false, cntT, List.map_nil, List.sum_nil, Int.add_zero]
          exact Ev.now _
      | cons a suf ih =>
        intro i hp h0 h1
        have hc : cntT (n + 1) (a :: suf) = 3 + cntT n a.f3 + cntT (n + 1) suf := by
          show ((a :: suf).map (fun a => 3 + cntT n a.f3)).sum = _
          rw [List.map_cons, List.sum_cons]; rfl
        have c0 := cntT_nonneg n a.f3
        have c1 := cntT_nonneg (n + 1) suf
        rw [hc] at h1 ⊢
        have w1 : wrap64 (i + 1) = i + 1 := wrap_id (by omega) (by omega)
        have w2 : wrap64 (i + 1 + 1) = i + 1 + 1 := wrap_id (by omega) (by omega)
        have w3 : wrap64 (i + 1 + 1 + 1) = i + 1 + 1 + 1 := wrap_id (by omega) (by omega)
        obtain ⟨kids', _, hmk, hhd⟩ := ihn a.f3 (i + 1 + 1 + 1) (hp a (by simp)) (by omega) (by omega)
        obtain ⟨suf', hl', hmk2, hhd2⟩ := ih (i + 1 + 1 + 1 + cntT n a.f3) (fun x hx => hp x (by simp [hx])) (by omega) (by omega)
        have he : i + (3 + cntT n a.f3 + cntT (n + 1) suf) = i + 1 + 1 + 1 + cntT n a.f3 + cntT (n + 1) suf := by omega
        rw [he]
        refine ⟨⟨mt i, mt (i + 1), mt (i + 1 + 1), kids'⟩ :: suf', by simp [hl'], fun pre hpre => ?_, fun pre hpre => ?_⟩
        . have h : pre ++ a :: suf = pre ++ a :: suf := rfl
          have hx : (pre ++ a :: suf).length <= maxLen := by rw [maxLen_eq]; omega
          refine Ev.step (fun k => laws_markNodeS.l0.eq_2 ..) ?_
          simp only [if_pos (lt_at h), if_pos (nonneg_at _), rd_implNode h, w1, w2, w3]
          refine Ev.bind (mt_ev (by omega) (by omega)) ?_
          refine Ev.bind (mt_ev (by omega) (by omega)) ?_
          refine Ev.bind (mt_ev (by omega) (by omega)) ?_
          refine Ev.bind hmk ?_
          simp only [set_at h, next_at h hx]
          have := hmk2 (pre ++ [⟨mt i, mt (i + 1), mt (i + 1 + 1), kids'⟩]) (by simp at hpre ⊢; omega)
          simpa using this
        . have h : pre ++ (⟨mt i, mt (i + 1), mt (i + 1 + 1), kids'⟩ : S26) :: suf' = pre ++ (⟨mt i, mt (i + 1), mt (i + 1 + 1), kids'⟩ : S26) :: suf' := rfl
          have hx : (pre ++ (⟨mt i, mt (i + 1), mt (i + 1 + 1), kids'⟩ : S26) :: suf').length <= maxLen := by rw [maxLen_eq]; omega
          refine Ev.step (fun k => laws_heldNodeS.l0.eq_2 ..) ?_
          simp only [if_pos (lt_at h), if_pos (nonneg_at _), rd_implNode h, w1, w2, w3]
          refine Ev.bind (mt_ev (by omega) (by omega)) ?_
          simp only [if_true]
          refine Ev.bind (mt_ev (by omega) (by omega)) ?_
          simp only [if_true]
          refine Ev.bind (mt_ev (by omega) (by omega)) ?_
          simp only [if_true]
          refine Ev.bind (Ev.step (fun k => laws_heldNodeS.f.eq_2 ..) hhd) ?_
          simp only [if_neg (show ¬ i + 1 + 1 + 1 + cntT n a.f3 < 0 by omega), next_at h hx]
          have := hhd2 (pre ++ [⟨mt i, mt (i + 1), mt (i + 1 + 1), kids'⟩]) (by simp at hpre ⊢; omega)
          simpa using this
    obtain ⟨l', e1, e2, e3⟩ := key l i hk h0 h1
    refine ⟨l', e1, ?_, ?_⟩
    . simpa using e2 [] (by simpa using hl)
    . simpa using e3 [] (by simpa [e1] using hl)
theorem eqT0 : ∀ (n : Nat) (l : List S26), SmT n l -> Ev (fun k => laws_eqNodeS.l0 k l l 0) true := by
  intro n
  induction n with
  | zero =>
    intro l hs
    obtain rfl : l = [] := hs
    refine Ev.step (fun k => laws_eqNodeS.l0.eq_2 ..) ?_
    simp only [List.length_nil, Int.natCast_zero, Int.lt_irrefl, if_false]
    exact Ev.now _
  | succ n ihn =>
    intro l hs
    obtain ⟨hl, hk⟩ := hs
    have hx : l.length <= maxLen := by rw [maxLen_eq]; omega
    have key : ∀ (suf pre : List S26), l = pre ++ suf -> Ev (fun k => laws_eqNodeS.l0 k l l pre.length) true := by
      intro suf
      induction suf with
      | nil =>
        intro pre h
        refine Ev.step (fun k => laws_eqNodeS.l0.eq_2 ..) ?_
        simp only [if_neg (end_at h)]
        exact Ev.now _
      | cons a suf ih =>
        intro pre h
        refine Ev.step (fun k => laws_eqNodeS.l0.eq_2 ..) ?_
        simp only [if_pos (lt_at h), if_pos (nonneg_at _), rd_implNode h, eqNode_, if_true, next_at h hx]
        have h1 : Ev (fun k => (laws_eqNodeS.l0 k a.f3 a.f3 0).bind fun t => if t = true then some true else some false) true := Ev.bind (ihn a.f3 (hk a (by rw [h]; simp))) (by simp only [if_true]; exact Ev.now _)
        refine Ev.bind h1 ?_
        simp only [if_true]
        exact ih (pre ++ [a]) (snoc_at h)
    exact key l [] rfl
theorem eqT {n : Nat} {l : List S26} (h : SmT n l) (a b c : ByteArray) : Ev (fun k => laws_eqNode.f k a b c l a b c l) true := by
  unfold laws_eqNode.f laws_eqNodeS.f
  simp only [if_true]
  exact Ev.bind (eqT0 n l h) (by simp only [if_true]; exact Ev.now _)
end Go.Proofs.Ytegkokdncakadaa.L

/- The laws' own functions over a mirrored struct (Prop): size, copy, equality. No condition. -/
set_option linter.unusedSimpArgs false
set_option linter.unusedVariables false
namespace Go.Proofs.Ytegkokdncakadaa.L
open Go.RowKit Go.Proofs.YtegkokdncakadaaW.PrintWords Go.Proofs.YtegkokdncakadaaW.PrintLast Go.Proofs.Ytegkokdncakadaa.Q
instance : DecidableEq S40 := fun a b => if h : a.f0 = b.f0 /\ a.f1 = b.f1 /\ a.f2 = b.f2 then .isTrue (by cases a; cases b; simp_all) else .isFalse (fun e => h (by rw [e]; exact ⟨rfl, rfl, rfl⟩))
def toProp (p : S37) : S40 := ⟨p.f0, p.f1, p.f2⟩
def SmProp (p : S40) : Prop := p.f0.size <= 1048576 /\ p.f1.size <= 1048576 /\ p.f2.size <= 1048576
def GGProp (x : S37) : Prop := x.f0.size <= maxLen /\ x.f1.size <= maxLen /\ x.f2.size <= maxLen
theorem szProp {p : S37} (hp : GGProp p) {n : Int} (h0 : 0 <= n) (h1 : n <= 1048576) : Sz (fun k => laws_szProp.f p.f0 p.f1 p.f2 n) n (SmProp (toProp p)) := by
  obtain ⟨g0, g1, g2⟩ := hp
  unfold laws_szProp.f
  have e0 := wrap_id (x := n - (p.f0.size : Int)) (by rw [maxLen_eq] at g0; omega) (by omega)
  simp only [e0]
  refine Sz.sub (by omega) (fun c0 => ?_)
  obtain ⟨n0, hn0⟩ : ∃ m, m = n - (p.f0.size : Int) := ⟨_, rfl⟩
  simp only [← hn0]
  have e1 := wrap_id (x := n0 - (p.f1.size : Int)) (by rw [maxLen_eq] at g1; omega) (by omega)
  simp only [e1]
  refine Sz.sub (by omega) (fun c1 => ?_)
  obtain ⟨n1, hn1⟩ : ∃ m, m = n0 - (p.f1.size : Int) := ⟨_, rfl⟩
  simp only [← hn1]
  have e2 := wrap_id (x := n1 - (p.f2.size : Int)) (by rw [maxLen_eq] at g2; omega) (by omega)
  simp only [e2]
  refine Sz.sub (by omega) (fun c2 => ?_)
  obtain ⟨n2, hn2⟩ : ∃ m, m = n1 - (p.f2.size : Int) := ⟨_, rfl⟩
  simp only [← hn2]
  exact .inr ⟨n2, by omega, by omega, Ev.now _, by show p.f0.size <= 1048576; omega, by show p.f1.size <= 1048576; omega, by show p.f2.size <= 1048576; omega⟩
theorem toProp1 {p : S37} (hp : SmProp (toProp p)) : Ev (fun k => laws_toProp.f p.f0 p.f1 p.f2) (p.f0, p.f1, p.f2) := by
  obtain ⟨g0, g1, g2⟩ := hp
  unfold laws_toProp.f
  exact Ev.now _
theorem eqProp1 {p q : S40} (hp : SmProp p) : Ev (fun k => laws_eqProp.f p.f0 p.f1 p.f2 q.f0 q.f1 q.f2) (decide (p = q)) := by
  obtain ⟨g0, g1, g2⟩ := hp
  unfold laws_eqProp.f
  by_cases e0 : p.f0 = q.f0
  rotate_left
  . rw [show decide (p = q) = false from decide_eq_false (fun h => e0 (by rw [h]))]
    simp only [ba_eq, e0, bne_iff_ne, ne_eq, not_false_eq_true, not_true_eq_false, if_true, if_false]
    exact Ev.now _
  simp only [ba_eq, e0, bne_self_eq_false, Bool.false_eq_true, if_true, if_false]
  by_cases e1 : p.f1 = q.f1
  rotate_left
  . rw [show decide (p = q) = false from decide_eq_false (fun h => e1 (by rw [h]))]
    simp only [ba_eq, e1, bne_iff_ne, ne_eq, not_false_eq_true, not_true_eq_false, if_true, if_false]
    exact Ev.now _
  simp only [ba_eq, e1, bne_self_eq_false, Bool.false_eq_true, if_true, if_false]
  by_cases e2 : p.f2 = q.f2
  rotate_left
  . rw [show decide (p = q) = false from decide_eq_false (fun h => e2 (by rw [h]))]
    simp only [ba_eq, e2, bne_iff_ne, ne_eq, not_false_eq_true, not_true_eq_false, if_true, if_false]
    exact Ev.now _
  simp only [ba_eq, e2, bne_self_eq_false, Bool.false_eq_true, if_true, if_false]
  rw [show decide (p = q) = true from decide_eq_true (by cases p; cases q; simp_all)]
  exact Ev.now _
end Go.Proofs.Ytegkokdncakadaa.L

/- The laws' own functions over a mirrored struct (Set): size, copy, equality. No condition. -/
set_option linter.unusedSimpArgs false
set_option linter.unusedVariables false
namespace Go.Proofs.Ytegkokdncakadaa.L
open Go.RowKit Go.Proofs.YtegkokdncakadaaW.PrintWords Go.Proofs.YtegkokdncakadaaW.PrintLast Go.Proofs.Ytegkokdncakadaa.Q
instance : DecidableEq S42 := fun a b => if h : a.f0 = b.f0 /\ a.f1 = b.f1 then .isTrue (by cases a; cases b; simp_all) else .isFalse (fun e => h (by rw [e]; exact ⟨rfl, rfl⟩))
theorem rd_lawsSet {l pre suf : List S39} {a : S39} (h : l = pre ++ a :: suf) : rd_T39 l (pre.length : Int) = a := getD_at _ h
theorem rd_implSet {l pre suf : List S42} {a : S42} (h : l = pre ++ a :: suf) : rd_T42 l (pre.length : Int) = a := getD_at _ h
def toSet (p : S39) : S42 := ⟨p.f0, toProp p.f1⟩
def SmSet (p : S42) : Prop := True /\ SmProp p.f1
def GGSet (x : S39) : Prop := True /\ GGProp x.f1
theorem szSet {p : S39} (hp : GGSet p) {n : Int} (h0 : 0 <= n) (h1 : n <= 1048576) : Sz (fun k => laws_szSet.f p.f0 p.f1.f0 p.f1.f1 p.f1.f2 n) n (SmSet (toSet p)) := by
  obtain ⟨g0, g1⟩ := hp
  unfold laws_szSet.f
  refine Sz.bind (szProp g1 (by omega) (by omega)) (fun n1 a1 b1 s1 => ?_) (by simp only [show (-1 : Int) < 0 by omega, if_true]; exact Ev.now _)
  simp only [if_neg (show ¬ n1 < 0 by omega)]
  exact .inr ⟨n1, by omega, by omega, Ev.now _, trivial, s1⟩
theorem toSet1 {p : S39} (hp : SmSet (toSet p)) : Ev (fun k => laws_toSet.f p.f0 p.f1.f0 p.f1.f1 p.f1.f2) (p.f0, (toProp p.f1).f0, (toProp p.f1).f1, (toProp p.f1).f2) := by
  obtain ⟨g0, g1⟩ := hp
  unfold laws_toSet.f
  refine Ev.bind (toProp1 (p := p.f1) (by simpa only [toSet] using g1)) ?_
  exact Ev.now _
theorem eqSet1 {p q : S42} (hp : SmSet p) : Ev (fun k => laws_eqSet.f p.f0 p.f1.f0 p.f1.f1 p.f1.f2 q.f0 q.f1.f0 q.f1.f1 q.f1.f2) (decide (p = q)) := by
  obtain ⟨g0, g1⟩ := hp
  unfold laws_eqSet.f
  by_cases e0 : p.f0 = q.f0
  rotate_left
  . rw [show decide (p = q) = false from decide_eq_false (fun h => e0 (by rw [h]))]
    simp only [ba_eq, e0, bne_iff_ne, ne_eq, not_false_eq_true, not_true_eq_false, if_true, if_false]
    exact Ev.now _
  simp only [ba_eq, e0, bne_self_eq_false, Bool.false_eq_true, if_true, if_false]
  refine Ev.bind (eqProp1 g1) ?_
  by_cases e1 : p.f1 = q.f1
  rotate_left
  . rw [show decide (p = q) = false from decide_eq_false (fun h => e1 (by rw [h]))]
    simp only [e1, decide_false, Bool.false_eq_true, if_false]
    exact Ev.now _
  simp only [e1, decide_true, if_true]
  rw [show decide (p = q) = true from decide_eq_true (by cases p; cases q; simp_all)]
  exact Ev.now _
def SmSets (l : List S42) : Prop := l.length <= 1048576 /\ ∀ p ∈ l, SmSet p
theorem szSetS {l : List S39} (hl : l.length <= maxLen) (hs : ∀ s ∈ l, GGSet s) {n : Int} (h0 : 0 <= n) (h1 : n <= 1048576) : Sz (fun k => laws_szSetS.f k l n) n (SmSets (l.map toSet)) := by
  have hl' := hl
  rw [maxLen_eq] at hl'
  unfold laws_szSetS.f
  simp only [wrap_id (x := n - (l.length : Int)) (by omega) (by omega)]
  refine Sz.sub (by omega) (fun hlt => ?_)
  have key : Sz (fun k => laws_szSetS.l0 k l (n - l.length) 0) (n - l.length) (∀ p ∈ l, SmSet (toSet p)) := by
    refine sz_loop (l := l) (P := fun p => SmSet (toSet p)) (fun k n i => laws_szSetS.l0 k l n i) ?_ ?_ l [] (n - l.length) rfl (by omega) (by omega)
    . intro n
      refine Ev.step (fun k => laws_szSetS.l0.eq_2 ..) ?_
      simp only [Int.lt_irrefl, if_false]
      exact Ev.now _
    . intro pre a suf n h h0 h1
      rcases szSet (hs a (by rw [h]; simp)) h0 h1 with h2 | ⟨m, hm0, hm1, h2, h3⟩
      . left
        refine Ev.step (fun k => laws_szSetS.l0.eq_2 ..) ?_
        simp only [if_pos (lt_at h), if_pos (nonneg_at _), rd_lawsSet h]
        refine Ev.bind h2 ?_
        simp only [show (-1 : Int) < 0 by omega, if_true]
        exact Ev.now _
      . refine .inr ⟨m, hm0, hm1, h3, fun r hr => ?_⟩
        refine Ev.step (fun k => laws_szSetS.l0.eq_2 ..) ?_
        simp only [if_pos (lt_at h), if_pos (nonneg_at _), rd_lawsSet h]
        refine Ev.bind h2 ?_
        simp only [if_neg (show ¬ m < 0 by omega), next_at h hl]
        exact hr
  rcases key with h | ⟨m, hm0, hm1, h2, h3⟩
  . exact .inl h
  . refine .inr ⟨m, hm0, hm1, h2, by simp; omega, fun p hp => ?_⟩
    obtain ⟨q, hq, rfl⟩ := List.mem_map.1 hp
    exact h3 q hq
theorem toSetS {p : List S39} (hp : SmSets (p.map toSet)) : Ev (fun k => laws_toSetS.f k p) (p.map toSet) := by
  obtain ⟨hl0, hs⟩ := hp
  rw [List.length_map] at hl0
  have hl2 : p.length <= maxLen := by rw [maxLen_eq]; omega
  unfold laws_toSetS.f
  simp only [if_pos (nonneg_at _), Int.toNat_natCast, if_pos (show p.length <= 5026338869833 by omega)]
  refine to_loop (l := p) (f := toSet) (fun k out i => laws_toSetS.l0 k p out i) ?_ ?_ p [] _ (List.replicate p.length z42) rfl rfl (by simp)
  . intro out
    refine Ev.step (fun k => laws_toSetS.l0.eq_2 ..) ?_
    simp only [Int.lt_irrefl, if_false]
    exact Ev.now _
  . intro pre a suf out h ho r hr
    refine Ev.step (fun k => laws_toSetS.l0.eq_2 ..) ?_
    simp only [if_pos (lt_at h), if_pos (nonneg_at _), rd_lawsSet h]
    refine Ev.bind (toSet1 (hs _ (List.mem_map.2 ⟨a, by rw [h]; simp, rfl⟩))) ?_
    simp only [if_pos ho, next_at h hl2]
    exact hr
theorem eqSetS {a b : List S42} (ha : SmSets a) : Ev (fun k => laws_eqSetS.f k a b) (decide (a = b)) := by
  have hl : a.length <= maxLen := by have := ha.1; rw [maxLen_eq]; omega
  unfold laws_eqSetS.f
  by_cases e : (a.length : Int) = (b.length : Int)
  . simp only [if_pos e]
    refine eq_loop (a := a) (b := b) (fun k i => laws_eqSetS.l0 k a b i) ?_ ?_ a b [] [] rfl rfl rfl (by omega)
    . refine Ev.step (fun k => laws_eqSetS.l0.eq_2 ..) ?_
      simp only [Int.lt_irrefl, if_false]
      exact Ev.now _
    . intro pre x su pre' y sv h h' hp
      have h3 := rd_implSet h'
      have h4 := lt_at h'
      rw [← hp] at h3 h4
      have h5 := eqSet1 (q := y) (ha.2 x (by rw [h]; simp))
      refine ⟨fun hne => ?_, fun heq r hr => ?_⟩
      . refine Ev.step (fun k => laws_eqSetS.l0.eq_2 ..) ?_
        simp only [if_pos (lt_at h), if_pos (nonneg_at _), if_pos h4, rd_implSet h, h3]
        refine Ev.bind h5 ?_
        simp only [hne, decide_false, Bool.false_eq_true, if_false]
        exact Ev.now _
      . refine Ev.step (fun k => laws_eqSetS.l0.eq_2 ..) ?_
        simp only [if_pos (lt_at h), if_pos (nonneg_at _), if_pos h4, rd_implSet h, h3]
        refine Ev.bind h5 ?_
        simp only [heq, decide_true, if_true, next_at h hl]
        rw [heq] at hr
        exact hr
  . simp only [if_neg e]
    rw [show decide (a = b) = false from decide_eq_false (fun h => e (by rw [h]))]
    exact Ev.now _
end Go.Proofs.Ytegkokdncakadaa.L

/- Sets told as nodes: what both make. No condition. -/
set_option linter.unusedSimpArgs false
set_option linter.unusedVariables false
namespace Go.Proofs.Ytegkokdncakadaa.L
open Go.RowKit Go.Proofs.YtegkokdncakadaaW.PrintWords Go.Proofs.YtegkokdncakadaaW.PrintLast Go.Proofs.Ytegkokdncakadaa.Q
theorem setsE {l : List S42} (hl : l.length <= 1048576) : Ev (fun k => setsNode_ k l 0 []) (l.map setNode_) := by
  have hx : l.length <= maxLen := by rw [maxLen_eq]; omega
  have key : ∀ (suf pre : List S42), l = pre ++ suf -> Ev (fun k => setsNode_ k l pre.length (pre.map setNode_)) (l.map setNode_) := by
    intro suf
    induction suf with
    | nil =>
      intro pre h
      refine Ev.step (fun k => setsNode_.eq_2 ..) ?_
      simp only [if_neg (end_at h)]
      rw [h, List.append_nil]
      exact Ev.now _
    | cons a suf ih =>
      intro pre h
      have : pre.length < 1954687338268 := by have := congrArg List.length h; rw [List.length_append, List.length_cons] at this; omega
      refine Ev.step (fun k => setsNode_.eq_2 ..) ?_
      simp only [if_pos (lt_at h), if_pos (nonneg_at _), rd_implSet h, next_at h hx, List.length_map, if_pos this]
      have := ih (pre ++ [a]) (snoc_at h)
      simpa using this
  exact key l [] rfl
theorem setsSm {l : List S42} (hl : l.length <= 1048576) : SmT 3 (l.map setNode_) := by
  refine ⟨by rw [List.length_map]; exact hl, fun a ha => ?_⟩
  obtain ⟨s, _, rfl⟩ := List.mem_map.1 ha
  refine ⟨by show 1 <= 1048576; omega, fun b hb => ?_⟩
  obtain rfl := List.mem_singleton.1 hb
  refine ⟨by show 1 <= 1048576; omega, fun c hc => ?_⟩
  obtain rfl := List.mem_singleton.1 hc
  rfl
theorem setsCnt (l : List S42) : cntT 3 (l.map setNode_) = 9 * (l.length : Int) := by
  induction l with
  | nil => rfl
  | cons s l ih =>
    have : cntT 3 ((s :: l).map setNode_) = 9 + cntT 3 (l.map setNode_) := by
      show (((s :: l).map setNode_).map (fun a => 3 + cntT 2 a.f3)).sum = _
      rw [List.map_cons, List.map_cons, List.sum_cons]
      rfl
    rw [this, ih, List.length_cons]
    omega
end Go.Proofs.Ytegkokdncakadaa.L

/- Marks: a loop that marks. No condition. -/
set_option linter.unusedSimpArgs false
set_option linter.unusedVariables false
namespace Go.Proofs.Ytegkokdncakadaa.L
open Go.RowKit Go.Proofs.YtegkokdncakadaaW.PrintWords Go.Proofs.YtegkokdncakadaaW.PrintLast Go.Proofs.Ytegkokdncakadaa.Q
def MK {α : Type} (mk : Nat -> List α -> Int -> Option (Int × List α)) (l : List α) (i C : Int) : Prop :=
  ∃ n l', l'.length = l.length /\ i <= n /\ n <= i + C /\ Ev (fun k => mk k l i) (n, l') /\ True
theorem mk_loop {α : Type} (mk : Nat -> List α -> Int -> Int -> Option (Int × List α)) (P : α -> Prop) (C : Int) (hC : 0 <= C)
    (me : ∀ (x : List α) i, Ev (fun k => mk k x i x.length) (i, x))
    (st : ∀ a i, P a -> 0 <= i -> i + C <= 70368744177664 -> ∃ n a', i <= n /\ n <= i + C /\
      (∀ x pre suf, x = pre ++ a :: suf -> x.length <= 1048576 -> ∀ r, Ev (fun k => mk k (pre ++ a' :: suf) n ((pre ++ [a']).length : Int)) r -> Ev (fun k => mk k x i (pre.length : Int)) r)) :
    ∀ (suf : List α) (i : Int), (∀ a ∈ suf, P a) -> 0 <= i -> i + C * suf.length <= 70368744177664 -> ∃ n suf', suf'.length = suf.length /\ i <= n /\ n <= i + C * suf.length /\
      (∀ pre : List α, (pre ++ suf).length <= 1048576 -> Ev (fun k => mk k (pre ++ suf) i pre.length) (n, pre ++ suf')) := by
  intro suf
  induction suf with
  | nil =>
    intro i _ h0 h1
    refine ⟨i, [], rfl, Int.le_refl _, by simp, fun pre _ => ?_⟩
    have := me pre i; simpa using this
  | cons a suf ih =>
    intro i hP h0 h1
    have hm : C * ((a :: suf).length : Int) = C * suf.length + C := by rw [List.length_cons, Int.natCast_add, Int.mul_add]; simp
    have hp : 0 <= C * (suf.length : Int) := Int.mul_nonneg hC (Int.natCast_nonneg _)
    rw [hm] at h1 ⊢
    obtain ⟨n, a', hn0, hn1, hmk⟩ := st a i (hP a (by simp)) h0 (by omega)
    obtain ⟨n2, suf', hl, hn2, hn3, hmk2⟩ := ih n (fun x hx => hP x (by simp [hx])) (by omega) (by omega)
    refine ⟨n2, a' :: suf', by simp [hl], by omega, by omega, fun pre hpre => ?_⟩
    refine hmk _ pre suf rfl hpre _ ?_
    have := hmk2 (pre ++ [a']) (by simp at hpre ⊢; omega)
    simpa using this
end Go.Proofs.Ytegkokdncakadaa.L

/- Marks on sets. No condition. -/
set_option linter.unusedSimpArgs false
set_option linter.unusedVariables false
namespace Go.Proofs.Ytegkokdncakadaa.L
open Go.RowKit Go.Proofs.YtegkokdncakadaaW.PrintWords Go.Proofs.YtegkokdncakadaaW.PrintLast Go.Proofs.Ytegkokdncakadaa.Q
theorem mhSet {l : List S42} (hl : SmSets l) {i : Int} (h0 : 0 <= i) (h1 : i + 4194304 <= 70368744177664) : MK laws_markSetS.f l i 4194304 := by
  have hl0 := hl.1
  obtain ⟨n, l', e0, e1, e2, e3⟩ := mk_loop (fun k x i j => laws_markSetS.l0 k x i j) (fun _ => True) 4 (by omega)
    (fun x i => by
      refine Ev.step (fun k => laws_markSetS.l0.eq_2 ..) ?_
      simp only [Int.lt_irrefl, if_false]; exact Ev.now _)
    (fun a i _ h0 h1 => by
      have w1 : wrap64 (i + 1) = i + 1 := wrap_id (by omega) (by omega)
      have w2 : wrap64 (i + 1 + 1) = i + 1 + 1 := wrap_id (by omega) (by omega)
      have w3 : wrap64 (i + 1 + 1 + 1) = i + 1 + 1 + 1 := wrap_id (by omega) (by omega)
      have w4 : wrap64 (i + 1 + 1 + 1 + 1) = i + 1 + 1 + 1 + 1 := wrap_id (by omega) (by omega)
      refine ⟨i + 1 + 1 + 1 + 1, ⟨(i.tmod 3 == 0), ⟨mt (i + 1), mt (i + 1 + 1), mt (i + 1 + 1 + 1)⟩⟩, by omega, by omega, fun x pre suf h hx r hr => ?_⟩
      . have hx2 : x.length <= maxLen := by rw [maxLen_eq]; omega
        refine Ev.step (fun k => laws_markSetS.l0.eq_2 ..) ?_
        simp only [if_pos (lt_at h), if_pos (nonneg_at _), Option.bind_some, set_at h, rd_implSet h, w1]
        refine Ev.bind (mt_ev (by omega) (by omega)) ?_
        have h2 : pre ++ [⟨(i.tmod 3 == 0), ⟨a.f1.f0, a.f1.f1, a.f1.f2⟩⟩] ++ suf = pre ++ (⟨(i.tmod 3 == 0), ⟨a.f1.f0, a.f1.f1, a.f1.f2⟩⟩ : S42) :: suf := by simp
        simp only [Option.bind_some, set_at h2, rd_implSet h2, w2]
        refine Ev.bind (mt_ev (by omega) (by omega)) ?_
        have h3 : pre ++ [⟨(i.tmod 3 == 0), ⟨mt (i + 1), a.f1.f1, a.f1.f2⟩⟩] ++ suf = pre ++ (⟨(i.tmod 3 == 0), ⟨mt (i + 1), a.f1.f1, a.f1.f2⟩⟩ : S42) :: suf := by simp
        simp only [Option.bind_some, set_at h3, rd_implSet h3, w3]
        refine Ev.bind (mt_ev (by omega) (by omega)) ?_
        have h4 : pre ++ [⟨(i.tmod 3 == 0), ⟨mt (i + 1), mt (i + 1 + 1), a.f1.f2⟩⟩] ++ suf = pre ++ (⟨(i.tmod 3 == 0), ⟨mt (i + 1), mt (i + 1 + 1), a.f1.f2⟩⟩ : S42) :: suf := by simp
        simp only [set_at h4, rd_implSet h4, w4, next_at h hx2]
        simpa using hr) l i (fun _ _ => trivial) h0 (by omega)
  refine ⟨n, l', e0, e1, by omega, ?_, trivial⟩
  exact e3 [] (by simpa using hl0)
end Go.Proofs.Ytegkokdncakadaa.L

/- The law FnExactSetsNode computes true: the program and the reference say the same, the argument stays, and nothing is shared. No condition. -/
set_option linter.unusedSimpArgs false
set_option linter.unusedVariables false
namespace Go.Proofs.Ytegkokdncakadaa.Pure
open Go.RowKit Go.Proofs.YtegkokdncakadaaW.PrintWords Go.Proofs.YtegkokdncakadaaW.PrintLast Go.Proofs.Ytegkokdncakadaa.Q Go.Proofs.Ytegkokdncakadaa.L
theorem FnExactSetsNode : ∀ (x0 : List (S39)), (fun l : List (S39) => l.length <= maxLen /\ ∀ a ∈ l, G39 a) x0 -> ∃ k, laws_FnExactSetsNode.f k x0 = some true := by
  intro x0 g0
  apply Ev.rounds
  unfold laws_FnExactSetsNode.f
  refine Sz.ev (szSetS g0.1 g0.2 (n := 1048576) (by omega) (by omega)) (by simp only [show (-1 : Int) < 0 by omega, if_true]; exact Ev.now _) (fun m0 a0 b0 s0 => ?_)
  simp only [if_neg (show ¬ m0 < 0 by omega)]
  have hl := s0.1
  have hs := setsSm hl
  have he := setsE hl
  have hc := setsCnt (x0.map toSet)
  have im : Ev (fun k => impl_SetsNode.f k (x0.map toSet)) ((⟨#[68, 65, 86, 58]⟩ : ByteArray), (⟨#[112, 114, 111, 112, 101, 114, 116, 121, 117, 112, 100, 97, 116, 101]⟩ : ByteArray), (⟨#[]⟩ : ByteArray), (x0.map toSet).map setNode_) := by unfold impl_SetsNode.f; exact Ev.bind he (Ev.now _)
  have sp : Ev (fun k => spec_SetsNode.f k (x0.map toSet)) ((⟨#[68, 65, 86, 58]⟩ : ByteArray), (⟨#[112, 114, 111, 112, 101, 114, 116, 121, 117, 112, 100, 97, 116, 101]⟩ : ByteArray), (⟨#[]⟩ : ByteArray), (x0.map toSet).map setNode_) := by unfold spec_SetsNode.f; exact Ev.bind he (Ev.now _)
  refine Ev.bind (toSetS s0) ?_
  refine Ev.bind sp ?_
  refine Ev.bind (toSetS s0) ?_
  refine Ev.bind im ?_
  refine Ev.bind (eqT hs _ _ _) ?_
  simp only [if_true]
  refine Ev.bind (toSetS s0) ?_
  refine Ev.bind (eqSetS s0) ?_
  simp only [decide_true, if_true]
  obtain ⟨n2, l2, _, u2, v2, w2, _⟩ := mhSet s0 (i := 1) (by omega) (by omega)
  refine Ev.bind w2 ?_
  simp only [if_neg (show ¬ n2 < 0 by omega)]
  refine Ev.bind (eqT hs _ _ _) ?_
  simp only [if_true]
  obtain ⟨l3, _, w3, z3⟩ := mhT 3 _ 1 hs (by omega) (by rw [hc]; omega)
  rw [hc] at w3 z3
  have hn : ¬ 1 + 9 * ((x0.map toSet).length : Int) < 0 := by omega
  have hm : Ev (fun k => laws_markNode.f k (⟨#[68, 65, 86, 58]⟩ : ByteArray) (⟨#[112, 114, 111, 112, 101, 114, 116, 121, 117, 112, 100, 97, 116, 101]⟩ : ByteArray) (⟨#[]⟩ : ByteArray) ((x0.map toSet).map setNode_) 1) (1 + 9 * ((x0.map toSet).length : Int), l3) := by
    unfold laws_markNode.f laws_markNodeS.f; exact w3
  have hh : ∀ a b c : ByteArray, Ev (fun k => laws_heldNode.f k a b c l3 1) (1 + 9 * ((x0.map toSet).length : Int)) := fun a b c => by
    unfold laws_heldNode.f
    refine Ev.bind (Ev.step (fun k => laws_heldNodeS.f.eq_2 ..) z3) ?_
    simp only [if_neg hn]; exact Ev.now _
  refine Ev.bind hm ?_
  refine Ev.bind (hh _ _ _) ?_
  simp only [if_neg hn, if_true]
  refine Ev.bind (toSetS s0) ?_
  refine Ev.bind im ?_
  refine Ev.bind (eqT hs _ _ _) ?_
  simp only [if_true]
  refine Ev.bind (hh _ _ _) ?_
  simp only [if_neg hn, if_true]
  exact Ev.now _
end Go.Proofs.Ytegkokdncakadaa.Pure
