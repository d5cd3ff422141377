/- What a reading of a struct says of its cells. No condition. -/
import Derived.Test.YteabkidfgdmmpaaVAboveG0
import Derived.Test.YteabkidfgdmmpaaOpen
import Derived.Laws.Strings
import Derived.Test.YteabkidfgdmmpaaWWords
import Derived.Test.YteabkidfgdmmpaaWLast
import Derived.Test.YteabkidfgdmmpaaWMore
import Derived.Test.YteabkidfgdmmpaaVAboveG1
namespace Go.Proofs.Yteabkidfgdmmpaa.Q
open Go.RowKit Go.ChangeShapes Go.WideShapes Go.Proofs.YteabkidfgdmmpaaW.PrintWords Go.Proofs.Yteabkidfgdmmpaa
set_option linter.unusedVariables false
set_option linter.unusedSimpArgs false
theorem len3 {α : Type} {cs : List α} (h : cs.length = 3) : ∃ c0 c1 c2, cs = [c0, c1, c2] := by
  match cs, h with
  | [c0, c1, c2], _ => exact ⟨_, _, _, rfl⟩
theorem len5 {α : Type} {cs : List α} (h : cs.length = 5) : ∃ c0 c1 c2 c3 c4, cs = [c0, c1, c2, c3, c4] := by
  match cs, h with
  | [c0, c1, c2, c3, c4], _ => exact ⟨_, _, _, _, _, rfl⟩
instance : Inhabited S70 := ⟨z70⟩
instance : Inhabited S77 := ⟨z77⟩
def G70 (x : S70) : Prop := (fun s : ByteArray => s.size ≤ maxLen) x.f0 ∧ (fun s : ByteArray => s.size ≤ maxLen) x.f1 ∧ (fun s : ByteArray => s.size ≤ maxLen) x.f2
theorem opens70 {H : Type} {enc : TypeId × Value → H} {w : World} : Op.Opens enc Try.prog w 70 k70 G70 := by
  intro fuel cs x h
  obtain ⟨xs, n, _, _, hl, hlen, hf⟩ := DataW.trod_struct Try.underlying70 h
  replace hl : cs.length = 3 := hl.trans (by kernel_rfl)
  replace hlen : xs.length = 3 := hlen.trans (by kernel_rfl)
  obtain ⟨c0, c1, c2, rfl⟩ := len3 hl
  have hc9_ : Try.prog.cellsOf 9 = 1 := by kernel_rfl
  obtain ⟨a0, k0_, g0_⟩ : ∃ a, Kd.string.K w a [c0] ∧ (fun s : ByteArray => s.size ≤ maxLen) a := by
    have h1 : DataW.trod enc Try.prog w 0 (fun _ => true) true n 9 (([c0, c1, c2].drop 0).take (Try.prog.cellsOf 9)) = xs[0]? := hf 0 _ rfl
    have hlt : 0 < xs.length := by omega
    rw [List.getElem?_eq_getElem hlt] at h1
    simp only [hc9_, List.drop_zero, List.drop_succ_cons, List.take_succ_cons, List.take_zero] at h1
    exact (Op.opens_string Try.underlying9) n [c0] _ h1
  obtain ⟨a1, k1_, g1_⟩ : ∃ a, Kd.string.K w a [c1] ∧ (fun s : ByteArray => s.size ≤ maxLen) a := by
    have h1 : DataW.trod enc Try.prog w 0 (fun _ => true) true n 9 (([c0, c1, c2].drop 1).take (Try.prog.cellsOf 9)) = xs[1]? := hf 1 _ rfl
    have hlt : 1 < xs.length := by omega
    rw [List.getElem?_eq_getElem hlt] at h1
    simp only [hc9_, List.drop_zero, List.drop_succ_cons, List.take_succ_cons, List.take_zero] at h1
    exact (Op.opens_string Try.underlying9) n [c1] _ h1
  obtain ⟨a2, k2_, g2_⟩ : ∃ a, Kd.string.K w a [c2] ∧ (fun s : ByteArray => s.size ≤ maxLen) a := by
    have h1 : DataW.trod enc Try.prog w 0 (fun _ => true) true n 9 (([c0, c1, c2].drop 2).take (Try.prog.cellsOf 9)) = xs[2]? := hf 2 _ rfl
    have hlt : 2 < xs.length := by omega
    rw [List.getElem?_eq_getElem hlt] at h1
    simp only [hc9_, List.drop_zero, List.drop_succ_cons, List.take_succ_cons, List.take_zero] at h1
    exact (Op.opens_string Try.underlying9) n [c2] _ h1
  exact ⟨⟨a0, a1, a2⟩, ⟨[c0], [c1, c2], rfl, k0_, ⟨[c1], [c2], rfl, k1_, k2_⟩⟩, ⟨g0_, g1_, g2_⟩⟩
def G77 (x : S77) : Prop := (fun l : List ByteArray => l.length ≤ maxLen ∧ ∀ a ∈ l, (fun s : ByteArray => s.size ≤ maxLen) a) x.f0 ∧ (fun _ : Bool => True) x.f1 ∧ (fun s : ByteArray => s.size ≤ maxLen) x.f2 ∧ (fun x : Int => (Lit.int .i64 x).wf = true) x.f3 ∧ (fun l : List (S70) => l.length ≤ maxLen ∧ ∀ a ∈ l, G70 a) x.f4
theorem opens77 {H : Type} {enc : TypeId × Value → H} {w : World} : Op.Opens enc Try.prog w 77 k77 G77 := by
  intro fuel cs x h
  obtain ⟨xs, n, _, _, hl, hlen, hf⟩ := DataW.trod_struct Try.underlying77 h
  replace hl : cs.length = 5 := hl.trans (by kernel_rfl)
  replace hlen : xs.length = 5 := hlen.trans (by kernel_rfl)
  obtain ⟨c0, c1, c2, c3, c4, rfl⟩ := len5 hl
  have hc22_ : Try.prog.cellsOf 22 = 1 := by kernel_rfl
  have hc4_ : Try.prog.cellsOf 4 = 1 := by kernel_rfl
  have hc9_ : Try.prog.cellsOf 9 = 1 := by kernel_rfl
  have hc3_ : Try.prog.cellsOf 3 = 1 := by kernel_rfl
  have hc27_ : Try.prog.cellsOf 27 = 1 := by kernel_rfl
  obtain ⟨a0, k0_, g0_⟩ : ∃ a, (Kd.slice 9 Kd.string).K w a [c0] ∧ (fun l : List ByteArray => l.length ≤ maxLen ∧ ∀ a ∈ l, (fun s : ByteArray => s.size ≤ maxLen) a) a := by
    have h1 : DataW.trod enc Try.prog w 0 (fun _ => true) true n 22 (([c0, c1, c2, c3, c4].drop 0).take (Try.prog.cellsOf 22)) = xs[0]? := hf 0 _ rfl
    have hlt : 0 < xs.length := by omega
    rw [List.getElem?_eq_getElem hlt] at h1
    simp only [hc22_, List.drop_zero, List.drop_succ_cons, List.take_succ_cons, List.take_zero] at h1
    exact (Op.opens_slice Try.underlying22 (by kernel_rfl) (Op.opens_string Try.underlying9)) n [c0] _ h1
  obtain ⟨a1, k1_, g1_⟩ : ∃ a, Kd.bool.K w a [c1] ∧ (fun _ : Bool => True) a := by
    have h1 : DataW.trod enc Try.prog w 0 (fun _ => true) true n 4 (([c0, c1, c2, c3, c4].drop 1).take (Try.prog.cellsOf 4)) = xs[1]? := hf 1 _ rfl
    have hlt : 1 < xs.length := by omega
    rw [List.getElem?_eq_getElem hlt] at h1
    simp only [hc4_, List.drop_zero, List.drop_succ_cons, List.take_succ_cons, List.take_zero] at h1
    exact (Op.opens_bool Try.underlying4) n [c1] _ h1
  obtain ⟨a2, k2_, g2_⟩ : ∃ a, Kd.string.K w a [c2] ∧ (fun s : ByteArray => s.size ≤ maxLen) a := by
    have h1 : DataW.trod enc Try.prog w 0 (fun _ => true) true n 9 (([c0, c1, c2, c3, c4].drop 2).take (Try.prog.cellsOf 9)) = xs[2]? := hf 2 _ rfl
    have hlt : 2 < xs.length := by omega
    rw [List.getElem?_eq_getElem hlt] at h1
    simp only [hc9_, List.drop_zero, List.drop_succ_cons, List.take_succ_cons, List.take_zero] at h1
    exact (Op.opens_string Try.underlying9) n [c2] _ h1
  obtain ⟨a3, k3_, g3_⟩ : ∃ a, (Kd.int .i64).K w a [c3] ∧ (fun x : Int => (Lit.int .i64 x).wf = true) a := by
    have h1 : DataW.trod enc Try.prog w 0 (fun _ => true) true n 3 (([c0, c1, c2, c3, c4].drop 3).take (Try.prog.cellsOf 3)) = xs[3]? := hf 3 _ rfl
    have hlt : 3 < xs.length := by omega
    rw [List.getElem?_eq_getElem hlt] at h1
    simp only [hc3_, List.drop_zero, List.drop_succ_cons, List.take_succ_cons, List.take_zero] at h1
    exact (Op.opens_int Try.underlying3) n [c3] _ h1
  obtain ⟨a4, k4_, g4_⟩ : ∃ a, (Kd.slice 70 k70).K w a [c4] ∧ (fun l : List (S70) => l.length ≤ maxLen ∧ ∀ a ∈ l, G70 a) a := by
    have h1 : DataW.trod enc Try.prog w 0 (fun _ => true) true n 27 (([c0, c1, c2, c3, c4].drop 4).take (Try.prog.cellsOf 27)) = xs[4]? := hf 4 _ rfl
    have hlt : 4 < xs.length := by omega
    rw [List.getElem?_eq_getElem hlt] at h1
    simp only [hc27_, List.drop_zero, List.drop_succ_cons, List.take_succ_cons, List.take_zero] at h1
    exact (Op.opens_slice Try.underlying27 (by kernel_rfl) opens70) n [c4] _ h1
  exact ⟨⟨a0, a1, a2, a3, a4⟩, ⟨[c0], [c1, c2, c3, c4], rfl, k0_, ⟨[c1], [c2, c3, c4], rfl, k1_, ⟨[c2], [c3, c4], rfl, k2_, ⟨[c3], [c4], rfl, k3_, k4_⟩⟩⟩⟩, ⟨g0_, g1_, g2_, g3_, g4_⟩⟩
end Go.Proofs.Yteabkidfgdmmpaa.Q

/- Small lemmas for plain laws over rounds: indices as lengths of what was passed, bytes' equality. No condition. -/
set_option linter.unusedSimpArgs false
set_option linter.unusedVariables false
namespace Go.Proofs.Yteabkidfgdmmpaa.L
open Go.RowKit Go.Proofs.YteabkidfgdmmpaaW.PrintWords Go.Proofs.YteabkidfgdmmpaaW.PrintLast

theorem ba_toList (s : ByteArray) : s.toList = s.data.toList := ByteArray.toList_eq s
theorem ba_inj {a b : ByteArray} (h : a.toList = b.toList) : a = b := by
  rw [ba_toList, ba_toList] at h
  cases a with | mk x => cases b with | mk y => congr 1; exact Array.toList_inj.1 h
theorem ba_eq {a b : ByteArray} : (a.toList = b.toList) = (a = b) := propext ⟨ba_inj, fun h => by rw [h]⟩
theorem maxLen_eq : maxLen = 9223372036854775807 := by decide
theorem wrap_id {x : Int} (h0 : -9223372036854775808 ≤ x) (h1 : x < 9223372036854775808) : wrap64 x = x := by
  unfold wrap64
  omega

section
variable {α : Type} {l pre suf : List α} {a : α}
theorem lt_at (h : l = pre ++ a :: suf) : ((pre.length : Nat) : Int) < (l.length : Int) := by subst h; simp; omega
theorem rd_at (d : α) (h : l = pre ++ a :: suf) : rdOf d l (pre.length : Int) = a := by subst h; simp [rdOf, List.getD_eq_getElem?_getD]
theorem next_at (h : l = pre ++ a :: suf) (hl : l.length ≤ maxLen) : wrap64 ((pre.length : Int) + 1) = ((pre ++ [a]).length : Int) := by
  have : l.length = pre.length + 1 + suf.length := by subst h; simp; omega
  rw [maxLen_eq] at hl
  rw [wrap_id (by omega) (by omega)]
  simp
theorem snoc_at (h : l = pre ++ a :: suf) : l = (pre ++ [a]) ++ suf := by subst h; simp
theorem end_at (h : l = pre ++ []) : ¬ ((pre.length : Nat) : Int) < (l.length : Int) := by subst h; simp
theorem set_at {b : α} (h : l = pre ++ a :: suf) : l.set ((pre.length : Nat) : Int).toNat b = (pre ++ [b]) ++ suf := by subst h; simp
theorem nonneg_at (n : Nat) : (0 : Int) ≤ (n : Int) := Int.natCast_nonneg n
end

/-- How a size comes out: too great (-1), or what is left (m of n), and then P holds. -/
def Sz (g : Nat → Option Int) (n : Int) (P : Prop) : Prop := Ev g (-1) ∨ ∃ m : Int, 0 ≤ m ∧ m ≤ n ∧ Ev g m ∧ P
theorem Sz.bind {g : Nat → Option Int} {f : Nat → Int → Option Int} {n : Int} {P Q : Prop} (h : Sz g n P) (hk : ∀ m, 0 ≤ m → m ≤ n → P → Sz (fun k => f k m) m Q) (hneg : Ev (fun k => f k (-1)) (-1)) : Sz (fun k => (g k).bind (f k)) n Q := by
  rcases h with h | ⟨m, h0, h1, h, hP⟩
  · exact .inl (Ev.bind h hneg)
  · rcases hk m h0 h1 hP with h2 | ⟨m', h0', h1', h2, hQ⟩
    · exact .inl (Ev.bind h h2)
    · exact .inr ⟨m', h0', by omega, Ev.bind h h2, hQ⟩
theorem Sz.sub {f : Nat → Option Int} {n c : Int} {Q : Prop} (hc : 0 ≤ c) (hk : c ≤ n → Sz f (n - c) Q) : Sz (fun k => if n - c < 0 then some (-1) else f k) n Q := by
  by_cases h : n - c < 0
  · simp only [if_pos h]; exact .inl (Ev.now _)
  · simp only [if_neg h]
    rcases hk (by omega) with h2 | ⟨m, h0, h1, h2, hQ⟩
    · exact .inl h2
    · exact .inr ⟨m, h0, by omega, h2, hQ⟩
theorem Sz.ev {α : Type} {g : Nat → Option Int} {f : Nat → Int → Option α} {n : Int} {P : Prop} {r : α} (h : Sz g n P) (hneg : Ev (fun k => f k (-1)) r) (hk : ∀ m, 0 ≤ m → m ≤ n → P → Ev (fun k => f k m) r) : Ev (fun k => (g k).bind (f k)) r := by
  rcases h with h | ⟨m, h0, h1, h, hP⟩
  · exact Ev.bind h hneg
  · exact Ev.bind h (hk m h0 h1 hP)
def SmS (l : List ByteArray) : Prop := l.length ≤ 1048576 ∧ ∀ s ∈ l, s.size ≤ 1048576
theorem ev_cast {α : Type} {g : Nat → Option α} {r s : α} (h : Ev g r) (e : r = s) : Ev g s := e ▸ h
end Go.Proofs.Yteabkidfgdmmpaa.L

/- A path without its last name; as the program and the reference have it. No condition. -/
set_option linter.unusedSimpArgs false
set_option linter.unusedVariables false
namespace Go.Proofs.Yteabkidfgdmmpaa.L
open Go.RowKit Go.Proofs.YteabkidfgdmmpaaW.PrintWords Go.Proofs.YteabkidfgdmmpaaW.PrintLast Go.Proofs.Yteabkidfgdmmpaa.Q
def above (p : List ByteArray) : List ByteArray := p.take (p.length - 1)
theorem above_wrap {p : List ByteArray} (hp : p.length ≤ 1048576) (h : ¬ (p.length : Int) = 0) : wrap64 ((p.length : Int) - 1) = ((p.length - 1 : Nat) : Int) := by
  rw [wrap_id (by omega) (by omega)]; omega
theorem implCopyPath {p : List ByteArray} (hp : p.length ≤ 1048576) : impl_copyPath.f p = some p := by
  unfold impl_copyPath.f
  rw [if_pos (by simp; omega)]; rfl
theorem specAbove {p : List ByteArray} (hp : p.length ≤ 1048576) : spec_Above.f p = some (above p) := by
  unfold spec_Above.f above
  by_cases h : (p.length : Int) = 0
  · rw [if_pos h]
    have : p = [] := List.eq_nil_of_length_eq_zero (by omega)
    rw [this]; rfl
  · simp only [if_neg h, Option.bind_some, above_wrap hp h, if_pos (Int.natCast_nonneg _), Int.toNat_natCast]
    rw [if_pos (by omega), if_pos (by simp; omega)]; rfl
theorem implAbove {p : List ByteArray} (hp : p.length ≤ 1048576) : impl_Above.f p = some (above p) := by
  unfold impl_Above.f above
  by_cases h : (p.length : Int) = 0
  · rw [if_pos h]
    have : p = [] := List.eq_nil_of_length_eq_zero (by omega)
    rw [this]; rfl
  · simp only [if_neg h, above_wrap hp h, if_pos (Int.natCast_nonneg _), Int.toNat_natCast]
    rw [if_pos (by omega), implCopyPath (by simp; omega)]; rfl
end Go.Proofs.Yteabkidfgdmmpaa.L

/- The laws' own functions over lists of texts: their size, their copy, their equality. No condition. -/
set_option linter.unusedSimpArgs false
set_option linter.unusedVariables false
namespace Go.Proofs.Yteabkidfgdmmpaa.L
open Go.RowKit Go.Proofs.YteabkidfgdmmpaaW.PrintWords Go.Proofs.YteabkidfgdmmpaaW.PrintLast Go.Proofs.Yteabkidfgdmmpaa.Q

theorem szS_loop {l : List ByteArray} (hl : l.length ≤ maxLen) (hs : ∀ s ∈ l, s.size ≤ maxLen) : ∀ (suf pre : List ByteArray) (n : Int), l = pre ++ suf → 0 ≤ n → n ≤ 1048576 →
    Ev (fun k => laws_szStringS.l0 k l n pre.length) (-1) ∨ ∃ m : Int, 0 ≤ m ∧ m ≤ n ∧ Ev (fun k => laws_szStringS.l0 k l n pre.length) m ∧ ∀ s ∈ suf, (s.size : Int) ≤ n := by
  intro suf
  induction suf with
  | nil =>
    intro pre n h h0 h1
    refine .inr ⟨n, h0, Int.le_refl _, Ev.step (fun k => laws_szStringS.l0.eq_2 ..) ?_, by simp⟩
    simp only [if_neg (end_at h)]
    exact Ev.now _
  | cons a suf ih =>
    intro pre n h h0 h1
    have ha : a.size ≤ maxLen := hs a (by rw [h]; simp)
    rw [maxLen_eq] at ha
    have hw : wrap64 (n - (a.size : Int)) = n - a.size := wrap_id (by omega) (by omega)
    by_cases hlt : n - (a.size : Int) < 0
    · left
      refine Ev.step (fun k => laws_szStringS.l0.eq_2 ..) ?_
      simp only [if_pos (lt_at h), if_pos (nonneg_at _), rd_at _ h, hw, if_pos hlt]
      exact Ev.now _
    · have st : ∀ r, Ev (fun k => laws_szStringS.l0 k l (n - a.size) (pre ++ [a]).length) r → Ev (fun k => laws_szStringS.l0 k l n pre.length) r := fun r hr => by
        refine Ev.step (fun k => laws_szStringS.l0.eq_2 ..) ?_
        simp only [if_pos (lt_at h), if_pos (nonneg_at _), rd_at _ h, hw, if_neg hlt, next_at h hl]
        exact hr
      rcases ih (pre ++ [a]) (n - a.size) (snoc_at h) (by omega) (by omega) with h2 | ⟨m, hm0, hm1, h2, h3⟩
      · exact .inl (st _ h2)
      · refine .inr ⟨m, hm0, by omega, st _ h2, fun s hs' => ?_⟩
        rcases List.mem_cons.1 hs' with rfl | hs'
        · omega
        · have := h3 s hs'
          omega
/-- The size of a list of texts: too great, or all of it is small. -/
theorem szS {l : List ByteArray} (hl : l.length ≤ maxLen) (hs : ∀ s ∈ l, s.size ≤ maxLen) {n : Int} (h0 : 0 ≤ n) (h1 : n ≤ 1048576) : Sz (fun k => laws_szStringS.f k l n) n (SmS l) := by
  have hl' := hl
  rw [maxLen_eq] at hl'
  unfold laws_szStringS.f
  simp only [wrap_id (x := n - (l.length : Int)) (by omega) (by omega)]
  refine Sz.sub (by omega) (fun hlt => ?_)
  rcases szS_loop hl hs l [] (n - l.length) rfl (by omega) (by omega) with h | ⟨m, hm0, hm1, h2, h3⟩
  · exact .inl h
  · exact .inr ⟨m, hm0, hm1, h2, by omega, fun s hs' => by have := h3 s hs'; omega⟩

theorem toS_loop {l : List ByteArray} (hl : l.length ≤ maxLen) : ∀ (suf pre rest : List ByteArray), l = pre ++ suf → rest.length = suf.length → Ev (fun k => laws_toStringS.l0 k l (pre ++ rest) pre.length) l := by
  intro suf
  induction suf with
  | nil =>
    intro pre rest h hr
    refine Ev.step (fun k => laws_toStringS.l0.eq_2 ..) ?_
    simp only [if_neg (end_at h)]
    obtain rfl : rest = [] := by simpa using hr
    rw [← h]
    exact Ev.now _
  | cons a suf ih =>
    intro pre rest h hr
    obtain ⟨b, rest, rfl⟩ : ∃ b r, rest = b :: r := by
      cases rest with
      | nil => simp at hr
      | cons b r => exact ⟨b, r, rfl⟩
    refine Ev.step (fun k => laws_toStringS.l0.eq_2 ..) ?_
    have h2 : pre ++ b :: rest = pre ++ b :: rest := rfl
    simp only [if_pos (lt_at h), if_pos (nonneg_at _), rd_at _ h, if_pos (lt_at h2), next_at h hl, set_at h2]
    exact ih (pre ++ [a]) rest (snoc_at h) (by simpa using hr)
/-- The copy of a list of texts. -/
theorem toS {l : List ByteArray} (hl : (l.length : Int) ≤ 1048576) : Ev (fun k => laws_toStringS.f k l) l := by
  unfold laws_toStringS.f
  simp only [if_pos (nonneg_at _), Int.toNat_natCast, if_pos (show l.length ≤ 17592186044416 by omega)]
  have := toS_loop (l := l) (by rw [maxLen_eq]; omega) l [] (List.replicate l.length (⟨#[]⟩ : ByteArray)) rfl (by simp)
  simpa using this

theorem eqS_loop {a b : List ByteArray} (hl : a.length ≤ maxLen) : ∀ (su sv pu pv : List ByteArray), a = pu ++ su → b = pv ++ sv → pu.length = pv.length → su.length = sv.length →
    Ev (fun k => laws_eqStringS.l0 k a b pu.length) (decide (su = sv)) := by
  intro su
  induction su with
  | nil =>
    intro sv pu pv h h' hp hs
    obtain rfl : sv = [] := by simpa using hs.symm
    refine Ev.step (fun k => laws_eqStringS.l0.eq_2 ..) ?_
    simp only [if_neg (end_at h)]
    exact Ev.now _
  | cons x su ih =>
    intro sv pu pv h h' hp hs
    cases sv with
    | nil => simp at hs
    | cons y sv =>
      refine Ev.step (fun k => laws_eqStringS.l0.eq_2 ..) ?_
      have h3 := rd_at ByteArray.empty h'
      have h4 := lt_at h'
      rw [← hp] at h3 h4
      by_cases e : x = y
      · subst e
        simp only [if_pos (lt_at h), if_pos (nonneg_at _), if_pos h4, rd_at _ h, h3, if_true, next_at h hl, List.cons.injEq, true_and]
        exact ih sv (pu ++ [x]) (pv ++ [x]) (snoc_at h) (snoc_at h') (by simp [hp]) (by simpa using hs)
      · simp only [if_pos (lt_at h), if_pos (nonneg_at _), if_pos h4, rd_at _ h, h3, ba_eq, if_neg e, List.cons.injEq, e, false_and, decide_false]
        exact Ev.now _
theorem eqS {a b : List ByteArray} (hl : a.length ≤ maxLen) : Ev (fun k => laws_eqStringS.f k a b) (decide (a = b)) := by
  unfold laws_eqStringS.f
  by_cases e : (a.length : Int) = (b.length : Int)
  · simp only [if_pos e]
    exact eqS_loop hl a b [] [] rfl rfl rfl (by omega)
  · simp only [if_neg e]
    rw [show decide (a = b) = false from decide_eq_false (fun h => e (by rw [h]))]
    exact Ev.now _
end Go.Proofs.Yteabkidfgdmmpaa.L

/- The laws' marks on lists of texts: what they write, and that it is found again. No condition. -/
set_option linter.unusedSimpArgs false
set_option linter.unusedVariables false
namespace Go.Proofs.Yteabkidfgdmmpaa.L
open Go.RowKit Go.Proofs.YteabkidfgdmmpaaW.PrintWords Go.Proofs.YteabkidfgdmmpaaW.PrintLast Go.Proofs.Yteabkidfgdmmpaa.Q
theorem strOfNums_size (n : Int) : (strOfNums [n]).size = 1 := rfl
theorem mark_loop : ∀ (d : Nat) (k : Nat) (i : Int) (s : ByteArray), 0 ≤ i → i < 10 ^ d → i < 9223372036854775808 → d < k → s.size + d + 1 ≤ 9223372036854775807 → ∃ t, laws_markText.l0 k i s = some t := by
  intro d
  induction d with
  | zero =>
    intro k i s h0 h1 hb hk hs
    obtain ⟨k, rfl⟩ : ∃ m, k = m + 1 := ⟨k - 1, by omega⟩
    simp only [laws_markText.l0]
    rw [if_neg (by simp at h1; omega), if_pos (by omega)]
    exact ⟨_, rfl⟩
  | succ d ih =>
    intro k i s h0 h1 hb hk hs
    obtain ⟨k, rfl⟩ : ∃ m, k = m + 1 := ⟨k - 1, by omega⟩
    simp only [laws_markText.l0, Option.bind_some]
    by_cases hi : i > 0
    · rw [if_pos hi, if_pos (by rw [strOfNums_size]; omega)]
      have hd : Int.tdiv i 10 = i / 10 := Int.tdiv_eq_ediv_of_nonneg h0
      have hq : 0 ≤ i / 10 ∧ i / 10 ≤ i := ⟨by omega, by omega⟩
      rw [hd, wrap_id (by omega) (by omega)]
      refine ih k _ _ hq.1 ?_ (by omega) (by omega) ?_
      · rw [Int.pow_succ] at h1; omega
      · rw [ByteArray.size_append, strOfNums_size]; omega
    · rw [if_neg hi, if_pos (by omega)]
      exact ⟨_, rfl⟩
/-- The mark of a number: there is one from 32 rounds on, and it is one and the same. -/
theorem mark_some {i : Int} (h0 : 0 ≤ i) (h1 : i < 1152921504606846976) : ∃ t, ∀ k, 32 ≤ k → laws_markText.f k i = some t := by
  have h : ∃ t, laws_markText.f 32 i = some t := by
    unfold laws_markText.f
    by_cases e : i ≤ 0
    · rw [if_pos e]; exact ⟨_, rfl⟩
    · rw [if_neg e]
      exact mark_loop 19 32 i _ h0 (by omega) (by omega) (by omega) (by show 0 + 19 + 1 ≤ _; omega)
  obtain ⟨t, ht⟩ := h
  exact ⟨t, fun k hk => at_rounds (fun k => laws_markText.mono i k) hk ht⟩
/-- The marks, as a function. -/
noncomputable def mt (i : Int) : ByteArray := by
  classical
  exact if h : 0 ≤ i ∧ i < 1152921504606846976 then Classical.choose (mark_some h.1 h.2) else ⟨#[]⟩
theorem mt_spec {i : Int} (h0 : 0 ≤ i) (h1 : i < 1152921504606846976) {k : Nat} (hk : 32 ≤ k) : laws_markText.f k i = some (mt i) := by
  unfold mt
  rw [dif_pos ⟨h0, h1⟩]
  exact Classical.choose_spec (mark_some h0 h1) k hk
theorem mt_ev {i : Int} (h0 : 0 ≤ i) (h1 : i < 1152921504606846976) : Ev (fun k => laws_markText.f k i) (mt i) := ⟨32, fun _ hk => mt_spec h0 h1 hk⟩
/-- n marks from i on. -/
noncomputable def marks : Nat → Int → List ByteArray
  | 0, _ => []
  | n + 1, i => mt i :: marks n (i + 1)
theorem marks_length (n : Nat) (i : Int) : (marks n i).length = n := by
  induction n generalizing i with
  | zero => rfl
  | succ n ih => simp [marks, ih]
theorem markS {l : List ByteArray} (hl : l.length ≤ 1048576) {a : Int} (h0 : 0 ≤ a) (h1 : a ≤ 1099511627776) : Ev (fun k => laws_markStringS.f k l a) (a + l.length, marks l.length a) := by
  have key : ∀ (suf pre : List ByteArray) (x : List ByteArray) (i : Int), x = pre ++ suf → x.length ≤ 1048576 → 0 ≤ i → i + suf.length ≤ 1099512676352 → Ev (fun k => laws_markStringS.l0 k x i pre.length) (i + suf.length, pre ++ marks suf.length i) := by
    intro suf
    induction suf with
    | nil =>
      intro pre x i h hx h0 h1
      refine Ev.step (fun k => laws_markStringS.l0.eq_2 ..) ?_
      simp only [if_neg (end_at h)]
      rw [List.append_nil] at h
      rw [h]
      simp only [List.length_nil, Int.natCast_zero, Int.add_zero, marks, List.append_nil]
      exact Ev.now _
    | cons b suf ih =>
      intro pre x i h hx h0 h1
      rw [List.length_cons] at h1
      refine Ev.step (fun k => laws_markStringS.l0.eq_2 ..) ?_
      simp only [if_pos (lt_at h)]
      refine Ev.bind (mt_ev h0 (by omega)) ?_
      simp only [if_pos (nonneg_at _), set_at h, next_at h (show x.length ≤ maxLen by rw [maxLen_eq]; omega), wrap_id (x := i + 1) (by omega) (by omega)]
      have := ih (pre ++ [mt i]) (pre ++ [mt i] ++ suf) (i + 1) rfl (by rw [h] at hx; simpa using hx) (by omega) (by omega)
      rw [show (pre ++ [b]).length = (pre ++ [mt i]).length by simp]
      refine ev_cast this ?_
      simp only [List.length_cons, marks, Prod.mk.injEq]
      exact ⟨by omega, by simp⟩
  have := key l [] l a rfl hl h0 (by omega)
  simpa [laws_markStringS.f] using this
theorem heldS {n : Nat} (hn : n ≤ 1048576) {a : Int} (h0 : 0 ≤ a) (h1 : a ≤ 1099511627776) : Ev (fun k => laws_heldStringS.f k (marks n a) a) (a + n) := by
  have key : ∀ (m : Nat) (pre x : List ByteArray) (i : Int), x = pre ++ marks m i → x.length ≤ 1048576 → 0 ≤ i → i + m ≤ 1099512676352 → Ev (fun k => laws_heldStringS.l0 k x i pre.length) (i + m) := by
    intro m
    induction m with
    | zero =>
      intro pre x i h hx h0 h1
      refine Ev.step (fun k => laws_heldStringS.l0.eq_2 ..) ?_
      simp only [if_neg (end_at h)]
      exact ev_cast (Ev.now _) (by simp)
    | succ m ih =>
      intro pre x i h hx h0 h1
      simp only [marks] at h
      refine Ev.step (fun k => laws_heldStringS.l0.eq_2 ..) ?_
      simp only [if_pos (lt_at h), if_pos (nonneg_at _)]
      refine Ev.bind (mt_ev h0 (by omega)) ?_
      simp only [rd_at _ h, if_true, next_at h (show x.length ≤ maxLen by rw [maxLen_eq]; omega), wrap_id (x := i + 1) (by omega) (by omega)]
      refine ev_cast (ih (pre ++ [mt i]) x (i + 1) (snoc_at h) hx (by omega) (by omega)) ?_
      omega
  exact key n [] _ a rfl (by rw [marks_length]; exact hn) h0 (by omega)
end Go.Proofs.Yteabkidfgdmmpaa.L

/- The law FnExactAbove computes true: the program and the reference say the same, and nothing is shared. No condition. -/
set_option linter.unusedSimpArgs false
set_option linter.unusedVariables false
namespace Go.Proofs.Yteabkidfgdmmpaa.Pure
open Go.RowKit Go.Proofs.YteabkidfgdmmpaaW.PrintWords Go.Proofs.YteabkidfgdmmpaaW.PrintLast Go.Proofs.Yteabkidfgdmmpaa.Q Go.Proofs.Yteabkidfgdmmpaa.L
theorem FnExactAbove : ∀ (x0 : List ByteArray), (fun l : List ByteArray => l.length ≤ maxLen ∧ ∀ a ∈ l, (fun s : ByteArray => s.size ≤ maxLen) a) x0 → ∃ k, laws_FnExactAbove.f k x0 = some true := by
  intro x0 g0
  apply Ev.rounds
  unfold laws_FnExactAbove.f
  refine Sz.ev (szS g0.1 g0.2 (n := 1048576) (by omega) (by omega)) (by simp only [show (-1 : Int) < 0 by omega, if_true]; exact Ev.now _) (fun m0 a0 b0 s0 => ?_)
  simp only [if_neg (show ¬ m0 < 0 by omega)]
  have h0 := s0.1
  have hb : (above x0).length ≤ 1048576 := by unfold above; rw [List.length_take]; omega
  have hm : ∀ l : List ByteArray, l.length ≤ 1048576 → l.length ≤ maxLen := fun l h => by rw [maxLen_eq]; omega
  refine Ev.bind (toS (by omega)) ?_
  simp only [specAbove h0, Option.bind_some]
  refine Ev.bind (toS (by omega)) ?_
  simp only [implAbove h0, Option.bind_some]
  refine Ev.bind (eqS (hm _ hb)) ?_
  simp only [decide_true, if_true]
  refine Ev.bind (toS (by omega)) ?_
  refine Ev.bind (eqS (hm _ h0)) ?_
  simp only [decide_true, if_true]
  refine Ev.bind (markS h0 (by omega) (by omega)) ?_
  simp only [if_neg (show ¬ (1 + (x0.length : Int)) < 0 by omega)]
  refine Ev.bind (eqS (hm _ hb)) ?_
  simp only [decide_true, Bool.not_true]
  refine Ev.step (fun k => laws_FnExactAbove.j0.eq_2 ..) ?_
  simp only [Bool.false_eq_true, if_false]
  refine Ev.bind (markS hb (by omega) (by omega)) ?_
  refine Ev.bind (heldS hb (by omega) (by omega)) ?_
  simp only [if_neg (show ¬ (1 + ((above x0).length : Int)) < 0 by omega), if_true]
  refine Ev.bind (toS (by omega)) ?_
  simp only [implAbove h0, Option.bind_some]
  refine Ev.bind (eqS (hm _ hb)) ?_
  simp only [decide_true, if_true]
  refine Ev.bind (heldS hb (by omega) (by omega)) ?_
  simp only [if_neg (show ¬ (1 + ((above x0).length : Int)) < 0 by omega), if_true]
  exact Ev.now _
end Go.Proofs.Yteabkidfgdmmpaa.Pure
