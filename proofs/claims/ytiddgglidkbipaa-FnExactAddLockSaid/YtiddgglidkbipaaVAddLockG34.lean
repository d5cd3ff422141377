/- What a reading of a parameter says of its cells, kind by kind: for the rows of laws whose parameters are slices and structs. No condition. -/
import Derived.Test.YtiddgglidkbipaaVAddLockWWords
import Derived.Test.YtiddgglidkbipaaVAddLockWApart
import Derived.Deep.Slices
import Derived.WideShapes
import Derived.Test.YtiddgglidkbipaaVAddLockG22
import Derived.Laws.Strings
import Derived.Test.YtiddgglidkbipaaVAddLockWLast
import Derived.Test.YtiddgglidkbipaaVAddLockWMore
import Derived.Test.YtiddgglidkbipaaVAddLockG23
import Derived.Test.YtiddgglidkbipaaVAddLockG24
import Derived.Test.YtiddgglidkbipaaVAddLockG25
import Derived.Test.YtiddgglidkbipaaVAddLockG26
import Derived.Test.YtiddgglidkbipaaVAddLockG27
import Derived.Lib.Bytealg
import Derived.Test.YtiddgglidkbipaaVAddLockG28
import Derived.Test.YtiddgglidkbipaaVAddLockG29
import Derived.Test.YtiddgglidkbipaaVAddLockG30
import Derived.Test.YtiddgglidkbipaaVAddLockG32
import Derived.Test.YtiddgglidkbipaaVAddLockG31
import Derived.Test.YtiddgglidkbipaaVAddLockG33
namespace Go.Proofs.Ytiddgglidkbipaa.Op
open Go.RowKit Go.ChangeShapes Go.WideShapes Go.Proofs.YtiddgglidkbipaaW.PrintWords
def Opens {α H : Type} (enc : TypeId × Value → H) (P : Program) (w : World) (t : TypeId) (d : Kd α) (G : α → Prop) : Prop :=
  ∀ fuel cs x, DataW.trod enc P w 0 (fun _ => true) true fuel t cs = some x → ∃ a, d.K w a cs ∧ G a
section
variable {H : Type} {enc : TypeId × Value → H} {P : Program} {w : World} {t : TypeId}
theorem opens_string (ht : P.underlying t = some .string) : Opens enc P w t Kd.string (fun s => s.size ≤ maxLen) := by
  intro fuel cs x h
  obtain ⟨s, rfl, _, hs⟩ := DataW.trod_string ht h
  exact ⟨s, rfl, hs⟩
theorem opens_bool (ht : P.underlying t = some .bool) : Opens enc P w t Kd.bool (fun _ => True) := by
  intro fuel cs x h
  obtain ⟨s, rfl, _⟩ := DataW.trod_bool ht h
  exact ⟨s, rfl, trivial⟩
theorem opens_int {k : IntKind} (ht : P.underlying t = some (.int k)) : Opens enc P w t (Kd.int k) (fun n => (Lit.int k n).wf = true) := by
  intro fuel cs x h
  obtain ⟨n, rfl, _, hn⟩ := DataW.trod_int ht h
  exact ⟨n, rfl, hn⟩
theorem opens_slice {α : Type} [Inhabited α] {e : TypeId} {d : Kd α} {G : α → Prop} (ht : P.underlying t = some (.slice e)) (hc : P.cellsOf e = d.sz) (he : Opens enc P w e d G) :
    Opens enc P w t (Kd.slice e d) (fun l => l.length ≤ maxLen ∧ ∀ a ∈ l, G a) := by
  intro fuel cs x h
  rcases Go.Deep.open_slice ht h with ⟨rfl, _⟩ | ⟨a, len, cap, m, n, D, Pl, rfl, _, hl, hm, hmm, _, hx⟩
  · exact ⟨[], ⟨none, 0, rfl, Nat.le_refl _, Kd.C_nil d w⟩, by simp, by simp⟩
  · have hm' : m = cap := by simpa using hmm
    have each : ∀ i, i < len → ∃ y : α, G y ∧ ∃ c, d.K w y c ∧ ∀ j u, c[j]? = some u → w.cell? (a.add (i * d.sz + j)) = some u := fun i hi => by
      obtain ⟨cs', h1, h2⟩ := hx i (by omega)
      obtain ⟨y, hK, hG⟩ := he _ _ _ h2
      obtain ⟨_, h3, h4⟩ := World.cells?_some h1
      refine ⟨y, hG, cs', hK, fun j u hu => ?_⟩
      have hj : j < P.cellsOf e := by
        have := (List.getElem?_eq_some_iff.1 hu).1
        omega
      have h5 := h4 j hj
      rw [Go.Deep.add_add, hc, hu] at h5
      exact h5
    obtain ⟨f, hf⟩ := Go.Deep.choose_lt each
    have hmax : maxLen = 9223372036854775807 := by decide
    refine ⟨(List.range len).map f, ⟨some a, cap, by simp, by simpa using hl, ?_⟩, by simp; omega, ?_⟩
    · refine ⟨rfl, by simp; omega, fun _ => ⟨a, rfl, fun j p hj => ?_⟩⟩
      have hjl : j < len := by
        have := (List.getElem?_eq_some_iff.1 hj).1
        simpa using this
      have hp : f j = p := by
        rw [List.getElem?_map, List.getElem?_range hjl] at hj
        simpa using hj
      obtain ⟨_, c, hK, hcell⟩ := hf j hjl
      exact ⟨c, d.K_len hK, hp ▸ hK, hcell⟩
    · intro y hy
      obtain ⟨j, hj, rfl⟩ := List.mem_map.1 hy
      exact (hf j (List.mem_range.1 hj)).1
end
end Go.Proofs.Ytiddgglidkbipaa.Op

/- What a reading of a struct says of its cells. No condition. -/
namespace Go.Proofs.Ytiddgglidkbipaa.Q
open Go.RowKit Go.ChangeShapes Go.WideShapes Go.Proofs.YtiddgglidkbipaaW.PrintWords Go.Proofs.Ytiddgglidkbipaa
set_option linter.unusedVariables false
set_option linter.unusedSimpArgs false
theorem len5 {α : Type} {cs : List α} (h : cs.length = 5) : ∃ c0 c1 c2 c3 c4, cs = [c0, c1, c2, c3, c4] := by
  match cs, h with
  | [c0, c1, c2, c3, c4], _ => exact ⟨_, _, _, _, _, rfl⟩
instance : Inhabited S24 := ⟨z24⟩
def G24 (x : S24) : Prop := (fun x : Int => (Lit.int .i64 x).wf = true) x.f0 ∧ (fun l : List ByteArray => l.length ≤ maxLen ∧ ∀ a ∈ l, (fun s : ByteArray => s.size ≤ maxLen) a) x.f1 ∧ (fun _ : Bool => True) x.f2 ∧ (fun _ : Bool => True) x.f3 ∧ (fun x : Int => (Lit.int .i64 x).wf = true) x.f4
theorem opens24 {H : Type} {enc : TypeId × Value → H} {w : World} : Op.Opens enc Try.prog w 24 k24 G24 := by
  intro fuel cs x h
  obtain ⟨xs, n, _, _, hl, hlen, hf⟩ := DataW.trod_struct Try.underlying24 h
  replace hl : cs.length = 5 := hl.trans (by kernel_rfl)
  replace hlen : xs.length = 5 := hlen.trans (by kernel_rfl)
  obtain ⟨c0, c1, c2, c3, c4, rfl⟩ := len5 hl
  have hc3_ : Try.prog.cellsOf 3 = 1 := by kernel_rfl
  have hc22_ : Try.prog.cellsOf 22 = 1 := by kernel_rfl
  have hc4_ : Try.prog.cellsOf 4 = 1 := by kernel_rfl
  obtain ⟨a0, k0_, g0_⟩ : ∃ a, (Kd.int .i64).K w a [c0] ∧ (fun x : Int => (Lit.int .i64 x).wf = true) a := by
    have h1 : DataW.trod enc Try.prog w 0 (fun _ => true) true n 3 (([c0, c1, c2, c3, c4].drop 0).take (Try.prog.cellsOf 3)) = xs[0]? := hf 0 _ rfl
    have hlt : 0 < xs.length := by omega
    rw [List.getElem?_eq_getElem hlt] at h1
    simp only [hc3_, List.drop_zero, List.drop_succ_cons, List.take_succ_cons, List.take_zero] at h1
    exact (Op.opens_int Try.underlying3) n [c0] _ h1
  obtain ⟨a1, k1_, g1_⟩ : ∃ a, (Kd.slice 9 Kd.string).K w a [c1] ∧ (fun l : List ByteArray => l.length ≤ maxLen ∧ ∀ a ∈ l, (fun s : ByteArray => s.size ≤ maxLen) a) a := by
    have h1 : DataW.trod enc Try.prog w 0 (fun _ => true) true n 22 (([c0, c1, c2, c3, c4].drop 1).take (Try.prog.cellsOf 22)) = xs[1]? := hf 1 _ rfl
    have hlt : 1 < xs.length := by omega
    rw [List.getElem?_eq_getElem hlt] at h1
    simp only [hc22_, List.drop_zero, List.drop_succ_cons, List.take_succ_cons, List.take_zero] at h1
    exact (Op.opens_slice Try.underlying22 (by kernel_rfl) (Op.opens_string Try.underlying9)) n [c1] _ h1
  obtain ⟨a2, k2_, g2_⟩ : ∃ a, Kd.bool.K w a [c2] ∧ (fun _ : Bool => True) a := by
    have h1 : DataW.trod enc Try.prog w 0 (fun _ => true) true n 4 (([c0, c1, c2, c3, c4].drop 2).take (Try.prog.cellsOf 4)) = xs[2]? := hf 2 _ rfl
    have hlt : 2 < xs.length := by omega
    rw [List.getElem?_eq_getElem hlt] at h1
    simp only [hc4_, List.drop_zero, List.drop_succ_cons, List.take_succ_cons, List.take_zero] at h1
    exact (Op.opens_bool Try.underlying4) n [c2] _ h1
  obtain ⟨a3, k3_, g3_⟩ : ∃ a, Kd.bool.K w a [c3] ∧ (fun _ : Bool => True) a := by
    have h1 : DataW.trod enc Try.prog w 0 (fun _ => true) true n 4 (([c0, c1, c2, c3, c4].drop 3).take (Try.prog.cellsOf 4)) = xs[3]? := hf 3 _ rfl
    have hlt : 3 < xs.length := by omega
    rw [List.getElem?_eq_getElem hlt] at h1
    simp only [hc4_, List.drop_zero, List.drop_succ_cons, List.take_succ_cons, List.take_zero] at h1
    exact (Op.opens_bool Try.underlying4) n [c3] _ h1
  obtain ⟨a4, k4_, g4_⟩ : ∃ a, (Kd.int .i64).K w a [c4] ∧ (fun x : Int => (Lit.int .i64 x).wf = true) a := by
    have h1 : DataW.trod enc Try.prog w 0 (fun _ => true) true n 3 (([c0, c1, c2, c3, c4].drop 4).take (Try.prog.cellsOf 3)) = xs[4]? := hf 4 _ rfl
    have hlt : 4 < xs.length := by omega
    rw [List.getElem?_eq_getElem hlt] at h1
    simp only [hc3_, List.drop_zero, List.drop_succ_cons, List.take_succ_cons, List.take_zero] at h1
    exact (Op.opens_int Try.underlying3) n [c4] _ h1
  exact ⟨⟨a0, a1, a2, a3, a4⟩, ⟨[c0], [c1, c2, c3, c4], rfl, k0_, ⟨[c1], [c2, c3, c4], rfl, k1_, ⟨[c2], [c3, c4], rfl, k2_, ⟨[c3], [c4], rfl, k3_, k4_⟩⟩⟩⟩, ⟨g0_, g1_, g2_, g3_, g4_⟩⟩
end Go.Proofs.Ytiddgglidkbipaa.Q

/- Small lemmas for plain laws over rounds: indices as lengths of what was passed, bytes' equality. No condition. -/
set_option linter.unusedSimpArgs false
set_option linter.unusedVariables false
namespace Go.Proofs.Ytiddgglidkbipaa.L
open Go.RowKit Go.Proofs.YtiddgglidkbipaaW.PrintWords Go.Proofs.YtiddgglidkbipaaW.PrintLast
theorem ba_toList (s : ByteArray) : s.toList = s.data.toList := ByteArray.toList_eq s
theorem ba_inj {a b : ByteArray} (h : a.toList = b.toList) : a = b := by
  rw [ba_toList, ba_toList] at h
  cases a with | mk x => cases b with | mk y => congr 1; exact Array.toList_inj.1 h
theorem ba_eq {a b : ByteArray} : (a.toList = b.toList) = (a = b) := propext ⟨ba_inj, fun h => by rw [h]⟩
theorem maxLen_eq : maxLen = 9223372036854775807 := by decide
theorem wrap_id {x : Int} (h0 : -9223372036854775808 ≤ x) (h1 : x < 9223372036854775808) : wrap64 x = x := by
  unfold wrap64
  omega
section
variable {α : Type} {l pre suf : List α} {a : α}
theorem lt_at (h : l = pre ++ a :: suf) : ((pre.length : Nat) : Int) < (l.length : Int) := by subst h; simp; omega
theorem rd_at (d : α) (h : l = pre ++ a :: suf) : rdOf d l (pre.length : Int) = a := by subst h; simp [rdOf, List.getD_eq_getElem?_getD]
theorem getD_at (d : α) (h : l = pre ++ a :: suf) : l.getD ((pre.length : Nat) : Int).toNat d = a := by subst h; simp [List.getD_eq_getElem?_getD]
theorem next_at (h : l = pre ++ a :: suf) (hl : l.length ≤ maxLen) : wrap64 ((pre.length : Int) + 1) = ((pre ++ [a]).length : Int) := by
  have : l.length = pre.length + 1 + suf.length := by subst h; simp; omega
  rw [maxLen_eq] at hl
  rw [wrap_id (by omega) (by omega)]
  simp
theorem snoc_at (h : l = pre ++ a :: suf) : l = (pre ++ [a]) ++ suf := by subst h; simp
theorem end_at (h : l = pre ++ []) : ¬ ((pre.length : Nat) : Int) < (l.length : Int) := by subst h; simp
theorem set_at {b : α} (h : l = pre ++ a :: suf) : l.set ((pre.length : Nat) : Int).toNat b = (pre ++ [b]) ++ suf := by subst h; simp
theorem nonneg_at (n : Nat) : (0 : Int) ≤ (n : Int) := Int.natCast_nonneg n
end
def Sz (g : Nat → Option Int) (n : Int) (P : Prop) : Prop := Ev g (-1) ∨ ∃ m : Int, 0 ≤ m ∧ m ≤ n ∧ Ev g m ∧ P
theorem Sz.bind {g : Nat → Option Int} {f : Nat → Int → Option Int} {n : Int} {P Q : Prop} (h : Sz g n P) (hk : ∀ m, 0 ≤ m → m ≤ n → P → Sz (fun k => f k m) m Q) (hneg : Ev (fun k => f k (-1)) (-1)) : Sz (fun k => (g k).bind (f k)) n Q := by
  rcases h with h | ⟨m, h0, h1, h, hP⟩
  · exact .inl (Ev.bind h hneg)
  · rcases hk m h0 h1 hP with h2 | ⟨m', h0', h1', h2, hQ⟩
    · exact .inl (Ev.bind h h2)
    · exact .inr ⟨m', h0', by omega, Ev.bind h h2, hQ⟩
theorem Sz.sub {f : Nat → Option Int} {n c : Int} {Q : Prop} (hc : 0 ≤ c) (hk : c ≤ n → Sz f (n - c) Q) : Sz (fun k => if n - c < 0 then some (-1) else f k) n Q := by
  by_cases h : n - c < 0
  · simp only [if_pos h]; exact .inl (Ev.now _)
  · simp only [if_neg h]
    rcases hk (by omega) with h2 | ⟨m, h0, h1, h2, hQ⟩
    · exact .inl h2
    · exact .inr ⟨m, h0, by omega, h2, hQ⟩
theorem Sz.ev {α : Type} {g : Nat → Option Int} {f : Nat → Int → Option α} {n : Int} {P : Prop} {r : α} (h : Sz g n P) (hneg : Ev (fun k => f k (-1)) r) (hk : ∀ m, 0 ≤ m → m ≤ n → P → Ev (fun k => f k m) r) : Ev (fun k => (g k).bind (f k)) r := by
  rcases h with h | ⟨m, h0, h1, h, hP⟩
  · exact Ev.bind h hneg
  · exact Ev.bind h (hk m h0 h1 hP)
def IntOk (x : Int) : Prop := -9223372036854775808 ≤ x ∧ x < 9223372036854775808
theorem wf_int {x : Int} (h : (Lit.int .i64 x).wf = true) : IntOk x := by
  unfold Lit.wf at h
  rw [Bool.and_eq_true, decide_eq_true_eq, decide_eq_true_eq] at h
  have h1 : IntKind.i64.min = -9223372036854775808 := by decide
  have h2 : IntKind.i64.max = 9223372036854775807 := by decide
  rw [h1, h2] at h
  exact ⟨h.1, by omega⟩
def SmS (l : List ByteArray) : Prop := l.length ≤ 1048576 ∧ ∀ s ∈ l, s.size ≤ 1048576
theorem sz_loop {α : Type} {l : List α} {P : α → Prop} (g : Nat → Int → Int → Option Int)
    (hend : ∀ n, Ev (fun k => g k n l.length) n)
    (hstep : ∀ pre a suf n, l = pre ++ a :: suf → 0 ≤ n → n ≤ 1048576 → Ev (fun k => g k n (pre.length : Int)) (-1) ∨ ∃ m, 0 ≤ m ∧ m ≤ n ∧ P a ∧ ∀ r, Ev (fun k => g k m ((pre ++ [a]).length : Int)) r → Ev (fun k => g k n (pre.length : Int)) r) :
    ∀ (suf pre : List α) (n : Int), l = pre ++ suf → 0 ≤ n → n ≤ 1048576 → Sz (fun k => g k n (pre.length : Int)) n (∀ a ∈ suf, P a) := by
  intro suf
  induction suf with
  | nil =>
    intro pre n h h0 h1
    have := hend n
    rw [h, List.append_nil] at this
    exact .inr ⟨n, h0, Int.le_refl _, this, by simp⟩
  | cons a suf ih =>
    intro pre n h h0 h1
    rcases hstep pre a suf n h h0 h1 with h2 | ⟨m, hm0, hm1, hP, hr⟩
    · exact .inl h2
    · rcases ih (pre ++ [a]) m (snoc_at h) hm0 (by omega) with h3 | ⟨m', hm0', hm1', h3, h4⟩
      · exact .inl (hr _ h3)
      · exact .inr ⟨m', hm0', by omega, hr _ h3, fun x hx => by
          rcases List.mem_cons.1 hx with rfl | hx
          · exact hP
          · exact h4 x hx⟩
theorem to_loop {α β : Type} {l : List α} {f : α → β} (g : Nat → List β → Int → Option (List β))
    (hend : ∀ out, Ev (fun k => g k out l.length) out)
    (hstep : ∀ pre a suf (out : List β), l = pre ++ a :: suf → ((pre.length : Nat) : Int) < (out.length : Int) → ∀ r, Ev (fun k => g k (out.set ((pre.length : Nat) : Int).toNat (f a)) ((pre ++ [a]).length : Int)) r → Ev (fun k => g k out (pre.length : Int)) r) :
    ∀ (suf pre : List α) (out rest : List β), l = pre ++ suf → out = pre.map f ++ rest → rest.length = suf.length → Ev (fun k => g k out (pre.length : Int)) (l.map f) := by
  intro suf
  induction suf with
  | nil =>
    intro pre out rest h ho hr
    obtain rfl : rest = [] := by simpa using hr
    have := hend out
    rw [h, List.append_nil] at this ⊢
    rw [ho, List.append_nil] at this ⊢
    exact this
  | cons a suf ih =>
    intro pre out rest h ho hr
    obtain ⟨b, rest, rfl⟩ : ∃ b r, rest = b :: r := by
      cases rest with
      | nil => simp at hr
      | cons b r => exact ⟨b, r, rfl⟩
    have hlen : ((pre.length : Nat) : Int) < (out.length : Int) := by rw [ho]; simp; omega
    refine hstep pre a suf out h hlen _ (ih (pre ++ [a]) _ rest (snoc_at h) ?_ (by simpa using hr))
    rw [ho]
    simp [List.set_append]
theorem eq_loop {α : Type} [DecidableEq α] {a b : List α} (g : Nat → Int → Option Bool)
    (hend : Ev (fun k => g k a.length) true)
    (hstep : ∀ pre x su pre' y sv, a = pre ++ x :: su → b = pre' ++ y :: sv → pre.length = pre'.length → (x ≠ y → Ev (fun k => g k (pre.length : Int)) false) ∧ (x = y → ∀ r, Ev (fun k => g k ((pre ++ [x]).length : Int)) r → Ev (fun k => g k (pre.length : Int)) r)) :
    ∀ (su sv pu pv : List α), a = pu ++ su → b = pv ++ sv → pu.length = pv.length → su.length = sv.length → Ev (fun k => g k (pu.length : Int)) (decide (su = sv)) := by
  intro su
  induction su with
  | nil =>
    intro sv pu pv h h' hp hs
    obtain rfl : sv = [] := by simpa using hs.symm
    rw [h, List.append_nil] at hend
    exact hend
  | cons x su ih =>
    intro sv pu pv h h' hp hs
    cases sv with
    | nil => simp at hs
    | cons y sv =>
      obtain ⟨h1, h2⟩ := hstep pu x su pv y sv h h' hp
      by_cases e : x = y
      · have h3 := h2 e _ (ih sv (pu ++ [x]) (pv ++ [y]) (snoc_at h) (snoc_at h') (by simp [hp]) (by simpa using hs))
        simp only [e, List.cons.injEq, true_and]
        exact h3
      · rw [show decide (x :: su = y :: sv) = false from decide_eq_false (fun h => e (List.cons.inj h).1)]
        exact h1 e
theorem ev_cast {α : Type} {g : Nat → Option α} {r s : α} (h : Ev g r) (e : r = s) : Ev g s := e ▸ h
end Go.Proofs.Ytiddgglidkbipaa.L

/- The laws' own functions over lists of texts: their size, their copy, their equality. No condition. -/
set_option linter.unusedSimpArgs false
set_option linter.unusedVariables false
namespace Go.Proofs.Ytiddgglidkbipaa.L
open Go.RowKit Go.Proofs.YtiddgglidkbipaaW.PrintWords Go.Proofs.YtiddgglidkbipaaW.PrintLast Go.Proofs.Ytiddgglidkbipaa.Q
theorem szS_loop {l : List ByteArray} (hl : l.length ≤ maxLen) (hs : ∀ s ∈ l, s.size ≤ maxLen) : ∀ (suf pre : List ByteArray) (n : Int), l = pre ++ suf → 0 ≤ n → n ≤ 1048576 →
    Ev (fun k => laws_szStringS.l0 k l n pre.length) (-1) ∨ ∃ m : Int, 0 ≤ m ∧ m ≤ n ∧ Ev (fun k => laws_szStringS.l0 k l n pre.length) m ∧ ∀ s ∈ suf, (s.size : Int) ≤ n := by
  intro suf
  induction suf with
  | nil =>
    intro pre n h h0 h1
    refine .inr ⟨n, h0, Int.le_refl _, Ev.step (fun k => laws_szStringS.l0.eq_2 ..) ?_, by simp⟩
    simp only [if_neg (end_at h)]
    exact Ev.now _
  | cons a suf ih =>
    intro pre n h h0 h1
    have ha : a.size ≤ maxLen := hs a (by rw [h]; simp)
    rw [maxLen_eq] at ha
    have hw : wrap64 (n - (a.size : Int)) = n - a.size := wrap_id (by omega) (by omega)
    by_cases hlt : n - (a.size : Int) < 0
    · left
      refine Ev.step (fun k => laws_szStringS.l0.eq_2 ..) ?_
      simp only [if_pos (lt_at h), if_pos (nonneg_at _), rd_at _ h, hw, if_pos hlt]
      exact Ev.now _
    · have st : ∀ r, Ev (fun k => laws_szStringS.l0 k l (n - a.size) (pre ++ [a]).length) r → Ev (fun k => laws_szStringS.l0 k l n pre.length) r := fun r hr => by
        refine Ev.step (fun k => laws_szStringS.l0.eq_2 ..) ?_
        simp only [if_pos (lt_at h), if_pos (nonneg_at _), rd_at _ h, hw, if_neg hlt, next_at h hl]
        exact hr
      rcases ih (pre ++ [a]) (n - a.size) (snoc_at h) (by omega) (by omega) with h2 | ⟨m, hm0, hm1, h2, h3⟩
      · exact .inl (st _ h2)
      · refine .inr ⟨m, hm0, by omega, st _ h2, fun s hs' => ?_⟩
        rcases List.mem_cons.1 hs' with rfl | hs'
        · omega
        · have := h3 s hs'
          omega
theorem szS {l : List ByteArray} (hl : l.length ≤ maxLen) (hs : ∀ s ∈ l, s.size ≤ maxLen) {n : Int} (h0 : 0 ≤ n) (h1 : n ≤ 1048576) : Sz (fun k => laws_szStringS.f k l n) n (SmS l) := by
  have hl' := hl
  rw [maxLen_eq] at hl'
  unfold laws_szStringS.f
  simp only [wrap_id (x := n - (l.length : Int)) (by omega) (by omega)]
  refine Sz.sub (by omega) (fun hlt => ?_)
  rcases szS_loop hl hs l [] (n - l.length) rfl (by omega) (by omega) with h | ⟨m, hm0, hm1, h2, h3⟩
  · exact .inl h
  · exact .inr ⟨m, hm0, hm1, h2, by omega, fun s hs' => by have := h3 s hs'; omega⟩
theorem toS_loop {l : List ByteArray} (hl : l.length ≤ maxLen) : ∀ (suf pre rest : List ByteArray), l = pre ++ suf → rest.length = suf.length → Ev (fun k => laws_toStringS.l0 k l (pre ++ rest) pre.length) l := by
  intro suf
  induction suf with
  | nil =>
    intro pre rest h hr
    refine Ev.step (fun k => laws_toStringS.l0.eq_2 ..) ?_
    simp only [if_neg (end_at h)]
    obtain rfl : rest = [] := by simpa using hr
    rw [← h]
    exact Ev.now _
  | cons a suf ih =>
    intro pre rest h hr
    obtain ⟨b, rest, rfl⟩ : ∃ b r, rest = b :: r := by
      cases rest with
      | nil => simp at hr
      | cons b r => exact ⟨b, r, rfl⟩
    refine Ev.step (fun k => laws_toStringS.l0.eq_2 ..) ?_
    have h2 : pre ++ b :: rest = pre ++ b :: rest := rfl
    simp only [if_pos (lt_at h), if_pos (nonneg_at _), rd_at _ h, if_pos (lt_at h2), next_at h hl, set_at h2]
    exact ih (pre ++ [a]) rest (snoc_at h) (by simpa using hr)
theorem toS {l : List ByteArray} (hl : (l.length : Int) ≤ 1048576) : Ev (fun k => laws_toStringS.f k l) l := by
  unfold laws_toStringS.f
  simp only [if_pos (nonneg_at _), Int.toNat_natCast, if_pos (show l.length ≤ 17592186044416 by omega)]
  have := toS_loop (l := l) (by rw [maxLen_eq]; omega) l [] (List.replicate l.length (⟨#[]⟩ : ByteArray)) rfl (by simp)
  simpa using this
theorem eqS_loop {a b : List ByteArray} (hl : a.length ≤ maxLen) : ∀ (su sv pu pv : List ByteArray), a = pu ++ su → b = pv ++ sv → pu.length = pv.length → su.length = sv.length →
    Ev (fun k => laws_eqStringS.l0 k a b pu.length) (decide (su = sv)) := by
  intro su
  induction su with
  | nil =>
    intro sv pu pv h h' hp hs
    obtain rfl : sv = [] := by simpa using hs.symm
    refine Ev.step (fun k => laws_eqStringS.l0.eq_2 ..) ?_
    simp only [if_neg (end_at h)]
    exact Ev.now _
  | cons x su ih =>
    intro sv pu pv h h' hp hs
    cases sv with
    | nil => simp at hs
    | cons y sv =>
      refine Ev.step (fun k => laws_eqStringS.l0.eq_2 ..) ?_
      have h3 := rd_at ByteArray.empty h'
      have h4 := lt_at h'
      rw [← hp] at h3 h4
      by_cases e : x = y
      · subst e
        simp only [if_pos (lt_at h), if_pos (nonneg_at _), if_pos h4, rd_at _ h, h3, if_true, next_at h hl, List.cons.injEq, true_and]
        exact ih sv (pu ++ [x]) (pv ++ [x]) (snoc_at h) (snoc_at h') (by simp [hp]) (by simpa using hs)
      · simp only [if_pos (lt_at h), if_pos (nonneg_at _), if_pos h4, rd_at _ h, h3, ba_eq, if_neg e, List.cons.injEq, e, false_and, decide_false]
        exact Ev.now _
theorem eqS {a b : List ByteArray} (hl : a.length ≤ maxLen) : Ev (fun k => laws_eqStringS.f k a b) (decide (a = b)) := by
  unfold laws_eqStringS.f
  by_cases e : (a.length : Int) = (b.length : Int)
  · simp only [if_pos e]
    exact eqS_loop hl a b [] [] rfl rfl rfl (by omega)
  · simp only [if_neg e]
    rw [show decide (a = b) = false from decide_eq_false (fun h => e (by rw [h]))]
    exact Ev.now _
end Go.Proofs.Ytiddgglidkbipaa.L

/- The laws' own functions over a mirrored struct (Lock): size, copy, equality. No condition. -/
set_option linter.unusedSimpArgs false
set_option linter.unusedVariables false
namespace Go.Proofs.Ytiddgglidkbipaa.L
open Go.RowKit Go.Proofs.YtiddgglidkbipaaW.PrintWords Go.Proofs.YtiddgglidkbipaaW.PrintLast Go.Proofs.Ytiddgglidkbipaa.Q
instance : DecidableEq S28 := fun a b => if h : a.f0 = b.f0 ∧ a.f1 = b.f1 ∧ a.f2 = b.f2 ∧ a.f3 = b.f3 ∧ a.f4 = b.f4 then .isTrue (by cases a; cases b; simp_all) else .isFalse (fun e => h (by rw [e]; exact ⟨rfl, rfl, rfl, rfl, rfl⟩))
theorem rd_lawsLock {l pre suf : List S24} {a : S24} (h : l = pre ++ a :: suf) : rd_T24 l (pre.length : Int) = a := getD_at _ h
theorem rd_implLock {l pre suf : List S28} {a : S28} (h : l = pre ++ a :: suf) : rd_T28 l (pre.length : Int) = a := getD_at _ h
def toLock (p : S24) : S28 := ⟨p.f0, p.f1, p.f2, p.f3, p.f4⟩
def SmLock (p : S28) : Prop := IntOk p.f0 ∧ SmS p.f1 ∧ True ∧ True ∧ IntOk p.f4
def GGLock (x : S24) : Prop := (Lit.int .i64 x.f0).wf = true ∧ (x.f1.length ≤ maxLen ∧ ∀ s ∈ x.f1, s.size ≤ maxLen) ∧ True ∧ True ∧ (Lit.int .i64 x.f4).wf = true
theorem szLock {p : S24} (hp : GGLock p) {n : Int} (h0 : 0 ≤ n) (h1 : n ≤ 1048576) : Sz (fun k => laws_szLock.f k p.f0 p.f1 p.f2 p.f3 p.f4 n) n (SmLock (toLock p)) := by
  obtain ⟨g0, g1, g2, g3, g4⟩ := hp
  unfold laws_szLock.f
  refine Sz.bind (szS g1.1 g1.2 (by omega) (by omega)) (fun n1 a1 b1 s1 => ?_) (by simp only [show (-1 : Int) < 0 by omega, if_true]; exact Ev.now _)
  simp only [if_neg (show ¬ n1 < 0 by omega)]
  exact .inr ⟨n1, by omega, by omega, Ev.now _, wf_int g0, s1, trivial, trivial, wf_int g4⟩
theorem toLock1 {p : S24} (hp : SmLock (toLock p)) : Ev (fun k => laws_toLock.f k p.f0 p.f1 p.f2 p.f3 p.f4) (p.f0, p.f1, p.f2, p.f3, p.f4) := by
  obtain ⟨g0, g1, g2, g3, g4⟩ := hp
  unfold laws_toLock.f
  refine Ev.bind (toS (by have := g1.1; simp only [toLock] at this; omega)) ?_
  exact Ev.now _
theorem eqLock1 {p q : S28} (hp : SmLock p) : Ev (fun k => laws_eqLock.f k p.f0 p.f1 p.f2 p.f3 p.f4 q.f0 q.f1 q.f2 q.f3 q.f4) (decide (p = q)) := by
  obtain ⟨g0, g1, g2, g3, g4⟩ := hp
  unfold laws_eqLock.f
  by_cases e0 : p.f0 = q.f0
  rotate_left
  · rw [show decide (p = q) = false from decide_eq_false (fun h => e0 (by rw [h]))]
    simp only [ba_eq, e0, bne_iff_ne, ne_eq, not_false_eq_true, not_true_eq_false, if_true, if_false]
    exact Ev.now _
  simp only [ba_eq, e0, bne_self_eq_false, Bool.false_eq_true, if_true, if_false]
  refine Ev.bind (eqS (by have := g1.1; rw [maxLen_eq]; omega)) ?_
  by_cases e1 : p.f1 = q.f1
  rotate_left
  · rw [show decide (p = q) = false from decide_eq_false (fun h => e1 (by rw [h]))]
    simp only [e1, decide_false, Bool.false_eq_true, if_false]
    exact Ev.now _
  simp only [e1, decide_true, if_true]
  by_cases e2 : p.f2 = q.f2
  rotate_left
  · rw [show decide (p = q) = false from decide_eq_false (fun h => e2 (by rw [h]))]
    simp only [ba_eq, e2, bne_iff_ne, ne_eq, not_false_eq_true, not_true_eq_false, if_true, if_false]
    exact Ev.now _
  simp only [ba_eq, e2, bne_self_eq_false, Bool.false_eq_true, if_true, if_false]
  by_cases e3 : p.f3 = q.f3
  rotate_left
  · rw [show decide (p = q) = false from decide_eq_false (fun h => e3 (by rw [h]))]
    simp only [ba_eq, e3, bne_iff_ne, ne_eq, not_false_eq_true, not_true_eq_false, if_true, if_false]
    exact Ev.now _
  simp only [ba_eq, e3, bne_self_eq_false, Bool.false_eq_true, if_true, if_false]
  by_cases e4 : p.f4 = q.f4
  rotate_left
  · rw [show decide (p = q) = false from decide_eq_false (fun h => e4 (by rw [h]))]
    simp only [ba_eq, e4, bne_iff_ne, ne_eq, not_false_eq_true, not_true_eq_false, if_true, if_false]
    exact Ev.now _
  simp only [ba_eq, e4, bne_self_eq_false, Bool.false_eq_true, if_true, if_false]
  rw [show decide (p = q) = true from decide_eq_true (by cases p; cases q; simp_all)]
  exact Ev.now _
def SmLocks (l : List S28) : Prop := l.length ≤ 1048576 ∧ ∀ p ∈ l, SmLock p
theorem szLockS {l : List S24} (hl : l.length ≤ maxLen) (hs : ∀ s ∈ l, GGLock s) {n : Int} (h0 : 0 ≤ n) (h1 : n ≤ 1048576) : Sz (fun k => laws_szLockS.f k l n) n (SmLocks (l.map toLock)) := by
  have hl' := hl
  rw [maxLen_eq] at hl'
  unfold laws_szLockS.f
  simp only [wrap_id (x := n - (l.length : Int)) (by omega) (by omega)]
  refine Sz.sub (by omega) (fun hlt => ?_)
  have key : Sz (fun k => laws_szLockS.l0 k l (n - l.length) 0) (n - l.length) (∀ p ∈ l, SmLock (toLock p)) := by
    refine sz_loop (l := l) (P := fun p => SmLock (toLock p)) (fun k n i => laws_szLockS.l0 k l n i) ?_ ?_ l [] (n - l.length) rfl (by omega) (by omega)
    · intro n
      refine Ev.step (fun k => laws_szLockS.l0.eq_2 ..) ?_
      simp only [Int.lt_irrefl, if_false]
      exact Ev.now _
    · intro pre a suf n h h0 h1
      rcases szLock (hs a (by rw [h]; simp)) h0 h1 with h2 | ⟨m, hm0, hm1, h2, h3⟩
      · left
        refine Ev.step (fun k => laws_szLockS.l0.eq_2 ..) ?_
        simp only [if_pos (lt_at h), if_pos (nonneg_at _), rd_lawsLock h]
        refine Ev.bind h2 ?_
        simp only [show (-1 : Int) < 0 by omega, if_true]
        exact Ev.now _
      · refine .inr ⟨m, hm0, hm1, h3, fun r hr => ?_⟩
        refine Ev.step (fun k => laws_szLockS.l0.eq_2 ..) ?_
        simp only [if_pos (lt_at h), if_pos (nonneg_at _), rd_lawsLock h]
        refine Ev.bind h2 ?_
        simp only [if_neg (show ¬ m < 0 by omega), next_at h hl]
        exact hr
  rcases key with h | ⟨m, hm0, hm1, h2, h3⟩
  · exact .inl h
  · refine .inr ⟨m, hm0, hm1, h2, by simp; omega, fun p hp => ?_⟩
    obtain ⟨q, hq, rfl⟩ := List.mem_map.1 hp
    exact h3 q hq
theorem toLockS {p : List S24} (hp : SmLocks (p.map toLock)) : Ev (fun k => laws_toLockS.f k p) (p.map toLock) := by
  obtain ⟨hl0, hs⟩ := hp
  rw [List.length_map] at hl0
  have hl2 : p.length ≤ maxLen := by rw [maxLen_eq]; omega
  unfold laws_toLockS.f
  simp only [if_pos (nonneg_at _), Int.toNat_natCast, if_pos (show p.length ≤ 5864062014805 by omega)]
  refine to_loop (l := p) (f := toLock) (fun k out i => laws_toLockS.l0 k p out i) ?_ ?_ p [] _ (List.replicate p.length z28) rfl rfl (by simp)
  · intro out
    refine Ev.step (fun k => laws_toLockS.l0.eq_2 ..) ?_
    simp only [Int.lt_irrefl, if_false]
    exact Ev.now _
  · intro pre a suf out h ho r hr
    refine Ev.step (fun k => laws_toLockS.l0.eq_2 ..) ?_
    simp only [if_pos (lt_at h), if_pos (nonneg_at _), rd_lawsLock h]
    refine Ev.bind (toLock1 (hs _ (List.mem_map.2 ⟨a, by rw [h]; simp, rfl⟩))) ?_
    simp only [if_pos ho, next_at h hl2]
    exact hr
theorem eqLockS {a b : List S28} (ha : SmLocks a) : Ev (fun k => laws_eqLockS.f k a b) (decide (a = b)) := by
  have hl : a.length ≤ maxLen := by have := ha.1; rw [maxLen_eq]; omega
  unfold laws_eqLockS.f
  by_cases e : (a.length : Int) = (b.length : Int)
  · simp only [if_pos e]
    refine eq_loop (a := a) (b := b) (fun k i => laws_eqLockS.l0 k a b i) ?_ ?_ a b [] [] rfl rfl rfl (by omega)
    · refine Ev.step (fun k => laws_eqLockS.l0.eq_2 ..) ?_
      simp only [Int.lt_irrefl, if_false]
      exact Ev.now _
    · intro pre x su pre' y sv h h' hp
      have h3 := rd_implLock h'
      have h4 := lt_at h'
      rw [← hp] at h3 h4
      have h5 := eqLock1 (q := y) (ha.2 x (by rw [h]; simp))
      refine ⟨fun hne => ?_, fun heq r hr => ?_⟩
      · refine Ev.step (fun k => laws_eqLockS.l0.eq_2 ..) ?_
        simp only [if_pos (lt_at h), if_pos (nonneg_at _), if_pos h4, rd_implLock h, h3]
        refine Ev.bind h5 ?_
        simp only [hne, decide_false, Bool.false_eq_true, if_false]
        exact Ev.now _
      · refine Ev.step (fun k => laws_eqLockS.l0.eq_2 ..) ?_
        simp only [if_pos (lt_at h), if_pos (nonneg_at _), if_pos h4, rd_implLock h, h3]
        refine Ev.bind h5 ?_
        simp only [heq, decide_true, if_true, next_at h hl]
        rw [heq] at hr
        exact hr
  · simp only [if_neg e]
    rw [show decide (a = b) = false from decide_eq_false (fun h => e (by rw [h]))]
    exact Ev.now _
end Go.Proofs.Ytiddgglidkbipaa.L

/- Paths: are they the same, is one under the other; as the program and the reference have it. No condition. -/
set_option linter.unusedSimpArgs false
set_option linter.unusedVariables false
namespace Go.Proofs.Ytiddgglidkbipaa.L
open Go.RowKit Go.Proofs.YtiddgglidkbipaaW.PrintWords Go.Proofs.YtiddgglidkbipaaW.PrintLast Go.Proofs.Ytiddgglidkbipaa.Q
theorem specSame {a b : List ByteArray} (hl : a.length ≤ maxLen) : Ev (fun k => spec_SamePath.f k a b) (decide (a = b)) := by
  unfold spec_SamePath.f
  by_cases e : (a.length : Int) = (b.length : Int)
  · simp only [if_pos e]
    refine eq_loop (a := a) (b := b) (fun k i => spec_SamePath.l0 k a b i) ?_ ?_ a b [] [] rfl rfl rfl (by omega)
    · refine Ev.step (fun k => spec_SamePath.l0.eq_2 ..) ?_
      simp only [Int.lt_irrefl, if_false]
      exact Ev.now _
    · intro pre x su pre' y sv h h' hp
      have h3 := rd_at ByteArray.empty h'
      have h4 := lt_at h'
      rw [← hp] at h3 h4
      refine ⟨fun hne => ?_, fun heq r hr => ?_⟩
      · refine Ev.step (fun k => spec_SamePath.l0.eq_2 ..) ?_
        simp only [if_pos (lt_at h), if_pos (nonneg_at _), if_pos h4, rd_at _ h, h3, ba_eq, hne, if_false]
        exact Ev.now _
      · refine Ev.step (fun k => spec_SamePath.l0.eq_2 ..) ?_
        simp only [if_pos (lt_at h), if_pos (nonneg_at _), if_pos h4, rd_at _ h, h3, heq, if_true, next_at h hl]
        rw [heq] at hr
        exact hr
  · simp only [if_neg e]
    rw [show decide (a = b) = false from decide_eq_false (fun h => e (by rw [h]))]
    exact Ev.now _
theorem implSame {a b : List ByteArray} (hl : a.length ≤ maxLen) : Ev (fun k => impl_SamePath.f k a b) (decide (a = b)) := by
  unfold impl_SamePath.f
  by_cases e : (a.length : Int) = (b.length : Int)
  · simp only [if_pos e]
    refine eq_loop (a := a) (b := b) (fun k i => impl_SamePath.l0 k a b (a.length : Int) i) ?_ ?_ a b [] [] rfl rfl rfl (by omega)
    · refine Ev.step (fun k => impl_SamePath.l0.eq_2 ..) ?_
      simp only [Int.lt_irrefl, if_false]
      exact Ev.now _
    · intro pre x su pre' y sv h h' hp
      have h3 := rd_at ByteArray.empty h'
      have h4 := lt_at h'
      rw [← hp] at h3 h4
      refine ⟨fun hne => ?_, fun heq r hr => ?_⟩
      · refine Ev.step (fun k => impl_SamePath.l0.eq_2 ..) ?_
        simp only [if_pos (lt_at h), if_pos (nonneg_at _), if_pos h4, rd_at _ h, h3, ba_eq, hne, if_false]
        exact Ev.now _
      · refine Ev.step (fun k => impl_SamePath.l0.eq_2 ..) ?_
        simp only [if_pos (lt_at h), if_pos (nonneg_at _), if_pos h4, rd_at _ h, h3, heq, if_true, next_at h hl]
        rw [heq] at hr
        exact hr
  · simp only [if_neg e]
    rw [show decide (a = b) = false from decide_eq_false (fun h => e (by rw [h]))]
    exact Ev.now _
end Go.Proofs.Ytiddgglidkbipaa.L

/- Is a path under another one; as the program and the reference have it. No condition. -/
set_option linter.unusedSimpArgs false
set_option linter.unusedVariables false
namespace Go.Proofs.Ytiddgglidkbipaa.L
open Go.RowKit Go.Proofs.YtiddgglidkbipaaW.PrintWords Go.Proofs.YtiddgglidkbipaaW.PrintLast Go.Proofs.Ytiddgglidkbipaa.Q
def under (p head : List ByteArray) : Bool := decide (head.length < p.length) && decide (p.take head.length = head)
theorem specUnder {p head : List ByteArray} (hl : p.length ≤ 1048576) : Ev (fun k => spec_Under.f k p head) (under p head) := by
  unfold spec_Under.f under
  by_cases e : (p.length : Int) > (head.length : Int)
  · simp only [if_pos e, if_pos (nonneg_at _), if_pos (show (head.length : Int) ≤ p.length by omega), Int.toNat_natCast, show head.length < p.length by omega, decide_true, Bool.true_and]
    exact Ev.bind (specSame (by rw [maxLen_eq]; simp; omega)) (Ev.now _)
  · simp only [if_neg e, show ¬ head.length < p.length by omega, decide_false, Bool.false_and]
    exact Ev.now _
theorem implUnder {p head : List ByteArray} (hl : p.length ≤ 1048576) : Ev (fun k => impl_Under.f k p head) (under p head) := by
  unfold impl_Under.f under
  by_cases e : (p.length : Int) > (head.length : Int)
  · simp only [if_pos e, if_pos (nonneg_at _), if_pos (show (head.length : Int) ≤ p.length by omega), Int.toNat_natCast, show head.length < p.length by omega, decide_true, Bool.true_and]
    exact Ev.bind (implSame (by rw [maxLen_eq]; simp; omega)) (Ev.now _)
  · simp only [if_neg e, show ¬ head.length < p.length by omega, decide_false, Bool.false_and]
    exact Ev.now _
end Go.Proofs.Ytiddgglidkbipaa.L

/- What a lock covers, whether two clash; as the program and the reference have it. No condition. -/
set_option linter.unusedSimpArgs false
set_option linter.unusedVariables false
namespace Go.Proofs.Ytiddgglidkbipaa.L
open Go.RowKit Go.Proofs.YtiddgglidkbipaaW.PrintWords Go.Proofs.YtiddgglidkbipaaW.PrintLast Go.Proofs.Ytiddgglidkbipaa.Q
def covers (x : S28) (p : List ByteArray) : Bool := decide (x.f1 = p) || (x.f2 && under p x.f1)
theorem specCovers {x : S28} {p : List ByteArray} (hx : SmLock x) (hp : p.length ≤ 1048576) : Ev (fun k => spec_Covers.f k x.f0 x.f1 x.f2 x.f3 x.f4 p) (covers x p) := by
  unfold spec_Covers.f covers
  refine Ev.bind (specSame (by have := hx.2.1.1; rw [maxLen_eq]; omega)) ?_
  by_cases e : x.f1 = p
  · simp only [e, decide_true, if_true, Bool.true_or]; exact Ev.now _
  · simp only [e, decide_false, Bool.false_eq_true, if_false, Bool.false_or]
    by_cases d : x.f2 = true
    · simp only [d, if_true, Bool.true_and]; exact Ev.bind (specUnder hp) (Ev.now _)
    · simp only [d, Bool.false_eq_true, if_false, Bool.false_and]; exact Ev.now _
theorem implCovers {x : S28} {p : List ByteArray} (hx : SmLock x) (hp : p.length ≤ 1048576) : Ev (fun k => impl_Covers.f k x.f0 x.f1 x.f2 x.f3 x.f4 p) (covers x p) := by
  unfold impl_Covers.f covers
  refine Ev.bind (implSame (by have := hx.2.1.1; rw [maxLen_eq]; omega)) ?_
  by_cases e : x.f1 = p
  · simp only [e, decide_true, if_true, Bool.true_or]; exact Ev.now _
  · simp only [e, decide_false, Bool.false_eq_true, if_false, Bool.false_or]
    by_cases d : x.f2 = true
    · simp only [d, if_true, Bool.true_and]; exact Ev.bind (implUnder hp) (Ev.now _)
    · simp only [d, Bool.false_eq_true, if_false, Bool.false_and]; exact Ev.now _
def clash (a b : S28) : Bool := !(a.f3 && b.f3) && (covers a b.f1 || covers b a.f1)
theorem clash_comm (a b : S28) : clash a b = clash b a := by
  unfold clash
  rw [Bool.and_comm a.f3 b.f3, Bool.or_comm]
theorem specClash {a b : S28} (ha : SmLock a) (hb : SmLock b) : Ev (fun k => spec_LockClash.f k a.f0 a.f1 a.f2 a.f3 a.f4 b.f0 b.f1 b.f2 b.f3 b.f4) (clash a b) := by
  have fin : Ev (fun k => (spec_Covers.f k a.f0 a.f1 a.f2 a.f3 a.f4 b.f1).bind fun t174 => if t174 = true then some true else (spec_Covers.f k b.f0 b.f1 b.f2 b.f3 b.f4 a.f1).bind fun t175 => some t175) (covers a b.f1 || covers b a.f1) := by
    refine Ev.bind (specCovers ha hb.2.1.1) ?_
    by_cases e : covers a b.f1 = true
    · simp only [e, if_true, Bool.true_or]; exact Ev.now _
    · simp only [e, Bool.false_eq_true, if_false, Bool.false_or]; exact Ev.bind (specCovers hb ha.2.1.1) (Ev.now _)
  unfold spec_LockClash.f clash
  by_cases ea : a.f3 = true <;> by_cases eb : b.f3 = true
  · simp only [ea, eb, if_true, Bool.and_self, Bool.not_true, Bool.false_and]; exact Ev.now _
  · simp only [ea, eb, Bool.false_eq_true, if_true, if_false, Bool.and_false, Bool.not_false, Bool.true_and] at fin ⊢; exact fin
  · simp only [ea, eb, Bool.false_eq_true, if_false, Bool.false_and, Bool.not_false, Bool.true_and] at fin ⊢; exact fin
  · simp only [ea, eb, Bool.false_eq_true, if_false, Bool.false_and, Bool.not_false, Bool.true_and] at fin ⊢; exact fin
theorem implClash {a b : S28} (ha : SmLock a) (hb : SmLock b) : Ev (fun k => impl_LockClash.f k a.f0 a.f1 a.f2 a.f3 a.f4 b.f0 b.f1 b.f2 b.f3 b.f4) (clash a b) := by
  have fin : Ev (fun k => (impl_Covers.f k a.f0 a.f1 a.f2 a.f3 a.f4 b.f1).bind fun t174 => if t174 = true then some true else (impl_Covers.f k b.f0 b.f1 b.f2 b.f3 b.f4 a.f1).bind fun t175 => some t175) (covers a b.f1 || covers b a.f1) := by
    refine Ev.bind (implCovers ha hb.2.1.1) ?_
    by_cases e : covers a b.f1 = true
    · simp only [e, if_true, Bool.true_or]; exact Ev.now _
    · simp only [e, Bool.false_eq_true, if_false, Bool.false_or]; exact Ev.bind (implCovers hb ha.2.1.1) (Ev.now _)
  unfold impl_LockClash.f clash
  by_cases ea : a.f3 = true <;> by_cases eb : b.f3 = true
  · simp only [ea, eb, if_true, Bool.and_self, Bool.not_true, Bool.false_and]; exact Ev.now _
  · simp only [ea, eb, Bool.false_eq_true, if_true, if_false, Bool.and_false, Bool.not_false, Bool.true_and] at fin ⊢; exact fin
  · simp only [ea, eb, Bool.false_eq_true, if_false, Bool.false_and, Bool.not_false, Bool.true_and] at fin ⊢; exact fin
  · simp only [ea, eb, Bool.false_eq_true, if_false, Bool.false_and, Bool.not_false, Bool.true_and] at fin ⊢; exact fin
end Go.Proofs.Ytiddgglidkbipaa.L

/- Texts byte by byte: plain texts, small names, as the program and the reference have them. No condition. -/
set_option linter.unusedSimpArgs false
set_option linter.unusedVariables false
namespace Go.Proofs.Ytiddgglidkbipaa.L
open Go.RowKit Go.Proofs.YtiddgglidkbipaaW.PrintWords Go.Proofs.YtiddgglidkbipaaW.PrintLast Go.Proofs.Ytiddgglidkbipaa.Q
abbrev bl (s : ByteArray) : List UInt8 := s.data.toList
theorem bl_len (s : ByteArray) : (bl s).length = s.size := data_length s
section
variable {s : ByteArray} {pre suf : List UInt8} {c : UInt8}
theorem blt_at (h : bl s = pre ++ c :: suf) : ((pre.length : Nat) : Int) < (s.size : Int) := by
  have := bl_len s
  rw [h] at this
  simp at this
  omega
theorem bend_at (h : bl s = pre ++ []) : ¬ ((pre.length : Nat) : Int) < (s.size : Int) := by
  have := bl_len s
  rw [h] at this
  simp at this
  omega
theorem bt_at' (h : bl s = pre ++ c :: suf) : bt s (pre.length : Int) = (c.toNat : Int) := by
  have hlt := blt_at h
  have h2 : pre.length < s.size := by omega
  rw [← bt_at s (pre.length : Int) (by simpa using h2)]
  have h3 : pre.length < (bl s).length := by rw [bl_len]; exact h2
  have h4 : (bl s)[pre.length] = c := by simp [h]
  have h5 : s[pre.length]'h2 = (bl s)[pre.length] := by
    show s.data[pre.length] = _
    simp
  simp only [Int.toNat_natCast, h5, h4]
theorem bnext_at (h : bl s = pre ++ c :: suf) (hs : s.size ≤ maxLen) : wrap64 ((pre.length : Int) + 1) = ((pre ++ [c]).length : Int) := by
  have := blt_at h
  rw [maxLen_eq] at hs
  rw [wrap_id (by omega) (by omega)]
  simp
end
theorem byte_bounds (c : UInt8) : 0 ≤ (c.toNat : Int) ∧ (c.toNat : Int) ≤ 255 := ⟨by omega, by have := c.toNat_lt; omega⟩
theorem wrap_byte (c : UInt8) : wrap64 (c.toNat : Int) = (c.toNat : Int) := wrap_id (by omega) (by have := byte_bounds c; omega)
def inB (lo hi : Int) (c : UInt8) : Bool := decide (lo ≤ (c.toNat : Int) ∧ (c.toNat : Int) ≤ hi)
theorem specIn (a b c : Int) : spec_l1In.f a b c = some (decide (b ≤ a ∧ a ≤ c)) := by
  unfold spec_l1In.f
  by_cases h : a ≥ b
  · rw [if_pos h]; simp [show b ≤ a from h]
  · rw [if_neg h]; simp [show ¬ b ≤ a from h]
theorem implIn (a b c : Int) : impl_in.f a b c = some (decide (b ≤ a ∧ a ≤ c)) := by
  unfold impl_in.f
  by_cases h : a ≥ b
  · rw [if_pos h]; simp [show b ≤ a from h]
  · rw [if_neg h]; simp [show ¬ b ≤ a from h]
theorem implIsPlain (c : UInt8) : impl_isPlain.f (c.toNat : Int) = some (inB 32 126 c) := by
  unfold impl_isPlain.f inB
  by_cases h : (c.toNat : Int) ≥ 32
  · rw [if_pos h]; simp only [show (32 : Int) ≤ c.toNat from h, true_and]
  · rw [if_neg h]; simp only [show ¬ (32 : Int) ≤ c.toNat from h, false_and, decide_false]
def plainL (l : List UInt8) : Bool := l.all (inB 32 126)
theorem specPlain_loop {s : ByteArray} (hs : s.size ≤ maxLen) : ∀ (suf pre : List UInt8), bl s = pre ++ suf → Ev (fun k => spec_Plain.l0 k s pre.length) (plainL suf) := by
  intro suf
  induction suf with
  | nil =>
    intro pre h
    refine Ev.step (fun k => spec_Plain.l0.eq_2 ..) ?_
    simp only [if_neg (bend_at h)]
    exact Ev.now _
  | cons c suf ih =>
    intro pre h
    refine Ev.step (fun k => spec_Plain.l0.eq_2 ..) ?_
    simp only [if_pos (blt_at h), if_pos (nonneg_at _), bt_at' h, wrap_byte, specIn, Option.bind_some, bnext_at h hs]
    have := ih (pre ++ [c]) (snoc_at h)
    simp only [plainL, List.all_cons, inB] at this ⊢
    by_cases e : (32 : Int) ≤ c.toNat ∧ (c.toNat : Int) ≤ 126
    · simp only [e, and_self, decide_true, if_true, Bool.true_and]
      exact this
    · simp only [e, decide_false, Bool.false_eq_true, if_false, Bool.false_and]
      exact Ev.now _
theorem specPlain {s : ByteArray} (hs : s.size ≤ maxLen) : Ev (fun k => spec_Plain.f k s) (plainL (bl s)) := specPlain_loop hs _ [] rfl
theorem implPlain_loop {s : ByteArray} (hs : s.size ≤ maxLen) : ∀ (suf pre : List UInt8), bl s = pre ++ suf → Ev (fun k => impl_Plain.l0 k s pre.length) (plainL suf) := by
  intro suf
  induction suf with
  | nil =>
    intro pre h
    refine Ev.step (fun k => impl_Plain.l0.eq_2 ..) ?_
    simp only [if_neg (bend_at h)]
    exact Ev.now _
  | cons c suf ih =>
    intro pre h
    refine Ev.step (fun k => impl_Plain.l0.eq_2 ..) ?_
    simp only [if_pos (blt_at h), if_pos (nonneg_at _), bt_at' h, implIsPlain, Option.bind_some, bnext_at h hs]
    have := ih (pre ++ [c]) (snoc_at h)
    simp only [plainL, List.all_cons] at this ⊢
    by_cases e : inB 32 126 c = true
    · simp only [e, if_true, Bool.true_and]
      exact this
    · simp only [e, if_false, Bool.false_and]
      exact Ev.now _
theorem implPlain {s : ByteArray} (hs : s.size ≤ maxLen) : Ev (fun k => impl_Plain.f k s) (plainL (bl s)) := implPlain_loop hs _ [] rfl
end Go.Proofs.Ytiddgglidkbipaa.L

/- Names and paths: are they right; as the program and the reference have it. No condition. -/
set_option linter.unusedSimpArgs false
set_option linter.unusedVariables false
namespace Go.Proofs.Ytiddgglidkbipaa.L
open Go.RowKit Go.Proofs.YtiddgglidkbipaaW.PrintWords Go.Proofs.YtiddgglidkbipaaW.PrintLast Go.Proofs.Ytiddgglidkbipaa.Q
theorem indexByte_mem (l : List UInt8) (c : UInt8) : (0 ≤ Lib.indexByte l c) ↔ c ∈ l := by
  induction l with
  | nil => simp [Lib.indexByte]
  | cons b l ih =>
    have hge := Lib.indexByte_ge l c
    unfold Lib.indexByte
    by_cases e : b = c
    · simp [e]
    · have e' : ¬ c = b := fun h => e h.symm
      simp only [beq_iff_eq, e, if_false, List.mem_cons, e', false_or]
      rw [← ih]
      by_cases h : Lib.indexByte l c = -1
      · simp [h]
      · simp only [h, if_false]; omega
theorem ba_toList_eq (s : ByteArray) (l : List UInt8) : (s.toList = l) = (bl s = l) := by rw [ba_toList]
def nameOk (s : ByteArray) : Bool := decide (47 ∉ bl s) && (decide (1 ≤ (s.size : Int) ∧ (s.size : Int) ≤ 8) && (plainL (bl s) && (decide (bl s ≠ [46]) && decide (bl s ≠ [46, 46]))))
theorem eq47 (c : UInt8) : ((c.toNat : Int) = 47) = (c = 47) := by
  apply propext
  constructor
  · intro h
    apply UInt8.toNat_inj.1
    show c.toNat = 47
    omega
  · rintro rfl
    rfl
theorem bne_dec {α : Type} [BEq α] [LawfulBEq α] [DecidableEq α] (a b : α) : (a != b) = decide (a ≠ b) := by
  by_cases e : a = b <;> simp [e]
theorem specNameOk {s : ByteArray} (hs : s.size ≤ 1048576) : Ev (fun k => spec_NameOk.f k s) (nameOk s) := by
  have hm : s.size ≤ maxLen := by rw [maxLen_eq]; omega
  have key : ∀ (suf pre : List UInt8), bl s = pre ++ suf → Ev (fun k => spec_NameOk.l0 k s pre.length) (decide (47 ∉ suf) && (decide (1 ≤ (s.size : Int) ∧ (s.size : Int) ≤ 8) && (plainL (bl s) && (decide (bl s ≠ [46]) && decide (bl s ≠ [46, 46]))))) := by
    intro suf
    induction suf with
    | nil =>
      intro pre h
      refine Ev.step (fun k => spec_NameOk.l0.eq_2 ..) ?_
      simp only [if_neg (bend_at h), specIn, Option.bind_some, List.not_mem_nil, not_false_eq_true, decide_true, Bool.true_and]
      by_cases c0 : 1 ≤ (s.size : Int) ∧ (s.size : Int) ≤ 8
      · simp only [c0, decide_true, if_true, and_self, Bool.true_and]
        refine Ev.bind (specPlain hm) ?_
        by_cases c1 : plainL (bl s) = true
        · simp only [c1, if_true, Bool.true_and, ba_toList_eq, bne_dec, ba_toList]
          by_cases c2 : bl s = [46]
          · simp only [c2, if_true]
            exact Ev.now _
          · simp only [c2, if_false, ne_eq, not_false_eq_true, decide_true, Bool.true_and]
            exact Ev.now _
        · simp only [c1, Bool.false_eq_true, if_false, Bool.false_and]
          exact Ev.now _
      · simp only [c0, decide_false, Bool.false_eq_true, if_false, Bool.false_and]
        exact Ev.now _
    | cons c suf ih =>
      intro pre h
      refine Ev.step (fun k => spec_NameOk.l0.eq_2 ..) ?_
      simp only [if_pos (blt_at h), if_pos (nonneg_at _), bt_at' h, eq47, bnext_at h hm]
      by_cases e : c = 47
      · simp only [e, if_true, List.mem_cons, true_or, not_true_eq_false, decide_false, Bool.false_and]
        exact Ev.now _
      · have e' : ¬ 47 = c := fun h => e h.symm
        simp only [e, if_false, List.mem_cons, e', false_or]
        exact ih (pre ++ [c]) (snoc_at h)
  exact key _ [] rfl
theorem implNameOk {s : ByteArray} (hs : s.size ≤ 1048576) : Ev (fun k => impl_NameOk.f k s) (nameOk s) := by
  have hm : s.size ≤ maxLen := by rw [maxLen_eq]; omega
  unfold impl_NameOk.f nameOk
  simp only [implIn, Option.bind_some]
  by_cases c0 : 1 ≤ (s.size : Int) ∧ (s.size : Int) ≤ 8
  · simp only [c0, decide_true, if_true, and_self, Bool.true_and]
    refine Ev.bind (implPlain hm) ?_
    by_cases c1 : plainL (bl s) = true
    · simp only [c1, if_true, Bool.true_and, strings_Contains.f, Option.bind_some, decide_eq_true_eq, indexByte_mem, ba_toList_eq, bne_dec, ba_toList]
      by_cases c2 : (47 : UInt8) ∈ s.data.toList
      · simp only [c2, if_true, not_true_eq_false, decide_false, Bool.false_and]
        exact Ev.now _
      · simp only [c2, if_false, not_false_eq_true, decide_true, Bool.true_and]
        by_cases c3 : bl s = [46]
        · simp only [c3, if_true]
          exact Ev.now _
        · simp only [c3, if_false, ne_eq, not_false_eq_true, decide_true, Bool.true_and]
          exact Ev.now _
    · simp only [c1, Bool.false_eq_true, if_false, Bool.false_and, Bool.and_false]
      exact Ev.now _
  · simp only [c0, decide_false, Bool.false_eq_true, if_false, Bool.false_and, Bool.and_false]
    exact Ev.now _
def pathOk (p : List ByteArray) : Bool := p.all nameOk && decide ((p.length : Int) ≤ 4)
theorem specPathOk {p : List ByteArray} (hp : SmS p) : Ev (fun k => spec_PathOk.f k p) (pathOk p) := by
  have hl : p.length ≤ maxLen := by have := hp.1; rw [maxLen_eq]; omega
  have key : ∀ (suf pre : List ByteArray), p = pre ++ suf → Ev (fun k => spec_PathOk.l0 k p pre.length) (suf.all nameOk && decide ((p.length : Int) ≤ 4)) := by
    intro suf
    induction suf with
    | nil =>
      intro pre h
      refine Ev.step (fun k => spec_PathOk.l0.eq_2 ..) ?_
      simp only [if_neg (end_at h), List.all_nil, Bool.true_and]
      exact Ev.now _
    | cons a suf ih =>
      intro pre h
      refine Ev.step (fun k => spec_PathOk.l0.eq_2 ..) ?_
      simp only [if_pos (lt_at h), if_pos (nonneg_at _), rd_at _ h, next_at h hl]
      refine Ev.bind (specNameOk (hp.2 a (by rw [h]; simp))) ?_
      simp only [List.all_cons]
      by_cases e : nameOk a = true
      · simp only [e, if_true, Bool.true_and]
        exact ih (pre ++ [a]) (snoc_at h)
      · simp only [e, Bool.false_eq_true, if_false, Bool.false_and]
        exact Ev.now _
  exact key p [] rfl
theorem implPathOk {p : List ByteArray} (hp : SmS p) : Ev (fun k => impl_PathOk.f k p) (pathOk p) := by
  have hl : p.length ≤ maxLen := by have := hp.1; rw [maxLen_eq]; omega
  have key : ∀ (suf pre : List ByteArray), p = pre ++ suf → Ev (fun k => impl_PathOk.l0 k p p (p.length : Int) pre.length) (suf.all nameOk && decide ((p.length : Int) ≤ 4)) := by
    intro suf
    induction suf with
    | nil =>
      intro pre h
      refine Ev.step (fun k => impl_PathOk.l0.eq_2 ..) ?_
      simp only [if_neg (end_at h), List.all_nil, Bool.true_and]
      exact Ev.now _
    | cons a suf ih =>
      intro pre h
      refine Ev.step (fun k => impl_PathOk.l0.eq_2 ..) ?_
      simp only [if_pos (lt_at h), if_pos (nonneg_at _), rd_at _ h, next_at h hl]
      refine Ev.bind (implNameOk (hp.2 a (by rw [h]; simp))) ?_
      simp only [List.all_cons]
      by_cases e : nameOk a = true
      · simp only [e, if_true, Bool.true_and]
        exact ih (pre ++ [a]) (snoc_at h)
      · simp only [e, Bool.false_eq_true, if_false, Bool.false_and]
        exact Ev.now _
  exact key p [] rfl
end Go.Proofs.Ytiddgglidkbipaa.L

/- Are locks right; as the program and the reference have it. No condition. -/
set_option linter.unusedSimpArgs false
set_option linter.unusedVariables false
namespace Go.Proofs.Ytiddgglidkbipaa.L
open Go.RowKit Go.Proofs.YtiddgglidkbipaaW.PrintWords Go.Proofs.YtiddgglidkbipaaW.PrintLast Go.Proofs.Ytiddgglidkbipaa.Q
def lockOk (x : S28) : Bool := decide (1 ≤ x.f0 ∧ x.f0 ≤ 9999) && (pathOk x.f1 && decide (0 ≤ x.f4 ∧ x.f4 ≤ 9999999))
theorem specLockOk {x : S28} (hx : SmLock x) : Ev (fun k => spec_LockOk.f k x.f0 x.f1 x.f2 x.f3 x.f4) (lockOk x) := by
  unfold spec_LockOk.f lockOk
  simp only [specIn, Option.bind_some, decide_eq_true_eq]
  by_cases c0 : 1 ≤ x.f0 ∧ x.f0 ≤ 9999
  · simp only [if_pos c0, c0, and_self, decide_true, Bool.true_and]
    refine Ev.bind (specPathOk hx.2.1) ?_
    by_cases c1 : pathOk x.f1 = true
    · simp only [c1, if_true, Bool.true_and]; exact Ev.now _
    · simp only [c1, Bool.false_eq_true, if_false, Bool.false_and]; exact Ev.now _
  · simp only [if_neg c0, c0, decide_false, Bool.false_and]; exact Ev.now _
theorem implLockOk {x : S28} (hx : SmLock x) : Ev (fun k => impl_LockOk.f k x.f0 x.f1 x.f2 x.f3 x.f4) (lockOk x) := by
  unfold impl_LockOk.f lockOk
  simp only [implIn, Option.bind_some, decide_eq_true_eq]
  by_cases c0 : 1 ≤ x.f0 ∧ x.f0 ≤ 9999
  · simp only [if_pos c0, c0, and_self, decide_true, Bool.true_and]
    refine Ev.bind (implPathOk hx.2.1) ?_
    by_cases c1 : pathOk x.f1 = true
    · simp only [c1, if_true, Bool.true_and]; exact Ev.now _
    · simp only [c1, Bool.false_eq_true, if_false, Bool.false_and]; exact Ev.now _
  · simp only [if_neg c0, c0, decide_false, Bool.false_and]; exact Ev.now _
def freeOf (x : S28) (l : List S28) : Bool := l.all (fun y => decide (y.f0 ≠ x.f0) && !clash y x)
def locksL : List S28 → List S28 → Bool
  | _, [] => true
  | pre, x :: l => lockOk x && (freeOf x pre && locksL (pre ++ [x]) l)
def locksOk (l : List S28) : Bool := locksL [] l && decide ((l.length : Int) ≤ 6)
theorem specLocksOkB {t : List S28} (hl : t.length ≤ maxLen) (ht : ∀ a ∈ t, SmLock a) : Ev (fun k => spec_LocksOk.f k t) (locksOk t) := by
  have inner : ∀ (a : S28) (suf pre : List S28) (R : Bool), t = pre ++ a :: suf → Ev (fun k => spec_LocksOk.l0 k t (wrap64 ((pre.length : Int) + 1))) R → ∀ (su pr : List S28), pre = pr ++ su → Ev (fun k => spec_LocksOk.l1 k t pre.length pr.length) (freeOf a su && R) := by
    intro a suf pre R h hR su
    have ha := ht a (by rw [h]; simp)
    induction su with
    | nil =>
      intro pr hp
      refine Ev.step (fun k => spec_LocksOk.l1.eq_2 ..) ?_
      simp only [if_neg (end_at hp), freeOf, List.all_nil, Bool.true_and]
      exact hR
    | cons y su ih =>
      intro pr hp
      have hy := ht y (by rw [h, hp]; simp)
      have hpt : t = pr ++ y :: (su ++ a :: suf) := by rw [h, hp]; simp
      refine Ev.step (fun k => spec_LocksOk.l1.eq_2 ..) ?_
      simp only [if_pos (lt_at hp), if_pos (nonneg_at _), if_pos (lt_at hpt), if_pos (lt_at h), rd_implLock h, rd_implLock hpt, freeOf, List.all_cons]
      by_cases c0 : y.f0 = a.f0
      · simp only [if_pos c0, c0, ne_eq, not_true_eq_false, decide_false, Bool.false_and]; exact Ev.now _
      · simp only [if_neg c0, ne_eq, c0, not_false_eq_true, decide_true, Bool.true_and]
        refine Ev.bind (specClash hy ha) ?_
        by_cases c1 : clash y a = true
        · simp only [c1, if_true, Bool.not_true, Bool.false_and]; exact Ev.now _
        · simp only [c1, Bool.false_eq_true, if_false, Bool.not_false, Bool.true_and, next_at hpt hl]
          exact ih (pr ++ [y]) (snoc_at hp)
  have key : ∀ (suf pre : List S28), t = pre ++ suf → Ev (fun k => spec_LocksOk.l0 k t pre.length) (locksL pre suf && decide ((t.length : Int) ≤ 6)) := by
    intro suf
    induction suf with
    | nil =>
      intro pre h
      refine Ev.step (fun k => spec_LocksOk.l0.eq_2 ..) ?_
      simp only [if_neg (end_at h), locksL, Bool.true_and]
      exact Ev.now _
    | cons a suf ih =>
      intro pre h
      have hn := ih (pre ++ [a]) (snoc_at h)
      rw [← next_at h hl] at hn
      refine Ev.step (fun k => spec_LocksOk.l0.eq_2 ..) ?_
      simp only [if_pos (lt_at h), if_pos (nonneg_at _), rd_implLock h]
      refine Ev.bind (specLockOk (ht a (by rw [h]; simp))) ?_
      simp only [locksL]
      by_cases c0 : lockOk a = true
      · simp only [c0, if_true, Bool.true_and, Bool.and_assoc]
        exact inner a suf pre _ h hn pre [] rfl
      · simp only [c0, Bool.false_eq_true, if_false, Bool.false_and]; exact Ev.now _
  exact key t [] rfl
theorem implLocksOkB {t : List S28} (hl : t.length ≤ maxLen) (ht : ∀ a ∈ t, SmLock a) : Ev (fun k => impl_LocksOk.f k t) (locksOk t) := by
  have inner : ∀ (a : S28) (suf pre : List S28) (R : Bool), t = pre ++ a :: suf → Ev (fun k => impl_LocksOk.l0 k t t (t.length : Int) (wrap64 ((pre.length : Int) + 1))) R → ∀ (su pr : List S28), pre = pr ++ su → Ev (fun k => impl_LocksOk.l1 k t t (t.length : Int) pre.length pre (pre.length : Int) pr.length a.f0 a.f1 a.f2 a.f3 a.f4) (freeOf a su && R) := by
    intro a suf pre R h hR su
    have ha := ht a (by rw [h]; simp)
    have hpl : pre.length ≤ maxLen := by have : t.length = pre.length + (suf.length + 1) := by rw [h]; simp
                                         omega
    induction su with
    | nil =>
      intro pr hp
      refine Ev.step (fun k => impl_LocksOk.l1.eq_2 ..) ?_
      simp only [if_neg (end_at hp), freeOf, List.all_nil, Bool.true_and]
      exact hR
    | cons y su ih =>
      intro pr hp
      have hy := ht y (by rw [h, hp]; simp)
      refine Ev.step (fun k => impl_LocksOk.l1.eq_2 ..) ?_
      simp only [if_pos (lt_at hp), if_pos (nonneg_at _), rd_implLock hp, freeOf, List.all_cons]
      by_cases c0 : y.f0 = a.f0
      · simp only [c0, if_true, ne_eq, not_true_eq_false, decide_false, Bool.false_and]; exact Ev.now _
      · have c0' : ¬ a.f0 = y.f0 := fun e => c0 e.symm
        simp only [if_neg c0', ne_eq, c0, not_false_eq_true, decide_true, Bool.true_and]
        refine Ev.bind (implClash ha hy) ?_
        rw [clash_comm a y]
        by_cases c1 : clash y a = true
        · simp only [c1, if_true, Bool.not_true, Bool.false_and]; exact Ev.now _
        · simp only [c1, Bool.false_eq_true, if_false, Bool.not_false, Bool.true_and, next_at hp hpl]
          exact ih (pr ++ [y]) (snoc_at hp)
  have key : ∀ (suf pre : List S28), t = pre ++ suf → Ev (fun k => impl_LocksOk.l0 k t t (t.length : Int) pre.length) (locksL pre suf && decide ((t.length : Int) ≤ 6)) := by
    intro suf
    induction suf with
    | nil =>
      intro pre h
      refine Ev.step (fun k => impl_LocksOk.l0.eq_2 ..) ?_
      simp only [if_neg (end_at h), locksL, Bool.true_and]
      exact Ev.now _
    | cons a suf ih =>
      intro pre h
      have hn := ih (pre ++ [a]) (snoc_at h)
      rw [← next_at h hl] at hn
      refine Ev.step (fun k => impl_LocksOk.l0.eq_2 ..) ?_
      simp only [if_pos (lt_at h), if_pos (nonneg_at _), rd_implLock h]
      refine Ev.bind (implLockOk (ht a (by rw [h]; simp))) ?_
      simp only [locksL]
      by_cases c0 : lockOk a = true
      · have ht2 : t.take ((pre.length : Nat) : Int).toNat = pre := by rw [h]; simp
        simp only [c0, if_true, Bool.true_and, Bool.and_assoc, if_pos (Int.le_of_lt (lt_at h)), ht2, Option.bind_some]
        exact inner a suf pre _ h hn pre [] rfl
      · simp only [c0, Bool.false_eq_true, if_false, Bool.false_and]; exact Ev.now _
  exact key t [] rfl
end Go.Proofs.Ytiddgglidkbipaa.L

/- Locks copied, one dropped, one added; as the program and the reference have it. No condition. -/
set_option linter.unusedSimpArgs false
set_option linter.unusedVariables false
namespace Go.Proofs.Ytiddgglidkbipaa.L
open Go.RowKit Go.Proofs.YtiddgglidkbipaaW.PrintWords Go.Proofs.YtiddgglidkbipaaW.PrintLast Go.Proofs.Ytiddgglidkbipaa.Q
theorem specCopyLocks {t : List S28} (hl0 : t.length ≤ 1048577) (ht : ∀ a ∈ t, a.f1.length ≤ 1048576) : Ev (fun k => spec_l13Copy.f k t) t := by
  have hl : t.length ≤ maxLen := by rw [maxLen_eq]; omega
  have key : ∀ (suf pre out : List S28), t = pre ++ suf → out.length ≤ pre.length → Ev (fun k => spec_l13Copy.l0 k t out pre.length) (out ++ suf) := by
    intro suf
    induction suf with
    | nil =>
      intro pre out h ho
      refine Ev.step (fun k => spec_l13Copy.l0.eq_2 ..) ?_
      simp only [if_neg (end_at h), List.append_nil]
      exact Ev.now _
    | cons a suf ih =>
      intro pre out h ho
      have hpl : pre.length ≤ 1048577 := by have : t.length = pre.length + (suf.length + 1) := by rw [h]; simp
                                            omega
      have ha := ht a (by rw [h]; simp)
      refine Ev.step (fun k => spec_l13Copy.l0.eq_2 ..) ?_
      simp only [if_pos (lt_at h), if_pos (nonneg_at _), rd_implLock h, next_at h hl, Option.bind_some, List.length_nil, Nat.zero_add, List.nil_append, show a.f1.length < 8796093022208 by omega, show out.length < 2932031007402 by omega, if_true]
      exact ev_cast (ih (pre ++ [a]) _ (snoc_at h) (by simp; omega)) (by simp)
  exact key t [] [] rfl (by simp)
theorem implCopyLocks {t : List S28} (hl0 : t.length ≤ 1048577) (ht : ∀ a ∈ t, a.f1.length ≤ 1048576) : Ev (fun k => impl_copyLocks.f k t) t := by
  have hl : t.length ≤ maxLen := by rw [maxLen_eq]; omega
  have key : ∀ (suf pre out : List S28), t = pre ++ suf → out.length ≤ pre.length → Ev (fun k => impl_copyLocks.l0 k out t (t.length : Int) pre.length) (out ++ suf) := by
    intro suf
    induction suf with
    | nil =>
      intro pre out h ho
      refine Ev.step (fun k => impl_copyLocks.l0.eq_2 ..) ?_
      simp only [if_neg (end_at h), List.append_nil]
      exact Ev.now _
    | cons a suf ih =>
      intro pre out h ho
      have hpl : pre.length ≤ 1048577 := by have : t.length = pre.length + (suf.length + 1) := by rw [h]; simp
                                            omega
      have ha := ht a (by rw [h]; simp)
      refine Ev.step (fun k => impl_copyLocks.l0.eq_2 ..) ?_
      simp only [if_pos (lt_at h), if_pos (nonneg_at _), rd_implLock h, next_at h hl, impl_copyPath.f, Option.bind_some, List.length_nil, Nat.zero_add, List.nil_append, show a.f1.length < 8796093022208 by omega, show out.length < 2932031007402 by omega, if_true]
      exact ev_cast (ih (pre ++ [a]) _ (snoc_at h) (by simp; omega)) (by simp)
  exact key t [] [] rfl (by simp)
theorem sm_path {t : List S28} (ht : SmLocks t) : ∀ a ∈ t, a.f1.length ≤ 1048576 := fun a ha => by have := (ht.2 a ha).2.1.1; omega
def addL (t : List S28) (x : S28) : List S28 × Bool := if locksOk (t ++ [x]) = true then (t ++ [x], true) else (t, false)
theorem add_sm {t : List S28} {x : S28} (ht : SmLocks t) (hx : SmLock x) : SmLocks (addL t x).1 := by
  unfold addL
  by_cases c : locksOk (t ++ [x]) = true
  · simp only [if_pos c]
    refine ⟨?_, fun a ha => ?_⟩
    · unfold locksOk at c
      have := of_decide_eq_true (Bool.and_eq_true_iff.1 c).2
      omega
    · rcases List.mem_append.1 ha with ha | ha
      · exact ht.2 a ha
      · rw [List.mem_singleton.1 ha]; exact hx
  · simp only [if_neg c]; exact ht
theorem specAdd {t : List S28} {x : S28} (ht : SmLocks t) (hx : SmLock x) : Ev (fun k => spec_AddLockX.f k t x.f0 x.f1 x.f2 x.f3 x.f4) (addL t x) := by
  have hl0 := ht.1
  have h2 : ∀ a ∈ t ++ [x], SmLock a := fun a ha => by
    rcases List.mem_append.1 ha with ha | ha
    · exact ht.2 a ha
    · rw [List.mem_singleton.1 ha]; exact hx
  show Ev (fun k => spec_AddLock.f k t x.f0 x.f1 x.f2 x.f3 x.f4) _
  unfold spec_AddLock.f addL
  refine Ev.bind (specCopyLocks (by omega) (sm_path ht)) ?_
  simp only [Option.bind_some, List.length_nil, Nat.zero_add, List.nil_append, show t.length < 2932031007402 by omega, if_true, List.length_singleton, show t.length + 1 < 2932031007402 by omega]
  refine Ev.bind (specCopyLocks (t := t ++ [x]) (by simp; omega) (fun a ha => by have := (h2 a ha).2.1.1; omega)) ?_
  refine Ev.bind (specLocksOkB (t := t ++ [x]) (by rw [maxLen_eq]; simp; omega) h2) ?_
  by_cases c : locksOk (t ++ [x]) = true
  · simp only [if_pos c]; exact Ev.now _
  · simp only [if_neg c]; exact Ev.now _
theorem implAdd {t : List S28} {x : S28} (ht : SmLocks t) (hx : SmLock x) : Ev (fun k => impl_AddLockX.f k t x.f0 x.f1 x.f2 x.f3 x.f4) (addL t x) := by
  have hl0 := ht.1
  have h2 : ∀ a ∈ t ++ [x], SmLock a := fun a ha => by
    rcases List.mem_append.1 ha with ha | ha
    · exact ht.2 a ha
    · rw [List.mem_singleton.1 ha]; exact hx
  show Ev (fun k => impl_AddLock.f k t x.f0 x.f1 x.f2 x.f3 x.f4) _
  unfold impl_AddLock.f addL
  simp only [Option.bind_some, List.length_nil, Nat.zero_add, List.nil_append, show t.length < 2932031007402 by omega, if_true, List.length_singleton, show t.length + 1 < 2932031007402 by omega]
  refine Ev.bind (implCopyLocks (t := t ++ [x]) (by simp; omega) (fun a ha => by have := (h2 a ha).2.1.1; omega)) ?_
  refine Ev.bind (implLocksOkB (t := t ++ [x]) (by rw [maxLen_eq]; simp; omega) h2) ?_
  by_cases c : locksOk (t ++ [x]) = true
  · simp only [if_pos c]; exact Ev.now _
  · simp only [if_neg c]
    refine Ev.bind (implCopyLocks (by omega) (sm_path ht)) ?_
    exact Ev.now _
end Go.Proofs.Ytiddgglidkbipaa.L

/- The laws' marks on lists of texts: what they write, and that it is found again. No condition. -/
set_option linter.unusedSimpArgs false
set_option linter.unusedVariables false
namespace Go.Proofs.Ytiddgglidkbipaa.L
open Go.RowKit Go.Proofs.YtiddgglidkbipaaW.PrintWords Go.Proofs.YtiddgglidkbipaaW.PrintLast Go.Proofs.Ytiddgglidkbipaa.Q
theorem strOfNums_size (n : Int) : (strOfNums [n]).size = 1 := rfl
theorem mark_loop : ∀ (d : Nat) (k : Nat) (i : Int) (s : ByteArray), 0 ≤ i → i < 10 ^ d → i < 9223372036854775808 → d < k → s.size + d + 1 ≤ 9223372036854775807 → ∃ t, laws_markText.l0 k i s = some t := by
  intro d
  induction d with
  | zero =>
    intro k i s h0 h1 hb hk hs
    obtain ⟨k, rfl⟩ : ∃ m, k = m + 1 := ⟨k - 1, by omega⟩
    simp only [laws_markText.l0]
    rw [if_neg (by simp at h1; omega), if_pos (by omega)]
    exact ⟨_, rfl⟩
  | succ d ih =>
    intro k i s h0 h1 hb hk hs
    obtain ⟨k, rfl⟩ : ∃ m, k = m + 1 := ⟨k - 1, by omega⟩
    simp only [laws_markText.l0, Option.bind_some]
    by_cases hi : i > 0
    · rw [if_pos hi, if_pos (by rw [strOfNums_size]; omega)]
      have hd : Int.tdiv i 10 = i / 10 := Int.tdiv_eq_ediv_of_nonneg h0
      have hq : 0 ≤ i / 10 ∧ i / 10 ≤ i := ⟨by omega, by omega⟩
      rw [hd, wrap_id (by omega) (by omega)]
      refine ih k _ _ hq.1 ?_ (by omega) (by omega) ?_
      · rw [Int.pow_succ] at h1; omega
      · rw [ByteArray.size_append, strOfNums_size]; omega
    · rw [if_neg hi, if_pos (by omega)]
      exact ⟨_, rfl⟩
theorem mark_some {i : Int} (h0 : 0 ≤ i) (h1 : i < 1152921504606846976) : ∃ t, ∀ k, 32 ≤ k → laws_markText.f k i = some t := by
  have h : ∃ t, laws_markText.f 32 i = some t := by
    unfold laws_markText.f
    by_cases e : i ≤ 0
    · rw [if_pos e]; exact ⟨_, rfl⟩
    · rw [if_neg e]
      exact mark_loop 19 32 i _ h0 (by omega) (by omega) (by omega) (by show 0 + 19 + 1 ≤ _; omega)
  obtain ⟨t, ht⟩ := h
  exact ⟨t, fun k hk => at_rounds (fun k => laws_markText.mono i k) hk ht⟩
noncomputable def mt (i : Int) : ByteArray := by
  classical
  exact if h : 0 ≤ i ∧ i < 1152921504606846976 then Classical.choose (mark_some h.1 h.2) else ⟨#[]⟩
theorem mt_spec {i : Int} (h0 : 0 ≤ i) (h1 : i < 1152921504606846976) {k : Nat} (hk : 32 ≤ k) : laws_markText.f k i = some (mt i) := by
  unfold mt
  rw [dif_pos ⟨h0, h1⟩]
  exact Classical.choose_spec (mark_some h0 h1) k hk
theorem mt_ev {i : Int} (h0 : 0 ≤ i) (h1 : i < 1152921504606846976) : Ev (fun k => laws_markText.f k i) (mt i) := ⟨32, fun _ hk => mt_spec h0 h1 hk⟩
noncomputable def marks : Nat → Int → List ByteArray
  | 0, _ => []
  | n + 1, i => mt i :: marks n (i + 1)
theorem marks_length (n : Nat) (i : Int) : (marks n i).length = n := by
  induction n generalizing i with
  | zero => rfl
  | succ n ih => simp [marks, ih]
theorem markS {l : List ByteArray} (hl : l.length ≤ 1048576) {a : Int} (h0 : 0 ≤ a) (h1 : a ≤ 70368744177664) : Ev (fun k => laws_markStringS.f k l a) (a + l.length, marks l.length a) := by
  have key : ∀ (suf pre : List ByteArray) (x : List ByteArray) (i : Int), x = pre ++ suf → x.length ≤ 1048576 → 0 ≤ i → i + suf.length ≤ 70368745226240 → Ev (fun k => laws_markStringS.l0 k x i pre.length) (i + suf.length, pre ++ marks suf.length i) := by
    intro suf
    induction suf with
    | nil =>
      intro pre x i h hx h0 h1
      refine Ev.step (fun k => laws_markStringS.l0.eq_2 ..) ?_
      simp only [if_neg (end_at h)]
      rw [List.append_nil] at h
      rw [h]
      simp only [List.length_nil, Int.natCast_zero, Int.add_zero, marks, List.append_nil]
      exact Ev.now _
    | cons b suf ih =>
      intro pre x i h hx h0 h1
      rw [List.length_cons] at h1
      refine Ev.step (fun k => laws_markStringS.l0.eq_2 ..) ?_
      simp only [if_pos (lt_at h)]
      refine Ev.bind (mt_ev h0 (by omega)) ?_
      simp only [if_pos (nonneg_at _), set_at h, next_at h (show x.length ≤ maxLen by rw [maxLen_eq]; omega), wrap_id (x := i + 1) (by omega) (by omega)]
      have := ih (pre ++ [mt i]) (pre ++ [mt i] ++ suf) (i + 1) rfl (by rw [h] at hx; simpa using hx) (by omega) (by omega)
      rw [show (pre ++ [b]).length = (pre ++ [mt i]).length by simp]
      refine ev_cast this ?_
      simp only [List.length_cons, marks, Prod.mk.injEq]
      exact ⟨by omega, by simp⟩
  have := key l [] l a rfl hl h0 (by omega)
  simpa [laws_markStringS.f] using this
theorem heldS {n : Nat} (hn : n ≤ 1048576) {a : Int} (h0 : 0 ≤ a) (h1 : a ≤ 70368744177664) : Ev (fun k => laws_heldStringS.f k (marks n a) a) (a + n) := by
  have key : ∀ (m : Nat) (pre x : List ByteArray) (i : Int), x = pre ++ marks m i → x.length ≤ 1048576 → 0 ≤ i → i + m ≤ 70368745226240 → Ev (fun k => laws_heldStringS.l0 k x i pre.length) (i + m) := by
    intro m
    induction m with
    | zero =>
      intro pre x i h hx h0 h1
      refine Ev.step (fun k => laws_heldStringS.l0.eq_2 ..) ?_
      simp only [if_neg (end_at h)]
      exact ev_cast (Ev.now _) (by simp)
    | succ m ih =>
      intro pre x i h hx h0 h1
      simp only [marks] at h
      refine Ev.step (fun k => laws_heldStringS.l0.eq_2 ..) ?_
      simp only [if_pos (lt_at h), if_pos (nonneg_at _)]
      refine Ev.bind (mt_ev h0 (by omega)) ?_
      simp only [rd_at _ h, if_true, next_at h (show x.length ≤ maxLen by rw [maxLen_eq]; omega), wrap_id (x := i + 1) (by omega) (by omega)]
      refine ev_cast (ih (pre ++ [mt i]) x (i + 1) (snoc_at h) hx (by omega) (by omega)) ?_
      omega
  exact key n [] _ a rfl (by rw [marks_length]; exact hn) h0 (by omega)
end Go.Proofs.Ytiddgglidkbipaa.L

/- Marks that are found again: a loop that marks, a loop that looks. No condition. -/
set_option linter.unusedSimpArgs false
set_option linter.unusedVariables false
namespace Go.Proofs.Ytiddgglidkbipaa.L
open Go.RowKit Go.Proofs.YtiddgglidkbipaaW.PrintWords Go.Proofs.YtiddgglidkbipaaW.PrintLast Go.Proofs.Ytiddgglidkbipaa.Q
def MH {α : Type} (mk : Nat → List α → Int → Option (Int × List α)) (hd : Nat → List α → Int → Option Int) (l : List α) (i C : Int) : Prop :=
  ∃ n l', l'.length = l.length ∧ i ≤ n ∧ n ≤ i + C ∧ Ev (fun k => mk k l i) (n, l') ∧ Ev (fun k => hd k l' i) n
theorem mh_loop {α : Type} (mk : Nat → List α → Int → Int → Option (Int × List α)) (hd : Nat → List α → Int → Int → Option Int) (P : α → Prop) (C : Int) (hC : 0 ≤ C)
    (me : ∀ (x : List α) i, Ev (fun k => mk k x i x.length) (i, x)) (he : ∀ (y : List α) i, Ev (fun k => hd k y i y.length) i)
    (st : ∀ a i, P a → 0 ≤ i → i + C ≤ 70368744177664 → ∃ n a', i ≤ n ∧ n ≤ i + C ∧
      (∀ x pre suf, x = pre ++ a :: suf → x.length ≤ 1048576 → ∀ r, Ev (fun k => mk k (pre ++ a' :: suf) n ((pre ++ [a']).length : Int)) r → Ev (fun k => mk k x i (pre.length : Int)) r) ∧
      (∀ y pre suf, y = pre ++ a' :: suf → y.length ≤ 1048576 → ∀ r, Ev (fun k => hd k y n ((pre ++ [a']).length : Int)) r → Ev (fun k => hd k y i (pre.length : Int)) r)) :
    ∀ (suf : List α) (i : Int), (∀ a ∈ suf, P a) → 0 ≤ i → i + C * suf.length ≤ 70368744177664 → ∃ n suf', suf'.length = suf.length ∧ i ≤ n ∧ n ≤ i + C * suf.length ∧
      (∀ pre : List α, (pre ++ suf).length ≤ 1048576 → Ev (fun k => mk k (pre ++ suf) i pre.length) (n, pre ++ suf')) ∧ (∀ pre : List α, (pre ++ suf').length ≤ 1048576 → Ev (fun k => hd k (pre ++ suf') i pre.length) n) := by
  intro suf
  induction suf with
  | nil =>
    intro i _ h0 h1
    refine ⟨i, [], rfl, Int.le_refl _, by simp, fun pre _ => ?_, fun pre _ => ?_⟩
    · have := me pre i; simpa using this
    · have := he pre i; simpa using this
  | cons a suf ih =>
    intro i hP h0 h1
    have hm : C * ((a :: suf).length : Int) = C * suf.length + C := by rw [List.length_cons, Int.natCast_add, Int.mul_add]; simp
    have hp : 0 ≤ C * (suf.length : Int) := Int.mul_nonneg hC (Int.natCast_nonneg _)
    rw [hm] at h1 ⊢
    obtain ⟨n, a', hn0, hn1, hmk, hhd⟩ := st a i (hP a (by simp)) h0 (by omega)
    obtain ⟨n2, suf', hl, hn2, hn3, hmk2, hhd2⟩ := ih n (fun x hx => hP x (by simp [hx])) (by omega) (by omega)
    refine ⟨n2, a' :: suf', by simp [hl], by omega, by omega, fun pre hpre => ?_, fun pre hpre => ?_⟩
    · refine hmk _ pre suf rfl hpre _ ?_
      have := hmk2 (pre ++ [a']) (by simp at hpre ⊢; omega)
      simpa using this
    · refine hhd _ pre suf' rfl hpre _ ?_
      have := hhd2 (pre ++ [a']) (by simp at hpre ⊢; omega)
      simpa using this
theorem mhS {l : List ByteArray} (hl : l.length ≤ 1048576) {i : Int} (h0 : 0 ≤ i) (h1 : i + 1048576 ≤ 70368744177664) : MH laws_markStringS.f laws_heldStringS.f l i 1048576 := by
  refine ⟨i + l.length, marks l.length i, marks_length _ _, by omega, by omega, ?_, ?_⟩
  · exact markS hl h0 (by omega)
  · exact heldS hl h0 (by omega)
end Go.Proofs.Ytiddgglidkbipaa.L

/- Marks on locks, found again. No condition. -/
set_option linter.unusedSimpArgs false
set_option linter.unusedVariables false
namespace Go.Proofs.Ytiddgglidkbipaa.L
open Go.RowKit Go.Proofs.YtiddgglidkbipaaW.PrintWords Go.Proofs.YtiddgglidkbipaaW.PrintLast Go.Proofs.Ytiddgglidkbipaa.Q
theorem mhLock {l : List S28} (hl : SmLocks l) {i : Int} (h0 : 0 ≤ i) (h1 : i + 1099515822080 ≤ 70368744177664) : MH laws_markLockS.f laws_heldLockS.f l i 1099515822080 := by
  have hl0 := hl.1
  obtain ⟨n, l', e0, e1, e2, e3, e4⟩ := mh_loop (fun k x i j => laws_markLockS.l0 k x i j) (fun k x i j => laws_heldLockS.l0 k x i j) SmLock 1048580 (by omega)
    (fun x i => by
      refine Ev.step (fun k => laws_markLockS.l0.eq_2 ..) ?_
      simp only [Int.lt_irrefl, if_false]; exact Ev.now _)
    (fun x i => by
      refine Ev.step (fun k => laws_heldLockS.l0.eq_2 ..) ?_
      simp only [Int.lt_irrefl, if_false]; exact Ev.now _)
    (fun a i ha h0 h1 => by
      have g1 := ha.2.1
      have w0 : wrap64 (i + 1) = i + 1 := wrap_id (by omega) (by omega)
      obtain ⟨n1, p', _, a1, a2, a3, a4⟩ := mhS g1.1 (i := i + 1) (by omega) (by omega)
      have w1 : wrap64 (n1 + 1) = n1 + 1 := wrap_id (by omega) (by omega)
      have w2 : wrap64 (n1 + 1 + 1) = n1 + 1 + 1 := wrap_id (by omega) (by omega)
      have w3 : wrap64 (n1 + 1 + 1 + 1) = n1 + 1 + 1 + 1 := wrap_id (by omega) (by omega)
      refine ⟨n1 + 1 + 1 + 1, ⟨i, p', (n1.tmod 3 == 0), ((n1 + 1).tmod 3 == 0), n1 + 1 + 1⟩, by omega, by omega, fun x pre suf h hx r hr => ?_, fun y pre suf h hy r hr => ?_⟩
      · have hx2 : x.length ≤ maxLen := by rw [maxLen_eq]; omega
        refine Ev.step (fun k => laws_markLockS.l0.eq_2 ..) ?_
        simp only [if_pos (lt_at h), if_pos (nonneg_at _), rd_implLock h, w0]
        refine Ev.bind a3 ?_
        simp only [w1, w2, w3, set_at h, next_at h hx2]
        simpa using hr
      · have hy2 : y.length ≤ maxLen := by rw [maxLen_eq]; omega
        refine Ev.step (fun k => laws_heldLockS.l0.eq_2 ..) ?_
        simp only [if_pos (lt_at h), if_pos (nonneg_at _), rd_implLock h, if_true, w0]
        refine Ev.bind a4 ?_
        simp only [if_neg (show ¬ n1 < 0 by omega), bne_self_eq_false, Bool.false_eq_true, if_false, if_true, w1, w2, w3, next_at h hy2]
        simpa using hr) l i hl.2 h0 (by omega)
  refine ⟨n, l', e0, e1, by omega, ?_, ?_⟩
  · exact e3 [] (by simpa using hl.1)
  · exact e4 [] (by simp; omega)
theorem mhLock1 {x : S28} (hx : SmLock x) {i : Int} (h0 : 0 ≤ i) (h1 : i + 1099515822080 ≤ 70368744177664) : ∃ n l', True ∧ i ≤ n ∧ n ≤ i + 1048576 ∧ Ev (fun k => laws_markLock.f k x.f0 x.f1 x.f2 x.f3 x.f4 i) (n, l') ∧ True := by
  obtain ⟨n, l', _, a1, a2, a3, _⟩ := mhS hx.2.1.1 (i := i) (by omega) (by omega)
  refine ⟨n, l', trivial, a1, by omega, ?_, trivial⟩
  unfold laws_markLock.f
  refine Ev.bind a3 ?_
  exact Ev.now _
end Go.Proofs.Ytiddgglidkbipaa.L

/- The law FnExactAddLock computes true: the program and the reference say the same, the arguments stay, and nothing is shared. No condition. -/
set_option linter.unusedSimpArgs false
set_option linter.unusedVariables false
namespace Go.Proofs.Ytiddgglidkbipaa.Pure
open Go.RowKit Go.Proofs.YtiddgglidkbipaaW.PrintWords Go.Proofs.YtiddgglidkbipaaW.PrintLast Go.Proofs.Ytiddgglidkbipaa.Q Go.Proofs.Ytiddgglidkbipaa.L
theorem FnExactAddLock : ∀ (x0 : List (S24)) (x1 : S24), (fun l : List (S24) => l.length ≤ maxLen ∧ ∀ a ∈ l, G24 a) x0 → G24 x1 → ∃ k, laws_FnExactAddLock.f k x0 x1.f0 x1.f1 x1.f2 x1.f3 x1.f4 = some true := by
  intro x0 x1 g0 g1
  apply Ev.rounds
  unfold laws_FnExactAddLock.f
  have hm : ∀ m : Nat, m ≤ 1048576 → m ≤ maxLen := fun m h => by rw [maxLen_eq]; omega
  refine Sz.ev (szLockS g0.1 g0.2 (n := 1048576) (by omega) (by omega)) (by simp only [show (-1 : Int) < 0 by omega, if_true]; exact Ev.now _) (fun m0 a0 b0 s0 => ?_)
  simp only [if_neg (show ¬ m0 < 0 by omega)]
  refine Sz.ev (szLock g1 (n := m0) (by omega) (by omega)) (by simp only [show (-1 : Int) < 0 by omega, if_true]; exact Ev.now _) (fun m1 a1 b1 s1 => ?_)
  simp only [if_neg (show ¬ m1 < 0 by omega)]
  have hd0 := add_sm s0 s1
  refine Ev.bind (toLockS s0) ?_
  refine Ev.bind (toLock1 s1) ?_
  refine Ev.bind (specAdd s0 s1) ?_
  refine Ev.bind (toLockS s0) ?_
  refine Ev.bind (toLock1 s1) ?_
  refine Ev.bind (implAdd s0 s1) ?_
  refine Ev.bind (eqLockS hd0) ?_
  try simp only [eq_self, if_true, bne_self_eq_false, Bool.false_eq_true, if_false, decide_true, Bool.not_true]
  try simp only [eq_self, if_true, bne_self_eq_false, Bool.false_eq_true, if_false, decide_true, Bool.not_true]
  refine Ev.bind (toLockS s0) ?_
  refine Ev.bind (eqLockS s0) ?_
  try simp only [eq_self, if_true, bne_self_eq_false, Bool.false_eq_true, if_false, decide_true, Bool.not_true]
  refine Ev.bind (toLock1 s1) ?_
  refine Ev.bind (eqLock1 (p := toLock x1) (q := toLock x1) s1) ?_
  try simp only [eq_self, if_true, bne_self_eq_false, Bool.false_eq_true, if_false, decide_true, Bool.not_true]
  obtain ⟨n0, l0, _, u0, v0, w0, _⟩ := mhLock s0 (i := 1) (by omega) (by omega)
  refine Ev.bind w0 ?_
  obtain ⟨n1, l1, _, u1, v1, w1, _⟩ := mhLock1 s1 (i := n0) (by omega) (by omega)
  refine Ev.bind w1 ?_
  simp only [if_neg (show ¬ n1 < 0 by omega)]
  refine Ev.bind (eqLockS hd0) ?_
  try simp only [eq_self, if_true, bne_self_eq_false, Bool.false_eq_true, if_false, decide_true, Bool.not_true]
  try simp only [eq_self, if_true, bne_self_eq_false, Bool.false_eq_true, if_false, decide_true, Bool.not_true]
  obtain ⟨n2, l2, _, u2, v2, w2, z2⟩ := mhLock hd0 (i := 1) (by omega) (by omega)
  refine Ev.bind w2 ?_
  refine Ev.bind z2 ?_
  simp only [if_neg (show ¬ n2 < 0 by omega)]
  try simp only [eq_self, if_true, bne_self_eq_false, Bool.false_eq_true, if_false, decide_true, Bool.not_true]
  refine Ev.bind (toLockS s0) ?_
  refine Ev.bind (toLock1 s1) ?_
  refine Ev.bind (implAdd s0 s1) ?_
  refine Ev.bind (eqLockS hd0) ?_
  try simp only [eq_self, if_true, bne_self_eq_false, Bool.false_eq_true, if_false, decide_true, Bool.not_true]
  try simp only [eq_self, if_true, bne_self_eq_false, Bool.false_eq_true, if_false, decide_true, Bool.not_true]
  refine Ev.bind z2 ?_
  simp only [if_neg (show ¬ n2 < 0 by omega)]
  try simp only [eq_self, if_true, bne_self_eq_false, Bool.false_eq_true, if_false, decide_true, Bool.not_true]
  exact Ev.now _
end Go.Proofs.Ytiddgglidkbipaa.Pure
