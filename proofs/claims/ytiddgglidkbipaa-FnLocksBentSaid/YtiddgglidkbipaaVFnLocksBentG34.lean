/- What a reading of a parameter says of its cells, kind by kind: for the rows of laws whose parameters are slices and structs. No condition. -/
import Derived.Test.YtiddgglidkbipaaVFnLocksBentWWords
import Derived.Test.YtiddgglidkbipaaVFnLocksBentWApart
import Derived.Deep.Slices
import Derived.WideShapes
import Derived.Test.YtiddgglidkbipaaVFnLocksBentG22
import Derived.Laws.Strings
import Derived.Test.YtiddgglidkbipaaVFnLocksBentWLast
import Derived.Test.YtiddgglidkbipaaVFnLocksBentWMore
import Derived.Test.YtiddgglidkbipaaVFnLocksBentG26
import Derived.Test.YtiddgglidkbipaaVFnLocksBentG28
import Derived.Test.YtiddgglidkbipaaVFnLocksBentWFoot
import Derived.Test.YtiddgglidkbipaaVFnLocksBentWShare
import Derived.Test.YtiddgglidkbipaaVFnLocksBentG27
import Derived.Test.YtiddgglidkbipaaVFnLocksBentG12
import Derived.Test.YtiddgglidkbipaaVFnLocksBentG23
import Derived.Test.YtiddgglidkbipaaVFnLocksBentG24
import Derived.Test.YtiddgglidkbipaaVFnLocksBentG25
import Derived.Lib.Bytealg
import Derived.Test.YtiddgglidkbipaaVFnLocksBentG29
import Derived.Test.YtiddgglidkbipaaVFnLocksBentG31
import Derived.Test.YtiddgglidkbipaaVFnLocksBentG32
import Derived.Test.YtiddgglidkbipaaVFnLocksBentG30
namespace Go.Proofs.Ytiddgglidkbipaa.Op
open Go.RowKit Go.ChangeShapes Go.WideShapes Go.Proofs.YtiddgglidkbipaaW.PrintWords
def Opens {α H : Type} (enc : TypeId × Value → H) (P : Program) (w : World) (t : TypeId) (d : Kd α) (G : α → Prop) : Prop :=
  ∀ fuel cs x, DataW.trod enc P w 0 (fun _ => true) true fuel t cs = some x → ∃ a, d.K w a cs ∧ G a
section
variable {H : Type} {enc : TypeId × Value → H} {P : Program} {w : World} {t : TypeId}
theorem opens_int {k : IntKind} (ht : P.underlying t = some (.int k)) : Opens enc P w t (Kd.int k) (fun n => (Lit.int k n).wf = true) := by
  intro fuel cs x h
  obtain ⟨n, rfl, _, hn⟩ := DataW.trod_int ht h
  exact ⟨n, rfl, hn⟩
theorem opens_slice {α : Type} [Inhabited α] {e : TypeId} {d : Kd α} {G : α → Prop} (ht : P.underlying t = some (.slice e)) (hc : P.cellsOf e = d.sz) (he : Opens enc P w e d G) :
    Opens enc P w t (Kd.slice e d) (fun l => l.length ≤ maxLen ∧ ∀ a ∈ l, G a) := by
  intro fuel cs x h
  rcases Go.Deep.open_slice ht h with ⟨rfl, _⟩ | ⟨a, len, cap, m, n, D, Pl, rfl, _, hl, hm, hmm, _, hx⟩
  · exact ⟨[], ⟨none, 0, rfl, Nat.le_refl _, Kd.C_nil d w⟩, by simp, by simp⟩
  · have hm' : m = cap := by simpa using hmm
    have each : ∀ i, i < len → ∃ y : α, G y ∧ ∃ c, d.K w y c ∧ ∀ j u, c[j]? = some u → w.cell? (a.add (i * d.sz + j)) = some u := fun i hi => by
      obtain ⟨cs', h1, h2⟩ := hx i (by omega)
      obtain ⟨y, hK, hG⟩ := he _ _ _ h2
      obtain ⟨_, h3, h4⟩ := World.cells?_some h1
      refine ⟨y, hG, cs', hK, fun j u hu => ?_⟩
      have hj : j < P.cellsOf e := by
        have := (List.getElem?_eq_some_iff.1 hu).1
        omega
      have h5 := h4 j hj
      rw [Go.Deep.add_add, hc, hu] at h5
      exact h5
    obtain ⟨f, hf⟩ := Go.Deep.choose_lt each
    have hmax : maxLen = 9223372036854775807 := by decide
    refine ⟨(List.range len).map f, ⟨some a, cap, by simp, by simpa using hl, ?_⟩, by simp; omega, ?_⟩
    · refine ⟨rfl, by simp; omega, fun _ => ⟨a, rfl, fun j p hj => ?_⟩⟩
      have hjl : j < len := by
        have := (List.getElem?_eq_some_iff.1 hj).1
        simpa using this
      have hp : f j = p := by
        rw [List.getElem?_map, List.getElem?_range hjl] at hj
        simpa using hj
      obtain ⟨_, c, hK, hcell⟩ := hf j hjl
      exact ⟨c, d.K_len hK, hp ▸ hK, hcell⟩
    · intro y hy
      obtain ⟨j, hj, rfl⟩ := List.mem_map.1 hy
      exact (hf j (List.mem_range.1 hj)).1
end
end Go.Proofs.Ytiddgglidkbipaa.Op

/- What a reading of a struct says of its cells. No condition. -/
namespace Go.Proofs.Ytiddgglidkbipaa.Q
open Go.RowKit Go.ChangeShapes Go.WideShapes Go.Proofs.YtiddgglidkbipaaW.PrintWords Go.Proofs.Ytiddgglidkbipaa
set_option linter.unusedVariables false
set_option linter.unusedSimpArgs false
instance : Inhabited S24 := ⟨z24⟩
end Go.Proofs.Ytiddgglidkbipaa.Q

/- Small lemmas for plain laws over rounds: indices as lengths of what was passed, bytes' equality. No condition. -/
set_option linter.unusedSimpArgs false
set_option linter.unusedVariables false
namespace Go.Proofs.Ytiddgglidkbipaa.L
open Go.RowKit Go.Proofs.YtiddgglidkbipaaW.PrintWords Go.Proofs.YtiddgglidkbipaaW.PrintLast
theorem ba_toList (s : ByteArray) : s.toList = s.data.toList := ByteArray.toList_eq s
theorem ba_inj {a b : ByteArray} (h : a.toList = b.toList) : a = b := by
  rw [ba_toList, ba_toList] at h
  cases a with | mk x => cases b with | mk y => congr 1; exact Array.toList_inj.1 h
theorem ba_eq {a b : ByteArray} : (a.toList = b.toList) = (a = b) := propext ⟨ba_inj, fun h => by rw [h]⟩
theorem maxLen_eq : maxLen = 9223372036854775807 := by decide
theorem wrap_id {x : Int} (h0 : -9223372036854775808 ≤ x) (h1 : x < 9223372036854775808) : wrap64 x = x := by
  unfold wrap64
  omega
section
variable {α : Type} {l pre suf : List α} {a : α}
theorem lt_at (h : l = pre ++ a :: suf) : ((pre.length : Nat) : Int) < (l.length : Int) := by subst h; simp; omega
theorem rd_at (d : α) (h : l = pre ++ a :: suf) : rdOf d l (pre.length : Int) = a := by subst h; simp [rdOf, List.getD_eq_getElem?_getD]
theorem getD_at (d : α) (h : l = pre ++ a :: suf) : l.getD ((pre.length : Nat) : Int).toNat d = a := by subst h; simp [List.getD_eq_getElem?_getD]
theorem next_at (h : l = pre ++ a :: suf) (hl : l.length ≤ maxLen) : wrap64 ((pre.length : Int) + 1) = ((pre ++ [a]).length : Int) := by
  have : l.length = pre.length + 1 + suf.length := by subst h; simp; omega
  rw [maxLen_eq] at hl
  rw [wrap_id (by omega) (by omega)]
  simp
theorem snoc_at (h : l = pre ++ a :: suf) : l = (pre ++ [a]) ++ suf := by subst h; simp
theorem end_at (h : l = pre ++ []) : ¬ ((pre.length : Nat) : Int) < (l.length : Int) := by subst h; simp
theorem nonneg_at (n : Nat) : (0 : Int) ≤ (n : Int) := Int.natCast_nonneg n
end
def IntOk (x : Int) : Prop := -9223372036854775808 ≤ x ∧ x < 9223372036854775808
def SmS (l : List ByteArray) : Prop := l.length ≤ 1048576 ∧ ∀ s ∈ l, s.size ≤ 1048576
theorem eq_loop {α : Type} [DecidableEq α] {a b : List α} (g : Nat → Int → Option Bool)
    (hend : Ev (fun k => g k a.length) true)
    (hstep : ∀ pre x su pre' y sv, a = pre ++ x :: su → b = pre' ++ y :: sv → pre.length = pre'.length → (x ≠ y → Ev (fun k => g k (pre.length : Int)) false) ∧ (x = y → ∀ r, Ev (fun k => g k ((pre ++ [x]).length : Int)) r → Ev (fun k => g k (pre.length : Int)) r)) :
    ∀ (su sv pu pv : List α), a = pu ++ su → b = pv ++ sv → pu.length = pv.length → su.length = sv.length → Ev (fun k => g k (pu.length : Int)) (decide (su = sv)) := by
  intro su
  induction su with
  | nil =>
    intro sv pu pv h h' hp hs
    obtain rfl : sv = [] := by simpa using hs.symm
    rw [h, List.append_nil] at hend
    exact hend
  | cons x su ih =>
    intro sv pu pv h h' hp hs
    cases sv with
    | nil => simp at hs
    | cons y sv =>
      obtain ⟨h1, h2⟩ := hstep pu x su pv y sv h h' hp
      by_cases e : x = y
      · have h3 := h2 e _ (ih sv (pu ++ [x]) (pv ++ [y]) (snoc_at h) (snoc_at h') (by simp [hp]) (by simpa using hs))
        simp only [e, List.cons.injEq, true_and]
        exact h3
      · rw [show decide (x :: su = y :: sv) = false from decide_eq_false (fun h => e (List.cons.inj h).1)]
        exact h1 e
theorem ev_cast {α : Type} {g : Nat → Option α} {r s : α} (h : Ev g r) (e : r = s) : Ev g s := e ▸ h
end Go.Proofs.Ytiddgglidkbipaa.L

/- Draws from a code: the cursor's bytes and its place. No condition. -/
set_option linter.unusedSimpArgs false
set_option linter.unusedVariables false
namespace Go.Proofs.Ytiddgglidkbipaa.L
open Go.RowKit Go.Proofs.YtiddgglidkbipaaW.PrintWords Go.Proofs.YtiddgglidkbipaaW.PrintLast Go.Proofs.Ytiddgglidkbipaa.Q
def Cur (b : List Int) (p : Int) : Prop := 0 ≤ p ∧ p ≤ (b.length : Int) ∧ b.length ≤ 1048576
theorem wrapI64 {x : Int} (h0 : -9223372036854775808 ≤ x) (h1 : x < 9223372036854775808) : IntKind.i64.wrap x = x := by
  rw [i64_w, wrap_id h0 h1]
theorem and255 (x : Int) : 0 ≤ Go.bits .and .i64 x 255 ∧ Go.bits .and .i64 x 255 ≤ 255 := by
  unfold Go.bits
  have h : (BitVec.ofInt IntKind.i64.bits x &&& BitVec.ofInt IntKind.i64.bits 255).toNat ≤ 255 := by
    rw [BitVec.toNat_and]
    exact Nat.le_trans Nat.and_le_right (by decide)
  simp only
  rw [wrapI64 (by omega) (by omega)]
  omega
theorem byteD {b : List Int} {p : Int} (h : Cur b p) (s : Int) : ∃ v p' s', spec_l1Byte.f b p s = some (v, p', s') ∧ 0 ≤ v ∧ v ≤ 255 ∧ Cur b p' := by
  obtain ⟨h0, h1, h2⟩ := h
  unfold spec_l1Byte.f
  by_cases c : p < (b.length : Int)
  · rw [if_pos c, if_pos h0]
    refine ⟨_, _, _, rfl, (and255 _).1, (and255 _).2, ?_⟩
    rw [wrap_id (by omega) (by omega)]
    exact ⟨by omega, by omega, h2⟩
  · rw [if_neg c]
    exact ⟨_, _, _, rfl, (and255 _).1, (and255 _).2, h0, h1, h2⟩
theorem belowD {b : List Int} {p : Int} (h : Cur b p) (s : Int) {n : Int} (hn : 0 < n) : ∃ v p' s', spec_l1Below.f b p s n = some (v, p', s') ∧ 0 ≤ v ∧ v < n ∧ Cur b p' := by
  unfold spec_l1Below.f
  rw [if_neg (by omega)]
  by_cases c : n ≤ 256
  · rw [if_pos c]
    obtain ⟨v, p1, s1, e, v0, v1, h'⟩ := byteD h s
    simp only [e, Option.bind_some, if_neg (show ¬ n = 0 by omega)]
    exact ⟨_, _, _, rfl, Int.tmod_nonneg _ v0, Int.tmod_lt_of_pos _ hn, h'⟩
  · rw [if_neg c]
    obtain ⟨v, p1, s1, e, v0, v1, h1⟩ := byteD h s
    simp only [e, Option.bind_some]
    obtain ⟨v', p2, s2, e, v0', v1', h2⟩ := byteD h1 s1
    simp only [e, Option.bind_some]
    obtain ⟨v'', p3, s3, e, v0'', v1'', h3⟩ := byteD h2 s2
    simp only [e, Option.bind_some, if_neg (show ¬ n = 0 by omega)]
    rw [wrap_id (x := v * 65536) (by omega) (by omega), wrap_id (x := v' * 256) (by omega) (by omega), wrap_id (x := v * 65536 + v' * 256) (by omega) (by omega), wrap_id (by omega) (by omega)]
    exact ⟨_, _, _, rfl, Int.tmod_nonneg _ (by omega), Int.tmod_lt_of_pos _ hn, h3⟩
theorem belowD0 {b : List Int} {p : Int} (h : Cur b p) (s n : Int) : ∃ v p' s', spec_l1Below.f b p s n = some (v, p', s') ∧ 0 ≤ v ∧ Cur b p' := by
  by_cases c : 0 < n
  · obtain ⟨v, p', s', e, h0, _, h'⟩ := belowD h s c
    exact ⟨v, p', s', e, h0, h'⟩
  · unfold spec_l1Below.f
    rw [if_pos (by omega)]
    exact ⟨_, _, _, rfl, Int.le_refl _, h⟩
theorem onceD {b : List Int} {p : Int} (h : Cur b p) (s n : Int) : ∃ v p' s', spec_l1Once.f b p s n = some (v, p', s') ∧ Cur b p' := by
  obtain ⟨v, p', s', e, h0, h'⟩ := belowD0 h s n
  unfold spec_l1Once.f
  rw [e]
  exact ⟨_, _, _, rfl, h'⟩
theorem strD {b : List Int} {p : Int} (h : Cur b p) (s : Int) {l : List ByteArray} (hl : l ≠ []) : ∃ v p' s', spec_l1Str.f b p s l = some (v, p', s') ∧ v ∈ l ∧ Cur b p' := by
  have hpos : 0 < l.length := List.length_pos_iff.2 hl
  obtain ⟨v, p', s', e, h0, h1, h'⟩ := belowD h s (n := (l.length : Int)) (by omega)
  unfold spec_l1Str.f
  rw [e]
  simp only [Option.bind_some, if_pos h0, if_pos h1]
  refine ⟨_, _, _, rfl, ?_, h'⟩
  have hlt : v.toNat < l.length := by omega
  unfold rdOf
  rw [List.getD_eq_getElem?_getD, List.getElem?_eq_getElem hlt]
  exact List.getElem_mem hlt
theorem newD {l : List Int} (hl : l.length ≤ 1048576) : ∃ s, Ev (fun k => spec_l1New.f k l) (l, 0, s) := by
  have key : ∀ (suf pre : List Int) (x : Int), l = pre ++ suf → ∃ s, Ev (fun k => spec_l1New.l0 k l x pre.length) (l, 0, s) := by
    intro suf
    induction suf with
    | nil =>
      intro pre x h
      refine ⟨x, ?_⟩
      refine Ev.step (fun k => spec_l1New.l0.eq_2 ..) ?_
      simp only [if_neg (end_at h)]
      exact Ev.now _
    | cons a suf ih =>
      intro pre x h
      by_cases c : (pre.length : Int) < 4000
      · obtain ⟨s, hs⟩ := ih (pre ++ [a]) _ (snoc_at h)
        refine ⟨s, ?_⟩
        refine Ev.step (fun k => spec_l1New.l0.eq_2 ..) ?_
        simp only [if_pos (lt_at h), if_pos c, if_pos (nonneg_at _), next_at h (show l.length ≤ maxLen by rw [maxLen_eq]; omega)]
        exact hs
      · refine ⟨x, ?_⟩
        refine Ev.step (fun k => spec_l1New.l0.eq_2 ..) ?_
        simp only [if_pos (lt_at h), if_neg c]
        exact Ev.now _
  exact key l [] _ rfl
theorem cur0 {l : List Int} (hl : l.length ≤ 1048576) : Cur l 0 := ⟨Int.le_refl _, by omega, hl⟩
end Go.Proofs.Ytiddgglidkbipaa.L

/- Draws of paths. No condition. -/
set_option linter.unusedSimpArgs false
set_option linter.unusedVariables false
namespace Go.Proofs.Ytiddgglidkbipaa.L
open Go.RowKit Go.Proofs.YtiddgglidkbipaaW.PrintWords Go.Proofs.YtiddgglidkbipaaW.PrintLast Go.Proofs.Ytiddgglidkbipaa.Q
theorem split_at {α : Type} {t : List α} {i : Int} (h0 : 0 ≤ i) (h1 : i < (t.length : Int)) : ∃ pre r suf, t = pre ++ r :: suf ∧ i = (pre.length : Int) := by
  have hj : i.toNat < t.length := by omega
  refine ⟨t.take i.toNat, t[i.toNat], t.drop (i.toNat + 1), ?_, ?_⟩
  · rw [List.getElem_cons_drop, List.take_append_drop]
  · rw [List.length_take]; omega
def SmP (n : Nat) (l : List ByteArray) : Prop := l.length ≤ n ∧ ∀ x ∈ l, x.size ≤ 1000
theorem SmP.sm {n : Nat} {l : List ByteArray} (h : SmP n l) (hn : n ≤ 1048576) : SmS l := ⟨Nat.le_trans h.1 hn, fun x hx => Nat.le_trans (h.2 x hx) (by omega)⟩
theorem mem_sz2 {v : ByteArray} {l : List ByteArray} (h : v ∈ l) (hl : l.all (fun x => decide (x.size ≤ 1000)) = true) : v.size ≤ 1000 := of_decide_eq_true (List.all_eq_true.1 hl v h)
theorem nameD {b : List Int} {p : Int} (h : Cur b p) (s : Int) : ∃ v p' s', spec_l2Name.f b p s = some (v, p', s') ∧ v.size ≤ 1000 ∧ Cur b p' := by
  unfold spec_l2Name.f
  obtain ⟨v, p1, s1, e, m, h1⟩ := strD h s (l := [(⟨#[97]⟩ : ByteArray), (⟨#[98]⟩ : ByteArray), (⟨#[99]⟩ : ByteArray), (⟨#[97, 32, 98]⟩ : ByteArray), (⟨#[120, 37, 121]⟩ : ByteArray), (⟨#[97]⟩ : ByteArray), (⟨#[98]⟩ : ByteArray)]) (by simp)
  simp only [e, Option.bind_some]
  exact ⟨_, _, _, rfl, mem_sz2 m (by decide), h1⟩
theorem l2DrawD {b : List Int} {p : Int} (h : Cur b p) (s : Int) : ∃ l p' s', Ev (fun k => spec_l2Draw.f k b p s) (l, p', s') ∧ SmP 3 l ∧ Cur b p' := by
  unfold spec_l2Draw.f
  obtain ⟨v, p1, s1, e, v0, v1, h1⟩ := belowD h s (n := 4) (by omega)
  simp only [e, Option.bind_some]
  have key : ∀ (n : Nat) (out : List ByteArray) (q t : Int), (out.length + n ≤ 3 ∧ ∀ x ∈ out, x.size ≤ 1000) → Cur b q → ∃ l p' s', Ev (fun k => spec_l2Draw.l0 k out (n : Int) b q t) (l, p', s') ∧ SmP 3 l ∧ Cur b p' := by
    intro n
    induction n with
    | zero =>
      intro out q t ho hq
      refine ⟨out, q, t, ?_, ⟨by omega, ho.2⟩, hq⟩
      refine Ev.step (fun k => spec_l2Draw.l0.eq_2 ..) ?_
      simp only [if_neg (show ¬ ((0 : Nat) : Int) > 0 by decide)]
      exact Ev.now _
    | succ n ih =>
      intro out q t ho hq
      obtain ⟨x, q1, t1, e, m, hq1⟩ := nameD hq t
      obtain ⟨l, q2, t2, he, hl, hq2⟩ := ih (out ++ [x]) q1 t1 ⟨by simp; omega, fun y hy => by
        rcases List.mem_append.1 hy with hy | hy
        · exact ho.2 y hy
        · simp at hy; subst hy; exact m⟩ hq1
      refine ⟨l, q2, t2, ?_, hl, hq2⟩
      refine Ev.step (fun k => spec_l2Draw.l0.eq_2 ..) ?_
      simp only [if_pos (show ((n + 1 : Nat) : Int) > 0 by omega), e, Option.bind_some, if_pos (show out.length < 8796093022208 by omega)]
      rw [show wrap64 (((n + 1 : Nat) : Int) - 1) = (n : Int) by rw [wrap_id (by omega) (by omega)]; omega]
      exact he
  obtain ⟨n, rfl⟩ := Int.eq_ofNat_of_zero_le v0
  exact key n [] p1 s1 ⟨by simp; omega, by simp⟩ h1
end Go.Proofs.Ytiddgglidkbipaa.L

/- A printed walk's contract told more sharply: the result's elements' rows lie apart. No condition. -/
namespace Go.Proofs.Ytiddgglidkbipaa.Q
open Go.RowKit Go.Proofs.YtiddgglidkbipaaW.PrintWords Go.Proofs.YtiddgglidkbipaaW.PrintLast Go.Proofs.YtiddgglidkbipaaW.PrintMore
attribute [local go_sem] max2_int min2_int max_two min_two max_three min_three max_four min_four
set_option linter.unusedVariables false
set_option linter.unusedSimpArgs false
abbrev spec_AddLockX.f (k : Nat) (l0 : List (S28)) (a1_0 : Int) (l1_1 : List ByteArray) (a1_2 : Bool) (a1_3 : Bool) (a1_4 : Int) : Option ((List (S28)) × Bool) := spec_AddLock.f k l0 a1_0 l1_1 a1_2 a1_3 a1_4
theorem heap_spec_AddLock0 : Kd.Heap (k28) := by (try unfold k28); repeat (first | apply Kd.heap_iso | apply Kd.heap_pair | apply Kd.heap_slice | exact Kd.heap_int _ | exact Kd.heap_string | exact Kd.heap_bool | exact Kd.heap_scalar)
theorem heap_spec_AddLock1_1 : Kd.Heap (Kd.string) := by (try unfold Kd.slice); repeat (first | apply Kd.heap_iso | apply Kd.heap_pair | apply Kd.heap_slice | exact Kd.heap_int _ | exact Kd.heap_string | exact Kd.heap_bool | exact Kd.heap_scalar)
theorem spec_AddLockX.calls (k : Nat) (A0 : Option Addr) (c0 : Nat) (l0 : List (S28)) (a1_0 : Int) (A1_1 : Option Addr) (c1_1 : Nat) (l1_1 : List ByteArray) (a1_2 : Bool) (a1_3 : Bool) (a1_4 : Int) (r1 : List (S28)) (r2 : Bool) (w : World) (hr0 : Kd.C k28 w A0 l0.length l0) (hc0 : l0.length ≤ c0) (hr1_1 : Kd.C Kd.string w A1_1 l1_1.length l1_1) (hc1_1 : l1_1.length ≤ c1_1) (h : spec_AddLockX.f k l0 a1_0 l1_1 a1_2 a1_3 a1_4 = some (r1, r2)) :
    Calls Try.prog 47 #[.slice A0 l0.length c0, .agg #[.int .i64 a1_0, .slice A1_1 l1_1.length c1_1, .bool a1_2, .bool a1_3, .int .i64 a1_4]] w fun e w' => ∃ v0_ : Value, e = .returned (.tuple #[v0_, .bool r2]) ∧ Kd.S k28 28 w' w.heap.size (fun k_ => (w.heap.size ≤ k_)) v0_ r1 ∧ Below w.heap.size w w' := by
  exact spec_AddLock.calls k (fun k_ => k_ < w.heap.size) A0 c0 l0 a1_0 (fun k_ => k_ < w.heap.size) A1_1 c1_1 l1_1 a1_2 a1_3 a1_4 r1 r2 w (Kd.V_mk hc0 (Kd.C_F heap_spec_AddLock0 hr0)) (Kd.V_mk hc1_1 (Kd.C_F heap_spec_AddLock1_1 hr1_1)) h
end Go.Proofs.Ytiddgglidkbipaa.Q

/- A printed walk's contract told more sharply: the result's elements' rows lie apart. No condition. -/
namespace Go.Proofs.Ytiddgglidkbipaa.Q
open Go.RowKit Go.Proofs.YtiddgglidkbipaaW.PrintWords Go.Proofs.YtiddgglidkbipaaW.PrintLast Go.Proofs.YtiddgglidkbipaaW.PrintMore
attribute [local go_sem] max2_int min2_int max_two min_two max_three min_three max_four min_four
set_option linter.unusedVariables false
set_option linter.unusedSimpArgs false
abbrev impl_DropLockX.f (k : Nat) (l0 : List (S28)) (a1 : Int) : Option ((List (S28)) × Bool) := impl_DropLock.f k l0 a1
set_option maxHeartbeats 8000000 in
set_option maxRecDepth 100000 in
theorem impl_DropLockX.calls (k : Nat) (A0 : Option Addr) (c0 : Nat) (l0 : List (S28)) (a1 : Int) (r1 : List (S28)) (r2 : Bool) (w : World) (hr0 : Kd.C k28 w A0 l0.length l0) (hc0 : l0.length ≤ c0) (h : impl_DropLockX.f k l0 a1 = some (r1, r2)) :
 Calls Try.prog 33 #[.slice A0 l0.length c0, .int .i64 a1] w fun e w' => ∃ v0_ : Value, e = .returned (.tuple #[v0_, .bool r2]) ∧ Kd.S k28 28 w' w.heap.size (fun _ => True) v0_ r1 ∧ Below w.heap.size w w' := by
 have hu28 := Try.underlying28
 have HR0 := Aside0.mk hr0
 have HC0 := Aside0.mk hc0
 clear hr0 hc0
 have HB := A_ (Below.refl w.heap.size w)
 have H : (impl_DropLock.l0 k l0 a1 l0 (l0.length : Int) 0) = some (r1, r2) := h
 clear h
 have H' := Aside0.mk H
 clear H
 go_enter Try.func33, Try.ntmps33
 go_wp2
 go_loopg [10] k (fun kq v10 w' => ∃ (x10_1 : Int), v10 = .int .i64 x10_1 ∧ Aside0 (impl_DropLock.l0 kq l0 a1 l0 (l0.length : Int) x10_1 = some (r1, r2)) ∧ Aside0 (kq ≤ k) ∧ Aside0 (Below w.heap.size w w'))
 case atStart => exact ⟨(0), rs_, H', ⟨Nat.le_refl _⟩, ⟨bB_⟩⟩
 case round =>
  clear H'
  try clear p2
  obtain ⟨x10_1, rfl, HA, HK1, HB⟩ := hrel
  cases gk with
  | zero => exact absurd HA.out (by simp [impl_DropLock.l0])
  | succ k1 =>
   have H := HA.out
   clear HA
   simp only [impl_DropLock.l0] at H
   by_cases c3 : x10_1 < (l0.length : Int)
   rotate_left
   · rw [if_neg c3] at H
     have c3b0 : decide (x10_1 < (l0.length : Int)) = false := decide_eq_false c3
     clear c3
     obtain ⟨t355, A27, H⟩ := bo_ H
     (try dsimp only at H)
     simp only [Option.some.injEq, Prod.mk.injEq] at H
     obtain ⟨rfl, rfl⟩ := H
     go_wp2_with (first | ((with_reducible refine gate_callee (f := 69) rfl ?_); refine gL_ (some 31) Try.func69 #[.slice A0 l0.length c0] ?_; (with_reducible refine (impl_copyLocks.calls k1 _ _ l0 t355 _ ?s1 ?s2 A27.out).mono ?_); (case s1 => exact cC_ (Kd.C_below HR0.out HB.out)); (case s2 => exact HC0.out); rintro e w28 ⟨v356, rfl, ho0, hb⟩; refine ⟨_, rfl, ?_⟩; have HO357 := A_ (Kd.S_lower ho0 (below_size bB_)); replace HB := A_ (below_step bB_ hb); (try clear hb); (try clear ho0)))
     go_ret2
     exact ⟨_, rr_, by (with_reducible repeat (first | apply Kd.S_alloc | apply Kd.S_drewN | apply Kd.S_drew)); exact HO357.out, bB_⟩
   rw [if_pos c3] at H
   have c3b0 : decide (x10_1 < (l0.length : Int)) = true := decide_eq_true c3
   clear c3
   by_cases c4 : 0 ≤ x10_1
   rotate_left
   · exact absurd H (by rw [if_neg c4]; simp)
   rw [if_pos c4] at H
   have c4b0 : decide (0 ≤ x10_1) = true := decide_eq_true c4
   clear c4
   by_cases c5 : x10_1 < (l0.length : Int)
   rotate_left
   · exact absurd H (by rw [if_neg c5]; simp)
   rw [if_pos c5] at H
   have c5b0 : decide (x10_1 < (l0.length : Int)) = true := decide_eq_true c5
   clear c5
   by_cases c6 : ((rd_T28 l0 x10_1).f0) = a1
   rotate_left
   · rw [if_neg c6] at H
     have c6b0 : (((rd_T28 l0 x10_1).f0) == a1) = false := beq_eq_false_iff_ne.mpr c6
     have c6b1 : (((rd_T28 l0 x10_1).f0) != a1) = true := bne_iff_ne.mpr c6
     have H' := Aside0.mk H
     clear H
     have p358 : 0 ≤ (x10_1 : Int) := of_decide_eq_true as_
     have q358 : x10_1 < (l0.length : Int) := of_decide_eq_true as_
     obtain ⟨ad358, A358_1, c358_1, e358, hx358_0, hx358_1, hx358_2, hx358_3, hx358_4, hl358_1, hi358_1⟩ := at_T28 HR0.out x10_1 p358 q358
     cases e358
     replace hx358_0 := bc_ HB.out hx358_0
     replace hx358_1 := bc_ HB.out hx358_1
     replace hx358_2 := bc_ HB.out hx358_2
     replace hx358_3 := bc_ HB.out hx358_3
     replace hx358_4 := bc_ HB.out hx358_4
     have HR358_1 := Aside0.mk hi358_1
     have HC358_1 := Aside0.mk hl358_1
     clear hi358_1 hl358_1
     replace p358 := eq_true p358
     replace q358 := eq_true q358
     go_wp2_with (first | ((with_reducible refine gate_dst (N := 7) rfl ?_); refine bx_ (N := 7) (cs := #[.int .i64 0, .slice none 0 0, .bool false, .bool false, .int .i64 0]) (t := 28) ?_; intro gb359 hg w25 hbox hb; have BK359 := A_ (hbox); have GW359 := A_ (ge_ hg bB_ : w.heap.size ≤ gb359); have GE359 := A_ (ge_ hg bB_ : w.heap.size ≤ gb359); replace HB := A_ (below_step bB_ hb); clear hb hbox hg; obtain ⟨hcz26_0, hcz26_1, hcz26_2, hcz26_3, hcz26_4, hfz26_0, hfz26_1, hfz26_2, hfz26_3, hfz26_4⟩ := cz5_ BK359.out))
     go_roundg k1
     case measure => have := HK1.out; omega
     case rel => exact ⟨(wrap64 (x10_1 + 1)), rs_, H', ⟨by have := HK1.out; omega⟩, ⟨bG_ GE359.out⟩⟩
   rw [if_pos c6] at H
   have c6b0 : (((rd_T28 l0 x10_1).f0) == a1) = true := beq_iff_eq.mpr c6
   have c6b1 : (((rd_T28 l0 x10_1).f0) != a1) = false := bne_eq_false_iff_eq.mpr c6
   clear c6
   have c7b0 := eq_true (of_decide_eq_true as_ : 0 ≤ x10_1)
   by_cases c8 : x10_1 ≤ (l0.length : Int)
   rotate_left
   · exact absurd H (by rw [if_neg c8]; simp)
   rw [if_pos c8] at H
   have c8b0 := eq_true c8
   have c8b1 : decide (x10_1 ≤ (l0.length : Int)) = true := decide_eq_true c8
   clear c8
   obtain ⟨y360, hy360⟩ : ∃ y_ : List (S28), y_ = (l0.take (x10_1 : Int).toNat) := ⟨_, rfl⟩
   replace H : ((impl_copyLocks.f k1 y360).bind fun t364 => (if 0 ≤ (wrap64 (x10_1 + 1)) then (if (wrap64 (x10_1 + 1)) ≤ (l0.length : Int) then ((impl_copyLocks.f k1 (l0.drop ((wrap64 (x10_1 + 1)) : Int).toNat)).bind fun t371 => (if t364.length + t371.length < 2932031007402 then (some ((t364 ++ t371), true)) else (none))) else (none)) else (none))) = some (r1, r2) := hy_ hy360 H
   have Ny360 := Aside0.mk hy360
   clear hy360
   obtain ⟨t364, A9, H⟩ := bo_ H
   (try dsimp only at H)
   obtain ⟨ji10, hji10⟩ : ∃ j_ : Int, (wrap64 (x10_1 + 1)) = j_ := ⟨_, rfl⟩
   replace H : (if 0 ≤ (ji10) then (if (ji10) ≤ (l0.length : Int) then ((impl_copyLocks.f k1 (l0.drop ((ji10) : Int).toNat)).bind fun t371 => (if t364.length + t371.length < 2932031007402 then (some ((t364 ++ t371), true)) else (none))) else (none)) else (none)) = some (r1, r2) := by first | (rw [hji10] at H; exact H) | (simp only [hji10] at H ⊢; exact H)
   (try rw [hji10] at A9)
   have hji10w : (IntKind.i64.wrap (x10_1 + 1)) = ji10 := (i64_w _).trans hji10
   by_cases c11 : 0 ≤ (ji10)
   rotate_left
   · exact absurd H (by rw [if_neg c11]; simp)
   rw [if_pos c11] at H
   have c11b0 := eq_true c11
   have c11b1 : decide (0 ≤ (ji10)) = true := decide_eq_true c11
   clear c11
   by_cases c12 : (ji10) ≤ (l0.length : Int)
   rotate_left
   · exact absurd H (by rw [if_neg c12]; simp)
   rw [if_pos c12] at H
   have c12b0 := eq_true c12
   have c12b1 : decide ((ji10) ≤ (l0.length : Int)) = true := decide_eq_true c12
   clear c12
   obtain ⟨y367, hy367⟩ : ∃ y_ : List (S28), y_ = (l0.drop ((ji10) : Int).toNat) := ⟨_, rfl⟩
   replace H : ((impl_copyLocks.f k1 y367).bind fun t371 => (if t364.length + t371.length < 2932031007402 then (some ((t364 ++ t371), true)) else (none))) = some (r1, r2) := hy_ hy367 H
   have Ny367 := Aside0.mk hy367
   clear hy367
   obtain ⟨t371, A13, H⟩ := bo_ H
   (try dsimp only at H)
   by_cases c14 : t364.length + t371.length < 2932031007402
   rotate_left
   · exact absurd H (by rw [if_neg c14]; simp)
   rw [if_pos c14] at H
   have LMc14 := Aside0.mk c14
   clear c14
   obtain ⟨y374, hy374⟩ : ∃ y_ : List (S28), y_ = (t364 ++ t371) := ⟨_, rfl⟩
   replace H : (some (y374, true)) = some (r1, r2) := hy_ hy374 H
   have Ny374 := Aside0.mk hy374
   clear hy374
   simp only [Option.some.injEq, Prod.mk.injEq] at H
   obtain ⟨rfl, rfl⟩ := H
   have p358 : 0 ≤ (x10_1 : Int) := of_decide_eq_true as_
   have q358 : x10_1 < (l0.length : Int) := of_decide_eq_true as_
   obtain ⟨ad358, A358_1, c358_1, e358, hx358_0, hx358_1, hx358_2, hx358_3, hx358_4, hl358_1, hi358_1⟩ := at_T28 HR0.out x10_1 p358 q358
   cases e358
   replace hx358_0 := bc_ HB.out hx358_0
   replace hx358_1 := bc_ HB.out hx358_1
   replace hx358_2 := bc_ HB.out hx358_2
   replace hx358_3 := bc_ HB.out hx358_3
   replace hx358_4 := bc_ HB.out hx358_4
   have HR358_1 := Aside0.mk hi358_1
   have HC358_1 := Aside0.mk hl358_1
   clear hi358_1 hl358_1
   replace p358 := eq_true p358
   replace q358 := eq_true q358
   try go_wp2_with (first | ((with_reducible refine gate_dst (N := 7) rfl ?_); refine bx_ (N := 7) (cs := #[.int .i64 0, .slice none 0 0, .bool false, .bool false, .int .i64 0]) (t := 28) ?_; intro gb359 hg w15 hbox hb; have BK359 := A_ (hbox); have GW359 := A_ (ge_ hg bB_ : w.heap.size ≤ gb359); have GE359 := A_ (ge_ hg bB_ : w.heap.size ≤ gb359); replace HB := A_ (below_step bB_ hb); clear hb hbox hg; obtain ⟨hcz16_0, hcz16_1, hcz16_2, hcz16_3, hcz16_4, hfz16_0, hfz16_1, hfz16_2, hfz16_3, hfz16_4⟩ := cz5_ BK359.out))
   have n0_ : Aside0 ((((((w15.setCell ⟨gb359, 0, none⟩ (.int .i64 ((rd_T28 l0 x10_1).f0))).setCell ⟨gb359, 1, none⟩ (.slice A358_1 ((rd_T28 l0 x10_1).f1).length c358_1)).setCell ⟨gb359, 2, none⟩ (.bool ((rd_T28 l0 x10_1).f2))).setCell ⟨gb359, 3, none⟩ (.bool ((rd_T28 l0 x10_1).f3))).setCell ⟨gb359, 4, none⟩ (.int .i64 ((rd_T28 l0 x10_1).f4))).heap[gb359]? = some (.cells #[.int .i64 ((rd_T28 l0 x10_1).f0), .slice A358_1 ((rd_T28 l0 x10_1).f1).length c358_1, .bool ((rd_T28 l0 x10_1).f2), .bool ((rd_T28 l0 x10_1).f3), .int .i64 ((rd_T28 l0 x10_1).f4)] 28 (0, 0))) := ⟨by (with_reducible repeat (first | refine blk_drewN ?_ _ | refine blk_drew ?_ | refine blk_alloc ?_ _)); refine blk_put (cs := #[.int .i64 ((rd_T28 l0 x10_1).f0), .slice A358_1 ((rd_T28 l0 x10_1).f1).length c358_1, .bool ((rd_T28 l0 x10_1).f2), .bool ((rd_T28 l0 x10_1).f3), .int .i64 0]) ?_ 4 _ rfl; (with_reducible repeat (first | refine blk_drewN ?_ _ | refine blk_drew ?_ | refine blk_alloc ?_ _)); refine blk_put (cs := #[.int .i64 ((rd_T28 l0 x10_1).f0), .slice A358_1 ((rd_T28 l0 x10_1).f1).length c358_1, .bool ((rd_T28 l0 x10_1).f2), .bool false, .int .i64 0]) ?_ 3 _ rfl; (with_reducible repeat (first | refine blk_drewN ?_ _ | refine blk_drew ?_ | refine blk_alloc ?_ _)); refine blk_put (cs := #[.int .i64 ((rd_T28 l0 x10_1).f0), .slice A358_1 ((rd_T28 l0 x10_1).f1).length c358_1, .bool false, .bool false, .int .i64 0]) ?_ 2 _ rfl; (with_reducible repeat (first | refine blk_drewN ?_ _ | refine blk_drew ?_ | refine blk_alloc ?_ _)); refine blk_put (cs := #[.int .i64 ((rd_T28 l0 x10_1).f0), .slice none 0 0, .bool false, .bool false, .int .i64 0]) ?_ 1 _ rfl; (with_reducible repeat (first | refine blk_drewN ?_ _ | refine blk_drew ?_ | refine blk_alloc ?_ _)); refine blk_put (cs := #[.int .i64 0, .slice none 0 0, .bool false, .bool false, .int .i64 0]) ?_ 0 _ rfl; (with_reducible repeat (first | refine blk_drewN ?_ _ | refine blk_drew ?_ | refine blk_alloc ?_ _)); exact BK359.out⟩
   have n1_ : Aside0 (Below w.heap.size w (((((w15.setCell ⟨gb359, 0, none⟩ (.int .i64 ((rd_T28 l0 x10_1).f0))).setCell ⟨gb359, 1, none⟩ (.slice A358_1 ((rd_T28 l0 x10_1).f1).length c358_1)).setCell ⟨gb359, 2, none⟩ (.bool ((rd_T28 l0 x10_1).f2))).setCell ⟨gb359, 3, none⟩ (.bool ((rd_T28 l0 x10_1).f3))).setCell ⟨gb359, 4, none⟩ (.int .i64 ((rd_T28 l0 x10_1).f4)))) := ⟨bG_ GE359.out⟩
   (try clear BK359)
   (try clear HB)
   generalize (((((w15.setCell ⟨gb359, 0, none⟩ (.int .i64 ((rd_T28 l0 x10_1).f0))).setCell ⟨gb359, 1, none⟩ (.slice A358_1 ((rd_T28 l0 x10_1).f1).length c358_1)).setCell ⟨gb359, 2, none⟩ (.bool ((rd_T28 l0 x10_1).f2))).setCell ⟨gb359, 3, none⟩ (.bool ((rd_T28 l0 x10_1).f3))).setCell ⟨gb359, 4, none⟩ (.int .i64 ((rd_T28 l0 x10_1).f4))) = w17 at n0_ n1_ ⊢
   have BK359 := n0_
   have HB := n1_
   clear n0_ n1_
   replace BK359 := A_ (blk_drew BK359.out)
   replace HB := A_ (below_drew1 HB.out)
   have q19 : (x10_1 : Int) ≤ ((l0.length : Int) : Int) := of_decide_eq_true as_
   obtain ⟨i019, hi019, _, hsz19, _⟩ := info_parts info28
   have hroom19 : l0.length ≤ c0 := HC0.out
   have hC19 : Kd.C k28 _ (some ad358) l0.length l0 := HR0.out
   have hcut19 := cut_to (P := Try.prog) 39 28 .i64 Try.underlying39 hi019 (some ad358) l0.length c0 x10_1 (of_decide_eq_true as_) q19 hroom19
   have hr19 := Kd.C_take (m := (x10_1 : Int).toNat) hC19 (by omega)
   have hy19 : y360.length = (x10_1 : Int).toNat := (by rw [Ny360.out, List.length_take]; omega)
   rw [← Ny360.out] at hr19
   rw [← hy19] at hcut19
   have HR363 := Aside0.mk hr19
   have HC363 := A_ (show y360.length ≤ c0 from by omega)
   clear hr19 hC19 hroom19 hi019 hsz19
   have KY19 := Aside0.mk hy19
   clear hy19
   replace q19 := eq_true q19
   have q20 : ((ji10) : Int) ≤ ((l0.length : Int) : Int) := of_decide_eq_true as_
   obtain ⟨i020, hi020, _, hsz20, _⟩ := info_parts info28
   have hroom20 : l0.length ≤ c0 := HC0.out
   have hC20 : Kd.C k28 _ (some ad358) l0.length l0 := HR0.out
   have q020 : (0 : Int) ≤ ((ji10) : Int) := of_decide_eq_true as_
   have hcut20 := cut_from (P := Try.prog) 39 28 .i64 Try.underlying39 hi020 5 hsz20 (some ad358) l0.length c0 (ji10) q020 q20
   have hr20 := Kd.C_drop (m := ((ji10) : Int).toNat) (c := c0) hC20 (by omega) hroom20
   obtain ⟨A20, hA20⟩ : ∃ A1, A1 = (if c0 = ((ji10) : Int).toNat then (some ad358) else ((some ad358) : Option Addr).map (·.add (((ji10) : Int).toNat * 5))) := ⟨_, rfl⟩
   obtain ⟨c20, hc20⟩ : ∃ c1, c1 = c0 - ((ji10) : Int).toNat := ⟨_, rfl⟩
   have hy20 : y367.length = l0.length - ((ji10) : Int).toNat := (by rw [Ny367.out, List.length_drop] <;> omega)
   rw [show (l0).drop ((ji10) : Int).toNat = y367 from Ny367.out.symm] at hr20
   replace hr20 : Kd.C k28 _ A20 y367.length y367 := (by rw [hA20]; exact hr20)
   rw [← hy20, ← hA20, ← hc20] at hcut20
   have HR370 := Aside0.mk hr20
   have HC370 := A_ (show y367.length ≤ c20 from by rw [hy20, hc20]; exact Nat.sub_le_sub_right hroom20 _)
   clear hr20 hC20 hroom20 hi020 hsz20 hc20
   have KY20 := Aside0.mk hy20
   have KA20 := Aside0.mk hA20
   clear hy20 hA20
   replace q20 := eq_true q20
   refine start_ (n := 12) (S := fun w' => True) (ds := []) #[false, false, false, false, false, false, false, false, false, false, false, false] (by kernel_rfl) rfl rfl trivial (fun hHeld => ?_); refine with_tabW impl_DropLock.tab5 impl_DropLock.bits5 (fun HT_ HW_ => ?_)
   generalize w17.drew = w18 at BK359 HB HR363 HR370 hHeld ⊢
   refine pu_ (i := 0) (N := some 19) ?_
   refine pu_ (i := 1) (N := some 20) ?_
   refine pu_ (i := 2) (N := some 21) ?_
   refine pu_ (i := 4) (N := some 23) ?_
   refine pu_ (i := 5) (N := some 24) ?_
   refine pu_ (i := 6) (N := some 25) ?_
   refine pu_ (i := 7) (N := some 26) ?_
   refine on_ (i := 3) (N := some 22) (fun K hK => ?_)
   refine goes_ Try.func69 (by kernel_rfl) rfl #[.slice (some ad358) y360.length c0] (by rfl) rfl rfl ml_ ?_
   with_reducible refine (impl_copyLocks.calls k1 _ _ y360 t364 _ ?s1 ?s2 A9.out).mono ?_
   (case s1 => exact cC_ (Kd.C_below HR363.out HB.out))
   (case s2 => exact HC363.out)
   rintro e w21 ⟨v365, rfl, ho0, hb⟩
   refine ⟨_, rfl, ?_⟩
   have HS1 := A_ (Kd.S_mono (ok' := fun k_ => k_ < w21.heap.size) (Kd.S_lower (Kd.S_bound ho0) (below_size bB_)) (fun _ hk => hk.2.2.1))
   have HO366 := A_ (Kd.N_lower (Kd.N_mono (ok' := fun k_ => (w.heap.size ≤ k_) ∧ k_ ≠ gb359) (Kd.S_N (Kd.S_bound ho0)) (fun k_ hk_ => ⟨(Nat.le_trans (below_size (bG_ GE359.out)) hk_.2.1), (Kd.freshB (g := gb359) (o := .cells #[.int .i64 ((rd_T28 l0 x10_1).f0), .slice A358_1 ((rd_T28 l0 x10_1).f1).length c358_1, .bool ((rd_T28 l0 x10_1).f2), .bool ((rd_T28 l0 x10_1).f3), .int .i64 ((rd_T28 l0 x10_1).f4)] 28 (0, 0)) (vb_ BK359.out) k_ hk_.2.1)⟩)) (below_size (bG_ GE359.out)))
   replace BK359 := A_ (bw_ BK359.out hb)
   replace HB := A_ (below_step (bG_ GE359.out) hb)
   (try clear hb)
   (try clear hb2)
   (try clear hk)
   (try clear hi)
   (try clear ho0)
   refine hK.out _ _ trivial (fun hHeld => ?_)
   clear hK K
   refine no_ (some 22) ?_
   refine on_ (i := 8) (N := some 27) (fun K hK => ?_)
   refine goes_ Try.func69 (by kernel_rfl) rfl #[.slice A20 y367.length c20] (by rfl) rfl rfl ml_ ?_
   with_reducible refine (impl_copyLocks.calls k1 _ _ y367 t371 _ ?s1 ?s2 A13.out).mono ?_
   (case s1 => exact cC_ (Kd.C_below HR370.out HB.out))
   (case s2 => exact HC370.out)
   rintro e w22 ⟨v372, rfl, ho0, hb⟩
   refine ⟨_, rfl, ?_⟩
   have HS2 := A_ (Kd.S_mono (ok' := fun k_ => w21.heap.size ≤ k_) (Kd.S_lower (Kd.S_bound ho0) (below_size bB_)) (fun _ hk => hk.2.1))
   have HS3 := A_ (Kd.S_below HS1.out hb)
   have HL1 := A_ (Kd.S_lt HS1.out)
   have HO373 := A_ (Kd.N_lower (Kd.N_mono (ok' := fun k_ => (w.heap.size ≤ k_) ∧ some k_ ≠ (v365 : Value).ownBlock ∧ k_ ≠ gb359) (Kd.S_N (Kd.S_bound ho0)) (fun k_ hk_ => ⟨(Nat.le_trans (below_size (bG_ GE359.out)) hk_.2.1), (Kd.fresh' (Kd.N_lt (vN_ HO366.out)) k_ hk_.2.1), (Kd.freshB (g := gb359) (o := .cells #[.int .i64 ((rd_T28 l0 x10_1).f0), .slice A358_1 ((rd_T28 l0 x10_1).f1).length c358_1, .bool ((rd_T28 l0 x10_1).f2), .bool ((rd_T28 l0 x10_1).f3), .int .i64 ((rd_T28 l0 x10_1).f4)] 28 (0, 0)) (vb_ BK359.out) k_ hk_.2.1)⟩)) (below_size (bG_ GE359.out)))
   replace HO366 := A_ (Kd.N_elder' (vN_ HO366.out) (kb_ ho0) hb)
   replace BK359 := A_ (bw_ BK359.out hb)
   replace HB := A_ (below_step (bG_ GE359.out) hb)
   (try clear hb)
   (try clear hb2)
   (try clear hk)
   (try clear hi)
   (try clear ho0)
   obtain ⟨Ao24, co24, eo24⟩ := Kd.N_slice HO373.out
   (first | subst eo24 | (injection eo24 with f1_ f2_ f3_; have f4_ := f1_.symm; have f5_ := f3_.symm; clear f1_ f2_ f3_; subst f4_; subst f5_))
   refine hK.out _ _ trivial (fun hHeld => ?_)
   clear hK K
   refine no_ (some 27) ?_
   refine on_ (i := 9) (N := some 28) (fun K hK => ?_)
   refine SR.S_append_S_step k28 (w0 := w) w.heap.size (by rfl) (.tmp 22) (.tmp 27) 39 28 28 (.agg #[(.int .i64 0), (.slice none 0 0), (.bool false), (.bool false), (.int .i64 0)]) 48 rfl Try.underlying39 info28 rfl (by decide) (by omega) v365 t364 t371 _ _ _ (fun _ => True) (fun k_ => w21.heap.size ≤ k_) rfl rfl ?aO ?aX ?aP ?aF ?aB ?aS ?aL ?_
   (case aX => exact HS2.out)
   (case aP => exact fun k_ hk => ⟨trivial, fun h_ => absurd (HL1.out k_ h_.symm) (Nat.not_lt.2 hk)⟩)
   (case aB => exact (bG_ GE359.out))
   (case aF => exact fun _ _ => trivial)
   (case aO => exact Kd.S_mono HS3.out (fun k_ hk => ⟨trivial, Nat.not_le.2 hk⟩))
   (case aS => exact (below_size (bG_ GE359.out)))
   (case aL => have := LMc14.out; omega)
   intro v375 w23 ho hb hg hat
   rw [← Ny374.out] at ho
   have n0_ := A_ (blk_grown (g := gb359) (o := .cells #[.int .i64 ((rd_T28 l0 x10_1).f0), .slice A358_1 ((rd_T28 l0 x10_1).f1).length c358_1, .bool ((rd_T28 l0 x10_1).f2), .bool ((rd_T28 l0 x10_1).f3), .int .i64 ((rd_T28 l0 x10_1).f4)] 28 (0, 0)) (vb_ BK359.out) hg (Kd.N_away HO366.out (fun _ hk => hk.1.2)))
   have n2_ := A_ (hb)
   have n3_ := A_ (ho)
   clear BK359
   clear HO373
   clear HB
   clear HO366
   have BK359 := n0_
   have HB := n2_
   have HO376 := n3_
   clear n0_ n2_ n3_
   clear ho hb hg hat
   refine hK.out _ _ trivial (fun hHeld => ?_)
   clear hK K
   refine no_ (some 28) ?_
   refine pu_ (i := 10) (N := some 4) ?_
   refine pu_ (i := 11) (N := some 5) ?_
   refine done_ (done_of HT_.out (by kernel_rfl)) ?_
   (try clear hHeld)
   try go_wp2
   go_ret2
   exact ⟨_, by first | rfl | (simp [errW_none, errW_some] <;> rfl) | (simp only [← hji10]; first | rfl | (simp [errW_none, errW_some] <;> rfl)) | (simp [*, errW_none, errW_some] <;> rfl), by (with_reducible repeat (first | apply Kd.S_alloc | apply Kd.S_drewN | apply Kd.S_drew)); exact HO376.out, bG_ GE359.out⟩
end Go.Proofs.Ytiddgglidkbipaa.Q

/- The laws' own functions over a mirrored struct (Lock): size, copy, equality. No condition. -/
set_option linter.unusedSimpArgs false
set_option linter.unusedVariables false
namespace Go.Proofs.Ytiddgglidkbipaa.L
open Go.RowKit Go.Proofs.YtiddgglidkbipaaW.PrintWords Go.Proofs.YtiddgglidkbipaaW.PrintLast Go.Proofs.Ytiddgglidkbipaa.Q
instance : DecidableEq S28 := fun a b => if h : a.f0 = b.f0 ∧ a.f1 = b.f1 ∧ a.f2 = b.f2 ∧ a.f3 = b.f3 ∧ a.f4 = b.f4 then .isTrue (by cases a; cases b; simp_all) else .isFalse (fun e => h (by rw [e]; exact ⟨rfl, rfl, rfl, rfl, rfl⟩))
theorem rd_implLock {l pre suf : List S28} {a : S28} (h : l = pre ++ a :: suf) : rd_T28 l (pre.length : Int) = a := getD_at _ h
def SmLock (p : S28) : Prop := IntOk p.f0 ∧ SmS p.f1 ∧ True ∧ True ∧ IntOk p.f4
def SmLocks (l : List S28) : Prop := l.length ≤ 1048576 ∧ ∀ p ∈ l, SmLock p
end Go.Proofs.Ytiddgglidkbipaa.L

/- Paths: are they the same, is one under the other; as the program and the reference have it. No condition. -/
set_option linter.unusedSimpArgs false
set_option linter.unusedVariables false
namespace Go.Proofs.Ytiddgglidkbipaa.L
open Go.RowKit Go.Proofs.YtiddgglidkbipaaW.PrintWords Go.Proofs.YtiddgglidkbipaaW.PrintLast Go.Proofs.Ytiddgglidkbipaa.Q
theorem specSame {a b : List ByteArray} (hl : a.length ≤ maxLen) : Ev (fun k => spec_SamePath.f k a b) (decide (a = b)) := by
  unfold spec_SamePath.f
  by_cases e : (a.length : Int) = (b.length : Int)
  · simp only [if_pos e]
    refine eq_loop (a := a) (b := b) (fun k i => spec_SamePath.l0 k a b i) ?_ ?_ a b [] [] rfl rfl rfl (by omega)
    · refine Ev.step (fun k => spec_SamePath.l0.eq_2 ..) ?_
      simp only [Int.lt_irrefl, if_false]
      exact Ev.now _
    · intro pre x su pre' y sv h h' hp
      have h3 := rd_at ByteArray.empty h'
      have h4 := lt_at h'
      rw [← hp] at h3 h4
      refine ⟨fun hne => ?_, fun heq r hr => ?_⟩
      · refine Ev.step (fun k => spec_SamePath.l0.eq_2 ..) ?_
        simp only [if_pos (lt_at h), if_pos (nonneg_at _), if_pos h4, rd_at _ h, h3, ba_eq, hne, if_false]
        exact Ev.now _
      · refine Ev.step (fun k => spec_SamePath.l0.eq_2 ..) ?_
        simp only [if_pos (lt_at h), if_pos (nonneg_at _), if_pos h4, rd_at _ h, h3, heq, if_true, next_at h hl]
        rw [heq] at hr
        exact hr
  · simp only [if_neg e]
    rw [show decide (a = b) = false from decide_eq_false (fun h => e (by rw [h]))]
    exact Ev.now _
theorem implSame {a b : List ByteArray} (hl : a.length ≤ maxLen) : Ev (fun k => impl_SamePath.f k a b) (decide (a = b)) := by
  unfold impl_SamePath.f
  by_cases e : (a.length : Int) = (b.length : Int)
  · simp only [if_pos e]
    refine eq_loop (a := a) (b := b) (fun k i => impl_SamePath.l0 k a b (a.length : Int) i) ?_ ?_ a b [] [] rfl rfl rfl (by omega)
    · refine Ev.step (fun k => impl_SamePath.l0.eq_2 ..) ?_
      simp only [Int.lt_irrefl, if_false]
      exact Ev.now _
    · intro pre x su pre' y sv h h' hp
      have h3 := rd_at ByteArray.empty h'
      have h4 := lt_at h'
      rw [← hp] at h3 h4
      refine ⟨fun hne => ?_, fun heq r hr => ?_⟩
      · refine Ev.step (fun k => impl_SamePath.l0.eq_2 ..) ?_
        simp only [if_pos (lt_at h), if_pos (nonneg_at _), if_pos h4, rd_at _ h, h3, ba_eq, hne, if_false]
        exact Ev.now _
      · refine Ev.step (fun k => impl_SamePath.l0.eq_2 ..) ?_
        simp only [if_pos (lt_at h), if_pos (nonneg_at _), if_pos h4, rd_at _ h, h3, heq, if_true, next_at h hl]
        rw [heq] at hr
        exact hr
  · simp only [if_neg e]
    rw [show decide (a = b) = false from decide_eq_false (fun h => e (by rw [h]))]
    exact Ev.now _
end Go.Proofs.Ytiddgglidkbipaa.L

/- Is a path under another one; as the program and the reference have it. No condition. -/
set_option linter.unusedSimpArgs false
set_option linter.unusedVariables false
namespace Go.Proofs.Ytiddgglidkbipaa.L
open Go.RowKit Go.Proofs.YtiddgglidkbipaaW.PrintWords Go.Proofs.YtiddgglidkbipaaW.PrintLast Go.Proofs.Ytiddgglidkbipaa.Q
def under (p head : List ByteArray) : Bool := decide (head.length < p.length) && decide (p.take head.length = head)
theorem specUnder {p head : List ByteArray} (hl : p.length ≤ 1048576) : Ev (fun k => spec_Under.f k p head) (under p head) := by
  unfold spec_Under.f under
  by_cases e : (p.length : Int) > (head.length : Int)
  · simp only [if_pos e, if_pos (nonneg_at _), if_pos (show (head.length : Int) ≤ p.length by omega), Int.toNat_natCast, show head.length < p.length by omega, decide_true, Bool.true_and]
    exact Ev.bind (specSame (by rw [maxLen_eq]; simp; omega)) (Ev.now _)
  · simp only [if_neg e, show ¬ head.length < p.length by omega, decide_false, Bool.false_and]
    exact Ev.now _
theorem implUnder {p head : List ByteArray} (hl : p.length ≤ 1048576) : Ev (fun k => impl_Under.f k p head) (under p head) := by
  unfold impl_Under.f under
  by_cases e : (p.length : Int) > (head.length : Int)
  · simp only [if_pos e, if_pos (nonneg_at _), if_pos (show (head.length : Int) ≤ p.length by omega), Int.toNat_natCast, show head.length < p.length by omega, decide_true, Bool.true_and]
    exact Ev.bind (implSame (by rw [maxLen_eq]; simp; omega)) (Ev.now _)
  · simp only [if_neg e, show ¬ head.length < p.length by omega, decide_false, Bool.false_and]
    exact Ev.now _
end Go.Proofs.Ytiddgglidkbipaa.L

/- What a lock covers, whether two clash; as the program and the reference have it. No condition. -/
set_option linter.unusedSimpArgs false
set_option linter.unusedVariables false
namespace Go.Proofs.Ytiddgglidkbipaa.L
open Go.RowKit Go.Proofs.YtiddgglidkbipaaW.PrintWords Go.Proofs.YtiddgglidkbipaaW.PrintLast Go.Proofs.Ytiddgglidkbipaa.Q
def covers (x : S28) (p : List ByteArray) : Bool := decide (x.f1 = p) || (x.f2 && under p x.f1)
theorem specCovers {x : S28} {p : List ByteArray} (hx : SmLock x) (hp : p.length ≤ 1048576) : Ev (fun k => spec_Covers.f k x.f0 x.f1 x.f2 x.f3 x.f4 p) (covers x p) := by
  unfold spec_Covers.f covers
  refine Ev.bind (specSame (by have := hx.2.1.1; rw [maxLen_eq]; omega)) ?_
  by_cases e : x.f1 = p
  · simp only [e, decide_true, if_true, Bool.true_or]; exact Ev.now _
  · simp only [e, decide_false, Bool.false_eq_true, if_false, Bool.false_or]
    by_cases d : x.f2 = true
    · simp only [d, if_true, Bool.true_and]; exact Ev.bind (specUnder hp) (Ev.now _)
    · simp only [d, Bool.false_eq_true, if_false, Bool.false_and]; exact Ev.now _
theorem implCovers {x : S28} {p : List ByteArray} (hx : SmLock x) (hp : p.length ≤ 1048576) : Ev (fun k => impl_Covers.f k x.f0 x.f1 x.f2 x.f3 x.f4 p) (covers x p) := by
  unfold impl_Covers.f covers
  refine Ev.bind (implSame (by have := hx.2.1.1; rw [maxLen_eq]; omega)) ?_
  by_cases e : x.f1 = p
  · simp only [e, decide_true, if_true, Bool.true_or]; exact Ev.now _
  · simp only [e, decide_false, Bool.false_eq_true, if_false, Bool.false_or]
    by_cases d : x.f2 = true
    · simp only [d, if_true, Bool.true_and]; exact Ev.bind (implUnder hp) (Ev.now _)
    · simp only [d, Bool.false_eq_true, if_false, Bool.false_and]; exact Ev.now _
def clash (a b : S28) : Bool := !(a.f3 && b.f3) && (covers a b.f1 || covers b a.f1)
theorem clash_comm (a b : S28) : clash a b = clash b a := by
  unfold clash
  rw [Bool.and_comm a.f3 b.f3, Bool.or_comm]
theorem specClash {a b : S28} (ha : SmLock a) (hb : SmLock b) : Ev (fun k => spec_LockClash.f k a.f0 a.f1 a.f2 a.f3 a.f4 b.f0 b.f1 b.f2 b.f3 b.f4) (clash a b) := by
  have fin : Ev (fun k => (spec_Covers.f k a.f0 a.f1 a.f2 a.f3 a.f4 b.f1).bind fun t174 => if t174 = true then some true else (spec_Covers.f k b.f0 b.f1 b.f2 b.f3 b.f4 a.f1).bind fun t175 => some t175) (covers a b.f1 || covers b a.f1) := by
    refine Ev.bind (specCovers ha hb.2.1.1) ?_
    by_cases e : covers a b.f1 = true
    · simp only [e, if_true, Bool.true_or]; exact Ev.now _
    · simp only [e, Bool.false_eq_true, if_false, Bool.false_or]; exact Ev.bind (specCovers hb ha.2.1.1) (Ev.now _)
  unfold spec_LockClash.f clash
  by_cases ea : a.f3 = true <;> by_cases eb : b.f3 = true
  · simp only [ea, eb, if_true, Bool.and_self, Bool.not_true, Bool.false_and]; exact Ev.now _
  · simp only [ea, eb, Bool.false_eq_true, if_true, if_false, Bool.and_false, Bool.not_false, Bool.true_and] at fin ⊢; exact fin
  · simp only [ea, eb, Bool.false_eq_true, if_false, Bool.false_and, Bool.not_false, Bool.true_and] at fin ⊢; exact fin
  · simp only [ea, eb, Bool.false_eq_true, if_false, Bool.false_and, Bool.not_false, Bool.true_and] at fin ⊢; exact fin
theorem implClash {a b : S28} (ha : SmLock a) (hb : SmLock b) : Ev (fun k => impl_LockClash.f k a.f0 a.f1 a.f2 a.f3 a.f4 b.f0 b.f1 b.f2 b.f3 b.f4) (clash a b) := by
  have fin : Ev (fun k => (impl_Covers.f k a.f0 a.f1 a.f2 a.f3 a.f4 b.f1).bind fun t174 => if t174 = true then some true else (impl_Covers.f k b.f0 b.f1 b.f2 b.f3 b.f4 a.f1).bind fun t175 => some t175) (covers a b.f1 || covers b a.f1) := by
    refine Ev.bind (implCovers ha hb.2.1.1) ?_
    by_cases e : covers a b.f1 = true
    · simp only [e, if_true, Bool.true_or]; exact Ev.now _
    · simp only [e, Bool.false_eq_true, if_false, Bool.false_or]; exact Ev.bind (implCovers hb ha.2.1.1) (Ev.now _)
  unfold impl_LockClash.f clash
  by_cases ea : a.f3 = true <;> by_cases eb : b.f3 = true
  · simp only [ea, eb, if_true, Bool.and_self, Bool.not_true, Bool.false_and]; exact Ev.now _
  · simp only [ea, eb, Bool.false_eq_true, if_true, if_false, Bool.and_false, Bool.not_false, Bool.true_and] at fin ⊢; exact fin
  · simp only [ea, eb, Bool.false_eq_true, if_false, Bool.false_and, Bool.not_false, Bool.true_and] at fin ⊢; exact fin
  · simp only [ea, eb, Bool.false_eq_true, if_false, Bool.false_and, Bool.not_false, Bool.true_and] at fin ⊢; exact fin
end Go.Proofs.Ytiddgglidkbipaa.L

/- Texts byte by byte: plain texts, small names, as the program and the reference have them. No condition. -/
set_option linter.unusedSimpArgs false
set_option linter.unusedVariables false
namespace Go.Proofs.Ytiddgglidkbipaa.L
open Go.RowKit Go.Proofs.YtiddgglidkbipaaW.PrintWords Go.Proofs.YtiddgglidkbipaaW.PrintLast Go.Proofs.Ytiddgglidkbipaa.Q
abbrev bl (s : ByteArray) : List UInt8 := s.data.toList
theorem bl_len (s : ByteArray) : (bl s).length = s.size := data_length s
section
variable {s : ByteArray} {pre suf : List UInt8} {c : UInt8}
theorem blt_at (h : bl s = pre ++ c :: suf) : ((pre.length : Nat) : Int) < (s.size : Int) := by
  have := bl_len s
  rw [h] at this
  simp at this
  omega
theorem bend_at (h : bl s = pre ++ []) : ¬ ((pre.length : Nat) : Int) < (s.size : Int) := by
  have := bl_len s
  rw [h] at this
  simp at this
  omega
theorem bt_at' (h : bl s = pre ++ c :: suf) : bt s (pre.length : Int) = (c.toNat : Int) := by
  have hlt := blt_at h
  have h2 : pre.length < s.size := by omega
  rw [← bt_at s (pre.length : Int) (by simpa using h2)]
  have h3 : pre.length < (bl s).length := by rw [bl_len]; exact h2
  have h4 : (bl s)[pre.length] = c := by simp [h]
  have h5 : s[pre.length]'h2 = (bl s)[pre.length] := by
    show s.data[pre.length] = _
    simp
  simp only [Int.toNat_natCast, h5, h4]
theorem bnext_at (h : bl s = pre ++ c :: suf) (hs : s.size ≤ maxLen) : wrap64 ((pre.length : Int) + 1) = ((pre ++ [c]).length : Int) := by
  have := blt_at h
  rw [maxLen_eq] at hs
  rw [wrap_id (by omega) (by omega)]
  simp
end
theorem byte_bounds (c : UInt8) : 0 ≤ (c.toNat : Int) ∧ (c.toNat : Int) ≤ 255 := ⟨by omega, by have := c.toNat_lt; omega⟩
theorem wrap_byte (c : UInt8) : wrap64 (c.toNat : Int) = (c.toNat : Int) := wrap_id (by omega) (by have := byte_bounds c; omega)
def inB (lo hi : Int) (c : UInt8) : Bool := decide (lo ≤ (c.toNat : Int) ∧ (c.toNat : Int) ≤ hi)
theorem specIn (a b c : Int) : spec_l1In.f a b c = some (decide (b ≤ a ∧ a ≤ c)) := by
  unfold spec_l1In.f
  by_cases h : a ≥ b
  · rw [if_pos h]; simp [show b ≤ a from h]
  · rw [if_neg h]; simp [show ¬ b ≤ a from h]
theorem implIn (a b c : Int) : impl_in.f a b c = some (decide (b ≤ a ∧ a ≤ c)) := by
  unfold impl_in.f
  by_cases h : a ≥ b
  · rw [if_pos h]; simp [show b ≤ a from h]
  · rw [if_neg h]; simp [show ¬ b ≤ a from h]
theorem implIsPlain (c : UInt8) : impl_isPlain.f (c.toNat : Int) = some (inB 32 126 c) := by
  unfold impl_isPlain.f inB
  by_cases h : (c.toNat : Int) ≥ 32
  · rw [if_pos h]; simp only [show (32 : Int) ≤ c.toNat from h, true_and]
  · rw [if_neg h]; simp only [show ¬ (32 : Int) ≤ c.toNat from h, false_and, decide_false]
def plainL (l : List UInt8) : Bool := l.all (inB 32 126)
theorem specPlain_loop {s : ByteArray} (hs : s.size ≤ maxLen) : ∀ (suf pre : List UInt8), bl s = pre ++ suf → Ev (fun k => spec_Plain.l0 k s pre.length) (plainL suf) := by
  intro suf
  induction suf with
  | nil =>
    intro pre h
    refine Ev.step (fun k => spec_Plain.l0.eq_2 ..) ?_
    simp only [if_neg (bend_at h)]
    exact Ev.now _
  | cons c suf ih =>
    intro pre h
    refine Ev.step (fun k => spec_Plain.l0.eq_2 ..) ?_
    simp only [if_pos (blt_at h), if_pos (nonneg_at _), bt_at' h, wrap_byte, specIn, Option.bind_some, bnext_at h hs]
    have := ih (pre ++ [c]) (snoc_at h)
    simp only [plainL, List.all_cons, inB] at this ⊢
    by_cases e : (32 : Int) ≤ c.toNat ∧ (c.toNat : Int) ≤ 126
    · simp only [e, and_self, decide_true, if_true, Bool.true_and]
      exact this
    · simp only [e, decide_false, Bool.false_eq_true, if_false, Bool.false_and]
      exact Ev.now _
theorem specPlain {s : ByteArray} (hs : s.size ≤ maxLen) : Ev (fun k => spec_Plain.f k s) (plainL (bl s)) := specPlain_loop hs _ [] rfl
theorem implPlain_loop {s : ByteArray} (hs : s.size ≤ maxLen) : ∀ (suf pre : List UInt8), bl s = pre ++ suf → Ev (fun k => impl_Plain.l0 k s pre.length) (plainL suf) := by
  intro suf
  induction suf with
  | nil =>
    intro pre h
    refine Ev.step (fun k => impl_Plain.l0.eq_2 ..) ?_
    simp only [if_neg (bend_at h)]
    exact Ev.now _
  | cons c suf ih =>
    intro pre h
    refine Ev.step (fun k => impl_Plain.l0.eq_2 ..) ?_
    simp only [if_pos (blt_at h), if_pos (nonneg_at _), bt_at' h, implIsPlain, Option.bind_some, bnext_at h hs]
    have := ih (pre ++ [c]) (snoc_at h)
    simp only [plainL, List.all_cons] at this ⊢
    by_cases e : inB 32 126 c = true
    · simp only [e, if_true, Bool.true_and]
      exact this
    · simp only [e, if_false, Bool.false_and]
      exact Ev.now _
theorem implPlain {s : ByteArray} (hs : s.size ≤ maxLen) : Ev (fun k => impl_Plain.f k s) (plainL (bl s)) := implPlain_loop hs _ [] rfl
end Go.Proofs.Ytiddgglidkbipaa.L

/- Names and paths: are they right; as the program and the reference have it. No condition. -/
set_option linter.unusedSimpArgs false
set_option linter.unusedVariables false
namespace Go.Proofs.Ytiddgglidkbipaa.L
open Go.RowKit Go.Proofs.YtiddgglidkbipaaW.PrintWords Go.Proofs.YtiddgglidkbipaaW.PrintLast Go.Proofs.Ytiddgglidkbipaa.Q
theorem indexByte_mem (l : List UInt8) (c : UInt8) : (0 ≤ Lib.indexByte l c) ↔ c ∈ l := by
  induction l with
  | nil => simp [Lib.indexByte]
  | cons b l ih =>
    have hge := Lib.indexByte_ge l c
    unfold Lib.indexByte
    by_cases e : b = c
    · simp [e]
    · have e' : ¬ c = b := fun h => e h.symm
      simp only [beq_iff_eq, e, if_false, List.mem_cons, e', false_or]
      rw [← ih]
      by_cases h : Lib.indexByte l c = -1
      · simp [h]
      · simp only [h, if_false]; omega
theorem ba_toList_eq (s : ByteArray) (l : List UInt8) : (s.toList = l) = (bl s = l) := by rw [ba_toList]
def nameOk (s : ByteArray) : Bool := decide (47 ∉ bl s) && (decide (1 ≤ (s.size : Int) ∧ (s.size : Int) ≤ 8) && (plainL (bl s) && (decide (bl s ≠ [46]) && decide (bl s ≠ [46, 46]))))
theorem eq47 (c : UInt8) : ((c.toNat : Int) = 47) = (c = 47) := by
  apply propext
  constructor
  · intro h
    apply UInt8.toNat_inj.1
    show c.toNat = 47
    omega
  · rintro rfl
    rfl
theorem bne_dec {α : Type} [BEq α] [LawfulBEq α] [DecidableEq α] (a b : α) : (a != b) = decide (a ≠ b) := by
  by_cases e : a = b <;> simp [e]
theorem specNameOk {s : ByteArray} (hs : s.size ≤ 1048576) : Ev (fun k => spec_NameOk.f k s) (nameOk s) := by
  have hm : s.size ≤ maxLen := by rw [maxLen_eq]; omega
  have key : ∀ (suf pre : List UInt8), bl s = pre ++ suf → Ev (fun k => spec_NameOk.l0 k s pre.length) (decide (47 ∉ suf) && (decide (1 ≤ (s.size : Int) ∧ (s.size : Int) ≤ 8) && (plainL (bl s) && (decide (bl s ≠ [46]) && decide (bl s ≠ [46, 46]))))) := by
    intro suf
    induction suf with
    | nil =>
      intro pre h
      refine Ev.step (fun k => spec_NameOk.l0.eq_2 ..) ?_
      simp only [if_neg (bend_at h), specIn, Option.bind_some, List.not_mem_nil, not_false_eq_true, decide_true, Bool.true_and]
      by_cases c0 : 1 ≤ (s.size : Int) ∧ (s.size : Int) ≤ 8
      · simp only [c0, decide_true, if_true, and_self, Bool.true_and]
        refine Ev.bind (specPlain hm) ?_
        by_cases c1 : plainL (bl s) = true
        · simp only [c1, if_true, Bool.true_and, ba_toList_eq, bne_dec, ba_toList]
          by_cases c2 : bl s = [46]
          · simp only [c2, if_true]
            exact Ev.now _
          · simp only [c2, if_false, ne_eq, not_false_eq_true, decide_true, Bool.true_and]
            exact Ev.now _
        · simp only [c1, Bool.false_eq_true, if_false, Bool.false_and]
          exact Ev.now _
      · simp only [c0, decide_false, Bool.false_eq_true, if_false, Bool.false_and]
        exact Ev.now _
    | cons c suf ih =>
      intro pre h
      refine Ev.step (fun k => spec_NameOk.l0.eq_2 ..) ?_
      simp only [if_pos (blt_at h), if_pos (nonneg_at _), bt_at' h, eq47, bnext_at h hm]
      by_cases e : c = 47
      · simp only [e, if_true, List.mem_cons, true_or, not_true_eq_false, decide_false, Bool.false_and]
        exact Ev.now _
      · have e' : ¬ 47 = c := fun h => e h.symm
        simp only [e, if_false, List.mem_cons, e', false_or]
        exact ih (pre ++ [c]) (snoc_at h)
  exact key _ [] rfl
theorem implNameOk {s : ByteArray} (hs : s.size ≤ 1048576) : Ev (fun k => impl_NameOk.f k s) (nameOk s) := by
  have hm : s.size ≤ maxLen := by rw [maxLen_eq]; omega
  unfold impl_NameOk.f nameOk
  simp only [implIn, Option.bind_some]
  by_cases c0 : 1 ≤ (s.size : Int) ∧ (s.size : Int) ≤ 8
  · simp only [c0, decide_true, if_true, and_self, Bool.true_and]
    refine Ev.bind (implPlain hm) ?_
    by_cases c1 : plainL (bl s) = true
    · simp only [c1, if_true, Bool.true_and, strings_Contains.f, Option.bind_some, decide_eq_true_eq, indexByte_mem, ba_toList_eq, bne_dec, ba_toList]
      by_cases c2 : (47 : UInt8) ∈ s.data.toList
      · simp only [c2, if_true, not_true_eq_false, decide_false, Bool.false_and]
        exact Ev.now _
      · simp only [c2, if_false, not_false_eq_true, decide_true, Bool.true_and]
        by_cases c3 : bl s = [46]
        · simp only [c3, if_true]
          exact Ev.now _
        · simp only [c3, if_false, ne_eq, not_false_eq_true, decide_true, Bool.true_and]
          exact Ev.now _
    · simp only [c1, Bool.false_eq_true, if_false, Bool.false_and, Bool.and_false]
      exact Ev.now _
  · simp only [c0, decide_false, Bool.false_eq_true, if_false, Bool.false_and, Bool.and_false]
    exact Ev.now _
def pathOk (p : List ByteArray) : Bool := p.all nameOk && decide ((p.length : Int) ≤ 4)
theorem specPathOk {p : List ByteArray} (hp : SmS p) : Ev (fun k => spec_PathOk.f k p) (pathOk p) := by
  have hl : p.length ≤ maxLen := by have := hp.1; rw [maxLen_eq]; omega
  have key : ∀ (suf pre : List ByteArray), p = pre ++ suf → Ev (fun k => spec_PathOk.l0 k p pre.length) (suf.all nameOk && decide ((p.length : Int) ≤ 4)) := by
    intro suf
    induction suf with
    | nil =>
      intro pre h
      refine Ev.step (fun k => spec_PathOk.l0.eq_2 ..) ?_
      simp only [if_neg (end_at h), List.all_nil, Bool.true_and]
      exact Ev.now _
    | cons a suf ih =>
      intro pre h
      refine Ev.step (fun k => spec_PathOk.l0.eq_2 ..) ?_
      simp only [if_pos (lt_at h), if_pos (nonneg_at _), rd_at _ h, next_at h hl]
      refine Ev.bind (specNameOk (hp.2 a (by rw [h]; simp))) ?_
      simp only [List.all_cons]
      by_cases e : nameOk a = true
      · simp only [e, if_true, Bool.true_and]
        exact ih (pre ++ [a]) (snoc_at h)
      · simp only [e, Bool.false_eq_true, if_false, Bool.false_and]
        exact Ev.now _
  exact key p [] rfl
theorem implPathOk {p : List ByteArray} (hp : SmS p) : Ev (fun k => impl_PathOk.f k p) (pathOk p) := by
  have hl : p.length ≤ maxLen := by have := hp.1; rw [maxLen_eq]; omega
  have key : ∀ (suf pre : List ByteArray), p = pre ++ suf → Ev (fun k => impl_PathOk.l0 k p p (p.length : Int) pre.length) (suf.all nameOk && decide ((p.length : Int) ≤ 4)) := by
    intro suf
    induction suf with
    | nil =>
      intro pre h
      refine Ev.step (fun k => impl_PathOk.l0.eq_2 ..) ?_
      simp only [if_neg (end_at h), List.all_nil, Bool.true_and]
      exact Ev.now _
    | cons a suf ih =>
      intro pre h
      refine Ev.step (fun k => impl_PathOk.l0.eq_2 ..) ?_
      simp only [if_pos (lt_at h), if_pos (nonneg_at _), rd_at _ h, next_at h hl]
      refine Ev.bind (implNameOk (hp.2 a (by rw [h]; simp))) ?_
      simp only [List.all_cons]
      by_cases e : nameOk a = true
      · simp only [e, if_true, Bool.true_and]
        exact ih (pre ++ [a]) (snoc_at h)
      · simp only [e, Bool.false_eq_true, if_false, Bool.false_and]
        exact Ev.now _
  exact key p [] rfl
end Go.Proofs.Ytiddgglidkbipaa.L

/- Are locks right; as the program and the reference have it. No condition. -/
set_option linter.unusedSimpArgs false
set_option linter.unusedVariables false
namespace Go.Proofs.Ytiddgglidkbipaa.L
open Go.RowKit Go.Proofs.YtiddgglidkbipaaW.PrintWords Go.Proofs.YtiddgglidkbipaaW.PrintLast Go.Proofs.Ytiddgglidkbipaa.Q
def lockOk (x : S28) : Bool := decide (1 ≤ x.f0 ∧ x.f0 ≤ 9999) && (pathOk x.f1 && decide (0 ≤ x.f4 ∧ x.f4 ≤ 9999999))
theorem specLockOk {x : S28} (hx : SmLock x) : Ev (fun k => spec_LockOk.f k x.f0 x.f1 x.f2 x.f3 x.f4) (lockOk x) := by
  unfold spec_LockOk.f lockOk
  simp only [specIn, Option.bind_some, decide_eq_true_eq]
  by_cases c0 : 1 ≤ x.f0 ∧ x.f0 ≤ 9999
  · simp only [if_pos c0, c0, and_self, decide_true, Bool.true_and]
    refine Ev.bind (specPathOk hx.2.1) ?_
    by_cases c1 : pathOk x.f1 = true
    · simp only [c1, if_true, Bool.true_and]; exact Ev.now _
    · simp only [c1, Bool.false_eq_true, if_false, Bool.false_and]; exact Ev.now _
  · simp only [if_neg c0, c0, decide_false, Bool.false_and]; exact Ev.now _
theorem implLockOk {x : S28} (hx : SmLock x) : Ev (fun k => impl_LockOk.f k x.f0 x.f1 x.f2 x.f3 x.f4) (lockOk x) := by
  unfold impl_LockOk.f lockOk
  simp only [implIn, Option.bind_some, decide_eq_true_eq]
  by_cases c0 : 1 ≤ x.f0 ∧ x.f0 ≤ 9999
  · simp only [if_pos c0, c0, and_self, decide_true, Bool.true_and]
    refine Ev.bind (implPathOk hx.2.1) ?_
    by_cases c1 : pathOk x.f1 = true
    · simp only [c1, if_true, Bool.true_and]; exact Ev.now _
    · simp only [c1, Bool.false_eq_true, if_false, Bool.false_and]; exact Ev.now _
  · simp only [if_neg c0, c0, decide_false, Bool.false_and]; exact Ev.now _
def freeOf (x : S28) (l : List S28) : Bool := l.all (fun y => decide (y.f0 ≠ x.f0) && !clash y x)
def locksL : List S28 → List S28 → Bool
  | _, [] => true
  | pre, x :: l => lockOk x && (freeOf x pre && locksL (pre ++ [x]) l)
def locksOk (l : List S28) : Bool := locksL [] l && decide ((l.length : Int) ≤ 6)
theorem specLocksOkB {t : List S28} (hl : t.length ≤ maxLen) (ht : ∀ a ∈ t, SmLock a) : Ev (fun k => spec_LocksOk.f k t) (locksOk t) := by
  have inner : ∀ (a : S28) (suf pre : List S28) (R : Bool), t = pre ++ a :: suf → Ev (fun k => spec_LocksOk.l0 k t (wrap64 ((pre.length : Int) + 1))) R → ∀ (su pr : List S28), pre = pr ++ su → Ev (fun k => spec_LocksOk.l1 k t pre.length pr.length) (freeOf a su && R) := by
    intro a suf pre R h hR su
    have ha := ht a (by rw [h]; simp)
    induction su with
    | nil =>
      intro pr hp
      refine Ev.step (fun k => spec_LocksOk.l1.eq_2 ..) ?_
      simp only [if_neg (end_at hp), freeOf, List.all_nil, Bool.true_and]
      exact hR
    | cons y su ih =>
      intro pr hp
      have hy := ht y (by rw [h, hp]; simp)
      have hpt : t = pr ++ y :: (su ++ a :: suf) := by rw [h, hp]; simp
      refine Ev.step (fun k => spec_LocksOk.l1.eq_2 ..) ?_
      simp only [if_pos (lt_at hp), if_pos (nonneg_at _), if_pos (lt_at hpt), if_pos (lt_at h), rd_implLock h, rd_implLock hpt, freeOf, List.all_cons]
      by_cases c0 : y.f0 = a.f0
      · simp only [if_pos c0, c0, ne_eq, not_true_eq_false, decide_false, Bool.false_and]; exact Ev.now _
      · simp only [if_neg c0, ne_eq, c0, not_false_eq_true, decide_true, Bool.true_and]
        refine Ev.bind (specClash hy ha) ?_
        by_cases c1 : clash y a = true
        · simp only [c1, if_true, Bool.not_true, Bool.false_and]; exact Ev.now _
        · simp only [c1, Bool.false_eq_true, if_false, Bool.not_false, Bool.true_and, next_at hpt hl]
          exact ih (pr ++ [y]) (snoc_at hp)
  have key : ∀ (suf pre : List S28), t = pre ++ suf → Ev (fun k => spec_LocksOk.l0 k t pre.length) (locksL pre suf && decide ((t.length : Int) ≤ 6)) := by
    intro suf
    induction suf with
    | nil =>
      intro pre h
      refine Ev.step (fun k => spec_LocksOk.l0.eq_2 ..) ?_
      simp only [if_neg (end_at h), locksL, Bool.true_and]
      exact Ev.now _
    | cons a suf ih =>
      intro pre h
      have hn := ih (pre ++ [a]) (snoc_at h)
      rw [← next_at h hl] at hn
      refine Ev.step (fun k => spec_LocksOk.l0.eq_2 ..) ?_
      simp only [if_pos (lt_at h), if_pos (nonneg_at _), rd_implLock h]
      refine Ev.bind (specLockOk (ht a (by rw [h]; simp))) ?_
      simp only [locksL]
      by_cases c0 : lockOk a = true
      · simp only [c0, if_true, Bool.true_and, Bool.and_assoc]
        exact inner a suf pre _ h hn pre [] rfl
      · simp only [c0, Bool.false_eq_true, if_false, Bool.false_and]; exact Ev.now _
  exact key t [] rfl
end Go.Proofs.Ytiddgglidkbipaa.L

/- Locks copied, one dropped, one added; as the program and the reference have it. No condition. -/
set_option linter.unusedSimpArgs false
set_option linter.unusedVariables false
namespace Go.Proofs.Ytiddgglidkbipaa.L
open Go.RowKit Go.Proofs.YtiddgglidkbipaaW.PrintWords Go.Proofs.YtiddgglidkbipaaW.PrintLast Go.Proofs.Ytiddgglidkbipaa.Q
theorem specCopyLocks {t : List S28} (hl0 : t.length ≤ 1048577) (ht : ∀ a ∈ t, a.f1.length ≤ 1048576) : Ev (fun k => spec_l13Copy.f k t) t := by
  have hl : t.length ≤ maxLen := by rw [maxLen_eq]; omega
  have key : ∀ (suf pre out : List S28), t = pre ++ suf → out.length ≤ pre.length → Ev (fun k => spec_l13Copy.l0 k t out pre.length) (out ++ suf) := by
    intro suf
    induction suf with
    | nil =>
      intro pre out h ho
      refine Ev.step (fun k => spec_l13Copy.l0.eq_2 ..) ?_
      simp only [if_neg (end_at h), List.append_nil]
      exact Ev.now _
    | cons a suf ih =>
      intro pre out h ho
      have hpl : pre.length ≤ 1048577 := by have : t.length = pre.length + (suf.length + 1) := by rw [h]; simp
                                            omega
      have ha := ht a (by rw [h]; simp)
      refine Ev.step (fun k => spec_l13Copy.l0.eq_2 ..) ?_
      simp only [if_pos (lt_at h), if_pos (nonneg_at _), rd_implLock h, next_at h hl, Option.bind_some, List.length_nil, Nat.zero_add, List.nil_append, show a.f1.length < 8796093022208 by omega, show out.length < 2932031007402 by omega, if_true]
      exact ev_cast (ih (pre ++ [a]) _ (snoc_at h) (by simp; omega)) (by simp)
  exact key t [] [] rfl (by simp)
theorem implCopyLocks {t : List S28} (hl0 : t.length ≤ 1048577) (ht : ∀ a ∈ t, a.f1.length ≤ 1048576) : Ev (fun k => impl_copyLocks.f k t) t := by
  have hl : t.length ≤ maxLen := by rw [maxLen_eq]; omega
  have key : ∀ (suf pre out : List S28), t = pre ++ suf → out.length ≤ pre.length → Ev (fun k => impl_copyLocks.l0 k out t (t.length : Int) pre.length) (out ++ suf) := by
    intro suf
    induction suf with
    | nil =>
      intro pre out h ho
      refine Ev.step (fun k => impl_copyLocks.l0.eq_2 ..) ?_
      simp only [if_neg (end_at h), List.append_nil]
      exact Ev.now _
    | cons a suf ih =>
      intro pre out h ho
      have hpl : pre.length ≤ 1048577 := by have : t.length = pre.length + (suf.length + 1) := by rw [h]; simp
                                            omega
      have ha := ht a (by rw [h]; simp)
      refine Ev.step (fun k => impl_copyLocks.l0.eq_2 ..) ?_
      simp only [if_pos (lt_at h), if_pos (nonneg_at _), rd_implLock h, next_at h hl, impl_copyPath.f, Option.bind_some, List.length_nil, Nat.zero_add, List.nil_append, show a.f1.length < 8796093022208 by omega, show out.length < 2932031007402 by omega, if_true]
      exact ev_cast (ih (pre ++ [a]) _ (snoc_at h) (by simp; omega)) (by simp)
  exact key t [] [] rfl (by simp)
def dropL (n : Int) : List S28 → List S28
  | [] => []
  | a :: t => if a.f0 = n then t else a :: dropL n t
def hasL (n : Int) (t : List S28) : Bool := t.any (fun a => decide (a.f0 = n))
theorem drop_sub (n : Int) : ∀ t : List S28, (dropL n t).length ≤ t.length ∧ ∀ a ∈ dropL n t, a ∈ t
  | [] => ⟨Nat.le_refl _, fun _ h => h⟩
  | a :: t => by
    have ih := drop_sub n t
    unfold dropL
    by_cases c : a.f0 = n
    · simp only [if_pos c]; exact ⟨by simp, fun b hb => by simp [hb]⟩
    · simp only [if_neg c]
      refine ⟨by simpa using ih.1, fun b hb => ?_⟩
      rcases List.mem_cons.1 hb with rfl | hb
      · simp
      · exact List.mem_cons_of_mem _ (ih.2 b hb)
theorem drop_sm {n : Int} {t : List S28} (ht : SmLocks t) : SmLocks (dropL n t) := ⟨Nat.le_trans (drop_sub n t).1 ht.1, fun a ha => ht.2 a ((drop_sub n t).2 a ha)⟩
theorem sm_path {t : List S28} (ht : SmLocks t) : ∀ a ∈ t, a.f1.length ≤ 1048576 := fun a ha => by have := (ht.2 a ha).2.1.1; omega
theorem specDrop {t : List S28} {n : Int} (ht : SmLocks t) : Ev (fun k => spec_DropLock.f k t n) (dropL n t, hasL n t) := by
  have hl0 := ht.1
  have hl : t.length ≤ maxLen := by rw [maxLen_eq]; omega
  unfold spec_DropLock.f
  refine Ev.bind (specCopyLocks (by omega) (sm_path ht)) ?_
  have key1 : ∀ (suf pre out : List S28), t = pre ++ suf → out.length ≤ pre.length → Ev (fun k => spec_DropLock.l0 k n out t true pre.length) (out ++ suf, true) := by
    intro suf
    induction suf with
    | nil =>
      intro pre out h ho
      refine Ev.step (fun k => spec_DropLock.l0.eq_2 ..) ?_
      simp only [if_neg (end_at h), List.append_nil]
      exact Ev.now _
    | cons a suf ih =>
      intro pre out h ho
      have hpl : pre.length ≤ 1048576 := by have : t.length = pre.length + (suf.length + 1) := by rw [h]; simp
                                            omega
      refine Ev.step (fun k => spec_DropLock.l0.eq_2 ..) ?_
      simp only [if_pos (lt_at h), if_pos (nonneg_at _), rd_implLock h, next_at h hl, if_true, show out.length < 2932031007402 by omega]
      exact ev_cast (ih (pre ++ [a]) _ (snoc_at h) (by simp; omega)) (by simp)
  have key : ∀ (suf pre out : List S28), t = pre ++ suf → out.length ≤ pre.length → Ev (fun k => spec_DropLock.l0 k n out t false pre.length) (out ++ dropL n suf, hasL n suf) := by
    intro suf
    induction suf with
    | nil =>
      intro pre out h ho
      refine Ev.step (fun k => spec_DropLock.l0.eq_2 ..) ?_
      simp only [if_neg (end_at h), dropL, hasL, List.any_nil, List.append_nil]
      exact Ev.now _
    | cons a suf ih =>
      intro pre out h ho
      have hpl : pre.length ≤ 1048576 := by have : t.length = pre.length + (suf.length + 1) := by rw [h]; simp
                                            omega
      refine Ev.step (fun k => spec_DropLock.l0.eq_2 ..) ?_
      simp only [if_pos (lt_at h), if_pos (nonneg_at _), rd_implLock h, next_at h hl, Bool.false_eq_true, if_false, dropL, hasL, List.any_cons]
      by_cases c : a.f0 = n
      · simp only [if_pos c, c, decide_true, Bool.true_or]
        exact key1 suf (pre ++ [a]) out (snoc_at h) (by simp; omega)
      · simp only [if_neg c, c, decide_false, Bool.false_or, show out.length < 2932031007402 by omega, if_true]
        exact ev_cast (ih (pre ++ [a]) _ (snoc_at h) (by simp; omega)) (by simp [hasL])
  exact key t [] [] rfl (by simp)
theorem implDrop {t : List S28} {n : Int} (ht : SmLocks t) : Ev (fun k => impl_DropLockX.f k t n) (dropL n t, hasL n t) := by
  have hl0 := ht.1
  have hl : t.length ≤ maxLen := by rw [maxLen_eq]; omega
  have hsp := sm_path ht
  show Ev (fun k => impl_DropLock.l0 k t n t (t.length : Int) 0) _
  have key : ∀ (suf pre : List S28), t = pre ++ suf → hasL n pre = false → Ev (fun k => impl_DropLock.l0 k t n t (t.length : Int) pre.length) (pre ++ dropL n suf, hasL n suf) := by
    intro suf
    induction suf with
    | nil =>
      intro pre h ho
      refine Ev.step (fun k => impl_DropLock.l0.eq_2 ..) ?_
      simp only [if_neg (end_at h), dropL, hasL, List.any_nil, List.append_nil]
      refine Ev.bind (implCopyLocks (by omega) hsp) ?_
      exact ev_cast (Ev.now _) (by rw [h]; simp)
    | cons a suf ih =>
      intro pre h ho
      have hpl : t.length = pre.length + (suf.length + 1) := by rw [h]; simp
      have hn := next_at h hl
      refine Ev.step (fun k => impl_DropLock.l0.eq_2 ..) ?_
      simp only [if_pos (lt_at h), if_pos (nonneg_at _), rd_implLock h, hn, dropL, hasL, List.any_cons]
      by_cases c : a.f0 = n
      · have h1 : t.take ((pre.length : Nat) : Int).toNat = pre := by rw [h]; simp
        have h2 : t.drop (((pre ++ [a]).length : Nat) : Int).toNat = suf := by rw [h]; simp
        simp only [if_pos c, c, decide_true, Bool.true_or, if_pos (Int.le_of_lt (lt_at h)), h1, h2]
        refine Ev.bind (implCopyLocks (by omega) (fun b hb => hsp b (by rw [h]; simp [hb]))) ?_
        simp only [if_pos (nonneg_at _), show (((pre ++ [a]).length : Nat) : Int) ≤ (t.length : Int) by rw [hpl]; simp; omega, if_true]
        refine Ev.bind (implCopyLocks (by omega) (fun b hb => hsp b (by rw [h]; simp [hb]))) ?_
        simp only [show pre.length + suf.length < 2932031007402 by omega, if_true]
        exact Ev.now _
      · simp only [if_neg c, c, decide_false, Bool.false_or]
        refine ev_cast (ih (pre ++ [a]) (snoc_at h) (by simp [hasL] at ho ⊢; exact ⟨ho, c⟩)) (by simp [hasL])
  exact key t [] rfl rfl
def addL (t : List S28) (x : S28) : List S28 × Bool := if locksOk (t ++ [x]) = true then (t ++ [x], true) else (t, false)
theorem add_sm {t : List S28} {x : S28} (ht : SmLocks t) (hx : SmLock x) : SmLocks (addL t x).1 := by
  unfold addL
  by_cases c : locksOk (t ++ [x]) = true
  · simp only [if_pos c]
    refine ⟨?_, fun a ha => ?_⟩
    · unfold locksOk at c
      have := of_decide_eq_true (Bool.and_eq_true_iff.1 c).2
      omega
    · rcases List.mem_append.1 ha with ha | ha
      · exact ht.2 a ha
      · rw [List.mem_singleton.1 ha]; exact hx
  · simp only [if_neg c]; exact ht
theorem specAdd {t : List S28} {x : S28} (ht : SmLocks t) (hx : SmLock x) : Ev (fun k => spec_AddLockX.f k t x.f0 x.f1 x.f2 x.f3 x.f4) (addL t x) := by
  have hl0 := ht.1
  have h2 : ∀ a ∈ t ++ [x], SmLock a := fun a ha => by
    rcases List.mem_append.1 ha with ha | ha
    · exact ht.2 a ha
    · rw [List.mem_singleton.1 ha]; exact hx
  show Ev (fun k => spec_AddLock.f k t x.f0 x.f1 x.f2 x.f3 x.f4) _
  unfold spec_AddLock.f addL
  refine Ev.bind (specCopyLocks (by omega) (sm_path ht)) ?_
  simp only [Option.bind_some, List.length_nil, Nat.zero_add, List.nil_append, show t.length < 2932031007402 by omega, if_true, List.length_singleton, show t.length + 1 < 2932031007402 by omega]
  refine Ev.bind (specCopyLocks (t := t ++ [x]) (by simp; omega) (fun a ha => by have := (h2 a ha).2.1.1; omega)) ?_
  refine Ev.bind (specLocksOkB (t := t ++ [x]) (by rw [maxLen_eq]; simp; omega) h2) ?_
  by_cases c : locksOk (t ++ [x]) = true
  · simp only [if_pos c]; exact Ev.now _
  · simp only [if_neg c]; exact Ev.now _
end Go.Proofs.Ytiddgglidkbipaa.L

/- Draws of locks. No condition. -/
set_option linter.unusedSimpArgs false
set_option linter.unusedVariables false
namespace Go.Proofs.Ytiddgglidkbipaa.L
open Go.RowKit Go.Proofs.YtiddgglidkbipaaW.PrintWords Go.Proofs.YtiddgglidkbipaaW.PrintLast Go.Proofs.Ytiddgglidkbipaa.Q
theorem intD {b : List Int} {p : Int} (h : Cur b p) (s : Int) {l : List Int} (hl : l ≠ []) : ∃ v p' s', spec_l1Int.f b p s l = some (v, p', s') ∧ v ∈ l ∧ Cur b p' := by
  have hpos : 0 < l.length := List.length_pos_iff.2 hl
  obtain ⟨v, p', s', e, h0, h1, h'⟩ := belowD h s (n := (l.length : Int)) (by omega)
  unfold spec_l1Int.f
  rw [e]
  simp only [Option.bind_some, if_pos h0, if_pos h1]
  refine ⟨_, _, _, rfl, ?_, h'⟩
  have hlt : v.toNat < l.length := by omega
  unfold rd
  rw [List.getD_eq_getElem?_getD, List.getElem?_eq_getElem hlt]
  exact List.getElem_mem hlt
theorem mem_int {v : Int} {l : List Int} (h : v ∈ l) (hl : l.all (fun x => decide (-9223372036854775808 ≤ x ∧ x < 9223372036854775808)) = true) : IntOk v := by
  have := List.all_eq_true.1 hl v h
  unfold IntOk
  simpa using this
theorem l2AnyD {b : List Int} {p : Int} (h : Cur b p) (s : Int) : ∃ l p' s', Ev (fun k => spec_l2Any.f k b p s) (l, p', s') ∧ SmP 8 l ∧ Cur b p' := by
  obtain ⟨l, p1, s1, e1, hl, h1⟩ := l2DrawD h s
  obtain ⟨v, p2, s2, e2, v0, v1, h2⟩ := belowD h1 s1 (n := 8) (by omega)
  have hl3 := hl.1
  unfold spec_l2Any.f
  by_cases c0 : v = 0
  · obtain ⟨x, p3, s3, e3, m, h3⟩ := strD h2 s2 (l := [(⟨#[]⟩ : ByteArray), (⟨#[46]⟩ : ByteArray), (⟨#[46, 46]⟩ : ByteArray), (⟨#[97, 47, 98]⟩ : ByteArray), (⟨#[110, 105, 110, 101, 98, 121, 116, 101, 115]⟩ : ByteArray), (⟨#[31]⟩ : ByteArray), (⟨#[101, 105, 103, 104, 116, 98, 121, 56]⟩ : ByteArray)]) (by simp)
    have m1 := mem_sz2 m (by decide)
    refine ⟨l ++ [x], p3, s3, ?_, ⟨by simp; omega, fun y hy => ?_⟩, h3⟩
    · refine Ev.bind e1 ?_
      simp only [e2, Option.bind_some, if_pos c0, e3, if_pos (show l.length < 8796093022208 by omega)]
      exact Ev.now _
    · rcases List.mem_append.1 hy with hy | hy
      · exact hl.2 y hy
      · simp at hy; subst hy; exact m1
  by_cases c1 : v = 1
  · have key : ∀ (n : Nat) (out : List ByteArray) (q t : Int), 8 ≤ out.length + n → out.length ≤ 8 → (∀ x ∈ out, x.size ≤ 1000) → Cur b q → ∃ l p' s', Ev (fun k => spec_l2Any.l0 k out b q t) (l, p', s') ∧ SmP 8 l ∧ Cur b p' := by
      intro n
      induction n with
      | zero =>
        intro out q t hn ho hm hq
        obtain ⟨v, q1, t1, e, v0, v1, hq1⟩ := belowD hq t (n := 2) (by omega)
        refine ⟨out, q1, t1, ?_, ⟨ho, hm⟩, hq1⟩
        refine Ev.step (fun k => spec_l2Any.l0.eq_2 ..) ?_
        simp only [e, Option.bind_some]
        rw [wrap_id (by omega) (by omega)]
        simp only [if_neg (show ¬ (out.length : Int) < 4 + v by omega)]
        exact Ev.now _
      | succ n ih =>
        intro out q t hn ho hm hq
        obtain ⟨v, q1, t1, e, v0, v1, hq1⟩ := belowD hq t (n := 2) (by omega)
        by_cases c : (out.length : Int) < 4 + v
        · obtain ⟨l, q2, t2, he, hl, hq2⟩ := ih (out ++ [(⟨#[113]⟩ : ByteArray)]) q1 t1 (by simp; omega) (by simp; omega) (fun x hx => by
            rcases List.mem_append.1 hx with hx | hx
            · exact hm x hx
            · simp at hx; subst hx; exact (show (1 : Nat) ≤ 1000 by omega)) hq1
          refine ⟨l, q2, t2, ?_, hl, hq2⟩
          refine Ev.step (fun k => spec_l2Any.l0.eq_2 ..) ?_
          simp only [e, Option.bind_some]
          rw [wrap_id (by omega) (by omega)]
          simp only [if_pos c, if_pos (show out.length < 8796093022208 by omega)]
          exact he
        · refine ⟨out, q1, t1, ?_, ⟨ho, hm⟩, hq1⟩
          refine Ev.step (fun k => spec_l2Any.l0.eq_2 ..) ?_
          simp only [e, Option.bind_some]
          rw [wrap_id (by omega) (by omega)]
          simp only [if_neg c]
          exact Ev.now _
    obtain ⟨l', q', t', he, hl', hq'⟩ := key 8 l p2 s2 (by omega) (by omega) hl.2 h2
    refine ⟨l', q', t', ?_, hl', hq'⟩
    refine Ev.bind e1 ?_
    simp only [e2, Option.bind_some, if_neg c0, if_pos c1]
    exact he
  · refine ⟨l, p2, s2, ?_, ⟨by omega, hl.2⟩, h2⟩
    refine Ev.bind e1 ?_
    simp only [e2, Option.bind_some, if_neg c0, if_neg c1]
    exact Ev.now _
theorem lockD {b : List Int} {p : Int} (h : Cur b p) (s : Int) : ∃ (x : S28) (p' s' : Int), Ev (fun k => spec_l13Lock.f k b p s) (x.f0, x.f1, x.f2, x.f3, x.f4, p', s') ∧ SmLock x ∧ Cur b p' := by
  obtain ⟨v, p1, s1, e1, v0, v1, h1⟩ := belowD h s (n := 9) (by omega)
  obtain ⟨l, p2, s2, e2, hl, h2⟩ := l2DrawD h1 s1
  obtain ⟨d, p3, s3, e3, h3⟩ := onceD h2 s2 2
  obtain ⟨d', p4, s4, e4, h4⟩ := onceD h3 s3 2
  obtain ⟨u, p5, s5, e5, m, h5⟩ := intD h4 s4 (l := [5, 10, 100]) (by simp)
  have hw : wrap64 (1 + v) = 1 + v := wrap_id (by omega) (by omega)
  refine ⟨⟨1 + v, l, d, d', u⟩, p5, s5, ?_, ⟨by unfold IntOk; simp only; omega, hl.sm (by omega), trivial, trivial, mem_int m (by decide)⟩, h5⟩
  unfold spec_l13Lock.f
  simp only [e1, Option.bind_some, hw]
  refine Ev.bind e2 ?_
  simp only [e3, e4, e5, Option.bind_some]
  exact Ev.now _
theorem locksDrawD {b : List Int} {p : Int} (h : Cur b p) (s : Int) : ∃ l p' s', Ev (fun k => spec_l13Draw.f k b p s) (l, p', s') ∧ (l.length ≤ 5 ∧ ∀ x ∈ l, SmLock x) ∧ Cur b p' := by
  unfold spec_l13Draw.f
  obtain ⟨v, p1, s1, e, v0, v1, h1⟩ := belowD h s (n := 6) (by omega)
  simp only [e, Option.bind_some]
  have key : ∀ (n : Nat) (out : List S28) (q t : Int), (out.length + n ≤ 5 ∧ ∀ x ∈ out, SmLock x) → Cur b q → ∃ l p' s', Ev (fun k => spec_l13Draw.l0 k out (n : Int) b q t) (l, p', s') ∧ (l.length ≤ 5 ∧ ∀ x ∈ l, SmLock x) ∧ Cur b p' := by
    intro n
    induction n with
    | zero =>
      intro out q t ho hq
      refine ⟨out, q, t, ?_, ⟨by omega, ho.2⟩, hq⟩
      refine Ev.step (fun k => spec_l13Draw.l0.eq_2 ..) ?_
      simp only [if_neg (show ¬ ((0 : Nat) : Int) > 0 by decide)]
      exact Ev.now _
    | succ n ih =>
      intro out q t ho hq
      obtain ⟨x, q1, t1, e1, hx, hq1⟩ := lockD hq t
      have hos : SmLocks out := ⟨by have := ho.1; omega, ho.2⟩
      have hadd : (addL out x).1.length ≤ out.length + 1 := by
        unfold addL
        split <;> simp
      have hsm := add_sm hos hx
      obtain ⟨l, q2, t2, he, hl, hq2⟩ := ih (addL out x).1 q1 t1 ⟨by omega, hsm.2⟩ hq1
      refine ⟨l, q2, t2, ?_, hl, hq2⟩
      refine Ev.step (fun k => spec_l13Draw.l0.eq_2 ..) ?_
      simp only [if_pos (show ((n + 1 : Nat) : Int) > 0 by omega)]
      refine Ev.bind e1 ?_
      refine Ev.bind (specAdd hos hx) ?_
      rw [show wrap64 (((n + 1 : Nat) : Int) - 1) = (n : Int) by rw [wrap_id (by omega) (by omega)]; omega]
      exact he
  obtain ⟨n, rfl⟩ := Int.eq_ofNat_of_zero_le v0
  exact key n [] p1 s1 ⟨by simp; omega, by simp⟩ h1
theorem locksAnyD {b : List Int} {p : Int} (h : Cur b p) (s : Int) : ∃ l p' s', Ev (fun k => spec_l13Any.f k b p s) (l, p', s') ∧ (l.length ≤ 6 ∧ ∀ x ∈ l, SmLock x) ∧ Cur b p' := by
  unfold spec_l13Any.f
  obtain ⟨l, p1, s1, e1, ⟨hl, hm⟩, h1⟩ := locksDrawD h s
  obtain ⟨d, p2, s2, e2, h2⟩ := onceD h1 s1 4
  have hap : ∀ x : S28, SmLock x → ((l ++ [x]).length ≤ 6 ∧ ∀ y ∈ l ++ [x], SmLock y) := fun x hx => ⟨by simp; omega, fun y hy => by
    rcases List.mem_append.1 hy with hy | hy
    · exact hm y hy
    · simp at hy; subst hy; exact hx⟩
  by_cases c : d = true
  · obtain ⟨x, p3, s3, e3, ⟨x0, x1, x2, x3, x4⟩, h3⟩ := lockD h2 s2
    obtain ⟨v, p4, s4, e4, v0, v1, h4⟩ := belowD h3 s3 (n := 4) (by omega)
    have hll : l.length < 2932031007402 := by omega
    by_cases c0 : v = 0
    · obtain ⟨u, p5, s5, e5, m, h5⟩ := intD h4 s4 (l := [0, 10000, (-1)]) (by simp)
      refine ⟨l ++ [⟨u, x.f1, x.f2, x.f3, x.f4⟩], p5, s5, ?_, hap _ ⟨mem_int m (by decide), x1, x2, x3, x4⟩, h5⟩
      refine Ev.bind e1 ?_
      simp only [e2, Option.bind_some, if_pos c]
      refine Ev.bind e3 ?_
      simp only [e4, Option.bind_some, if_pos c0, e5, if_pos hll]
      exact Ev.now _
    by_cases c1 : v = 1
    · obtain ⟨u, p5, s5, e5, m, h5⟩ := l2AnyD h4 s4
      refine ⟨l ++ [⟨x.f0, u, x.f2, x.f3, x.f4⟩], p5, s5, ?_, hap _ ⟨x0, m.sm (by omega), x2, x3, x4⟩, h5⟩
      refine Ev.bind e1 ?_
      simp only [e2, Option.bind_some, if_pos c]
      refine Ev.bind e3 ?_
      simp only [e4, Option.bind_some, if_neg c0, if_pos c1]
      refine Ev.bind e5 ?_
      simp only [if_pos hll]
      exact Ev.now _
    by_cases c2 : v = 2
    · obtain ⟨u, p5, s5, e5, m, h5⟩ := intD h4 s4 (l := [(-1), 10000000]) (by simp)
      refine ⟨l ++ [⟨x.f0, x.f1, x.f2, x.f3, u⟩], p5, s5, ?_, hap _ ⟨x0, x1, x2, x3, mem_int m (by decide)⟩, h5⟩
      refine Ev.bind e1 ?_
      simp only [e2, Option.bind_some, if_pos c]
      refine Ev.bind e3 ?_
      simp only [e4, Option.bind_some, if_neg c0, if_neg c1, if_pos c2, e5, if_pos hll]
      exact Ev.now _
    · refine ⟨l ++ [⟨x.f0, x.f1, x.f2, x.f3, x.f4⟩], p4, s4, ?_, hap _ ⟨x0, x1, x2, x3, x4⟩, h4⟩
      refine Ev.bind e1 ?_
      simp only [e2, Option.bind_some, if_pos c]
      refine Ev.bind e3 ?_
      simp only [e4, Option.bind_some, if_neg c0, if_neg c1, if_neg c2, if_pos hll]
      exact Ev.now _
  · refine ⟨l, p2, s2, ?_, ⟨by omega, hm⟩, h2⟩
    refine Ev.bind e1 ?_
    simp only [e2, Option.bind_some, if_neg c]
    exact Ev.now _
theorem drawTokensAtD {code : List Int} (hc : code.length ≤ 1048576) : ∃ l p, Ev (fun k => spec_DrawTokensAt.f k code) (l, p) ∧ SmLocks l ∧ SmS p := by
  unfold spec_DrawTokensAt.f
  obtain ⟨s0, e0⟩ := newD hc
  obtain ⟨l, p1, s1, e1, ⟨hl, hm⟩, h1⟩ := locksAnyD (cur0 hc) s0
  obtain ⟨p, p2, s2, e2, hp, h2⟩ := l2DrawD h1 s1
  exact ⟨l, p, Ev.bind e0 (Ev.bind e1 (Ev.bind e2 (Ev.now _))), ⟨by omega, hm⟩, hp.sm (by omega)⟩
end Go.Proofs.Ytiddgglidkbipaa.L

/- The laws' own functions over lists of numbers: size, copy, equality. No condition. -/
set_option linter.unusedSimpArgs false
set_option linter.unusedVariables false
namespace Go.Proofs.Ytiddgglidkbipaa.L
open Go.RowKit Go.Proofs.YtiddgglidkbipaaW.PrintWords Go.Proofs.YtiddgglidkbipaaW.PrintLast Go.Proofs.Ytiddgglidkbipaa.Q
theorem rd_int {l pre suf : List Int} {a : Int} (h : l = pre ++ a :: suf) : rd l (pre.length : Int) = a := getD_at _ h
end Go.Proofs.Ytiddgglidkbipaa.L

/- Draws of locks, paths and tokens, for what drawn locks cover. No condition. -/
set_option linter.unusedSimpArgs false
set_option linter.unusedVariables false
namespace Go.Proofs.Ytiddgglidkbipaa.L
open Go.RowKit Go.Proofs.YtiddgglidkbipaaW.PrintWords Go.Proofs.YtiddgglidkbipaaW.PrintLast Go.Proofs.Ytiddgglidkbipaa.Q
theorem drawLockOkD {code : List Int} (hc : code.length ≤ 1048576) : ∃ x : S28, Ev (fun k => spec_DrawLockOk.f k code) (x.f0, x.f1, x.f2, x.f3, x.f4) ∧ SmLock x := by
  unfold spec_DrawLockOk.f
  obtain ⟨s0, e0⟩ := newD hc
  obtain ⟨l, p1, s1, e1, ⟨hl, hm⟩, h1⟩ := locksAnyD (cur0 hc) s0
  obtain ⟨x, p2, s2, e2, hx, h2⟩ := lockD h1 s1
  obtain ⟨v, p3, s3, e3, v0, v1, h3⟩ := belowD h2 s2 (n := 2) (by omega)
  have hlen : ((l ++ [x]).length : Int) = (l.length : Int) + 1 := by simp
  have hmod0 : 0 ≤ Int.tmod v ((l.length : Int) + 1) := Int.tmod_nonneg _ v0
  have hmod1 : Int.tmod v ((l.length : Int) + 1) < (l.length : Int) + 1 := Int.tmod_lt_of_pos _ (by omega)
  have hw : wrap64 (wrap64 ((l.length : Int) + 1 - 1) - Int.tmod v ((l.length : Int) + 1)) = (l.length : Int) - Int.tmod v ((l.length : Int) + 1) := by
    rw [wrap_id (x := (l.length : Int) + 1 - 1) (by omega) (by omega), wrap_id (by omega) (by omega)]; omega
  obtain ⟨pre, y, suf, et, ei⟩ := split_at (t := l ++ [x]) (i := (l.length : Int) - Int.tmod v ((l.length : Int) + 1)) (by omega) (by omega)
  have hy : SmLock y := by
    have hmem : y ∈ l ++ [x] := by rw [et]; simp
    rcases List.mem_append.1 hmem with h | h
    · exact hm y h
    · simp at h; subst h; exact hx
  refine ⟨y, Ev.bind e0 (Ev.bind e1 (Ev.bind e2 ?_)), hy⟩
  simp only [if_pos (show l.length < 2932031007402 by omega), Option.bind_some, e3, hlen, if_neg (show ¬ (l.length : Int) + 1 = 0 by omega), hw]
  have hrd := rd_implLock et
  rw [← ei] at hrd
  simp only [if_pos (show (0 : Int) ≤ (l.length : Int) - Int.tmod v ((l.length : Int) + 1) by omega), if_pos (show (l.length : Int) - Int.tmod v ((l.length : Int) + 1) < (l.length : Int) + 1 by omega), hrd]
  exact Ev.now _
theorem lockD3 {b : List Int} {p : Int} (h : Cur b p) (s : Int) : ∃ (x : S28) (p' s' : Int), Ev (fun k => spec_l13Lock.f k b p s) (x.f0, x.f1, x.f2, x.f3, x.f4, p', s') ∧ (SmLock x ∧ x.f1.length ≤ 3) ∧ Cur b p' := by
  obtain ⟨v, p1, s1, e1, v0, v1, h1⟩ := belowD h s (n := 9) (by omega)
  obtain ⟨l, p2, s2, e2, hl, h2⟩ := l2DrawD h1 s1
  obtain ⟨d, p3, s3, e3, h3⟩ := onceD h2 s2 2
  obtain ⟨d', p4, s4, e4, h4⟩ := onceD h3 s3 2
  obtain ⟨u, p5, s5, e5, m, h5⟩ := intD h4 s4 (l := [5, 10, 100]) (by simp)
  have hw : wrap64 (1 + v) = 1 + v := wrap_id (by omega) (by omega)
  refine ⟨⟨1 + v, l, d, d', u⟩, p5, s5, ?_, ⟨⟨by unfold IntOk; simp only; omega, hl.sm (by omega), trivial, trivial, mem_int m (by decide)⟩, hl.1⟩, h5⟩
  unfold spec_l13Lock.f
  simp only [e1, Option.bind_some, hw]
  refine Ev.bind e2 ?_
  simp only [e3, e4, e5, Option.bind_some]
  exact Ev.now _
theorem drawCoversD {code : List Int} (hc : code.length ≤ 1048576) : ∃ (x : S28) (p : List ByteArray), Ev (fun k => spec_DrawCovers.f k code) (x.f0, x.f1, x.f2, x.f3, x.f4, p) ∧ SmLock x ∧ p.length ≤ 1048576 := by
  unfold spec_DrawCovers.f
  obtain ⟨s0, e0⟩ := newD hc
  obtain ⟨x, p1, s1, e1, ⟨hx, hx3⟩, h1⟩ := lockD3 (cur0 hc) s0
  obtain ⟨d, p2, s2, e2, h2⟩ := onceD h1 s1 2
  have hx1 := hx.2.1.1
  cases d with
  | true =>
    obtain ⟨l, p3, s3, e3, hl, h3⟩ := l2DrawD h2 s2
    have hl3 := hl.1
    refine ⟨x, x.f1 ++ l, Ev.bind e0 (Ev.bind e1 ?_), hx, ?_⟩
    · simp only [e2, Option.bind_some, if_true, List.length_nil, Nat.zero_add, List.nil_append, if_pos (show x.f1.length < 8796093022208 by omega)]
      refine Ev.bind e3 ?_
      simp only [if_pos (show x.f1.length + l.length < 8796093022208 by omega)]
      exact Ev.now _
    · rw [List.length_append]; omega
  | false =>
    obtain ⟨l, p3, s3, e3, hl, h3⟩ := l2AnyD h2 s2
    refine ⟨x, l, Ev.bind e0 (Ev.bind e1 ?_), hx, by have := hl.1; omega⟩
    simp only [e2, Option.bind_some, Bool.false_eq_true, if_false]
    exact Ev.bind e3 (Ev.now _)
theorem drawLockClashD {code : List Int} (hc : code.length ≤ 1048576) : ∃ a b : S28, Ev (fun k => spec_DrawLockClash.f k code) (a.f0, a.f1, a.f2, a.f3, a.f4, b.f0, b.f1, b.f2, b.f3, b.f4) ∧ SmLock a ∧ SmLock b := by
  unfold spec_DrawLockClash.f
  obtain ⟨s0, e0⟩ := newD hc
  obtain ⟨a, p1, s1, e1, ha, h1⟩ := lockD (cur0 hc) s0
  obtain ⟨b, p2, s2, e2, hb, h2⟩ := lockD h1 s1
  exact ⟨a, b, Ev.bind e0 (Ev.bind e1 (Ev.bind e2 (Ev.now _))), ha, hb⟩
theorem drawDropLockD {code : List Int} (hc : code.length ≤ 1048576) : ∃ l n, Ev (fun k => spec_DrawDropLock.f k code) (l, n) ∧ SmLocks l := by
  unfold spec_DrawDropLock.f
  obtain ⟨s0, e0⟩ := newD hc
  obtain ⟨l, p1, s1, e1, ⟨hl, hm⟩, h1⟩ := locksAnyD (cur0 hc) s0
  obtain ⟨v, p2, s2, e2, v0, v1, h2⟩ := belowD h1 s1 (n := 9) (by omega)
  refine ⟨l, wrap64 (1 + v), Ev.bind e0 (Ev.bind e1 ?_), by omega, hm⟩
  simp only [e2, Option.bind_some]
  exact Ev.now _
theorem drawLiveLocksD {code : List Int} (hc : code.length ≤ 1048576) : ∃ l n, Ev (fun k => spec_DrawLiveLocks.f k code) (l, n) ∧ SmLocks l := by
  unfold spec_DrawLiveLocks.f
  obtain ⟨s0, e0⟩ := newD hc
  obtain ⟨l, p1, s1, e1, ⟨hl, hm⟩, h1⟩ := locksAnyD (cur0 hc) s0
  obtain ⟨v, p2, s2, e2, m, h2⟩ := intD h1 s1 (l := [4, 5, 9, 10, 99, 100, (-1)]) (by simp)
  refine ⟨l, v, Ev.bind e0 (Ev.bind e1 ?_), by omega, hm⟩
  simp only [e2, Option.bind_some]
  exact Ev.now _
theorem tokensD {b : List Int} {p : Int} (h : Cur b p) (s : Int) : ∃ l p' s', Ev (fun k => spec_l13Tokens.f k b p s) (l, p', s') ∧ l.length ≤ 5 ∧ Cur b p' := by
  unfold spec_l13Tokens.f
  obtain ⟨v, p1, s1, e, v0, v1, h1⟩ := belowD h s (n := 6) (by omega)
  simp only [e, Option.bind_some]
  have key : ∀ (n : Nat) (out : List Int) (q t : Int), out.length + n ≤ 5 → Cur b q → ∃ l p' s', Ev (fun k => spec_l13Tokens.l0 k out (n : Int) b q t) (l, p', s') ∧ l.length ≤ 5 ∧ Cur b p' := by
    intro n
    induction n with
    | zero =>
      intro out q t ho hq
      refine ⟨out, q, t, ?_, by omega, hq⟩
      refine Ev.step (fun k => spec_l13Tokens.l0.eq_2 ..) ?_
      simp only [if_neg (show ¬ ((0 : Nat) : Int) > 0 by decide)]
      exact Ev.now _
    | succ n ih =>
      intro out q t ho hq
      obtain ⟨v, q1, t1, e1, v0, v1, hq1⟩ := belowD hq t (n := 9) (by omega)
      obtain ⟨l, q2, t2, he, hl, hq2⟩ := ih (out ++ [wrap64 (1 + v)]) q1 t1 (by simp; omega) hq1
      refine ⟨l, q2, t2, ?_, hl, hq2⟩
      refine Ev.step (fun k => spec_l13Tokens.l0.eq_2 ..) ?_
      simp only [if_pos (show ((n + 1 : Nat) : Int) > 0 by omega), e1, Option.bind_some, if_pos (show out.length < 17592186044416 by omega)]
      rw [show wrap64 (((n + 1 : Nat) : Int) - 1) = (n : Int) by rw [wrap_id (by omega) (by omega)]; omega]
      exact he
  obtain ⟨n, rfl⟩ := Int.eq_ofNat_of_zero_le v0
  exact key n [] p1 s1 (by simp; omega) h1
theorem drawMayTurnD {code : List Int} (hc : code.length ≤ 1048576) : ∃ l p d toks, Ev (fun k => spec_DrawMayTurn.f k code) (l, p, d, toks) ∧ SmLocks l ∧ SmS p ∧ toks.length ≤ 5 := by
  unfold spec_DrawMayTurn.f
  obtain ⟨s0, e0⟩ := newD hc
  obtain ⟨l, p1, s1, e1, ⟨hl, hm⟩, h1⟩ := locksAnyD (cur0 hc) s0
  obtain ⟨p, p2, s2, e2, hp, h2⟩ := l2DrawD h1 s1
  obtain ⟨d, p3, s3, e3, h3⟩ := onceD h2 s2 2
  obtain ⟨toks, p4, s4, e4, ht, h4⟩ := tokensD h3 s3
  refine ⟨l, p, d, toks, Ev.bind e0 (Ev.bind e1 (Ev.bind e2 ?_)), ⟨by omega, hm⟩, hp.sm (by omega), ht⟩
  simp only [e3, Option.bind_some]
  exact Ev.bind e4 (Ev.now _)
theorem sameIntsD (t : List Int) (hl : t.length ≤ maxLen) : Ev (fun k => laws_sameInts.f k t t) true := by
  unfold laws_sameInts.f
  simp only [if_true]
  have key : ∀ (suf pre : List Int), t = pre ++ suf → Ev (fun k => laws_sameInts.l0 k t t pre.length) true := by
    intro suf
    induction suf with
    | nil =>
      intro pre h
      refine Ev.step (fun k => laws_sameInts.l0.eq_2 ..) ?_
      simp only [if_neg (end_at h)]
      exact Ev.now _
    | cons a suf ih =>
      intro pre h
      refine Ev.step (fun k => laws_sameInts.l0.eq_2 ..) ?_
      simp only [if_pos (lt_at h), if_pos (nonneg_at _), if_true, next_at h hl]
      exact ih (pre ++ [a]) (snoc_at h)
  exact key t [] rfl
end Go.Proofs.Ytiddgglidkbipaa.L

/- Locks whose time is not over; as the program and the reference have it. No condition. -/
set_option linter.unusedSimpArgs false
set_option linter.unusedVariables false
namespace Go.Proofs.Ytiddgglidkbipaa.L
open Go.RowKit Go.Proofs.YtiddgglidkbipaaW.PrintWords Go.Proofs.YtiddgglidkbipaaW.PrintLast Go.Proofs.Ytiddgglidkbipaa.Q
def liveL (now : Int) (t : List S28) : List S28 := t.filter (fun a => decide (a.f4 > now))
theorem live_cons (now : Int) (a : S28) (t : List S28) : liveL now (a :: t) = if a.f4 > now then a :: liveL now t else liveL now t := by
  unfold liveL
  by_cases c : a.f4 > now <;> simp [List.filter_cons, c]
theorem live_sm {now : Int} {t : List S28} (ht : SmLocks t) : SmLocks (liveL now t) := ⟨Nat.le_trans (List.length_filter_le _ _) ht.1, fun a ha => ht.2 a (List.mem_filter.1 ha).1⟩
theorem specLive {t : List S28} {now : Int} (ht : SmLocks t) : Ev (fun k => spec_LiveLocks.f k t now) (liveL now t) := by
  have hl0 := ht.1
  have hl : t.length ≤ maxLen := by rw [maxLen_eq]; omega
  unfold spec_LiveLocks.f
  refine Ev.bind (specCopyLocks (by omega) (sm_path ht)) ?_
  have key : ∀ (suf pre out : List S28), t = pre ++ suf → out.length ≤ pre.length → Ev (fun k => spec_LiveLocks.l0 k now out t pre.length) (out ++ liveL now suf) := by
    intro suf
    induction suf with
    | nil =>
      intro pre out h ho
      refine Ev.step (fun k => spec_LiveLocks.l0.eq_2 ..) ?_
      simp only [if_neg (end_at h), liveL, List.filter_nil, List.append_nil]
      exact Ev.now _
    | cons a suf ih =>
      intro pre out h ho
      have hpl : pre.length ≤ 1048576 := by have : t.length = pre.length + (suf.length + 1) := by rw [h]; simp
                                            omega
      refine Ev.step (fun k => spec_LiveLocks.l0.eq_2 ..) ?_
      simp only [if_pos (lt_at h), if_pos (nonneg_at _), rd_implLock h, next_at h hl, live_cons]
      by_cases c : a.f4 > now
      · simp only [if_pos c, if_pos (show out.length < 2932031007402 by omega)]
        exact ev_cast (ih (pre ++ [a]) _ (snoc_at h) (by simp; omega)) (by simp)
      · simp only [if_neg c]
        exact ih (pre ++ [a]) _ (snoc_at h) (by simp; omega)
  exact key t [] [] rfl (by simp)
theorem implLive {t : List S28} {now : Int} (ht : SmLocks t) : Ev (fun k => impl_LiveLocks.f k t now) (liveL now t) := by
  have hl0 := ht.1
  have hl : t.length ≤ maxLen := by rw [maxLen_eq]; omega
  unfold impl_LiveLocks.f impl_keepLocks.f
  refine Ev.bind (Ev.bind (implCopyLocks (by omega) (sm_path ht)) ?_) (Ev.now _)
  have key : ∀ (suf pre out : List S28), t = pre ++ suf → out.length ≤ pre.length → Ev (fun k => impl_keepLocks.l0 k now out t (t.length : Int) pre.length) (out ++ liveL now suf) := by
    intro suf
    induction suf with
    | nil =>
      intro pre out h ho
      refine Ev.step (fun k => impl_keepLocks.l0.eq_2 ..) ?_
      simp only [if_neg (end_at h), liveL, List.filter_nil, List.append_nil]
      exact Ev.now _
    | cons a suf ih =>
      intro pre out h ho
      have hpl : pre.length ≤ 1048576 := by have : t.length = pre.length + (suf.length + 1) := by rw [h]; simp
                                            omega
      refine Ev.step (fun k => impl_keepLocks.l0.eq_2 ..) ?_
      simp only [if_pos (lt_at h), if_pos (nonneg_at _), rd_implLock h, next_at h hl, live_cons]
      by_cases c : a.f4 > now
      · simp only [if_pos c, if_pos (show out.length < 2932031007402 by omega)]
        exact ev_cast (ih (pre ++ [a]) _ (snoc_at h) (by simp; omega)) (by simp)
      · simp only [if_neg c]
        exact ih (pre ++ [a]) _ (snoc_at h) (by simp; omega)
  exact key t [] [] rfl (by simp)
end Go.Proofs.Ytiddgglidkbipaa.L

/- The laws' own 'is it the same', of locks. No condition. -/
set_option linter.unusedSimpArgs false
set_option linter.unusedVariables false
namespace Go.Proofs.Ytiddgglidkbipaa.L
open Go.RowKit Go.Proofs.YtiddgglidkbipaaW.PrintWords Go.Proofs.YtiddgglidkbipaaW.PrintLast Go.Proofs.Ytiddgglidkbipaa.Q
theorem sameTextsD {a b : List ByteArray} (hl : a.length ≤ 1048576) : Ev (fun k => laws_sameTexts.f k a b) (decide (a = b)) := by
  have hm : a.length ≤ maxLen := by rw [maxLen_eq]; omega
  unfold laws_sameTexts.f
  by_cases e : (a.length : Int) = (b.length : Int)
  · simp only [if_pos e]
    refine eq_loop (a := a) (b := b) (fun k i => laws_sameTexts.l0 k a b i) ?_ ?_ a b [] [] rfl rfl rfl (by omega)
    · show Ev (fun k => laws_sameTexts.l0 k a b a.length) true
      refine Ev.step (fun k => laws_sameTexts.l0.eq_2 ..) ?_
      simp only [Int.lt_irrefl, if_false]
      exact Ev.now _
    · intro pre x su pre' y sv h h' hp
      have h3 := rd_at ByteArray.empty h'
      have h4 := lt_at h'
      rw [← hp] at h3 h4
      refine ⟨fun hne => ?_, fun heq r hr => ?_⟩
      · refine Ev.step (fun k => laws_sameTexts.l0.eq_2 ..) ?_
        simp only [if_pos (lt_at h), if_pos (nonneg_at _), if_pos h4, rd_at ByteArray.empty h, h3, ba_eq, if_neg hne]
        exact Ev.now _
      · refine Ev.step (fun k => laws_sameTexts.l0.eq_2 ..) ?_
        simp only [if_pos (lt_at h), if_pos (nonneg_at _), if_pos h4, rd_at ByteArray.empty h, h3, ba_eq, if_pos heq, next_at h hm]
        exact hr
  · simp only [if_neg e]
    rw [show decide (a = b) = false from decide_eq_false (fun h => e (by rw [h]))]
    exact Ev.now _
theorem sameLockD {x : S28} (h : SmLock x) : Ev (fun k => laws_sameLock.f k x.f0 x.f1 x.f2 x.f3 x.f4 x.f0 x.f1 x.f2 x.f3 x.f4) true := by
  unfold laws_sameLock.f
  simp only [if_true]
  refine Ev.bind (sameTextsD (by have := h.2.1.1; omega)) ?_
  simp only [decide_true, beq_self_eq_true, if_true]
  exact Ev.now _
theorem sameLocksD {t : List S28} (ht : SmLocks t) : Ev (fun k => laws_sameLocks.f k t t) true := by
  have hl : t.length ≤ maxLen := by have := ht.1; rw [maxLen_eq]; omega
  unfold laws_sameLocks.f
  simp only [if_true]
  have key : ∀ (suf pre : List S28), t = pre ++ suf → Ev (fun k => laws_sameLocks.l0 k t t pre.length) true := by
    intro suf
    induction suf with
    | nil =>
      intro pre h
      refine Ev.step (fun k => laws_sameLocks.l0.eq_2 ..) ?_
      simp only [if_neg (end_at h)]
      exact Ev.now _
    | cons a suf ih =>
      intro pre h
      refine Ev.step (fun k => laws_sameLocks.l0.eq_2 ..) ?_
      simp only [if_pos (lt_at h), if_pos (nonneg_at _), rd_implLock h, next_at h hl]
      refine Ev.bind (sameLockD (ht.2 a (by rw [h]; simp))) ?_
      simp only [if_true]
      exact ih (pre ++ [a]) (snoc_at h)
  exact key t [] rfl
end Go.Proofs.Ytiddgglidkbipaa.L

/- The tokens that hold of a path; as the program and the reference have it. No condition. -/
set_option linter.unusedSimpArgs false
set_option linter.unusedVariables false
namespace Go.Proofs.Ytiddgglidkbipaa.L
open Go.RowKit Go.Proofs.YtiddgglidkbipaaW.PrintWords Go.Proofs.YtiddgglidkbipaaW.PrintLast Go.Proofs.Ytiddgglidkbipaa.Q
def tokensAt (p : List ByteArray) (t : List S28) : List Int := (t.filter (fun r => covers r p)).map (fun r => r.f0)
theorem tokens_cons (p : List ByteArray) (a : S28) (t : List S28) : tokensAt p (a :: t) = if covers a p = true then a.f0 :: tokensAt p t else tokensAt p t := by
  unfold tokensAt
  by_cases c : covers a p = true <;> simp [List.filter_cons, c]
theorem tokens_length (p : List ByteArray) (t : List S28) : (tokensAt p t).length ≤ t.length := by
  unfold tokensAt; rw [List.length_map]; exact List.length_filter_le _ _
theorem specTokens {t : List S28} {p : List ByteArray} (ht : SmLocks t) (hp : p.length ≤ 1048576) : Ev (fun k => spec_TokensAt.f k t p) (tokensAt p t) := by
  have hl0 := ht.1
  have hl : t.length ≤ maxLen := by rw [maxLen_eq]; omega
  have key : ∀ (suf pre : List S28) (out : List Int), t = pre ++ suf → out.length ≤ pre.length → Ev (fun k => spec_TokensAt.l0 k t p out pre.length) (out ++ tokensAt p suf) := by
    intro suf
    induction suf with
    | nil =>
      intro pre out h ho
      refine Ev.step (fun k => spec_TokensAt.l0.eq_2 ..) ?_
      simp only [if_neg (end_at h), tokensAt, List.filter_nil, List.map_nil, List.append_nil]
      exact Ev.now _
    | cons a suf ih =>
      intro pre out h ho
      have hpl : pre.length ≤ 1048576 := by have : t.length = pre.length + (suf.length + 1) := by rw [h]; simp
                                            omega
      refine Ev.step (fun k => spec_TokensAt.l0.eq_2 ..) ?_
      simp only [if_pos (lt_at h), if_pos (nonneg_at _), rd_implLock h, next_at h hl, tokens_cons]
      refine Ev.bind (specCovers (ht.2 a (by rw [h]; simp)) hp) ?_
      by_cases c1 : covers a p = true
      · simp only [c1, if_true, show out.length < 17592186044416 by omega]
        exact ev_cast (ih (pre ++ [a]) _ (snoc_at h) (by simp; omega)) (by simp)
      · simp only [c1, Bool.false_eq_true, if_false]
        exact ih (pre ++ [a]) _ (snoc_at h) (by simp; omega)
  exact key t [] [] rfl (by simp)
theorem implTokens {t : List S28} {p : List ByteArray} (ht : SmLocks t) (hp : p.length ≤ 1048576) : Ev (fun k => impl_TokensAt.f k t p) (tokensAt p t) := by
  have hl0 := ht.1
  have hl : t.length ≤ maxLen := by rw [maxLen_eq]; omega
  have key : ∀ (suf pre : List S28) (out : List Int), t = pre ++ suf → out.length ≤ pre.length → Ev (fun k => impl_TokensAt.l0 k p out t (t.length : Int) pre.length) (out ++ tokensAt p suf) := by
    intro suf
    induction suf with
    | nil =>
      intro pre out h ho
      refine Ev.step (fun k => impl_TokensAt.l0.eq_2 ..) ?_
      simp only [if_neg (end_at h), tokensAt, List.filter_nil, List.map_nil, List.append_nil]
      exact Ev.now _
    | cons a suf ih =>
      intro pre out h ho
      have hpl : pre.length ≤ 1048576 := by have : t.length = pre.length + (suf.length + 1) := by rw [h]; simp
                                            omega
      refine Ev.step (fun k => impl_TokensAt.l0.eq_2 ..) ?_
      simp only [if_pos (lt_at h), if_pos (nonneg_at _), rd_implLock h, next_at h hl, tokens_cons]
      refine Ev.bind (implCovers (ht.2 a (by rw [h]; simp)) hp) ?_
      by_cases c1 : covers a p = true
      · simp only [c1, if_true, show out.length < 17592186044416 by omega]
        exact ev_cast (ih (pre ++ [a]) _ (snoc_at h) (by simp; omega)) (by simp)
      · simp only [c1, Bool.false_eq_true, if_false]
        exact ih (pre ++ [a]) _ (snoc_at h) (by simp; omega)
  exact key t [] [] rfl (by simp)
end Go.Proofs.Ytiddgglidkbipaa.L

/- Is a number in a list; as the program and the reference have it. No condition. -/
set_option linter.unusedSimpArgs false
set_option linter.unusedVariables false
namespace Go.Proofs.Ytiddgglidkbipaa.L
open Go.RowKit Go.Proofs.YtiddgglidkbipaaW.PrintWords Go.Proofs.YtiddgglidkbipaaW.PrintLast Go.Proofs.Ytiddgglidkbipaa.Q
theorem specHas {l : List Int} {n : Int} (hl : l.length ≤ maxLen) : Ev (fun k => spec_l13Has.f k l n) (decide (n ∈ l)) := by
  have key : ∀ (suf pre : List Int), l = pre ++ suf → Ev (fun k => spec_l13Has.l0 k l n pre.length) (decide (n ∈ suf)) := by
    intro suf
    induction suf with
    | nil =>
      intro pre h
      refine Ev.step (fun k => spec_l13Has.l0.eq_2 ..) ?_
      simp only [if_neg (end_at h), List.not_mem_nil, decide_false]
      exact Ev.now _
    | cons a suf ih =>
      intro pre h
      refine Ev.step (fun k => spec_l13Has.l0.eq_2 ..) ?_
      simp only [if_pos (lt_at h), if_pos (nonneg_at _), rd_int h, next_at h hl, List.mem_cons]
      by_cases e : a = n
      · simp only [e, if_true, true_or, decide_true]; exact Ev.now _
      · have e' : ¬ n = a := fun h => e h.symm
        simp only [e, e', if_false, false_or]; exact ih (pre ++ [a]) (snoc_at h)
  exact key l [] rfl
theorem implHas {l : List Int} {n : Int} (hl : l.length ≤ maxLen) : Ev (fun k => impl_hasInt.f k l n) (decide (n ∈ l)) := by
  have key : ∀ (suf pre : List Int), l = pre ++ suf → Ev (fun k => impl_hasInt.l0 k n l (l.length : Int) pre.length) (decide (n ∈ suf)) := by
    intro suf
    induction suf with
    | nil =>
      intro pre h
      refine Ev.step (fun k => impl_hasInt.l0.eq_2 ..) ?_
      simp only [if_neg (end_at h), List.not_mem_nil, decide_false]
      exact Ev.now _
    | cons a suf ih =>
      intro pre h
      refine Ev.step (fun k => impl_hasInt.l0.eq_2 ..) ?_
      simp only [if_pos (lt_at h), if_pos (nonneg_at _), rd_int h, next_at h hl, List.mem_cons]
      by_cases e : a = n
      · simp only [e, if_true, true_or, decide_true]; exact Ev.now _
      · have e' : ¬ n = a := fun h => e h.symm
        simp only [e, e', if_false, false_or]; exact ih (pre ++ [a]) (snoc_at h)
  exact key l [] rfl
end Go.Proofs.Ytiddgglidkbipaa.L
