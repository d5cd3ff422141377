/- What a reading of a parameter says of its cells, kind by kind: for the rows of laws whose parameters are slices and structs. No condition. -/
import Derived.Test.YtiddgglidkbipaaVFnAloneWWords
import Derived.Test.YtiddgglidkbipaaVFnAloneWApart
import Derived.Deep.Slices
import Derived.WideShapes
import Derived.Test.YtiddgglidkbipaaVFnAloneG22
import Derived.Laws.Strings
import Derived.Test.YtiddgglidkbipaaVFnAloneWLast
import Derived.Test.YtiddgglidkbipaaVFnAloneWMore
import Derived.Test.YtiddgglidkbipaaVFnAloneG24
import Derived.Test.YtiddgglidkbipaaVFnAloneG26
import Derived.Test.YtiddgglidkbipaaVFnAloneWFoot
import Derived.Test.YtiddgglidkbipaaVFnAloneWShare
import Derived.Test.YtiddgglidkbipaaVFnAloneG25
import Derived.Test.YtiddgglidkbipaaVFnAloneG23
import Derived.Lib.Bytealg
import Derived.Test.YtiddgglidkbipaaVFnAloneG27
namespace Go.Proofs.Ytiddgglidkbipaa.Op
open Go.RowKit Go.ChangeShapes Go.WideShapes Go.Proofs.YtiddgglidkbipaaW.PrintWords
def Opens {α H : Type} (enc : TypeId × Value → H) (P : Program) (w : World) (t : TypeId) (d : Kd α) (G : α → Prop) : Prop :=
  ∀ fuel cs x, DataW.trod enc P w 0 (fun _ => true) true fuel t cs = some x → ∃ a, d.K w a cs ∧ G a
section
variable {H : Type} {enc : TypeId × Value → H} {P : Program} {w : World} {t : TypeId}
theorem opens_int {k : IntKind} (ht : P.underlying t = some (.int k)) : Opens enc P w t (Kd.int k) (fun n => (Lit.int k n).wf = true) := by
  intro fuel cs x h
  obtain ⟨n, rfl, _, hn⟩ := DataW.trod_int ht h
  exact ⟨n, rfl, hn⟩
theorem opens_slice {α : Type} [Inhabited α] {e : TypeId} {d : Kd α} {G : α → Prop} (ht : P.underlying t = some (.slice e)) (hc : P.cellsOf e = d.sz) (he : Opens enc P w e d G) :
    Opens enc P w t (Kd.slice e d) (fun l => l.length ≤ maxLen ∧ ∀ a ∈ l, G a) := by
  intro fuel cs x h
  rcases Go.Deep.open_slice ht h with ⟨rfl, _⟩ | ⟨a, len, cap, m, n, D, Pl, rfl, _, hl, hm, hmm, _, hx⟩
  · exact ⟨[], ⟨none, 0, rfl, Nat.le_refl _, Kd.C_nil d w⟩, by simp, by simp⟩
  · have hm' : m = cap := by simpa using hmm
    have each : ∀ i, i < len → ∃ y : α, G y ∧ ∃ c, d.K w y c ∧ ∀ j u, c[j]? = some u → w.cell? (a.add (i * d.sz + j)) = some u := fun i hi => by
      obtain ⟨cs', h1, h2⟩ := hx i (by omega)
      obtain ⟨y, hK, hG⟩ := he _ _ _ h2
      obtain ⟨_, h3, h4⟩ := World.cells?_some h1
      refine ⟨y, hG, cs', hK, fun j u hu => ?_⟩
      have hj : j < P.cellsOf e := by
        have := (List.getElem?_eq_some_iff.1 hu).1
        omega
      have h5 := h4 j hj
      rw [Go.Deep.add_add, hc, hu] at h5
      exact h5
    obtain ⟨f, hf⟩ := Go.Deep.choose_lt each
    have hmax : maxLen = 9223372036854775807 := by decide
    refine ⟨(List.range len).map f, ⟨some a, cap, by simp, by simpa using hl, ?_⟩, by simp; omega, ?_⟩
    · refine ⟨rfl, by simp; omega, fun _ => ⟨a, rfl, fun j p hj => ?_⟩⟩
      have hjl : j < len := by
        have := (List.getElem?_eq_some_iff.1 hj).1
        simpa using this
      have hp : f j = p := by
        rw [List.getElem?_map, List.getElem?_range hjl] at hj
        simpa using hj
      obtain ⟨_, c, hK, hcell⟩ := hf j hjl
      exact ⟨c, d.K_len hK, hp ▸ hK, hcell⟩
    · intro y hy
      obtain ⟨j, hj, rfl⟩ := List.mem_map.1 hy
      exact (hf j (List.mem_range.1 hj)).1
end
end Go.Proofs.Ytiddgglidkbipaa.Op

/- What a reading of a struct says of its cells. No condition. -/
namespace Go.Proofs.Ytiddgglidkbipaa.Q
open Go.RowKit Go.ChangeShapes Go.WideShapes Go.Proofs.YtiddgglidkbipaaW.PrintWords Go.Proofs.Ytiddgglidkbipaa
set_option linter.unusedVariables false
set_option linter.unusedSimpArgs false
instance : Inhabited S24 := ⟨z24⟩
end Go.Proofs.Ytiddgglidkbipaa.Q

/- Small lemmas for plain laws over rounds: indices as lengths of what was passed, bytes' equality. No condition. -/
set_option linter.unusedSimpArgs false
set_option linter.unusedVariables false
namespace Go.Proofs.Ytiddgglidkbipaa.L
open Go.RowKit Go.Proofs.YtiddgglidkbipaaW.PrintWords Go.Proofs.YtiddgglidkbipaaW.PrintLast
theorem ba_toList (s : ByteArray) : s.toList = s.data.toList := ByteArray.toList_eq s
theorem ba_inj {a b : ByteArray} (h : a.toList = b.toList) : a = b := by
  rw [ba_toList, ba_toList] at h
  cases a with | mk x => cases b with | mk y => congr 1; exact Array.toList_inj.1 h
theorem ba_eq {a b : ByteArray} : (a.toList = b.toList) = (a = b) := propext ⟨ba_inj, fun h => by rw [h]⟩
theorem maxLen_eq : maxLen = 9223372036854775807 := by decide
theorem wrap_id {x : Int} (h0 : -9223372036854775808 ≤ x) (h1 : x < 9223372036854775808) : wrap64 x = x := by
  unfold wrap64
  omega
section
variable {α : Type} {l pre suf : List α} {a : α}
theorem lt_at (h : l = pre ++ a :: suf) : ((pre.length : Nat) : Int) < (l.length : Int) := by subst h; simp; omega
theorem rd_at (d : α) (h : l = pre ++ a :: suf) : rdOf d l (pre.length : Int) = a := by subst h; simp [rdOf, List.getD_eq_getElem?_getD]
theorem getD_at (d : α) (h : l = pre ++ a :: suf) : l.getD ((pre.length : Nat) : Int).toNat d = a := by subst h; simp [List.getD_eq_getElem?_getD]
theorem next_at (h : l = pre ++ a :: suf) (hl : l.length ≤ maxLen) : wrap64 ((pre.length : Int) + 1) = ((pre ++ [a]).length : Int) := by
  have : l.length = pre.length + 1 + suf.length := by subst h; simp; omega
  rw [maxLen_eq] at hl
  rw [wrap_id (by omega) (by omega)]
  simp
theorem snoc_at (h : l = pre ++ a :: suf) : l = (pre ++ [a]) ++ suf := by subst h; simp
theorem end_at (h : l = pre ++ []) : ¬ ((pre.length : Nat) : Int) < (l.length : Int) := by subst h; simp
theorem nonneg_at (n : Nat) : (0 : Int) ≤ (n : Int) := Int.natCast_nonneg n
end
def IntOk (x : Int) : Prop := -9223372036854775808 ≤ x ∧ x < 9223372036854775808
def SmS (l : List ByteArray) : Prop := l.length ≤ 1048576 ∧ ∀ s ∈ l, s.size ≤ 1048576
theorem eq_loop {α : Type} [DecidableEq α] {a b : List α} (g : Nat → Int → Option Bool)
    (hend : Ev (fun k => g k a.length) true)
    (hstep : ∀ pre x su pre' y sv, a = pre ++ x :: su → b = pre' ++ y :: sv → pre.length = pre'.length → (x ≠ y → Ev (fun k => g k (pre.length : Int)) false) ∧ (x = y → ∀ r, Ev (fun k => g k ((pre ++ [x]).length : Int)) r → Ev (fun k => g k (pre.length : Int)) r)) :
    ∀ (su sv pu pv : List α), a = pu ++ su → b = pv ++ sv → pu.length = pv.length → su.length = sv.length → Ev (fun k => g k (pu.length : Int)) (decide (su = sv)) := by
  intro su
  induction su with
  | nil =>
    intro sv pu pv h h' hp hs
    obtain rfl : sv = [] := by simpa using hs.symm
    rw [h, List.append_nil] at hend
    exact hend
  | cons x su ih =>
    intro sv pu pv h h' hp hs
    cases sv with
    | nil => simp at hs
    | cons y sv =>
      obtain ⟨h1, h2⟩ := hstep pu x su pv y sv h h' hp
      by_cases e : x = y
      · have h3 := h2 e _ (ih sv (pu ++ [x]) (pv ++ [y]) (snoc_at h) (snoc_at h') (by simp [hp]) (by simpa using hs))
        simp only [e, List.cons.injEq, true_and]
        exact h3
      · rw [show decide (x :: su = y :: sv) = false from decide_eq_false (fun h => e (List.cons.inj h).1)]
        exact h1 e
theorem ev_cast {α : Type} {g : Nat → Option α} {r s : α} (h : Ev g r) (e : r = s) : Ev g s := e ▸ h
end Go.Proofs.Ytiddgglidkbipaa.L

/- Draws from a code: the cursor's bytes and its place. No condition. -/
set_option linter.unusedSimpArgs false
set_option linter.unusedVariables false
namespace Go.Proofs.Ytiddgglidkbipaa.L
open Go.RowKit Go.Proofs.YtiddgglidkbipaaW.PrintWords Go.Proofs.YtiddgglidkbipaaW.PrintLast Go.Proofs.Ytiddgglidkbipaa.Q
def Cur (b : List Int) (p : Int) : Prop := 0 ≤ p ∧ p ≤ (b.length : Int) ∧ b.length ≤ 1048576
theorem wrapI64 {x : Int} (h0 : -9223372036854775808 ≤ x) (h1 : x < 9223372036854775808) : IntKind.i64.wrap x = x := by
  rw [i64_w, wrap_id h0 h1]
theorem and255 (x : Int) : 0 ≤ Go.bits .and .i64 x 255 ∧ Go.bits .and .i64 x 255 ≤ 255 := by
  unfold Go.bits
  have h : (BitVec.ofInt IntKind.i64.bits x &&& BitVec.ofInt IntKind.i64.bits 255).toNat ≤ 255 := by
    rw [BitVec.toNat_and]
    exact Nat.le_trans Nat.and_le_right (by decide)
  simp only
  rw [wrapI64 (by omega) (by omega)]
  omega
theorem byteD {b : List Int} {p : Int} (h : Cur b p) (s : Int) : ∃ v p' s', spec_l1Byte.f b p s = some (v, p', s') ∧ 0 ≤ v ∧ v ≤ 255 ∧ Cur b p' := by
  obtain ⟨h0, h1, h2⟩ := h
  unfold spec_l1Byte.f
  by_cases c : p < (b.length : Int)
  · rw [if_pos c, if_pos h0]
    refine ⟨_, _, _, rfl, (and255 _).1, (and255 _).2, ?_⟩
    rw [wrap_id (by omega) (by omega)]
    exact ⟨by omega, by omega, h2⟩
  · rw [if_neg c]
    exact ⟨_, _, _, rfl, (and255 _).1, (and255 _).2, h0, h1, h2⟩
theorem belowD {b : List Int} {p : Int} (h : Cur b p) (s : Int) {n : Int} (hn : 0 < n) : ∃ v p' s', spec_l1Below.f b p s n = some (v, p', s') ∧ 0 ≤ v ∧ v < n ∧ Cur b p' := by
  unfold spec_l1Below.f
  rw [if_neg (by omega)]
  by_cases c : n ≤ 256
  · rw [if_pos c]
    obtain ⟨v, p1, s1, e, v0, v1, h'⟩ := byteD h s
    simp only [e, Option.bind_some, if_neg (show ¬ n = 0 by omega)]
    exact ⟨_, _, _, rfl, Int.tmod_nonneg _ v0, Int.tmod_lt_of_pos _ hn, h'⟩
  · rw [if_neg c]
    obtain ⟨v, p1, s1, e, v0, v1, h1⟩ := byteD h s
    simp only [e, Option.bind_some]
    obtain ⟨v', p2, s2, e, v0', v1', h2⟩ := byteD h1 s1
    simp only [e, Option.bind_some]
    obtain ⟨v'', p3, s3, e, v0'', v1'', h3⟩ := byteD h2 s2
    simp only [e, Option.bind_some, if_neg (show ¬ n = 0 by omega)]
    rw [wrap_id (x := v * 65536) (by omega) (by omega), wrap_id (x := v' * 256) (by omega) (by omega), wrap_id (x := v * 65536 + v' * 256) (by omega) (by omega), wrap_id (by omega) (by omega)]
    exact ⟨_, _, _, rfl, Int.tmod_nonneg _ (by omega), Int.tmod_lt_of_pos _ hn, h3⟩
theorem belowD0 {b : List Int} {p : Int} (h : Cur b p) (s n : Int) : ∃ v p' s', spec_l1Below.f b p s n = some (v, p', s') ∧ 0 ≤ v ∧ Cur b p' := by
  by_cases c : 0 < n
  · obtain ⟨v, p', s', e, h0, _, h'⟩ := belowD h s c
    exact ⟨v, p', s', e, h0, h'⟩
  · unfold spec_l1Below.f
    rw [if_pos (by omega)]
    exact ⟨_, _, _, rfl, Int.le_refl _, h⟩
theorem onceD {b : List Int} {p : Int} (h : Cur b p) (s n : Int) : ∃ v p' s', spec_l1Once.f b p s n = some (v, p', s') ∧ Cur b p' := by
  obtain ⟨v, p', s', e, h0, h'⟩ := belowD0 h s n
  unfold spec_l1Once.f
  rw [e]
  exact ⟨_, _, _, rfl, h'⟩
theorem strD {b : List Int} {p : Int} (h : Cur b p) (s : Int) {l : List ByteArray} (hl : l ≠ []) : ∃ v p' s', spec_l1Str.f b p s l = some (v, p', s') ∧ v ∈ l ∧ Cur b p' := by
  have hpos : 0 < l.length := List.length_pos_iff.2 hl
  obtain ⟨v, p', s', e, h0, h1, h'⟩ := belowD h s (n := (l.length : Int)) (by omega)
  unfold spec_l1Str.f
  rw [e]
  simp only [Option.bind_some, if_pos h0, if_pos h1]
  refine ⟨_, _, _, rfl, ?_, h'⟩
  have hlt : v.toNat < l.length := by omega
  unfold rdOf
  rw [List.getD_eq_getElem?_getD, List.getElem?_eq_getElem hlt]
  exact List.getElem_mem hlt
theorem newD {l : List Int} (hl : l.length ≤ 1048576) : ∃ s, Ev (fun k => spec_l1New.f k l) (l, 0, s) := by
  have key : ∀ (suf pre : List Int) (x : Int), l = pre ++ suf → ∃ s, Ev (fun k => spec_l1New.l0 k l x pre.length) (l, 0, s) := by
    intro suf
    induction suf with
    | nil =>
      intro pre x h
      refine ⟨x, ?_⟩
      refine Ev.step (fun k => spec_l1New.l0.eq_2 ..) ?_
      simp only [if_neg (end_at h)]
      exact Ev.now _
    | cons a suf ih =>
      intro pre x h
      by_cases c : (pre.length : Int) < 4000
      · obtain ⟨s, hs⟩ := ih (pre ++ [a]) _ (snoc_at h)
        refine ⟨s, ?_⟩
        refine Ev.step (fun k => spec_l1New.l0.eq_2 ..) ?_
        simp only [if_pos (lt_at h), if_pos c, if_pos (nonneg_at _), next_at h (show l.length ≤ maxLen by rw [maxLen_eq]; omega)]
        exact hs
      · refine ⟨x, ?_⟩
        refine Ev.step (fun k => spec_l1New.l0.eq_2 ..) ?_
        simp only [if_pos (lt_at h), if_neg c]
        exact Ev.now _
  exact key l [] _ rfl
theorem cur0 {l : List Int} (hl : l.length ≤ 1048576) : Cur l 0 := ⟨Int.le_refl _, by omega, hl⟩
end Go.Proofs.Ytiddgglidkbipaa.L

/- Draws of paths. No condition. -/
set_option linter.unusedSimpArgs false
set_option linter.unusedVariables false
namespace Go.Proofs.Ytiddgglidkbipaa.L
open Go.RowKit Go.Proofs.YtiddgglidkbipaaW.PrintWords Go.Proofs.YtiddgglidkbipaaW.PrintLast Go.Proofs.Ytiddgglidkbipaa.Q
def SmP (n : Nat) (l : List ByteArray) : Prop := l.length ≤ n ∧ ∀ x ∈ l, x.size ≤ 1000
theorem SmP.sm {n : Nat} {l : List ByteArray} (h : SmP n l) (hn : n ≤ 1048576) : SmS l := ⟨Nat.le_trans h.1 hn, fun x hx => Nat.le_trans (h.2 x hx) (by omega)⟩
theorem mem_sz2 {v : ByteArray} {l : List ByteArray} (h : v ∈ l) (hl : l.all (fun x => decide (x.size ≤ 1000)) = true) : v.size ≤ 1000 := of_decide_eq_true (List.all_eq_true.1 hl v h)
theorem nameD {b : List Int} {p : Int} (h : Cur b p) (s : Int) : ∃ v p' s', spec_l2Name.f b p s = some (v, p', s') ∧ v.size ≤ 1000 ∧ Cur b p' := by
  unfold spec_l2Name.f
  obtain ⟨v, p1, s1, e, m, h1⟩ := strD h s (l := [(⟨#[97]⟩ : ByteArray), (⟨#[98]⟩ : ByteArray), (⟨#[99]⟩ : ByteArray), (⟨#[97, 32, 98]⟩ : ByteArray), (⟨#[120, 37, 121]⟩ : ByteArray), (⟨#[97]⟩ : ByteArray), (⟨#[98]⟩ : ByteArray)]) (by simp)
  simp only [e, Option.bind_some]
  exact ⟨_, _, _, rfl, mem_sz2 m (by decide), h1⟩
theorem l2DrawD {b : List Int} {p : Int} (h : Cur b p) (s : Int) : ∃ l p' s', Ev (fun k => spec_l2Draw.f k b p s) (l, p', s') ∧ SmP 3 l ∧ Cur b p' := by
  unfold spec_l2Draw.f
  obtain ⟨v, p1, s1, e, v0, v1, h1⟩ := belowD h s (n := 4) (by omega)
  simp only [e, Option.bind_some]
  have key : ∀ (n : Nat) (out : List ByteArray) (q t : Int), (out.length + n ≤ 3 ∧ ∀ x ∈ out, x.size ≤ 1000) → Cur b q → ∃ l p' s', Ev (fun k => spec_l2Draw.l0 k out (n : Int) b q t) (l, p', s') ∧ SmP 3 l ∧ Cur b p' := by
    intro n
    induction n with
    | zero =>
      intro out q t ho hq
      refine ⟨out, q, t, ?_, ⟨by omega, ho.2⟩, hq⟩
      refine Ev.step (fun k => spec_l2Draw.l0.eq_2 ..) ?_
      simp only [if_neg (show ¬ ((0 : Nat) : Int) > 0 by decide)]
      exact Ev.now _
    | succ n ih =>
      intro out q t ho hq
      obtain ⟨x, q1, t1, e, m, hq1⟩ := nameD hq t
      obtain ⟨l, q2, t2, he, hl, hq2⟩ := ih (out ++ [x]) q1 t1 ⟨by simp; omega, fun y hy => by
        rcases List.mem_append.1 hy with hy | hy
        · exact ho.2 y hy
        · simp at hy; subst hy; exact m⟩ hq1
      refine ⟨l, q2, t2, ?_, hl, hq2⟩
      refine Ev.step (fun k => spec_l2Draw.l0.eq_2 ..) ?_
      simp only [if_pos (show ((n + 1 : Nat) : Int) > 0 by omega), e, Option.bind_some, if_pos (show out.length < 8796093022208 by omega)]
      rw [show wrap64 (((n + 1 : Nat) : Int) - 1) = (n : Int) by rw [wrap_id (by omega) (by omega)]; omega]
      exact he
  obtain ⟨n, rfl⟩ := Int.eq_ofNat_of_zero_le v0
  exact key n [] p1 s1 ⟨by simp; omega, by simp⟩ h1
end Go.Proofs.Ytiddgglidkbipaa.L

/- A printed walk's contract told more sharply: the result's elements' rows lie apart. No condition. -/
namespace Go.Proofs.Ytiddgglidkbipaa.Q
open Go.RowKit Go.Proofs.YtiddgglidkbipaaW.PrintWords Go.Proofs.YtiddgglidkbipaaW.PrintLast Go.Proofs.YtiddgglidkbipaaW.PrintMore
attribute [local go_sem] max2_int min2_int max_two min_two max_three min_three max_four min_four
set_option linter.unusedVariables false
set_option linter.unusedSimpArgs false
abbrev spec_AddLockX.f (k : Nat) (l0 : List (S28)) (a1_0 : Int) (l1_1 : List ByteArray) (a1_2 : Bool) (a1_3 : Bool) (a1_4 : Int) : Option ((List (S28)) × Bool) := spec_AddLock.f k l0 a1_0 l1_1 a1_2 a1_3 a1_4
theorem heap_spec_AddLock0 : Kd.Heap (k28) := by (try unfold k28); repeat (first | apply Kd.heap_iso | apply Kd.heap_pair | apply Kd.heap_slice | exact Kd.heap_int _ | exact Kd.heap_string | exact Kd.heap_bool | exact Kd.heap_scalar)
theorem heap_spec_AddLock1_1 : Kd.Heap (Kd.string) := by (try unfold Kd.slice); repeat (first | apply Kd.heap_iso | apply Kd.heap_pair | apply Kd.heap_slice | exact Kd.heap_int _ | exact Kd.heap_string | exact Kd.heap_bool | exact Kd.heap_scalar)
theorem spec_AddLockX.calls (k : Nat) (A0 : Option Addr) (c0 : Nat) (l0 : List (S28)) (a1_0 : Int) (A1_1 : Option Addr) (c1_1 : Nat) (l1_1 : List ByteArray) (a1_2 : Bool) (a1_3 : Bool) (a1_4 : Int) (r1 : List (S28)) (r2 : Bool) (w : World) (hr0 : Kd.C k28 w A0 l0.length l0) (hc0 : l0.length ≤ c0) (hr1_1 : Kd.C Kd.string w A1_1 l1_1.length l1_1) (hc1_1 : l1_1.length ≤ c1_1) (h : spec_AddLockX.f k l0 a1_0 l1_1 a1_2 a1_3 a1_4 = some (r1, r2)) :
    Calls Try.prog 47 #[.slice A0 l0.length c0, .agg #[.int .i64 a1_0, .slice A1_1 l1_1.length c1_1, .bool a1_2, .bool a1_3, .int .i64 a1_4]] w fun e w' => ∃ v0_ : Value, e = .returned (.tuple #[v0_, .bool r2]) ∧ Kd.S k28 28 w' w.heap.size (fun k_ => (w.heap.size ≤ k_)) v0_ r1 ∧ Below w.heap.size w w' := by
  exact spec_AddLock.calls k (fun k_ => k_ < w.heap.size) A0 c0 l0 a1_0 (fun k_ => k_ < w.heap.size) A1_1 c1_1 l1_1 a1_2 a1_3 a1_4 r1 r2 w (Kd.V_mk hc0 (Kd.C_F heap_spec_AddLock0 hr0)) (Kd.V_mk hc1_1 (Kd.C_F heap_spec_AddLock1_1 hr1_1)) h
end Go.Proofs.Ytiddgglidkbipaa.Q

/- The laws' own functions over a mirrored struct (Lock): size, copy, equality. No condition. -/
set_option linter.unusedSimpArgs false
set_option linter.unusedVariables false
namespace Go.Proofs.Ytiddgglidkbipaa.L
open Go.RowKit Go.Proofs.YtiddgglidkbipaaW.PrintWords Go.Proofs.YtiddgglidkbipaaW.PrintLast Go.Proofs.Ytiddgglidkbipaa.Q
instance : DecidableEq S28 := fun a b => if h : a.f0 = b.f0 ∧ a.f1 = b.f1 ∧ a.f2 = b.f2 ∧ a.f3 = b.f3 ∧ a.f4 = b.f4 then .isTrue (by cases a; cases b; simp_all) else .isFalse (fun e => h (by rw [e]; exact ⟨rfl, rfl, rfl, rfl, rfl⟩))
theorem rd_implLock {l pre suf : List S28} {a : S28} (h : l = pre ++ a :: suf) : rd_T28 l (pre.length : Int) = a := getD_at _ h
def SmLock (p : S28) : Prop := IntOk p.f0 ∧ SmS p.f1 ∧ True ∧ True ∧ IntOk p.f4
def SmLocks (l : List S28) : Prop := l.length ≤ 1048576 ∧ ∀ p ∈ l, SmLock p
end Go.Proofs.Ytiddgglidkbipaa.L

/- Paths: are they the same, is one under the other; as the program and the reference have it. No condition. -/
set_option linter.unusedSimpArgs false
set_option linter.unusedVariables false
namespace Go.Proofs.Ytiddgglidkbipaa.L
open Go.RowKit Go.Proofs.YtiddgglidkbipaaW.PrintWords Go.Proofs.YtiddgglidkbipaaW.PrintLast Go.Proofs.Ytiddgglidkbipaa.Q
theorem specSame {a b : List ByteArray} (hl : a.length ≤ maxLen) : Ev (fun k => spec_SamePath.f k a b) (decide (a = b)) := by
  unfold spec_SamePath.f
  by_cases e : (a.length : Int) = (b.length : Int)
  · simp only [if_pos e]
    refine eq_loop (a := a) (b := b) (fun k i => spec_SamePath.l0 k a b i) ?_ ?_ a b [] [] rfl rfl rfl (by omega)
    · refine Ev.step (fun k => spec_SamePath.l0.eq_2 ..) ?_
      simp only [Int.lt_irrefl, if_false]
      exact Ev.now _
    · intro pre x su pre' y sv h h' hp
      have h3 := rd_at ByteArray.empty h'
      have h4 := lt_at h'
      rw [← hp] at h3 h4
      refine ⟨fun hne => ?_, fun heq r hr => ?_⟩
      · refine Ev.step (fun k => spec_SamePath.l0.eq_2 ..) ?_
        simp only [if_pos (lt_at h), if_pos (nonneg_at _), if_pos h4, rd_at _ h, h3, ba_eq, hne, if_false]
        exact Ev.now _
      · refine Ev.step (fun k => spec_SamePath.l0.eq_2 ..) ?_
        simp only [if_pos (lt_at h), if_pos (nonneg_at _), if_pos h4, rd_at _ h, h3, heq, if_true, next_at h hl]
        rw [heq] at hr
        exact hr
  · simp only [if_neg e]
    rw [show decide (a = b) = false from decide_eq_false (fun h => e (by rw [h]))]
    exact Ev.now _
theorem implSame {a b : List ByteArray} (hl : a.length ≤ maxLen) : Ev (fun k => impl_SamePath.f k a b) (decide (a = b)) := by
  unfold impl_SamePath.f
  by_cases e : (a.length : Int) = (b.length : Int)
  · simp only [if_pos e]
    refine eq_loop (a := a) (b := b) (fun k i => impl_SamePath.l0 k a b (a.length : Int) i) ?_ ?_ a b [] [] rfl rfl rfl (by omega)
    · refine Ev.step (fun k => impl_SamePath.l0.eq_2 ..) ?_
      simp only [Int.lt_irrefl, if_false]
      exact Ev.now _
    · intro pre x su pre' y sv h h' hp
      have h3 := rd_at ByteArray.empty h'
      have h4 := lt_at h'
      rw [← hp] at h3 h4
      refine ⟨fun hne => ?_, fun heq r hr => ?_⟩
      · refine Ev.step (fun k => impl_SamePath.l0.eq_2 ..) ?_
        simp only [if_pos (lt_at h), if_pos (nonneg_at _), if_pos h4, rd_at _ h, h3, ba_eq, hne, if_false]
        exact Ev.now _
      · refine Ev.step (fun k => impl_SamePath.l0.eq_2 ..) ?_
        simp only [if_pos (lt_at h), if_pos (nonneg_at _), if_pos h4, rd_at _ h, h3, heq, if_true, next_at h hl]
        rw [heq] at hr
        exact hr
  · simp only [if_neg e]
    rw [show decide (a = b) = false from decide_eq_false (fun h => e (by rw [h]))]
    exact Ev.now _
end Go.Proofs.Ytiddgglidkbipaa.L

/- Is a path under another one; as the program and the reference have it. No condition. -/
set_option linter.unusedSimpArgs false
set_option linter.unusedVariables false
namespace Go.Proofs.Ytiddgglidkbipaa.L
open Go.RowKit Go.Proofs.YtiddgglidkbipaaW.PrintWords Go.Proofs.YtiddgglidkbipaaW.PrintLast Go.Proofs.Ytiddgglidkbipaa.Q
def under (p head : List ByteArray) : Bool := decide (head.length < p.length) && decide (p.take head.length = head)
theorem specUnder {p head : List ByteArray} (hl : p.length ≤ 1048576) : Ev (fun k => spec_Under.f k p head) (under p head) := by
  unfold spec_Under.f under
  by_cases e : (p.length : Int) > (head.length : Int)
  · simp only [if_pos e, if_pos (nonneg_at _), if_pos (show (head.length : Int) ≤ p.length by omega), Int.toNat_natCast, show head.length < p.length by omega, decide_true, Bool.true_and]
    exact Ev.bind (specSame (by rw [maxLen_eq]; simp; omega)) (Ev.now _)
  · simp only [if_neg e, show ¬ head.length < p.length by omega, decide_false, Bool.false_and]
    exact Ev.now _
theorem implUnder {p head : List ByteArray} (hl : p.length ≤ 1048576) : Ev (fun k => impl_Under.f k p head) (under p head) := by
  unfold impl_Under.f under
  by_cases e : (p.length : Int) > (head.length : Int)
  · simp only [if_pos e, if_pos (nonneg_at _), if_pos (show (head.length : Int) ≤ p.length by omega), Int.toNat_natCast, show head.length < p.length by omega, decide_true, Bool.true_and]
    exact Ev.bind (implSame (by rw [maxLen_eq]; simp; omega)) (Ev.now _)
  · simp only [if_neg e, show ¬ head.length < p.length by omega, decide_false, Bool.false_and]
    exact Ev.now _
end Go.Proofs.Ytiddgglidkbipaa.L

/- What a lock covers, whether two clash; as the program and the reference have it. No condition. -/
set_option linter.unusedSimpArgs false
set_option linter.unusedVariables false
namespace Go.Proofs.Ytiddgglidkbipaa.L
open Go.RowKit Go.Proofs.YtiddgglidkbipaaW.PrintWords Go.Proofs.YtiddgglidkbipaaW.PrintLast Go.Proofs.Ytiddgglidkbipaa.Q
def covers (x : S28) (p : List ByteArray) : Bool := decide (x.f1 = p) || (x.f2 && under p x.f1)
theorem specCovers {x : S28} {p : List ByteArray} (hx : SmLock x) (hp : p.length ≤ 1048576) : Ev (fun k => spec_Covers.f k x.f0 x.f1 x.f2 x.f3 x.f4 p) (covers x p) := by
  unfold spec_Covers.f covers
  refine Ev.bind (specSame (by have := hx.2.1.1; rw [maxLen_eq]; omega)) ?_
  by_cases e : x.f1 = p
  · simp only [e, decide_true, if_true, Bool.true_or]; exact Ev.now _
  · simp only [e, decide_false, Bool.false_eq_true, if_false, Bool.false_or]
    by_cases d : x.f2 = true
    · simp only [d, if_true, Bool.true_and]; exact Ev.bind (specUnder hp) (Ev.now _)
    · simp only [d, Bool.false_eq_true, if_false, Bool.false_and]; exact Ev.now _
theorem implCovers {x : S28} {p : List ByteArray} (hx : SmLock x) (hp : p.length ≤ 1048576) : Ev (fun k => impl_Covers.f k x.f0 x.f1 x.f2 x.f3 x.f4 p) (covers x p) := by
  unfold impl_Covers.f covers
  refine Ev.bind (implSame (by have := hx.2.1.1; rw [maxLen_eq]; omega)) ?_
  by_cases e : x.f1 = p
  · simp only [e, decide_true, if_true, Bool.true_or]; exact Ev.now _
  · simp only [e, decide_false, Bool.false_eq_true, if_false, Bool.false_or]
    by_cases d : x.f2 = true
    · simp only [d, if_true, Bool.true_and]; exact Ev.bind (implUnder hp) (Ev.now _)
    · simp only [d, Bool.false_eq_true, if_false, Bool.false_and]; exact Ev.now _
def clash (a b : S28) : Bool := !(a.f3 && b.f3) && (covers a b.f1 || covers b a.f1)
theorem clash_comm (a b : S28) : clash a b = clash b a := by
  unfold clash
  rw [Bool.and_comm a.f3 b.f3, Bool.or_comm]
theorem specClash {a b : S28} (ha : SmLock a) (hb : SmLock b) : Ev (fun k => spec_LockClash.f k a.f0 a.f1 a.f2 a.f3 a.f4 b.f0 b.f1 b.f2 b.f3 b.f4) (clash a b) := by
  have fin : Ev (fun k => (spec_Covers.f k a.f0 a.f1 a.f2 a.f3 a.f4 b.f1).bind fun t174 => if t174 = true then some true else (spec_Covers.f k b.f0 b.f1 b.f2 b.f3 b.f4 a.f1).bind fun t175 => some t175) (covers a b.f1 || covers b a.f1) := by
    refine Ev.bind (specCovers ha hb.2.1.1) ?_
    by_cases e : covers a b.f1 = true
    · simp only [e, if_true, Bool.true_or]; exact Ev.now _
    · simp only [e, Bool.false_eq_true, if_false, Bool.false_or]; exact Ev.bind (specCovers hb ha.2.1.1) (Ev.now _)
  unfold spec_LockClash.f clash
  by_cases ea : a.f3 = true <;> by_cases eb : b.f3 = true
  · simp only [ea, eb, if_true, Bool.and_self, Bool.not_true, Bool.false_and]; exact Ev.now _
  · simp only [ea, eb, Bool.false_eq_true, if_true, if_false, Bool.and_false, Bool.not_false, Bool.true_and] at fin ⊢; exact fin
  · simp only [ea, eb, Bool.false_eq_true, if_false, Bool.false_and, Bool.not_false, Bool.true_and] at fin ⊢; exact fin
  · simp only [ea, eb, Bool.false_eq_true, if_false, Bool.false_and, Bool.not_false, Bool.true_and] at fin ⊢; exact fin
theorem implClash {a b : S28} (ha : SmLock a) (hb : SmLock b) : Ev (fun k => impl_LockClash.f k a.f0 a.f1 a.f2 a.f3 a.f4 b.f0 b.f1 b.f2 b.f3 b.f4) (clash a b) := by
  have fin : Ev (fun k => (impl_Covers.f k a.f0 a.f1 a.f2 a.f3 a.f4 b.f1).bind fun t174 => if t174 = true then some true else (impl_Covers.f k b.f0 b.f1 b.f2 b.f3 b.f4 a.f1).bind fun t175 => some t175) (covers a b.f1 || covers b a.f1) := by
    refine Ev.bind (implCovers ha hb.2.1.1) ?_
    by_cases e : covers a b.f1 = true
    · simp only [e, if_true, Bool.true_or]; exact Ev.now _
    · simp only [e, Bool.false_eq_true, if_false, Bool.false_or]; exact Ev.bind (implCovers hb ha.2.1.1) (Ev.now _)
  unfold impl_LockClash.f clash
  by_cases ea : a.f3 = true <;> by_cases eb : b.f3 = true
  · simp only [ea, eb, if_true, Bool.and_self, Bool.not_true, Bool.false_and]; exact Ev.now _
  · simp only [ea, eb, Bool.false_eq_true, if_true, if_false, Bool.and_false, Bool.not_false, Bool.true_and] at fin ⊢; exact fin
  · simp only [ea, eb, Bool.false_eq_true, if_false, Bool.false_and, Bool.not_false, Bool.true_and] at fin ⊢; exact fin
  · simp only [ea, eb, Bool.false_eq_true, if_false, Bool.false_and, Bool.not_false, Bool.true_and] at fin ⊢; exact fin
end Go.Proofs.Ytiddgglidkbipaa.L

/- Texts byte by byte: plain texts, small names, as the program and the reference have them. No condition. -/
set_option linter.unusedSimpArgs false
set_option linter.unusedVariables false
namespace Go.Proofs.Ytiddgglidkbipaa.L
open Go.RowKit Go.Proofs.YtiddgglidkbipaaW.PrintWords Go.Proofs.YtiddgglidkbipaaW.PrintLast Go.Proofs.Ytiddgglidkbipaa.Q
abbrev bl (s : ByteArray) : List UInt8 := s.data.toList
theorem bl_len (s : ByteArray) : (bl s).length = s.size := data_length s
section
variable {s : ByteArray} {pre suf : List UInt8} {c : UInt8}
theorem blt_at (h : bl s = pre ++ c :: suf) : ((pre.length : Nat) : Int) < (s.size : Int) := by
  have := bl_len s
  rw [h] at this
  simp at this
  omega
theorem bend_at (h : bl s = pre ++ []) : ¬ ((pre.length : Nat) : Int) < (s.size : Int) := by
  have := bl_len s
  rw [h] at this
  simp at this
  omega
theorem bt_at' (h : bl s = pre ++ c :: suf) : bt s (pre.length : Int) = (c.toNat : Int) := by
  have hlt := blt_at h
  have h2 : pre.length < s.size := by omega
  rw [← bt_at s (pre.length : Int) (by simpa using h2)]
  have h3 : pre.length < (bl s).length := by rw [bl_len]; exact h2
  have h4 : (bl s)[pre.length] = c := by simp [h]
  have h5 : s[pre.length]'h2 = (bl s)[pre.length] := by
    show s.data[pre.length] = _
    simp
  simp only [Int.toNat_natCast, h5, h4]
theorem bnext_at (h : bl s = pre ++ c :: suf) (hs : s.size ≤ maxLen) : wrap64 ((pre.length : Int) + 1) = ((pre ++ [c]).length : Int) := by
  have := blt_at h
  rw [maxLen_eq] at hs
  rw [wrap_id (by omega) (by omega)]
  simp
end
theorem byte_bounds (c : UInt8) : 0 ≤ (c.toNat : Int) ∧ (c.toNat : Int) ≤ 255 := ⟨by omega, by have := c.toNat_lt; omega⟩
theorem wrap_byte (c : UInt8) : wrap64 (c.toNat : Int) = (c.toNat : Int) := wrap_id (by omega) (by have := byte_bounds c; omega)
def inB (lo hi : Int) (c : UInt8) : Bool := decide (lo ≤ (c.toNat : Int) ∧ (c.toNat : Int) ≤ hi)
theorem specIn (a b c : Int) : spec_l1In.f a b c = some (decide (b ≤ a ∧ a ≤ c)) := by
  unfold spec_l1In.f
  by_cases h : a ≥ b
  · rw [if_pos h]; simp [show b ≤ a from h]
  · rw [if_neg h]; simp [show ¬ b ≤ a from h]
theorem implIn (a b c : Int) : impl_in.f a b c = some (decide (b ≤ a ∧ a ≤ c)) := by
  unfold impl_in.f
  by_cases h : a ≥ b
  · rw [if_pos h]; simp [show b ≤ a from h]
  · rw [if_neg h]; simp [show ¬ b ≤ a from h]
theorem implIsPlain (c : UInt8) : impl_isPlain.f (c.toNat : Int) = some (inB 32 126 c) := by
  unfold impl_isPlain.f inB
  by_cases h : (c.toNat : Int) ≥ 32
  · rw [if_pos h]; simp only [show (32 : Int) ≤ c.toNat from h, true_and]
  · rw [if_neg h]; simp only [show ¬ (32 : Int) ≤ c.toNat from h, false_and, decide_false]
def plainL (l : List UInt8) : Bool := l.all (inB 32 126)
theorem specPlain_loop {s : ByteArray} (hs : s.size ≤ maxLen) : ∀ (suf pre : List UInt8), bl s = pre ++ suf → Ev (fun k => spec_Plain.l0 k s pre.length) (plainL suf) := by
  intro suf
  induction suf with
  | nil =>
    intro pre h
    refine Ev.step (fun k => spec_Plain.l0.eq_2 ..) ?_
    simp only [if_neg (bend_at h)]
    exact Ev.now _
  | cons c suf ih =>
    intro pre h
    refine Ev.step (fun k => spec_Plain.l0.eq_2 ..) ?_
    simp only [if_pos (blt_at h), if_pos (nonneg_at _), bt_at' h, wrap_byte, specIn, Option.bind_some, bnext_at h hs]
    have := ih (pre ++ [c]) (snoc_at h)
    simp only [plainL, List.all_cons, inB] at this ⊢
    by_cases e : (32 : Int) ≤ c.toNat ∧ (c.toNat : Int) ≤ 126
    · simp only [e, and_self, decide_true, if_true, Bool.true_and]
      exact this
    · simp only [e, decide_false, Bool.false_eq_true, if_false, Bool.false_and]
      exact Ev.now _
theorem specPlain {s : ByteArray} (hs : s.size ≤ maxLen) : Ev (fun k => spec_Plain.f k s) (plainL (bl s)) := specPlain_loop hs _ [] rfl
theorem implPlain_loop {s : ByteArray} (hs : s.size ≤ maxLen) : ∀ (suf pre : List UInt8), bl s = pre ++ suf → Ev (fun k => impl_Plain.l0 k s pre.length) (plainL suf) := by
  intro suf
  induction suf with
  | nil =>
    intro pre h
    refine Ev.step (fun k => impl_Plain.l0.eq_2 ..) ?_
    simp only [if_neg (bend_at h)]
    exact Ev.now _
  | cons c suf ih =>
    intro pre h
    refine Ev.step (fun k => impl_Plain.l0.eq_2 ..) ?_
    simp only [if_pos (blt_at h), if_pos (nonneg_at _), bt_at' h, implIsPlain, Option.bind_some, bnext_at h hs]
    have := ih (pre ++ [c]) (snoc_at h)
    simp only [plainL, List.all_cons] at this ⊢
    by_cases e : inB 32 126 c = true
    · simp only [e, if_true, Bool.true_and]
      exact this
    · simp only [e, if_false, Bool.false_and]
      exact Ev.now _
theorem implPlain {s : ByteArray} (hs : s.size ≤ maxLen) : Ev (fun k => impl_Plain.f k s) (plainL (bl s)) := implPlain_loop hs _ [] rfl
end Go.Proofs.Ytiddgglidkbipaa.L

/- Names and paths: are they right; as the program and the reference have it. No condition. -/
set_option linter.unusedSimpArgs false
set_option linter.unusedVariables false
namespace Go.Proofs.Ytiddgglidkbipaa.L
open Go.RowKit Go.Proofs.YtiddgglidkbipaaW.PrintWords Go.Proofs.YtiddgglidkbipaaW.PrintLast Go.Proofs.Ytiddgglidkbipaa.Q
theorem indexByte_mem (l : List UInt8) (c : UInt8) : (0 ≤ Lib.indexByte l c) ↔ c ∈ l := by
  induction l with
  | nil => simp [Lib.indexByte]
  | cons b l ih =>
    have hge := Lib.indexByte_ge l c
    unfold Lib.indexByte
    by_cases e : b = c
    · simp [e]
    · have e' : ¬ c = b := fun h => e h.symm
      simp only [beq_iff_eq, e, if_false, List.mem_cons, e', false_or]
      rw [← ih]
      by_cases h : Lib.indexByte l c = -1
      · simp [h]
      · simp only [h, if_false]; omega
theorem ba_toList_eq (s : ByteArray) (l : List UInt8) : (s.toList = l) = (bl s = l) := by rw [ba_toList]
def nameOk (s : ByteArray) : Bool := decide (47 ∉ bl s) && (decide (1 ≤ (s.size : Int) ∧ (s.size : Int) ≤ 8) && (plainL (bl s) && (decide (bl s ≠ [46]) && decide (bl s ≠ [46, 46]))))
theorem eq47 (c : UInt8) : ((c.toNat : Int) = 47) = (c = 47) := by
  apply propext
  constructor
  · intro h
    apply UInt8.toNat_inj.1
    show c.toNat = 47
    omega
  · rintro rfl
    rfl
theorem bne_dec {α : Type} [BEq α] [LawfulBEq α] [DecidableEq α] (a b : α) : (a != b) = decide (a ≠ b) := by
  by_cases e : a = b <;> simp [e]
theorem specNameOk {s : ByteArray} (hs : s.size ≤ 1048576) : Ev (fun k => spec_NameOk.f k s) (nameOk s) := by
  have hm : s.size ≤ maxLen := by rw [maxLen_eq]; omega
  have key : ∀ (suf pre : List UInt8), bl s = pre ++ suf → Ev (fun k => spec_NameOk.l0 k s pre.length) (decide (47 ∉ suf) && (decide (1 ≤ (s.size : Int) ∧ (s.size : Int) ≤ 8) && (plainL (bl s) && (decide (bl s ≠ [46]) && decide (bl s ≠ [46, 46]))))) := by
    intro suf
    induction suf with
    | nil =>
      intro pre h
      refine Ev.step (fun k => spec_NameOk.l0.eq_2 ..) ?_
      simp only [if_neg (bend_at h), specIn, Option.bind_some, List.not_mem_nil, not_false_eq_true, decide_true, Bool.true_and]
      by_cases c0 : 1 ≤ (s.size : Int) ∧ (s.size : Int) ≤ 8
      · simp only [c0, decide_true, if_true, and_self, Bool.true_and]
        refine Ev.bind (specPlain hm) ?_
        by_cases c1 : plainL (bl s) = true
        · simp only [c1, if_true, Bool.true_and, ba_toList_eq, bne_dec, ba_toList]
          by_cases c2 : bl s = [46]
          · simp only [c2, if_true]
            exact Ev.now _
          · simp only [c2, if_false, ne_eq, not_false_eq_true, decide_true, Bool.true_and]
            exact Ev.now _
        · simp only [c1, Bool.false_eq_true, if_false, Bool.false_and]
          exact Ev.now _
      · simp only [c0, decide_false, Bool.false_eq_true, if_false, Bool.false_and]
        exact Ev.now _
    | cons c suf ih =>
      intro pre h
      refine Ev.step (fun k => spec_NameOk.l0.eq_2 ..) ?_
      simp only [if_pos (blt_at h), if_pos (nonneg_at _), bt_at' h, eq47, bnext_at h hm]
      by_cases e : c = 47
      · simp only [e, if_true, List.mem_cons, true_or, not_true_eq_false, decide_false, Bool.false_and]
        exact Ev.now _
      · have e' : ¬ 47 = c := fun h => e h.symm
        simp only [e, if_false, List.mem_cons, e', false_or]
        exact ih (pre ++ [c]) (snoc_at h)
  exact key _ [] rfl
theorem implNameOk {s : ByteArray} (hs : s.size ≤ 1048576) : Ev (fun k => impl_NameOk.f k s) (nameOk s) := by
  have hm : s.size ≤ maxLen := by rw [maxLen_eq]; omega
  unfold impl_NameOk.f nameOk
  simp only [implIn, Option.bind_some]
  by_cases c0 : 1 ≤ (s.size : Int) ∧ (s.size : Int) ≤ 8
  · simp only [c0, decide_true, if_true, and_self, Bool.true_and]
    refine Ev.bind (implPlain hm) ?_
    by_cases c1 : plainL (bl s) = true
    · simp only [c1, if_true, Bool.true_and, strings_Contains.f, Option.bind_some, decide_eq_true_eq, indexByte_mem, ba_toList_eq, bne_dec, ba_toList]
      by_cases c2 : (47 : UInt8) ∈ s.data.toList
      · simp only [c2, if_true, not_true_eq_false, decide_false, Bool.false_and]
        exact Ev.now _
      · simp only [c2, if_false, not_false_eq_true, decide_true, Bool.true_and]
        by_cases c3 : bl s = [46]
        · simp only [c3, if_true]
          exact Ev.now _
        · simp only [c3, if_false, ne_eq, not_false_eq_true, decide_true, Bool.true_and]
          exact Ev.now _
    · simp only [c1, Bool.false_eq_true, if_false, Bool.false_and, Bool.and_false]
      exact Ev.now _
  · simp only [c0, decide_false, Bool.false_eq_true, if_false, Bool.false_and, Bool.and_false]
    exact Ev.now _
def pathOk (p : List ByteArray) : Bool := p.all nameOk && decide ((p.length : Int) ≤ 4)
theorem specPathOk {p : List ByteArray} (hp : SmS p) : Ev (fun k => spec_PathOk.f k p) (pathOk p) := by
  have hl : p.length ≤ maxLen := by have := hp.1; rw [maxLen_eq]; omega
  have key : ∀ (suf pre : List ByteArray), p = pre ++ suf → Ev (fun k => spec_PathOk.l0 k p pre.length) (suf.all nameOk && decide ((p.length : Int) ≤ 4)) := by
    intro suf
    induction suf with
    | nil =>
      intro pre h
      refine Ev.step (fun k => spec_PathOk.l0.eq_2 ..) ?_
      simp only [if_neg (end_at h), List.all_nil, Bool.true_and]
      exact Ev.now _
    | cons a suf ih =>
      intro pre h
      refine Ev.step (fun k => spec_PathOk.l0.eq_2 ..) ?_
      simp only [if_pos (lt_at h), if_pos (nonneg_at _), rd_at _ h, next_at h hl]
      refine Ev.bind (specNameOk (hp.2 a (by rw [h]; simp))) ?_
      simp only [List.all_cons]
      by_cases e : nameOk a = true
      · simp only [e, if_true, Bool.true_and]
        exact ih (pre ++ [a]) (snoc_at h)
      · simp only [e, Bool.false_eq_true, if_false, Bool.false_and]
        exact Ev.now _
  exact key p [] rfl
theorem implPathOk {p : List ByteArray} (hp : SmS p) : Ev (fun k => impl_PathOk.f k p) (pathOk p) := by
  have hl : p.length ≤ maxLen := by have := hp.1; rw [maxLen_eq]; omega
  have key : ∀ (suf pre : List ByteArray), p = pre ++ suf → Ev (fun k => impl_PathOk.l0 k p p (p.length : Int) pre.length) (suf.all nameOk && decide ((p.length : Int) ≤ 4)) := by
    intro suf
    induction suf with
    | nil =>
      intro pre h
      refine Ev.step (fun k => impl_PathOk.l0.eq_2 ..) ?_
      simp only [if_neg (end_at h), List.all_nil, Bool.true_and]
      exact Ev.now _
    | cons a suf ih =>
      intro pre h
      refine Ev.step (fun k => impl_PathOk.l0.eq_2 ..) ?_
      simp only [if_pos (lt_at h), if_pos (nonneg_at _), rd_at _ h, next_at h hl]
      refine Ev.bind (implNameOk (hp.2 a (by rw [h]; simp))) ?_
      simp only [List.all_cons]
      by_cases e : nameOk a = true
      · simp only [e, if_true, Bool.true_and]
        exact ih (pre ++ [a]) (snoc_at h)
      · simp only [e, Bool.false_eq_true, if_false, Bool.false_and]
        exact Ev.now _
  exact key p [] rfl
end Go.Proofs.Ytiddgglidkbipaa.L

/- Are locks right; as the program and the reference have it. No condition. -/
set_option linter.unusedSimpArgs false
set_option linter.unusedVariables false
namespace Go.Proofs.Ytiddgglidkbipaa.L
open Go.RowKit Go.Proofs.YtiddgglidkbipaaW.PrintWords Go.Proofs.YtiddgglidkbipaaW.PrintLast Go.Proofs.Ytiddgglidkbipaa.Q
def lockOk (x : S28) : Bool := decide (1 ≤ x.f0 ∧ x.f0 ≤ 9999) && (pathOk x.f1 && decide (0 ≤ x.f4 ∧ x.f4 ≤ 9999999))
theorem specLockOk {x : S28} (hx : SmLock x) : Ev (fun k => spec_LockOk.f k x.f0 x.f1 x.f2 x.f3 x.f4) (lockOk x) := by
  unfold spec_LockOk.f lockOk
  simp only [specIn, Option.bind_some, decide_eq_true_eq]
  by_cases c0 : 1 ≤ x.f0 ∧ x.f0 ≤ 9999
  · simp only [if_pos c0, c0, and_self, decide_true, Bool.true_and]
    refine Ev.bind (specPathOk hx.2.1) ?_
    by_cases c1 : pathOk x.f1 = true
    · simp only [c1, if_true, Bool.true_and]; exact Ev.now _
    · simp only [c1, Bool.false_eq_true, if_false, Bool.false_and]; exact Ev.now _
  · simp only [if_neg c0, c0, decide_false, Bool.false_and]; exact Ev.now _
theorem implLockOk {x : S28} (hx : SmLock x) : Ev (fun k => impl_LockOk.f k x.f0 x.f1 x.f2 x.f3 x.f4) (lockOk x) := by
  unfold impl_LockOk.f lockOk
  simp only [implIn, Option.bind_some, decide_eq_true_eq]
  by_cases c0 : 1 ≤ x.f0 ∧ x.f0 ≤ 9999
  · simp only [if_pos c0, c0, and_self, decide_true, Bool.true_and]
    refine Ev.bind (implPathOk hx.2.1) ?_
    by_cases c1 : pathOk x.f1 = true
    · simp only [c1, if_true, Bool.true_and]; exact Ev.now _
    · simp only [c1, Bool.false_eq_true, if_false, Bool.false_and]; exact Ev.now _
  · simp only [if_neg c0, c0, decide_false, Bool.false_and]; exact Ev.now _
def freeOf (x : S28) (l : List S28) : Bool := l.all (fun y => decide (y.f0 ≠ x.f0) && !clash y x)
def locksL : List S28 → List S28 → Bool
  | _, [] => true
  | pre, x :: l => lockOk x && (freeOf x pre && locksL (pre ++ [x]) l)
def locksOk (l : List S28) : Bool := locksL [] l && decide ((l.length : Int) ≤ 6)
theorem specLocksOkB {t : List S28} (hl : t.length ≤ maxLen) (ht : ∀ a ∈ t, SmLock a) : Ev (fun k => spec_LocksOk.f k t) (locksOk t) := by
  have inner : ∀ (a : S28) (suf pre : List S28) (R : Bool), t = pre ++ a :: suf → Ev (fun k => spec_LocksOk.l0 k t (wrap64 ((pre.length : Int) + 1))) R → ∀ (su pr : List S28), pre = pr ++ su → Ev (fun k => spec_LocksOk.l1 k t pre.length pr.length) (freeOf a su && R) := by
    intro a suf pre R h hR su
    have ha := ht a (by rw [h]; simp)
    induction su with
    | nil =>
      intro pr hp
      refine Ev.step (fun k => spec_LocksOk.l1.eq_2 ..) ?_
      simp only [if_neg (end_at hp), freeOf, List.all_nil, Bool.true_and]
      exact hR
    | cons y su ih =>
      intro pr hp
      have hy := ht y (by rw [h, hp]; simp)
      have hpt : t = pr ++ y :: (su ++ a :: suf) := by rw [h, hp]; simp
      refine Ev.step (fun k => spec_LocksOk.l1.eq_2 ..) ?_
      simp only [if_pos (lt_at hp), if_pos (nonneg_at _), if_pos (lt_at hpt), if_pos (lt_at h), rd_implLock h, rd_implLock hpt, freeOf, List.all_cons]
      by_cases c0 : y.f0 = a.f0
      · simp only [if_pos c0, c0, ne_eq, not_true_eq_false, decide_false, Bool.false_and]; exact Ev.now _
      · simp only [if_neg c0, ne_eq, c0, not_false_eq_true, decide_true, Bool.true_and]
        refine Ev.bind (specClash hy ha) ?_
        by_cases c1 : clash y a = true
        · simp only [c1, if_true, Bool.not_true, Bool.false_and]; exact Ev.now _
        · simp only [c1, Bool.false_eq_true, if_false, Bool.not_false, Bool.true_and, next_at hpt hl]
          exact ih (pr ++ [y]) (snoc_at hp)
  have key : ∀ (suf pre : List S28), t = pre ++ suf → Ev (fun k => spec_LocksOk.l0 k t pre.length) (locksL pre suf && decide ((t.length : Int) ≤ 6)) := by
    intro suf
    induction suf with
    | nil =>
      intro pre h
      refine Ev.step (fun k => spec_LocksOk.l0.eq_2 ..) ?_
      simp only [if_neg (end_at h), locksL, Bool.true_and]
      exact Ev.now _
    | cons a suf ih =>
      intro pre h
      have hn := ih (pre ++ [a]) (snoc_at h)
      rw [← next_at h hl] at hn
      refine Ev.step (fun k => spec_LocksOk.l0.eq_2 ..) ?_
      simp only [if_pos (lt_at h), if_pos (nonneg_at _), rd_implLock h]
      refine Ev.bind (specLockOk (ht a (by rw [h]; simp))) ?_
      simp only [locksL]
      by_cases c0 : lockOk a = true
      · simp only [c0, if_true, Bool.true_and, Bool.and_assoc]
        exact inner a suf pre _ h hn pre [] rfl
      · simp only [c0, Bool.false_eq_true, if_false, Bool.false_and]; exact Ev.now _
  exact key t [] rfl
theorem implLocksOkB {t : List S28} (hl : t.length ≤ maxLen) (ht : ∀ a ∈ t, SmLock a) : Ev (fun k => impl_LocksOk.f k t) (locksOk t) := by
  have inner : ∀ (a : S28) (suf pre : List S28) (R : Bool), t = pre ++ a :: suf → Ev (fun k => impl_LocksOk.l0 k t t (t.length : Int) (wrap64 ((pre.length : Int) + 1))) R → ∀ (su pr : List S28), pre = pr ++ su → Ev (fun k => impl_LocksOk.l1 k t t (t.length : Int) pre.length pre (pre.length : Int) pr.length a.f0 a.f1 a.f2 a.f3 a.f4) (freeOf a su && R) := by
    intro a suf pre R h hR su
    have ha := ht a (by rw [h]; simp)
    have hpl : pre.length ≤ maxLen := by have : t.length = pre.length + (suf.length + 1) := by rw [h]; simp
                                         omega
    induction su with
    | nil =>
      intro pr hp
      refine Ev.step (fun k => impl_LocksOk.l1.eq_2 ..) ?_
      simp only [if_neg (end_at hp), freeOf, List.all_nil, Bool.true_and]
      exact hR
    | cons y su ih =>
      intro pr hp
      have hy := ht y (by rw [h, hp]; simp)
      refine Ev.step (fun k => impl_LocksOk.l1.eq_2 ..) ?_
      simp only [if_pos (lt_at hp), if_pos (nonneg_at _), rd_implLock hp, freeOf, List.all_cons]
      by_cases c0 : y.f0 = a.f0
      · simp only [c0, if_true, ne_eq, not_true_eq_false, decide_false, Bool.false_and]; exact Ev.now _
      · have c0' : ¬ a.f0 = y.f0 := fun e => c0 e.symm
        simp only [if_neg c0', ne_eq, c0, not_false_eq_true, decide_true, Bool.true_and]
        refine Ev.bind (implClash ha hy) ?_
        rw [clash_comm a y]
        by_cases c1 : clash y a = true
        · simp only [c1, if_true, Bool.not_true, Bool.false_and]; exact Ev.now _
        · simp only [c1, Bool.false_eq_true, if_false, Bool.not_false, Bool.true_and, next_at hp hpl]
          exact ih (pr ++ [y]) (snoc_at hp)
  have key : ∀ (suf pre : List S28), t = pre ++ suf → Ev (fun k => impl_LocksOk.l0 k t t (t.length : Int) pre.length) (locksL pre suf && decide ((t.length : Int) ≤ 6)) := by
    intro suf
    induction suf with
    | nil =>
      intro pre h
      refine Ev.step (fun k => impl_LocksOk.l0.eq_2 ..) ?_
      simp only [if_neg (end_at h), locksL, Bool.true_and]
      exact Ev.now _
    | cons a suf ih =>
      intro pre h
      have hn := ih (pre ++ [a]) (snoc_at h)
      rw [← next_at h hl] at hn
      refine Ev.step (fun k => impl_LocksOk.l0.eq_2 ..) ?_
      simp only [if_pos (lt_at h), if_pos (nonneg_at _), rd_implLock h]
      refine Ev.bind (implLockOk (ht a (by rw [h]; simp))) ?_
      simp only [locksL]
      by_cases c0 : lockOk a = true
      · have ht2 : t.take ((pre.length : Nat) : Int).toNat = pre := by rw [h]; simp
        simp only [c0, if_true, Bool.true_and, Bool.and_assoc, if_pos (Int.le_of_lt (lt_at h)), ht2, Option.bind_some]
        exact inner a suf pre _ h hn pre [] rfl
      · simp only [c0, Bool.false_eq_true, if_false, Bool.false_and]; exact Ev.now _
  exact key t [] rfl
theorem specLocksOk {t : List S28} (ht : SmLocks t) : Ev (fun k => spec_LocksOk.f k t) (locksOk t) := specLocksOkB (by have := ht.1; rw [maxLen_eq]; omega) ht.2
theorem implLocksOk {t : List S28} (ht : SmLocks t) : Ev (fun k => impl_LocksOk.f k t) (locksOk t) := implLocksOkB (by have := ht.1; rw [maxLen_eq]; omega) ht.2
end Go.Proofs.Ytiddgglidkbipaa.L

/- Locks copied, one dropped, one added; as the program and the reference have it. No condition. -/
set_option linter.unusedSimpArgs false
set_option linter.unusedVariables false
namespace Go.Proofs.Ytiddgglidkbipaa.L
open Go.RowKit Go.Proofs.YtiddgglidkbipaaW.PrintWords Go.Proofs.YtiddgglidkbipaaW.PrintLast Go.Proofs.Ytiddgglidkbipaa.Q
theorem specCopyLocks {t : List S28} (hl0 : t.length ≤ 1048577) (ht : ∀ a ∈ t, a.f1.length ≤ 1048576) : Ev (fun k => spec_l13Copy.f k t) t := by
  have hl : t.length ≤ maxLen := by rw [maxLen_eq]; omega
  have key : ∀ (suf pre out : List S28), t = pre ++ suf → out.length ≤ pre.length → Ev (fun k => spec_l13Copy.l0 k t out pre.length) (out ++ suf) := by
    intro suf
    induction suf with
    | nil =>
      intro pre out h ho
      refine Ev.step (fun k => spec_l13Copy.l0.eq_2 ..) ?_
      simp only [if_neg (end_at h), List.append_nil]
      exact Ev.now _
    | cons a suf ih =>
      intro pre out h ho
      have hpl : pre.length ≤ 1048577 := by have : t.length = pre.length + (suf.length + 1) := by rw [h]; simp
                                            omega
      have ha := ht a (by rw [h]; simp)
      refine Ev.step (fun k => spec_l13Copy.l0.eq_2 ..) ?_
      simp only [if_pos (lt_at h), if_pos (nonneg_at _), rd_implLock h, next_at h hl, Option.bind_some, List.length_nil, Nat.zero_add, List.nil_append, show a.f1.length < 8796093022208 by omega, show out.length < 2932031007402 by omega, if_true]
      exact ev_cast (ih (pre ++ [a]) _ (snoc_at h) (by simp; omega)) (by simp)
  exact key t [] [] rfl (by simp)
theorem sm_path {t : List S28} (ht : SmLocks t) : ∀ a ∈ t, a.f1.length ≤ 1048576 := fun a ha => by have := (ht.2 a ha).2.1.1; omega
def addL (t : List S28) (x : S28) : List S28 × Bool := if locksOk (t ++ [x]) = true then (t ++ [x], true) else (t, false)
theorem add_sm {t : List S28} {x : S28} (ht : SmLocks t) (hx : SmLock x) : SmLocks (addL t x).1 := by
  unfold addL
  by_cases c : locksOk (t ++ [x]) = true
  · simp only [if_pos c]
    refine ⟨?_, fun a ha => ?_⟩
    · unfold locksOk at c
      have := of_decide_eq_true (Bool.and_eq_true_iff.1 c).2
      omega
    · rcases List.mem_append.1 ha with ha | ha
      · exact ht.2 a ha
      · rw [List.mem_singleton.1 ha]; exact hx
  · simp only [if_neg c]; exact ht
theorem specAdd {t : List S28} {x : S28} (ht : SmLocks t) (hx : SmLock x) : Ev (fun k => spec_AddLockX.f k t x.f0 x.f1 x.f2 x.f3 x.f4) (addL t x) := by
  have hl0 := ht.1
  have h2 : ∀ a ∈ t ++ [x], SmLock a := fun a ha => by
    rcases List.mem_append.1 ha with ha | ha
    · exact ht.2 a ha
    · rw [List.mem_singleton.1 ha]; exact hx
  show Ev (fun k => spec_AddLock.f k t x.f0 x.f1 x.f2 x.f3 x.f4) _
  unfold spec_AddLock.f addL
  refine Ev.bind (specCopyLocks (by omega) (sm_path ht)) ?_
  simp only [Option.bind_some, List.length_nil, Nat.zero_add, List.nil_append, show t.length < 2932031007402 by omega, if_true, List.length_singleton, show t.length + 1 < 2932031007402 by omega]
  refine Ev.bind (specCopyLocks (t := t ++ [x]) (by simp; omega) (fun a ha => by have := (h2 a ha).2.1.1; omega)) ?_
  refine Ev.bind (specLocksOkB (t := t ++ [x]) (by rw [maxLen_eq]; simp; omega) h2) ?_
  by_cases c : locksOk (t ++ [x]) = true
  · simp only [if_pos c]; exact Ev.now _
  · simp only [if_neg c]; exact Ev.now _
end Go.Proofs.Ytiddgglidkbipaa.L

/- Draws of locks. No condition. -/
set_option linter.unusedSimpArgs false
set_option linter.unusedVariables false
namespace Go.Proofs.Ytiddgglidkbipaa.L
open Go.RowKit Go.Proofs.YtiddgglidkbipaaW.PrintWords Go.Proofs.YtiddgglidkbipaaW.PrintLast Go.Proofs.Ytiddgglidkbipaa.Q
theorem intD {b : List Int} {p : Int} (h : Cur b p) (s : Int) {l : List Int} (hl : l ≠ []) : ∃ v p' s', spec_l1Int.f b p s l = some (v, p', s') ∧ v ∈ l ∧ Cur b p' := by
  have hpos : 0 < l.length := List.length_pos_iff.2 hl
  obtain ⟨v, p', s', e, h0, h1, h'⟩ := belowD h s (n := (l.length : Int)) (by omega)
  unfold spec_l1Int.f
  rw [e]
  simp only [Option.bind_some, if_pos h0, if_pos h1]
  refine ⟨_, _, _, rfl, ?_, h'⟩
  have hlt : v.toNat < l.length := by omega
  unfold rd
  rw [List.getD_eq_getElem?_getD, List.getElem?_eq_getElem hlt]
  exact List.getElem_mem hlt
theorem mem_int {v : Int} {l : List Int} (h : v ∈ l) (hl : l.all (fun x => decide (-9223372036854775808 ≤ x ∧ x < 9223372036854775808)) = true) : IntOk v := by
  have := List.all_eq_true.1 hl v h
  unfold IntOk
  simpa using this
theorem l2AnyD {b : List Int} {p : Int} (h : Cur b p) (s : Int) : ∃ l p' s', Ev (fun k => spec_l2Any.f k b p s) (l, p', s') ∧ SmP 8 l ∧ Cur b p' := by
  obtain ⟨l, p1, s1, e1, hl, h1⟩ := l2DrawD h s
  obtain ⟨v, p2, s2, e2, v0, v1, h2⟩ := belowD h1 s1 (n := 8) (by omega)
  have hl3 := hl.1
  unfold spec_l2Any.f
  by_cases c0 : v = 0
  · obtain ⟨x, p3, s3, e3, m, h3⟩ := strD h2 s2 (l := [(⟨#[]⟩ : ByteArray), (⟨#[46]⟩ : ByteArray), (⟨#[46, 46]⟩ : ByteArray), (⟨#[97, 47, 98]⟩ : ByteArray), (⟨#[110, 105, 110, 101, 98, 121, 116, 101, 115]⟩ : ByteArray), (⟨#[31]⟩ : ByteArray), (⟨#[101, 105, 103, 104, 116, 98, 121, 56]⟩ : ByteArray)]) (by simp)
    have m1 := mem_sz2 m (by decide)
    refine ⟨l ++ [x], p3, s3, ?_, ⟨by simp; omega, fun y hy => ?_⟩, h3⟩
    · refine Ev.bind e1 ?_
      simp only [e2, Option.bind_some, if_pos c0, e3, if_pos (show l.length < 8796093022208 by omega)]
      exact Ev.now _
    · rcases List.mem_append.1 hy with hy | hy
      · exact hl.2 y hy
      · simp at hy; subst hy; exact m1
  by_cases c1 : v = 1
  · have key : ∀ (n : Nat) (out : List ByteArray) (q t : Int), 8 ≤ out.length + n → out.length ≤ 8 → (∀ x ∈ out, x.size ≤ 1000) → Cur b q → ∃ l p' s', Ev (fun k => spec_l2Any.l0 k out b q t) (l, p', s') ∧ SmP 8 l ∧ Cur b p' := by
      intro n
      induction n with
      | zero =>
        intro out q t hn ho hm hq
        obtain ⟨v, q1, t1, e, v0, v1, hq1⟩ := belowD hq t (n := 2) (by omega)
        refine ⟨out, q1, t1, ?_, ⟨ho, hm⟩, hq1⟩
        refine Ev.step (fun k => spec_l2Any.l0.eq_2 ..) ?_
        simp only [e, Option.bind_some]
        rw [wrap_id (by omega) (by omega)]
        simp only [if_neg (show ¬ (out.length : Int) < 4 + v by omega)]
        exact Ev.now _
      | succ n ih =>
        intro out q t hn ho hm hq
        obtain ⟨v, q1, t1, e, v0, v1, hq1⟩ := belowD hq t (n := 2) (by omega)
        by_cases c : (out.length : Int) < 4 + v
        · obtain ⟨l, q2, t2, he, hl, hq2⟩ := ih (out ++ [(⟨#[113]⟩ : ByteArray)]) q1 t1 (by simp; omega) (by simp; omega) (fun x hx => by
            rcases List.mem_append.1 hx with hx | hx
            · exact hm x hx
            · simp at hx; subst hx; exact (show (1 : Nat) ≤ 1000 by omega)) hq1
          refine ⟨l, q2, t2, ?_, hl, hq2⟩
          refine Ev.step (fun k => spec_l2Any.l0.eq_2 ..) ?_
          simp only [e, Option.bind_some]
          rw [wrap_id (by omega) (by omega)]
          simp only [if_pos c, if_pos (show out.length < 8796093022208 by omega)]
          exact he
        · refine ⟨out, q1, t1, ?_, ⟨ho, hm⟩, hq1⟩
          refine Ev.step (fun k => spec_l2Any.l0.eq_2 ..) ?_
          simp only [e, Option.bind_some]
          rw [wrap_id (by omega) (by omega)]
          simp only [if_neg c]
          exact Ev.now _
    obtain ⟨l', q', t', he, hl', hq'⟩ := key 8 l p2 s2 (by omega) (by omega) hl.2 h2
    refine ⟨l', q', t', ?_, hl', hq'⟩
    refine Ev.bind e1 ?_
    simp only [e2, Option.bind_some, if_neg c0, if_pos c1]
    exact he
  · refine ⟨l, p2, s2, ?_, ⟨by omega, hl.2⟩, h2⟩
    refine Ev.bind e1 ?_
    simp only [e2, Option.bind_some, if_neg c0, if_neg c1]
    exact Ev.now _
theorem lockD {b : List Int} {p : Int} (h : Cur b p) (s : Int) : ∃ (x : S28) (p' s' : Int), Ev (fun k => spec_l13Lock.f k b p s) (x.f0, x.f1, x.f2, x.f3, x.f4, p', s') ∧ SmLock x ∧ Cur b p' := by
  obtain ⟨v, p1, s1, e1, v0, v1, h1⟩ := belowD h s (n := 9) (by omega)
  obtain ⟨l, p2, s2, e2, hl, h2⟩ := l2DrawD h1 s1
  obtain ⟨d, p3, s3, e3, h3⟩ := onceD h2 s2 2
  obtain ⟨d', p4, s4, e4, h4⟩ := onceD h3 s3 2
  obtain ⟨u, p5, s5, e5, m, h5⟩ := intD h4 s4 (l := [5, 10, 100]) (by simp)
  have hw : wrap64 (1 + v) = 1 + v := wrap_id (by omega) (by omega)
  refine ⟨⟨1 + v, l, d, d', u⟩, p5, s5, ?_, ⟨by unfold IntOk; simp only; omega, hl.sm (by omega), trivial, trivial, mem_int m (by decide)⟩, h5⟩
  unfold spec_l13Lock.f
  simp only [e1, Option.bind_some, hw]
  refine Ev.bind e2 ?_
  simp only [e3, e4, e5, Option.bind_some]
  exact Ev.now _
theorem locksDrawD {b : List Int} {p : Int} (h : Cur b p) (s : Int) : ∃ l p' s', Ev (fun k => spec_l13Draw.f k b p s) (l, p', s') ∧ (l.length ≤ 5 ∧ ∀ x ∈ l, SmLock x) ∧ Cur b p' := by
  unfold spec_l13Draw.f
  obtain ⟨v, p1, s1, e, v0, v1, h1⟩ := belowD h s (n := 6) (by omega)
  simp only [e, Option.bind_some]
  have key : ∀ (n : Nat) (out : List S28) (q t : Int), (out.length + n ≤ 5 ∧ ∀ x ∈ out, SmLock x) → Cur b q → ∃ l p' s', Ev (fun k => spec_l13Draw.l0 k out (n : Int) b q t) (l, p', s') ∧ (l.length ≤ 5 ∧ ∀ x ∈ l, SmLock x) ∧ Cur b p' := by
    intro n
    induction n with
    | zero =>
      intro out q t ho hq
      refine ⟨out, q, t, ?_, ⟨by omega, ho.2⟩, hq⟩
      refine Ev.step (fun k => spec_l13Draw.l0.eq_2 ..) ?_
      simp only [if_neg (show ¬ ((0 : Nat) : Int) > 0 by decide)]
      exact Ev.now _
    | succ n ih =>
      intro out q t ho hq
      obtain ⟨x, q1, t1, e1, hx, hq1⟩ := lockD hq t
      have hos : SmLocks out := ⟨by have := ho.1; omega, ho.2⟩
      have hadd : (addL out x).1.length ≤ out.length + 1 := by
        unfold addL
        split <;> simp
      have hsm := add_sm hos hx
      obtain ⟨l, q2, t2, he, hl, hq2⟩ := ih (addL out x).1 q1 t1 ⟨by omega, hsm.2⟩ hq1
      refine ⟨l, q2, t2, ?_, hl, hq2⟩
      refine Ev.step (fun k => spec_l13Draw.l0.eq_2 ..) ?_
      simp only [if_pos (show ((n + 1 : Nat) : Int) > 0 by omega)]
      refine Ev.bind e1 ?_
      refine Ev.bind (specAdd hos hx) ?_
      rw [show wrap64 (((n + 1 : Nat) : Int) - 1) = (n : Int) by rw [wrap_id (by omega) (by omega)]; omega]
      exact he
  obtain ⟨n, rfl⟩ := Int.eq_ofNat_of_zero_le v0
  exact key n [] p1 s1 ⟨by simp; omega, by simp⟩ h1
theorem locksAnyD {b : List Int} {p : Int} (h : Cur b p) (s : Int) : ∃ l p' s', Ev (fun k => spec_l13Any.f k b p s) (l, p', s') ∧ (l.length ≤ 6 ∧ ∀ x ∈ l, SmLock x) ∧ Cur b p' := by
  unfold spec_l13Any.f
  obtain ⟨l, p1, s1, e1, ⟨hl, hm⟩, h1⟩ := locksDrawD h s
  obtain ⟨d, p2, s2, e2, h2⟩ := onceD h1 s1 4
  have hap : ∀ x : S28, SmLock x → ((l ++ [x]).length ≤ 6 ∧ ∀ y ∈ l ++ [x], SmLock y) := fun x hx => ⟨by simp; omega, fun y hy => by
    rcases List.mem_append.1 hy with hy | hy
    · exact hm y hy
    · simp at hy; subst hy; exact hx⟩
  by_cases c : d = true
  · obtain ⟨x, p3, s3, e3, ⟨x0, x1, x2, x3, x4⟩, h3⟩ := lockD h2 s2
    obtain ⟨v, p4, s4, e4, v0, v1, h4⟩ := belowD h3 s3 (n := 4) (by omega)
    have hll : l.length < 2932031007402 := by omega
    by_cases c0 : v = 0
    · obtain ⟨u, p5, s5, e5, m, h5⟩ := intD h4 s4 (l := [0, 10000, (-1)]) (by simp)
      refine ⟨l ++ [⟨u, x.f1, x.f2, x.f3, x.f4⟩], p5, s5, ?_, hap _ ⟨mem_int m (by decide), x1, x2, x3, x4⟩, h5⟩
      refine Ev.bind e1 ?_
      simp only [e2, Option.bind_some, if_pos c]
      refine Ev.bind e3 ?_
      simp only [e4, Option.bind_some, if_pos c0, e5, if_pos hll]
      exact Ev.now _
    by_cases c1 : v = 1
    · obtain ⟨u, p5, s5, e5, m, h5⟩ := l2AnyD h4 s4
      refine ⟨l ++ [⟨x.f0, u, x.f2, x.f3, x.f4⟩], p5, s5, ?_, hap _ ⟨x0, m.sm (by omega), x2, x3, x4⟩, h5⟩
      refine Ev.bind e1 ?_
      simp only [e2, Option.bind_some, if_pos c]
      refine Ev.bind e3 ?_
      simp only [e4, Option.bind_some, if_neg c0, if_pos c1]
      refine Ev.bind e5 ?_
      simp only [if_pos hll]
      exact Ev.now _
    by_cases c2 : v = 2
    · obtain ⟨u, p5, s5, e5, m, h5⟩ := intD h4 s4 (l := [(-1), 10000000]) (by simp)
      refine ⟨l ++ [⟨x.f0, x.f1, x.f2, x.f3, u⟩], p5, s5, ?_, hap _ ⟨x0, x1, x2, x3, mem_int m (by decide)⟩, h5⟩
      refine Ev.bind e1 ?_
      simp only [e2, Option.bind_some, if_pos c]
      refine Ev.bind e3 ?_
      simp only [e4, Option.bind_some, if_neg c0, if_neg c1, if_pos c2, e5, if_pos hll]
      exact Ev.now _
    · refine ⟨l ++ [⟨x.f0, x.f1, x.f2, x.f3, x.f4⟩], p4, s4, ?_, hap _ ⟨x0, x1, x2, x3, x4⟩, h4⟩
      refine Ev.bind e1 ?_
      simp only [e2, Option.bind_some, if_pos c]
      refine Ev.bind e3 ?_
      simp only [e4, Option.bind_some, if_neg c0, if_neg c1, if_neg c2, if_pos hll]
      exact Ev.now _
  · refine ⟨l, p2, s2, ?_, ⟨by omega, hm⟩, h2⟩
    refine Ev.bind e1 ?_
    simp only [e2, Option.bind_some, if_neg c]
    exact Ev.now _
theorem drawLocksOkD {code : List Int} (hc : code.length ≤ 1048576) : ∃ l, Ev (fun k => spec_DrawLocksOk.f k code) l ∧ SmLocks l := by
  unfold spec_DrawLocksOk.f
  obtain ⟨s0, e0⟩ := newD hc
  obtain ⟨l, p1, s1, e1, ⟨hl, hm⟩, h1⟩ := locksAnyD (cur0 hc) s0
  exact ⟨l, Ev.bind e0 (Ev.bind e1 (Ev.now _)), by omega, hm⟩
theorem drawTokensAtD {code : List Int} (hc : code.length ≤ 1048576) : ∃ l p, Ev (fun k => spec_DrawTokensAt.f k code) (l, p) ∧ SmLocks l ∧ SmS p := by
  unfold spec_DrawTokensAt.f
  obtain ⟨s0, e0⟩ := newD hc
  obtain ⟨l, p1, s1, e1, ⟨hl, hm⟩, h1⟩ := locksAnyD (cur0 hc) s0
  obtain ⟨p, p2, s2, e2, hp, h2⟩ := l2DrawD h1 s1
  exact ⟨l, p, Ev.bind e0 (Ev.bind e1 (Ev.bind e2 (Ev.now _))), ⟨by omega, hm⟩, hp.sm (by omega)⟩
end Go.Proofs.Ytiddgglidkbipaa.L

/- The laws' own functions over lists of numbers: size, copy, equality. No condition. -/
set_option linter.unusedSimpArgs false
set_option linter.unusedVariables false
namespace Go.Proofs.Ytiddgglidkbipaa.L
open Go.RowKit Go.Proofs.YtiddgglidkbipaaW.PrintWords Go.Proofs.YtiddgglidkbipaaW.PrintLast Go.Proofs.Ytiddgglidkbipaa.Q
theorem rd_int {l pre suf : List Int} {a : Int} (h : l = pre ++ a :: suf) : rd l (pre.length : Int) = a := getD_at _ h
end Go.Proofs.Ytiddgglidkbipaa.L

/- The tokens that hold of a path; as the program and the reference have it. No condition. -/
set_option linter.unusedSimpArgs false
set_option linter.unusedVariables false
namespace Go.Proofs.Ytiddgglidkbipaa.L
open Go.RowKit Go.Proofs.YtiddgglidkbipaaW.PrintWords Go.Proofs.YtiddgglidkbipaaW.PrintLast Go.Proofs.Ytiddgglidkbipaa.Q
def tokensAt (p : List ByteArray) (t : List S28) : List Int := (t.filter (fun r => covers r p)).map (fun r => r.f0)
theorem tokens_cons (p : List ByteArray) (a : S28) (t : List S28) : tokensAt p (a :: t) = if covers a p = true then a.f0 :: tokensAt p t else tokensAt p t := by
  unfold tokensAt
  by_cases c : covers a p = true <;> simp [List.filter_cons, c]
theorem tokens_length (p : List ByteArray) (t : List S28) : (tokensAt p t).length ≤ t.length := by
  unfold tokensAt; rw [List.length_map]; exact List.length_filter_le _ _
theorem implTokens {t : List S28} {p : List ByteArray} (ht : SmLocks t) (hp : p.length ≤ 1048576) : Ev (fun k => impl_TokensAt.f k t p) (tokensAt p t) := by
  have hl0 := ht.1
  have hl : t.length ≤ maxLen := by rw [maxLen_eq]; omega
  have key : ∀ (suf pre : List S28) (out : List Int), t = pre ++ suf → out.length ≤ pre.length → Ev (fun k => impl_TokensAt.l0 k p out t (t.length : Int) pre.length) (out ++ tokensAt p suf) := by
    intro suf
    induction suf with
    | nil =>
      intro pre out h ho
      refine Ev.step (fun k => impl_TokensAt.l0.eq_2 ..) ?_
      simp only [if_neg (end_at h), tokensAt, List.filter_nil, List.map_nil, List.append_nil]
      exact Ev.now _
    | cons a suf ih =>
      intro pre out h ho
      have hpl : pre.length ≤ 1048576 := by have : t.length = pre.length + (suf.length + 1) := by rw [h]; simp
                                            omega
      refine Ev.step (fun k => impl_TokensAt.l0.eq_2 ..) ?_
      simp only [if_pos (lt_at h), if_pos (nonneg_at _), rd_implLock h, next_at h hl, tokens_cons]
      refine Ev.bind (implCovers (ht.2 a (by rw [h]; simp)) hp) ?_
      by_cases c1 : covers a p = true
      · simp only [c1, if_true, show out.length < 17592186044416 by omega]
        exact ev_cast (ih (pre ++ [a]) _ (snoc_at h) (by simp; omega)) (by simp)
      · simp only [c1, Bool.false_eq_true, if_false]
        exact ih (pre ++ [a]) _ (snoc_at h) (by simp; omega)
  exact key t [] [] rfl (by simp)
end Go.Proofs.Ytiddgglidkbipaa.L

/- Is a number in a list; as the program and the reference have it. No condition. -/
set_option linter.unusedSimpArgs false
set_option linter.unusedVariables false
namespace Go.Proofs.Ytiddgglidkbipaa.L
open Go.RowKit Go.Proofs.YtiddgglidkbipaaW.PrintWords Go.Proofs.YtiddgglidkbipaaW.PrintLast Go.Proofs.Ytiddgglidkbipaa.Q
theorem implHas {l : List Int} {n : Int} (hl : l.length ≤ maxLen) : Ev (fun k => impl_hasInt.f k l n) (decide (n ∈ l)) := by
  have key : ∀ (suf pre : List Int), l = pre ++ suf → Ev (fun k => impl_hasInt.l0 k n l (l.length : Int) pre.length) (decide (n ∈ suf)) := by
    intro suf
    induction suf with
    | nil =>
      intro pre h
      refine Ev.step (fun k => impl_hasInt.l0.eq_2 ..) ?_
      simp only [if_neg (end_at h), List.not_mem_nil, decide_false]
      exact Ev.now _
    | cons a suf ih =>
      intro pre h
      refine Ev.step (fun k => impl_hasInt.l0.eq_2 ..) ?_
      simp only [if_pos (lt_at h), if_pos (nonneg_at _), rd_int h, next_at h hl, List.mem_cons]
      by_cases e : a = n
      · simp only [e, if_true, true_or, decide_true]; exact Ev.now _
      · have e' : ¬ n = a := fun h => e h.symm
        simp only [e, e', if_false, false_or]; exact ih (pre ++ [a]) (snoc_at h)
  exact key l [] rfl
end Go.Proofs.Ytiddgglidkbipaa.L

/- May one with tokens turn a thing; as the program and the reference have it. No condition. -/
set_option linter.unusedSimpArgs false
set_option linter.unusedVariables false
namespace Go.Proofs.Ytiddgglidkbipaa.L
open Go.RowKit Go.Proofs.YtiddgglidkbipaaW.PrintWords Go.Proofs.YtiddgglidkbipaaW.PrintLast Go.Proofs.Ytiddgglidkbipaa.Q
def touches (x : S28) (p : List ByteArray) (deep : Bool) : Bool := covers x p || (deep && under x.f1 p)
def mayL (p : List ByteArray) (deep : Bool) (toks : List Int) : List S28 → Bool → Bool → Bool
  | [], sh, told => if sh = true then told else true
  | x :: l, sh, told => if touches x p deep = true then (if x.f3 = true then mayL p deep toks l true (told || decide (x.f0 ∈ toks)) else if x.f0 ∈ toks then mayL p deep toks l sh told else false) else mayL p deep toks l sh told
theorem implMayTurn {t : List S28} {p : List ByteArray} {deep : Bool} {toks : List Int} (ht : SmLocks t) (hp : p.length ≤ 1048576) (hk : toks.length ≤ maxLen) : Ev (fun k => impl_MayTurn.f k t p deep toks) (mayL p deep toks t false false) := by
  have hl : t.length ≤ maxLen := by have := ht.1; rw [maxLen_eq]; omega
  have key : ∀ (suf pre : List S28) (sh told : Bool), t = pre ++ suf → Ev (fun k => impl_MayTurn.l0 k p deep toks sh told t (t.length : Int) pre.length) (mayL p deep toks suf sh told) := by
    intro suf
    induction suf with
    | nil =>
      intro pre sh told h
      refine Ev.step (fun k => impl_MayTurn.l0.eq_2 ..) ?_
      simp only [if_neg (end_at h), mayL]
      cases sh <;> exact Ev.now _
    | cons a suf ih =>
      intro pre sh told h
      have ha := ht.2 a (by rw [h]; simp)
      have hn : ∀ sh told, Ev (fun k => impl_MayTurn.l0 k p deep toks sh told t (t.length : Int) (wrap64 ((pre.length : Int) + 1))) (mayL p deep toks suf sh told) := fun sh told => by
        have := ih (pre ++ [a]) sh told (snoc_at h); rwa [← next_at h hl] at this
      have join : ∀ b, b = (!touches a p deep) → Ev (fun k => impl_MayTurn.j1 k p deep toks sh told t (t.length : Int) pre.length b a.f0 a.f1 a.f2 a.f3 a.f4) (mayL p deep toks (a :: suf) sh told) := by
        intro b hb
        refine Ev.step (fun k => impl_MayTurn.j1.eq_2 ..) ?_
        simp only [hb, mayL]
        by_cases c0 : touches a p deep = true
        · simp only [c0, Bool.not_true, Bool.false_eq_true, if_false, if_true]
          refine Ev.bind (implHas hk) ?_
          cases hf : a.f3 <;> cases sh <;> cases told <;> by_cases c1 : a.f0 ∈ toks <;> simp only [c1, decide_true, decide_false, Bool.or_true, Bool.or_false, Bool.false_or, Bool.true_or, Bool.false_eq_true, if_true, if_false] <;> first | exact hn _ _ | exact Ev.now _
        · simp only [Bool.eq_false_iff.mpr c0, Bool.not_false, if_true, Bool.false_eq_true, if_false]
          exact hn _ _
      refine Ev.step (fun k => impl_MayTurn.l0.eq_2 ..) ?_
      simp only [if_pos (lt_at h), if_pos (nonneg_at _), rd_implLock h]
      refine Ev.bind (implCovers ha hp) ?_
      unfold touches at join
      by_cases c0 : covers a p = true
      · simp only [c0, if_true]; exact join _ (by simp [c0])
      · simp only [c0, Bool.false_eq_true, if_false]
        by_cases c1 : deep = true
        · simp only [c1, if_true] at join ⊢
          refine Ev.bind (implUnder (by have := ha.2.1.1; omega)) ?_
          exact join _ (by simp [c0])
        · simp only [c1, Bool.false_eq_true, if_false] at join ⊢
          exact join _ (by simp [c0, c1])
  exact key t [] false false rfl
end Go.Proofs.Ytiddgglidkbipaa.L

/- The law FnAlone computes true: what a lock of one alone covers no other lock covers. No condition. -/
set_option linter.unusedSimpArgs false
set_option linter.unusedVariables false
namespace Go.Proofs.Ytiddgglidkbipaa.Pure
open Go.RowKit Go.Proofs.YtiddgglidkbipaaW.PrintWords Go.Proofs.YtiddgglidkbipaaW.PrintLast Go.Proofs.Ytiddgglidkbipaa.Q Go.Proofs.Ytiddgglidkbipaa.L
theorem locksL_pair : ∀ (l pre : List S28), locksL pre l = true → l.Pairwise (fun a b => clash a b = false)
  | [], _, _ => List.Pairwise.nil
  | x :: l, pre, h => by
    have deep : ∀ (l pre : List S28), locksL pre l = true → ∀ y ∈ pre, ∀ z ∈ l, clash y z = false := by
      intro l
      induction l with
      | nil => intro _ _ _ _ z hz; cases hz
      | cons x l ih =>
        intro pre h y hy z hz
        simp only [locksL, Bool.and_eq_true] at h
        rcases List.mem_cons.1 hz with rfl | hz
        · have := h.2.1
          unfold freeOf at this
          have h2 := List.all_eq_true.1 this y hy
          simp only [Bool.and_eq_true, Bool.not_eq_true'] at h2
          exact h2.2
        · exact ih (pre ++ [x]) h.2.2 y (by simp [hy]) z hz
    have h' := h
    simp only [locksL, Bool.and_eq_true] at h
    exact List.pairwise_cons.2 ⟨fun z hz => deep l (pre ++ [x]) h.2.2 x (by simp) z hz, locksL_pair l (pre ++ [x]) h.2.2⟩
theorem covers_clash {a b : S28} {p : List ByteArray} (ha : covers a p = true) (hb : covers b p = true) (hs : (a.f3 && b.f3) = false) : clash a b = true := by
  unfold clash
  rw [hs]
  simp only [Bool.not_false, Bool.true_and, Bool.or_eq_true]
  unfold covers at ha hb ⊢
  simp only [Bool.or_eq_true, decide_eq_true_eq, Bool.and_eq_true] at ha hb ⊢
  rcases ha with ha | ⟨da, ha⟩
  · subst ha
    exact .inr hb
  · rcases hb with hb | ⟨db, hb⟩
    · subst hb
      exact .inl (.inr ⟨da, ha⟩)
    · unfold under at ha hb ⊢
      simp only [Bool.and_eq_true, decide_eq_true_eq] at ha hb ⊢
      rcases Nat.lt_trichotomy a.f1.length b.f1.length with h | h | h
      · refine .inl (.inr ⟨da, h, ?_⟩)
        rw [← hb.2, List.take_take, Nat.min_eq_left (by omega)]
        exact ha.2
      · refine .inl (.inl ?_)
        rw [← ha.2, ← hb.2, h]
      · refine .inr (.inr ⟨db, h, ?_⟩)
        rw [← ha.2, List.take_take, Nat.min_eq_left (by omega)]
        exact hb.2
def cov (p : List ByteArray) (l : List S28) : List S28 := l.filter (fun r => covers r p)
def lone (p : List ByteArray) (l : List S28) : Bool := l.any (fun r => covers r p && !r.f3)
theorem alone_one {p : List ByteArray} {t : List S28} (h : t.Pairwise (fun a b => clash a b = false)) (hl : lone p t = true) : (cov p t).length = 1 := by
  have hp : (cov p t).Pairwise (fun a b => clash a b = false) := List.Pairwise.filter _ h
  obtain ⟨a, ha, hc⟩ := List.any_eq_true.1 hl
  simp only [Bool.and_eq_true, Bool.not_eq_true'] at hc
  have hm : a ∈ cov p t := List.mem_filter.2 ⟨ha, hc.1⟩
  have hall : ∀ b ∈ cov p t, covers b p = true := fun b hb => (List.mem_filter.1 hb).2
  generalize hg : cov p t = l at *
  match l, hp, hm, hall with
  | [x], _, _, _ => rfl
  | x :: y :: l, hp, hm, hall =>
    exfalso
    have h1 := List.pairwise_cons.1 hp
    rcases List.mem_cons.1 hm with rfl | hm
    · have := covers_clash hc.1 (hall y (by simp)) (by rw [hc.2, Bool.false_and])
      rw [h1.1 y (by simp)] at this
      cases this
    · have h2 := h1.1 a hm
      rw [covers_clash (hall x (by simp)) hc.1 (by rw [hc.2, Bool.and_false])] at h2
      cases h2
theorem touches_f (x : S28) (p : List ByteArray) : touches x p false = covers x p := by unfold touches; simp
theorem may_all {p : List ByteArray} {toks : List Int} : ∀ (l : List S28) (b : Bool), (∀ x ∈ l, covers x p = true → x.f0 ∈ toks) → mayL p false toks l b b = true
  | [], b, _ => by cases b <;> rfl
  | x :: l, b, h => by
    unfold mayL
    rw [touches_f]
    by_cases c : covers x p = true
    · have hx := h x (by simp) c
      simp only [c, if_true, hx, decide_true, Bool.or_true]
      by_cases c2 : x.f3 = true
      · simp only [c2, if_true]
        exact may_all l true (fun y hy => h y (by simp [hy]))
      · simp only [c2, if_false]
        exact may_all l b (fun y hy => h y (by simp [hy]))
    · simp only [c, if_false]
      exact may_all l b (fun y hy => h y (by simp [hy]))
theorem may_none {p : List ByteArray} : ∀ (l : List S28) (b : Bool), mayL p false [] l b false = (!b && decide ((cov p l).length = 0))
  | [], b => by cases b <;> rfl
  | x :: l, b => by
    unfold mayL cov
    rw [touches_f]
    by_cases c : covers x p = true
    · simp only [c, if_true, List.not_mem_nil, decide_false, Bool.or_false, if_false]
      by_cases c2 : x.f3 = true
      · simp only [c2, if_true]
        rw [may_none l true]
        simp [List.filter_cons, c]
      · simp only [c2, if_false]
        simp [List.filter_cons, c]
    · simp only [c, if_false]
      rw [may_none l b]
      unfold cov
      simp [List.filter_cons, c]
theorem tokens_cov (p : List ByteArray) (t : List S28) : (tokensAt p t).length = (cov p t).length := by unfold tokensAt cov; rw [List.length_map]
theorem FnAlone : ∀ (x0 : List Int), (fun l : List Int => l.length ≤ maxLen ∧ ∀ a ∈ l, (fun x : Int => (Lit.int .u8 x).wf = true) a) x0 → ∃ k, laws_FnAlone.f k x0 = some true := by
  intro code h0
  apply Ev.rounds
  unfold laws_FnAlone.f laws_big.f
  simp only [Option.bind_some]
  by_cases c : ((code.length : Int) > 1048576)
  · simp only [decide_eq_true c, if_true]; exact Ev.now _
  simp only [decide_eq_false c, Bool.false_eq_true, if_false]
  have hc : code.length ≤ 1048576 := by omega
  obtain ⟨t, e1, ht⟩ := drawLocksOkD hc
  obtain ⟨t', p, e2, _, hp⟩ := drawTokensAtD hc
  refine Ev.bind e1 ?_
  refine Ev.bind e2 ?_
  refine Ev.bind (implLocksOk ht) ?_
  refine Ev.bind (specLocksOk ht) ?_
  simp only [bne_self_eq_false, Bool.false_eq_true, if_false]
  refine Ev.bind (implLocksOk ht) ?_
  by_cases cok : locksOk t = true
  · simp only [if_pos cok]
    have hpair : t.Pairwise (fun a b => clash a b = false) := by
      unfold locksOk at cok
      exact locksL_pair t [] (Bool.and_eq_true_iff.1 cok).1
    have hl : t.length ≤ maxLen := by have := ht.1; rw [maxLen_eq]; omega
    have hl0 := ht.1
    have htl : (tokensAt p t).length ≤ maxLen := by have := tokens_length p t; rw [maxLen_eq]; omega
    have h1 : mayL p false (tokensAt p t) t false false = true := may_all t false (fun x hx hcx => List.mem_map.2 ⟨x, List.mem_filter.2 ⟨hx, hcx⟩, rfl⟩)
    have h2 : mayL p false [] t false false = decide ((cov p t).length = 0) := by rw [may_none]; rfl
    have key : ∀ (suf pre : List S28), t = pre ++ suf → Ev (fun k => laws_FnAlone.l0 k t p ((cov p pre).length : Int) (lone p pre) pre.length) true := by
      intro suf
      induction suf with
      | nil =>
        intro pre h
        have hpre : pre = t := by rw [h]; simp
        refine Ev.step (fun k => laws_FnAlone.l0.eq_2 ..) ?_
        simp only [if_neg (end_at h)]
        refine Ev.bind (implTokens ht hp.1) ?_
        rw [hpre, tokens_cov]
        simp only [if_true]
        have fin : Ev (fun k => (impl_TokensAt.f k t p).bind fun t838 => ((impl_MayTurn.f k t p false t838).bind fun t841 => (if t841 = true then ((impl_MayTurn.f k t p false (([] : List Int))).bind fun t845 => (some (t845 == (((cov p t).length : Int) == 0)))) else (some false)))) true := by
          refine Ev.bind (implTokens ht hp.1) ?_
          refine Ev.bind (implMayTurn ht hp.1 htl) ?_
          simp only [h1, if_true]
          refine Ev.bind (implMayTurn ht hp.1 (by simp)) ?_
          rw [h2]
          have h3 : (((cov p t).length : Int) == 0) = decide ((cov p t).length = 0) := by
            by_cases c0 : (cov p t).length = 0
            · rw [c0]; rfl
            · rw [decide_eq_false c0]; exact beq_eq_false_iff_ne.mpr (by omega)
          rw [h3, beq_self_eq_true]
          exact Ev.now _
        by_cases cl : lone p t = true
        · have h3 := alone_one hpair cl
          simp only [if_pos cl, if_pos (show ((cov p t).length : Int) = 1 by omega)]
          exact fin
        · simp only [if_neg cl]
          exact fin
      | cons a suf ih =>
        intro pre h
        have ha := ht.2 a (by rw [h]; simp)
        have hpl : t.length = pre.length + (suf.length + 1) := by rw [h]; simp
        have hcl : (cov p pre).length ≤ pre.length := List.length_filter_le _ _
        refine Ev.step (fun k => laws_FnAlone.l0.eq_2 ..) ?_
        simp only [if_pos (lt_at h), if_pos (nonneg_at _), rd_implLock h, next_at h hl]
        refine Ev.bind (implCovers ha hp.1) ?_
        have ih' := ih (pre ++ [a]) (snoc_at h)
        by_cases ca : covers a p = true
        · have e3 : ((cov p (pre ++ [a])).length : Int) = wrap64 (((cov p pre).length : Int) + 1) := by
            rw [wrap_id (by omega) (by omega)]
            unfold cov
            simp [List.filter_append, ca]
          have e4 : lone p (pre ++ [a]) = (lone p pre || !a.f3) := by unfold lone; simp [ca]
          rw [e3, e4] at ih'
          simp only [if_pos ca]
          by_cases cl : lone p pre = true
          · simp only [cl, Bool.true_or] at ih'
            simp only [if_pos cl]
            exact ih'
          · rw [Bool.not_eq_true] at cl
            simp only [cl, Bool.false_or] at ih'
            simp only [cl, Bool.false_eq_true, if_false]
            exact ih'
        · have e3 : cov p (pre ++ [a]) = cov p pre := by unfold cov; simp [List.filter_append, ca]
          have e4 : lone p (pre ++ [a]) = lone p pre := by unfold lone; simp [ca]
          rw [e3, e4] at ih'
          simp only [if_neg ca]
          exact ih'
    exact key t [] rfl
  · simp only [if_neg cok]
    exact Ev.now _
end Go.Proofs.Ytiddgglidkbipaa.Pure
