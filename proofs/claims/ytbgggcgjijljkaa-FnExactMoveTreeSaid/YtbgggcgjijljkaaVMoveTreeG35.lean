/- What a reading of a struct says of its cells. No condition. -/
import Derived.Test.YtbgggcgjijljkaaVMoveTreeG34
import Derived.Laws.Strings
import Derived.Lib.Bytealg
namespace Go.Proofs.Ytbgggcgjijljkaa.Q
open Go.RowKit Go.ChangeShapes Go.WideShapes Go.Proofs.YtbgggcgjijljkaaW.PrintWords Go.Proofs.Ytbgggcgjijljkaa
set_option linter.unusedVariables false
set_option linter.unusedSimpArgs false
theorem len3 {α : Type} {cs : List α} (h : cs.length = 3) : ∃ c0 c1 c2, cs = [c0, c1, c2] := by
  match cs, h with
  | [c0, c1, c2], _ => exact ⟨_, _, _, rfl⟩
theorem len5 {α : Type} {cs : List α} (h : cs.length = 5) : ∃ c0 c1 c2 c3 c4, cs = [c0, c1, c2, c3, c4] := by
  match cs, h with
  | [c0, c1, c2, c3, c4], _ => exact ⟨_, _, _, _, _, rfl⟩
instance : Inhabited S88 := ⟨z88⟩
instance : Inhabited S79 := ⟨z79⟩
instance : Inhabited S90 := ⟨z90⟩
def G88 (x : S88) : Prop := (fun s : ByteArray => s.size <= maxLen) x.f0 /\ (fun s : ByteArray => s.size <= maxLen) x.f1 /\ (fun s : ByteArray => s.size <= maxLen) x.f2
theorem opens88 {H : Type} {enc : TypeId × Value -> H} {w : World} : Op.Opens enc Try.prog w 88 k88 G88 := by
  intro fuel cs x h
  obtain ⟨xs, n, _, _, hl, hlen, hf⟩ := DataW.trod_struct Try.underlying88 h
  replace hl : cs.length = 3 := hl.trans (by kernel_rfl)
  replace hlen : xs.length = 3 := hlen.trans (by kernel_rfl)
  obtain ⟨c0, c1, c2, rfl⟩ := len3 hl
  have hc9_ : Try.prog.cellsOf 9 = 1 := by kernel_rfl
  obtain ⟨a0, k0_, g0_⟩ : ∃ a, Kd.string.K w a [c0] /\ (fun s : ByteArray => s.size <= maxLen) a := by
    have h1 : DataW.trod enc Try.prog w 0 (fun _ => true) true n 9 (([c0, c1, c2].drop 0).take (Try.prog.cellsOf 9)) = xs[0]? := hf 0 _ rfl
    have hlt : 0 < xs.length := by omega
    rw [List.getElem?_eq_getElem hlt] at h1
    simp only [hc9_, List.drop_zero, List.drop_succ_cons, List.take_succ_cons, List.take_zero] at h1
    exact (Op.opens_string Try.underlying9) n [c0] _ h1
  obtain ⟨a1, k1_, g1_⟩ : ∃ a, Kd.string.K w a [c1] /\ (fun s : ByteArray => s.size <= maxLen) a := by
    have h1 : DataW.trod enc Try.prog w 0 (fun _ => true) true n 9 (([c0, c1, c2].drop 1).take (Try.prog.cellsOf 9)) = xs[1]? := hf 1 _ rfl
    have hlt : 1 < xs.length := by omega
    rw [List.getElem?_eq_getElem hlt] at h1
    simp only [hc9_, List.drop_zero, List.drop_succ_cons, List.take_succ_cons, List.take_zero] at h1
    exact (Op.opens_string Try.underlying9) n [c1] _ h1
  obtain ⟨a2, k2_, g2_⟩ : ∃ a, Kd.string.K w a [c2] /\ (fun s : ByteArray => s.size <= maxLen) a := by
    have h1 : DataW.trod enc Try.prog w 0 (fun _ => true) true n 9 (([c0, c1, c2].drop 2).take (Try.prog.cellsOf 9)) = xs[2]? := hf 2 _ rfl
    have hlt : 2 < xs.length := by omega
    rw [List.getElem?_eq_getElem hlt] at h1
    simp only [hc9_, List.drop_zero, List.drop_succ_cons, List.take_succ_cons, List.take_zero] at h1
    exact (Op.opens_string Try.underlying9) n [c2] _ h1
  exact ⟨⟨a0, a1, a2⟩, ⟨[c0], [c1, c2], rfl, k0_, ⟨[c1], [c2], rfl, k1_, k2_⟩⟩, ⟨g0_, g1_, g2_⟩⟩
def G79 (x : S79) : Prop := (fun l : List ByteArray => l.length <= maxLen /\ ∀ a ∈ l, (fun s : ByteArray => s.size <= maxLen) a) x.f0 /\ (fun _ : Bool => True) x.f1 /\ (fun s : ByteArray => s.size <= maxLen) x.f2 /\ (fun x : Int => (Lit.int .i64 x).wf = true) x.f3 /\ (fun l : List (S88) => l.length <= maxLen /\ ∀ a ∈ l, G88 a) x.f4
theorem opens79 {H : Type} {enc : TypeId × Value -> H} {w : World} : Op.Opens enc Try.prog w 79 k79 G79 := by
  intro fuel cs x h
  obtain ⟨xs, n, _, _, hl, hlen, hf⟩ := DataW.trod_struct Try.underlying79 h
  replace hl : cs.length = 5 := hl.trans (by kernel_rfl)
  replace hlen : xs.length = 5 := hlen.trans (by kernel_rfl)
  obtain ⟨c0, c1, c2, c3, c4, rfl⟩ := len5 hl
  have hc23_ : Try.prog.cellsOf 23 = 1 := by kernel_rfl
  have hc4_ : Try.prog.cellsOf 4 = 1 := by kernel_rfl
  have hc9_ : Try.prog.cellsOf 9 = 1 := by kernel_rfl
  have hc3_ : Try.prog.cellsOf 3 = 1 := by kernel_rfl
  have hc77_ : Try.prog.cellsOf 77 = 1 := by kernel_rfl
  obtain ⟨a0, k0_, g0_⟩ : ∃ a, (Kd.slice 9 Kd.string).K w a [c0] /\ (fun l : List ByteArray => l.length <= maxLen /\ ∀ a ∈ l, (fun s : ByteArray => s.size <= maxLen) a) a := by
    have h1 : DataW.trod enc Try.prog w 0 (fun _ => true) true n 23 (([c0, c1, c2, c3, c4].drop 0).take (Try.prog.cellsOf 23)) = xs[0]? := hf 0 _ rfl
    have hlt : 0 < xs.length := by omega
    rw [List.getElem?_eq_getElem hlt] at h1
    simp only [hc23_, List.drop_zero, List.drop_succ_cons, List.take_succ_cons, List.take_zero] at h1
    exact (Op.opens_slice Try.underlying23 (by kernel_rfl) (Op.opens_string Try.underlying9)) n [c0] _ h1
  obtain ⟨a1, k1_, g1_⟩ : ∃ a, Kd.bool.K w a [c1] /\ (fun _ : Bool => True) a := by
    have h1 : DataW.trod enc Try.prog w 0 (fun _ => true) true n 4 (([c0, c1, c2, c3, c4].drop 1).take (Try.prog.cellsOf 4)) = xs[1]? := hf 1 _ rfl
    have hlt : 1 < xs.length := by omega
    rw [List.getElem?_eq_getElem hlt] at h1
    simp only [hc4_, List.drop_zero, List.drop_succ_cons, List.take_succ_cons, List.take_zero] at h1
    exact (Op.opens_bool Try.underlying4) n [c1] _ h1
  obtain ⟨a2, k2_, g2_⟩ : ∃ a, Kd.string.K w a [c2] /\ (fun s : ByteArray => s.size <= maxLen) a := by
    have h1 : DataW.trod enc Try.prog w 0 (fun _ => true) true n 9 (([c0, c1, c2, c3, c4].drop 2).take (Try.prog.cellsOf 9)) = xs[2]? := hf 2 _ rfl
    have hlt : 2 < xs.length := by omega
    rw [List.getElem?_eq_getElem hlt] at h1
    simp only [hc9_, List.drop_zero, List.drop_succ_cons, List.take_succ_cons, List.take_zero] at h1
    exact (Op.opens_string Try.underlying9) n [c2] _ h1
  obtain ⟨a3, k3_, g3_⟩ : ∃ a, (Kd.int .i64).K w a [c3] /\ (fun x : Int => (Lit.int .i64 x).wf = true) a := by
    have h1 : DataW.trod enc Try.prog w 0 (fun _ => true) true n 3 (([c0, c1, c2, c3, c4].drop 3).take (Try.prog.cellsOf 3)) = xs[3]? := hf 3 _ rfl
    have hlt : 3 < xs.length := by omega
    rw [List.getElem?_eq_getElem hlt] at h1
    simp only [hc3_, List.drop_zero, List.drop_succ_cons, List.take_succ_cons, List.take_zero] at h1
    exact (Op.opens_int Try.underlying3) n [c3] _ h1
  obtain ⟨a4, k4_, g4_⟩ : ∃ a, (Kd.slice 88 k88).K w a [c4] /\ (fun l : List (S88) => l.length <= maxLen /\ ∀ a ∈ l, G88 a) a := by
    have h1 : DataW.trod enc Try.prog w 0 (fun _ => true) true n 77 (([c0, c1, c2, c3, c4].drop 4).take (Try.prog.cellsOf 77)) = xs[4]? := hf 4 _ rfl
    have hlt : 4 < xs.length := by omega
    rw [List.getElem?_eq_getElem hlt] at h1
    simp only [hc77_, List.drop_zero, List.drop_succ_cons, List.take_succ_cons, List.take_zero] at h1
    exact (Op.opens_slice Try.underlying77 (by kernel_rfl) opens88) n [c4] _ h1
  exact ⟨⟨a0, a1, a2, a3, a4⟩, ⟨[c0], [c1, c2, c3, c4], rfl, k0_, ⟨[c1], [c2, c3, c4], rfl, k1_, ⟨[c2], [c3, c4], rfl, k2_, ⟨[c3], [c4], rfl, k3_, k4_⟩⟩⟩⟩, ⟨g0_, g1_, g2_, g3_, g4_⟩⟩
end Go.Proofs.Ytbgggcgjijljkaa.Q

/- Small lemmas for plain laws over rounds: indices as lengths of what was passed, bytes' equality. No condition. -/
set_option linter.unusedSimpArgs false
set_option linter.unusedVariables false
namespace Go.Proofs.Ytbgggcgjijljkaa.L
open Go.RowKit Go.Proofs.YtbgggcgjijljkaaW.PrintWords Go.Proofs.YtbgggcgjijljkaaW.PrintLast
theorem ba_toList (s : ByteArray) : s.toList = s.data.toList := ByteArray.toList_eq s
theorem ba_inj {a b : ByteArray} (h : a.toList = b.toList) : a = b := by
  rw [ba_toList, ba_toList] at h
  cases a with | mk x => cases b with | mk y => congr 1; exact Array.toList_inj.1 h
theorem ba_eq {a b : ByteArray} : (a.toList = b.toList) = (a = b) := propext ⟨ba_inj, fun h => by rw [h]⟩
theorem maxLen_eq : maxLen = 9223372036854775807 := by decide
theorem wrap_id {x : Int} (h0 : -9223372036854775808 <= x) (h1 : x < 9223372036854775808) : wrap64 x = x := by
  unfold wrap64
  omega
section
variable {α : Type} {l pre suf : List α} {a : α}
theorem lt_at (h : l = pre ++ a :: suf) : ((pre.length : Nat) : Int) < (l.length : Int) := by subst h; simp; omega
theorem rd_at (d : α) (h : l = pre ++ a :: suf) : rdOf d l (pre.length : Int) = a := by subst h; simp [rdOf, List.getD_eq_getElem?_getD]
theorem getD_at (d : α) (h : l = pre ++ a :: suf) : l.getD ((pre.length : Nat) : Int).toNat d = a := by subst h; simp [List.getD_eq_getElem?_getD]
theorem next_at (h : l = pre ++ a :: suf) (hl : l.length <= maxLen) : wrap64 ((pre.length : Int) + 1) = ((pre ++ [a]).length : Int) := by
  have : l.length = pre.length + 1 + suf.length := by subst h; simp; omega
  rw [maxLen_eq] at hl
  rw [wrap_id (by omega) (by omega)]
  simp
theorem snoc_at (h : l = pre ++ a :: suf) : l = (pre ++ [a]) ++ suf := by subst h; simp
theorem end_at (h : l = pre ++ []) : ¬ ((pre.length : Nat) : Int) < (l.length : Int) := by subst h; simp
theorem set_at {b : α} (h : l = pre ++ a :: suf) : l.set ((pre.length : Nat) : Int).toNat b = (pre ++ [b]) ++ suf := by subst h; simp
theorem nonneg_at (n : Nat) : (0 : Int) <= (n : Int) := Int.natCast_nonneg n
end
def Sz (g : Nat -> Option Int) (n : Int) (P : Prop) : Prop := Ev g (-1) \/ ∃ m : Int, 0 <= m /\ m <= n /\ Ev g m /\ P
theorem Sz.bind {g : Nat -> Option Int} {f : Nat -> Int -> Option Int} {n : Int} {P Q : Prop} (h : Sz g n P) (hk : ∀ m, 0 <= m -> m <= n -> P -> Sz (fun k => f k m) m Q) (hneg : Ev (fun k => f k (-1)) (-1)) : Sz (fun k => (g k).bind (f k)) n Q := by
  rcases h with h | ⟨m, h0, h1, h, hP⟩
  . exact .inl (Ev.bind h hneg)
  . rcases hk m h0 h1 hP with h2 | ⟨m', h0', h1', h2, hQ⟩
    . exact .inl (Ev.bind h h2)
    . exact .inr ⟨m', h0', by omega, Ev.bind h h2, hQ⟩
theorem Sz.sub {f : Nat -> Option Int} {n c : Int} {Q : Prop} (hc : 0 <= c) (hk : c <= n -> Sz f (n - c) Q) : Sz (fun k => if n - c < 0 then some (-1) else f k) n Q := by
  by_cases h : n - c < 0
  . simp only [if_pos h]; exact .inl (Ev.now _)
  . simp only [if_neg h]
    rcases hk (by omega) with h2 | ⟨m, h0, h1, h2, hQ⟩
    . exact .inl h2
    . exact .inr ⟨m, h0, by omega, h2, hQ⟩
theorem Sz.ev {α : Type} {g : Nat -> Option Int} {f : Nat -> Int -> Option α} {n : Int} {P : Prop} {r : α} (h : Sz g n P) (hneg : Ev (fun k => f k (-1)) r) (hk : ∀ m, 0 <= m -> m <= n -> P -> Ev (fun k => f k m) r) : Ev (fun k => (g k).bind (f k)) r := by
  rcases h with h | ⟨m, h0, h1, h, hP⟩
  . exact Ev.bind h hneg
  . exact Ev.bind h (hk m h0 h1 hP)
def IntOk (x : Int) : Prop := -9223372036854775808 <= x /\ x < 9223372036854775808
theorem wf_int {x : Int} (h : (Lit.int .i64 x).wf = true) : IntOk x := by
  unfold Lit.wf at h
  rw [Bool.and_eq_true, decide_eq_true_eq, decide_eq_true_eq] at h
  have h1 : IntKind.i64.min = -9223372036854775808 := by decide
  have h2 : IntKind.i64.max = 9223372036854775807 := by decide
  rw [h1, h2] at h
  exact ⟨h.1, by omega⟩
def SmS (l : List ByteArray) : Prop := l.length <= 1048576 /\ ∀ s ∈ l, s.size <= 1048576
theorem sz_loop {α : Type} {l : List α} {P : α -> Prop} (g : Nat -> Int -> Int -> Option Int)
    (hend : ∀ n, Ev (fun k => g k n l.length) n)
    (hstep : ∀ pre a suf n, l = pre ++ a :: suf -> 0 <= n -> n <= 1048576 -> Ev (fun k => g k n (pre.length : Int)) (-1) \/ ∃ m, 0 <= m /\ m <= n /\ P a /\ ∀ r, Ev (fun k => g k m ((pre ++ [a]).length : Int)) r -> Ev (fun k => g k n (pre.length : Int)) r) :
    ∀ (suf pre : List α) (n : Int), l = pre ++ suf -> 0 <= n -> n <= 1048576 -> Sz (fun k => g k n (pre.length : Int)) n (∀ a ∈ suf, P a) := by
  intro suf
  induction suf with
  | nil =>
    intro pre n h h0 h1
    have := hend n
    rw [h, List.append_nil] at this
    exact .inr ⟨n, h0, Int.le_refl _, this, by simp⟩
  | cons a suf ih =>
    intro pre n h h0 h1
    rcases hstep pre a suf n h h0 h1 with h2 | ⟨m, hm0, hm1, hP, hr⟩
    . exact .inl h2
    . rcases ih (pre ++ [a]) m (snoc_at h) hm0 (by omega) with h3 | ⟨m', hm0', hm1', h3, h4⟩
      . exact .inl (hr _ h3)
      . exact .inr ⟨m', hm0', by omega, hr _ h3, fun x hx => by
          rcases List.mem_cons.1 hx with rfl | hx
          . exact hP
          . exact h4 x hx⟩
theorem to_loop {α β : Type} {l : List α} {f : α -> β} (g : Nat -> List β -> Int -> Option (List β))
    (hend : ∀ out, Ev (fun k => g k out l.length) out)
    (hstep : ∀ pre a suf (out : List β), l = pre ++ a :: suf -> ((pre.length : Nat) : Int) < (out.length : Int) -> ∀ r, Ev (fun k => g k (out.set ((pre.length : Nat) : Int).toNat (f a)) ((pre ++ [a]).length : Int)) r -> Ev (fun k => g k out (pre.length : Int)) r) :
    ∀ (suf pre : List α) (out rest : List β), l = pre ++ suf -> out = pre.map f ++ rest -> rest.length = suf.length -> Ev (fun k => g k out (pre.length : Int)) (l.map f) := by
  intro suf
  induction suf with
  | nil =>
    intro pre out rest h ho hr
    obtain rfl : rest = [] := by simpa using hr
    have := hend out
    rw [h, List.append_nil] at this ⊢
    rw [ho, List.append_nil] at this ⊢
    exact this
  | cons a suf ih =>
    intro pre out rest h ho hr
    obtain ⟨b, rest, rfl⟩ : ∃ b r, rest = b :: r := by
      cases rest with
      | nil => simp at hr
      | cons b r => exact ⟨b, r, rfl⟩
    have hlen : ((pre.length : Nat) : Int) < (out.length : Int) := by rw [ho]; simp; omega
    refine hstep pre a suf out h hlen _ (ih (pre ++ [a]) _ rest (snoc_at h) ?_ (by simpa using hr))
    rw [ho]
    simp [List.set_append]
theorem eq_loop {α : Type} [DecidableEq α] {a b : List α} (g : Nat -> Int -> Option Bool)
    (hend : Ev (fun k => g k a.length) true)
    (hstep : ∀ pre x su pre' y sv, a = pre ++ x :: su -> b = pre' ++ y :: sv -> pre.length = pre'.length -> (x ≠ y -> Ev (fun k => g k (pre.length : Int)) false) /\ (x = y -> ∀ r, Ev (fun k => g k ((pre ++ [x]).length : Int)) r -> Ev (fun k => g k (pre.length : Int)) r)) :
    ∀ (su sv pu pv : List α), a = pu ++ su -> b = pv ++ sv -> pu.length = pv.length -> su.length = sv.length -> Ev (fun k => g k (pu.length : Int)) (decide (su = sv)) := by
  intro su
  induction su with
  | nil =>
    intro sv pu pv h h' hp hs
    obtain rfl : sv = [] := by simpa using hs.symm
    rw [h, List.append_nil] at hend
    exact hend
  | cons x su ih =>
    intro sv pu pv h h' hp hs
    cases sv with
    | nil => simp at hs
    | cons y sv =>
      obtain ⟨h1, h2⟩ := hstep pu x su pv y sv h h' hp
      by_cases e : x = y
      . have h3 := h2 e _ (ih sv (pu ++ [x]) (pv ++ [y]) (snoc_at h) (snoc_at h') (by simp [hp]) (by simpa using hs))
        simp only [e, List.cons.injEq, true_and]
        exact h3
      . rw [show decide (x :: su = y :: sv) = false from decide_eq_false (fun h => e (List.cons.inj h).1)]
        exact h1 e
theorem ev_cast {α : Type} {g : Nat -> Option α} {r s : α} (h : Ev g r) (e : r = s) : Ev g s := e ▸ h
end Go.Proofs.Ytbgggcgjijljkaa.L

/- Texts byte by byte: plain texts, small names, as the program and the reference have them. No condition. -/
set_option linter.unusedSimpArgs false
set_option linter.unusedVariables false
namespace Go.Proofs.Ytbgggcgjijljkaa.L
open Go.RowKit Go.Proofs.YtbgggcgjijljkaaW.PrintWords Go.Proofs.YtbgggcgjijljkaaW.PrintLast Go.Proofs.Ytbgggcgjijljkaa.Q
abbrev bl (s : ByteArray) : List UInt8 := s.data.toList
theorem bl_len (s : ByteArray) : (bl s).length = s.size := data_length s
section
variable {s : ByteArray} {pre suf : List UInt8} {c : UInt8}
theorem blt_at (h : bl s = pre ++ c :: suf) : ((pre.length : Nat) : Int) < (s.size : Int) := by
  have := bl_len s
  rw [h] at this
  simp at this
  omega
theorem bend_at (h : bl s = pre ++ []) : ¬ ((pre.length : Nat) : Int) < (s.size : Int) := by
  have := bl_len s
  rw [h] at this
  simp at this
  omega
theorem bt_at' (h : bl s = pre ++ c :: suf) : bt s (pre.length : Int) = (c.toNat : Int) := by
  have hlt := blt_at h
  have h2 : pre.length < s.size := by omega
  rw [← bt_at s (pre.length : Int) (by simpa using h2)]
  have h3 : pre.length < (bl s).length := by rw [bl_len]; exact h2
  have h4 : (bl s)[pre.length] = c := by simp [h]
  have h5 : s[pre.length]'h2 = (bl s)[pre.length] := by
    show s.data[pre.length] = _
    simp
  simp only [Int.toNat_natCast, h5, h4]
theorem bnext_at (h : bl s = pre ++ c :: suf) (hs : s.size <= maxLen) : wrap64 ((pre.length : Int) + 1) = ((pre ++ [c]).length : Int) := by
  have := blt_at h
  rw [maxLen_eq] at hs
  rw [wrap_id (by omega) (by omega)]
  simp
end
theorem byte_bounds (c : UInt8) : 0 <= (c.toNat : Int) /\ (c.toNat : Int) <= 255 := ⟨by omega, by have := c.toNat_lt; omega⟩
theorem wrap_byte (c : UInt8) : wrap64 (c.toNat : Int) = (c.toNat : Int) := wrap_id (by omega) (by have := byte_bounds c; omega)
def inB (lo hi : Int) (c : UInt8) : Bool := decide (lo <= (c.toNat : Int) /\ (c.toNat : Int) <= hi)
theorem specIn (a b c : Int) : spec_l1In.f a b c = some (decide (b <= a /\ a <= c)) := by
  unfold spec_l1In.f
  by_cases h : a >= b
  . rw [if_pos h]; simp [show b <= a from h]
  . rw [if_neg h]; simp [show ¬ b <= a from h]
theorem implIn (a b c : Int) : impl_in.f a b c = some (decide (b <= a /\ a <= c)) := by
  unfold impl_in.f
  by_cases h : a >= b
  . rw [if_pos h]; simp [show b <= a from h]
  . rw [if_neg h]; simp [show ¬ b <= a from h]
theorem implIsPlain (c : UInt8) : impl_isPlain.f (c.toNat : Int) = some (inB 32 126 c) := by
  unfold impl_isPlain.f inB
  by_cases h : (c.toNat : Int) >= 32
  . rw [if_pos h]; simp only [show (32 : Int) <= c.toNat from h, true_and]
  . rw [if_neg h]; simp only [show ¬ (32 : Int) <= c.toNat from h, false_and, decide_false]
theorem implIsSmall (c : UInt8) : impl_isSmall.f (c.toNat : Int) = some (inB 97 122 c) := by
  unfold impl_isSmall.f inB
  by_cases h : (c.toNat : Int) >= 97
  . rw [if_pos h]; simp only [show (97 : Int) <= c.toNat from h, true_and]
  . rw [if_neg h]; simp only [show ¬ (97 : Int) <= c.toNat from h, false_and, decide_false]
theorem implIsDigit (c : UInt8) : impl_isDigit.f (c.toNat : Int) = some (inB 48 57 c) := by
  unfold impl_isDigit.f inB
  by_cases h : (c.toNat : Int) >= 48
  . rw [if_pos h]; simp only [show (48 : Int) <= c.toNat from h, true_and]
  . rw [if_neg h]; simp only [show ¬ (48 : Int) <= c.toNat from h, false_and, decide_false]
theorem specSmall1 (c : UInt8) : spec_l1Small.f (c.toNat : Int) = some (inB 97 122 c) := by
  unfold spec_l1Small.f; rw [wrap_byte, specIn]; rfl
theorem specDigit1 (c : UInt8) : spec_l1Digit.f (c.toNat : Int) = some (inB 48 57 c) := by
  unfold spec_l1Digit.f; rw [wrap_byte, specIn]; rfl
def plainL (l : List UInt8) : Bool := l.all (inB 32 126)
theorem specPlain_loop {s : ByteArray} (hs : s.size <= maxLen) : ∀ (suf pre : List UInt8), bl s = pre ++ suf -> Ev (fun k => spec_Plain.l0 k s pre.length) (plainL suf) := by
  intro suf
  induction suf with
  | nil =>
    intro pre h
    refine Ev.step (fun k => spec_Plain.l0.eq_2 ..) ?_
    simp only [if_neg (bend_at h)]
    exact Ev.now _
  | cons c suf ih =>
    intro pre h
    refine Ev.step (fun k => spec_Plain.l0.eq_2 ..) ?_
    simp only [if_pos (blt_at h), if_pos (nonneg_at _), bt_at' h, wrap_byte, specIn, Option.bind_some, bnext_at h hs]
    have := ih (pre ++ [c]) (snoc_at h)
    simp only [plainL, List.all_cons, inB] at this ⊢
    by_cases e : (32 : Int) <= c.toNat /\ (c.toNat : Int) <= 126
    . simp only [e, and_self, decide_true, if_true, Bool.true_and]
      exact this
    . simp only [e, decide_false, Bool.false_eq_true, if_false, Bool.false_and]
      exact Ev.now _
theorem specPlain {s : ByteArray} (hs : s.size <= maxLen) : Ev (fun k => spec_Plain.f k s) (plainL (bl s)) := specPlain_loop hs _ [] rfl
theorem implPlain_loop {s : ByteArray} (hs : s.size <= maxLen) : ∀ (suf pre : List UInt8), bl s = pre ++ suf -> Ev (fun k => impl_Plain.l0 k s pre.length) (plainL suf) := by
  intro suf
  induction suf with
  | nil =>
    intro pre h
    refine Ev.step (fun k => impl_Plain.l0.eq_2 ..) ?_
    simp only [if_neg (bend_at h)]
    exact Ev.now _
  | cons c suf ih =>
    intro pre h
    refine Ev.step (fun k => impl_Plain.l0.eq_2 ..) ?_
    simp only [if_pos (blt_at h), if_pos (nonneg_at _), bt_at' h, implIsPlain, Option.bind_some, bnext_at h hs]
    have := ih (pre ++ [c]) (snoc_at h)
    simp only [plainL, List.all_cons] at this ⊢
    by_cases e : inB 32 126 c = true
    . simp only [e, if_true, Bool.true_and]
      exact this
    . simp only [e, if_false, Bool.false_and]
      exact Ev.now _
theorem implPlain {s : ByteArray} (hs : s.size <= maxLen) : Ev (fun k => impl_Plain.f k s) (plainL (bl s)) := implPlain_loop hs _ [] rfl
def smallL : Bool -> List UInt8 -> Bool
  | _, [] => true
  | first, c :: l => (inB 97 122 c || (!first && (inB 48 57 c || decide (c = 45)))) && smallL false l
theorem eq45 (c : UInt8) : ((c.toNat : Int) = 45) = (c = 45) := by
  apply propext
  constructor
  . intro h
    apply UInt8.toNat_inj.1
    show c.toNat = 45
    omega
  . rintro rfl
    rfl
def smallName (s : ByteArray) : Bool := smallL true (bl s) && decide (1 <= (s.size : Int) /\ (s.size : Int) <= 20)
theorem specSmall_loop {s : ByteArray} (hs : s.size <= maxLen) : ∀ (suf pre : List UInt8), bl s = pre ++ suf -> Ev (fun k => spec_SmallName.l0 k s pre.length) (smallL (decide (pre = [])) suf && decide (1 <= (s.size : Int) /\ (s.size : Int) <= 20)) := by
  intro suf
  induction suf with
  | nil =>
    intro pre h
    refine Ev.step (fun k => spec_SmallName.l0.eq_2 ..) ?_
    simp only [if_neg (bend_at h), specIn, Option.bind_some, smallL, Bool.true_and]
    exact Ev.now _
  | cons c suf ih =>
    intro pre h
    refine Ev.step (fun k => spec_SmallName.l0.eq_2 ..) ?_
    simp only [if_pos (blt_at h), if_pos (nonneg_at _), bt_at' h, specSmall1, specDigit1, Option.bind_some, bnext_at h hs, eq45]
    have := ih (pre ++ [c]) (snoc_at h)
    rw [show decide (pre ++ [c] = []) = false by simp] at this
    simp only [smallL]
    by_cases e : inB 97 122 c = true
    . simp only [e, if_true, Bool.true_or, Bool.true_and]
      exact this
    . simp only [e, Bool.false_eq_true, if_false, Bool.false_or]
      by_cases e0 : pre = []
      . subst e0
        simp only [List.length_nil, Int.natCast_zero, if_true, decide_true, Bool.not_true, Bool.false_and]
        exact Ev.now _
      . have hp : ¬ ((pre.length : Nat) : Int) = 0 := by
          intro h0
          exact e0 (List.eq_nil_of_length_eq_zero (by omega))
        simp only [if_neg hp, e0, decide_false, Bool.not_false, Bool.true_and]
        by_cases e1 : inB 48 57 c = true
        . simp only [e1, if_true, Bool.true_or, Bool.true_and]
          exact this
        . simp only [e1, Bool.false_eq_true, if_false, Bool.false_or]
          by_cases e2 : c = 45
          . simp only [e2, if_true, decide_true, Bool.true_and]
            subst e2
            exact this
          . simp only [e2, if_false, decide_false, Bool.false_and]
            exact Ev.now _
theorem specSmall {s : ByteArray} (hs : s.size <= maxLen) : Ev (fun k => spec_SmallName.f k s) (smallName s) := specSmall_loop hs _ [] rfl
theorem implSmall_loop {s : ByteArray} (hs : s.size <= maxLen) : ∀ (suf pre : List UInt8), bl s = pre ++ suf -> Ev (fun k => impl_SmallName.l0 k s pre.length) (smallL (decide (pre = [])) suf && decide (1 <= (s.size : Int) /\ (s.size : Int) <= 20)) := by
  intro suf
  induction suf with
  | nil =>
    intro pre h
    refine Ev.step (fun k => impl_SmallName.l0.eq_2 ..) ?_
    simp only [if_neg (bend_at h), implIn, Option.bind_some, smallL, Bool.true_and]
    exact Ev.now _
  | cons c suf ih =>
    intro pre h
    refine Ev.step (fun k => impl_SmallName.l0.eq_2 ..) ?_
    simp only [if_pos (blt_at h), if_pos (nonneg_at _), bt_at' h, implIsSmall, implIsDigit, Option.bind_some, bnext_at h hs, eq45]
    have := ih (pre ++ [c]) (snoc_at h)
    rw [show decide (pre ++ [c] = []) = false by simp] at this
    simp only [smallL]
    by_cases e : inB 97 122 c = true
    . simp only [e, if_true, Bool.true_or, Bool.true_and]
      exact this
    . simp only [e, Bool.false_eq_true, if_false, Bool.false_or]
      by_cases e0 : pre = []
      . subst e0
        simp only [List.length_nil, Int.natCast_zero, if_true, decide_true, Bool.not_true, Bool.false_and]
        exact Ev.now _
      . have hp : ¬ ((pre.length : Nat) : Int) = 0 := by
          intro h0
          exact e0 (List.eq_nil_of_length_eq_zero (by omega))
        simp only [if_neg hp, e0, decide_false, Bool.not_false, Bool.true_and]
        by_cases e1 : inB 48 57 c = true
        . simp only [e1, if_true, Bool.true_or, Bool.true_and]
          exact this
        . simp only [e1, Bool.false_eq_true, if_false, Bool.false_or]
          by_cases e2 : c = 45
          . simp only [e2, if_true, decide_true, Bool.true_and]
            subst e2
            exact this
          . simp only [e2, if_false, decide_false, Bool.false_and]
            exact Ev.now _
theorem implSmall {s : ByteArray} (hs : s.size <= maxLen) : Ev (fun k => impl_SmallName.f k s) (smallName s) := implSmall_loop hs _ [] rfl
end Go.Proofs.Ytbgggcgjijljkaa.L

/- Names and paths: are they right; as the program and the reference have it. No condition. -/
set_option linter.unusedSimpArgs false
set_option linter.unusedVariables false
namespace Go.Proofs.Ytbgggcgjijljkaa.L
open Go.RowKit Go.Proofs.YtbgggcgjijljkaaW.PrintWords Go.Proofs.YtbgggcgjijljkaaW.PrintLast Go.Proofs.Ytbgggcgjijljkaa.Q
theorem indexByte_mem (l : List UInt8) (c : UInt8) : (0 <= Lib.indexByte l c) ↔ c ∈ l := by
  induction l with
  | nil => simp [Lib.indexByte]
  | cons b l ih =>
    have hge := Lib.indexByte_ge l c
    unfold Lib.indexByte
    by_cases e : b = c
    . simp [e]
    . have e' : ¬ c = b := fun h => e h.symm
      simp only [beq_iff_eq, e, if_false, List.mem_cons, e', false_or]
      rw [← ih]
      by_cases h : Lib.indexByte l c = -1
      . simp [h]
      . simp only [h, if_false]; omega
theorem ba_toList_eq (s : ByteArray) (l : List UInt8) : (s.toList = l) = (bl s = l) := by rw [ba_toList]
def nameOk (s : ByteArray) : Bool := decide (47 ∉ bl s) && (decide (1 <= (s.size : Int) /\ (s.size : Int) <= 8) && (plainL (bl s) && (decide (bl s ≠ [46]) && decide (bl s ≠ [46, 46]))))
theorem eq47 (c : UInt8) : ((c.toNat : Int) = 47) = (c = 47) := by
  apply propext
  constructor
  . intro h
    apply UInt8.toNat_inj.1
    show c.toNat = 47
    omega
  . rintro rfl
    rfl
theorem bne_dec {α : Type} [BEq α] [LawfulBEq α] [DecidableEq α] (a b : α) : (a != b) = decide (a ≠ b) := by
  by_cases e : a = b <;> simp [e]
theorem specNameOk {s : ByteArray} (hs : s.size <= 1048576) : Ev (fun k => spec_NameOk.f k s) (nameOk s) := by
  have hm : s.size <= maxLen := by rw [maxLen_eq]; omega
  have key : ∀ (suf pre : List UInt8), bl s = pre ++ suf -> Ev (fun k => spec_NameOk.l0 k s pre.length) (decide (47 ∉ suf) && (decide (1 <= (s.size : Int) /\ (s.size : Int) <= 8) && (plainL (bl s) && (decide (bl s ≠ [46]) && decide (bl s ≠ [46, 46]))))) := by
    intro suf
    induction suf with
    | nil =>
      intro pre h
      refine Ev.step (fun k => spec_NameOk.l0.eq_2 ..) ?_
      simp only [if_neg (bend_at h), specIn, Option.bind_some, List.not_mem_nil, not_false_eq_true, decide_true, Bool.true_and]
      by_cases c0 : 1 <= (s.size : Int) /\ (s.size : Int) <= 8
      . simp only [c0, decide_true, if_true, and_self, Bool.true_and]
        refine Ev.bind (specPlain hm) ?_
        by_cases c1 : plainL (bl s) = true
        . simp only [c1, if_true, Bool.true_and, ba_toList_eq, bne_dec, ba_toList]
          by_cases c2 : bl s = [46]
          . simp only [c2, if_true]
            exact Ev.now _
          . simp only [c2, if_false, ne_eq, not_false_eq_true, decide_true, Bool.true_and]
            exact Ev.now _
        . simp only [c1, Bool.false_eq_true, if_false, Bool.false_and]
          exact Ev.now _
      . simp only [c0, decide_false, Bool.false_eq_true, if_false, Bool.false_and]
        exact Ev.now _
    | cons c suf ih =>
      intro pre h
      refine Ev.step (fun k => spec_NameOk.l0.eq_2 ..) ?_
      simp only [if_pos (blt_at h), if_pos (nonneg_at _), bt_at' h, eq47, bnext_at h hm]
      by_cases e : c = 47
      . simp only [e, if_true, List.mem_cons, true_or, not_true_eq_false, decide_false, Bool.false_and]
        exact Ev.now _
      . have e' : ¬ 47 = c := fun h => e h.symm
        simp only [e, if_false, List.mem_cons, e', false_or]
        exact ih (pre ++ [c]) (snoc_at h)
  exact key _ [] rfl
theorem implNameOk {s : ByteArray} (hs : s.size <= 1048576) : Ev (fun k => impl_NameOk.f k s) (nameOk s) := by
  have hm : s.size <= maxLen := by rw [maxLen_eq]; omega
  unfold impl_NameOk.f nameOk
  simp only [implIn, Option.bind_some]
  by_cases c0 : 1 <= (s.size : Int) /\ (s.size : Int) <= 8
  . simp only [c0, decide_true, if_true, and_self, Bool.true_and]
    refine Ev.bind (implPlain hm) ?_
    by_cases c1 : plainL (bl s) = true
    . simp only [c1, if_true, Bool.true_and, strings_Contains.f, Option.bind_some, decide_eq_true_eq, indexByte_mem, ba_toList_eq, bne_dec, ba_toList]
      by_cases c2 : (47 : UInt8) ∈ s.data.toList
      . simp only [c2, if_true, not_true_eq_false, decide_false, Bool.false_and]
        exact Ev.now _
      . simp only [c2, if_false, not_false_eq_true, decide_true, Bool.true_and]
        by_cases c3 : bl s = [46]
        . simp only [c3, if_true]
          exact Ev.now _
        . simp only [c3, if_false, ne_eq, not_false_eq_true, decide_true, Bool.true_and]
          exact Ev.now _
    . simp only [c1, Bool.false_eq_true, if_false, Bool.false_and, Bool.and_false]
      exact Ev.now _
  . simp only [c0, decide_false, Bool.false_eq_true, if_false, Bool.false_and, Bool.and_false]
    exact Ev.now _
def pathOk (p : List ByteArray) : Bool := p.all nameOk && decide ((p.length : Int) <= 4)
theorem specPathOk {p : List ByteArray} (hp : SmS p) : Ev (fun k => spec_PathOk.f k p) (pathOk p) := by
  have hl : p.length <= maxLen := by have := hp.1; rw [maxLen_eq]; omega
  have key : ∀ (suf pre : List ByteArray), p = pre ++ suf -> Ev (fun k => spec_PathOk.l0 k p pre.length) (suf.all nameOk && decide ((p.length : Int) <= 4)) := by
    intro suf
    induction suf with
    | nil =>
      intro pre h
      refine Ev.step (fun k => spec_PathOk.l0.eq_2 ..) ?_
      simp only [if_neg (end_at h), List.all_nil, Bool.true_and]
      exact Ev.now _
    | cons a suf ih =>
      intro pre h
      refine Ev.step (fun k => spec_PathOk.l0.eq_2 ..) ?_
      simp only [if_pos (lt_at h), if_pos (nonneg_at _), rd_at _ h, next_at h hl]
      refine Ev.bind (specNameOk (hp.2 a (by rw [h]; simp))) ?_
      simp only [List.all_cons]
      by_cases e : nameOk a = true
      . simp only [e, if_true, Bool.true_and]
        exact ih (pre ++ [a]) (snoc_at h)
      . simp only [e, Bool.false_eq_true, if_false, Bool.false_and]
        exact Ev.now _
  exact key p [] rfl
theorem implPathOk {p : List ByteArray} (hp : SmS p) : Ev (fun k => impl_PathOk.f k p) (pathOk p) := by
  have hl : p.length <= maxLen := by have := hp.1; rw [maxLen_eq]; omega
  have key : ∀ (suf pre : List ByteArray), p = pre ++ suf -> Ev (fun k => impl_PathOk.l0 k p p (p.length : Int) pre.length) (suf.all nameOk && decide ((p.length : Int) <= 4)) := by
    intro suf
    induction suf with
    | nil =>
      intro pre h
      refine Ev.step (fun k => impl_PathOk.l0.eq_2 ..) ?_
      simp only [if_neg (end_at h), List.all_nil, Bool.true_and]
      exact Ev.now _
    | cons a suf ih =>
      intro pre h
      refine Ev.step (fun k => impl_PathOk.l0.eq_2 ..) ?_
      simp only [if_pos (lt_at h), if_pos (nonneg_at _), rd_at _ h, next_at h hl]
      refine Ev.bind (implNameOk (hp.2 a (by rw [h]; simp))) ?_
      simp only [List.all_cons]
      by_cases e : nameOk a = true
      . simp only [e, if_true, Bool.true_and]
        exact ih (pre ++ [a]) (snoc_at h)
      . simp only [e, Bool.false_eq_true, if_false, Bool.false_and]
        exact Ev.now _
  exact key p [] rfl
end Go.Proofs.Ytbgggcgjijljkaa.L

/- A path without its last name; as the program and the reference have it. No condition. -/
set_option linter.unusedSimpArgs false
set_option linter.unusedVariables false
namespace Go.Proofs.Ytbgggcgjijljkaa.L
open Go.RowKit Go.Proofs.YtbgggcgjijljkaaW.PrintWords Go.Proofs.YtbgggcgjijljkaaW.PrintLast Go.Proofs.Ytbgggcgjijljkaa.Q
def above (p : List ByteArray) : List ByteArray := p.take (p.length - 1)
theorem above_wrap {p : List ByteArray} (hp : p.length <= 1048576) (h : ¬ (p.length : Int) = 0) : wrap64 ((p.length : Int) - 1) = ((p.length - 1 : Nat) : Int) := by
  rw [wrap_id (by omega) (by omega)]; omega
theorem implCopyPath {p : List ByteArray} (hp : p.length <= 1048576) : impl_copyPath.f p = some p := by
  unfold impl_copyPath.f
  rw [if_pos (by simp; omega)]; rfl
theorem specAbove {p : List ByteArray} (hp : p.length <= 1048576) : spec_Above.f p = some (above p) := by
  unfold spec_Above.f above
  by_cases h : (p.length : Int) = 0
  . rw [if_pos h]
    have : p = [] := List.eq_nil_of_length_eq_zero (by omega)
    rw [this]; rfl
  . simp only [if_neg h, Option.bind_some, above_wrap hp h, if_pos (Int.natCast_nonneg _), Int.toNat_natCast]
    rw [if_pos (by omega), if_pos (by simp; omega)]; rfl
theorem implAbove {p : List ByteArray} (hp : p.length <= 1048576) : impl_Above.f p = some (above p) := by
  unfold impl_Above.f above
  by_cases h : (p.length : Int) = 0
  . rw [if_pos h]
    have : p = [] := List.eq_nil_of_length_eq_zero (by omega)
    rw [this]; rfl
  . simp only [if_neg h, above_wrap hp h, if_pos (Int.natCast_nonneg _), Int.toNat_natCast]
    rw [if_pos (by omega), implCopyPath (by simp; omega)]; rfl
end Go.Proofs.Ytbgggcgjijljkaa.L

/- The laws' own functions over a mirrored struct (Prop): size, copy, equality. No condition. -/
set_option linter.unusedSimpArgs false
set_option linter.unusedVariables false
namespace Go.Proofs.Ytbgggcgjijljkaa.L
open Go.RowKit Go.Proofs.YtbgggcgjijljkaaW.PrintWords Go.Proofs.YtbgggcgjijljkaaW.PrintLast Go.Proofs.Ytbgggcgjijljkaa.Q
instance : DecidableEq S72 := fun a b => if h : a.f0 = b.f0 /\ a.f1 = b.f1 /\ a.f2 = b.f2 then .isTrue (by cases a; cases b; simp_all) else .isFalse (fun e => h (by rw [e]; exact ⟨rfl, rfl, rfl⟩))
theorem rd_lawsProp {l pre suf : List S88} {a : S88} (h : l = pre ++ a :: suf) : rd_T88 l (pre.length : Int) = a := getD_at _ h
theorem rd_implProp {l pre suf : List S72} {a : S72} (h : l = pre ++ a :: suf) : rd_T72 l (pre.length : Int) = a := getD_at _ h
def toProp (p : S88) : S72 := ⟨p.f0, p.f1, p.f2⟩
def SmProp (p : S72) : Prop := p.f0.size <= 1048576 /\ p.f1.size <= 1048576 /\ p.f2.size <= 1048576
def GGProp (x : S88) : Prop := x.f0.size <= maxLen /\ x.f1.size <= maxLen /\ x.f2.size <= maxLen
theorem szProp {p : S88} (hp : GGProp p) {n : Int} (h0 : 0 <= n) (h1 : n <= 1048576) : Sz (fun k => laws_szProp.f p.f0 p.f1 p.f2 n) n (SmProp (toProp p)) := by
  obtain ⟨g0, g1, g2⟩ := hp
  unfold laws_szProp.f
  have e0 := wrap_id (x := n - (p.f0.size : Int)) (by rw [maxLen_eq] at g0; omega) (by omega)
  simp only [e0]
  refine Sz.sub (by omega) (fun c0 => ?_)
  obtain ⟨n0, hn0⟩ : ∃ m, m = n - (p.f0.size : Int) := ⟨_, rfl⟩
  simp only [← hn0]
  have e1 := wrap_id (x := n0 - (p.f1.size : Int)) (by rw [maxLen_eq] at g1; omega) (by omega)
  simp only [e1]
  refine Sz.sub (by omega) (fun c1 => ?_)
  obtain ⟨n1, hn1⟩ : ∃ m, m = n0 - (p.f1.size : Int) := ⟨_, rfl⟩
  simp only [← hn1]
  have e2 := wrap_id (x := n1 - (p.f2.size : Int)) (by rw [maxLen_eq] at g2; omega) (by omega)
  simp only [e2]
  refine Sz.sub (by omega) (fun c2 => ?_)
  obtain ⟨n2, hn2⟩ : ∃ m, m = n1 - (p.f2.size : Int) := ⟨_, rfl⟩
  simp only [← hn2]
  exact .inr ⟨n2, by omega, by omega, Ev.now _, by show p.f0.size <= 1048576; omega, by show p.f1.size <= 1048576; omega, by show p.f2.size <= 1048576; omega⟩
theorem toProp1 {p : S88} (hp : SmProp (toProp p)) : Ev (fun k => laws_toProp.f p.f0 p.f1 p.f2) (p.f0, p.f1, p.f2) := by
  obtain ⟨g0, g1, g2⟩ := hp
  unfold laws_toProp.f
  exact Ev.now _
theorem eqProp1 {p q : S72} (hp : SmProp p) : Ev (fun k => laws_eqProp.f p.f0 p.f1 p.f2 q.f0 q.f1 q.f2) (decide (p = q)) := by
  obtain ⟨g0, g1, g2⟩ := hp
  unfold laws_eqProp.f
  by_cases e0 : p.f0 = q.f0
  rotate_left
  . rw [show decide (p = q) = false from decide_eq_false (fun h => e0 (by rw [h]))]
    simp only [ba_eq, e0, bne_iff_ne, ne_eq, not_false_eq_true, not_true_eq_false, if_true, if_false]
    exact Ev.now _
  simp only [ba_eq, e0, bne_self_eq_false, Bool.false_eq_true, if_true, if_false]
  by_cases e1 : p.f1 = q.f1
  rotate_left
  . rw [show decide (p = q) = false from decide_eq_false (fun h => e1 (by rw [h]))]
    simp only [ba_eq, e1, bne_iff_ne, ne_eq, not_false_eq_true, not_true_eq_false, if_true, if_false]
    exact Ev.now _
  simp only [ba_eq, e1, bne_self_eq_false, Bool.false_eq_true, if_true, if_false]
  by_cases e2 : p.f2 = q.f2
  rotate_left
  . rw [show decide (p = q) = false from decide_eq_false (fun h => e2 (by rw [h]))]
    simp only [ba_eq, e2, bne_iff_ne, ne_eq, not_false_eq_true, not_true_eq_false, if_true, if_false]
    exact Ev.now _
  simp only [ba_eq, e2, bne_self_eq_false, Bool.false_eq_true, if_true, if_false]
  rw [show decide (p = q) = true from decide_eq_true (by cases p; cases q; simp_all)]
  exact Ev.now _
def SmProps (l : List S72) : Prop := l.length <= 1048576 /\ ∀ p ∈ l, SmProp p
theorem szPropS {l : List S88} (hl : l.length <= maxLen) (hs : ∀ s ∈ l, GGProp s) {n : Int} (h0 : 0 <= n) (h1 : n <= 1048576) : Sz (fun k => laws_szPropS.f k l n) n (SmProps (l.map toProp)) := by
  have hl' := hl
  rw [maxLen_eq] at hl'
  unfold laws_szPropS.f
  simp only [wrap_id (x := n - (l.length : Int)) (by omega) (by omega)]
  refine Sz.sub (by omega) (fun hlt => ?_)
  have key : Sz (fun k => laws_szPropS.l0 k l (n - l.length) 0) (n - l.length) (∀ p ∈ l, SmProp (toProp p)) := by
    refine sz_loop (l := l) (P := fun p => SmProp (toProp p)) (fun k n i => laws_szPropS.l0 k l n i) ?_ ?_ l [] (n - l.length) rfl (by omega) (by omega)
    . intro n
      refine Ev.step (fun k => laws_szPropS.l0.eq_2 ..) ?_
      simp only [Int.lt_irrefl, if_false]
      exact Ev.now _
    . intro pre a suf n h h0 h1
      rcases szProp (hs a (by rw [h]; simp)) h0 h1 with h2 | ⟨m, hm0, hm1, h2, h3⟩
      . left
        refine Ev.step (fun k => laws_szPropS.l0.eq_2 ..) ?_
        simp only [if_pos (lt_at h), if_pos (nonneg_at _), rd_lawsProp h]
        refine Ev.bind h2 ?_
        simp only [show (-1 : Int) < 0 by omega, if_true]
        exact Ev.now _
      . refine .inr ⟨m, hm0, hm1, h3, fun r hr => ?_⟩
        refine Ev.step (fun k => laws_szPropS.l0.eq_2 ..) ?_
        simp only [if_pos (lt_at h), if_pos (nonneg_at _), rd_lawsProp h]
        refine Ev.bind h2 ?_
        simp only [if_neg (show ¬ m < 0 by omega), next_at h hl]
        exact hr
  rcases key with h | ⟨m, hm0, hm1, h2, h3⟩
  . exact .inl h
  . refine .inr ⟨m, hm0, hm1, h2, by simp; omega, fun p hp => ?_⟩
    obtain ⟨q, hq, rfl⟩ := List.mem_map.1 hp
    exact h3 q hq
theorem toPropS {p : List S88} (hp : SmProps (p.map toProp)) : Ev (fun k => laws_toPropS.f k p) (p.map toProp) := by
  obtain ⟨hl0, hs⟩ := hp
  rw [List.length_map] at hl0
  have hl2 : p.length <= maxLen := by rw [maxLen_eq]; omega
  unfold laws_toPropS.f
  simp only [if_pos (nonneg_at _), Int.toNat_natCast, if_pos (show p.length <= 5864062014805 by omega)]
  refine to_loop (l := p) (f := toProp) (fun k out i => laws_toPropS.l0 k p out i) ?_ ?_ p [] _ (List.replicate p.length z72) rfl rfl (by simp)
  . intro out
    refine Ev.step (fun k => laws_toPropS.l0.eq_2 ..) ?_
    simp only [Int.lt_irrefl, if_false]
    exact Ev.now _
  . intro pre a suf out h ho r hr
    refine Ev.step (fun k => laws_toPropS.l0.eq_2 ..) ?_
    simp only [if_pos (lt_at h), if_pos (nonneg_at _), rd_lawsProp h]
    refine Ev.bind (toProp1 (hs _ (List.mem_map.2 ⟨a, by rw [h]; simp, rfl⟩))) ?_
    simp only [if_pos ho, next_at h hl2]
    exact hr
theorem eqPropS {a b : List S72} (ha : SmProps a) : Ev (fun k => laws_eqPropS.f k a b) (decide (a = b)) := by
  have hl : a.length <= maxLen := by have := ha.1; rw [maxLen_eq]; omega
  unfold laws_eqPropS.f
  by_cases e : (a.length : Int) = (b.length : Int)
  . simp only [if_pos e]
    refine eq_loop (a := a) (b := b) (fun k i => laws_eqPropS.l0 k a b i) ?_ ?_ a b [] [] rfl rfl rfl (by omega)
    . refine Ev.step (fun k => laws_eqPropS.l0.eq_2 ..) ?_
      simp only [Int.lt_irrefl, if_false]
      exact Ev.now _
    . intro pre x su pre' y sv h h' hp
      have h3 := rd_implProp h'
      have h4 := lt_at h'
      rw [← hp] at h3 h4
      have h5 := eqProp1 (q := y) (ha.2 x (by rw [h]; simp))
      refine ⟨fun hne => ?_, fun heq r hr => ?_⟩
      . refine Ev.step (fun k => laws_eqPropS.l0.eq_2 ..) ?_
        simp only [if_pos (lt_at h), if_pos (nonneg_at _), if_pos h4, rd_implProp h, h3]
        refine Ev.bind h5 ?_
        simp only [hne, decide_false, Bool.false_eq_true, if_false]
        exact Ev.now _
      . refine Ev.step (fun k => laws_eqPropS.l0.eq_2 ..) ?_
        simp only [if_pos (lt_at h), if_pos (nonneg_at _), if_pos h4, rd_implProp h, h3]
        refine Ev.bind h5 ?_
        simp only [heq, decide_true, if_true, next_at h hl]
        rw [heq] at hr
        exact hr
  . simp only [if_neg e]
    rw [show decide (a = b) = false from decide_eq_false (fun h => e (by rw [h]))]
    exact Ev.now _
end Go.Proofs.Ytbgggcgjijljkaa.L

/- The laws' own functions over lists of texts: their size, their copy, their equality. No condition. -/
set_option linter.unusedSimpArgs false
set_option linter.unusedVariables false
namespace Go.Proofs.Ytbgggcgjijljkaa.L
open Go.RowKit Go.Proofs.YtbgggcgjijljkaaW.PrintWords Go.Proofs.YtbgggcgjijljkaaW.PrintLast Go.Proofs.Ytbgggcgjijljkaa.Q
theorem szS_loop {l : List ByteArray} (hl : l.length <= maxLen) (hs : ∀ s ∈ l, s.size <= maxLen) : ∀ (suf pre : List ByteArray) (n : Int), l = pre ++ suf -> 0 <= n -> n <= 1048576 ->
    Ev (fun k => laws_szStringS.l0 k l n pre.length) (-1) \/ ∃ m : Int, 0 <= m /\ m <= n /\ Ev (fun k => laws_szStringS.l0 k l n pre.length) m /\ ∀ s ∈ suf, (s.size : Int) <= n := by
  intro suf
  induction suf with
  | nil =>
    intro pre n h h0 h1
    refine .inr ⟨n, h0, Int.le_refl _, Ev.step (fun k => laws_szStringS.l0.eq_2 ..) ?_, by simp⟩
    simp only [if_neg (end_at h)]
    exact Ev.now _
  | cons a suf ih =>
    intro pre n h h0 h1
    have ha : a.size <= maxLen := hs a (by rw [h]; simp)
    rw [maxLen_eq] at ha
    have hw : wrap64 (n - (a.size : Int)) = n - a.size := wrap_id (by omega) (by omega)
    by_cases hlt : n - (a.size : Int) < 0
    . left
      refine Ev.step (fun k => laws_szStringS.l0.eq_2 ..) ?_
      simp only [if_pos (lt_at h), if_pos (nonneg_at _), rd_at _ h, hw, if_pos hlt]
      exact Ev.now _
    . have st : ∀ r, Ev (fun k => laws_szStringS.l0 k l (n - a.size) (pre ++ [a]).length) r -> Ev (fun k => laws_szStringS.l0 k l n pre.length) r := fun r hr => by
        refine Ev.step (fun k => laws_szStringS.l0.eq_2 ..) ?_
        simp only [if_pos (lt_at h), if_pos (nonneg_at _), rd_at _ h, hw, if_neg hlt, next_at h hl]
        exact hr
      rcases ih (pre ++ [a]) (n - a.size) (snoc_at h) (by omega) (by omega) with h2 | ⟨m, hm0, hm1, h2, h3⟩
      . exact .inl (st _ h2)
      . refine .inr ⟨m, hm0, by omega, st _ h2, fun s hs' => ?_⟩
        rcases List.mem_cons.1 hs' with rfl | hs'
        . omega
        . have := h3 s hs'
          omega
theorem szS {l : List ByteArray} (hl : l.length <= maxLen) (hs : ∀ s ∈ l, s.size <= maxLen) {n : Int} (h0 : 0 <= n) (h1 : n <= 1048576) : Sz (fun k => laws_szStringS.f k l n) n (SmS l) := by
  have hl' := hl
  rw [maxLen_eq] at hl'
  unfold laws_szStringS.f
  simp only [wrap_id (x := n - (l.length : Int)) (by omega) (by omega)]
  refine Sz.sub (by omega) (fun hlt => ?_)
  rcases szS_loop hl hs l [] (n - l.length) rfl (by omega) (by omega) with h | ⟨m, hm0, hm1, h2, h3⟩
  . exact .inl h
  . exact .inr ⟨m, hm0, hm1, h2, by omega, fun s hs' => by have := h3 s hs'; omega⟩
theorem toS_loop {l : List ByteArray} (hl : l.length <= maxLen) : ∀ (suf pre rest : List ByteArray), l = pre ++ suf -> rest.length = suf.length -> Ev (fun k => laws_toStringS.l0 k l (pre ++ rest) pre.length) l := by
  intro suf
  induction suf with
  | nil =>
    intro pre rest h hr
    refine Ev.step (fun k => laws_toStringS.l0.eq_2 ..) ?_
    simp only [if_neg (end_at h)]
    obtain rfl : rest = [] := by simpa using hr
    rw [← h]
    exact Ev.now _
  | cons a suf ih =>
    intro pre rest h hr
    obtain ⟨b, rest, rfl⟩ : ∃ b r, rest = b :: r := by
      cases rest with
      | nil => simp at hr
      | cons b r => exact ⟨b, r, rfl⟩
    refine Ev.step (fun k => laws_toStringS.l0.eq_2 ..) ?_
    have h2 : pre ++ b :: rest = pre ++ b :: rest := rfl
    simp only [if_pos (lt_at h), if_pos (nonneg_at _), rd_at _ h, if_pos (lt_at h2), next_at h hl, set_at h2]
    exact ih (pre ++ [a]) rest (snoc_at h) (by simpa using hr)
theorem toS {l : List ByteArray} (hl : (l.length : Int) <= 1048576) : Ev (fun k => laws_toStringS.f k l) l := by
  unfold laws_toStringS.f
  simp only [if_pos (nonneg_at _), Int.toNat_natCast, if_pos (show l.length <= 17592186044416 by omega)]
  have := toS_loop (l := l) (by rw [maxLen_eq]; omega) l [] (List.replicate l.length (⟨#[]⟩ : ByteArray)) rfl (by simp)
  simpa using this
theorem eqS_loop {a b : List ByteArray} (hl : a.length <= maxLen) : ∀ (su sv pu pv : List ByteArray), a = pu ++ su -> b = pv ++ sv -> pu.length = pv.length -> su.length = sv.length ->
    Ev (fun k => laws_eqStringS.l0 k a b pu.length) (decide (su = sv)) := by
  intro su
  induction su with
  | nil =>
    intro sv pu pv h h' hp hs
    obtain rfl : sv = [] := by simpa using hs.symm
    refine Ev.step (fun k => laws_eqStringS.l0.eq_2 ..) ?_
    simp only [if_neg (end_at h)]
    exact Ev.now _
  | cons x su ih =>
    intro sv pu pv h h' hp hs
    cases sv with
    | nil => simp at hs
    | cons y sv =>
      refine Ev.step (fun k => laws_eqStringS.l0.eq_2 ..) ?_
      have h3 := rd_at ByteArray.empty h'
      have h4 := lt_at h'
      rw [← hp] at h3 h4
      by_cases e : x = y
      . subst e
        simp only [if_pos (lt_at h), if_pos (nonneg_at _), if_pos h4, rd_at _ h, h3, if_true, next_at h hl, List.cons.injEq, true_and]
        exact ih sv (pu ++ [x]) (pv ++ [x]) (snoc_at h) (snoc_at h') (by simp [hp]) (by simpa using hs)
      . simp only [if_pos (lt_at h), if_pos (nonneg_at _), if_pos h4, rd_at _ h, h3, ba_eq, if_neg e, List.cons.injEq, e, false_and, decide_false]
        exact Ev.now _
theorem eqS {a b : List ByteArray} (hl : a.length <= maxLen) : Ev (fun k => laws_eqStringS.f k a b) (decide (a = b)) := by
  unfold laws_eqStringS.f
  by_cases e : (a.length : Int) = (b.length : Int)
  . simp only [if_pos e]
    exact eqS_loop hl a b [] [] rfl rfl rfl (by omega)
  . simp only [if_neg e]
    rw [show decide (a = b) = false from decide_eq_false (fun h => e (by rw [h]))]
    exact Ev.now _
end Go.Proofs.Ytbgggcgjijljkaa.L

/- The laws' own functions over a mirrored struct (Res): size, copy, equality. No condition. -/
set_option linter.unusedSimpArgs false
set_option linter.unusedVariables false
namespace Go.Proofs.Ytbgggcgjijljkaa.L
open Go.RowKit Go.Proofs.YtbgggcgjijljkaaW.PrintWords Go.Proofs.YtbgggcgjijljkaaW.PrintLast Go.Proofs.Ytbgggcgjijljkaa.Q
instance : DecidableEq S57 := fun a b => if h : a.f0 = b.f0 /\ a.f1 = b.f1 /\ a.f2 = b.f2 /\ a.f3 = b.f3 /\ a.f4 = b.f4 then .isTrue (by cases a; cases b; simp_all) else .isFalse (fun e => h (by rw [e]; exact ⟨rfl, rfl, rfl, rfl, rfl⟩))
theorem rd_lawsRes {l pre suf : List S79} {a : S79} (h : l = pre ++ a :: suf) : rd_T79 l (pre.length : Int) = a := getD_at _ h
theorem rd_implRes {l pre suf : List S57} {a : S57} (h : l = pre ++ a :: suf) : rd_T57 l (pre.length : Int) = a := getD_at _ h
def toRes (p : S79) : S57 := ⟨p.f0, p.f1, p.f2, p.f3, p.f4.map toProp⟩
def SmRes (p : S57) : Prop := SmS p.f0 /\ True /\ p.f2.size <= 1048576 /\ IntOk p.f3 /\ SmProps p.f4
def GGRes (x : S79) : Prop := (x.f0.length <= maxLen /\ ∀ s ∈ x.f0, s.size <= maxLen) /\ True /\ x.f2.size <= maxLen /\ (Lit.int .i64 x.f3).wf = true /\ (x.f4.length <= maxLen /\ ∀ y ∈ x.f4, GGProp y)
theorem szRes {p : S79} (hp : GGRes p) {n : Int} (h0 : 0 <= n) (h1 : n <= 1048576) : Sz (fun k => laws_szRes.f k p.f0 p.f1 p.f2 p.f3 p.f4 n) n (SmRes (toRes p)) := by
  obtain ⟨g0, g1, g2, g3, g4⟩ := hp
  unfold laws_szRes.f
  refine Sz.bind (szS g0.1 g0.2 (by omega) (by omega)) (fun n0 a0 b0 s0 => ?_) (by simp only [show (-1 : Int) < 0 by omega, if_true]; exact Ev.now _)
  simp only [if_neg (show ¬ n0 < 0 by omega)]
  have e2 := wrap_id (x := n0 - (p.f2.size : Int)) (by rw [maxLen_eq] at g2; omega) (by omega)
  simp only [e2]
  refine Sz.sub (by omega) (fun c2 => ?_)
  obtain ⟨n2, hn2⟩ : ∃ m, m = n0 - (p.f2.size : Int) := ⟨_, rfl⟩
  simp only [← hn2]
  refine Sz.bind (szPropS g4.1 g4.2 (by omega) (by omega)) (fun n4 a4 b4 s4 => ?_) (by simp only [show (-1 : Int) < 0 by omega, if_true]; exact Ev.now _)
  simp only [if_neg (show ¬ n4 < 0 by omega)]
  exact .inr ⟨n4, by omega, by omega, Ev.now _, s0, trivial, by show p.f2.size <= 1048576; omega, wf_int g3, s4⟩
theorem toRes1 {p : S79} (hp : SmRes (toRes p)) : Ev (fun k => laws_toRes.f k p.f0 p.f1 p.f2 p.f3 p.f4) (p.f0, p.f1, p.f2, p.f3, p.f4.map toProp) := by
  obtain ⟨g0, g1, g2, g3, g4⟩ := hp
  unfold laws_toRes.f
  refine Ev.bind (toS (by have := g0.1; simp only [toRes] at this; omega)) ?_
  refine Ev.bind (toPropS (p := p.f4) (by simpa only [toRes] using g4)) ?_
  exact Ev.now _
theorem eqRes1 {p q : S57} (hp : SmRes p) : Ev (fun k => laws_eqRes.f k p.f0 p.f1 p.f2 p.f3 p.f4 q.f0 q.f1 q.f2 q.f3 q.f4) (decide (p = q)) := by
  obtain ⟨g0, g1, g2, g3, g4⟩ := hp
  unfold laws_eqRes.f
  refine Ev.bind (eqS (by have := g0.1; rw [maxLen_eq]; omega)) ?_
  by_cases e0 : p.f0 = q.f0
  rotate_left
  . rw [show decide (p = q) = false from decide_eq_false (fun h => e0 (by rw [h]))]
    simp only [e0, decide_false, Bool.false_eq_true, if_false]
    exact Ev.now _
  simp only [e0, decide_true, if_true]
  by_cases e1 : p.f1 = q.f1
  rotate_left
  . rw [show decide (p = q) = false from decide_eq_false (fun h => e1 (by rw [h]))]
    simp only [ba_eq, e1, bne_iff_ne, ne_eq, not_false_eq_true, not_true_eq_false, if_true, if_false]
    exact Ev.now _
  simp only [ba_eq, e1, bne_self_eq_false, Bool.false_eq_true, if_true, if_false]
  by_cases e2 : p.f2 = q.f2
  rotate_left
  . rw [show decide (p = q) = false from decide_eq_false (fun h => e2 (by rw [h]))]
    simp only [ba_eq, e2, bne_iff_ne, ne_eq, not_false_eq_true, not_true_eq_false, if_true, if_false]
    exact Ev.now _
  simp only [ba_eq, e2, bne_self_eq_false, Bool.false_eq_true, if_true, if_false]
  by_cases e3 : p.f3 = q.f3
  rotate_left
  . rw [show decide (p = q) = false from decide_eq_false (fun h => e3 (by rw [h]))]
    simp only [ba_eq, e3, bne_iff_ne, ne_eq, not_false_eq_true, not_true_eq_false, if_true, if_false]
    exact Ev.now _
  simp only [ba_eq, e3, bne_self_eq_false, Bool.false_eq_true, if_true, if_false]
  refine Ev.bind (eqPropS g4) ?_
  by_cases e4 : p.f4 = q.f4
  rotate_left
  . rw [show decide (p = q) = false from decide_eq_false (fun h => e4 (by rw [h]))]
    simp only [e4, decide_false, Bool.false_eq_true, if_false]
    exact Ev.now _
  simp only [e4, decide_true, if_true]
  rw [show decide (p = q) = true from decide_eq_true (by cases p; cases q; simp_all)]
  exact Ev.now _
def SmRess (l : List S57) : Prop := l.length <= 1048576 /\ ∀ p ∈ l, SmRes p
theorem szResS {l : List S79} (hl : l.length <= maxLen) (hs : ∀ s ∈ l, GGRes s) {n : Int} (h0 : 0 <= n) (h1 : n <= 1048576) : Sz (fun k => laws_szResS.f k l n) n (SmRess (l.map toRes)) := by
  have hl' := hl
  rw [maxLen_eq] at hl'
  unfold laws_szResS.f
  simp only [wrap_id (x := n - (l.length : Int)) (by omega) (by omega)]
  refine Sz.sub (by omega) (fun hlt => ?_)
  have key : Sz (fun k => laws_szResS.l0 k l (n - l.length) 0) (n - l.length) (∀ p ∈ l, SmRes (toRes p)) := by
    refine sz_loop (l := l) (P := fun p => SmRes (toRes p)) (fun k n i => laws_szResS.l0 k l n i) ?_ ?_ l [] (n - l.length) rfl (by omega) (by omega)
    . intro n
      refine Ev.step (fun k => laws_szResS.l0.eq_2 ..) ?_
      simp only [Int.lt_irrefl, if_false]
      exact Ev.now _
    . intro pre a suf n h h0 h1
      rcases szRes (hs a (by rw [h]; simp)) h0 h1 with h2 | ⟨m, hm0, hm1, h2, h3⟩
      . left
        refine Ev.step (fun k => laws_szResS.l0.eq_2 ..) ?_
        simp only [if_pos (lt_at h), if_pos (nonneg_at _), rd_lawsRes h]
        refine Ev.bind h2 ?_
        simp only [show (-1 : Int) < 0 by omega, if_true]
        exact Ev.now _
      . refine .inr ⟨m, hm0, hm1, h3, fun r hr => ?_⟩
        refine Ev.step (fun k => laws_szResS.l0.eq_2 ..) ?_
        simp only [if_pos (lt_at h), if_pos (nonneg_at _), rd_lawsRes h]
        refine Ev.bind h2 ?_
        simp only [if_neg (show ¬ m < 0 by omega), next_at h hl]
        exact hr
  rcases key with h | ⟨m, hm0, hm1, h2, h3⟩
  . exact .inl h
  . refine .inr ⟨m, hm0, hm1, h2, by simp; omega, fun p hp => ?_⟩
    obtain ⟨q, hq, rfl⟩ := List.mem_map.1 hp
    exact h3 q hq
theorem toResS {p : List S79} (hp : SmRess (p.map toRes)) : Ev (fun k => laws_toResS.f k p) (p.map toRes) := by
  obtain ⟨hl0, hs⟩ := hp
  rw [List.length_map] at hl0
  have hl2 : p.length <= maxLen := by rw [maxLen_eq]; omega
  unfold laws_toResS.f
  simp only [if_pos (nonneg_at _), Int.toNat_natCast, if_pos (show p.length <= 3518437208883 by omega)]
  refine to_loop (l := p) (f := toRes) (fun k out i => laws_toResS.l0 k p out i) ?_ ?_ p [] _ (List.replicate p.length z57) rfl rfl (by simp)
  . intro out
    refine Ev.step (fun k => laws_toResS.l0.eq_2 ..) ?_
    simp only [Int.lt_irrefl, if_false]
    exact Ev.now _
  . intro pre a suf out h ho r hr
    refine Ev.step (fun k => laws_toResS.l0.eq_2 ..) ?_
    simp only [if_pos (lt_at h), if_pos (nonneg_at _), rd_lawsRes h]
    refine Ev.bind (toRes1 (hs _ (List.mem_map.2 ⟨a, by rw [h]; simp, rfl⟩))) ?_
    simp only [if_pos ho, next_at h hl2]
    exact hr
theorem eqResS {a b : List S57} (ha : SmRess a) : Ev (fun k => laws_eqResS.f k a b) (decide (a = b)) := by
  have hl : a.length <= maxLen := by have := ha.1; rw [maxLen_eq]; omega
  unfold laws_eqResS.f
  by_cases e : (a.length : Int) = (b.length : Int)
  . simp only [if_pos e]
    refine eq_loop (a := a) (b := b) (fun k i => laws_eqResS.l0 k a b i) ?_ ?_ a b [] [] rfl rfl rfl (by omega)
    . refine Ev.step (fun k => laws_eqResS.l0.eq_2 ..) ?_
      simp only [Int.lt_irrefl, if_false]
      exact Ev.now _
    . intro pre x su pre' y sv h h' hp
      have h3 := rd_implRes h'
      have h4 := lt_at h'
      rw [← hp] at h3 h4
      have h5 := eqRes1 (q := y) (ha.2 x (by rw [h]; simp))
      refine ⟨fun hne => ?_, fun heq r hr => ?_⟩
      . refine Ev.step (fun k => laws_eqResS.l0.eq_2 ..) ?_
        simp only [if_pos (lt_at h), if_pos (nonneg_at _), if_pos h4, rd_implRes h, h3]
        refine Ev.bind h5 ?_
        simp only [hne, decide_false, Bool.false_eq_true, if_false]
        exact Ev.now _
      . refine Ev.step (fun k => laws_eqResS.l0.eq_2 ..) ?_
        simp only [if_pos (lt_at h), if_pos (nonneg_at _), if_pos h4, rd_implRes h, h3]
        refine Ev.bind h5 ?_
        simp only [heq, decide_true, if_true, next_at h hl]
        rw [heq] at hr
        exact hr
  . simp only [if_neg e]
    rw [show decide (a = b) = false from decide_eq_false (fun h => e (by rw [h]))]
    exact Ev.now _
end Go.Proofs.Ytbgggcgjijljkaa.L

/- Paths: are they the same, is one under the other; as the program and the reference have it. No condition. -/
set_option linter.unusedSimpArgs false
set_option linter.unusedVariables false
namespace Go.Proofs.Ytbgggcgjijljkaa.L
open Go.RowKit Go.Proofs.YtbgggcgjijljkaaW.PrintWords Go.Proofs.YtbgggcgjijljkaaW.PrintLast Go.Proofs.Ytbgggcgjijljkaa.Q
theorem specSame {a b : List ByteArray} (hl : a.length <= maxLen) : Ev (fun k => spec_SamePath.f k a b) (decide (a = b)) := by
  unfold spec_SamePath.f
  by_cases e : (a.length : Int) = (b.length : Int)
  . simp only [if_pos e]
    refine eq_loop (a := a) (b := b) (fun k i => spec_SamePath.l0 k a b i) ?_ ?_ a b [] [] rfl rfl rfl (by omega)
    . refine Ev.step (fun k => spec_SamePath.l0.eq_2 ..) ?_
      simp only [Int.lt_irrefl, if_false]
      exact Ev.now _
    . intro pre x su pre' y sv h h' hp
      have h3 := rd_at ByteArray.empty h'
      have h4 := lt_at h'
      rw [← hp] at h3 h4
      refine ⟨fun hne => ?_, fun heq r hr => ?_⟩
      . refine Ev.step (fun k => spec_SamePath.l0.eq_2 ..) ?_
        simp only [if_pos (lt_at h), if_pos (nonneg_at _), if_pos h4, rd_at _ h, h3, ba_eq, hne, if_false]
        exact Ev.now _
      . refine Ev.step (fun k => spec_SamePath.l0.eq_2 ..) ?_
        simp only [if_pos (lt_at h), if_pos (nonneg_at _), if_pos h4, rd_at _ h, h3, heq, if_true, next_at h hl]
        rw [heq] at hr
        exact hr
  . simp only [if_neg e]
    rw [show decide (a = b) = false from decide_eq_false (fun h => e (by rw [h]))]
    exact Ev.now _
theorem implSame {a b : List ByteArray} (hl : a.length <= maxLen) : Ev (fun k => impl_SamePath.f k a b) (decide (a = b)) := by
  unfold impl_SamePath.f
  by_cases e : (a.length : Int) = (b.length : Int)
  . simp only [if_pos e]
    refine eq_loop (a := a) (b := b) (fun k i => impl_SamePath.l0 k a b (a.length : Int) i) ?_ ?_ a b [] [] rfl rfl rfl (by omega)
    . refine Ev.step (fun k => impl_SamePath.l0.eq_2 ..) ?_
      simp only [Int.lt_irrefl, if_false]
      exact Ev.now _
    . intro pre x su pre' y sv h h' hp
      have h3 := rd_at ByteArray.empty h'
      have h4 := lt_at h'
      rw [← hp] at h3 h4
      refine ⟨fun hne => ?_, fun heq r hr => ?_⟩
      . refine Ev.step (fun k => impl_SamePath.l0.eq_2 ..) ?_
        simp only [if_pos (lt_at h), if_pos (nonneg_at _), if_pos h4, rd_at _ h, h3, ba_eq, hne, if_false]
        exact Ev.now _
      . refine Ev.step (fun k => impl_SamePath.l0.eq_2 ..) ?_
        simp only [if_pos (lt_at h), if_pos (nonneg_at _), if_pos h4, rd_at _ h, h3, heq, if_true, next_at h hl]
        rw [heq] at hr
        exact hr
  . simp only [if_neg e]
    rw [show decide (a = b) = false from decide_eq_false (fun h => e (by rw [h]))]
    exact Ev.now _
end Go.Proofs.Ytbgggcgjijljkaa.L

/- Shelves: the place of a thing, is it a shelf; as the program and the reference have it. No condition. -/
set_option linter.unusedSimpArgs false
set_option linter.unusedVariables false
namespace Go.Proofs.Ytbgggcgjijljkaa.L
open Go.RowKit Go.Proofs.YtbgggcgjijljkaaW.PrintWords Go.Proofs.YtbgggcgjijljkaaW.PrintLast Go.Proofs.Ytbgggcgjijljkaa.Q
def findFrom (p : List ByteArray) : List S57 -> Nat -> Int
  | [], _ => -1
  | r :: t, i => if r.f0 = p then (i : Int) else findFrom p t (i + 1)
def findR (t : List S57) (p : List ByteArray) : Int := findFrom p t 0
theorem findFrom_cases (p : List ByteArray) : ∀ (t : List S57) (i : Nat), findFrom p t i = -1 /\ (∀ r ∈ t, r.f0 ≠ p) \/ ∃ j, ∃ r, findFrom p t i = ((i + j : Nat) : Int) /\ t[j]? = some r /\ r.f0 = p /\ ∀ j', j' < j -> ∀ r', t[j']? = some r' -> r'.f0 ≠ p := by
  intro t
  induction t with
  | nil => exact fun i => .inl ⟨rfl, by simp⟩
  | cons r t ih =>
    intro i
    by_cases e : r.f0 = p
    . refine .inr ⟨0, r, by simp [findFrom, e], rfl, e, fun j' h => absurd h (Nat.not_lt_zero _)⟩
    . rcases ih (i + 1) with ⟨h, h2⟩ | ⟨j, r', h, h2, h3, h4⟩
      . exact .inl ⟨by simp [findFrom, e, h], fun x hx => by
          rcases List.mem_cons.1 hx with rfl | hx
          . exact e
          . exact h2 x hx⟩
      . refine .inr ⟨j + 1, r', by simp [findFrom, e, h]; omega, h2, h3, fun j' hj' x hx => ?_⟩
        cases j' with
        | zero =>
          simp at hx
          rw [← hx]
          exact e
        | succ j' => exact h4 j' (by omega) x hx
theorem specFind {t : List S57} {p : List ByteArray} (ht : SmRess t) : Ev (fun k => spec_FindRes.f k t p) (findR t p) := by
  have hl : t.length <= maxLen := by have := ht.1; rw [maxLen_eq]; omega
  have key : ∀ (suf pre : List S57), t = pre ++ suf -> Ev (fun k => spec_FindRes.l0 k t p pre.length) (findFrom p suf pre.length) := by
    intro suf
    induction suf with
    | nil =>
      intro pre h
      refine Ev.step (fun k => spec_FindRes.l0.eq_2 ..) ?_
      simp only [if_neg (end_at h)]
      exact Ev.now _
    | cons a suf ih =>
      intro pre h
      have hs := (ht.2 a (by rw [h]; simp)).1.1
      refine Ev.step (fun k => spec_FindRes.l0.eq_2 ..) ?_
      simp only [if_pos (lt_at h), if_pos (nonneg_at _), rd_implRes h]
      refine Ev.bind (specSame (by rw [maxLen_eq]; omega)) ?_
      simp only [findFrom, next_at h hl]
      by_cases e : a.f0 = p
      . simp only [e, decide_true, if_true]
        exact Ev.now _
      . simp only [e, decide_false, Bool.false_eq_true, if_false]
        have := ih (pre ++ [a]) (snoc_at h)
        rw [List.length_append, List.length_singleton] at this ⊢
        exact this
  exact key t [] rfl
theorem implFind {t : List S57} {p : List ByteArray} (ht : SmRess t) : Ev (fun k => impl_FindRes.f k t p) (findR t p) := by
  have hl : t.length <= maxLen := by have := ht.1; rw [maxLen_eq]; omega
  have key : ∀ (suf pre : List S57), t = pre ++ suf -> Ev (fun k => impl_FindRes.l0 k p t (t.length : Int) pre.length) (findFrom p suf pre.length) := by
    intro suf
    induction suf with
    | nil =>
      intro pre h
      refine Ev.step (fun k => impl_FindRes.l0.eq_2 ..) ?_
      simp only [if_neg (end_at h)]
      exact Ev.now _
    | cons a suf ih =>
      intro pre h
      have hs := (ht.2 a (by rw [h]; simp)).1.1
      refine Ev.step (fun k => impl_FindRes.l0.eq_2 ..) ?_
      simp only [if_pos (lt_at h), if_pos (nonneg_at _), rd_implRes h]
      refine Ev.bind (implSame (by rw [maxLen_eq]; omega)) ?_
      simp only [findFrom, next_at h hl]
      by_cases e : a.f0 = p
      . simp only [e, decide_true, if_true]
        exact Ev.now _
      . simp only [e, decide_false, Bool.false_eq_true, if_false]
        have := ih (pre ++ [a]) (snoc_at h)
        rw [List.length_append, List.length_singleton] at this ⊢
        exact this
  exact key t [] rfl
def isColl (t : List S57) (p : List ByteArray) : Bool := decide (p = []) || (decide (0 <= findR t p) && (rd_T57 t (findR t p)).f1)
theorem findR_lt (t : List S57) (p : List ByteArray) (h : 0 <= findR t p) : findR t p < (t.length : Int) := by
  rcases findFrom_cases p t 0 with ⟨h1, _⟩ | ⟨j, r, h1, h2, _⟩
  . unfold findR at h; omega
  . unfold findR
    have := (List.getElem?_eq_some_iff.1 h2).1
    omega
theorem nil_len {α : Type} (p : List α) : ((p.length : Int) = 0) = (p = []) := propext ⟨fun h => List.eq_nil_of_length_eq_zero (by omega), fun h => by rw [h]; rfl⟩
theorem specIsColl {t : List S57} {p : List ByteArray} (ht : SmRess t) : Ev (fun k => spec_IsColl.f k t p) (isColl t p) := by
  unfold spec_IsColl.f
  refine Ev.bind (specFind ht) ?_
  simp only [nil_len, isColl]
  by_cases e : p = []
  . simp only [e, if_true, decide_true, Bool.true_or]
    exact Ev.now _
  . simp only [e, if_false, decide_false, Bool.false_or]
    by_cases h : 0 <= findR t p
    . simp only [ge_iff_le, h, if_true, if_pos (findR_lt t p h), decide_true, Bool.true_and]
      exact Ev.now _
    . simp only [ge_iff_le, h, if_false, decide_false, Bool.false_and]
      exact Ev.now _
theorem implIsColl {t : List S57} {p : List ByteArray} (ht : SmRess t) : Ev (fun k => impl_IsColl.f k t p) (isColl t p) := by
  unfold impl_IsColl.f
  simp only [nil_len, isColl]
  by_cases e : p = []
  . simp only [e, if_true, decide_true, Bool.true_or]
    exact Ev.now _
  . simp only [e, if_false, decide_false, Bool.false_or]
    refine Ev.bind (implFind ht) ?_
    by_cases h : 0 <= findR t p
    . simp only [ge_iff_le, h, if_true, if_pos (findR_lt t p h), decide_true, Bool.true_and]
      exact Ev.now _
    . simp only [ge_iff_le, h, if_false, decide_false, Bool.false_and]
      exact Ev.now _
end Go.Proofs.Ytbgggcgjijljkaa.L

/- Properties: are they right, and which one is of a space and a name; as the program and the reference have it. No condition. -/
set_option linter.unusedSimpArgs false
set_option linter.unusedVariables false
namespace Go.Proofs.Ytbgggcgjijljkaa.L
open Go.RowKit Go.Proofs.YtbgggcgjijljkaaW.PrintWords Go.Proofs.YtbgggcgjijljkaaW.PrintLast Go.Proofs.Ytbgggcgjijljkaa.Q
def propOk (p : S72) : Bool := decide ((p.f0.size : Int) <= 20) && plainL (bl p.f0) && smallName p.f1 && decide ((p.f2.size : Int) <= 20) && plainL (bl p.f2)
def lessProp (p q : S72) : Bool := if p.f0 = q.f0 then Op.bytesLess p.f1.toList q.f1.toList else Op.bytesLess p.f0.toList q.f0.toList
theorem bytesLess_irrefl : ∀ l : List UInt8, Op.bytesLess l l = false
  | [] => rfl
  | a :: l => by simp [Op.bytesLess, bytesLess_irrefl l]
theorem specPropOk {p : S72} (hp : SmProp p) : Ev (fun k => spec_l10Prop.f k p.f0 p.f1 p.f2) (propOk p) := by
  obtain ⟨g0, g1, g2⟩ := hp
  have h : ∀ s : ByteArray, s.size <= 1048576 -> s.size <= maxLen := fun s h => by rw [maxLen_eq]; omega
  unfold spec_l10Prop.f propOk
  by_cases c0 : (p.f0.size : Int) <= 20
  . simp only [if_pos c0, c0, decide_true, Bool.true_and]
    refine Ev.bind (specPlain (h _ g0)) ?_
    by_cases c1 : plainL (bl p.f0) = true
    . simp only [c1, if_true, Bool.true_and]
      refine Ev.bind (specSmall (h _ g1)) ?_
      by_cases c2 : smallName p.f1 = true
      . simp only [c2, if_true, Bool.true_and]
        by_cases c3 : (p.f2.size : Int) <= 20
        . simp only [if_pos c3, c3, decide_true, Bool.true_and]
          exact Ev.bind (specPlain (h _ g2)) (Ev.now _)
        . simp only [if_neg c3, c3, decide_false, Bool.false_and]
          exact Ev.now _
      . simp only [c2, Bool.false_eq_true, if_false, Bool.false_and]
        exact Ev.now _
    . simp only [c1, Bool.false_eq_true, if_false, Bool.false_and]
      exact Ev.now _
  . simp only [if_neg c0, c0, decide_false, Bool.false_and]
    exact Ev.now _
theorem implPropOk {p : S72} (hp : SmProp p) : Ev (fun k => impl_propOk.f k p.f0 p.f1 p.f2) (propOk p) := by
  obtain ⟨g0, g1, g2⟩ := hp
  have h : ∀ s : ByteArray, s.size <= 1048576 -> s.size <= maxLen := fun s h => by rw [maxLen_eq]; omega
  unfold impl_propOk.f propOk
  by_cases c0 : (p.f0.size : Int) <= 20
  . simp only [if_pos c0, c0, decide_true, Bool.true_and]
    refine Ev.bind (implPlain (h _ g0)) ?_
    by_cases c1 : plainL (bl p.f0) = true
    . simp only [c1, if_true, Bool.true_and]
      refine Ev.bind (implSmall (h _ g1)) ?_
      by_cases c2 : smallName p.f1 = true
      . simp only [c2, if_true, Bool.true_and]
        by_cases c3 : (p.f2.size : Int) <= 20
        . simp only [if_pos c3, c3, decide_true, Bool.true_and]
          exact Ev.bind (implPlain (h _ g2)) (Ev.now _)
        . simp only [if_neg c3, c3, decide_false, Bool.false_and]
          exact Ev.now _
      . simp only [c2, Bool.false_eq_true, if_false, Bool.false_and]
        exact Ev.now _
    . simp only [c1, Bool.false_eq_true, if_false, Bool.false_and]
      exact Ev.now _
  . simp only [if_neg c0, c0, decide_false, Bool.false_and]
    exact Ev.now _
theorem specLessProp (p q : S72) : spec_l10LessProp.f p.f0 p.f1 p.f2 q.f0 q.f1 q.f2 = some (lessProp p q) := by
  unfold spec_l10LessProp.f lessProp
  simp only [ba_eq]
  by_cases e : p.f0 = q.f0 <;> simp [e]
theorem implLessProp (p q : S72) : impl_lessProp.f p.f0 p.f1 p.f2 q.f0 q.f1 q.f2 = some (lessProp p q) := by
  unfold impl_lessProp.f lessProp
  simp only [ba_eq]
  by_cases e : p.f0 = q.f0
  . simp [e, bytesLess_irrefl]
  . simp only [if_neg e]
    cases Op.bytesLess p.f0.toList q.f0.toList <;> simp
def propsL : Option S72 -> List S72 -> Bool
  | _, [] => true
  | last, p :: l => propOk p && (match last with | none => true | some q => lessProp q p) && propsL (some p) l
def propsOk (l : List S72) : Bool := propsL none l && decide ((l.length : Int) <= 4)
theorem pred_at {α : Type} {l pre suf : List α} {a b : α} (h : l = pre ++ [b] ++ a :: suf) (hl : l.length <= maxLen) : wrap64 (((pre ++ [b]).length : Int) - 1) = (pre.length : Int) := by
  have : l.length = pre.length + 1 + (suf.length + 1) := by rw [h]; simp; omega
  rw [maxLen_eq] at hl
  have e : ((pre ++ [b]).length : Int) = pre.length + 1 := by simp
  rw [e, wrap_id (by omega) (by omega)]
  omega
theorem specPropsOkB {l : List S72} (hl : l.length <= maxLen) (hs : ∀ p ∈ l, SmProp p) : Ev (fun k => spec_PropsOk.f k l) (propsOk l) := by
  have key : ∀ (suf pre : List S72), l = pre ++ suf -> Ev (fun k => spec_PropsOk.l0 k l pre.length) (propsL pre.getLast? suf && decide ((l.length : Int) <= 4)) := by
    intro suf
    induction suf with
    | nil =>
      intro pre h
      refine Ev.step (fun k => spec_PropsOk.l0.eq_2 ..) ?_
      simp only [if_neg (end_at h), propsL, Bool.true_and]
      exact Ev.now _
    | cons a suf ih =>
      intro pre h
      have hn := ih (pre ++ [a]) (snoc_at h)
      rw [List.getLast?_append] at hn
      simp only [List.getLast?_singleton, Option.some_or] at hn
      refine Ev.step (fun k => spec_PropsOk.l0.eq_2 ..) ?_
      simp only [if_pos (lt_at h), if_pos (nonneg_at _), rd_implProp h]
      refine Ev.bind (specPropOk (hs a (by rw [h]; simp))) ?_
      simp only [propsL]
      by_cases c0 : propOk a = true
      . simp only [c0, if_true, Bool.true_and]
        rcases List.eq_nil_or_concat pre with rfl | ⟨pre', b, rfl⟩
        . simp only [List.length_nil, Int.natCast_zero, show ¬ (0 : Int) > 0 by omega, if_false, List.getLast?_nil, Bool.true_and]
          have := next_at h hl
          simp only [List.length_nil, Int.natCast_zero] at this
          rw [this]
          exact hn
        . rw [List.concat_eq_append] at h hn ⊢
          have hp := pred_at h hl
          have h2 : l = pre' ++ b :: (a :: suf) := by rw [h]; simp
          simp only [show (((pre' ++ [b]).length : Nat) : Int) > 0 by first | (simp; done) | (simp; omega), if_true, hp, if_pos (nonneg_at _), if_pos (lt_at h2), rd_implProp h2, specLessProp, Option.bind_some, List.getLast?_append, List.getLast?_singleton, Option.some_or, next_at h hl]
          by_cases c1 : lessProp b a = true
          . simp only [c1, if_true, Bool.true_and]
            exact hn
          . simp only [c1, Bool.false_eq_true, if_false, Bool.false_and]
            exact Ev.now _
      . simp only [c0, Bool.false_eq_true, if_false, Bool.false_and]
        exact Ev.now _
  exact key l [] rfl
theorem implPropsOkB {l : List S72} (hl : l.length <= maxLen) (hs : ∀ p ∈ l, SmProp p) : Ev (fun k => impl_PropsOk.f k l) (propsOk l) := by
  have key : ∀ (suf pre : List S72), l = pre ++ suf -> Ev (fun k => impl_PropsOk.l0 k l l (l.length : Int) pre.length) (propsL pre.getLast? suf && decide ((l.length : Int) <= 4)) := by
    intro suf
    induction suf with
    | nil =>
      intro pre h
      refine Ev.step (fun k => impl_PropsOk.l0.eq_2 ..) ?_
      simp only [if_neg (end_at h), propsL, Bool.true_and]
      exact Ev.now _
    | cons a suf ih =>
      intro pre h
      have hn := ih (pre ++ [a]) (snoc_at h)
      rw [List.getLast?_append] at hn
      simp only [List.getLast?_singleton, Option.some_or] at hn
      refine Ev.step (fun k => impl_PropsOk.l0.eq_2 ..) ?_
      simp only [if_pos (lt_at h), if_pos (nonneg_at _), rd_implProp h]
      refine Ev.bind (implPropOk (hs a (by rw [h]; simp))) ?_
      simp only [propsL]
      by_cases c0 : propOk a = true
      . simp only [c0, if_true, Bool.true_and]
        rcases List.eq_nil_or_concat pre with rfl | ⟨pre', b, rfl⟩
        . simp only [List.length_nil, Int.natCast_zero, show ¬ (0 : Int) > 0 by omega, if_false, List.getLast?_nil, Bool.true_and]
          have := next_at h hl
          simp only [List.length_nil, Int.natCast_zero] at this
          rw [this]
          exact hn
        . rw [List.concat_eq_append] at h hn ⊢
          have hp := pred_at h hl
          have h2 : l = pre' ++ b :: (a :: suf) := by rw [h]; simp
          simp only [show (((pre' ++ [b]).length : Nat) : Int) > 0 by first | (simp; done) | (simp; omega), if_true, hp, if_pos (nonneg_at _), if_pos (lt_at h2), rd_implProp h2, implLessProp, Option.bind_some, List.getLast?_append, List.getLast?_singleton, Option.some_or, next_at h hl]
          by_cases c1 : lessProp b a = true
          . simp only [c1, if_true, Bool.true_and]
            exact hn
          . simp only [c1, Bool.false_eq_true, if_false, Bool.false_and]
            exact Ev.now _
      . simp only [c0, Bool.false_eq_true, if_false, Bool.false_and]
        exact Ev.now _
  exact key l [] rfl
theorem specPropsOk {l : List S72} (hs : SmProps l) : Ev (fun k => spec_PropsOk.f k l) (propsOk l) := specPropsOkB (by have := hs.1; rw [maxLen_eq]; omega) hs.2
theorem implPropsOk {l : List S72} (hs : SmProps l) : Ev (fun k => impl_PropsOk.f k l) (propsOk l) := implPropsOkB (by have := hs.1; rw [maxLen_eq]; omega) hs.2
end Go.Proofs.Ytbgggcgjijljkaa.L

/- Paths, one ahead of the other: what the program and the reference say. No condition. -/
set_option linter.unusedSimpArgs false
set_option linter.unusedVariables false
namespace Go.Proofs.Ytbgggcgjijljkaa.L
open Go.RowKit Go.Proofs.YtbgggcgjijljkaaW.PrintWords Go.Proofs.YtbgggcgjijljkaaW.PrintLast Go.Proofs.Ytbgggcgjijljkaa.Q
def lessP : List ByteArray -> List ByteArray -> Bool
  | [], [] => false
  | [], _ :: _ => true
  | _ :: _, [] => false
  | x :: a, y :: b => if x = y then lessP a b else Op.bytesLess x.toList y.toList
theorem len_lt {α : Type} {l m pu pv su sv : List α} (h : l = pu ++ su) (h' : m = pv ++ sv) (hp : pu.length = pv.length) : ((l.length : Int) < (m.length : Int)) = (su.length < sv.length) := by
  subst h; subst h'; simp [hp]
theorem implLess_loop {a b : List ByteArray} (hl : a.length <= maxLen) : ∀ (su sv pu pv : List ByteArray), a = pu ++ su -> b = pv ++ sv -> pu.length = pv.length -> Ev (fun k => impl_LessPath.l0 k a b pu.length) (lessP su sv) := by
  intro su
  induction su with
  | nil =>
    intro sv pu pv h h' hp
    refine Ev.step (fun k => impl_LessPath.l0.eq_2 ..) ?_
    simp only [if_neg (end_at h)]
    refine Ev.step (fun k => impl_LessPath.j1.eq_2 ..) ?_
    simp only [Bool.false_eq_true, if_false, len_lt h h' hp]
    cases sv <;> simp only [lessP] <;> exact Ev.now _
  | cons x su ih =>
    intro sv pu pv h h' hp
    refine Ev.step (fun k => impl_LessPath.l0.eq_2 ..) ?_
    simp only [if_pos (lt_at h)]
    refine Ev.step (fun k => impl_LessPath.j1.eq_2 ..) ?_
    cases sv with
    | nil =>
      have h4 := end_at h'
      rw [← hp] at h4
      simp only [h4, decide_false, Bool.false_eq_true, if_false, len_lt h h' hp, lessP]
      exact Ev.now _
    | cons y sv =>
      have h3 := rd_at ByteArray.empty h'
      have h4 := lt_at h'
      rw [← hp] at h3 h4
      by_cases e : x = y
      . subst e
        simp only [h4, decide_true, if_true, if_pos (lt_at h), if_pos (nonneg_at _), rd_at _ h, h3, next_at h hl, lessP]
        exact ih sv (pu ++ [x]) (pv ++ [x]) (snoc_at h) (snoc_at h') (by simp [hp])
      . simp only [h4, decide_true, if_true, if_pos (lt_at h), if_pos (nonneg_at _), rd_at _ h, h3, ba_eq, if_neg e, lessP]
        exact Ev.now _
theorem implLess {a b : List ByteArray} (hl : a.length <= maxLen) : Ev (fun k => impl_LessPath.f k a b) (lessP a b) := implLess_loop hl a b [] [] rfl rfl rfl
theorem specLess_loop {a b : List ByteArray} (hl : a.length <= maxLen) : ∀ (su sv pu pv : List ByteArray), a = pu ++ su -> b = pv ++ sv -> pu.length = pv.length -> Ev (fun k => spec_LessPath.l0 k a b pu.length) (lessP su sv) := by
  intro su
  induction su with
  | nil =>
    intro sv pu pv h h' hp
    refine Ev.step (fun k => spec_LessPath.l0.eq_2 ..) ?_
    simp only [if_neg (end_at h)]
    refine Ev.step (fun k => spec_LessPath.j1.eq_2 ..) ?_
    simp only [Bool.false_eq_true, if_false, len_lt h h' hp]
    cases sv <;> simp only [lessP] <;> exact Ev.now _
  | cons x su ih =>
    intro sv pu pv h h' hp
    refine Ev.step (fun k => spec_LessPath.l0.eq_2 ..) ?_
    simp only [if_pos (lt_at h)]
    refine Ev.step (fun k => spec_LessPath.j1.eq_2 ..) ?_
    cases sv with
    | nil =>
      have h4 := end_at h'
      rw [← hp] at h4
      simp only [h4, decide_false, Bool.false_eq_true, if_false, len_lt h h' hp, lessP]
      exact Ev.now _
    | cons y sv =>
      have h3 := rd_at ByteArray.empty h'
      have h4 := lt_at h'
      rw [← hp] at h3 h4
      by_cases e : x = y
      . subst e
        simp only [h4, decide_true, if_true, if_pos (lt_at h), if_pos (nonneg_at _), rd_at _ h, h3, next_at h hl, lessP]
        exact ih sv (pu ++ [x]) (pv ++ [x]) (snoc_at h) (snoc_at h') (by simp [hp])
      . simp only [h4, decide_true, if_true, if_pos (lt_at h), if_pos (nonneg_at _), rd_at _ h, h3, ba_eq, if_neg e, lessP]
        exact Ev.now _
theorem specLess {a b : List ByteArray} (hl : a.length <= maxLen) : Ev (fun k => spec_LessPath.f k a b) (lessP a b) := specLess_loop hl a b [] [] rfl rfl rfl
end Go.Proofs.Ytbgggcgjijljkaa.L

/- Shelves: are they right; as the program and the reference have it. No condition. -/
set_option linter.unusedSimpArgs false
set_option linter.unusedVariables false
namespace Go.Proofs.Ytbgggcgjijljkaa.L
open Go.RowKit Go.Proofs.YtbgggcgjijljkaaW.PrintWords Go.Proofs.YtbgggcgjijljkaaW.PrintLast Go.Proofs.Ytbgggcgjijljkaa.Q
theorem size0 (s : ByteArray) : (s.toList = ([] : List UInt8)) = (bl s = []) := by rw [ba_toList]
def resOk (r : S57) : Bool := decide (r.f0 ≠ []) && (pathOk r.f0 && (decide (r.f1 = true -> bl r.f2 = []) && (decide ((r.f2.size : Int) <= 200) && (decide (0 <= r.f3 /\ r.f3 <= 99999) && propsOk r.f4))))
theorem implResOk {r : S57} (hr : SmRes r) : Ev (fun k => impl_resOk.f k r.f0 r.f1 r.f2 r.f3 r.f4) (resOk r) := by
  obtain ⟨g0, _, g2, g3, g4⟩ := hr
  unfold impl_resOk.f resOk
  by_cases c0 : r.f0 = []
  . simp only [c0, List.length_nil, Int.natCast_zero, gt_iff_lt, Int.lt_irrefl, if_false, ne_eq, not_true_eq_false, decide_false, Bool.false_and]
    exact Ev.now _
  have h0 : (r.f0.length : Int) > 0 := by have := List.length_pos_iff.2 c0; omega
  simp only [if_pos h0, ne_eq, c0, not_false_eq_true, decide_true, Bool.true_and]
  refine Ev.bind (implPathOk g0) ?_
  by_cases c1 : pathOk r.f0 = true
  rotate_left
  . simp only [c1, Bool.false_eq_true, if_false, Bool.false_and]; exact Ev.now _
  simp only [c1, if_true, Bool.true_and, size0, implIn, Option.bind_some, decide_eq_true_eq]
  have tail : Ev (fun n => if (r.f2.size : Int) <= 200 then (if 0 <= r.f3 /\ r.f3 <= 99999 then ((impl_PropsOk.f n r.f4).bind fun t609 => some t609) else some false) else some false) (decide ((r.f2.size : Int) <= 200) && (decide (0 <= r.f3 /\ r.f3 <= 99999) && propsOk r.f4)) := by
    by_cases c2 : (r.f2.size : Int) <= 200
    . simp only [c2, if_true, decide_true, Bool.true_and]
      by_cases c3 : 0 <= r.f3 /\ r.f3 <= 99999
      . simp only [c3, and_self, if_true, decide_true, Bool.true_and]
        exact Ev.bind (implPropsOk g4) (Ev.now _)
      . simp only [c3, if_false, decide_false, Bool.false_and]
        exact Ev.now _
    . simp only [c2, if_false, decide_false, Bool.false_and]
      exact Ev.now _
  by_cases c4 : r.f1 = true
  . simp only [c4, if_true, true_imp_iff]
    by_cases c5 : bl r.f2 = []
    . simp only [c5, if_true, decide_true, Bool.true_and]
      exact tail
    . simp only [c5, if_false, decide_false, Bool.false_and]
      exact Ev.now _
  . simp only [c4, Bool.false_eq_true, if_false, false_imp_iff, decide_true, Bool.true_and]
    exact tail
def treeL (t : List S57) : Option S57 -> List S57 -> Bool
  | _, [] => true
  | last, r :: l => resOk r && ((match last with | none => true | some q => lessP q.f0 r.f0) && (isColl t (above r.f0) && treeL t (some r) l))
def treeOk (t : List S57) : Bool := treeL t none t && decide ((t.length : Int) <= 12)
theorem specTreeOk {t : List S57} (ht : SmRess t) : Ev (fun k => spec_TreeOk.f k t) (treeOk t) := by
  have hl : t.length <= maxLen := by have := ht.1; rw [maxLen_eq]; omega
  have key : ∀ (suf pre : List S57), t = pre ++ suf -> Ev (fun k => spec_TreeOk.l0 k t pre.length) (treeL t pre.getLast? suf && decide ((t.length : Int) <= 12)) := by
    intro suf
    induction suf with
    | nil =>
      intro pre h
      refine Ev.step (fun k => spec_TreeOk.l0.eq_2 ..) ?_
      simp only [if_neg (end_at h), treeL, Bool.true_and]
      exact Ev.now _
    | cons a suf ih =>
      intro pre h
      have hn := ih (pre ++ [a]) (snoc_at h)
      rw [List.getLast?_append] at hn
      simp only [List.getLast?_singleton, Option.some_or] at hn
      have ha := ht.2 a (by rw [h]; simp)
      obtain ⟨g0, _, g2, g3, g4⟩ := ha
      have hla : a.f0.length <= maxLen := by have := g0.1; rw [maxLen_eq]; omega
      have join : ∀ b : Bool, b = (!resOk a) -> Ev (fun k => spec_TreeOk.j1 k t pre.length b a.f0 a.f1 a.f2 a.f3 a.f4) (treeL t pre.getLast? (a :: suf) && decide ((t.length : Int) <= 12)) := by
        intro b hb
        refine Ev.step (fun k => spec_TreeOk.j1.eq_2 ..) ?_
        simp only [treeL, hb]
        by_cases c0 : resOk a = true
        rotate_left
        . simp only [c0, Bool.not_false, if_true, Bool.false_and]; exact Ev.now _
        simp only [c0, Bool.not_true, Bool.false_eq_true, if_false, Bool.true_and]
        have fin : Ev (fun n => (spec_Above.f a.f0).bind fun t593 => (spec_IsColl.f n t t593).bind fun t596 => if t596 = true then spec_TreeOk.l0 n t (wrap64 ((pre.length : Int) + 1)) else some false) (isColl t (above a.f0) && treeL t (some a) suf && decide ((t.length : Int) <= 12)) := by
          simp only [specAbove g0.1, Option.bind_some]
          refine Ev.bind (specIsColl ht) ?_
          by_cases c2 : isColl t (above a.f0) = true
          . simp only [c2, if_true, Bool.true_and, next_at h hl]; exact hn
          . simp only [c2, Bool.false_eq_true, if_false, Bool.false_and]; exact Ev.now _
        rcases List.eq_nil_or_concat pre with rfl | ⟨pre', b', rfl⟩
        . simp only [List.length_nil, Int.natCast_zero, show ¬ (0 : Int) > 0 by omega, if_false, List.getLast?_nil, Bool.true_and]
          exact fin
        . rw [List.concat_eq_append] at h hn fin ⊢
          have hp := pred_at h hl
          have h2 : t = pre' ++ b' :: (a :: suf) := by rw [h]; simp
          have hb' := (ht.2 b' (by rw [h]; simp)).1.1
          simp only [show (((pre' ++ [b']).length : Nat) : Int) > 0 by first | (simp; done) | (simp; omega), if_true, hp, if_pos (nonneg_at _), if_pos (lt_at h2), rd_implRes h2, List.getLast?_append, List.getLast?_singleton, Option.some_or]
          refine Ev.bind (specLess (by rw [maxLen_eq]; omega)) ?_
          by_cases c1 : lessP b'.f0 a.f0 = true
          . simp only [c1, if_true, Bool.true_and]
            exact fin
          . simp only [c1, Bool.false_eq_true, if_false, Bool.false_and]
            exact Ev.now _
      refine Ev.step (fun k => spec_TreeOk.l0.eq_2 ..) ?_
      simp only [if_pos (lt_at h), if_pos (nonneg_at _), rd_implRes h, nil_len, size0, specIn, Option.bind_some, decide_eq_true_eq]
      unfold resOk at join
      by_cases c0 : a.f0 = []
      . simp only [if_pos c0]
        exact join true (by simp [c0])
      simp only [if_neg c0]
      refine Ev.bind (specPathOk g0) ?_
      by_cases c1 : pathOk a.f0 = true
      rotate_left
      . simp only [c1, Bool.false_eq_true, if_false]
        exact join true (by simp [c1])
      simp only [c1, if_true]
      by_cases c2 : (a.f2.size : Int) > 200
      . simp only [if_pos c2]
        exact join true (by simp [show ¬ (a.f2.size : Int) <= 200 by omega])
      simp only [if_neg c2]
      have c2' : (a.f2.size : Int) <= 200 := by omega
      have tail : (a.f1 = true -> bl a.f2 = []) -> Ev (fun n => if 0 <= a.f3 /\ a.f3 <= 99999 then ((spec_PropsOk.f n a.f4).bind fun t588 => spec_TreeOk.j1 n t (pre.length : Int) (!t588) a.f0 a.f1 a.f2 a.f3 a.f4) else spec_TreeOk.j1 n t (pre.length : Int) true a.f0 a.f1 a.f2 a.f3 a.f4) (treeL t pre.getLast? (a :: suf) && decide ((t.length : Int) <= 12)) := by
        intro c5
        by_cases c3 : 0 <= a.f3 /\ a.f3 <= 99999
        . simp only [if_pos c3]
          refine Ev.bind (specPropsOk g4) ?_
          refine join _ ?_
          simp only [ne_eq, c0, not_false_eq_true, decide_true, c1, c2', c3, and_self, Bool.true_and, decide_eq_true c5]
        . simp only [if_neg c3]
          exact join true (by simp only [c3, decide_false, Bool.false_and, Bool.and_false, Bool.not_false])
      by_cases c4 : a.f1 = true
      . simp only [c4, if_true] at tail join ⊢
        by_cases c5 : bl a.f2 = []
        . simp only [if_pos c5]
          exact tail (fun _ => c5)
        . simp only [if_neg c5]
          exact join true (by simp [c5])
      . simp only [c4, Bool.false_eq_true, if_false] at tail join ⊢
        exact tail (fun h => h.elim)
  exact key t [] rfl
theorem implTreeOk {t : List S57} (ht : SmRess t) : Ev (fun k => impl_TreeOk.f k t) (treeOk t) := by
  have hl : t.length <= maxLen := by have := ht.1; rw [maxLen_eq]; omega
  have key : ∀ (suf pre : List S57), t = pre ++ suf -> Ev (fun k => impl_TreeOk.l0 k t t (t.length : Int) pre.length) (treeL t pre.getLast? suf && decide ((t.length : Int) <= 12)) := by
    intro suf
    induction suf with
    | nil =>
      intro pre h
      refine Ev.step (fun k => impl_TreeOk.l0.eq_2 ..) ?_
      simp only [if_neg (end_at h), treeL, Bool.true_and]
      exact Ev.now _
    | cons a suf ih =>
      intro pre h
      have hn := ih (pre ++ [a]) (snoc_at h)
      rw [List.getLast?_append] at hn
      simp only [List.getLast?_singleton, Option.some_or] at hn
      have ha := ht.2 a (by rw [h]; simp)
      have g0 := ha.1
      refine Ev.step (fun k => impl_TreeOk.l0.eq_2 ..) ?_
      simp only [if_pos (lt_at h), if_pos (nonneg_at _), rd_implRes h]
      refine Ev.bind (implResOk ha) ?_
      simp only [treeL]
      by_cases c0 : resOk a = true
      rotate_left
      . simp only [c0, Bool.false_eq_true, if_false, Bool.false_and]; exact Ev.now _
      simp only [c0, if_true, Bool.true_and]
      have fin : Ev (fun n => (impl_Above.f a.f0).bind fun t593 => (impl_IsColl.f n t t593).bind fun t596 => if t596 = true then impl_TreeOk.l0 n t t (t.length : Int) (wrap64 ((pre.length : Int) + 1)) else some false) (isColl t (above a.f0) && treeL t (some a) suf && decide ((t.length : Int) <= 12)) := by
        simp only [implAbove g0.1, Option.bind_some]
        refine Ev.bind (implIsColl ht) ?_
        by_cases c2 : isColl t (above a.f0) = true
        . simp only [c2, if_true, Bool.true_and, next_at h hl]; exact hn
        . simp only [c2, Bool.false_eq_true, if_false, Bool.false_and]; exact Ev.now _
      rcases List.eq_nil_or_concat pre with rfl | ⟨pre', b', rfl⟩
      . simp only [List.length_nil, Int.natCast_zero, show ¬ (0 : Int) > 0 by omega, if_false, List.getLast?_nil, Bool.true_and]
        exact fin
      . rw [List.concat_eq_append] at h hn fin ⊢
        have hp := pred_at h hl
        have h2 : t = pre' ++ b' :: (a :: suf) := by rw [h]; simp
        have hb' := (ht.2 b' (by rw [h]; simp)).1.1
        simp only [show (((pre' ++ [b']).length : Nat) : Int) > 0 by first | (simp; done) | (simp; omega), if_true, hp, if_pos (nonneg_at _), if_pos (lt_at h2), rd_implRes h2, List.getLast?_append, List.getLast?_singleton, Option.some_or]
        refine Ev.bind (implLess (by rw [maxLen_eq]; omega)) ?_
        by_cases c1 : lessP b'.f0 a.f0 = true
        . simp only [c1, if_true, Bool.true_and]
          exact fin
        . simp only [c1, Bool.false_eq_true, if_false, Bool.false_and]
          exact Ev.now _
  exact key t [] rfl
end Go.Proofs.Ytbgggcgjijljkaa.L

/- Is a path under another one; as the program and the reference have it. No condition. -/
set_option linter.unusedSimpArgs false
set_option linter.unusedVariables false
namespace Go.Proofs.Ytbgggcgjijljkaa.L
open Go.RowKit Go.Proofs.YtbgggcgjijljkaaW.PrintWords Go.Proofs.YtbgggcgjijljkaaW.PrintLast Go.Proofs.Ytbgggcgjijljkaa.Q
def under (p head : List ByteArray) : Bool := decide (head.length < p.length) && decide (p.take head.length = head)
theorem specUnder {p head : List ByteArray} (hl : p.length <= 1048576) : Ev (fun k => spec_Under.f k p head) (under p head) := by
  unfold spec_Under.f under
  by_cases e : (p.length : Int) > (head.length : Int)
  . simp only [if_pos e, if_pos (nonneg_at _), if_pos (show (head.length : Int) <= p.length by omega), Int.toNat_natCast, show head.length < p.length by omega, decide_true, Bool.true_and]
    exact Ev.bind (specSame (by rw [maxLen_eq]; simp; omega)) (Ev.now _)
  . simp only [if_neg e, show ¬ head.length < p.length by omega, decide_false, Bool.false_and]
    exact Ev.now _
theorem implUnder {p head : List ByteArray} (hl : p.length <= 1048576) : Ev (fun k => impl_Under.f k p head) (under p head) := by
  unfold impl_Under.f under
  by_cases e : (p.length : Int) > (head.length : Int)
  . simp only [if_pos e, if_pos (nonneg_at _), if_pos (show (head.length : Int) <= p.length by omega), Int.toNat_natCast, show head.length < p.length by omega, decide_true, Bool.true_and]
    exact Ev.bind (implSame (by rw [maxLen_eq]; simp; omega)) (Ev.now _)
  . simp only [if_neg e, show ¬ head.length < p.length by omega, decide_false, Bool.false_and]
    exact Ev.now _
end Go.Proofs.Ytbgggcgjijljkaa.L

/- What lies on a shelf, and all of it; as the program and the reference have it. No condition. -/
set_option linter.unusedSimpArgs false
set_option linter.unusedVariables false
namespace Go.Proofs.Ytbgggcgjijljkaa.L
open Go.RowKit Go.Proofs.YtbgggcgjijljkaaW.PrintWords Go.Proofs.YtbgggcgjijljkaaW.PrintLast Go.Proofs.Ytbgggcgjijljkaa.Q
def deepOf (p : List ByteArray) (t : List S57) : List S57 := t.filter (fun r => decide (r.f0 = p) || under r.f0 p)
theorem deep_length (p : List ByteArray) (t : List S57) : (deepOf p t).length <= t.length := List.length_filter_le _ _
theorem deep_sm {p : List ByteArray} {t : List S57} (ht : SmRess t) : SmRess (deepOf p t) := ⟨Nat.le_trans (deep_length p t) ht.1, fun r hr => ht.2 r (List.mem_filter.1 hr).1⟩
theorem specDeep {t : List S57} {p : List ByteArray} (ht : SmRess t) (hp : p.length <= 1048576) : Ev (fun k => spec_DeepOf.f k t p) (deepOf p t) := by
  have hl0 := ht.1
  have hl : t.length <= maxLen := by rw [maxLen_eq]; omega
  have key : ∀ (suf pre out : List S57), t = pre ++ suf -> out.length <= pre.length -> Ev (fun k => spec_DeepOf.l0 k t p out pre.length) (out ++ deepOf p suf) := by
    intro suf
    induction suf with
    | nil =>
      intro pre out h ho
      refine Ev.step (fun k => spec_DeepOf.l0.eq_2 ..) ?_
      simp only [if_neg (end_at h), deepOf, List.filter_nil, List.append_nil]
      exact Ev.now _
    | cons a suf ih =>
      intro pre out h ho
      have hpl : pre.length ≤ 1048576 := by have : t.length = pre.length + (suf.length + 1) := by rw [h]; simp
                                            omega
      have ha := ht.2 a (by rw [h]; simp)
      have ha0 := ha.1.1
      have ha4 := ha.2.2.2.2.1
      have hc : spec_l10Copy.f a.f0 a.f1 a.f2 a.f3 a.f4 = some (a.f0, a.f1, a.f2, a.f3, a.f4) := by
        unfold spec_l10Copy.f
        simp only [Option.bind_some, List.length_nil, Nat.zero_add, List.nil_append]
        rw [if_pos (by omega), if_pos (by omega)]
      refine Ev.step (fun k => spec_DeepOf.l0.eq_2 ..) ?_
      simp only [if_pos (lt_at h), if_pos (nonneg_at _), rd_implRes h, next_at h hl, hc, Option.bind_some]
      refine Ev.bind (specSame (by rw [maxLen_eq]; omega)) ?_
      by_cases c0 : a.f0 = p
      . simp only [decide_eq_true c0, if_true]
        simp only [show out.length < 1759218604441 by omega, if_true]
        refine ev_cast (ih (pre ++ [a]) _ (snoc_at h) (by simp; omega)) ?_
        simp only [deepOf, List.filter_cons, decide_eq_true c0, Bool.true_or, if_true, List.append_assoc, List.cons_append, List.nil_append]
      . simp only [decide_eq_false c0, Bool.false_eq_true, if_false]
        refine Ev.bind (specUnder (by omega)) ?_
        by_cases c1 : under a.f0 p = true
        . simp only [c1, if_true]
          simp only [show out.length < 1759218604441 by omega, if_true]
          refine ev_cast (ih (pre ++ [a]) _ (snoc_at h) (by simp; omega)) (by simp [deepOf, List.filter_cons, c1])
        . simp only [c1, Bool.false_eq_true, if_false]
          refine ev_cast (ih (pre ++ [a]) _ (snoc_at h) (by simp; omega)) (by simp [deepOf, List.filter_cons, c0, c1])
  exact key t [] [] rfl (by simp)
theorem implDeep {t : List S57} {p : List ByteArray} (ht : SmRess t) (hp : p.length <= 1048576) : Ev (fun k => impl_DeepOf.f k t p) (deepOf p t) := by
  have hl0 := ht.1
  have hl : t.length <= maxLen := by rw [maxLen_eq]; omega
  have key : ∀ (suf pre out : List S57), t = pre ++ suf -> out.length <= pre.length -> Ev (fun k => impl_DeepOf.l0 k p out t (t.length : Int) pre.length) (out ++ deepOf p suf) := by
    intro suf
    induction suf with
    | nil =>
      intro pre out h ho
      refine Ev.step (fun k => impl_DeepOf.l0.eq_2 ..) ?_
      simp only [if_neg (end_at h), deepOf, List.filter_nil, List.append_nil]
      exact Ev.now _
    | cons a suf ih =>
      intro pre out h ho
      have hpl : pre.length ≤ 1048576 := by have : t.length = pre.length + (suf.length + 1) := by rw [h]; simp
                                            omega
      have ha := ht.2 a (by rw [h]; simp)
      have ha0 := ha.1.1
      have ha4 := ha.2.2.2.2.1
      have hc : impl_copyRes.f a.f0 a.f1 a.f2 a.f3 a.f4 = some (a.f0, a.f1, a.f2, a.f3, a.f4) := by
        unfold impl_copyRes.f
        simp only [implCopyPath ha0, Option.bind_some, List.length_nil, Nat.zero_add, List.nil_append]
        rw [if_pos (by omega)]
      have hat : Ev (fun k => impl_isAt.f k a.f0 p) (decide (a.f0 = p) || under a.f0 p) := by
        unfold impl_isAt.f
        refine Ev.bind (implSame (by rw [maxLen_eq]; omega)) ?_
        by_cases c0 : a.f0 = p
        . simp only [c0, decide_true, if_true, Bool.true_or]; exact Ev.now _
        . simp only [c0, decide_false, Bool.false_eq_true, if_false, Bool.false_or]; exact Ev.bind (implUnder (by omega)) (Ev.now _)
      refine Ev.step (fun k => impl_DeepOf.l0.eq_2 ..) ?_
      simp only [if_pos (lt_at h), if_pos (nonneg_at _), rd_implRes h, next_at h hl, hc, Option.bind_some]
      refine Ev.bind hat ?_
      by_cases c0 : (decide (a.f0 = p) || under a.f0 p) = true
      . simp only [c0, if_true]
        simp only [show out.length < 1759218604441 by omega, if_true]
        refine ev_cast (ih (pre ++ [a]) _ (snoc_at h) (by simp; omega)) ?_
        simp only [deepOf, List.filter_cons, c0, if_true, List.append_assoc, List.cons_append, List.nil_append]
      . simp only [c0, Bool.false_eq_true, if_false]
        refine ev_cast (ih (pre ++ [a]) _ (snoc_at h) (by simp; omega)) ?_
        simp only [deepOf, List.filter_cons, c0, Bool.false_eq_true, if_false]
  exact key t [] [] rfl (by simp)
end Go.Proofs.Ytbgggcgjijljkaa.L

/- What turns shelves: copies, what is left without a thing, the first code, Remove; as the program and the reference have it. No condition. -/
set_option linter.unusedSimpArgs false
set_option linter.unusedVariables false
namespace Go.Proofs.Ytbgggcgjijljkaa.L
open Go.RowKit Go.Proofs.YtbgggcgjijljkaaW.PrintWords Go.Proofs.YtbgggcgjijljkaaW.PrintLast Go.Proofs.Ytbgggcgjijljkaa.Q
theorem implCopyRes {a : S57} (ha : SmRes a) : impl_copyRes.f a.f0 a.f1 a.f2 a.f3 a.f4 = some (a.f0, a.f1, a.f2, a.f3, a.f4) := by
  have ha0 := ha.1.1
  have ha4 := ha.2.2.2.2.1
  unfold impl_copyRes.f
  simp only [implCopyPath ha0, Option.bind_some, List.length_nil, Nat.zero_add, List.nil_append]
  rw [if_pos (by omega)]
theorem specCopyRes {a : S57} (ha : SmRes a) : spec_l10Copy.f a.f0 a.f1 a.f2 a.f3 a.f4 = some (a.f0, a.f1, a.f2, a.f3, a.f4) := by
  have ha0 := ha.1.1
  have ha4 := ha.2.2.2.2.1
  unfold spec_l10Copy.f
  simp only [Option.bind_some, List.length_nil, Nat.zero_add, List.nil_append]
  rw [if_pos (by omega), if_pos (by omega)]
theorem implIsAt {a p : List ByteArray} (ha : a.length <= 1048576) : Ev (fun k => impl_isAt.f k a p) (decide (a = p) || under a p) := by
  unfold impl_isAt.f
  refine Ev.bind (implSame (by rw [maxLen_eq]; omega)) ?_
  by_cases c0 : a = p
  . simp only [c0, decide_true, if_true, Bool.true_or]; exact Ev.now _
  . simp only [c0, decide_false, Bool.false_eq_true, if_false, Bool.false_or]; exact Ev.bind (implUnder (by omega)) (Ev.now _)
theorem implCopyTree {t : List S57} (ht : SmRess t) : Ev (fun k => impl_copyTree.f k t) t := by
  have hl0 := ht.1
  have hl : t.length <= maxLen := by rw [maxLen_eq]; omega
  have key : ∀ (suf pre out : List S57), t = pre ++ suf -> out.length <= pre.length -> Ev (fun k => impl_copyTree.l0 k out t (t.length : Int) pre.length) (out ++ suf) := by
    intro suf
    induction suf with
    | nil =>
      intro pre out h ho
      refine Ev.step (fun k => impl_copyTree.l0.eq_2 ..) ?_
      simp only [if_neg (end_at h), List.append_nil]
      exact Ev.now _
    | cons a suf ih =>
      intro pre out h ho
      have hpl : pre.length ≤ 1048576 := by have : t.length = pre.length + (suf.length + 1) := by rw [h]; simp
                                            omega
      have ha := ht.2 a (by rw [h]; simp)
      refine Ev.step (fun k => impl_copyTree.l0.eq_2 ..) ?_
      simp only [if_pos (lt_at h), if_pos (nonneg_at _), rd_implRes h, next_at h hl, implCopyRes ha, Option.bind_some, show out.length < 1759218604441 by omega, if_true]
      exact ev_cast (ih (pre ++ [a]) _ (snoc_at h) (by simp; omega)) (by simp)
  exact key t [] [] rfl (by simp)
theorem specCopyAll {t : List S57} (ht : SmRess t) : Ev (fun k => spec_l10CopyAll.f k t) t := by
  have hl0 := ht.1
  have hl : t.length <= maxLen := by rw [maxLen_eq]; omega
  have key : ∀ (suf pre out : List S57), t = pre ++ suf -> out.length <= pre.length -> Ev (fun k => spec_l10CopyAll.l0 k t out pre.length) (out ++ suf) := by
    intro suf
    induction suf with
    | nil =>
      intro pre out h ho
      refine Ev.step (fun k => spec_l10CopyAll.l0.eq_2 ..) ?_
      simp only [if_neg (end_at h), List.append_nil]
      exact Ev.now _
    | cons a suf ih =>
      intro pre out h ho
      have hpl : pre.length ≤ 1048576 := by have : t.length = pre.length + (suf.length + 1) := by rw [h]; simp
                                            omega
      have ha := ht.2 a (by rw [h]; simp)
      refine Ev.step (fun k => spec_l10CopyAll.l0.eq_2 ..) ?_
      simp only [if_pos (lt_at h), if_pos (nonneg_at _), rd_implRes h, next_at h hl, specCopyRes ha, Option.bind_some, show out.length < 1759218604441 by omega, if_true]
      exact ev_cast (ih (pre ++ [a]) _ (snoc_at h) (by simp; omega)) (by simp)
  exact key t [] [] rfl (by simp)
def mayC (t : List S57) (ps : List (List ByteArray)) (ver : Int) : Int := if treeOk t = true then (if ps.all pathOk = true then (if 0 <= ver /\ ver <= 99999 then 0 else 507) else 400) else 500
theorem specMay {t : List S57} {p : List ByteArray} {ver : Int} (ht : SmRess t) (hp : SmS p) : Ev (fun k => spec_l11May.f k t p ver) (mayC t [p] ver) := by
  unfold spec_l11May.f mayC
  refine Ev.bind (specTreeOk ht) ?_
  by_cases c0 : treeOk t = true
  . simp only [if_pos c0, List.all_cons, List.all_nil, Bool.and_true]
    refine Ev.bind (specPathOk hp) ?_
    by_cases c1 : pathOk p = true
    . simp only [if_pos c1, specIn, Option.bind_some, decide_eq_true_eq]
      by_cases c2 : 0 <= ver /\ ver <= 99999
      . simp only [if_pos c2]; exact Ev.now _
      . simp only [if_neg c2]; exact Ev.now _
    . simp only [if_neg c1]; exact Ev.now _
  . simp only [if_neg c0]; exact Ev.now _
theorem implMay {t : List S57} {ps : List (List ByteArray)} {ver : Int} (ht : SmRess t) (hn : ps.length <= 2) (hp : ∀ p ∈ ps, SmS p) : Ev (fun k => impl_opForm.f k t ver ps) (mayC t ps ver) := by
  have hl : ps.length <= maxLen := by rw [maxLen_eq]; omega
  unfold impl_opForm.f mayC
  refine Ev.bind (implTreeOk ht) ?_
  by_cases c0 : treeOk t = true
  . simp only [if_pos c0]
    have key : ∀ (suf pre : List (List ByteArray)), ps = pre ++ suf -> Ev (fun k => impl_opForm.l0 k ver ps (ps.length : Int) pre.length) (if suf.all pathOk = true then (if 0 <= ver /\ ver <= 99999 then 0 else 507) else 400) := by
      intro suf
      induction suf with
      | nil =>
        intro pre h
        refine Ev.step (fun k => impl_opForm.l0.eq_2 ..) ?_
        simp only [if_neg (end_at h), List.all_nil, if_true, implIn, Option.bind_some, decide_eq_true_eq]
        by_cases c2 : 0 <= ver /\ ver <= 99999
        . simp only [if_pos c2]; exact Ev.now _
        . simp only [if_neg c2]; exact Ev.now _
      | cons a suf ih =>
        intro pre h
        refine Ev.step (fun k => impl_opForm.l0.eq_2 ..) ?_
        simp only [if_pos (lt_at h), if_pos (nonneg_at _), show rd_L2 ps ((pre.length : Nat) : Int) = a from getD_at _ h, List.all_cons, next_at h hl]
        refine Ev.bind (implPathOk (hp a (by rw [h]; simp))) ?_
        by_cases c1 : pathOk a = true
        . simp only [c1, if_true, Bool.true_and]; exact ih (pre ++ [a]) (snoc_at h)
        . simp only [c1, Bool.false_eq_true, if_false, Bool.false_and]; exact Ev.now _
    exact key ps [] rfl
  . simp only [if_neg c0]; exact Ev.now _
def withoutP (p : List ByteArray) (t : List S57) : List S57 := t.filter (fun r => !(decide (r.f0 = p) || under r.f0 p))
theorem without_length (p : List ByteArray) (t : List S57) : (withoutP p t).length <= t.length := List.length_filter_le _ _
theorem without_sm {p : List ByteArray} {t : List S57} (ht : SmRess t) : SmRess (withoutP p t) := ⟨Nat.le_trans (without_length p t) ht.1, fun r hr => ht.2 r (List.mem_filter.1 hr).1⟩
theorem specWithout {t : List S57} {p : List ByteArray} (ht : SmRess t) (hp : p.length <= 1048576) : Ev (fun k => spec_l11Without.f k t p) (withoutP p t) := by
  have hl0 := ht.1
  have hl : t.length <= maxLen := by rw [maxLen_eq]; omega
  have key : ∀ (suf pre out : List S57), t = pre ++ suf -> out.length <= pre.length -> Ev (fun k => spec_l11Without.l0 k t p out pre.length) (out ++ withoutP p suf) := by
    intro suf
    induction suf with
    | nil =>
      intro pre out h ho
      refine Ev.step (fun k => spec_l11Without.l0.eq_2 ..) ?_
      simp only [if_neg (end_at h), withoutP, List.filter_nil, List.append_nil]
      exact Ev.now _
    | cons a suf ih =>
      intro pre out h ho
      have hpl : pre.length ≤ 1048576 := by have : t.length = pre.length + (suf.length + 1) := by rw [h]; simp
                                            omega
      have ha := ht.2 a (by rw [h]; simp)
      have ha0 := ha.1.1
      refine Ev.step (fun k => spec_l11Without.l0.eq_2 ..) ?_
      simp only [if_pos (lt_at h), if_pos (nonneg_at _), rd_implRes h, next_at h hl, specCopyRes ha, Option.bind_some]
      refine Ev.bind (specSame (by rw [maxLen_eq]; omega)) ?_
      by_cases c0 : a.f0 = p
      . simp only [decide_eq_true c0, if_true]
        refine ev_cast (ih (pre ++ [a]) _ (snoc_at h) (by simp; omega)) (by simp [withoutP, List.filter_cons, c0])
      . simp only [decide_eq_false c0, Bool.false_eq_true, if_false]
        refine Ev.bind (specUnder (by omega)) ?_
        by_cases c1 : under a.f0 p = true
        . simp only [c1, if_true]
          refine ev_cast (ih (pre ++ [a]) _ (snoc_at h) (by simp; omega)) (by simp [withoutP, List.filter_cons, c1])
        . simp only [c1, Bool.false_eq_true, if_false, show out.length < 1759218604441 by omega, if_true]
          refine ev_cast (ih (pre ++ [a]) _ (snoc_at h) (by simp; omega)) (by simp [withoutP, List.filter_cons, c0, c1])
  exact key t [] [] rfl (by simp)
theorem implWithout {t : List S57} {p : List ByteArray} (ht : SmRess t) (hp : p.length <= 1048576) : Ev (fun k => impl_without.f k t p) (withoutP p t) := by
  have hl0 := ht.1
  have hl : t.length <= maxLen := by rw [maxLen_eq]; omega
  have key : ∀ (suf pre out : List S57), t = pre ++ suf -> out.length <= pre.length -> Ev (fun k => impl_without.l0 k p out t (t.length : Int) pre.length) (out ++ withoutP p suf) := by
    intro suf
    induction suf with
    | nil =>
      intro pre out h ho
      refine Ev.step (fun k => impl_without.l0.eq_2 ..) ?_
      simp only [if_neg (end_at h), withoutP, List.filter_nil, List.append_nil]
      exact Ev.now _
    | cons a suf ih =>
      intro pre out h ho
      have hpl : pre.length ≤ 1048576 := by have : t.length = pre.length + (suf.length + 1) := by rw [h]; simp
                                            omega
      have ha := ht.2 a (by rw [h]; simp)
      have ha0 := ha.1.1
      refine Ev.step (fun k => impl_without.l0.eq_2 ..) ?_
      simp only [if_pos (lt_at h), if_pos (nonneg_at _), rd_implRes h, next_at h hl, implCopyRes ha, Option.bind_some]
      refine Ev.bind (implIsAt (by omega)) ?_
      by_cases c1 : (decide (a.f0 = p) || under a.f0 p) = true
      . simp only [c1, if_true]
        refine ev_cast (ih (pre ++ [a]) _ (snoc_at h) (by simp; omega)) (by unfold withoutP; rw [List.filter_cons, if_neg (by rw [c1]; simp)])
      . simp only [c1, Bool.false_eq_true, if_false, show out.length < 1759218604441 by omega, if_true]
        refine ev_cast (ih (pre ++ [a]) _ (snoc_at h) (by simp; omega)) (by unfold withoutP; rw [List.filter_cons, if_pos (by rw [Bool.eq_false_iff.mpr c1]; rfl)]; simp)
  exact key t [] [] rfl (by simp)
end Go.Proofs.Ytbgggcgjijljkaa.L
