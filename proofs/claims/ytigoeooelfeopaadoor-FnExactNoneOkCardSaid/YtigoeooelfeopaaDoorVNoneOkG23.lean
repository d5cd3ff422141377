-- PRINTED by print.py (a twelfth state) out of the translation. Not trusted: Lean checks it.
import Derived.Test.YtigoeooelfeopaaDoorVNoneOkG22
import Derived.Laws.Strings
import Derived.Lib.SlTrimSet
import Derived.Lib.IndexMore
import Derived.Lib.IndexBytes
set_option maxHeartbeats 8000000
set_option maxRecDepth 100000
namespace Go.Proofs.YtigoeooelfeopaaDoor.Q
open Go.RowKit Go.Proofs.YtigoeooelfeopaaDoorW.PrintWords Go.Proofs.YtigoeooelfeopaaDoorW.PrintLast Go.Proofs.YtigoeooelfeopaaDoorW.PrintMore
attribute [local go_sem] max2_int min2_int max_two min_two max_three min_three max_four min_four   -- for this text's walks alone
set_option linter.unusedVariables false
set_option linter.unusedSimpArgs false
theorem bIQx140_ {P : Prop} (h : P := by repeat (first | (with_reducible first | exact HB.out | apply below_alloc | apply pw_below_drewN | apply below_drew1 | refine below_set ?_ (IsS106.ge HI0.out)) | exact HB.out)) : P := h
theorem bIQx141_ {P : Prop} (h : P := by repeat (first | (with_reducible first | exact HI0.out | apply IsS106.alloc | apply IsS106.drewN | apply IsS106.drew | apply IsS106.set_0 | apply IsS106.set_1 | apply IsS106.set_2) | exact HI0.out)) : P := h
def spec_l7At.f (a0 : ByteArray) (a1 : Int) (a2 : ByteArray) : Option (Bool) := if (wrap64 (a1 + (a2.size : Int))) ≤ (a0.size : Int) then (if 0 ≤ a1 then (if a1 ≤ (wrap64 (a1 + (a2.size : Int))) then (some ((a0.extract (a1 : Int).toNat ((wrap64 (a1 + (a2.size : Int))) : Int).toNat).toList == a2.toList)) else (none)) else (none)) else (some false)
def IsS106 (w0 W : World) (g : Nat) (f0 : ByteArray) (f1 : Int) (f2 : Bool) : Prop := W.heap[g]? = some (.cells #[.string f0, .int .i64 f1, .bool f2] 106 (0, 0)) ∧ w0.heap.size ≤ g
theorem IsS106.grown {w0 W : World} {g : Nat} {f0 : ByteArray} {f1 : Int} {f2 : Bool} {W1 : World} {row : Option Nat} (h : IsS106 w0 W g f0 f1 f2) (hw : W.grownBy W1 row) (hne : some g ≠ row) : IsS106 w0 W1 g f0 f1 f2 := by
 obtain ⟨hb, hg⟩ := h
 exact ⟨blk_grown hb hw hne, hg⟩
theorem IsS106.kept {w0 W : World} {g : Nat} {f0 : ByteArray} {f1 : Int} {f2 : Bool} {W1 : World} {S : Nat → Prop} (h : IsS106 w0 W g f0 f1 f2) (hk : Kept W W1 S) (hne : ¬ S g) : IsS106 w0 W1 g f0 f1 f2 := by
 obtain ⟨hb, hg⟩ := h
 exact ⟨blk_kept hb hk hne, hg⟩
theorem IsS106.below {w0 W : World} {g : Nat} {f0 : ByteArray} {f1 : Int} {f2 : Bool} {W1 : World} (h : IsS106 w0 W g f0 f1 f2) (hw : Below W.heap.size W W1) : IsS106 w0 W1 g f0 f1 f2 := h.grown (grown_of_below hw none) (by simp)
theorem IsS106.alloc {w0 W : World} {g : Nat} {f0 : ByteArray} {f1 : Int} {f2 : Bool} (h : IsS106 w0 W g f0 f1 f2) (o : Obj) : IsS106 w0 (W.alloc o) g f0 f1 f2 := h.below (below_alloc (Below.refl _ _) o)
theorem IsS106.drewN {w0 W : World} {g : Nat} {f0 : ByteArray} {f1 : Int} {f2 : Bool} (h : IsS106 w0 W g f0 f1 f2) (m : Nat) : IsS106 w0 (W.drewN m) g f0 f1 f2 := h
theorem IsS106.drew {w0 W : World} {g : Nat} {f0 : ByteArray} {f1 : Int} {f2 : Bool} (h : IsS106 w0 W g f0 f1 f2) : IsS106 w0 W.drew g f0 f1 f2 := h
theorem IsS106.apart {w0 W : World} {g : Nat} {f0 : ByteArray} {f1 : Int} {f2 : Bool} {α : Type} {d : Kd α} {e : Nat} {base : Nat} {ok : Nat → Prop} {v : Value} {xs : List α} (h : IsS106 w0 W g f0 f1 f2) (ho : d.R e W base ok v xs) (ht : ∀ q, q ∈ e :: d.E → q ≠ 106) : d.R e W base (fun k => ok k ∧ k ≠ g) v xs := by
 obtain ⟨hb, hg⟩ := h
 exact Kd.R_types ho hb ht
theorem IsS106.ge {w0 W : World} {g : Nat} {f0 : ByteArray} {f1 : Int} {f2 : Bool} (h : IsS106 w0 W g f0 f1 f2) : w0.heap.size ≤ g := by
 obtain ⟨hb, hg⟩ := h
 exact hg
theorem IsS106.set_0 {w0 W : World} {g : Nat} {f0 : ByteArray} {f1 : Int} {f2 : Bool} (h : IsS106 w0 W g f0 f1 f2) (x : ByteArray) : IsS106 w0 (W.setCell ⟨g, 0, none⟩ (.string x)) g x f1 f2 := by
 obtain ⟨hb, hg⟩ := h
 exact ⟨by simpa using blk_set hb 0 (.string x), hg⟩
theorem IsS106.set_1 {w0 W : World} {g : Nat} {f0 : ByteArray} {f1 : Int} {f2 : Bool} (h : IsS106 w0 W g f0 f1 f2) (x : Int) : IsS106 w0 (W.setCell ⟨g, 1, none⟩ (.int .i64 x)) g f0 x f2 := by
 obtain ⟨hb, hg⟩ := h
 exact ⟨by simpa using blk_set hb 1 (.int .i64 x), hg⟩
theorem IsS106.set_2 {w0 W : World} {g : Nat} {f0 : ByteArray} {f1 : Int} {f2 : Bool} (h : IsS106 w0 W g f0 f1 f2) (x : Bool) : IsS106 w0 (W.setCell ⟨g, 2, none⟩ (.bool x)) g f0 f1 x := by
 obtain ⟨hb, hg⟩ := h
 exact ⟨by simpa using blk_set hb 2 (.bool x), hg⟩
theorem IsS106.new (w0 W : World) (f0 : ByteArray) (f1 : Int) (f2 : Bool) (hB : Below w0.heap.size w0 W) : IsS106 w0 (W.alloc (.cells #[.string f0, .int .i64 f1, .bool f2] 106)) W.heap.size f0 f1 f2 := ⟨by simpa using heap_alloc_new W _, hB.size⟩
end Go.Proofs.YtigoeooelfeopaaDoor.Q

/- Small lemmas for plain laws over rounds: indices as lengths of what was passed, bytes' equality. No condition. -/
set_option linter.unusedSimpArgs false
set_option linter.unusedVariables false
namespace Go.Proofs.YtigoeooelfeopaaDoor.L
open Go.RowKit Go.Proofs.YtigoeooelfeopaaDoorW.PrintWords Go.Proofs.YtigoeooelfeopaaDoorW.PrintLast
theorem ba_toList (s : ByteArray) : s.toList = s.data.toList := ByteArray.toList_eq s
theorem ba_inj {a b : ByteArray} (h : a.toList = b.toList) : a = b := by
  rw [ba_toList, ba_toList] at h
  cases a with | mk x => cases b with | mk y => congr 1; exact Array.toList_inj.1 h
theorem ba_eq {a b : ByteArray} : (a.toList = b.toList) = (a = b) := propext ⟨ba_inj, fun h => by rw [h]⟩
theorem maxLen_eq : maxLen = 9223372036854775807 := by decide
theorem wrap_id {x : Int} (h0 : -9223372036854775808 ≤ x) (h1 : x < 9223372036854775808) : wrap64 x = x := by
  unfold wrap64
  omega
section
variable {α : Type} {l pre suf : List α} {a : α}
theorem lt_at (h : l = pre ++ a :: suf) : ((pre.length : Nat) : Int) < (l.length : Int) := by subst h; simp; omega
theorem rd_at (d : α) (h : l = pre ++ a :: suf) : rdOf d l (pre.length : Int) = a := by subst h; simp [rdOf, List.getD_eq_getElem?_getD]
theorem next_at (h : l = pre ++ a :: suf) (hl : l.length ≤ maxLen) : wrap64 ((pre.length : Int) + 1) = ((pre ++ [a]).length : Int) := by
  have : l.length = pre.length + 1 + suf.length := by subst h; simp; omega
  rw [maxLen_eq] at hl
  rw [wrap_id (by omega) (by omega)]
  simp
theorem snoc_at (h : l = pre ++ a :: suf) : l = (pre ++ [a]) ++ suf := by subst h; simp
theorem end_at (h : l = pre ++ []) : ¬ ((pre.length : Nat) : Int) < (l.length : Int) := by subst h; simp
theorem nonneg_at (n : Nat) : (0 : Int) ≤ (n : Int) := Int.natCast_nonneg n
end
end Go.Proofs.YtigoeooelfeopaaDoor.L

/- Texts byte by byte: plain texts, small names, as the program and the reference have them. No condition. -/
set_option linter.unusedSimpArgs false
set_option linter.unusedVariables false
namespace Go.Proofs.YtigoeooelfeopaaDoor.L
open Go.RowKit Go.Proofs.YtigoeooelfeopaaDoorW.PrintWords Go.Proofs.YtigoeooelfeopaaDoorW.PrintLast Go.Proofs.YtigoeooelfeopaaDoor.Q
abbrev bl (s : ByteArray) : List UInt8 := s.data.toList
theorem bl_len (s : ByteArray) : (bl s).length = s.size := data_length s
theorem bl_inj {s t : ByteArray} (h : bl s = bl t) : s = t := ba_inj (by rw [ba_toList, ba_toList]; exact h)
section
variable {s : ByteArray} {pre suf : List UInt8} {c : UInt8}
theorem blt_at (h : bl s = pre ++ c :: suf) : ((pre.length : Nat) : Int) < (s.size : Int) := by
  have := bl_len s
  rw [h] at this
  simp at this
  omega
theorem bend_at (h : bl s = pre ++ []) : ¬ ((pre.length : Nat) : Int) < (s.size : Int) := by
  have := bl_len s
  rw [h] at this
  simp at this
  omega
theorem bt_at' (h : bl s = pre ++ c :: suf) : bt s (pre.length : Int) = (c.toNat : Int) := by
  have hlt := blt_at h
  have h2 : pre.length < s.size := by omega
  rw [← bt_at s (pre.length : Int) (by simpa using h2)]
  have h3 : pre.length < (bl s).length := by rw [bl_len]; exact h2
  have h4 : (bl s)[pre.length] = c := by simp [h]
  have h5 : s[pre.length]'h2 = (bl s)[pre.length] := by
    show s.data[pre.length] = _
    simp
  simp only [Int.toNat_natCast, h5, h4]
theorem bnext_at (h : bl s = pre ++ c :: suf) (hs : s.size ≤ maxLen) : wrap64 ((pre.length : Int) + 1) = ((pre ++ [c]).length : Int) := by
  have := blt_at h
  rw [maxLen_eq] at hs
  rw [wrap_id (by omega) (by omega)]
  simp
end
theorem byte_bounds (c : UInt8) : 0 ≤ (c.toNat : Int) ∧ (c.toNat : Int) ≤ 255 := ⟨by omega, by have := c.toNat_lt; omega⟩
theorem wrap_byte (c : UInt8) : wrap64 (c.toNat : Int) = (c.toNat : Int) := wrap_id (by omega) (by have := byte_bounds c; omega)
def inB (lo hi : Int) (c : UInt8) : Bool := decide (lo ≤ (c.toNat : Int) ∧ (c.toNat : Int) ≤ hi)
theorem specIn (a b c : Int) : spec_l1In.f a b c = some (decide (b ≤ a ∧ a ≤ c)) := by
  unfold spec_l1In.f
  by_cases h : a ≥ b
  · rw [if_pos h]; simp [show b ≤ a from h]
  · rw [if_neg h]; simp [show ¬ b ≤ a from h]
theorem implIn (a b c : Int) : impl_in.f a b c = some (decide (b ≤ a ∧ a ≤ c)) := by
  unfold impl_in.f
  by_cases h : a ≥ b
  · rw [if_pos h]; simp [show b ≤ a from h]
  · rw [if_neg h]; simp [show ¬ b ≤ a from h]
theorem implIsPlain (c : UInt8) : impl_isPlain.f (c.toNat : Int) = some (inB 32 126 c) := by
  unfold impl_isPlain.f inB
  by_cases h : (c.toNat : Int) ≥ 32
  · rw [if_pos h]; simp only [show (32 : Int) ≤ c.toNat from h, true_and]
  · rw [if_neg h]; simp only [show ¬ (32 : Int) ≤ c.toNat from h, false_and, decide_false]
def plainL (l : List UInt8) : Bool := l.all (inB 32 126)
theorem specPlain_loop {s : ByteArray} (hs : s.size ≤ maxLen) : ∀ (suf pre : List UInt8), bl s = pre ++ suf → Ev (fun k => spec_Plain.l0 k s pre.length) (plainL suf) := by
  intro suf
  induction suf with
  | nil =>
    intro pre h
    refine Ev.step (fun k => spec_Plain.l0.eq_2 ..) ?_
    simp only [if_neg (bend_at h)]
    exact Ev.now _
  | cons c suf ih =>
    intro pre h
    refine Ev.step (fun k => spec_Plain.l0.eq_2 ..) ?_
    simp only [if_pos (blt_at h), if_pos (nonneg_at _), bt_at' h, wrap_byte, specIn, Option.bind_some, bnext_at h hs]
    have := ih (pre ++ [c]) (snoc_at h)
    simp only [plainL, List.all_cons, inB] at this ⊢
    by_cases e : (32 : Int) ≤ c.toNat ∧ (c.toNat : Int) ≤ 126
    · simp only [e, and_self, decide_true, if_true, Bool.true_and]
      exact this
    · simp only [e, decide_false, Bool.false_eq_true, if_false, Bool.false_and]
      exact Ev.now _
theorem specPlain {s : ByteArray} (hs : s.size ≤ maxLen) : Ev (fun k => spec_Plain.f k s) (plainL (bl s)) := specPlain_loop hs _ [] rfl
theorem implPlain_loop {s : ByteArray} (hs : s.size ≤ maxLen) : ∀ (suf pre : List UInt8), bl s = pre ++ suf → Ev (fun k => impl_Plain.l0 k s pre.length) (plainL suf) := by
  intro suf
  induction suf with
  | nil =>
    intro pre h
    refine Ev.step (fun k => impl_Plain.l0.eq_2 ..) ?_
    simp only [if_neg (bend_at h)]
    exact Ev.now _
  | cons c suf ih =>
    intro pre h
    refine Ev.step (fun k => impl_Plain.l0.eq_2 ..) ?_
    simp only [if_pos (blt_at h), if_pos (nonneg_at _), bt_at' h, implIsPlain, Option.bind_some, bnext_at h hs]
    have := ih (pre ++ [c]) (snoc_at h)
    simp only [plainL, List.all_cons] at this ⊢
    by_cases e : inB 32 126 c = true
    · simp only [e, if_true, Bool.true_and]
      exact this
    · simp only [e, if_false, Bool.false_and]
      exact Ev.now _
theorem implPlain {s : ByteArray} (hs : s.size ≤ maxLen) : Ev (fun k => impl_Plain.f k s) (plainL (bl s)) := implPlain_loop hs _ [] rfl
end Go.Proofs.YtigoeooelfeopaaDoor.L

/- Texts as lists of bytes: cut, trimmed, their first places. No condition. -/
set_option linter.unusedSimpArgs false
set_option linter.unusedVariables false
namespace Go.Proofs.YtigoeooelfeopaaDoor.L
open Go.RowKit Go.Proofs.YtigoeooelfeopaaDoorW.PrintWords Go.Proofs.YtigoeooelfeopaaDoorW.PrintLast Go.Proofs.YtigoeooelfeopaaDoor.Q
abbrev ofL (l : List UInt8) : ByteArray := ⟨l.toArray⟩
theorem bl_ofL (l : List UInt8) : bl (ofL l) = l := by simp
theorem ofL_bl (s : ByteArray) : ofL (bl s) = s := bl_inj (bl_ofL _)
theorem size_ofL (l : List UInt8) : (ofL l).size = l.length := by rw [← bl_len, bl_ofL]
theorem of_bl {s : ByteArray} {l : List UInt8} (h : bl s = l) : s = ofL l := by rw [← h, ofL_bl]
theorem bl_extract (s : ByteArray) (i j : Nat) : bl (s.extract i j) = ((bl s).take j).drop i := by
  show (s.extract i j).data.toList = _
  rw [ByteArray.data_extract, Array.toList_extract, List.extract_eq_take_drop, List.drop_take]
theorem tl_eq (s : ByteArray) (l : List UInt8) : (s.toList = l) = (bl s = l) := by rw [ba_toList]
theorem eq_byte (c : UInt8) (n : Nat) (hn : n < 256) : ((c.toNat : Int) = (n : Int)) = (c = UInt8.ofNat n) := by
  apply propext
  constructor
  · intro h
    apply UInt8.toNat_inj.1
    rw [UInt8.toNat_ofNat']
    omega
  · rintro rfl
    rw [UInt8.toNat_ofNat']
    omega
theorem index_hit {u body rest : List UInt8} {c : UInt8} (h : u = body ++ c :: rest) (hn : c ∉ body) : Lib.indexByte u c = body.length := by
  subst h
  induction body with
  | nil => simp [Lib.indexByte]
  | cons b body ih =>
    have h1 : ¬ b = c := fun e => hn (by simp [e])
    have := ih (fun hm => hn (List.mem_cons_of_mem _ hm))
    simp only [List.cons_append, Lib.indexByte, beq_iff_eq, h1, if_false, this]
    rw [if_neg (by omega)]
    simp
theorem index_miss {u : List UInt8} {c : UInt8} (hn : c ∉ u) : Lib.indexByte u c = -1 := by
  induction u with
  | nil => simp [Lib.indexByte]
  | cons b u ih =>
    have h1 : ¬ b = c := fun e => hn (by simp [e])
    have := ih (fun hm => hn (List.mem_cons_of_mem _ hm))
    simp only [Lib.indexByte, beq_iff_eq, h1, if_false, this, if_true]
theorem cut_hit {u body rest : List UInt8} {c : UInt8} (h : u = body ++ c :: rest) (hn : c ∉ body) : Lib.cut u [c] = (body, rest, true) := by
  unfold Lib.cut
  rw [Lib.index_one, index_hit h hn, if_pos (by omega)]
  subst h
  simp
theorem cut_miss {u : List UInt8} {c : UInt8} (hn : c ∉ u) : Lib.cut u [c] = (u, [], false) := by
  unfold Lib.cut
  rw [Lib.index_one, index_miss hn, if_neg (by omega)]
theorem first_of {u : List UInt8} {c : UInt8} (h : c ∈ u) : ∃ body rest, u = body ++ c :: rest ∧ c ∉ body := by
  induction u with
  | nil => simp at h
  | cons b u ih =>
    by_cases e : b = c
    · exact ⟨[], u, by simp [e], by simp⟩
    · have h2 : c ∈ u := by
        rcases List.mem_cons.1 h with h | h
        · exact absurd h.symm e
        · exact h
      obtain ⟨body, rest, h3, h4⟩ := ih h2
      exact ⟨b :: body, rest, by rw [h3]; rfl, fun hm => (List.mem_cons.1 hm).elim (fun h => e h.symm) h4⟩
theorem pre_cons (c : UInt8) (u : List UInt8) : Lib.hasPrefix (c :: u) [c] = true ∧ Lib.trimPrefix (c :: u) [c] = u := by
  have : Lib.hasPrefix (c :: u) [c] = true := by simp [Lib.hasPrefix]
  exact ⟨this, by simp [Lib.trimPrefix, this]⟩
theorem pre_not {u : List UInt8} {c : UInt8} (h : ∀ v, u ≠ c :: v) : Lib.hasPrefix u [c] = false ∧ Lib.trimPrefix u [c] = u := by
  have : Lib.hasPrefix u [c] = false := by
    cases u with
    | nil => simp [Lib.hasPrefix]
    | cons b u =>
      have : ¬ c = b := fun e => h u (by rw [e])
      simp [Lib.hasPrefix, List.isPrefixOf, this]
  exact ⟨this, by simp [Lib.trimPrefix, this]⟩
def blank (c : UInt8) : Bool := c == 32 || c == 9
def Blank (l : List UInt8) : Prop := ∀ c ∈ l, blank c = true
def Tight (m : List UInt8) : Prop := m = [] ∨ (∃ c r, m = c :: r ∧ blank c = false) ∧ (∃ r c, m = r ++ [c] ∧ blank c = false)
def trm (l : List UInt8) : List UInt8 := Lib.trimS l [32, 9]
theorem blank_fun : (fun c : UInt8 => ([32, 9] : List UInt8).contains c) = blank := by
  funext c
  simp only [blank, List.contains, List.elem]
  cases h1 : (c == 32) <;> cases h2 : (c == 9) <;> simp_all
theorem Blank.append {a b : List UInt8} (ha : Blank a) (hb : Blank b) : Blank (a ++ b) := fun c hc => (List.mem_append.1 hc).elim (ha c) (hb c)
theorem Blank.left {a b : List UInt8} (h : Blank (a ++ b)) : Blank a := fun c hc => h c (List.mem_append_left _ hc)
theorem drop_blank {a m : List UInt8} (ha : Blank a) : (a ++ m).dropWhile blank = m.dropWhile blank := List.dropWhile_append_of_pos ha
theorem trm_of {a m b : List UInt8} (ha : Blank a) (hb : Blank b) (hm : Tight m) : trm (a ++ m ++ b) = m := by
  unfold trm Lib.trimS Lib.trimLeftS Lib.trimRightS
  rw [blank_fun, List.reverse_append, drop_blank (fun c hc => hb c (List.mem_reverse.1 hc)), List.reverse_append]
  rcases hm with rfl | ⟨⟨c, r, h1, h2⟩, ⟨r', c', h3, h4⟩⟩
  · simp only [List.reverse_nil, List.nil_append]
    have : a.reverse.dropWhile blank = [] := by
      have := drop_blank (a := a.reverse) (m := []) (fun c hc => ha c (List.mem_reverse.1 hc))
      simpa using this
    rw [this]; rfl
  · rw [h3, List.reverse_append]
    simp only [List.reverse_cons, List.reverse_nil, List.nil_append, List.cons_append]
    rw [List.dropWhile_cons_of_neg (by simp [h4])]
    simp only [List.reverse_cons, List.reverse_append, List.reverse_reverse, List.append_assoc]
    rw [drop_blank ha, ← h3, h1, List.dropWhile_cons_of_neg (by simp [h2])]
theorem tight_split (l : List UInt8) : ∃ a m b, l = a ++ m ++ b ∧ Blank a ∧ Blank b ∧ Tight m ∧ (m = [] → b = []) := by
  induction l with
  | nil => exact ⟨[], [], [], rfl, fun _ h => by simp at h, fun _ h => by simp at h, .inl rfl, fun _ => rfl⟩
  | cons c l ih =>
    obtain ⟨a, m, b, rfl, ha, hb, hm, h0⟩ := ih
    cases hc : blank c with
    | true => exact ⟨c :: a, m, b, rfl, fun x hx => (List.mem_cons.1 hx).elim (fun h => h ▸ hc) (ha x), hb, hm, h0⟩
    | false =>
      rcases hm with rfl | ⟨⟨d, r, h1, h2⟩, ⟨r', d', h3, h4⟩⟩
      · obtain rfl := h0 rfl
        exact ⟨[], [c], a, by simp, fun _ h => by simp at h, ha, .inr ⟨⟨c, [], rfl, hc⟩, ⟨[], c, rfl, hc⟩⟩, fun h => by simp at h⟩
      · exact ⟨[], c :: (a ++ m), b, by simp, fun _ h => by simp at h, hb, .inr ⟨⟨c, a ++ m, rfl, hc⟩, ⟨c :: (a ++ r'), d', by rw [h3]; simp, h4⟩⟩, fun h => by simp at h⟩
theorem trm_split (l : List UInt8) : ∃ a b, l = a ++ trm l ++ b ∧ Blank a ∧ Blank b ∧ Tight (trm l) ∧ (trm l = [] → b = []) := by
  obtain ⟨a, m, b, h, ha, hb, hm, h0⟩ := tight_split l
  have e : trm l = m := by rw [h]; exact trm_of ha hb hm
  rw [e]
  exact ⟨a, b, h, ha, hb, hm, h0⟩
theorem trm_blank {l : List UInt8} (h : Blank l) : trm l = [] := by
  have := trm_of (a := l) (m := []) (b := []) h (fun _ h => by simp at h) (.inl rfl)
  simpa using this
theorem trm_right {l b : List UInt8} (hb : Blank b) : trm (l ++ b) = trm l := by
  obtain ⟨a, b', h, ha, hb', hm, _⟩ := trm_split l
  have := trm_of ha (hb'.append hb) hm
  rw [← List.append_assoc, ← h] at this
  exact this
theorem trm_left {l a : List UInt8} (ha : Blank a) : trm (a ++ l) = trm l := by
  obtain ⟨a', b, h, ha', hb, hm, _⟩ := trm_split l
  have := trm_of (ha.append ha') hb hm
  rw [List.append_assoc, List.append_assoc, ← List.append_assoc a', ← h] at this
  exact this
theorem trm_length (l : List UInt8) : (trm l).length ≤ l.length := by
  obtain ⟨a, b, h, _⟩ := trm_split l
  have := congrArg List.length h
  simp only [List.length_append] at this
  omega
theorem trm_tight {m : List UInt8} (h : Tight m) : trm m = m := by
  have := trm_of (a := []) (b := []) (fun _ h => by simp at h) (fun _ h => by simp at h) h
  simpa using this
theorem trm_front {m w : List UInt8} (hm : Tight m) (h0 : m ≠ []) : ∃ rest b, trm (m ++ w) = m ++ rest ∧ w = rest ++ b ∧ Blank b := by
  obtain ⟨a, v, b, rfl, ha, hb, hv, _⟩ := tight_split w
  rcases hm with rfl | ⟨⟨c, r, h1, h2⟩, ⟨r', c', h3, h4⟩⟩
  · exact absurd rfl h0
  rcases hv with rfl | ⟨_, ⟨r2, c2, h5, h6⟩⟩
  · refine ⟨[], a ++ b, ?_, by simp, ha.append hb⟩
    rw [List.append_nil, List.append_nil, trm_right (ha.append hb), trm_tight (.inr ⟨⟨c, r, h1, h2⟩, ⟨r', c', h3, h4⟩⟩)]
  · refine ⟨a ++ v, b, ?_, rfl, hb⟩
    rw [← List.append_assoc, trm_right hb]
    exact trm_tight (.inr ⟨⟨c, r ++ (a ++ v), by rw [h1]; rfl, h2⟩, ⟨m ++ a ++ r2, c2, by rw [h5]; simp, h6⟩⟩)
theorem tl_cons {s : ByteArray} {c : UInt8} {r : List UInt8} (h : bl s = c :: r) : (0 : Int) < (s.size : Int) ∧ bt s 0 = (c.toNat : Int) ∧ bl (s.extract 1 s.size) = r := by
  have hl := bl_len s
  rw [h] at hl
  simp only [List.length_cons] at hl
  refine ⟨by omega, ?_, ?_⟩
  · have := bt_at' (s := s) (pre := []) (c := c) (suf := r) (by simpa using h)
    simpa using this
  · rw [bl_extract, h, ← hl]
    simp
theorem tl_last {s : ByteArray} {c : UInt8} {r : List UInt8} (h : bl s = r ++ [c]) (hs : s.size ≤ maxLen) : (0 : Int) < (s.size : Int) ∧ wrap64 ((s.size : Int) - 1) = (r.length : Int) ∧ bt s (r.length : Int) = (c.toNat : Int) ∧ bl (s.extract 0 r.length) = r := by
  have hl := bl_len s
  rw [h] at hl
  simp only [List.length_append, List.length_cons, List.length_nil] at hl
  rw [maxLen_eq] at hs
  refine ⟨by omega, ?_, bt_at' h, ?_⟩
  · rw [wrap_id (by omega) (by omega)]; omega
  · rw [bl_extract, h]; simp
theorem specBlank (c : UInt8) : spec_l1Blank.f (c.toNat : Int) = some (blank c) := by
  unfold spec_l1Blank.f blank
  have e1 := eq_byte c 32 (by omega)
  have e2 := eq_byte c 9 (by omega)
  by_cases h1 : c = 32
  · subst h1; rfl
  · rw [if_neg (by rw [show ((32 : Int)) = ((32 : Nat) : Int) from rfl, e1]; exact h1)]
    by_cases h2 : c = 9
    · subst h2; rfl
    · have : ¬ (c.toNat : Int) = 9 := by rw [show ((9 : Int)) = ((9 : Nat) : Int) from rfl, e2]; exact h2
      have e : ((c.toNat : Int) == 9) = false := beq_eq_false_iff_ne.mpr this
      rw [e, beq_eq_false_iff_ne.mpr h1, beq_eq_false_iff_ne.mpr h2]; rfl
theorem specTrimR : ∀ (n : Nat) (s : ByteArray) (m b : List UInt8), b.length = n → s.size ≤ maxLen → bl s = m ++ b → Blank b → (m = [] ∨ ∃ r c, m = r ++ [c] ∧ blank c = false) → Ev (fun k => spec_Trim.l1 k s) (ofL m) := by
  intro n
  induction n with
  | zero =>
    intro s m b hb hs h _ hm
    obtain rfl := List.length_eq_zero_iff.1 hb
    rw [List.append_nil] at h
    refine Ev.step (fun k => spec_Trim.l1.eq_2 ..) ?_
    rw [← of_bl h]
    rcases hm with rfl | ⟨r, c, rfl, hc⟩
    · have : s.size = 0 := by rw [← bl_len, h]; rfl
      simp only [if_neg (show ¬ ((s.size : Nat) : Int) > 0 by omega)]
      exact Ev.now _
    · obtain ⟨h1, h2, h3, h4⟩ := tl_last h hs
      have hl := bl_len s
      rw [h] at hl
      simp only [List.length_append, List.length_cons, List.length_nil] at hl
      simp only [h2, h3, specBlank, hc, Option.bind_some, if_pos (show (s.size : Int) > 0 by omega), if_pos (nonneg_at _), if_pos (show ((r.length : Nat) : Int) < (s.size : Int) by omega), Bool.false_eq_true, if_false]
      exact Ev.now _
  | succ n ih =>
    intro s m b hb hs h hbl hm
    have hne : b ≠ [] := fun e => by rw [e] at hb; simp at hb
    obtain ⟨b', c, rfl⟩ : ∃ b' c, b = b' ++ [c] := ⟨b.dropLast, b.getLast hne, (List.dropLast_concat_getLast hne).symm⟩
    rw [← List.append_assoc] at h
    obtain ⟨h1, h2, h3, h4⟩ := tl_last h hs
    have hl := bl_len s
    rw [h] at hl
    simp only [List.length_append, List.length_cons, List.length_nil] at hl hb
    have hs2 : (s.extract 0 (m ++ b').length).size ≤ maxLen := by rw [← bl_len, h4]; simp only [List.length_append]; omega
    refine Ev.step (fun k => spec_Trim.l1.eq_2 ..) ?_
    simp only [h2, h3, specBlank, hbl c (by simp), Option.bind_some, if_pos (show (s.size : Int) > 0 by omega), if_pos (nonneg_at _), if_pos (show (((m ++ b').length : Nat) : Int) < (s.size : Int) by simp only [List.length_append]; omega), if_pos (show (((m ++ b').length : Nat) : Int) ≤ (s.size : Int) by simp only [List.length_append]; omega), if_true, Int.toNat_natCast]
    exact ih _ m b' (by omega) hs2 h4 hbl.left hm
theorem specTrimL : ∀ (a : List UInt8) (s : ByteArray) (m b : List UInt8), s.size ≤ maxLen → bl s = a ++ (m ++ b) → Blank a → Blank b → Tight m → (m = [] → b = []) → Ev (fun k => spec_Trim.l0 k s) (ofL m) := by
  intro a
  induction a with
  | nil =>
    intro s m b hs h _ hb hm h0
    rw [List.nil_append] at h
    have hj : Ev (fun k => spec_Trim.j1 k s) (ofL m) := Ev.step (fun k => spec_Trim.j1.eq_2 ..) (specTrimR _ s m b rfl hs h hb (hm.elim .inl (fun h => .inr h.2)))
    refine Ev.step (fun k => spec_Trim.l0.eq_2 ..) ?_
    rcases hm with rfl | ⟨⟨c, r, rfl, hc⟩, _⟩
    · obtain rfl := h0 rfl
      have : s.size = 0 := by rw [← bl_len, h]; rfl
      simp only [if_neg (show ¬ ((s.size : Nat) : Int) > 0 by omega)]
      exact hj
    · obtain ⟨h1, h2, _⟩ := tl_cons (s := s) (c := c) (r := r ++ b) (by rw [h]; rfl)
      simp only [h2, specBlank, hc, Option.bind_some, if_pos (show (s.size : Int) > 0 by omega), if_pos h1, Bool.false_eq_true, if_false]
      exact hj
  | cons c a ih =>
    intro s m b hs h ha hb hm h0
    obtain ⟨h1, h2, h3⟩ := tl_cons (s := s) (c := c) (r := a ++ (m ++ b)) (by rw [h]; rfl)
    have hl := bl_len s
    rw [h] at hl
    simp only [List.length_append, List.length_cons] at hl
    refine Ev.step (fun k => spec_Trim.l0.eq_2 ..) ?_
    simp only [h2, specBlank, ha c (by simp), Option.bind_some, if_pos (show (s.size : Int) > 0 by omega), if_pos h1, if_true, if_pos (show (1 : Int) ≤ (s.size : Int) by omega)]
    exact ih _ m b (by rw [← bl_len, h3]; simp only [List.length_append]; omega) h3 (fun x hx => ha x (List.mem_cons_of_mem _ hx)) hb hm h0
theorem specTrim {s : ByteArray} (hs : s.size ≤ maxLen) : Ev (fun k => spec_Trim.f k s) (ofL (trm (bl s))) := by
  obtain ⟨a, b, h, ha, hb, hm, h0⟩ := trm_split (bl s)
  exact specTrimL a s _ b hs (by rw [← List.append_assoc]; exact h) ha hb hm h0
theorem implTrim {s : ByteArray} (hs : s.size ≤ maxLen) : impl_Trim.f s = some (ofL (trm (bl s))) := by
  rw [maxLen_eq] at hs
  unfold impl_Trim.f strings_Trim.f
  rw [if_pos ⟨hs, by decide, by decide⟩]
  rfl
end Go.Proofs.YtigoeooelfeopaaDoor.L

/- Lists of marks: what the program reads is what the reference splits. No condition. -/
set_option linter.unusedSimpArgs false
set_option linter.unusedVariables false
namespace Go.Proofs.YtigoeooelfeopaaDoor.L
open Go.RowKit Go.Proofs.YtigoeooelfeopaaDoorW.PrintWords Go.Proofs.YtigoeooelfeopaaDoorW.PrintLast Go.Proofs.YtigoeooelfeopaaDoor.Q
def tog (c : UInt8) (q : Bool) : Bool := if c = 34 then !q else q
def one : Bool → List UInt8 → List UInt8 × Option (List UInt8)
  | _, [] => ([], none)
  | q, c :: r => if c = 44 ∧ q = false then ([], some r) else (c :: (one (tog c q) r).1, (one (tog c q) r).2)
def pcs : Bool → List UInt8 → List (List UInt8)
  | _, [] => [[]]
  | q, c :: r => if c = 44 ∧ q = false then [] :: pcs false r else (c :: (pcs (tog c q) r).headD []) :: (pcs (tog c q) r).tail
theorem pcs_cons (q : Bool) (c : UInt8) (r : List UInt8) : pcs q (c :: r) = if c = 44 ∧ q = false then [] :: pcs false r else (c :: (pcs (tog c q) r).headD []) :: (pcs (tog c q) r).tail := rfl
theorem one_cons (q : Bool) (c : UInt8) (r : List UInt8) : one q (c :: r) = if c = 44 ∧ q = false then ([], some r) else (c :: (one (tog c q) r).1, (one (tog c q) r).2) := rfl
theorem pcs_one : ∀ (s : List UInt8) (q : Bool), pcs q s = (one q s).1 :: (match (one q s).2 with | none => [] | some r => pcs false r) := by
  intro s
  induction s with
  | nil => intro q; rfl
  | cons c s ih =>
    intro q
    rw [pcs_cons, one_cons]
    by_cases h : c = 44 ∧ q = false
    · rw [if_pos h, if_pos h]
    · rw [if_neg h, if_neg h, ih]; rfl
theorem one_back : ∀ (s : List UInt8) (q : Bool), s = (one q s).1 ++ (match (one q s).2 with | none => [] | some r => 44 :: r) := by
  intro s
  induction s with
  | nil => intro q; rfl
  | cons c s ih =>
    intro q
    rw [one_cons]
    by_cases h : c = 44 ∧ q = false
    · rw [if_pos h, h.1]; rfl
    · rw [if_neg h, List.cons_append, ← ih]
theorem one_pass : ∀ (a s : List UInt8), (∀ c ∈ a, c ≠ 44 ∧ c ≠ 34) → one false (a ++ s) = (a ++ (one false s).1, (one false s).2) := by
  intro a
  induction a with
  | nil => intro s _; rfl
  | cons c a ih =>
    intro s h
    have h1 := h c (by simp)
    have e : tog c false = false := by simp [tog, h1.2]
    rw [List.cons_append, one_cons, if_neg (fun x => h1.1 x.1), e, ih s (fun x hx => h x (List.mem_cons_of_mem _ hx))]
    rfl
theorem one_in : ∀ (body s : List UInt8), 34 ∉ body → one true (body ++ 34 :: s) = (body ++ 34 :: (one false s).1, (one false s).2) := by
  intro body
  induction body with
  | nil => intro s _; rw [List.nil_append, one_cons, if_neg (by simp)]; rfl
  | cons c body ih =>
    intro s h
    have h1 : c ≠ 34 := fun e => h (by simp [e])
    have e : tog c true = true := by simp [tog, h1]
    rw [List.cons_append, one_cons, if_neg (by simp), e, ih s (fun hm => h (List.mem_cons_of_mem _ hm))]
    rfl
theorem blank_ne {c : UInt8} (h : blank c = true) : c ≠ 44 ∧ c ≠ 34 := by
  constructor <;> rintro rfl <;> revert h <;> decide
theorem one_mark {a body s : List UInt8} (ha : Blank a) (hb : 34 ∉ body) : one false (a ++ (34 :: (body ++ 34 :: s))) = (a ++ (34 :: (body ++ 34 :: (one false s).1)), (one false s).2) := by
  rw [one_pass _ _ (fun c hc => blank_ne (ha c hc))]
  have : one false (34 :: (body ++ 34 :: s)) = (34 :: (body ++ 34 :: (one false s).1), (one false s).2) := by
    rw [one_cons, if_neg (by simp), show tog 34 false = true from rfl, one_in _ _ hb]
  rw [this]
def IsTag (t body : List UInt8) : Prop := t = 34 :: (body ++ [34]) ∧ 34 ∉ body ∧ body.length ≤ 10 ∧ plainL body = true
noncomputable def isTag (t : List UInt8) : Bool := @decide (∃ body, IsTag t body) (Classical.propDecidable _)
theorem isTag_iff {t : List UInt8} : isTag t = true ↔ ∃ body, IsTag t body := by unfold isTag; exact @decide_eq_true_iff _ (Classical.propDecidable _)
theorem tight_tag (body : List UInt8) : Tight (34 :: (body ++ [34])) := .inr ⟨⟨34, body ++ [34], rfl, rfl⟩, ⟨34 :: body, 34, rfl, rfl⟩⟩
def AtTag (x body rest : List UInt8) (least : Nat) : Prop := x = 34 :: (body ++ 34 :: rest) ∧ 34 ∉ body ∧ least ≤ body.length ∧ body.length ≤ 10 ∧ plainL body = true
theorem first_eq {b b' r r' : List UInt8} (h : b ++ 34 :: r = b' ++ 34 :: r') (hb : (34 : UInt8) ∉ b) (hb' : (34 : UInt8) ∉ b') : b = b' ∧ r = r' := by
  have e1 := index_hit (u := b ++ 34 :: r) rfl hb
  have e2 := index_hit (u := b ++ 34 :: r) h hb'
  have hl : b.length = b'.length := by omega
  obtain ⟨h1, h2⟩ := List.append_inj h hl
  exact ⟨h1, by injection h2⟩
theorem no_tag {body y : List UInt8} (hb : (34 : UInt8) ∉ body) (hy : y ≠ []) : isTag (34 :: (body ++ 34 :: y)) = false := by
  cases h : isTag (34 :: (body ++ 34 :: y)) with
  | false => rfl
  | true =>
    obtain ⟨b', h1, h2, _, _⟩ := isTag_iff.1 h
    injection h1 with _ h1
    exact absurd (first_eq h1 hb h2).2 hy
noncomputable def tagsOut (out : List ByteArray) (ps : List (List UInt8)) : List ByteArray × Bool :=
  if (ps.all fun p => isTag (trm p)) = true ∧ out.length + ps.length ≤ 5 then (out ++ ps.map (fun p => ofL (trm p)), true) else ([], false)
theorem implTagAt_ok {s : ByteArray} {body rest : List UInt8} {least : Nat} (hs : s.size ≤ 1048576) (h : AtTag (bl s) body rest least) : Ev (fun k => impl_tagAt.f k s (least : Int)) (ofL (34 :: (body ++ [34])), ofL rest, true) := by
  obtain ⟨h1, h2, h3, h4, h5⟩ := h
  have hl := bl_len s
  rw [h1] at hl
  simp only [List.length_cons, List.length_append] at hl
  unfold impl_tagAt.f strings_CutPrefix.f
  have e1 : (⟨#[34]⟩ : ByteArray).data.toList = [34] := rfl
  have e2 : s.data.toList = 34 :: (body ++ 34 :: rest) := h1
  have e3 : (ofL (body ++ 34 :: rest)).data.toList = body ++ 34 :: rest := bl_ofL _
  simp only [e1, e2, (pre_cons 34 (body ++ 34 :: rest)).1, (pre_cons 34 (body ++ 34 :: rest)).2, Option.bind_some, strings_Cut.f, e3, cut_hit rfl h2, size_ofL, List.length_append, List.length_cons, if_pos (show body.length + (rest.length + 1) < 4294967281 by omega), if_true, implIn]
  rw [show decide ((least : Int) ≤ ((body.length : Nat) : Int) ∧ ((body.length : Nat) : Int) ≤ 10) = true from decide_eq_true ⟨by omega, by omega⟩]
  simp only [if_true]
  have hp := implPlain (s := ofL body) (by rw [size_ofL, maxLen_eq]; omega)
  rw [bl_ofL, h5] at hp
  refine Ev.bind hp ?_
  have hw : wrap64 (((body.length : Nat) : Int) + 2) = ((body.length + 2 : Nat) : Int) := by rw [wrap_id (by omega) (by omega)]; omega
  simp only [if_true, hw, if_pos (nonneg_at _), if_pos (show ((body.length + 2 : Nat) : Int) ≤ (s.size : Int) by omega), Int.toNat_natCast]
  have hx : s.extract 0 (body.length + 2) = ofL (34 :: (body ++ [34])) := by
    apply bl_inj
    rw [bl_extract, h1, bl_ofL]
    have : (34 :: (body ++ 34 :: rest)) = (34 :: (body ++ [34])) ++ rest := by simp
    rw [this, List.take_append_of_le_length (by simp), List.take_of_length_le (by simp)]
    rfl
  rw [hx]
  exact Ev.now _
theorem implTagAt_no {s : ByteArray} {least : Nat} (hs : s.size ≤ 1048576) (h : ∀ body rest, ¬ AtTag (bl s) body rest least) : Ev (fun k => impl_tagAt.f k s (least : Int)) ((⟨#[]⟩ : ByteArray), (⟨#[]⟩ : ByteArray), false) := by
  unfold impl_tagAt.f strings_CutPrefix.f
  have e1 : (⟨#[34]⟩ : ByteArray).data.toList = [34] := rfl
  by_cases c0 : ∃ u, bl s = 34 :: u
  · obtain ⟨u, hu⟩ := c0
    have e2 : s.data.toList = 34 :: u := hu
    have hl := bl_len s
    rw [hu] at hl
    simp only [List.length_cons] at hl
    have e3 : (ofL u).data.toList = u := bl_ofL _
    simp only [e1, e2, (pre_cons 34 u).1, (pre_cons 34 u).2, Option.bind_some, strings_Cut.f, e3, size_ofL, if_pos (show u.length < 4294967281 by omega), if_true]
    by_cases c1 : (34 : UInt8) ∈ u
    · obtain ⟨body, rest, h1, h2⟩ := first_of c1
      simp only [cut_hit h1 h2, if_true, size_ofL, implIn, Option.bind_some]
      have hbl : body.length ≤ u.length := by rw [h1]; simp
      by_cases c2 : (least : Int) ≤ ((body.length : Nat) : Int) ∧ ((body.length : Nat) : Int) ≤ 10
      · simp only [c2, and_self, decide_true, if_true]
        have hp := implPlain (s := ofL body) (by rw [size_ofL, maxLen_eq]; omega)
        rw [bl_ofL] at hp
        refine Ev.bind hp ?_
        have c3 : plainL body = false := by
          cases c3 : plainL body with
          | false => rfl
          | true => exact absurd ⟨by rw [hu, h1], h2, by omega, by omega, c3⟩ (h body rest)
        simp only [c3, Bool.false_eq_true, if_false]
        exact Ev.now _
      · simp only [c2, decide_false, Bool.false_eq_true, if_false]
        exact Ev.now _
    · simp only [cut_miss c1, Bool.false_eq_true, if_false]
      exact Ev.now _
  · have e4 := pre_not (u := bl s) (c := 34) (fun v e => c0 ⟨v, e⟩)
    have e5 : Lib.hasPrefix s.data.toList [34] = false := e4.1
    have hl := bl_len s
    have e6 : (Lib.trimPrefix s.data.toList [34]) = bl s := e4.2
    simp only [e1, e5, e6, Option.bind_some, strings_Cut.f, size_ofL, if_pos (show (bl s).length < 4294967281 by omega), Bool.false_eq_true, if_false]
    exact Ev.now _
end Go.Proofs.YtigoeooelfeopaaDoor.L

/- Lists of marks: the reference's split and the program's reading come to the same. No condition. -/
set_option linter.unusedSimpArgs false
set_option linter.unusedVariables false
namespace Go.Proofs.YtigoeooelfeopaaDoor.L
open Go.RowKit Go.Proofs.YtigoeooelfeopaaDoorW.PrintWords Go.Proofs.YtigoeooelfeopaaDoorW.PrintLast Go.Proofs.YtigoeooelfeopaaDoor.Q
theorem isTag_ends (c d : UInt8) (mid : List UInt8) : isTag (c :: (mid ++ [d])) = (decide (c = 34) && (decide (d = 34) && (decide (mid.length ≤ 10) && (plainL mid && decide (34 ∉ mid))))) := by
  cases h : isTag (c :: (mid ++ [d])) with
  | true =>
    obtain ⟨body, h1, h2, h3, h4⟩ := isTag_iff.1 h
    injection h1 with e1 h1
    obtain ⟨e2, e3⟩ := List.append_inj' h1 rfl
    injection e3 with e3 _
    subst e1; subst e2; subst e3
    simp [h2, h3, h4]
  | false =>
    symm
    apply Bool.eq_false_iff.2
    intro h2
    simp only [Bool.and_eq_true, decide_eq_true_eq] at h2
    obtain ⟨e1, e2, e3, e4, e5⟩ := h2
    subst e1; subst e2
    have := isTag_iff.2 ⟨mid, rfl, e5, e3, e4⟩
    rw [h] at this
    cases this
theorem isTag_short {t : List UInt8} (h : t.length < 2) : isTag t = false := by
  cases e : isTag t with
  | false => rfl
  | true =>
    obtain ⟨body, h1, _⟩ := isTag_iff.1 e
    rw [h1] at h
    simp at h
    omega
theorem cut_mid (done cur suf : List UInt8) : ((done ++ (cur ++ suf)).take (done ++ cur).length).drop done.length = cur := by
  rw [← List.append_assoc, List.take_left, List.drop_left]
theorem eq34 (c : UInt8) : ((c.toNat : Int) = 34) = (c = 34) := eq_byte c 34 (by omega)
theorem eq44 (c : UInt8) : ((c.toNat : Int) = 44) = (c = 44) := eq_byte c 44 (by omega)
theorem tagLoop {s : ByteArray} (hs : s.size ≤ maxLen) : ∀ (suf pre : List UInt8) (d : UInt8), bl s = (34 :: pre) ++ (suf ++ [d]) → Ev (fun k => spec_l9Tag.l0 k s ((34 :: pre : List UInt8).length : Int)) (decide (34 ∉ suf)) := by
  intro suf
  induction suf with
  | nil =>
    intro pre d h
    obtain ⟨_, h2, _, _⟩ := tl_last (s := s) (r := 34 :: pre) (c := d) (by simpa using h) hs
    refine Ev.step (fun k => spec_l9Tag.l0.eq_2 ..) ?_
    simp only [h2, if_neg (Int.lt_irrefl _)]
    exact Ev.now _
  | cons c suf ih =>
    intro pre d h
    have h' : bl s = (34 :: pre) ++ c :: (suf ++ [d]) := by rw [h]; rfl
    obtain ⟨_, h2, _, _⟩ := tl_last (s := s) (r := 34 :: pre ++ c :: suf) (c := d) (by rw [h']; simp) hs
    refine Ev.step (fun k => spec_l9Tag.l0.eq_2 ..) ?_
    simp only [h2, if_pos (show (((34 :: pre : List UInt8).length : Nat) : Int) < (((34 :: pre ++ c :: suf : List UInt8).length : Nat) : Int) by simp only [List.length_append, List.length_cons]; omega), if_pos (nonneg_at _), if_pos (blt_at h'), bt_at' h', eq34, bnext_at h' hs]
    by_cases e : c = 34
    · simp only [e, if_true, List.mem_cons, true_or, not_true_eq_false, decide_false]
      exact Ev.now _
    · have e' : ¬ (34 : UInt8) = c := fun x => e x.symm
      simp only [e, if_false, List.mem_cons, e', false_or]
      exact ih (pre ++ [c]) d (by rw [h']; simp)
theorem specTag {s : ByteArray} (hs : s.size ≤ 1048576) : Ev (fun k => spec_l9Tag.f k s) (isTag (bl s)) := by
  have hm : s.size ≤ maxLen := by rw [maxLen_eq]; omega
  have hl := bl_len s
  have hj : Ev (fun k => spec_l9Tag.j0 k s true) false := by
    refine Ev.step (fun k => spec_l9Tag.j0.eq_2 ..) ?_
    simp only [if_true]
    exact Ev.now _
  unfold spec_l9Tag.f
  by_cases c0 : (s.size : Int) < 2
  · simp only [if_pos c0]
    rw [isTag_short (by omega)]
    exact hj
  · simp only [if_neg c0]
    obtain ⟨c, r, h1⟩ : ∃ c r, bl s = c :: r := by
      cases h : bl s with
      | nil => rw [h] at hl; simp at hl; omega
      | cons c r => exact ⟨c, r, rfl⟩
    have hr : r ≠ [] := fun e => by rw [h1, e] at hl; simp at hl; omega
    obtain ⟨mid, d, rfl⟩ : ∃ mid d, r = mid ++ [d] := ⟨r.dropLast, r.getLast hr, (List.dropLast_concat_getLast hr).symm⟩
    obtain ⟨g1, g2, _⟩ := tl_cons h1
    obtain ⟨_, g3, g4, _⟩ := tl_last (s := s) (r := c :: mid) (c := d) (by rw [h1]; rfl) hm
    rw [h1] at hl
    simp only [List.length_cons, List.length_append, List.length_nil] at hl
    rw [h1, isTag_ends]
    simp only [if_pos g1, g2, g3, g4, eq34, if_pos (nonneg_at _), if_pos (show (((c :: mid : List UInt8).length : Nat) : Int) < (s.size : Int) by simp only [List.length_cons]; omega)]
    by_cases c1 : c = 34
    · simp only [if_pos c1]
      by_cases c2 : d = 34
      · simp only [if_pos c2]
        by_cases c3 : (s.size : Int) > 12
        · simp only [if_pos c3]
          rw [show decide (mid.length ≤ 10) = false from decide_eq_false (by omega)]
          simp only [Bool.false_and, Bool.and_false]
          exact hj
        · simp only [if_neg c3]
          refine Ev.bind (specPlain hm) ?_
          have hp : plainL (bl s) = plainL mid := by
            rw [h1, c1, c2]
            simp only [plainL, List.all_cons, List.all_append, List.all_nil, Bool.and_true]
            rw [show inB 32 126 34 = true by decide]
            simp
          rw [hp, decide_eq_true c1, decide_eq_true c2, show decide (mid.length ≤ 10) = true from decide_eq_true (by omega)]
          simp only [Bool.true_and]
          cases hq : plainL mid with
          | false => simp only [Bool.not_false, Bool.false_and]; exact hj
          | true =>
            simp only [Bool.not_true, Bool.true_and]
            refine Ev.step (fun k => spec_l9Tag.j0.eq_2 ..) ?_
            simp only [Bool.false_eq_true, if_false]
            have := tagLoop (s := s) hm mid [] d (by rw [h1, c1]; rfl)
            simpa using this
      · simp only [if_neg c2]
        rw [decide_eq_false c2]
        simp only [Bool.false_and, Bool.and_false]
        exact hj
    · simp only [if_neg c1]
      rw [decide_eq_false c1]
      simp only [Bool.false_and]
      exact hj
theorem splitLoop {s : ByteArray} (hs : s.size ≤ 1048576) : ∀ (suf cur done : List UInt8) (out : List ByteArray) (q : Bool), bl s = done ++ (cur ++ suf) → out.length ≤ done.length →
    Ev (fun k => spec_l9Split.l0 k s out (done.length : Int) q ((done ++ cur).length : Int)) (out ++ ((cur ++ (pcs q suf).headD []) :: (pcs q suf).tail).map (fun p => ofL (trm p))) := by
  have hm : s.size ≤ maxLen := by rw [maxLen_eq]; omega
  intro suf
  induction suf with
  | nil =>
    intro cur done out q h ho
    have hl := bl_len s
    rw [h] at hl
    simp only [List.append_nil, List.length_append] at hl
    have hx : bl (s.extract done.length (done ++ cur).length) = cur := by rw [bl_extract, h, cut_mid]
    have ht := specTrim (s := s.extract done.length (done ++ cur).length) (by rw [← bl_len, hx, maxLen_eq]; omega)
    rw [hx] at ht
    refine Ev.step (fun k => spec_l9Split.l0.eq_2 ..) ?_
    simp only [if_pos (show (((done ++ cur).length : Nat) : Int) ≤ (s.size : Int) by simp only [List.length_append]; omega), if_pos (show (((done ++ cur).length : Nat) : Int) = (s.size : Int) by simp only [List.length_append]; omega)]
    refine Ev.step (fun k => spec_l9Split.j1.eq_2 ..) ?_
    simp only [if_true, if_pos (nonneg_at _), if_pos (show ((done.length : Nat) : Int) ≤ (((done ++ cur).length : Nat) : Int) by simp only [List.length_append]; omega), if_pos (show (((done ++ cur).length : Nat) : Int) ≤ (s.size : Int) by simp only [List.length_append]; omega), Int.toNat_natCast]
    refine Ev.bind ht ?_
    simp only [if_pos (show out.length < 8796093022208 by omega)]
    refine Ev.step (fun k => spec_l9Split.l0.eq_2 ..) ?_
    have hw : wrap64 ((((done ++ cur).length : Nat) : Int) + 1) = (((done ++ cur).length : Nat) : Int) + 1 := by simp only [List.length_append]; exact wrap_id (by omega) (by omega)
    simp only [hw, if_neg (show ¬ (((done ++ cur).length : Nat) : Int) + 1 ≤ (s.size : Int) by simp only [List.length_append]; omega)]
    simp only [pcs, List.headD_cons, List.tail_cons, List.append_nil, List.map_cons, List.map_nil]
    exact Ev.now _
  | cons c suf ih =>
    intro cur done out q h ho
    have hl := bl_len s
    rw [h] at hl
    simp only [List.length_append, List.length_cons] at hl
    have h' : bl s = (done ++ cur) ++ c :: suf := by rw [h]; simp
    have hlt := blt_at h'
    refine Ev.step (fun k => spec_l9Split.l0.eq_2 ..) ?_
    simp only [if_pos (show (((done ++ cur).length : Nat) : Int) ≤ (s.size : Int) by omega), if_neg (show ¬ (((done ++ cur).length : Nat) : Int) = (s.size : Int) by omega), if_pos (nonneg_at _), if_pos hlt, bt_at' h', eq44]
    have go : c ≠ 44 ∨ q = true → Ev (fun k => spec_l9Split.j1 k s out (done.length : Int) q ((done ++ cur).length : Int) false) (out ++ ((cur ++ (pcs q (c :: suf)).headD []) :: (pcs q (c :: suf)).tail).map (fun p => ofL (trm p))) := by
      intro hc
      refine Ev.step (fun k => spec_l9Split.j1.eq_2 ..) ?_
      simp only [Bool.false_eq_true, if_false, if_pos (nonneg_at _), if_pos hlt, bt_at' h', eq34, bnext_at h' hm]
      have e : pcs q (c :: suf) = (c :: (pcs (tog c q) suf).headD []) :: (pcs (tog c q) suf).tail := by
        rw [pcs_cons, if_neg]
        rintro ⟨e1, e2⟩
        rcases hc with hc | hc
        · exact hc e1
        · rw [e2] at hc; cases hc
      rw [e]
      have i1 := ih (cur ++ [c]) done out (tog c q) (by rw [h]; simp) ho
      simp only [List.headD_cons, List.tail_cons, List.append_assoc, List.singleton_append] at i1 ⊢
      by_cases c3 : c = 34
      · simp only [if_pos c3]
        simp only [tog, if_pos c3] at i1 ⊢
        exact i1
      · simp only [if_neg c3]
        simp only [tog, if_neg c3] at i1 ⊢
        exact i1
    by_cases c1 : c = 44
    · simp only [if_pos c1]
      cases q with
      | true => exact go (.inr rfl)
      | false =>
        have hx : bl (s.extract done.length (done ++ cur).length) = cur := by rw [bl_extract, h, cut_mid]
        have ht := specTrim (s := s.extract done.length (done ++ cur).length) (by rw [← bl_len, hx, maxLen_eq]; omega)
        rw [hx] at ht
        simp only [Bool.not_false]
        refine Ev.step (fun k => spec_l9Split.j1.eq_2 ..) ?_
        simp only [if_true, if_pos (nonneg_at _), if_pos (show ((done.length : Nat) : Int) ≤ (((done ++ cur).length : Nat) : Int) by simp only [List.length_append]; omega), if_pos (show (((done ++ cur).length : Nat) : Int) ≤ (s.size : Int) by omega), Int.toNat_natCast]
        refine Ev.bind ht ?_
        simp only [if_pos (show out.length < 8796093022208 by omega), bnext_at h' hm]
        have i1 := ih [] (done ++ cur ++ [c]) (out ++ [ofL (trm cur)]) false (by rw [h']; simp) (by simp only [List.length_append, List.length_cons, List.length_nil]; omega)
        rw [pcs_cons, if_pos ⟨c1, rfl⟩]
        simp only [List.append_nil, List.nil_append, List.headD_cons, List.tail_cons, List.map_cons, List.append_assoc, List.singleton_append] at i1 ⊢
        have e2 : (pcs false suf).headD [] :: (pcs false suf).tail = pcs false suf := by rw [pcs_one]; rfl
        rw [← List.map_cons (f := fun p => ofL (trm p)) (a := (pcs false suf).headD []), e2] at i1
        exact i1
    · simp only [if_neg c1]
      exact go (.inl c1)
theorem specSplit {s : ByteArray} (hs : s.size ≤ 1048576) : Ev (fun k => spec_l9Split.f k s) ((pcs false (bl s)).map (fun p => ofL (trm p))) := by
  have := splitLoop hs (bl s) [] [] [] false (by simp) (Nat.le_refl _)
  have e2 : (pcs false (bl s)).headD [] :: (pcs false (bl s)).tail = pcs false (bl s) := by rw [pcs_one]; rfl
  simp only [List.nil_append, e2] at this
  unfold spec_l9Split.f
  simpa using this
theorem pcs_length : ∀ (s : List UInt8) (q : Bool), (pcs q s).length ≤ s.length + 1 := by
  intro s
  induction s with
  | nil => intro q; exact Nat.le_refl _
  | cons c s ih =>
    intro q
    rw [pcs_cons]
    split
    · have := ih false; simp only [List.length_cons]; omega
    · have := ih (tog c q); simp only [List.length_cons, List.length_tail]; omega
theorem pcs_sizes : ∀ (s : List UInt8) (q : Bool) (p : List UInt8), p ∈ pcs q s → p.length ≤ s.length := by
  intro s
  induction s with
  | nil => intro q p hp; simp only [pcs, List.mem_singleton] at hp; rw [hp]; exact Nat.le_refl _
  | cons c s ih =>
    intro q p hp
    rw [pcs_cons] at hp
    split at hp
    · rcases List.mem_cons.1 hp with rfl | hp
      · simp
      · have := ih _ _ hp; simp only [List.length_cons]; omega
    · have e2 : ∀ q, pcs q s = (pcs q s).headD [] :: (pcs q s).tail := fun q => by rw [pcs_one]; rfl
      rcases List.mem_cons.1 hp with rfl | hp
      · have := ih (tog c q) ((pcs (tog c q) s).headD []) (by rw [e2]; exact List.mem_cons_self); simp only [List.length_cons]; omega
      · have := ih (tog c q) p (by rw [e2]; exact List.mem_cons_of_mem _ hp); simp only [List.length_cons]; omega
theorem specTags {s : ByteArray} (hs : s.size ≤ 1048576) : Ev (fun k => spec_ParseTags.f k s) (if bl s = [42] then ([(⟨#[42]⟩ : ByteArray)], true) else tagsOut [] (pcs false (bl s))) := by
  unfold spec_ParseTags.f
  simp only [tl_eq]
  by_cases c0 : bl s = [42]
  · simp only [if_pos c0]; exact Ev.now _
  simp only [if_neg c0]
  refine Ev.bind (specSplit hs) ?_
  have hl := bl_len s
  have hp := pcs_length (bl s) false
  have key : ∀ (suf pre : List (List UInt8)), pcs false (bl s) = pre ++ suf → (pre.all fun p => isTag (trm p)) = true → Ev (fun k => spec_ParseTags.l0 k ((pcs false (bl s)).map (fun p => ofL (trm p))) (pre.length : Int)) (tagsOut [] (pcs false (bl s))) := by
    intro suf
    induction suf with
    | nil =>
      intro pre h ha
      rw [List.append_nil] at h
      refine Ev.step (fun k => spec_ParseTags.l0.eq_2 ..) ?_
      simp only [List.length_map, if_neg (show ¬ ((pre.length : Nat) : Int) < ((pcs false (bl s)).length : Int) by rw [h]; omega)]
      unfold tagsOut
      by_cases c1 : ((pcs false (bl s)).length : Int) > 5
      · simp only [if_pos c1]
        rw [if_neg (by rintro ⟨_, h2⟩; simp only [List.length_nil] at h2; omega)]
        exact Ev.now _
      · simp only [if_neg c1]
        rw [if_pos ⟨by rw [h]; exact ha, by simp only [List.length_nil]; omega⟩]
        exact Ev.now _
    | cons p suf ih =>
      intro pre h ha
      have h2 : (pcs false (bl s)).map (fun p => ofL (trm p)) = pre.map (fun p => ofL (trm p)) ++ ofL (trm p) :: suf.map (fun p => ofL (trm p)) := by rw [h]; simp
      have hl2 : ((pcs false (bl s)).map (fun p => ofL (trm p))).length ≤ maxLen := by rw [List.length_map, maxLen_eq]; omega
      have e1 : ((pre.map (fun p => ofL (trm p))).length : Nat) = pre.length := List.length_map _
      have r1 := rd_at ByteArray.empty h2
      have r2 := lt_at h2
      have r3 := next_at h2 hl2
      rw [e1] at r1 r2 r3
      refine Ev.step (fun k => spec_ParseTags.l0.eq_2 ..) ?_
      simp only [if_pos r2, if_pos (nonneg_at _), r1]
      have hz : p.length ≤ (bl s).length := pcs_sizes _ _ _ (by rw [h]; simp)
      have hz2 := trm_length p
      have ht := specTag (s := ofL (trm p)) (by rw [size_ofL]; omega)
      rw [bl_ofL] at ht
      refine Ev.bind ht ?_
      cases hq : isTag (trm p) with
      | false =>
        simp only [Bool.false_eq_true, if_false]
        unfold tagsOut
        rw [if_neg (by rintro ⟨h3, _⟩; rw [h] at h3; simp [hq] at h3)]
        exact Ev.now _
      | true =>
        simp only [if_true, r3]
        have := ih (pre ++ [p]) (by rw [h]; simp) (by simp [ha, hq])
        simpa using this
  have := key _ [] rfl rfl
  simpa using this
theorem implSame {r b : List UInt8} (hb : Blank b) (hl : (r ++ b).length ≤ 1048576) (out : List ByteArray) (k : Nat) : impl_ParseTags.l0 k (ofL r) out = impl_ParseTags.l0 k (ofL (r ++ b)) out := by
  rw [List.length_append] at hl
  cases k with
  | zero => rw [impl_ParseTags.l0.eq_1, impl_ParseTags.l0.eq_1]
  | succ k =>
    rw [impl_ParseTags.l0.eq_2, impl_ParseTags.l0.eq_2, implTrim (s := ofL r) (by rw [size_ofL, maxLen_eq]; omega), implTrim (s := ofL (r ++ b)) (by rw [size_ofL, maxLen_eq, List.length_append]; omega), bl_ofL, bl_ofL, trm_right hb]
theorem implLoop : ∀ (n : Nat) (x : List UInt8) (out : List ByteArray), x.length ≤ n → x.length ≤ 1048576 → Ev (fun k => impl_ParseTags.l0 k (ofL x) out) (tagsOut out (pcs false x)) := by
  intro n
  induction n with
  | zero =>
    intro x out hn hx
    obtain rfl := List.length_eq_zero_iff.1 (Nat.le_zero.1 hn)
    refine Ev.step (fun k => impl_ParseTags.l0.eq_2 ..) ?_
    simp only [implTrim (s := ofL []) (by rw [size_ofL, maxLen_eq]; simp), bl_ofL, trm_blank (l := []) (fun _ h => by simp at h), Option.bind_some]
    have hno := implTagAt_no (s := ofL []) (least := 0) (by rw [size_ofL]; simp) (fun body rest h => by have := h.1; rw [bl_ofL] at this; cases this)
    refine Ev.bind hno ?_
    simp only [Bool.false_eq_true, if_false]
    refine Ev.step (fun k => impl_ParseTags.j1.eq_2 ..) ?_
    simp only [if_true]
    have : tagsOut out (pcs false []) = ([], false) := by
      unfold tagsOut
      rw [if_neg]
      rintro ⟨h1, _⟩
      simp only [pcs, List.all_cons, List.all_nil, Bool.and_true, trm_blank (l := []) (fun _ h => by simp at h)] at h1
      rw [isTag_short (by simp)] at h1
      cases h1
    rw [this]
    exact Ev.now _
  | succ n ih =>
    intro x out hn hx
    obtain ⟨a, b, hxs, ha, hb, hti, _⟩ := trm_split x
    have hlt := trm_length x
    refine Ev.step (fun k => impl_ParseTags.l0.eq_2 ..) ?_
    simp only [implTrim (s := ofL x) (by rw [size_ofL, maxLen_eq]; omega), bl_ofL, Option.bind_some]
    by_cases c0 : ∃ body rest, AtTag (trm x) body rest 0
    · obtain ⟨body, rest, hat⟩ := c0
      have hok := implTagAt_ok (s := ofL (trm x)) (least := 0) (by rw [size_ofL]; omega) (by rw [bl_ofL]; exact hat)
      obtain ⟨h1, h2, _, h4, h5⟩ := hat
      refine Ev.bind hok ?_
      simp only [if_true]
      have hx2 : x = a ++ (34 :: (body ++ 34 :: (rest ++ b))) := by
        have hxs' := hxs
        rw [h1] at hxs'
        rw [hxs']
        simp
      have hlen := congrArg List.length hx2
      simp only [List.length_append, List.length_cons] at hlen
      have hone := one_mark (s := rest ++ b) ha h2
      rw [← hx2] at hone
      have hpcs := pcs_one x false
      rw [hone] at hpcs
      have hist : isTag (34 :: (body ++ [34])) = true := isTag_iff.2 ⟨body, rfl, h2, h4, h5⟩
      refine Ev.step (fun k => impl_ParseTags.j1.eq_2 ..) ?_
      by_cases c5 : (out.length : Int) ≥ 5
      · simp only [c5, decide_true, if_true]
        have : tagsOut out (pcs false x) = ([], false) := by
          unfold tagsOut
          rw [if_neg]
          rintro ⟨_, h6⟩
          rw [hpcs, List.length_cons] at h6
          omega
        rw [this]
        exact Ev.now _
      · simp only [c5, decide_false, Bool.false_eq_true, if_false, if_pos (show out.length < 8796093022208 by omega), Option.bind_some]
        simp only [implTrim (s := ofL rest) (by rw [size_ofL, maxLen_eq]; omega), bl_ofL, Option.bind_some, tl_eq]
        obtain ⟨a', b', hr, ha', hb', hti', _⟩ := trm_split rest
        cases ht : trm rest with
        | nil =>
          simp only [if_true]
          have hbz : Blank (rest ++ b) := by
            rw [ht, List.append_nil] at hr
            rw [hr]
            exact (ha'.append hb').append hb
          have hz : one false (rest ++ b) = (rest ++ b, none) := by
            have := one_pass (rest ++ b) [] (fun c hc => blank_ne (hbz c hc))
            rw [List.append_nil] at this
            rw [this]
            show ((rest ++ b) ++ [], none) = _
            rw [List.append_nil]
          rw [hz] at hpcs
          have htp : trm (a ++ (34 :: (body ++ 34 :: (rest ++ b)))) = 34 :: (body ++ [34]) := by
            have := trm_of ha hbz (tight_tag body)
            simpa using this
          have : tagsOut out (pcs false x) = (out ++ [ofL (34 :: (body ++ [34]))], true) := by
            unfold tagsOut
            rw [hpcs]
            simp only [List.all_cons, List.all_nil, Bool.and_true, htp, hist, List.length_cons, List.length_nil, List.map_cons, List.map_nil]
            rw [if_pos ⟨trivial, by omega⟩]
          rw [this]
          exact Ev.now _
        | cons c r =>
          have hcb : blank c = false := by
            rcases hti' with h | ⟨⟨c', r', h, hc'⟩, _⟩
            · rw [ht] at h; cases h
            · rw [ht] at h; injection h with h6 h7; rw [h6]; exact hc'
          obtain ⟨g1, g2, g3⟩ := tl_cons (s := ofL (c :: r)) (c := c) (r := r) (bl_ofL _)
          simp only [List.cons_ne_nil, if_false, if_pos g1, g2, eq44]
          rw [ht] at hr
          have hrl := congrArg List.length hr
          simp only [List.length_append, List.length_cons] at hrl
          by_cases c1 : c = 44
          · subst c1
            simp only [if_true, if_pos (show (1 : Int) ≤ ((ofL ((44 : UInt8) :: r)).size : Int) by rw [size_ofL]; simp only [List.length_cons]; omega)]
            rw [of_bl g3]
            have hz : one false (rest ++ b) = (a', some (r ++ (b' ++ b))) := by
              have e1 : rest ++ b = a' ++ (44 :: (r ++ (b' ++ b))) := by
                have : rest ++ b = (a' ++ 44 :: r ++ b') ++ b := by rw [← hr]
                rw [this]; simp
              rw [e1, one_pass _ _ (fun c hc => blank_ne (ha' c hc)), one_cons, if_pos ⟨rfl, rfl⟩]
              show (a' ++ [], _) = _
              rw [List.append_nil]
            rw [hz] at hpcs
            have htp : trm (a ++ (34 :: (body ++ 34 :: a'))) = 34 :: (body ++ [34]) := by
              have := trm_of ha ha' (tight_tag body)
              simpa using this
            have hi := ih (r ++ (b' ++ b)) (out ++ [ofL (34 :: (body ++ [34]))]) (by simp only [List.length_append]; omega) (by simp only [List.length_append]; omega)
            have : tagsOut out (pcs false x) = tagsOut (out ++ [ofL (34 :: (body ++ [34]))]) (pcs false (r ++ (b' ++ b))) := by
              rw [hpcs]
              unfold tagsOut
              simp only [List.all_cons, htp, hist, Bool.true_and, List.length_cons, List.length_append, List.length_nil, List.map_cons, List.append_assoc, List.singleton_append]
              by_cases c9 : ((pcs false (r ++ (b' ++ b))).all fun p => isTag (trm p)) = true ∧ out.length + ((pcs false (r ++ (b' ++ b))).length + 1) ≤ 5
              · rw [if_pos c9, if_pos ⟨c9.1, by omega⟩]
              · rw [if_neg c9, if_neg (fun h => c9 ⟨h.1, by omega⟩)]
            rw [this]
            refine Ev.congr (fun k => ?_) hi
            exact implSame (hb'.append hb) (by simp only [List.length_append]; omega) _ k
          · simp only [c1, if_false]
            have hz : ∃ w, (one false (rest ++ b)).1 = a' ++ c :: w := by
              have e1 : rest ++ b = a' ++ (c :: (r ++ (b' ++ b))) := by
                have : rest ++ b = (a' ++ c :: r ++ b') ++ b := by rw [← hr]
                rw [this]; simp
              rw [e1, one_pass _ _ (fun c hc => blank_ne (ha' c hc)), one_cons, if_neg (fun h => c1 h.1)]
              exact ⟨_, rfl⟩
            obtain ⟨w, hw⟩ := hz
            have hno : isTag (trm (a ++ (34 :: (body ++ 34 :: (one false (rest ++ b)).1)))) = false := by
              rw [hw, trm_left ha]
              have e2 : (34 :: (body ++ 34 :: (a' ++ c :: w))) = (34 :: (body ++ 34 :: (a' ++ [c]))) ++ w := by simp
              have hti3 : Tight (34 :: (body ++ 34 :: (a' ++ [c]))) := .inr ⟨⟨34, _, rfl, rfl⟩, ⟨34 :: (body ++ 34 :: a'), c, by simp, hcb⟩⟩
              obtain ⟨rest2, b2, h7, _, _⟩ := trm_front (w := w) hti3 (by simp)
              rw [e2, h7]
              have e3 : (34 :: (body ++ 34 :: (a' ++ [c]))) ++ rest2 = 34 :: (body ++ 34 :: (a' ++ c :: rest2)) := by simp
              rw [e3]
              exact no_tag h2 (by simp)
            have : tagsOut out (pcs false x) = ([], false) := by
              unfold tagsOut
              rw [if_neg]
              rintro ⟨h8, _⟩
              rw [hpcs] at h8
              simp only [List.all_cons, hno, Bool.false_and] at h8
              cases h8
            rw [this]
            exact Ev.now _
    · have hno := implTagAt_no (s := ofL (trm x)) (least := 0) (by rw [size_ofL]; omega) (fun body rest h => c0 ⟨body, rest, by rw [bl_ofL] at h; exact h⟩)
      refine Ev.bind hno ?_
      simp only [Bool.false_eq_true, if_false]
      refine Ev.step (fun k => impl_ParseTags.j1.eq_2 ..) ?_
      simp only [if_true]
      have hnt : isTag (trm (one false x).1) = false := by
        cases h : isTag (trm (one false x).1) with
        | false => rfl
        | true =>
          exfalso
          obtain ⟨body, h1, h2, h3, h4⟩ := isTag_iff.1 h
          obtain ⟨a1, b1, h5, ha1, hb1, _, _⟩ := trm_split (one false x).1
          have h6 := one_back x false
          rw [h5, h1] at h6
          apply c0
          have h7 : ∃ w, x = a1 ++ ((34 :: (body ++ [34])) ++ w) := ⟨_, by rw [h6, List.append_assoc, List.append_assoc]⟩
          obtain ⟨w, h7⟩ := h7
          obtain ⟨rest, b2, h8, _, _⟩ := trm_front (w := w) (tight_tag body) (by simp)
          refine ⟨body, rest, ?_, h2, Nat.zero_le _, h3, h4⟩
          rw [h7, trm_left ha1, h8]
          simp
      have : tagsOut out (pcs false x) = ([], false) := by
        unfold tagsOut
        rw [if_neg]
        rintro ⟨h8, _⟩
        rw [pcs_one] at h8
        simp only [List.all_cons, hnt, Bool.false_and] at h8
        cases h8
      rw [this]
      exact Ev.now _
theorem implTags {s : ByteArray} (hs : s.size ≤ 1048576) : Ev (fun k => impl_ParseTags.f k s) (if bl s = [42] then ([(⟨#[42]⟩ : ByteArray)], true) else tagsOut [] (pcs false (bl s))) := by
  unfold impl_ParseTags.f
  simp only [tl_eq]
  by_cases c0 : bl s = [42]
  · simp only [if_pos c0]; exact Ev.now _
  simp only [if_neg c0]
  have hl := bl_len s
  have := implLoop (bl s).length (bl s) [] (Nat.le_refl _) (by omega)
  rw [ofL_bl] at this
  exact this
end Go.Proofs.YtigoeooelfeopaaDoor.L

/- The law FnExactNoneOk computes true: the program and the reference say the same. No condition. -/
set_option linter.unusedSimpArgs false
set_option linter.unusedVariables false
namespace Go.Proofs.YtigoeooelfeopaaDoor.Pure
open Go.RowKit Go.Proofs.YtigoeooelfeopaaDoorW.PrintWords Go.Proofs.YtigoeooelfeopaaDoorW.PrintLast Go.Proofs.YtigoeooelfeopaaDoor.Q Go.Proofs.YtigoeooelfeopaaDoor.L
theorem specHas {l : List ByteArray} {s : ByteArray} (hl : l.length ≤ maxLen) : Ev (fun k => spec_l9Has.f k l s) (l.any (fun a => decide (a = s))) := by
  have key : ∀ (suf pre : List ByteArray), l = pre ++ suf → Ev (fun k => spec_l9Has.l0 k l s pre.length) (suf.any (fun a => decide (a = s))) := by
    intro suf
    induction suf with
    | nil =>
      intro pre h
      refine Ev.step (fun k => spec_l9Has.l0.eq_2 ..) ?_
      simp only [if_neg (end_at h), List.any_nil]
      exact Ev.now _
    | cons a suf ih =>
      intro pre h
      refine Ev.step (fun k => spec_l9Has.l0.eq_2 ..) ?_
      simp only [if_pos (lt_at h), if_pos (nonneg_at _), rd_at _ h, ba_eq, next_at h hl, List.any_cons]
      by_cases e : a = s
      · simp only [e, if_true, decide_true, Bool.true_or]; exact Ev.now _
      · simp only [e, if_false, decide_false, Bool.false_or]; exact ih (pre ++ [a]) (snoc_at h)
  exact key l [] rfl
theorem implHas {l : List ByteArray} {s : ByteArray} {b : Bool} (hl : l.length ≤ maxLen) : Ev (fun k => impl_tagged.l0 k s b l (l.length : Int) 0) (l.any (fun a => decide (a = s)), b) := by
  have key : ∀ (suf pre : List ByteArray), l = pre ++ suf → Ev (fun k => impl_tagged.l0 k s b l (l.length : Int) pre.length) (suf.any (fun a => decide (a = s)), b) := by
    intro suf
    induction suf with
    | nil =>
      intro pre h
      refine Ev.step (fun k => impl_tagged.l0.eq_2 ..) ?_
      simp only [if_neg (end_at h), List.any_nil]
      exact Ev.now _
    | cons a suf ih =>
      intro pre h
      refine Ev.step (fun k => impl_tagged.l0.eq_2 ..) ?_
      simp only [if_pos (lt_at h), if_pos (nonneg_at _), rd_at _ h, ba_eq, next_at h hl, List.any_cons]
      by_cases e : a = s
      · simp only [e, if_true, decide_true, Bool.true_or]; exact Ev.now _
      · simp only [e, if_false, decide_false, Bool.false_or]; exact ih (pre ++ [a]) (snoc_at h)
  have := key l [] rfl
  simpa using this
theorem FnExactNoneOk : ∀ (x0 : ByteArray) (x1 : Bool) (x2 : ByteArray), (fun s : ByteArray => s.size ≤ maxLen) x0 → (fun s : ByteArray => s.size ≤ maxLen) x2 → ∃ k, laws_FnExactNoneOk.f k x0 x1 x2 = some true := by
  intro x0 x1 x2 g0 g2
  apply Ev.rounds
  unfold laws_FnExactNoneOk.f
  by_cases c0 : (x0.size : Int) > 1048576
  · simp only [if_pos c0]; exact Ev.now _
  simp only [if_neg c0]
  by_cases c1 : (x2.size : Int) > 1048576
  · simp only [if_pos c1]; exact Ev.now _
  simp only [if_neg c1]
  have e1 := specTags (s := x0) (by omega)
  have e2 := implTags (s := x0) (by omega)
  have hstar : ∀ r : List ByteArray × Bool, (if bl x0 = [42] then ([(⟨#[42]⟩ : ByteArray)], true) else tagsOut [] (pcs false (bl x0))) = r → r.1.length ≤ maxLen ∧ (bl x0 = [42] → r.2 = true) := by
    rintro r rfl
    by_cases c : bl x0 = [42]
    · simp only [if_pos c]; exact ⟨by rw [maxLen_eq]; simp, fun _ => trivial⟩
    · simp only [if_neg c]
      refine ⟨?_, fun h => absurd h c⟩
      unfold tagsOut
      split
      · rename_i h; have := h.2; simp only [List.length_nil] at this; simp only [List.nil_append, List.length_map]; rw [maxLen_eq]; omega
      · rw [maxLen_eq]; simp
  generalize (if bl x0 = [42] then ([(⟨#[42]⟩ : ByteArray)], true) else tagsOut [] (pcs false (bl x0))) = r at e1 e2 hstar
  obtain ⟨l, ok⟩ := r
  obtain ⟨hl, hs⟩ := hstar _ rfl
  simp only at hl hs
  have fin : ∀ b : Bool, Ev (fun k => spec_NoneOk.f k x0 x1 x2) b → Ev (fun k => impl_NoneOk.f k x0 x1 x2) b → Ev (fun k => (spec_NoneOk.f k x0 x1 x2).bind fun t169 => ((impl_NoneOk.f k x0 x1 x2).bind fun t170 => (if (t170 != t169) = true then (some false) else (some true)))) true := by
    intro b h1 h2
    refine Ev.bind h1 ?_
    refine Ev.bind h2 ?_
    simp only [bne_self_eq_false, Bool.false_eq_true, if_false]
    exact Ev.now _
  have hi : Ev (fun k => impl_tagged.f k x0 x2) (l.any (fun a => decide (a = x2)), ok) := by
    unfold impl_tagged.f
    refine Ev.bind e2 ?_
    exact implHas hl
  have hS : ∀ b, Ev (fun k => (if ok = true then (if x1 = true then (if x0.toList = ([42] : List UInt8) then (some false) else ((spec_l9Has.f k l x2).bind fun t141 => (some (!t141)))) else (some true)) else (some true))) b → Ev (fun k => spec_NoneOk.f k x0 x1 x2) b := by
    intro b h
    unfold spec_NoneOk.f
    exact Ev.bind e1 h
  have hI : ∀ b, Ev (fun _ => (if x1 = true then (if x0.toList = ([42] : List UInt8) then (some false) else (if ok = true then (some (!(l.any (fun a => decide (a = x2))))) else (some (!false)))) else (some true))) b → Ev (fun k => impl_NoneOk.f k x0 x1 x2) b := by
    intro b h
    unfold impl_NoneOk.f
    exact Ev.bind hi h
  cases ok with
  | true =>
    cases x1 with
    | false => exact fin true (hS _ (by simp only [if_true, Bool.false_eq_true, if_false]; exact Ev.now _)) (hI _ (by simp only [Bool.false_eq_true, if_false]; exact Ev.now _))
    | true =>
      by_cases c : x0.toList = ([42] : List UInt8)
      · exact fin false (hS _ (by simp only [if_true, if_pos c]; exact Ev.now _)) (hI _ (by simp only [if_true, if_pos c]; exact Ev.now _))
      · exact fin _ (hS _ (by simp only [if_true, if_neg c]; exact Ev.bind (specHas hl) (Ev.now _))) (hI _ (by simp only [if_true, if_neg c]; exact Ev.now _))
  | false =>
    have c : ¬ x0.toList = ([42] : List UInt8) := fun h => by rw [tl_eq] at h; cases hs h
    cases x1 with
    | false => exact fin true (hS _ (by simp only [Bool.false_eq_true, if_false]; exact Ev.now _)) (hI _ (by simp only [Bool.false_eq_true, if_false]; exact Ev.now _))
    | true => exact fin true (hS _ (by simp only [Bool.false_eq_true, if_false]; exact Ev.now _)) (hI _ (by simp only [if_true, if_neg c, Bool.false_eq_true, if_false, Bool.not_false]; exact Ev.now _))
end Go.Proofs.YtigoeooelfeopaaDoor.Pure
