/- Texts as lists of bytes: cut, trimmed, their first places. No condition. -/
import Derived.Lib.SlTrimSet
import Derived.Lib.IndexMore
import Derived.Lib.IndexBytes
import Derived.Test.YtegkokdncakadaaGreatDoorVParseNodeG29
import Derived.Lib.AtoiTie
import Derived.Lib.Strings
set_option linter.unusedSimpArgs false
set_option linter.unusedVariables false
namespace Go.Proofs.YtegkokdncakadaaGreatDoor.L
open Go.RowKit Go.Proofs.YtegkokdncakadaaGreatDoorW.PrintWords Go.Proofs.YtegkokdncakadaaGreatDoorW.PrintLast Go.Proofs.YtegkokdncakadaaGreatDoor.Q
abbrev ofL (l : List UInt8) : ByteArray := ⟨l.toArray⟩
theorem bl_ofL (l : List UInt8) : bl (ofL l) = l := by simp
theorem ofL_bl (s : ByteArray) : ofL (bl s) = s := bl_inj (bl_ofL _)
theorem size_ofL (l : List UInt8) : (ofL l).size = l.length := by rw [← bl_len, bl_ofL]
theorem of_bl {s : ByteArray} {l : List UInt8} (h : bl s = l) : s = ofL l := by rw [← h, ofL_bl]
theorem bl_append (a b : ByteArray) : bl (a ++ b) = bl a ++ bl b := by
  show (a ++ b).data.toList = _
  rw [ByteArray.data_append, Array.toList_append]
theorem bl_extract (s : ByteArray) (i j : Nat) : bl (s.extract i j) = ((bl s).take j).drop i := by
  show (s.extract i j).data.toList = _
  rw [ByteArray.data_extract, Array.toList_extract, List.extract_eq_take_drop, List.drop_take]
theorem tl_eq (s : ByteArray) (l : List UInt8) : (s.toList = l) = (bl s = l) := by rw [ba_toList]
theorem eq_byte (c : UInt8) (n : Nat) (hn : n < 256) : ((c.toNat : Int) = (n : Int)) = (c = UInt8.ofNat n) := by
  apply propext
  constructor
  · intro h
    apply UInt8.toNat_inj.1
    rw [UInt8.toNat_ofNat']
    omega
  · rintro rfl
    rw [UInt8.toNat_ofNat']
    omega
theorem index_hit {u body rest : List UInt8} {c : UInt8} (h : u = body ++ c :: rest) (hn : c ∉ body) : Lib.indexByte u c = body.length := by
  subst h
  induction body with
  | nil => simp [Lib.indexByte]
  | cons b body ih =>
    have h1 : ¬ b = c := fun e => hn (by simp [e])
    have := ih (fun hm => hn (List.mem_cons_of_mem _ hm))
    simp only [List.cons_append, Lib.indexByte, beq_iff_eq, h1, if_false, this]
    rw [if_neg (by omega)]
    simp
theorem index_miss {u : List UInt8} {c : UInt8} (hn : c ∉ u) : Lib.indexByte u c = -1 := by
  induction u with
  | nil => simp [Lib.indexByte]
  | cons b u ih =>
    have h1 : ¬ b = c := fun e => hn (by simp [e])
    have := ih (fun hm => hn (List.mem_cons_of_mem _ hm))
    simp only [Lib.indexByte, beq_iff_eq, h1, if_false, this, if_true]
theorem cut_hit {u body rest : List UInt8} {c : UInt8} (h : u = body ++ c :: rest) (hn : c ∉ body) : Lib.cut u [c] = (body, rest, true) := by
  unfold Lib.cut
  rw [Lib.index_one, index_hit h hn, if_pos (by omega)]
  subst h
  simp
theorem cut_miss {u : List UInt8} {c : UInt8} (hn : c ∉ u) : Lib.cut u [c] = (u, [], false) := by
  unfold Lib.cut
  rw [Lib.index_one, index_miss hn, if_neg (by omega)]
theorem first_of {u : List UInt8} {c : UInt8} (h : c ∈ u) : ∃ body rest, u = body ++ c :: rest ∧ c ∉ body := by
  induction u with
  | nil => simp at h
  | cons b u ih =>
    by_cases e : b = c
    · exact ⟨[], u, by simp [e], by simp⟩
    · have h2 : c ∈ u := by
        rcases List.mem_cons.1 h with h | h
        · exact absurd h.symm e
        · exact h
      obtain ⟨body, rest, h3, h4⟩ := ih h2
      exact ⟨b :: body, rest, by rw [h3]; rfl, fun hm => (List.mem_cons.1 hm).elim (fun h => e h.symm) h4⟩
def blank (c : UInt8) : Bool := c == 32 || c == 9
def Blank (l : List UInt8) : Prop := ∀ c ∈ l, blank c = true
def Tight (m : List UInt8) : Prop := m = [] ∨ (∃ c r, m = c :: r ∧ blank c = false) ∧ (∃ r c, m = r ++ [c] ∧ blank c = false)
def trm (l : List UInt8) : List UInt8 := Lib.trimS l [32, 9]
theorem blank_fun : (fun c : UInt8 => ([32, 9] : List UInt8).contains c) = blank := by
  funext c
  simp only [blank, List.contains, List.elem]
  cases h1 : (c == 32) <;> cases h2 : (c == 9) <;> simp_all
theorem Blank.left {a b : List UInt8} (h : Blank (a ++ b)) : Blank a := fun c hc => h c (List.mem_append_left _ hc)
theorem drop_blank {a m : List UInt8} (ha : Blank a) : (a ++ m).dropWhile blank = m.dropWhile blank := List.dropWhile_append_of_pos ha
theorem trm_of {a m b : List UInt8} (ha : Blank a) (hb : Blank b) (hm : Tight m) : trm (a ++ m ++ b) = m := by
  unfold trm Lib.trimS Lib.trimLeftS Lib.trimRightS
  rw [blank_fun, List.reverse_append, drop_blank (fun c hc => hb c (List.mem_reverse.1 hc)), List.reverse_append]
  rcases hm with rfl | ⟨⟨c, r, h1, h2⟩, ⟨r', c', h3, h4⟩⟩
  · simp only [List.reverse_nil, List.nil_append]
    have : a.reverse.dropWhile blank = [] := by
      have := drop_blank (a := a.reverse) (m := []) (fun c hc => ha c (List.mem_reverse.1 hc))
      simpa using this
    rw [this]; rfl
  · rw [h3, List.reverse_append]
    simp only [List.reverse_cons, List.reverse_nil, List.nil_append, List.cons_append]
    rw [List.dropWhile_cons_of_neg (by simp [h4])]
    simp only [List.reverse_cons, List.reverse_append, List.reverse_reverse, List.append_assoc]
    rw [drop_blank ha, ← h3, h1, List.dropWhile_cons_of_neg (by simp [h2])]
theorem tight_split (l : List UInt8) : ∃ a m b, l = a ++ m ++ b ∧ Blank a ∧ Blank b ∧ Tight m ∧ (m = [] → b = []) := by
  induction l with
  | nil => exact ⟨[], [], [], rfl, fun _ h => by simp at h, fun _ h => by simp at h, .inl rfl, fun _ => rfl⟩
  | cons c l ih =>
    obtain ⟨a, m, b, rfl, ha, hb, hm, h0⟩ := ih
    cases hc : blank c with
    | true => exact ⟨c :: a, m, b, rfl, fun x hx => (List.mem_cons.1 hx).elim (fun h => h ▸ hc) (ha x), hb, hm, h0⟩
    | false =>
      rcases hm with rfl | ⟨⟨d, r, h1, h2⟩, ⟨r', d', h3, h4⟩⟩
      · obtain rfl := h0 rfl
        exact ⟨[], [c], a, by simp, fun _ h => by simp at h, ha, .inr ⟨⟨c, [], rfl, hc⟩, ⟨[], c, rfl, hc⟩⟩, fun h => by simp at h⟩
      · exact ⟨[], c :: (a ++ m), b, by simp, fun _ h => by simp at h, hb, .inr ⟨⟨c, a ++ m, rfl, hc⟩, ⟨c :: (a ++ r'), d', by rw [h3]; simp, h4⟩⟩, fun h => by simp at h⟩
theorem trm_split (l : List UInt8) : ∃ a b, l = a ++ trm l ++ b ∧ Blank a ∧ Blank b ∧ Tight (trm l) ∧ (trm l = [] → b = []) := by
  obtain ⟨a, m, b, h, ha, hb, hm, h0⟩ := tight_split l
  have e : trm l = m := by rw [h]; exact trm_of ha hb hm
  rw [e]
  exact ⟨a, b, h, ha, hb, hm, h0⟩
theorem tl_cons {s : ByteArray} {c : UInt8} {r : List UInt8} (h : bl s = c :: r) : (0 : Int) < (s.size : Int) ∧ bt s 0 = (c.toNat : Int) ∧ bl (s.extract 1 s.size) = r := by
  have hl := bl_len s
  rw [h] at hl
  simp only [List.length_cons] at hl
  refine ⟨by omega, ?_, ?_⟩
  · have := bt_at' (s := s) (pre := []) (c := c) (suf := r) (by simpa using h)
    simpa using this
  · rw [bl_extract, h, ← hl]
    simp
theorem tl_last {s : ByteArray} {c : UInt8} {r : List UInt8} (h : bl s = r ++ [c]) (hs : s.size ≤ maxLen) : (0 : Int) < (s.size : Int) ∧ wrap64 ((s.size : Int) - 1) = (r.length : Int) ∧ bt s (r.length : Int) = (c.toNat : Int) ∧ bl (s.extract 0 r.length) = r := by
  have hl := bl_len s
  rw [h] at hl
  simp only [List.length_append, List.length_cons, List.length_nil] at hl
  rw [maxLen_eq] at hs
  refine ⟨by omega, ?_, bt_at' h, ?_⟩
  · rw [wrap_id (by omega) (by omega)]; omega
  · rw [bl_extract, h]; simp
theorem specBlank (c : UInt8) : spec_l1Blank.f (c.toNat : Int) = some (blank c) := by
  unfold spec_l1Blank.f blank
  have e1 := eq_byte c 32 (by omega)
  have e2 := eq_byte c 9 (by omega)
  by_cases h1 : c = 32
  · subst h1; rfl
  · rw [if_neg (by rw [show ((32 : Int)) = ((32 : Nat) : Int) from rfl, e1]; exact h1)]
    by_cases h2 : c = 9
    · subst h2; rfl
    · have : ¬ (c.toNat : Int) = 9 := by rw [show ((9 : Int)) = ((9 : Nat) : Int) from rfl, e2]; exact h2
      have e : ((c.toNat : Int) == 9) = false := beq_eq_false_iff_ne.mpr this
      rw [e, beq_eq_false_iff_ne.mpr h1, beq_eq_false_iff_ne.mpr h2]; rfl
theorem specTrimR : ∀ (n : Nat) (s : ByteArray) (m b : List UInt8), b.length = n → s.size ≤ maxLen → bl s = m ++ b → Blank b → (m = [] ∨ ∃ r c, m = r ++ [c] ∧ blank c = false) → Ev (fun k => spec_Trim.l1 k s) (ofL m) := by
  intro n
  induction n with
  | zero =>
    intro s m b hb hs h _ hm
    obtain rfl := List.length_eq_zero_iff.1 hb
    rw [List.append_nil] at h
    refine Ev.step (fun k => spec_Trim.l1.eq_2 ..) ?_
    rw [← of_bl h]
    rcases hm with rfl | ⟨r, c, rfl, hc⟩
    · have : s.size = 0 := by rw [← bl_len, h]; rfl
      simp only [if_neg (show ¬ ((s.size : Nat) : Int) > 0 by omega)]
      exact Ev.now _
    · obtain ⟨h1, h2, h3, h4⟩ := tl_last h hs
      have hl := bl_len s
      rw [h] at hl
      simp only [List.length_append, List.length_cons, List.length_nil] at hl
      simp only [h2, h3, specBlank, hc, Option.bind_some, if_pos (show (s.size : Int) > 0 by omega), if_pos (nonneg_at _), if_pos (show ((r.length : Nat) : Int) < (s.size : Int) by omega), Bool.false_eq_true, if_false]
      exact Ev.now _
  | succ n ih =>
    intro s m b hb hs h hbl hm
    have hne : b ≠ [] := fun e => by rw [e] at hb; simp at hb
    obtain ⟨b', c, rfl⟩ : ∃ b' c, b = b' ++ [c] := ⟨b.dropLast, b.getLast hne, (List.dropLast_concat_getLast hne).symm⟩
    rw [← List.append_assoc] at h
    obtain ⟨h1, h2, h3, h4⟩ := tl_last h hs
    have hl := bl_len s
    rw [h] at hl
    simp only [List.length_append, List.length_cons, List.length_nil] at hl hb
    have hs2 : (s.extract 0 (m ++ b').length).size ≤ maxLen := by rw [← bl_len, h4]; simp only [List.length_append]; omega
    refine Ev.step (fun k => spec_Trim.l1.eq_2 ..) ?_
    simp only [h2, h3, specBlank, hbl c (by simp), Option.bind_some, if_pos (show (s.size : Int) > 0 by omega), if_pos (nonneg_at _), if_pos (show (((m ++ b').length : Nat) : Int) < (s.size : Int) by simp only [List.length_append]; omega), if_pos (show (((m ++ b').length : Nat) : Int) ≤ (s.size : Int) by simp only [List.length_append]; omega), if_true, Int.toNat_natCast]
    exact ih _ m b' (by omega) hs2 h4 hbl.left hm
theorem specTrimL : ∀ (a : List UInt8) (s : ByteArray) (m b : List UInt8), s.size ≤ maxLen → bl s = a ++ (m ++ b) → Blank a → Blank b → Tight m → (m = [] → b = []) → Ev (fun k => spec_Trim.l0 k s) (ofL m) := by
  intro a
  induction a with
  | nil =>
    intro s m b hs h _ hb hm h0
    rw [List.nil_append] at h
    have hj : Ev (fun k => spec_Trim.j1 k s) (ofL m) := Ev.step (fun k => spec_Trim.j1.eq_2 ..) (specTrimR _ s m b rfl hs h hb (hm.elim .inl (fun h => .inr h.2)))
    refine Ev.step (fun k => spec_Trim.l0.eq_2 ..) ?_
    rcases hm with rfl | ⟨⟨c, r, rfl, hc⟩, _⟩
    · obtain rfl := h0 rfl
      have : s.size = 0 := by rw [← bl_len, h]; rfl
      simp only [if_neg (show ¬ ((s.size : Nat) : Int) > 0 by omega)]
      exact hj
    · obtain ⟨h1, h2, _⟩ := tl_cons (s := s) (c := c) (r := r ++ b) (by rw [h]; rfl)
      simp only [h2, specBlank, hc, Option.bind_some, if_pos (show (s.size : Int) > 0 by omega), if_pos h1, Bool.false_eq_true, if_false]
      exact hj
  | cons c a ih =>
    intro s m b hs h ha hb hm h0
    obtain ⟨h1, h2, h3⟩ := tl_cons (s := s) (c := c) (r := a ++ (m ++ b)) (by rw [h]; rfl)
    have hl := bl_len s
    rw [h] at hl
    simp only [List.length_append, List.length_cons] at hl
    refine Ev.step (fun k => spec_Trim.l0.eq_2 ..) ?_
    simp only [h2, specBlank, ha c (by simp), Option.bind_some, if_pos (show (s.size : Int) > 0 by omega), if_pos h1, if_true, if_pos (show (1 : Int) ≤ (s.size : Int) by omega)]
    exact ih _ m b (by rw [← bl_len, h3]; simp only [List.length_append]; omega) h3 (fun x hx => ha x (List.mem_cons_of_mem _ hx)) hb hm h0
theorem specTrim {s : ByteArray} (hs : s.size ≤ maxLen) : Ev (fun k => spec_Trim.f k s) (ofL (trm (bl s))) := by
  obtain ⟨a, b, h, ha, hb, hm, h0⟩ := trm_split (bl s)
  exact specTrimL a s _ b hs (by rw [← List.append_assoc]; exact h) ha hb hm h0
end Go.Proofs.YtegkokdncakadaaGreatDoor.L

/- Decimal numerals read: the program and the reference read the same. No condition. -/
set_option linter.unusedSimpArgs false
set_option linter.unusedVariables false
namespace Go.Proofs.YtegkokdncakadaaGreatDoor.L
open Go.RowKit Go.Proofs.YtegkokdncakadaaGreatDoorW.PrintWords Go.Proofs.YtegkokdncakadaaGreatDoorW.PrintLast Go.Proofs.YtegkokdncakadaaGreatDoor.Q
def isDig (c : UInt8) : Bool := decide (48 ≤ c.toNat ∧ c.toNat ≤ 57)
def val (l : List UInt8) : Nat := l.foldl (fun a c => a * 10 + (c.toNat - 48)) 0
theorem val_snoc (l : List UInt8) (c : UInt8) : val (l ++ [c]) = val l * 10 + (c.toNat - 48) := by simp [val]
def Canon (l : List UInt8) : Prop := l ≠ [] ∧ (∀ c ∈ l, isDig c = true) ∧ (1 < l.length → ∀ r, l ≠ 48 :: r)
theorem dig_byte {n : Nat} (h : n < 10) : (UInt8.ofNat (48 + n)).toNat = 48 + n := by rw [UInt8.toNat_ofNat']; omega
theorem dec_canon : ∀ (m n : Nat), n ≤ m → Canon (Lib.decDigits n) ∧ val (Lib.decDigits n) = n := by
  intro m
  induction m with
  | zero =>
    intro n hn
    obtain rfl : n = 0 := by omega
    rw [Lib.decDigits_one (by omega)]
    exact ⟨⟨by simp, fun c hc => by simp only [List.mem_singleton] at hc; rw [hc]; decide, fun h => by simp at h⟩, rfl⟩
  | succ m ih =>
    intro n hn
    by_cases c : n < 10
    · rw [Lib.decDigits_one c]
      have e := dig_byte c
      refine ⟨⟨by simp, fun x hx => ?_, fun h => by simp at h⟩, ?_⟩
      · simp only [List.mem_singleton] at hx
        rw [hx]; unfold isDig; rw [e]; exact decide_eq_true ⟨by omega, by omega⟩
      · simp only [val, List.foldl_cons, List.foldl_nil, e]; omega
    · obtain ⟨⟨h1, h2, h3⟩, h4⟩ := ih (n / 10) (by omega)
      have e := dig_byte (n := n % 10) (by omega)
      rw [decD_step c]
      refine ⟨⟨by simp, fun x hx => ?_, fun _ r hr => ?_⟩, ?_⟩
      · rcases List.mem_append.1 hx with hx | hx
        · exact h2 x hx
        · simp only [List.mem_singleton] at hx
          rw [hx]; unfold isDig; rw [e]; exact decide_eq_true ⟨by omega, by omega⟩
      · cases hd : Lib.decDigits (n / 10) with
        | nil => exact h1 hd
        | cons a t =>
          rw [hd] at hr
          injection hr with ha _
          subst ha
          by_cases ht : t = []
          · have : n / 10 = 0 := by rw [← h4, hd, ht]; rfl
            omega
          · have : 1 < (Lib.decDigits (n / 10)).length := by
              rw [hd]
              have := List.length_pos_iff.2 ht
              simp only [List.length_cons]; omega
            exact h3 this t hd
      · rw [val_snoc, h4, e]; omega
theorem canon_dec : ∀ (m : Nat) (l : List UInt8), l.length ≤ m → Canon l → l = Lib.decDigits (val l) := by
  intro m
  induction m with
  | zero => intro l hl h; exact absurd (List.length_eq_zero_iff.1 (Nat.le_zero.1 hl)) h.1
  | succ m ih =>
    intro l hl h
    obtain ⟨h1, h2, h3⟩ := h
    obtain ⟨l', c, rfl⟩ : ∃ l' c, l = l' ++ [c] := ⟨l.dropLast, l.getLast h1, (List.dropLast_concat_getLast h1).symm⟩
    have hc := h2 c (by simp)
    unfold isDig at hc
    obtain ⟨c1, c2⟩ := of_decide_eq_true hc
    have ec : c = UInt8.ofNat (48 + (c.toNat - 48)) := by
      apply UInt8.toNat_inj.1
      rw [UInt8.toNat_ofNat']; omega
    by_cases hl0 : l' = []
    · subst hl0
      rw [val_snoc, show val [] = 0 from rfl, Nat.zero_mul, Nat.zero_add, Lib.decDigits_one (by omega), List.nil_append, ← ec]
    · have hlen := List.length_pos_iff.2 hl0
      simp only [List.length_append, List.length_cons, List.length_nil] at hl
      have hcn : Canon l' := by
        refine ⟨hl0, fun x hx => h2 x (List.mem_append_left _ hx), fun _ r hr => h3 ?_ (r ++ [c]) (by rw [hr]; rfl)⟩
        simp only [List.length_append, List.length_cons, List.length_nil]; omega
      have e := ih l' (by omega) hcn
      have hv : 1 ≤ val l' := by
        cases hv : val l' with
        | succ n => omega
        | zero =>
          rw [hv, Lib.decDigits_one (by omega)] at e
          exact absurd (by rw [e]; rfl) (h3 (by simp only [List.length_append, List.length_cons, List.length_nil]; omega) [c])
      rw [val_snoc, decD_step (by omega), show (val l' * 10 + (c.toNat - 48)) / 10 = val l' by omega, show (val l' * 10 + (c.toNat - 48)) % 10 = c.toNat - 48 by omega, ← e, ← ec]
theorem decFrom_snoc (l : List UInt8) (c : UInt8) : ∀ acc n, Lib.decFrom acc l = some n → 48 ≤ c.toNat → c.toNat ≤ 57 → Lib.decFrom acc (l ++ [c]) = some (n * 10 + (c.toNat - 48)) := by
  induction l with
  | nil =>
    intro acc n h c1 c2
    simp only [Lib.decFrom, Option.some.injEq] at h
    subst h
    simp [Lib.decFrom, Lib.digitVal, c1, c2]
  | cons b l ih =>
    intro acc n h c1 c2
    simp only [List.cons_append, Lib.decFrom] at h ⊢
    split at h
    · exact ih _ _ h c1 c2
    · cases h
theorem decFrom_dec : ∀ (m n : Nat), n ≤ m → Lib.decFrom 0 (Lib.decDigits n) = some n := by
  intro m
  induction m with
  | zero =>
    intro n hn
    obtain rfl : n = 0 := by omega
    rw [Lib.decDigits_one (by omega)]; rfl
  | succ m ih =>
    intro n hn
    by_cases c : n < 10
    · have e := dig_byte c
      rw [Lib.decDigits_one c]
      have := decFrom_snoc [] (UInt8.ofNat (48 + n)) 0 0 rfl (by omega) (by omega)
      rw [List.nil_append, e] at this
      rw [this]; simp
    · have e := dig_byte (n := n % 10) (by omega)
      rw [decD_step c]
      have := decFrom_snoc (Lib.decDigits (n / 10)) (UInt8.ofNat (48 + n % 10)) 0 (n / 10) (ih _ (by omega)) (by omega) (by omega)
      rw [this, e]
      congr 1
      omega
theorem atoi_dec (n : Nat) : Lib.atoi (Lib.decDigits n) = some (n : Int) := by
  obtain ⟨⟨h1, h2, _⟩, _⟩ := dec_canon n n (Nat.le_refl _)
  cases h : Lib.decDigits n with
  | nil => exact absurd h h1
  | cons b r =>
    have hb := h2 b (by rw [h]; simp)
    unfold isDig at hb
    obtain ⟨c1, c2⟩ := of_decide_eq_true hb
    have n45 : b ≠ 45 := fun e => by rw [e] at c1; revert c1; decide
    have n43 : b ≠ 43 := fun e => by rw [e] at c1; revert c1; decide
    unfold Lib.atoi
    simp only [beq_iff_eq, n45, n43, if_false, Lib.decNat, List.isEmpty_cons, Bool.false_eq_true]
    rw [← h, decFrom_dec n n (Nat.le_refl _)]
    rfl
open Classical in
noncomputable def numR (l : List UInt8) (most : Int) : Int × Bool := if Canon l ∧ l.length ≤ 7 ∧ (val l : Int) ≤ most then ((val l : Int), true) else (0, false)
theorem numR_yes {l : List UInt8} {most : Int} (h : Canon l ∧ l.length ≤ 7 ∧ (val l : Int) ≤ most) : numR l most = ((val l : Int), true) := by unfold numR; rw [if_pos h]
theorem numR_no {l : List UInt8} {most : Int} (h : ¬ (Canon l ∧ l.length ≤ 7 ∧ (val l : Int) ≤ most)) : numR l most = (0, false) := by unfold numR; rw [if_neg h]
theorem implNum {s : ByteArray} (hs : s.size ≤ 1073741824) (most : Int) : impl_ParseNum.f s most = some (numR (bl s) most) := by
  have hl := bl_len s
  unfold impl_ParseNum.f
  rw [if_pos (by omega)]
  by_cases c : Canon (bl s) ∧ (bl s).length ≤ 7
  · obtain ⟨c1, c2⟩ := c
    have e := canon_dec _ _ (Nat.le_refl _) c1
    have ha : Lib.atoiAll s.data.toList = .ok (val (bl s) : Int) := by
      have h1 : Lib.atoiAll (bl s) = Lib.NumEnd.ofOption (Lib.atoi (bl s)) := Lib.atoiAll_short _ (by omega)
      have h2 := atoi_dec (val (bl s))
      rw [← e] at h2
      rw [h2] at h1
      exact h1
    rw [ha]
    have hb := Lib.atoiAll_bounds ha
    simp only [if_neg (show ¬ (val (bl s) : Int) < 0 by omega)]
    by_cases c3 : most < (val (bl s) : Int)
    · rw [if_pos c3, numR_no (fun h => by omega)]
    · rw [if_neg c3, if_neg (by omega), numI _ (by omega), numR_yes ⟨c1, c2, by omega⟩]
      simp only [Option.bind_some, Int.toNat_natCast, ← e, ofL_bl, if_true]
  · rw [numR_no (fun h => c ⟨h.1, h.2.1⟩)]
    rcases ha : Lib.atoiAll s.data.toList with v | _ | _
    rotate_left
    · rfl
    · rfl
    ·
      have hb := Lib.atoiAll_bounds ha
      simp only
      by_cases c1 : v < 0
      · rw [if_pos c1]
      rw [if_neg c1]
      by_cases c2 : most < v
      · rw [if_pos c2]
      rw [if_neg c2]
      by_cases c3 : 7 < s.size
      · rw [if_pos c3]
      rw [if_neg c3, numI v (by omega)]
      simp only [Option.bind_some]
      rw [if_neg]
      intro e
      rw [tl_eq] at e
      have e2 : bl s = Lib.decDigits v.toNat := by
        have := e.symm
        rw [ba_toList] at this
        have h3 : bl s = bl (ofL (Lib.decDigits v.toNat)) := this
        rw [h3, bl_ofL]
      exact c ⟨by rw [e2]; exact (dec_canon _ _ (Nat.le_refl _)).1, by omega⟩
theorem dig_eq (c : UInt8) : inB 48 57 c = isDig c := by
  unfold inB isDig
  by_cases h : 48 ≤ c.toNat ∧ c.toNat ≤ 57
  · rw [decide_eq_true h, decide_eq_true (by omega)]
  · rw [decide_eq_false h, decide_eq_false (by omega)]
theorem specNum {s : ByteArray} (hs : s.size ≤ 1073741824) (most : Int) : Ev (fun k => spec_ParseNum.f k s most) (numR (bl s) most) := by
  have hl := bl_len s
  have hm : s.size ≤ maxLen := by rw [maxLen_eq]; omega
  have fin : ∀ (pre suf : List UInt8) (i : Int), bl s = pre ++ suf → (∀ c ∈ pre, isDig c = true) → (suf = [] ∨ 8 ≤ pre.length) → Ev (fun k => spec_ParseNum.j1 k s most (val pre : Int) i false) (numR (bl s) most) := by
    intro pre suf i h hd hc
    refine Ev.step (fun k => spec_ParseNum.j1.eq_2 ..) ?_
    simp only [Bool.false_eq_true, if_false, specIn, Option.bind_some]
    by_cases c0 : 1 ≤ (s.size : Int) ∧ (s.size : Int) ≤ 7
    · simp only [c0, and_self, decide_true, if_true]
      have hlen := congrArg List.length h
      rw [List.length_append] at hlen
      obtain rfl : suf = [] := by
        rcases hc with h2 | h2
        · exact h2
        · omega
      rw [List.append_nil] at h
      by_cases c1 : (s.size : Int) > 1
      · simp only [if_pos c1]
        cases hp : pre with
        | nil => rw [hp] at h; rw [h] at hl; simp only [List.length_nil] at hl; omega
        | cons c r =>
          obtain ⟨g1, g2, _⟩ := tl_cons (s := s) (c := c) (r := r) (by rw [h, hp])
          have e48 : ((c.toNat : Int) = 48) = (c = 48) := eq_byte c 48 (by omega)
          simp only [if_pos g1, g2, e48]
          by_cases c2 : c = 48
          · simp only [if_pos c2]
            rw [numR_no (fun hh => hh.1.2.2 (by omega) r (by rw [h, hp, c2]))]
            exact Ev.now _
          · simp only [if_neg c2, ← hp]
            have hcn : Canon (bl s) := ⟨by rw [h, hp]; simp, by rw [h]; exact hd, fun _ r' hr => by rw [h, hp] at hr; injection hr with e _; exact c2 e⟩
            by_cases c3 : (val pre : Int) > most
            · simp only [if_pos c3]
              rw [numR_no (fun hh => by rw [h] at hh; omega)]
              exact Ev.now _
            · simp only [if_neg c3]
              rw [numR_yes ⟨hcn, by omega, by rw [h]; omega⟩, h]
              exact Ev.now _
      · simp only [if_neg c1]
        have hcn : Canon (bl s) := ⟨fun e => by rw [e] at hl; simp only [List.length_nil] at hl; omega, by rw [h]; exact hd, fun hh => by omega⟩
        by_cases c3 : (val pre : Int) > most
        · simp only [if_pos c3]
          rw [numR_no (fun hh => by rw [h] at hh; omega)]
          exact Ev.now _
        · simp only [if_neg c3]
          rw [numR_yes ⟨hcn, by omega, by rw [h]; omega⟩, h]
          exact Ev.now _
    · simp only [c0, decide_false, Bool.false_eq_true, if_false]
      rw [numR_no]
      · exact Ev.now _
      · rintro ⟨h1, h2, _⟩
        have := List.length_pos_iff.2 h1.1
        omega
  have key : ∀ (suf pre : List UInt8), bl s = pre ++ suf → (∀ c ∈ pre, isDig c = true) → pre.length ≤ 8 → (val pre : Int) < 1000000000 → Ev (fun k => spec_ParseNum.l0 k s most (val pre : Int) (pre.length : Int)) (numR (bl s) most) := by
    intro suf
    induction suf with
    | nil =>
      intro pre h hd _ _
      refine Ev.step (fun k => spec_ParseNum.l0.eq_2 ..) ?_
      simp only [if_neg (bend_at h)]
      exact fin pre [] _ h hd (.inl rfl)
    | cons c suf ih =>
      intro pre h hd hp hv
      refine Ev.step (fun k => spec_ParseNum.l0.eq_2 ..) ?_
      simp only [if_pos (blt_at h)]
      by_cases c0 : (pre.length : Int) < 8
      · simp only [c0, decide_true]
        refine Ev.step (fun k => spec_ParseNum.j1.eq_2 ..) ?_
        simp only [if_true, if_pos (nonneg_at _), if_pos (blt_at h), bt_at' h, specDigit1, Option.bind_some, dig_eq]
        cases hc : isDig c with
        | false =>
          simp only [Bool.false_eq_true, if_false]
          rw [numR_no (fun hh => by have := hh.1.2.1 c (by rw [h]; simp); rw [hc] at this; cases this)]
          exact Ev.now _
        | true =>
          have hc' := hc
          unfold isDig at hc'
          obtain ⟨c1, c2⟩ := of_decide_eq_true hc'
          have e1 : ((c.toNat : Int) - 48) % 256 = ((c.toNat - 48 : Nat) : Int) := by omega
          by_cases c8 : pre.length = 7
          · -- the eighth digit: whatever it is worth
            have hv8 : (val pre : Int) < 10000000 ∨ True := .inr trivial
            simp only [if_true, bnext_at h hm, e1, wrap_id (x := (val pre : Int) * 10) (by omega) (by omega)]
            rw [wrap_id (by omega) (by omega), show ((val pre : Int) * 10 + ((c.toNat - 48 : Nat) : Int)) = ((val (pre ++ [c]) : Nat) : Int) by rw [val_snoc]; omega]
            refine Ev.step (fun k => spec_ParseNum.l0.eq_2 ..) ?_
            have h' : bl s = (pre ++ [c]) ++ suf := by rw [h]; simp
            have hd' : ∀ x ∈ pre ++ [c], isDig x = true := fun x hx => (List.mem_append.1 hx).elim (hd x) (fun hx => by simp only [List.mem_singleton] at hx; rw [hx]; exact hc)
            have h8 : 8 ≤ (pre ++ [c]).length := by simp only [List.length_append, List.length_cons, List.length_nil]; omega
            by_cases c9 : (((pre ++ [c]).length : Nat) : Int) < (s.size : Int)
            · simp only [if_pos c9]
              rw [show decide ((((pre ++ [c]).length : Nat) : Int) < 8) = false from decide_eq_false (by omega)]
              exact fin _ suf _ h' hd' (.inr h8)
            · simp only [if_neg c9]
              exact fin _ suf _ h' hd' (.inr h8)
          · simp only [if_true, bnext_at h hm, e1, wrap_id (x := (val pre : Int) * 10) (by omega) (by omega)]
            rw [wrap_id (by omega) (by omega), show ((val pre : Int) * 10 + ((c.toNat - 48 : Nat) : Int)) = ((val (pre ++ [c]) : Nat) : Int) by rw [val_snoc]; omega]
            refine ih (pre ++ [c]) (snoc_at h) (fun x hx => (List.mem_append.1 hx).elim (hd x) (fun hx => by simp only [List.mem_singleton] at hx; rw [hx]; exact hc)) (by simp only [List.length_append, List.length_cons, List.length_nil]; omega) ?_
            have hb : ∀ (l : List UInt8), (∀ x ∈ l, isDig x = true) → val l < 10 ^ l.length := by
              intro l
              have : ∀ (l : List UInt8) (acc : Nat), (∀ x ∈ l, isDig x = true) → l.foldl (fun a c => a * 10 + (c.toNat - 48)) acc < (acc + 1) * 10 ^ l.length := by
                intro l
                induction l with
                | nil => intro acc _; simp
                | cons x l ihl =>
                  intro acc hx
                  have hx1 := hx x (by simp)
                  unfold isDig at hx1
                  obtain ⟨x1, x2⟩ := of_decide_eq_true hx1
                  have := ihl (acc * 10 + (x.toNat - 48)) (fun y hy => hx y (List.mem_cons_of_mem _ hy))
                  simp only [List.foldl_cons, List.length_cons, Nat.pow_succ]
                  refine Nat.lt_of_lt_of_le this ?_
                  have h10 : acc * 10 + (x.toNat - 48) + 1 ≤ (acc + 1) * 10 := by omega
                  calc (acc * 10 + (x.toNat - 48) + 1) * 10 ^ l.length ≤ ((acc + 1) * 10) * 10 ^ l.length := Nat.mul_le_mul_right _ h10
                    _ = (acc + 1) * (10 ^ l.length * 10) := by rw [Nat.mul_assoc, Nat.mul_comm 10]
              intro hx
              have := this l 0 hx
              simpa [val] using this
            have h7 := hb (pre ++ [c]) (fun x hx => (List.mem_append.1 hx).elim (hd x) (fun hx => by simp only [List.mem_singleton] at hx; rw [hx]; exact hc))
            have h9 : (pre ++ [c]).length ≤ 7 := by simp only [List.length_append, List.length_cons, List.length_nil]; omega
            have h10 : 10 ^ (pre ++ [c]).length ≤ 10 ^ 7 := Nat.pow_le_pow_right (by omega) h9
            omega
      · rw [show decide ((pre.length : Int) < 8) = false from decide_eq_false c0]
        exact fin pre (c :: suf) _ h hd (.inr (by omega))
  have := key (bl s) [] rfl (fun _ h => by simp at h) (by simp) (by decide)
  unfold spec_ParseNum.f
  simpa [val] using this
end Go.Proofs.YtegkokdncakadaaGreatDoor.L

/- Marked texts read, first part: what names stand for, and names put in the place of marks: the reference's reader and the program's come to the same. No condition. -/
set_option linter.unusedSimpArgs false
set_option linter.unusedVariables false
namespace Go.Proofs.YtegkokdncakadaaGreatDoor.L
open Go.RowKit Go.Proofs.YtegkokdncakadaaGreatDoorW.PrintWords Go.Proofs.YtegkokdncakadaaGreatDoorW.PrintLast Go.Proofs.YtegkokdncakadaaGreatDoor.Q
theorem ev_bindS {α β : Type} {g : Option α} {f : Nat → α → Option β} {a : α} {r : β} (h : g = some a) (k : Ev (fun n => f n a) r) : Ev (fun n => g.bind (f n)) r := by rw [h]; exact k
theorem ev_iteT {α : Type} {p : Prop} [Decidable p] {f g : Nat → Option α} {r : α} (h : p) (k : Ev f r) : Ev (fun n => if p then f n else g n) r := by rw [funext (fun n => if_pos h)]; exact k
theorem ev_iteF {α : Type} {p : Prop} [Decidable p] {f g : Nat → Option α} {r : α} (h : ¬ p) (k : Ev g r) : Ev (fun n => if p then f n else g n) r := by rw [funext (fun n => if_neg h)]; exact k
abbrev E0 : ByteArray := (⟨#[]⟩ : ByteArray)
theorem pre_iff {x p : List UInt8} : Lib.hasPrefix x p = true ↔ ∃ t, x = p ++ t := by
  unfold Lib.hasPrefix
  rw [List.isPrefixOf_iff_prefix]
  exact ⟨fun ⟨t, h⟩ => ⟨t, h.symm⟩, fun ⟨t, h⟩ => ⟨t, h.symm⟩⟩
theorem cutP_hit {a : ByteArray} {t : List UInt8} {x : ByteArray} (h : bl x = bl a ++ t) : strings_CutPrefix.f x a = some (ofL t, true) := by
  have h1 : Lib.hasPrefix (bl x) (bl a) = true := pre_iff.2 ⟨t, h⟩
  have h2 : Lib.trimPrefix (bl x) (bl a) = t := by unfold Lib.trimPrefix; rw [h1, h]; simp
  unfold strings_CutPrefix.f
  rw [show x.data.toList = bl x from rfl, show a.data.toList = bl a from rfl, h1, h2]
theorem cutP_miss {a x : ByteArray} (h : ∀ t, bl x ≠ bl a ++ t) : strings_CutPrefix.f x a = some (x, false) := by
  have h1 : Lib.hasPrefix (bl x) (bl a) = false := by
    cases c : Lib.hasPrefix (bl x) (bl a) with
    | false => rfl
    | true => obtain ⟨t, e⟩ := pre_iff.1 c; exact absurd e (h t)
  have h2 : Lib.trimPrefix (bl x) (bl a) = bl x := by unfold Lib.trimPrefix; rw [h1]; simp
  unfold strings_CutPrefix.f
  rw [show x.data.toList = bl x from rfl, show a.data.toList = bl a from rfl, h1, h2]
theorem cutB_hit {x a : ByteArray} {c : UInt8} {body rest : List UInt8} (ha : bl a = [c]) (h : bl x = body ++ c :: rest) (hn : c ∉ body) (hs : x.size ≤ 1073741824) : strings_Cut.f x a = some (ofL body, ofL rest, true) := by
  unfold strings_Cut.f
  rw [if_pos (by omega), show a.data.toList = [c] from ha, cut_hit h hn]
theorem cutB_miss {x a : ByteArray} {c : UInt8} (ha : bl a = [c]) (hn : c ∉ bl x) (hs : x.size ≤ 1073741824) : strings_Cut.f x a = some (x, E0, false) := by
  unfold strings_Cut.f
  rw [if_pos (by omega), show a.data.toList = [c] from ha, cut_miss hn]
noncomputable def entN : List UInt8 → Option UInt8
  | [] => none
  | c :: d => if c = 35 ∧ (numR d 126).2 = true ∧ 32 ≤ (numR d 126).1 then some (UInt8.ofNat (numR d 126).1.toNat) else none
theorem entN_cons (c : UInt8) (d : List UInt8) : entN (c :: d) = if c = 35 ∧ (numR d 126).2 = true ∧ 32 ≤ (numR d 126).1 then some (UInt8.ofNat (numR d 126).1.toNat) else none := rfl
noncomputable def entL (l : List UInt8) : Option UInt8 := if l = [97, 109, 112] then some 38 else if l = [108, 116] then some 60 else if l = [103, 116] then some 62 else if l = [113, 117, 111, 116] then some 34 else if l = [97, 112, 111, 115] then some 39 else entN l
noncomputable def entI (l : List UInt8) : Int := match entL l with
  | some b => (b.toNat : Int)
  | none => -1
noncomputable def entB (l : List UInt8) : ByteArray × Bool := match entL l with
  | some b => (ofL [b], true)
  | none => (E0, false)
theorem numR_most {l : List UInt8} {most : Int} (h : (numR l most).2 = true) : 0 ≤ (numR l most).1 ∧ (numR l most).1 ≤ most ∧ Canon l := by
  by_cases c : Canon l ∧ l.length ≤ 7 ∧ (val l : Int) ≤ most
  · rw [numR_yes c]; exact ⟨by omega, c.2.2, c.1⟩
  · rw [numR_no c] at h; cases h
theorem entN_some {l : List UInt8} {b : UInt8} (h : entN l = some b) : ∃ d, l = 35 :: d ∧ (numR d 126).2 = true ∧ 32 ≤ (numR d 126).1 ∧ (b.toNat : Int) = (numR d 126).1 ∧ Canon d := by
  cases l with
  | nil => cases h
  | cons c d =>
    rw [entN_cons] at h
    by_cases hc : c = 35 ∧ (numR d 126).2 = true ∧ 32 ≤ (numR d 126).1
    · rw [if_pos hc] at h
      obtain ⟨rfl, h1, h2⟩ := hc
      have hm := numR_most h1
      injection h with h
      refine ⟨d, rfl, h1, h2, ?_, hm.2.2⟩
      rw [← h, UInt8.toNat_ofNat']
      omega
    · rw [if_neg hc] at h
      cases h
theorem ent_byte {l : List UInt8} {b : UInt8} (h : entL l = some b) : inB 32 126 b = true ∧ (60 : UInt8) ∉ l := by
  unfold entL at h
  by_cases h1 : l = [97, 109, 112]
  · rw [if_pos h1] at h; injection h with h; subst h; subst h1; exact ⟨by decide, by decide⟩
  rw [if_neg h1] at h
  by_cases h2 : l = [108, 116]
  · rw [if_pos h2] at h; injection h with h; subst h; subst h2; exact ⟨by decide, by decide⟩
  rw [if_neg h2] at h
  by_cases h3 : l = [103, 116]
  · rw [if_pos h3] at h; injection h with h; subst h; subst h3; exact ⟨by decide, by decide⟩
  rw [if_neg h3] at h
  by_cases h4 : l = [113, 117, 111, 116]
  · rw [if_pos h4] at h; injection h with h; subst h; subst h4; exact ⟨by decide, by decide⟩
  rw [if_neg h4] at h
  by_cases h5 : l = [97, 112, 111, 115]
  · rw [if_pos h5] at h; injection h with h; subst h; subst h5; exact ⟨by decide, by decide⟩
  rw [if_neg h5] at h
  obtain ⟨d, rfl, h6, h7, h8, h9⟩ := entN_some h
  have hm := numR_most h6
  refine ⟨by unfold inB; exact decide_eq_true ⟨by omega, by omega⟩, fun hx => ?_⟩
  rcases List.mem_cons.1 hx with hx | hx
  · revert hx; decide
  · have := h9.2.1 60 hx
    revert this; decide
theorem specJ0F (s : ByteArray) : Ev (fun k => spec_l7Entity.j0 k s false) (-1) := by
  refine Ev.step (fun k => spec_l7Entity.j0.eq_2 ..) ?_
  exact ev_iteF nofun (Ev.now _)
theorem specJ0T {s : ByteArray} {c : UInt8} {d : List UInt8} (h : bl s = c :: d) (hs : s.size ≤ 1073741824) : Ev (fun k => spec_l7Entity.j0 k s true) (if (numR d 126).2 = true ∧ 32 ≤ (numR d 126).1 then (numR d 126).1 else -1) := by
  obtain ⟨_, _, h3⟩ := tl_cons h
  have hl := bl_len s
  rw [h, List.length_cons] at hl
  have hl3 := bl_len (s.extract 1 s.size)
  rw [h3] at hl3
  refine Ev.step (fun k => spec_l7Entity.j0.eq_2 ..) ?_
  refine ev_iteT rfl ?_
  refine ev_iteT (show (1 : Int) ≤ (s.size : Int) by omega) ?_
  have hn := specNum (s := s.extract 1 s.size) (by omega) 126
  rw [h3] at hn
  refine Ev.bind hn ?_
  by_cases c1 : (numR d 126).2 = true
  · refine ev_iteT c1 ?_
    by_cases c2 : 32 ≤ (numR d 126).1
    · exact ev_iteT c2 (ev_cast (Ev.now _) (if_pos (And.intro c1 c2)).symm)
    · exact ev_iteF c2 (ev_cast (Ev.now _) (if_neg (fun hh : _ ∧ _ => c2 hh.2)).symm)
  · exact ev_iteF c1 (ev_cast (Ev.now _) (if_neg (fun hh : _ ∧ _ => c1 hh.1)).symm)
theorem specEnt {s : ByteArray} (hs : s.size ≤ 1073741824) : Ev (fun k => spec_l7Entity.f k s) (entI (bl s)) := by
  unfold spec_l7Entity.f entI entL
  simp only [tl_eq]
  by_cases h1 : bl s = [97, 109, 112]
  · simp only [if_pos h1]; exact Ev.now _
  simp only [if_neg h1]
  by_cases h2 : bl s = [108, 116]
  · simp only [if_pos h2]; exact Ev.now _
  simp only [if_neg h2]
  by_cases h3 : bl s = [103, 116]
  · simp only [if_pos h3]; exact Ev.now _
  simp only [if_neg h3]
  by_cases h4 : bl s = [113, 117, 111, 116]
  · simp only [if_pos h4]; exact Ev.now _
  simp only [if_neg h4]
  by_cases h5 : bl s = [97, 112, 111, 115]
  · simp only [if_pos h5]; exact Ev.now _
  simp only [if_neg h5]
  have hl := bl_len s
  cases hb : bl s with
  | nil =>
    rw [hb] at hl
    simp only [List.length_nil] at hl
    exact ev_iteF (by omega) (specJ0F s)
  | cons c d =>
    rw [hb, List.length_cons] at hl
    cases d with
    | nil =>
      simp only [List.length_nil] at hl
      have : entN [c] = none := by
        rw [entN_cons]
        rw [if_neg]
        rintro ⟨_, h, _⟩
        exact (numR_most h).2.2.1 rfl
      rw [this]
      exact ev_iteF (by omega) (specJ0F s)
    | cons d0 d1 =>
      simp only [List.length_cons] at hl
      obtain ⟨g1, g2, _⟩ := tl_cons hb
      refine ev_iteT (by omega) (ev_iteT g1 ?_)
      have e35 : ((c.toNat : Int) = 35) = (c = 35) := eq_byte c 35 (by omega)
      rw [g2]
      by_cases c0 : c = 35
      · have hT := specJ0T hb hs
        rw [show ((c.toNat : Int) == 35) = true from beq_iff_eq.2 (by rw [e35]; exact c0)]
        rw [entN_cons]
        by_cases c1 : (numR (d0 :: d1) 126).2 = true ∧ 32 ≤ (numR (d0 :: d1) 126).1
        · rw [if_pos c1] at hT
          rw [if_pos ⟨c0, c1⟩]
          have hm := numR_most c1.1
          have : ((UInt8.ofNat (numR (d0 :: d1) 126).1.toNat).toNat : Int) = (numR (d0 :: d1) 126).1 := by rw [UInt8.toNat_ofNat']; omega
          show Ev _ ((UInt8.ofNat (numR (d0 :: d1) 126).1.toNat).toNat : Int)
          rw [this]; exact hT
        · rw [if_neg c1] at hT
          rw [if_neg (fun hh => c1 hh.2)]; exact hT
      · rw [show ((c.toNat : Int) == 35) = false from beq_eq_false_iff_ne.2 (by rw [Ne, e35]; exact c0)]
        rw [entN_cons]
        rw [if_neg (fun hh => c0 hh.1)]
        exact specJ0F s
theorem implEnt {s : ByteArray} (hs : s.size ≤ 1073741824) : impl_named.f s = some (entB (bl s)) := by
  unfold impl_named.f entB entL
  simp only [tl_eq]
  by_cases h1 : bl s = [97, 109, 112]
  · simp only [if_pos h1]
  simp only [if_neg h1]
  by_cases h2 : bl s = [108, 116]
  · simp only [if_pos h2]
  simp only [if_neg h2]
  by_cases h3 : bl s = [103, 116]
  · simp only [if_pos h3]
  simp only [if_neg h3]
  by_cases h4 : bl s = [113, 117, 111, 116]
  · simp only [if_pos h4]
  simp only [if_neg h4]
  by_cases h5 : bl s = [97, 112, 111, 115]
  · simp only [if_pos h5]
  simp only [if_neg h5]
  have miss : (∀ d, bl s ≠ 35 :: d) → entN (bl s) = none := by
    intro h
    cases hb : bl s with
    | nil => rfl
    | cons c d =>
      rw [entN_cons]
      rw [if_neg]
      rintro ⟨rfl, _⟩
      exact h d hb
  by_cases c0 : ∃ d, bl s = 35 :: d
  · obtain ⟨d, hd⟩ := c0
    have hl := bl_len s
    rw [hd, List.length_cons] at hl
    rw [cutP_hit (t := d) hd]
    simp only [Option.bind_some]
    rw [implNum (by rw [size_ofL]; omega), bl_ofL, hd]
    simp only [Option.bind_some, if_true]
    rw [entN_cons]
    by_cases c1 : (numR d 126).2 = true
    · rw [if_pos c1]
      by_cases c2 : 32 ≤ (numR d 126).1
      · have hm := numR_most c1
        rw [if_neg (by omega), if_pos ⟨rfl, c1, c2⟩]
        show _ = some (ofL [UInt8.ofNat (numR d 126).1.toNat], true)
        rw [show (numR d 126).1 % 256 = (numR d 126).1 by omega]
        rfl
      · rw [if_pos (by omega), if_neg (fun hh => c2 hh.2.2)]
    · rw [if_neg c1, if_neg (fun hh => c1 hh.2.1)]
  · rw [cutP_miss (fun t e => c0 ⟨t, e⟩), miss (fun d e => c0 ⟨d, e⟩)]
    simp only [Option.bind_some]
    rw [implNum hs]
    simp only [Option.bind_some, Bool.false_eq_true, if_false]
end Go.Proofs.YtegkokdncakadaaGreatDoor.L

/- Marked texts read, second part: Unescape of both. No condition. -/
set_option linter.unusedSimpArgs false
set_option linter.unusedVariables false
namespace Go.Proofs.YtegkokdncakadaaGreatDoor.L
open Go.RowKit Go.Proofs.YtegkokdncakadaaGreatDoorW.PrintWords Go.Proofs.YtegkokdncakadaaGreatDoorW.PrintLast Go.Proofs.YtegkokdncakadaaGreatDoor.Q
def outI (l : List UInt8) : List Int := l.map fun c => (c.toNat : Int)
theorem outI_snoc (l : List UInt8) (c : UInt8) : outI l ++ [(c.toNat : Int)] = outI (l ++ [c]) := by simp [outI]
theorem outI_len (l : List UInt8) : (outI l).length = l.length := by simp [outI]
theorem outI_str (l : List UInt8) : strOfNums (outI l) = ofL l := by
  unfold strOfNums outI
  rw [List.map_map]
  congr 2
  rw [List.map_congr_left (g := id)]
  · simp
  · intro c _
    simp [UInt8.ofNat_toNat]
theorem ofL_app (a b : List UInt8) : ofL a ++ ofL b = ofL (a ++ b) := bl_inj (by rw [bl_append, bl_ofL, bl_ofL, bl_ofL])
theorem ext_mid {s : ByteArray} {p m r : List UInt8} (h : bl s = p ++ (m ++ r)) : s.extract p.length (p ++ m).length = ofL m := by
  apply bl_inj
  rw [bl_extract, h, bl_ofL, List.length_append, List.take_length_add_append, List.drop_left, List.take_left]
theorem c60 (c : UInt8) : ((c.toNat : Int) = 60) = (c = 60) := eq_byte c 60 (by omega)
theorem c38 (c : UInt8) : ((c.toNat : Int) = 38) = (c = 38) := eq_byte c 38 (by omega)
theorem c59 (c : UInt8) : ((c.toNat : Int) = 59) = (c = 59) := eq_byte c 59 (by omega)
theorem c34 (c : UInt8) : ((c.toNat : Int) = 34) = (c = 34) := eq_byte c 34 (by omega)
section
variable {s : ByteArray} {pre x out : List UInt8} {c : UInt8} {r : ByteArray × Bool}
theorem uEnd (h : bl s = pre ++ []) : Ev (fun k => spec_Unescape.l0 k s (outI out) pre.length) (ofL out, true) := by
  refine Ev.step (fun k => spec_Unescape.l0.eq_2 ..) ?_
  refine ev_iteF (bend_at h) ?_
  rw [outI_str]; exact Ev.now _
theorem uLt (h : bl s = pre ++ 60 :: x) : Ev (fun k => spec_Unescape.l0 k s (outI out) pre.length) (E0, false) := by
  refine Ev.step (fun k => spec_Unescape.l0.eq_2 ..) ?_
  refine ev_iteT (blt_at h) (ev_iteT (nonneg_at _) (ev_iteT ?_ (Ev.now _)))
  rw [bt_at' h]; rfl
theorem uChar (h : bl s = pre ++ c :: x) (h1 : c ≠ 60) (h2 : c ≠ 38) (hs : s.size ≤ 1073741824) (ho : out.length ≤ 1073741824) (k : Ev (fun k => spec_Unescape.l0 k s (outI (out ++ [c])) (pre ++ [c]).length) r) : Ev (fun k => spec_Unescape.l0 k s (outI out) pre.length) r := by
  refine Ev.step (fun k => spec_Unescape.l0.eq_2 ..) ?_
  refine ev_iteT (blt_at h) (ev_iteT (nonneg_at _) ?_)
  rw [bt_at' h, bnext_at h (by rw [maxLen_eq]; omega), outI_snoc]
  refine ev_iteF (by rw [c60]; exact h1) (ev_iteF (by rw [c38]; exact h2) (ev_iteT (by rw [outI_len]; omega) k))
theorem uRun (hs : s.size ≤ 1073741824) : ∀ (mid pre out : List UInt8), bl s = pre ++ (mid ++ x) → 60 ∉ mid → 38 ∉ mid → out.length + mid.length ≤ 1073741824 → Ev (fun k => spec_Unescape.l0 k s (outI (out ++ mid)) (pre ++ mid).length) r → Ev (fun k => spec_Unescape.l0 k s (outI out) pre.length) r := by
  intro mid
  induction mid with
  | nil => intro pre out _ _ _ _ k; simpa using k
  | cons c mid ih =>
    intro pre out h h1 h2 ho k
    simp only [List.length_cons] at ho
    refine uChar (c := c) (x := mid ++ x) (by rw [h]; rfl) (fun e => h1 (by simp [e])) (fun e => h2 (by simp [e])) hs (by omega) ?_
    refine ih (pre ++ [c]) (out ++ [c]) (by rw [h]; simp) (fun e => h1 (List.mem_cons_of_mem _ e)) (fun e => h2 (List.mem_cons_of_mem _ e)) (by simp only [List.length_append, List.length_cons, List.length_nil]; omega) ?_
    simpa using k
theorem uSeek (hs : s.size ≤ 1073741824) (O : List Int) {i : Int} : ∀ (mid pre : List UInt8), bl s = pre ++ (mid ++ x) → 59 ∉ mid → Ev (fun k => spec_Unescape.l1 k s O i (pre ++ mid).length) r → Ev (fun k => spec_Unescape.l1 k s O i pre.length) r := by
  intro mid
  induction mid with
  | nil => intro pre _ _ k; simpa using k
  | cons c mid ih =>
    intro pre h h1 k
    have h' : bl s = pre ++ c :: (mid ++ x) := by rw [h]; rfl
    refine Ev.step (fun k => spec_Unescape.l1.eq_2 ..) ?_
    refine ev_iteT (blt_at h') (ev_iteT (nonneg_at _) ?_)
    rw [bt_at' h', bnext_at h' (by rw [maxLen_eq]; omega)]
    refine ev_iteF (by rw [c59]; exact fun e => h1 (by simp [e])) ?_
    exact ih (pre ++ [c]) (by rw [h]; simp) (fun e => h1 (List.mem_cons_of_mem _ e)) (by simpa using k)
theorem uAmp (h : bl s = pre ++ 38 :: x) (hs : s.size ≤ 1073741824) (k : Ev (fun k => spec_Unescape.l1 k s (outI out) pre.length (pre ++ [38]).length) r) : Ev (fun k => spec_Unescape.l0 k s (outI out) pre.length) r := by
  refine Ev.step (fun k => spec_Unescape.l0.eq_2 ..) ?_
  refine ev_iteT (blt_at h) (ev_iteT (nonneg_at _) ?_)
  rw [bt_at' h, bnext_at h (by rw [maxLen_eq]; omega)]
  exact ev_iteF (by rw [c60]; decide) (ev_iteT (by rw [c38]) k)
theorem uMiss (h : bl s = pre ++ 38 :: x) (hs : s.size ≤ 1073741824) (hn : 59 ∉ x) : Ev (fun k => spec_Unescape.l0 k s (outI out) pre.length) (E0, false) := by
  refine uAmp h hs ?_
  refine uSeek (x := []) hs _ x (pre ++ [38]) (by rw [h]; simp) hn ?_
  have h' : bl s = ((pre ++ [38]) ++ x) ++ [] := by rw [h]; simp
  refine Ev.step (fun k => spec_Unescape.l1.eq_2 ..) ?_
  refine ev_iteF (bend_at h') ?_
  refine Ev.step (fun k => spec_Unescape.j2.eq_2 ..) ?_
  refine ev_iteT ?_ (Ev.now _)
  have hl := bl_len s
  rw [h', List.append_nil] at hl
  rw [← hl]
theorem uHit {nm back : List UInt8} (h : bl s = pre ++ 38 :: (nm ++ 59 :: back)) (hs : s.size ≤ 1073741824) (hn : 59 ∉ nm) (ho : out.length ≤ 1073741824)
    (h0 : entL nm = none → r = (E0, false)) (h1 : ∀ b, entL nm = some b → Ev (fun k => spec_Unescape.l0 k s (outI (out ++ [b])) (pre ++ 38 :: (nm ++ [59])).length) r) : Ev (fun k => spec_Unescape.l0 k s (outI out) pre.length) r := by
  refine uAmp h hs ?_
  refine uSeek (x := 59 :: back) hs _ nm (pre ++ [38]) (by rw [h]; simp) hn ?_
  have h' : bl s = ((pre ++ [38]) ++ nm) ++ 59 :: back := by rw [h]; simp
  have hl := bl_len s
  rw [h'] at hl
  simp only [List.length_append, List.length_cons, List.length_nil] at hl
  refine Ev.step (fun k => spec_Unescape.l1.eq_2 ..) ?_
  refine ev_iteT (blt_at h') (ev_iteT (nonneg_at _) (ev_iteT (by rw [bt_at' h', c59]) ?_))
  refine Ev.step (fun k => spec_Unescape.j2.eq_2 ..) ?_
  have hb := blt_at h'
  have e1 : wrap64 ((pre.length : Int) + 1) = ((pre ++ [38]).length : Int) := bnext_at h (by rw [maxLen_eq]; omega)
  have e2 : s.extract (pre ++ [38]).length ((pre ++ [38]) ++ nm).length = ofL nm := ext_mid (r := 59 :: back) (by rw [h']; simp)
  have e3 : wrap64 ((((pre ++ [38]) ++ nm).length : Int) + 1) = ((pre ++ 38 :: (nm ++ [59])).length : Int) := by rw [bnext_at h' (by rw [maxLen_eq]; omega)]; simp
  rw [e1, e3, Int.toNat_natCast, Int.toNat_natCast, e2]
  refine ev_iteF (by omega) (ev_iteT (nonneg_at _) (ev_iteT (by simp only [List.length_append]; omega) (ev_iteT (by omega) ?_)))
  have he := specEnt (s := ofL nm) (by rw [size_ofL]; omega)
  rw [bl_ofL] at he
  refine Ev.bind he ?_
  cases hb2 : entL nm with
  | none =>
    have : entI nm = -1 := by unfold entI; rw [hb2]
    rw [h0 hb2]
    exact ev_iteT (by rw [this]; decide) (Ev.now _)
  | some b =>
    have hI : entI nm = (b.toNat : Int) := by unfold entI; rw [hb2]
    refine ev_iteF (by rw [hI]; omega) (Ev.bind he (ev_iteT (by rw [outI_len]; omega) ?_))
    have hlt := b.toNat_lt
    rw [hI, show ((b.toNat : Int) % 256) = (b.toNat : Int) by omega, outI_snoc]
    exact h1 b hb2
end
theorem uNo {s : ByteArray} (hs : s.size ≤ 1073741824) : ∀ (n : Nat) (x pre out : List UInt8), x.length ≤ n → bl s = pre ++ x → 60 ∈ x → out.length + x.length ≤ 1073741824 → Ev (fun k => spec_Unescape.l0 k s (outI out) pre.length) (E0, false) := by
  intro n
  induction n with
  | zero =>
    intro x pre out hn _ h60 _
    rw [List.length_eq_zero_iff.1 (Nat.le_zero.1 hn)] at h60
    cases h60
  | succ n ih =>
    intro x pre out hn h h60 ho
    cases x with
    | nil => cases h60
    | cons c x =>
      simp only [List.length_cons] at hn ho
      by_cases h1 : c = 60
      · subst h1; exact uLt h
      have h60' : 60 ∈ x := (List.mem_cons.1 h60).elim (fun e => absurd e.symm h1) id
      by_cases h2 : c = 38
      · subst h2
        by_cases h3 : 59 ∈ x
        · obtain ⟨nm, back, rfl, h4⟩ := first_of h3
          simp only [List.length_append, List.length_cons] at hn ho
          refine uHit h hs h4 (by omega) (fun _ => rfl) (fun b hb => ?_)
          have h5 := (ent_byte hb).2
          refine ih back _ _ (by omega) (by rw [h]; simp) ?_ (by simp only [List.length_append, List.length_cons, List.length_nil]; omega)
          rcases List.mem_append.1 h60' with h6 | h6
          · exact absurd h6 h5
          · rcases List.mem_cons.1 h6 with h6 | h6
            · exact absurd h6 (by decide)
            · exact h6
        · exact uMiss h hs h3
      · refine uChar h h1 h2 hs (by omega) ?_
        exact ih x _ _ (by omega) (by rw [h]; simp) h60' (by simp only [List.length_append, List.length_cons, List.length_nil]; omega)
theorem plain_app {a b : List UInt8} : plainL (a ++ b) = (plainL a && plainL b) := by simp [plainL]
theorem plain_cons {c : UInt8} {b : List UInt8} : plainL (c :: b) = (inB 32 126 c && plainL b) := by simp [plainL]
theorem uBoth {s : ByteArray} (hs : s.size ≤ 1073741824) : ∀ (n : Nat) (x pre out : List UInt8), x.length ≤ n → bl s = pre ++ x → 60 ∉ x → out.length + x.length ≤ 1073741824 → plainL x = true → plainL out = true →
    ∃ (t : List UInt8) (ok : Bool), Ev (fun k => spec_Unescape.l0 k s (outI out) pre.length) (ofL t, ok) ∧ Ev (fun k => impl_Unescape.l0 k (ofL x) (ofL out)) (ofL t, ok) ∧ plainL t = true ∧ t.length ≤ out.length + x.length := by
  intro n
  induction n with
  | zero =>
    intro x pre out hn h _ ho hp hq
    obtain rfl := List.length_eq_zero_iff.1 (Nat.le_zero.1 hn)
    refine ⟨out, true, uEnd h, ?_, hq, by simp⟩
    refine Ev.step (fun k => impl_Unescape.l0.eq_2 ..) ?_
    refine ev_bindS (cutB_miss (c := 38) rfl (by rw [bl_ofL]; simp) (by rw [size_ofL]; simp)) ?_
    refine ev_iteT (by rw [size_ofL, size_ofL]; omega) (ev_iteF nofun ?_)
    rw [ofL_app, List.append_nil]; exact Ev.now _
  | succ n ih =>
    intro x pre out hn h h60 ho hp hq
    by_cases h38 : 38 ∈ x
    · obtain ⟨front, back0, rfl, hf⟩ := first_of h38
      simp only [List.length_append, List.length_cons] at hn ho
      rw [plain_app, plain_cons, Bool.and_eq_true, Bool.and_eq_true] at hp
      have hf60 : 60 ∉ front := fun e => h60 (List.mem_append_left _ e)
      have hb60 : 60 ∉ back0 := fun e => h60 (List.mem_append_right _ (List.mem_cons_of_mem _ e))
      have h' : bl s = (pre ++ front) ++ 38 :: back0 := by rw [h]; simp
      have sp : ∀ {r}, Ev (fun k => spec_Unescape.l0 k s (outI (out ++ front)) (pre ++ front).length) r → Ev (fun k => spec_Unescape.l0 k s (outI out) pre.length) r := fun k => uRun hs front pre out h hf60 hf (by omega) k
      have hcut : strings_Cut.f (ofL (front ++ 38 :: back0)) (⟨#[38]⟩ : ByteArray) = some (ofL front, ofL back0, true) := cutB_hit rfl (bl_ofL _) hf (by rw [size_ofL]; simp only [List.length_append, List.length_cons]; omega)
      by_cases h59 : 59 ∈ back0
      · obtain ⟨nm, back, rfl, hm⟩ := first_of h59
        simp only [List.length_append, List.length_cons] at hn ho
        rw [plain_app, plain_cons, Bool.and_eq_true, Bool.and_eq_true] at hp
        have hcut2 : strings_Cut.f (ofL (nm ++ 59 :: back)) (⟨#[59]⟩ : ByteArray) = some (ofL nm, ofL back, true) := cutB_hit rfl (bl_ofL _) hm (by rw [size_ofL]; simp only [List.length_append, List.length_cons]; omega)
        have hent := implEnt (s := ofL nm) (by rw [size_ofL]; omega)
        rw [bl_ofL] at hent
        cases hb : entL nm with
        | none =>
          have hB : entB nm = (E0, false) := by unfold entB; rw [hb]
          rw [hB] at hent
          refine ⟨[], false, sp (uHit h' hs hm (by simp only [List.length_append]; omega) (fun _ => rfl) (fun b hb' => by rw [hb] at hb'; cases hb')), ?_, rfl, by simp⟩
          refine Ev.step (fun k => impl_Unescape.l0.eq_2 ..) ?_
          refine ev_bindS hcut (ev_iteT (by rw [size_ofL, size_ofL]; omega) (ev_iteT rfl (ev_bindS hcut2 (ev_bindS hent (ev_iteT rfl (ev_iteF nofun (Ev.now _)))))))
        | some b =>
          have hB : entB nm = (ofL [b], true) := by unfold entB; rw [hb]
          rw [hB] at hent
          have hbb := ent_byte hb
          obtain ⟨t, ok, e1, e2, e3, e4⟩ := ih back (pre ++ front ++ 38 :: (nm ++ [59])) ((out ++ front) ++ [b]) (by omega) (by rw [h]; simp) (fun e => hb60 (by simp [e])) (by simp only [List.length_append, List.length_cons, List.length_nil]; omega) hp.2.2.2.2 (by rw [plain_app, plain_app, plain_cons, hq, hp.1, hbb.1]; rfl)
          simp only [List.length_append, List.length_cons, List.length_nil] at e4
          refine ⟨t, ok, sp (uHit h' hs hm (by simp only [List.length_append]; omega) (fun hb' => by rw [hb] at hb'; cases hb') (fun b' hb' => ?_)), ?_, e3, by simp only [List.length_append, List.length_cons]; omega⟩
          · rw [hb] at hb'
            injection hb' with hb'
            subst hb'
            exact e1
          · refine Ev.step (fun k => impl_Unescape.l0.eq_2 ..) ?_
            refine ev_bindS hcut (ev_iteT (by rw [size_ofL, size_ofL]; omega) (ev_iteT rfl (ev_bindS hcut2 (ev_bindS hent (ev_iteT rfl (ev_iteT rfl ?_))))))
            rw [ofL_app, ofL_app]
            exact ev_iteT (by rw [size_ofL, size_ofL]; simp only [List.length_append, List.length_cons, List.length_nil]; omega) e2
      · have hcut2 : strings_Cut.f (ofL back0) (⟨#[59]⟩ : ByteArray) = some (ofL back0, E0, false) := cutB_miss rfl (by rw [bl_ofL]; exact h59) (by rw [size_ofL]; omega)
        have hent := implEnt (s := ofL back0) (by rw [size_ofL]; omega)
        refine ⟨[], false, sp (uMiss h' hs h59), ?_, rfl, by simp⟩
        refine Ev.step (fun k => impl_Unescape.l0.eq_2 ..) ?_
        exact ev_bindS hcut (ev_iteT (by rw [size_ofL, size_ofL]; omega) (ev_iteT rfl (ev_bindS hcut2 (ev_bindS hent (ev_iteF nofun (Ev.now _))))))
    · refine ⟨out ++ x, true, ?_, ?_, by rw [plain_app, hp, hq]; rfl, by simp⟩
      · refine uRun (x := []) hs x pre out (by simpa using h) h60 h38 (by omega) ?_
        exact uEnd (by simpa using h)
      · refine Ev.step (fun k => impl_Unescape.l0.eq_2 ..) ?_
        refine ev_bindS (cutB_miss (c := 38) rfl (by rw [bl_ofL]; exact h38) (by rw [size_ofL]; omega)) ?_
        refine ev_iteT (by rw [size_ofL, size_ofL]; omega) (ev_iteF nofun ?_)
        rw [ofL_app]; exact Ev.now _
theorem contains60 {x : List UInt8} : strings_Contains.f (ofL x) (⟨#[60]⟩ : ByteArray) = some (decide (60 ∈ x)) := by
  show some (decide (0 ≤ Lib.indexByte (ofL x).data.toList 60)) = _
  congr 1
  rw [show (ofL x).data.toList = x from bl_ofL x]
  by_cases h : (60 : UInt8) ∈ x
  · obtain ⟨b, r, e, hn⟩ := first_of h
    rw [index_hit e hn, decide_eq_true h, decide_eq_true (by omega)]
  · rw [index_miss h, decide_eq_false h, decide_eq_false (by omega)]
theorem unBoth {s : ByteArray} (hs : s.size ≤ 1073741824) (hp : plainL (bl s) = true) : ∃ (t : List UInt8) (ok : Bool), Ev (fun k => spec_Unescape.f k s) (ofL t, ok) ∧ Ev (fun k => impl_Unescape.f k s) (ofL t, ok) ∧ plainL t = true ∧ t.length ≤ s.size := by
  have hl := bl_len s
  have hc := contains60 (x := bl s)
  rw [ofL_bl] at hc
  by_cases h : (60 : UInt8) ∈ bl s
  · refine ⟨[], false, ?_, ?_, rfl, by simp⟩
    · exact uNo hs _ (bl s) [] [] (Nat.le_refl _) rfl h (by simp only [List.length_nil]; omega)
    · unfold impl_Unescape.f
      exact ev_bindS hc (ev_iteT (decide_eq_true h) (Ev.now _))
  · obtain ⟨t, ok, e1, e2, e3, e4⟩ := uBoth hs _ (bl s) [] [] (Nat.le_refl _) rfl h (by simp only [List.length_nil]; omega) hp rfl
    rw [ofL_bl] at e2
    simp only [List.length_nil] at e4
    refine ⟨t, ok, e1, ?_, e3, by omega⟩
    unfold impl_Unescape.f
    exact ev_bindS hc (ev_iteF (by rw [decide_eq_false h]; nofun) e2)
end Go.Proofs.YtegkokdncakadaaGreatDoor.L

/- Marked texts read, third part: marks and pieces of both. No condition. -/
set_option linter.unusedSimpArgs false
set_option linter.unusedVariables false
namespace Go.Proofs.YtegkokdncakadaaGreatDoor.L
open Go.RowKit Go.Proofs.YtegkokdncakadaaGreatDoorW.PrintWords Go.Proofs.YtegkokdncakadaaGreatDoorW.PrintLast Go.Proofs.YtegkokdncakadaaGreatDoor.Q
theorem atP {s a : ByteArray} {pre x : List UInt8} (h : bl s = pre ++ x) (hs : s.size ≤ 1073741824) (ha : a.size ≤ 100) : spec_l7At.f s (pre.length : Int) a = some (Lib.hasPrefix x (bl a)) := by
  have hl := bl_len s
  have hla := bl_len a
  rw [h, List.length_append] at hl
  have hw : wrap64 ((pre.length : Int) + (a.size : Int)) = ((pre.length + a.size : Nat) : Int) := by rw [wrap_id (by omega) (by omega)]; omega
  unfold spec_l7At.f
  rw [hw]
  by_cases c : a.size ≤ x.length
  · rw [if_pos (by omega), if_pos (by omega), if_pos (by omega)]
    have hx : bl (s.extract pre.length (pre.length + a.size)) = x.take a.size := by
      rw [bl_extract, h, List.take_length_add_append, List.drop_left]
    have : (s.extract ((pre.length : Nat) : Int).toNat ((pre.length + a.size : Nat) : Int).toNat).toList = x.take a.size := by
      rw [Int.toNat_natCast, Int.toNat_natCast, ba_toList]; exact hx
    rw [this, ba_toList]
    congr 1
    apply Bool.eq_iff_iff.2
    rw [beq_iff_eq, pre_iff]
    constructor
    · intro e; exact ⟨x.drop a.size, by rw [show bl a = x.take a.size from e.symm, List.take_append_drop]⟩
    · rintro ⟨t, rfl⟩
      rw [← hla, List.take_left]
  · rw [if_neg (by omega)]
    congr 1
    symm
    apply Bool.eq_false_iff.2
    rw [ne_eq, pre_iff]
    rintro ⟨t, rfl⟩
    rw [List.length_append] at c
    omega
theorem at_hit {s a : ByteArray} {pre t : List UInt8} (h : bl s = pre ++ (bl a ++ t)) (hs : s.size ≤ 1073741824) (ha : a.size ≤ 100) : spec_l7At.f s (pre.length : Int) a = some true := by
  rw [atP h hs ha]; congr 1; exact pre_iff.2 ⟨t, rfl⟩
theorem at_miss {s a : ByteArray} {pre x : List UInt8} (h : bl s = pre ++ x) (hn : ∀ t, x ≠ bl a ++ t) (hs : s.size ≤ 1073741824) (ha : a.size ≤ 100) : spec_l7At.f s (pre.length : Int) a = some false := by
  rw [atP h hs ha]; congr 1
  cases c : Lib.hasPrefix x (bl a) with
  | false => rfl
  | true => obtain ⟨t, e⟩ := pre_iff.1 c; exact absurd e (hn t)
def isNm (c : UInt8) : Bool := inB 97 122 c || (inB 48 57 c || decide (c = 45))
def NmEnd (rest : List UInt8) : Prop := ∀ c r, rest = c :: r → isNm c = false
theorem nm_split : ∀ x : List UInt8, ∃ nm rest, x = nm ++ rest ∧ (∀ c ∈ nm, isNm c = true) ∧ NmEnd rest := by
  intro x
  induction x with
  | nil => exact ⟨[], [], rfl, fun _ h => (by cases h), fun c r h => (by cases h)⟩
  | cons c x ih =>
    cases hc : isNm c with
    | false => exact ⟨[], c :: x, rfl, fun _ h => (by cases h), fun d r h => by injection h with h _; rw [← h]; exact hc⟩
    | true =>
      obtain ⟨nm, rest, rfl, h1, h2⟩ := ih
      exact ⟨c :: nm, rest, rfl, fun d hd => (List.mem_cons.1 hd).elim (fun e => e ▸ hc) (h1 d), h2⟩
theorem specName {s : ByteArray} (hs : s.size ≤ 1073741824) {rest : List UInt8} (hr : NmEnd rest) : ∀ (nm pre : List UInt8), bl s = pre ++ (nm ++ rest) → (∀ c ∈ nm, isNm c = true) → Ev (fun k => spec_l7Name.l0 k s pre.length) ((pre ++ nm).length : Int) := by
  intro nm
  induction nm with
  | nil =>
    intro pre h _
    rw [List.append_nil]
    refine Ev.step (fun k => spec_l7Name.l0.eq_2 ..) ?_
    cases rest with
    | nil => exact ev_iteF (bend_at h) (Ev.now _)
    | cons c r =>
      have hc := hr c r rfl
      unfold isNm at hc
      rw [Bool.or_eq_false_iff, Bool.or_eq_false_iff] at hc
      refine ev_iteT (blt_at h) (ev_iteT (nonneg_at _) ?_)
      rw [bt_at' h, specSmall1, specDigit1]
      refine ev_bindS rfl (ev_iteF (by rw [hc.1]; nofun) (ev_bindS rfl (ev_iteF (by rw [hc.2.1]; nofun) (ev_iteF ?_ (Ev.now _)))))
      rw [eq45]; exact of_decide_eq_false hc.2.2
  | cons c nm ih =>
    intro pre h hn
    have h' : bl s = pre ++ c :: (nm ++ rest) := by rw [h]; rfl
    have hc := hn c (by simp)
    unfold isNm at hc
    have k := ih (pre ++ [c]) (by rw [h]; simp) (fun d hd => hn d (List.mem_cons_of_mem _ hd))
    rw [show (pre ++ c :: nm) = pre ++ [c] ++ nm by simp]
    refine Ev.step (fun k => spec_l7Name.l0.eq_2 ..) ?_
    refine ev_iteT (blt_at h') (ev_iteT (nonneg_at _) ?_)
    rw [bt_at' h', specSmall1, specDigit1, bnext_at h' (by rw [maxLen_eq]; omega)]
    refine ev_bindS rfl ?_
    by_cases c1 : inB 97 122 c = true
    · exact ev_iteT c1 k
    · refine ev_iteF c1 (ev_bindS rfl ?_)
      by_cases c2 : inB 48 57 c = true
      · exact ev_iteT c2 k
      · refine ev_iteF c2 (ev_iteT ?_ k)
        rw [eq45]
        rw [Bool.or_eq_true, Bool.or_eq_true] at hc
        rcases hc with hc | hc | hc
        · exact absurd hc c1
        · exact absurd hc c2
        · exact of_decide_eq_true hc
theorem implName {x : List UInt8} (hx : x.length ≤ 1073741824) {rest : List UInt8} (hr : NmEnd rest) : ∀ (nm pre : List UInt8), x = pre ++ (nm ++ rest) → (∀ c ∈ nm, isNm c = true) → Ev (fun k => impl_nameAt.l0 k (ofL x) pre.length) (ofL (pre ++ nm), ofL rest) := by
  have hs : (ofL x).size ≤ 1073741824 := by rw [size_ofL]; exact hx
  intro nm
  induction nm with
  | nil =>
    intro pre h _
    have hb : bl (ofL x) = pre ++ rest := by rw [bl_ofL, h]; rfl
    have hl := bl_len (ofL x)
    rw [hb, List.length_append] at hl
    have e1 : (ofL x).extract 0 ((pre.length : Nat) : Int).toNat = ofL (pre ++ []) := by
      apply bl_inj; rw [bl_extract, hb, bl_ofL, Int.toNat_natCast, List.take_left]; simp
    have e2 : (ofL x).extract ((pre.length : Nat) : Int).toNat (ofL x).size = ofL rest := by
      apply bl_inj; rw [bl_extract, hb, bl_ofL, Int.toNat_natCast, List.take_of_length_le (by rw [List.length_append]; omega), List.drop_left]
    refine Ev.step (fun k => impl_nameAt.l0.eq_2 ..) ?_
    rw [e1, e2]
    have fin : Ev (fun _ : Nat => if 0 ≤ ((pre.length : Nat) : Int) then (if ((pre.length : Nat) : Int) ≤ ((ofL x).size : Int) then some (ofL (pre ++ []), ofL rest) else none) else none) (ofL (pre ++ []), ofL rest) := ev_iteT (nonneg_at _) (ev_iteT (by omega) (Ev.now _))
    cases rest with
    | nil => exact ev_iteF (by rw [← hl]; simp) fin
    | cons c r =>
      have hc := hr c r rfl
      unfold isNm at hc
      rw [Bool.or_eq_false_iff, Bool.or_eq_false_iff] at hc
      refine ev_iteT (blt_at hb) (ev_iteT (nonneg_at _) ?_)
      rw [bt_at' hb, implIsSmall, implIsDigit]
      refine ev_bindS rfl (ev_iteF (by rw [hc.1]; nofun) (ev_bindS rfl (ev_iteF (by rw [hc.2.1]; nofun) (ev_iteF ?_ (ev_iteT (by omega) (Ev.now _))))))
      rw [eq45]; exact of_decide_eq_false hc.2.2
  | cons c nm ih =>
    intro pre h hn
    have h' : bl (ofL x) = pre ++ c :: (nm ++ rest) := by rw [bl_ofL, h]; rfl
    have hc := hn c (by simp)
    unfold isNm at hc
    have k := ih (pre ++ [c]) (by rw [h]; simp) (fun d hd => hn d (List.mem_cons_of_mem _ hd))
    rw [show (pre ++ c :: nm) = pre ++ [c] ++ nm by simp]
    refine Ev.step (fun k => impl_nameAt.l0.eq_2 ..) ?_
    refine ev_iteT (blt_at h') (ev_iteT (nonneg_at _) ?_)
    rw [bt_at' h', implIsSmall, implIsDigit, bnext_at h' (by rw [maxLen_eq]; omega)]
    refine ev_bindS rfl ?_
    by_cases c1 : inB 97 122 c = true
    · exact ev_iteT c1 k
    · refine ev_iteF c1 (ev_bindS rfl ?_)
      by_cases c2 : inB 48 57 c = true
      · exact ev_iteT c2 k
      · refine ev_iteF c2 (ev_iteT ?_ k)
        rw [eq45]
        rw [Bool.or_eq_true, Bool.or_eq_true] at hc
        rcases hc with hc | hc | hc
        · exact absurd hc c1
        · exact absurd hc c2
        · exact of_decide_eq_true hc
abbrev NOP : Int × ByteArray × ByteArray × Bool × ByteArray × Int := (0, E0, E0, false, E0, -1)
def MB (s : ByteArray) (x : List UInt8) (sm : Bool) (f : Nat → Option (Int × ByteArray × ByteArray × Bool × ByteArray × Int)) (g : Nat → Option (Int × ByteArray × ByteArray × Bool × ByteArray × ByteArray × Bool)) : Prop :=
  (∃ K nm sp hs pre' rest, bl s = pre' ++ rest ∧ rest.length < x.length ∧ (∃ p, x = p ++ rest) ∧ nm.size ≤ 1073741824 ∧ sp.size ≤ 1073741824 ∧ Ev f (K, nm, sp, hs, E0, (pre'.length : Int)) ∧ Ev g (K, nm, sp, hs, E0, ofL rest, sm)) ∨ (Ev f NOP ∧ ∃ a b c d e r, Ev g (a, b, c, d, e, r, false))
theorem markEnd {s : ByteArray} (hs : s.size ≤ 1073741824) {pre x nl : List UInt8} (h : bl s = pre ++ x) (hn : nl.length ≤ 1073741824) (nm sp : ByteArray) (hnm : nm.size ≤ 1073741824) (hsp : sp.size ≤ 1073741824) (has : Bool) :
    MB s x (smallName (ofL nl)) (fun k => spec_l7Mark.j1 k s pre.length 1 nm sp has E0) (fun k => impl_markAt.j0 k (ofL nl) (ofL x) 1 nm sp has E0) := by
  have hl := bl_len s
  rw [h, List.length_append] at hl
  have hsm := implSmall (s := ofL nl) (by rw [maxLen_eq, size_ofL]; omega)
  by_cases c1 : ∃ t, x = 62 :: t
  · obtain ⟨t, rfl⟩ := c1
    refine .inl ⟨1, nm, sp, has, pre ++ [62], t, by rw [h]; simp, by simp, ⟨[62], rfl⟩, hnm, hsp, ?_, ?_⟩
    · refine Ev.step (fun k => spec_l7Mark.j1.eq_2 ..) ?_
      refine ev_bindS (at_hit (t := t) h hs (by decide)) (ev_iteT rfl ?_)
      rw [bnext_at h (by rw [maxLen_eq]; omega)]; exact Ev.now _
    · refine Ev.step (fun k => impl_markAt.j0.eq_2 ..) ?_
      refine ev_bindS (cutP_miss (fun t e => by rw [bl_ofL] at e; cases e)) (ev_iteF nofun (ev_bindS (cutP_hit (t := t) (by rw [bl_ofL]; rfl)) (ev_iteT rfl (Ev.bind hsm (Ev.now _)))))
  by_cases c2 : ∃ t, x = 47 :: 62 :: t
  · obtain ⟨t, rfl⟩ := c2
    simp only [List.length_cons] at hl
    refine .inl ⟨3, nm, sp, has, pre ++ [47, 62], t, by rw [h]; simp, by simp only [List.length_cons]; omega, ⟨[47, 62], rfl⟩, hnm, hsp, ?_, ?_⟩
    · refine Ev.step (fun k => spec_l7Mark.j1.eq_2 ..) ?_
      refine ev_bindS (at_miss h (fun t e => by cases e) hs (by decide)) (ev_iteF nofun (ev_bindS (at_hit (t := t) h hs (by decide)) (ev_iteT rfl ?_)))
      rw [wrap_id (by omega) (by omega), List.length_append]
      exact ev_cast (Ev.now _) (by simp)
    · refine Ev.step (fun k => impl_markAt.j0.eq_2 ..) ?_
      exact ev_bindS (cutP_hit (t := t) (by rw [bl_ofL]; rfl)) (ev_iteT rfl (Ev.bind hsm (Ev.now _)))
  · refine .inr ⟨?_, 1, nm, sp, has, E0, ofL x, ?_⟩
    · refine Ev.step (fun k => spec_l7Mark.j1.eq_2 ..) ?_
      exact ev_bindS (at_miss h (fun t e => c1 ⟨t, e⟩) hs (by decide)) (ev_iteF nofun (ev_bindS (at_miss h (fun t e => c2 ⟨t, e⟩) hs (by decide)) (ev_iteF nofun (Ev.now _))))
    · refine Ev.step (fun k => impl_markAt.j0.eq_2 ..) ?_
      exact ev_bindS (cutP_miss (fun t e => c2 ⟨t, by rw [bl_ofL] at e; exact e⟩)) (ev_iteF nofun (ev_bindS (cutP_miss (fun t e => c1 ⟨t, by rw [bl_ofL] at e; exact e⟩)) (ev_iteF nofun (Ev.now _))))
theorem seek34 {s : ByteArray} (hs : s.size ≤ 1073741824) {i K : Int} {nm sp t0 : ByteArray} {has : Bool} {x : List UInt8} {r} : ∀ (mid pre : List UInt8), bl s = pre ++ (mid ++ x) → 34 ∉ mid → Ev (fun k => spec_l7Mark.l0 k s (pre ++ mid).length i K nm sp has t0) r → Ev (fun k => spec_l7Mark.l0 k s pre.length i K nm sp has t0) r := by
  intro mid
  induction mid with
  | nil => intro pre _ _ k; simpa using k
  | cons c mid ih =>
    intro pre h h1 k
    have h' : bl s = pre ++ c :: (mid ++ x) := by rw [h]; rfl
    refine Ev.step (fun k => spec_l7Mark.l0.eq_2 ..) ?_
    refine ev_iteT (blt_at h') (ev_iteT (nonneg_at _) ?_)
    rw [bt_at' h', bnext_at h' (by rw [maxLen_eq]; omega)]
    refine ev_iteF (by rw [c34]; exact fun e => h1 (by simp [e])) ?_
    exact ih (pre ++ [c]) (by rw [h]; simp) (fun e => h1 (List.mem_cons_of_mem _ e)) (by simpa using k)
theorem MB.mono {s : ByteArray} {x x2 : List UInt8} {sm : Bool} {f f2 : Nat → Option (Int × ByteArray × ByteArray × Bool × ByteArray × Int)} {g g2 : Nat → Option (Int × ByteArray × ByteArray × Bool × ByteArray × ByteArray × Bool)} (h : MB s x sm f g) (p : List UInt8) (hx : x2 = p ++ x) (hf : ∀ r, Ev f r → Ev f2 r) (hg : ∀ r, Ev g r → Ev g2 r) : MB s x2 sm f2 g2 := by
  rcases h with ⟨K, nm, sp, hs, pre', rest, h1, h2, ⟨q, h3⟩, z1, z2, h4, h5⟩ | ⟨h1, a, b, c, d, e, r, h2⟩
  · exact .inl ⟨K, nm, sp, hs, pre', rest, h1, by rw [hx, List.length_append]; omega, ⟨p ++ q, by rw [hx, h3, List.append_assoc]⟩, z1, z2, hf _ h4, hg _ h5⟩
  · exact .inr ⟨hf _ h1, a, b, c, d, e, r, hg _ h2⟩
theorem markBoth {s : ByteArray} (hs : s.size ≤ 1073741824) {pre y : List UInt8} (h : bl s = pre ++ 60 :: y) (hp : plainL y = true) :
    MB s (60 :: y) true (fun k => spec_l7Mark.f k s pre.length) (fun k => impl_markAt.f k (ofL (60 :: y))) := by
  have hl := bl_len s
  have hl2 := hl
  rw [h] at hl
  simp only [List.length_append, List.length_cons] at hl
  by_cases c0 : ∃ z, y = 47 :: z
  · obtain ⟨z, rfl⟩ := c0
    simp only [List.length_cons] at hl
    obtain ⟨nm, rest, rfl, h1, h2⟩ := nm_split z
    simp only [List.length_append] at hl
    have hb : bl s = (pre ++ [60, 47]) ++ (nm ++ rest) := by rw [h]; simp
    have hb2 : bl s = ((pre ++ [60, 47]) ++ nm) ++ rest := by rw [h]; simp
    have e1 : wrap64 ((pre.length : Int) + 2) = ((pre ++ [60, 47]).length : Int) := by rw [wrap_id (by omega) (by omega), List.length_append]; simp
    have e2 : s.extract (pre ++ [60, 47]).length ((pre ++ [60, 47]) ++ nm).length = ofL nm := ext_mid hb
    have sN : Ev (fun k => spec_l7Name.f k s (((pre ++ [60, 47]).length : Nat) : Int)) ((((pre ++ [60, 47]) ++ nm).length : Nat) : Int) := specName hs h2 nm (pre ++ [60, 47]) hb h1
    have iN : Ev (fun k => impl_nameAt.f k (ofL (nm ++ rest))) (ofL nm, ofL rest) := implName (by simp only [List.length_append]; omega) h2 nm [] rfl h1
    have spc : ∀ {r}, Ev (fun k => (spec_l7At.f s (((pre ++ [60, 47]) ++ nm).length : Int) (⟨#[62]⟩ : ByteArray)).bind fun t135 => (if t135 = true then (if 0 ≤ (((pre ++ [60, 47]).length : Nat) : Int) then (if (((pre ++ [60, 47]).length : Nat) : Int) ≤ ((((pre ++ [60, 47]) ++ nm).length : Nat) : Int) then (if ((((pre ++ [60, 47]) ++ nm).length : Nat) : Int) ≤ (s.size : Int) then ((spec_SmallName.f k (ofL nm)).bind fun t136 => (if t136 = true then (some ((2 : Int), ofL nm, E0, false, E0, wrap64 (((((pre ++ [60, 47]) ++ nm).length : Nat) : Int) + 1))) else (some NOP))) else (none)) else (none)) else (none)) else (some NOP))) r → Ev (fun k => spec_l7Mark.f k s pre.length) r := by
      intro r k
      unfold spec_l7Mark.f
      refine ev_bindS (at_hit (t := nm ++ rest) (by rw [h]; rfl) hs (by decide)) (ev_iteT rfl ?_)
      rw [e1]
      refine Ev.bind sN ?_
      rw [Int.toNat_natCast, Int.toNat_natCast, e2]
      exact k
    have imc : ∀ {r}, Ev (fun k => (strings_CutPrefix.f (ofL rest) (⟨#[62]⟩ : ByteArray)).bind fun bt240 => (if bt240.2 = true then ((impl_SmallName.f k (ofL nm)).bind fun t242 => (some ((2 : Int), ofL nm, E0, false, E0, bt240.1, t242))) else (some (2, ofL nm, E0, false, E0, bt240.1, false)))) r → Ev (fun k => impl_markAt.f k (ofL (60 :: 47 :: (nm ++ rest)))) r := by
      intro r k
      unfold impl_markAt.f
      exact ev_bindS (cutP_hit (t := nm ++ rest) (by rw [bl_ofL]; rfl)) (ev_iteT rfl (Ev.bind iN k))
    by_cases c1 : ∃ t, rest = 62 :: t
    · obtain ⟨t, rfl⟩ := c1
      simp only [List.length_cons] at hl
      have sS := specSmall (s := ofL nm) (by rw [maxLen_eq, size_ofL]; omega)
      have iS := implSmall (s := ofL nm) (by rw [maxLen_eq, size_ofL]; omega)
      have sp1 := at_hit (a := (⟨#[62]⟩ : ByteArray)) (t := t) hb2 hs (by decide)
      have im1 := cutP_hit (a := (⟨#[62]⟩ : ByteArray)) (t := t) (x := ofL (62 :: t)) (by rw [bl_ofL]; rfl)
      cases hsm : smallName (ofL nm) with
      | true =>
        rw [hsm] at sS iS
        refine .inl ⟨2, ofL nm, E0, false, ((pre ++ [60, 47]) ++ nm) ++ [62], t, by rw [h]; simp, by simp only [List.length_append, List.length_cons]; omega, ⟨60 :: 47 :: (nm ++ [62]), by simp⟩, by rw [size_ofL]; omega, by decide, spc ?_, imc ?_⟩
        · refine ev_bindS sp1 (ev_iteT rfl (ev_iteT (nonneg_at _) (ev_iteT (by simp only [List.length_append]; omega) (ev_iteT (by simp only [List.length_append, List.length_cons, List.length_nil]; omega) (Ev.bind sS (ev_iteT rfl ?_))))))
          rw [bnext_at hb2 (by rw [maxLen_eq]; omega)]; exact Ev.now _
        · exact ev_bindS im1 (ev_iteT rfl (Ev.bind iS (Ev.now _)))
      | false =>
        rw [hsm] at sS iS
        refine .inr ⟨spc ?_, 2, ofL nm, E0, false, E0, ofL t, imc ?_⟩
        · exact ev_bindS sp1 (ev_iteT rfl (ev_iteT (nonneg_at _) (ev_iteT (by simp only [List.length_append]; omega) (ev_iteT (by simp only [List.length_append, List.length_cons, List.length_nil]; omega) (Ev.bind sS (ev_iteF nofun (Ev.now _)))))))
        · exact ev_bindS im1 (ev_iteT rfl (Ev.bind iS (Ev.now _)))
    · refine .inr ⟨spc ?_, 2, ofL nm, E0, false, E0, ofL rest, imc ?_⟩
      · exact ev_bindS (at_miss hb2 (fun t e => c1 ⟨t, e⟩) hs (by decide)) (ev_iteF nofun (Ev.now _))
      · exact ev_bindS (cutP_miss (fun t e => c1 ⟨t, by rw [bl_ofL] at e; exact e⟩)) (ev_iteF nofun (Ev.now _))
  · obtain ⟨nm, rest, rfl, h1, h2⟩ := nm_split y
    simp only [List.length_append] at hl
    rw [plain_app, Bool.and_eq_true] at hp
    have hb : bl s = (pre ++ [60]) ++ (nm ++ rest) := by rw [h]; simp
    have hb2 : bl s = ((pre ++ [60]) ++ nm) ++ rest := by rw [h]; simp
    have e1 : wrap64 ((pre.length : Int) + 1) = ((pre ++ [60]).length : Int) := bnext_at h (by rw [maxLen_eq]; omega)
    have e2 : s.extract (pre ++ [60]).length ((pre ++ [60]) ++ nm).length = ofL nm := ext_mid hb
    have sN : Ev (fun k => spec_l7Name.f k s (((pre ++ [60]).length : Nat) : Int)) ((((pre ++ [60]) ++ nm).length : Nat) : Int) := specName hs h2 nm (pre ++ [60]) hb h1
    have iN : Ev (fun k => impl_nameAt.f k (ofL (nm ++ rest))) (ofL nm, ofL rest) := implName (by simp only [List.length_append]; omega) h2 nm [] rfl h1
    have sS := specSmall (s := ofL nm) (by rw [maxLen_eq, size_ofL]; omega)
    have e3 : (ofL (60 :: (nm ++ rest))).extract 1 (ofL (60 :: (nm ++ rest))).size = ofL (nm ++ rest) := bl_inj (by rw [(tl_cons (bl_ofL _)).2.2, bl_ofL])
    have no1 : ∀ t, (60 : UInt8) :: (nm ++ rest) ≠ bl (⟨#[60, 47]⟩ : ByteArray) ++ t := fun t e => c0 ⟨t, by injection e⟩
    have spF : smallName (ofL nm) = false → Ev (fun k => spec_l7Mark.f k s pre.length) NOP := by
      intro hf
      rw [hf] at sS
      unfold spec_l7Mark.f
      refine ev_bindS (at_miss h no1 hs (by decide)) (ev_iteF nofun ?_)
      rw [e1]
      refine Ev.bind sN ?_
      rw [Int.toNat_natCast, Int.toNat_natCast, e2]
      exact ev_iteT (nonneg_at _) (ev_iteT (by simp only [List.length_append]; omega) (ev_iteT (by simp only [List.length_append, List.length_cons, List.length_nil]; omega) (Ev.bind sS (ev_iteF nofun (Ev.now _)))))
    have spT : ∀ {r}, smallName (ofL nm) = true → Ev (fun k => (spec_l7At.f s (((pre ++ [60]) ++ nm).length : Int) (⟨#[32, 120, 109, 108, 110, 115, 61, 34]⟩ : ByteArray)).bind fun t140 => (if t140 = true then (spec_l7Mark.l0 k s (wrap64 (((((pre ++ [60]) ++ nm).length : Nat) : Int) + 8)) (wrap64 (((((pre ++ [60]) ++ nm).length : Nat) : Int) + 8)) 1 (ofL nm) E0 false E0) else (spec_l7Mark.j1 k s ((((pre ++ [60]) ++ nm).length : Nat) : Int) 1 (ofL nm) E0 false E0))) r → Ev (fun k => spec_l7Mark.f k s pre.length) r := by
      intro r ht k
      rw [ht] at sS
      unfold spec_l7Mark.f
      refine ev_bindS (at_miss h no1 hs (by decide)) (ev_iteF nofun ?_)
      rw [e1]
      refine Ev.bind sN ?_
      rw [Int.toNat_natCast, Int.toNat_natCast, e2]
      exact ev_iteT (nonneg_at _) (ev_iteT (by simp only [List.length_append]; omega) (ev_iteT (by simp only [List.length_append, List.length_cons, List.length_nil]; omega) (Ev.bind sS (ev_iteT rfl k))))
    have im : ∀ {r}, Ev (fun k => (strings_CutPrefix.f (ofL rest) (⟨#[32, 120, 109, 108, 110, 115, 61, 34]⟩ : ByteArray)).bind fun bt246 => (if bt246.2 = true then ((strings_Cut.f bt246.1 (⟨#[34]⟩ : ByteArray)).bind fun bt248 => ((impl_Unescape.f k bt248.1).bind fun bt251 => (if bt248.2.2 = true then (if bt251.2 = true then (if (bt251.1.size : Int) > 20 then (some ((0 : Int), E0, E0, false, E0, E0, false)) else (impl_markAt.j0 k (ofL nm) bt248.2.1 1 (ofL nm) bt251.1 true E0)) else (some (0, E0, E0, false, E0, E0, false))) else (some (0, E0, E0, false, E0, E0, false))))) else (impl_markAt.j0 k (ofL nm) (ofL rest) 1 (ofL nm) E0 false E0))) r → Ev (fun k => impl_markAt.f k (ofL (60 :: (nm ++ rest)))) r := by
      intro r k
      unfold impl_markAt.f
      refine ev_bindS (cutP_miss (fun t e => no1 t (by rw [bl_ofL] at e; exact e))) (ev_iteF nofun (ev_iteT (by rw [size_ofL]; simp only [List.length_cons]; omega) ?_))
      rw [e3]
      exact Ev.bind iN k
    -- what stands behind the name, both, whatever the name is
    have core : MB s rest (smallName (ofL nm)) (fun k => (spec_l7At.f s (((pre ++ [60]) ++ nm).length : Int) (⟨#[32, 120, 109, 108, 110, 115, 61, 34]⟩ : ByteArray)).bind fun t140 => (if t140 = true then (spec_l7Mark.l0 k s (wrap64 (((((pre ++ [60]) ++ nm).length : Nat) : Int) + 8)) (wrap64 (((((pre ++ [60]) ++ nm).length : Nat) : Int) + 8)) 1 (ofL nm) E0 false E0) else (spec_l7Mark.j1 k s ((((pre ++ [60]) ++ nm).length : Nat) : Int) 1 (ofL nm) E0 false E0))) (fun k => impl_markAt.f k (ofL (60 :: (nm ++ rest)))) := by
      by_cases c1 : ∃ t, rest = [32, 120, 109, 108, 110, 115, 61, 34] ++ t
      · obtain ⟨t, rfl⟩ := c1
        simp only [List.length_append, List.length_cons, List.length_nil] at hl
        rw [plain_app, Bool.and_eq_true] at hp
        have hc := cutP_hit (a := (⟨#[32, 120, 109, 108, 110, 115, 61, 34]⟩ : ByteArray)) (t := t) (x := ofL ([32, 120, 109, 108, 110, 115, 61, 34] ++ t)) (by rw [bl_ofL])
        have ha := at_hit (a := (⟨#[32, 120, 109, 108, 110, 115, 61, 34]⟩ : ByteArray)) (t := t) hb2 hs (by decide)
        have hb3 : bl s = (((pre ++ [60]) ++ nm) ++ [32, 120, 109, 108, 110, 115, 61, 34]) ++ t := by rw [h]; simp
        have e8 : wrap64 (((((pre ++ [60]) ++ nm).length : Nat) : Int) + 8) = ((((((pre ++ [60]) ++ nm) ++ [32, 120, 109, 108, 110, 115, 61, 34]).length : Nat)) : Int) := by
          rw [wrap_id (by omega) (by simp only [List.length_append, List.length_cons, List.length_nil]; omega)]; simp only [List.length_append, List.length_cons, List.length_nil]; omega
        rw [e8]
        generalize hP : (((pre ++ [60]) ++ nm) ++ [32, 120, 109, 108, 110, 115, 61, 34] : List UInt8) = P at hb3
        by_cases c2 : (34 : UInt8) ∈ t
        · obtain ⟨ns, behind, rfl, h3⟩ := first_of c2
          simp only [List.length_append, List.length_cons] at hl
          rw [plain_app, Bool.and_eq_true] at hp
          have hcut := cutB_hit (x := ofL (ns ++ 34 :: behind)) (a := (⟨#[34]⟩ : ByteArray)) (c := 34) rfl (bl_ofL _) h3 (by rw [size_ofL]; simp only [List.length_append, List.length_cons]; omega)
          obtain ⟨u, ok, u1, u2, u3, u4⟩ := unBoth (s := ofL ns) (by rw [size_ofL]; omega) (by rw [bl_ofL]; exact hp.2.2.1)
          have hb4 : bl s = (P ++ ns) ++ 34 :: behind := by rw [hb3]; simp
          have e9 : s.extract P.length (P ++ ns).length = ofL ns := ext_mid hb3
          have hbl := blt_at hb4
          have skp : ∀ {r}, Ev (fun k => (spec_Unescape.f k (ofL ns)).bind fun bt141 => (if bt141.2 = true then (if (((P ++ ns).length : Nat) : Int) = (s.size : Int) then (some NOP) else (if (bt141.1.size : Int) > 20 then (some NOP) else (spec_l7Mark.j1 k s (((P ++ ns) ++ [34]).length : Int) 1 (ofL nm) bt141.1 true E0))) else (some NOP))) r → Ev (fun k => spec_l7Mark.l0 k s (P.length : Int) (P.length : Int) 1 (ofL nm) E0 false E0) r := by
            intro r k
            refine seek34 (x := 34 :: behind) hs ns P hb3 h3 ?_
            refine Ev.step (fun k => spec_l7Mark.l0.eq_2 ..) ?_
            refine ev_iteT (blt_at hb4) (ev_iteT (nonneg_at _) (ev_iteT (by rw [bt_at' hb4, c34]) ?_))
            rw [bnext_at hb4 (by rw [maxLen_eq]; omega), Int.toNat_natCast, Int.toNat_natCast, e9]
            exact ev_iteT (nonneg_at _) (ev_iteT (by simp only [List.length_append]; omega) (ev_iteT (by omega) k))
          cases ok with
          | false => exact .inr ⟨ev_bindS ha (ev_iteT rfl (skp (Ev.bind u1 (ev_iteF nofun (Ev.now _))))), _, _, _, _, _, _, im (ev_bindS hc (ev_iteT rfl (ev_bindS hcut (Ev.bind u2 (ev_iteT rfl (ev_iteF nofun (Ev.now _)))))))⟩
          | true =>
            by_cases c3 : ((ofL u).size : Int) > 20
            · exact .inr ⟨ev_bindS ha (ev_iteT rfl (skp (Ev.bind u1 (ev_iteT rfl (ev_iteF (by omega) (ev_iteT c3 (Ev.now _))))))), _, _, _, _, _, _, im (ev_bindS hc (ev_iteT rfl (ev_bindS hcut (Ev.bind u2 (ev_iteT rfl (ev_iteT rfl (ev_iteT c3 (Ev.now _))))))))⟩
            · have hE := markEnd (nl := nm) hs (pre := (P ++ ns) ++ [34]) (x := behind) (by rw [hb4]; simp) (by omega) (ofL nm) (ofL u) (by rw [size_ofL]; omega) (by rw [size_ofL]; rw [size_ofL] at u4; omega) true
              refine hE.mono ([32, 120, 109, 108, 110, 115, 61, 34] ++ (ns ++ [34])) (by simp) (fun r k => ?_) (fun r k => ?_)
              · exact ev_bindS ha (ev_iteT rfl (skp (Ev.bind u1 (ev_iteT rfl (ev_iteF (by omega) (ev_iteF c3 k))))))
              · exact im (ev_bindS hc (ev_iteT rfl (ev_bindS hcut (Ev.bind u2 (ev_iteT rfl (ev_iteT rfl (ev_iteF c3 k)))))))
        · have hcut := cutB_miss (x := ofL t) (a := (⟨#[34]⟩ : ByteArray)) (c := 34) rfl (by rw [bl_ofL]; exact c2) (by rw [size_ofL]; omega)
          obtain ⟨u, ok, u1, u2, u3, u4⟩ := unBoth (s := ofL t) (by rw [size_ofL]; omega) (by rw [bl_ofL]; exact hp.2.2)
          have hb4 : bl s = (P ++ t) ++ [] := by rw [hb3]; simp
          have e9 : s.extract P.length (P ++ t).length = ofL t := ext_mid (r := []) (by rw [hb3]; simp)
          have hz : (((P ++ t).length : Nat) : Int) = (s.size : Int) := by rw [← hl2, hb4, List.append_nil]
          refine .inr ⟨ev_bindS ha (ev_iteT rfl ?_), _, _, _, _, _, _, im (ev_bindS hc (ev_iteT rfl (ev_bindS hcut (Ev.bind u2 (ev_iteF nofun (Ev.now _))))))⟩
          refine seek34 (x := []) hs t P (by rw [hb3]; simp) c2 ?_
          refine Ev.step (fun k => spec_l7Mark.l0.eq_2 ..) ?_
          refine ev_iteF (bend_at hb4) (ev_iteT (nonneg_at _) (ev_iteT (by simp only [List.length_append]; omega) (ev_iteT (by omega) ?_)))
          rw [Int.toNat_natCast, Int.toNat_natCast, e9]
          refine Ev.bind u1 ?_
          cases ok
          · exact ev_iteF nofun (Ev.now _)
          · exact ev_iteT rfl (ev_iteT hz (Ev.now _))
      · have hE := markEnd (nl := nm) hs hb2 (by omega) (ofL nm) E0 (by rw [size_ofL]; omega) (by decide) false
        refine hE.mono [] rfl (fun r k => ?_) (fun r k => ?_)
        · exact ev_bindS (at_miss hb2 (fun t e => c1 ⟨t, e⟩) hs (by decide)) (ev_iteF nofun k)
        · exact im (ev_bindS (cutP_miss (fun t e => c1 ⟨t, by rw [bl_ofL] at e; exact e⟩)) (ev_iteF nofun k))
    cases hsm : smallName (ofL nm) with
    | true =>
      rw [hsm] at core
      exact core.mono (60 :: nm) rfl (fun r k => spT hsm k) (fun r k => k)
    | false =>
      rw [hsm] at core
      rcases core with ⟨K, a, b, c, pre', rest', _, _, _, _, _, _, q⟩ | ⟨_, q⟩
      · exact .inr ⟨spF hsm, _, _, _, _, _, _, q⟩
      · exact .inr ⟨spF hsm, q⟩
end Go.Proofs.YtegkokdncakadaaGreatDoor.L

/- Marked texts read, fourth part: the pieces of both. No condition. -/
set_option linter.unusedSimpArgs false
set_option linter.unusedVariables false
namespace Go.Proofs.YtegkokdncakadaaGreatDoor.L
open Go.RowKit Go.Proofs.YtegkokdncakadaaGreatDoorW.PrintWords Go.Proofs.YtegkokdncakadaaGreatDoorW.PrintLast Go.Proofs.YtegkokdncakadaaGreatDoor.Q
def GoodP (p : S82) : Prop := plainL (bl p.f4) = true ∧ p.f4.size ≤ 1048576 ∧ p.f1.size ≤ 1073741824 ∧ p.f2.size ≤ 1073741824
theorem all_snoc {α : Type} {P : α → Prop} {l : List α} {a : α} (h : ∀ x ∈ l, P x) (ha : P a) : ∀ x ∈ l ++ [a], P x := fun x hx => (List.mem_append.1 hx).elim (h x) (fun h => by rw [List.mem_singleton.1 h]; exact ha)
theorem spl60 (x : List UInt8) : ∃ body rest, x = body ++ rest ∧ (60 : UInt8) ∉ body ∧ (rest = [] ∨ ∃ r, rest = 60 :: r) := by
  by_cases h : (60 : UInt8) ∈ x
  · obtain ⟨b, r, e, hn⟩ := first_of h
    exact ⟨b, 60 :: r, e, hn, .inr ⟨r, rfl⟩⟩
  · exact ⟨x, [], by simp, h, .inl rfl⟩
section
variable {s : ByteArray} {out : List S82}
theorem seek60 (hs : s.size ≤ 1073741824) {i : Int} {x : List UInt8} {r} : ∀ (mid pre : List UInt8), bl s = pre ++ (mid ++ x) → 60 ∉ mid → Ev (fun k => spec_Pieces.l1 k s out i (pre ++ mid).length) r → Ev (fun k => spec_Pieces.l1 k s out i pre.length) r := by
  intro mid
  induction mid with
  | nil => intro pre _ _ k; simpa using k
  | cons c mid ih =>
    intro pre h h1 k
    have h' : bl s = pre ++ c :: (mid ++ x) := by rw [h]; rfl
    refine Ev.step (fun k => spec_Pieces.l1.eq_2 ..) ?_
    refine ev_iteT (blt_at h') (ev_iteT (nonneg_at _) ?_)
    rw [bt_at' h', bnext_at h' (by rw [maxLen_eq]; omega)]
    refine ev_iteF (by rw [c60]; exact fun e => h1 (by simp [e])) ?_
    exact ih (pre ++ [c]) (by rw [h]; simp) (fun e => h1 (List.mem_cons_of_mem _ e)) (by simpa using k)
theorem specTxt (hs : s.size ≤ 1073741824) {body rest pre t : List UInt8} {ok : Bool} {r} (h : bl s = pre ++ (body ++ rest)) (hn : 60 ∉ body) (hr : rest = [] ∨ ∃ q, rest = 60 :: q) (hu : Ev (fun k => spec_Unescape.f k (ofL body)) (ofL t, ok)) (ho : out.length ≤ 60)
    (h0 : ok = false → r = ([], false)) (h1 : ok = true → Ev (fun k => spec_Pieces.l0 k s (out ++ [(⟨4, E0, E0, false, ofL t⟩ : S82)]) (pre ++ body).length) r) : Ev (fun k => spec_Pieces.l1 k s out pre.length pre.length) r := by
  refine seek60 (x := rest) hs body pre h hn ?_
  have e9 : s.extract pre.length (pre ++ body).length = ofL body := ext_mid h
  have hl := bl_len s
  rw [h] at hl
  simp only [List.length_append] at hl
  have fin : Ev (fun k => if 0 ≤ ((pre.length : Nat) : Int) then (if ((pre.length : Nat) : Int) ≤ (((pre ++ body).length : Nat) : Int) then (if (((pre ++ body).length : Nat) : Int) ≤ (s.size : Int) then ((spec_Unescape.f k (s.extract ((pre.length : Nat) : Int).toNat (((pre ++ body).length : Nat) : Int).toNat)).bind fun bt168 => (if bt168.2 = true then (if out.length < 2199023255552 then (spec_Pieces.l0 k s (out ++ [(⟨4, E0, E0, false, bt168.1⟩ : S82)]) (((pre ++ body).length : Nat) : Int)) else (none)) else (some ([], false)))) else (none)) else (none)) else (none)) r := by
    rw [Int.toNat_natCast, Int.toNat_natCast, e9]
    refine ev_iteT (nonneg_at _) (ev_iteT (by simp only [List.length_append]; omega) (ev_iteT (by simp only [List.length_append]; omega) (Ev.bind hu ?_)))
    cases ok with
    | false => rw [h0 rfl]; exact ev_iteF nofun (Ev.now _)
    | true => exact ev_iteT rfl (ev_iteT (by omega) (h1 rfl))
  refine Ev.step (fun k => spec_Pieces.l1.eq_2 ..) ?_
  rcases hr with rfl | ⟨q, rfl⟩
  · exact ev_iteF (bend_at (by rw [h]; simp)) fin
  · have h' : bl s = (pre ++ body) ++ 60 :: q := by rw [h]; simp
    exact ev_iteT (blt_at h') (ev_iteT (nonneg_at _) (ev_iteT (by rw [bt_at' h', c60]) fin))
theorem implTxt {c : UInt8} {body' rest t : List UInt8} {ok : Bool} {r} (hc : c ≠ 60) (hz : (c :: body' ++ rest).length ≤ 1073741824) (hn : 60 ∉ c :: body') (hr : rest = [] ∨ ∃ q, rest = 60 :: q) (hu : Ev (fun k => impl_Unescape.f k (ofL (c :: body'))) (ofL t, ok))
    (h0 : ok = false ∨ out.length ≥ 60 → r = ([], false)) (h1 : ok = true → out.length < 60 → Ev (fun k => impl_Pieces.l0 k (ofL rest) (out ++ [(⟨4, E0, E0, false, ofL t⟩ : S82)])) r) : Ev (fun k => impl_Pieces.l0 k (ofL (c :: body' ++ rest)) out) r := by
  have hb : bl (ofL (c :: body' ++ rest)) = c :: (body' ++ rest) := by rw [bl_ofL]; rfl
  obtain ⟨g1, g2, _⟩ := tl_cons hb
  simp only [List.length_append, List.length_cons] at hz
  have hS : (ofL (c :: body' ++ rest)).size = body'.length + 1 + rest.length := by rw [size_ofL]; simp only [List.length_append, List.length_cons]
  have last : ∀ (p1 p2 : ByteArray), p1 = ofL (c :: body') → p2 = ofL rest → Ev (fun k => (impl_Unescape.f k p1).bind fun bt272 => (if bt272.2 = true then (if (out.length : Int) ≥ 60 then (some (([] : List S82), false)) else (if out.length < 2199023255552 then (impl_Pieces.l0 k p2 (out ++ [(⟨4, E0, E0, false, bt272.1⟩ : S82)])) else (none))) else (some ([], false)))) r := by
    rintro p1 p2 rfl rfl
    refine Ev.bind hu ?_
    cases ok with
    | false => rw [h0 (.inl rfl)]; exact ev_iteF nofun (Ev.now _)
    | true =>
      refine ev_iteT rfl ?_
      by_cases c1 : out.length ≥ 60
      · rw [h0 (.inr c1)]; exact ev_iteT (by omega) (Ev.now _)
      · exact ev_iteF (by omega) (ev_iteT (by omega) (h1 rfl (by omega)))
  refine Ev.step (fun k => impl_Pieces.l0.eq_2 ..) ?_
  refine ev_iteF (by rw [tl_eq, hb]; nofun) (ev_iteT g1 ?_)
  rw [g2]
  refine ev_iteF (by rw [c60]; exact hc) ?_
  have hidx : strings_IndexByte.f (ofL (c :: body' ++ rest)) 60 = some (Lib.indexByte (c :: body' ++ rest) 60) := by
    unfold strings_IndexByte.f
    rw [show (ofL (c :: body' ++ rest)).data.toList = c :: body' ++ rest from bl_ofL _]
    rfl
  rcases hr with rfl | ⟨q, rfl⟩
  · simp only [List.append_nil, List.length_nil] at *
    rw [index_miss hn] at hidx
    refine ev_bindS hidx (ev_iteT (by decide) (ev_iteT (by omega) (ev_iteT (by omega) (last _ _ ?_ ?_))))
    · apply bl_inj; rw [bl_extract, Int.toNat_natCast, List.drop_zero, List.take_of_length_le (by rw [bl_len]; exact Nat.le_refl _)]
    · apply bl_inj; rw [bl_extract, Int.toNat_natCast, bl_ofL []]; apply List.drop_of_length_le; rw [List.length_take]; omega
  · rw [index_hit rfl hn] at hidx
    refine ev_bindS hidx (ev_iteF (by omega) (ev_iteT (nonneg_at _) (ev_iteT (by rw [hS]; simp only [List.length_cons]; omega) (last _ _ ?_ ?_))))
    · apply bl_inj; rw [bl_extract, Int.toNat_natCast, List.drop_zero, bl_ofL, bl_ofL, List.take_left]
    · apply bl_inj; rw [bl_extract, Int.toNat_natCast, List.take_of_length_le (by rw [bl_len]; exact Nat.le_refl _), bl_ofL, bl_ofL, List.drop_left]
end
theorem piecesLoop {s : ByteArray} (hs : s.size ≤ 1048576) (hpl : plainL (bl s) = true) : ∀ (n : Nat) (x pre : List UInt8) (out : List S82), x.length ≤ n → bl s = pre ++ x → plainL x = true → out.length ≤ 60 → (∀ p ∈ out, GoodP p) →
    ∃ (l : List S82) (ok : Bool), Ev (fun k => spec_Pieces.l0 k s out pre.length) (l, ok) ∧ Ev (fun k => impl_Pieces.l0 k (ofL x) out) (l, ok) ∧ l.length ≤ 60 ∧ (∀ p ∈ l, GoodP p) ∧ (ok = false → l = []) := by
  have hs2 : s.size ≤ 1073741824 := by omega
  have hP := specPlain (s := s) (by rw [maxLen_eq]; omega)
  rw [hpl] at hP
  intro n
  induction n with
  | zero =>
    intro x pre out hn h _ ho hg
    obtain rfl := List.length_eq_zero_iff.1 (Nat.le_zero.1 hn)
    refine ⟨out, true, ?_, ?_, ho, hg, nofun⟩
    · refine Ev.step (fun k => spec_Pieces.l0.eq_2 ..) ?_
      refine ev_iteF (bend_at h) ?_
      refine Ev.step (fun k => spec_Pieces.j1.eq_2 ..) ?_
      exact ev_iteF nofun (Ev.bind hP (Ev.now _))
    · refine Ev.step (fun k => impl_Pieces.l0.eq_2 ..) ?_
      exact ev_iteT (by rw [tl_eq, bl_ofL]) (Ev.now _)
  | succ n ih =>
    intro x pre out hn h hp ho hg
    cases x with
    | nil => exact ih [] pre out (by simp) h hp ho hg
    | cons c y =>
      have hl := bl_len s
      rw [h] at hl
      simp only [List.length_append, List.length_cons] at hl hn
      have sp : ∀ {r}, Ev (fun k => if (out.length : Int) = 60 then (some ((([] : List S82)), false)) else (if (c.toNat : Int) = 60 then ((spec_l7Mark.f k s (pre.length : Int)).bind fun bt155 => (if bt155.2.2.2.2.2 < 0 then (some ((([] : List S82)), false)) else (if out.length < 2199023255552 then (spec_Pieces.l0 k s (out ++ [(⟨bt155.1, bt155.2.1, bt155.2.2.1, bt155.2.2.2.1, bt155.2.2.2.2.1⟩ : S82)]) bt155.2.2.2.2.2) else (none)))) else (spec_Pieces.l1 k s out (pre.length : Int) (pre.length : Int)))) r → Ev (fun k => spec_Pieces.l0 k s out pre.length) r := by
        intro r k
        refine Ev.step (fun k => spec_Pieces.l0.eq_2 ..) ?_
        refine ev_iteT (blt_at h) (Ev.bind hP ?_)
        refine Ev.step (fun k => spec_Pieces.j1.eq_2 ..) ?_
        refine ev_iteT rfl ?_
        by_cases c1 : (out.length : Int) = 60
        · refine ev_iteT c1 ?_
          obtain ⟨K, hK⟩ := k
          exact ⟨K, fun k hk => (if_pos c1).symm.trans (hK k hk)⟩
        · refine ev_iteF c1 (ev_iteT (nonneg_at _) (ev_iteT (blt_at h) ?_))
          rw [bt_at' h]
          obtain ⟨K, hK⟩ := k
          exact ⟨K, fun k hk => (if_neg c1).symm.trans (hK k hk)⟩
      by_cases hc : c = 60
      · subst hc
        have hpy : plainL y = true := by rw [plain_cons, Bool.and_eq_true] at hp; exact hp.2
        have im : ∀ {r}, Ev (fun k => (impl_markAt.f k (ofL (60 :: y))).bind fun bt261 => (if bt261.2.2.2.2.2.2 = true then (if (out.length : Int) ≥ 60 then (some (([] : List S82), false)) else (if out.length < 2199023255552 then (impl_Pieces.l0 k bt261.2.2.2.2.2.1 (out ++ [(⟨bt261.1, bt261.2.1, bt261.2.2.1, bt261.2.2.2.1, bt261.2.2.2.2.1⟩ : S82)])) else (none))) else (some ([], false)))) r → Ev (fun k => impl_Pieces.l0 k (ofL (60 :: y)) out) r := by
          intro r k
          obtain ⟨g1, g2, _⟩ := tl_cons (bl_ofL (60 :: y))
          refine Ev.step (fun k => impl_Pieces.l0.eq_2 ..) ?_
          refine ev_iteF (by rw [tl_eq, bl_ofL]; nofun) (ev_iteT g1 (ev_iteT (by rw [g2, c60]) k))
        rcases markBoth hs2 h hpy with ⟨K, nm, sp', hs', pre', rest, h1, h2, ⟨q, h3⟩, z1, z2, h4, h5⟩ | ⟨h1, a, b, c', d, e, r, h2⟩
        · simp only [List.length_cons] at h2
          by_cases c1 : out.length = 60
          · refine ⟨[], false, sp (ev_iteT (by omega) (Ev.now _)), im (Ev.bind h5 (ev_iteT rfl (ev_iteT (by omega) (Ev.now _)))), by simp, nofun, fun _ => rfl⟩
          · have hpr : plainL rest = true := by rw [h3, plain_app, Bool.and_eq_true] at hp; exact hp.2
            obtain ⟨l, ok, i1, i2, i3, i4, i5⟩ := ih rest pre' (out ++ [(⟨K, nm, sp', hs', E0⟩ : S82)]) (by omega) h1 hpr (by simp only [List.length_append, List.length_cons, List.length_nil]; omega) (all_snoc hg ⟨rfl, Nat.zero_le _, z1, z2⟩)
            refine ⟨l, ok, sp (ev_iteF (by omega) (ev_iteT (by rw [c60]) (Ev.bind h4 (ev_iteF (Int.not_lt.2 (nonneg_at _)) (ev_iteT (by omega) i1))))), im (Ev.bind h5 (ev_iteT rfl (ev_iteF (by omega) (ev_iteT (by omega) i2)))), i3, i4, i5⟩
        · refine ⟨[], false, sp ?_, im (Ev.bind h2 (ev_iteF nofun (Ev.now _))), by simp, nofun, fun _ => rfl⟩
          by_cases c1 : (out.length : Int) = 60
          · exact ev_iteT c1 (Ev.now _)
          · exact ev_iteF c1 (ev_iteT (by rw [c60]) (Ev.bind h1 (ev_iteT (by decide) (Ev.now _))))
      · obtain ⟨body', rest, rfl, hn60, hr⟩ := spl60 y
        simp only [List.length_append] at hl hn
        have hb60 : (60 : UInt8) ∉ c :: body' := fun e => (List.mem_cons.1 e).elim (fun e => hc e.symm) hn60
        have hpp : plainL (c :: body') = true ∧ plainL rest = true := by
          rw [show c :: (body' ++ rest) = (c :: body') ++ rest from rfl, plain_app, Bool.and_eq_true] at hp; exact hp
        obtain ⟨t, ok, u1, u2, u3, u4⟩ := unBoth (s := ofL (c :: body')) (by rw [size_ofL]; simp only [List.length_cons]; omega) (by rw [bl_ofL]; exact hpp.1)
        rw [size_ofL, List.length_cons] at u4
        have hz : (c :: body' ++ rest).length ≤ 1073741824 := by simp only [List.cons_append, List.length_cons, List.length_append]; omega
        by_cases c1 : ok = false ∨ out.length ≥ 60
        · refine ⟨[], false, sp ?_, implTxt hc hz hb60 hr u2 (fun _ => rfl) (fun h1 h2 => c1.elim (fun e => by rw [h1] at e; cases e) (fun e => by omega)), by simp, nofun, fun _ => rfl⟩
          by_cases c2 : (out.length : Int) = 60
          · exact ev_iteT c2 (Ev.now _)
          · refine ev_iteF c2 (ev_iteF (by rw [c60]; exact hc) ?_)
            exact specTxt hs2 (body := c :: body') h hb60 hr u1 ho (fun _ => rfl) (fun h1 => c1.elim (fun e => by rw [h1] at e; cases e) (fun e => by omega))
        · have hok : ok = true := by cases ok with | true => rfl | false => exact absurd (.inl rfl) c1
          have hlt : out.length < 60 := Nat.lt_of_not_ge (fun e => c1 (.inr e))
          obtain ⟨l, ok2, i1, i2, i3, i4, i5⟩ := ih rest (pre ++ c :: body') (out ++ [(⟨4, E0, E0, false, ofL t⟩ : S82)]) (by omega) (by rw [h]; simp) hpp.2 (by simp only [List.length_append, List.length_cons, List.length_nil]; omega) (all_snoc hg ⟨by rw [bl_ofL]; exact u3, by rw [size_ofL]; omega, Nat.zero_le _, Nat.zero_le _⟩)
          refine ⟨l, ok2, sp (ev_iteF (by omega) (ev_iteF (by rw [c60]; exact hc) ?_)), implTxt hc hz hb60 hr u2 (fun e => absurd e c1) (fun _ _ => i2), i3, i4, i5⟩
          exact specTxt hs2 (body := c :: body') h hb60 hr u1 ho (fun e => by rw [hok] at e; cases e) (fun _ => i1)
theorem piecesBoth {s : ByteArray} (hs : s.size ≤ 1048576) : ∃ (l : List S82) (ok : Bool), Ev (fun k => spec_Pieces.f k s) (l, ok) ∧ Ev (fun k => impl_Pieces.f k s) (l, ok) ∧ l.length ≤ 60 ∧ (∀ p ∈ l, GoodP p) ∧ (ok = false → l = []) := by
  have hS := specPlain (s := s) (by rw [maxLen_eq]; omega)
  have hI := implPlain (s := s) (by rw [maxLen_eq]; omega)
  cases hp : plainL (bl s) with
  | true =>
    obtain ⟨l, ok, i1, i2, i3⟩ := piecesLoop hs hp _ (bl s) [] [] (Nat.le_refl _) rfl hp (by simp) nofun
    rw [ofL_bl] at i2
    rw [hp] at hI
    refine ⟨l, ok, i1, ?_, i3⟩
    unfold impl_Pieces.f
    exact Ev.bind hI (ev_iteT rfl i2)
  | false =>
    rw [hp] at hS hI
    refine ⟨[], false, ?_, ?_, by simp, nofun, fun _ => rfl⟩
    · unfold spec_Pieces.f
      refine Ev.step (fun k => spec_Pieces.l0.eq_2 ..) ?_
      have fin : ∀ {z : Int}, Ev (fun k => spec_Pieces.j1 k s ([] : List S82) z false) (([] : List S82), false) := by
        intro z
        refine Ev.step (fun k => spec_Pieces.j1.eq_2 ..) ?_
        exact ev_iteF nofun (Ev.bind hS (Ev.now _))
      by_cases c : (0 : Int) < (s.size : Int)
      · exact ev_iteT c (Ev.bind hS fin)
      · exact ev_iteF c fin
    · unfold impl_Pieces.f
      exact Ev.bind hI (ev_iteF nofun (Ev.now _))
end Go.Proofs.YtegkokdncakadaaGreatDoor.L
