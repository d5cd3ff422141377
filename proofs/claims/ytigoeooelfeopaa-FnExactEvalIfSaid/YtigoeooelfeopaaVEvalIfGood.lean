/- What a reading of a struct says of its cells. No condition. -/
import Derived.Test.YtigoeooelfeopaaVEvalIfQx0
import Derived.Test.YtigoeooelfeopaaOpen
namespace Go.Proofs.Ytigoeooelfeopaa.Q
open Go.RowKit Go.ChangeShapes Go.WideShapes Go.Proofs.YtigoeooelfeopaaW.PrintWords Go.Proofs.Ytigoeooelfeopaa
set_option linter.unusedVariables false
set_option linter.unusedSimpArgs false
theorem len3 {α : Type} {cs : List α} (h : cs.length = 3) : ∃ c0 c1 c2, cs = [c0, c1, c2] := by
  match cs, h with
  | [c0, c1, c2], _ => exact ⟨_, _, _, rfl⟩
instance : Inhabited S72 := ⟨z72⟩
def G72 (x : S72) : Prop := (fun _ : Bool => True) x.f0 ∧ (fun x : Int => (Lit.int .i64 x).wf = true) x.f1 ∧ (fun s : ByteArray => s.size ≤ maxLen) x.f2
theorem opens72 {H : Type} {enc : TypeId × Value → H} {w : World} : Op.Opens enc Try.prog w 72 k72 G72 := by
  intro fuel cs x h
  obtain ⟨xs, n, _, _, hl, hlen, hf⟩ := DataW.trod_struct Try.underlying72 h
  replace hl : cs.length = 3 := hl.trans (by kernel_rfl)
  replace hlen : xs.length = 3 := hlen.trans (by kernel_rfl)
  obtain ⟨c0, c1, c2, rfl⟩ := len3 hl
  have hc4_ : Try.prog.cellsOf 4 = 1 := by kernel_rfl
  have hc3_ : Try.prog.cellsOf 3 = 1 := by kernel_rfl
  have hc9_ : Try.prog.cellsOf 9 = 1 := by kernel_rfl
  obtain ⟨a0, k0_, g0_⟩ : ∃ a, Kd.bool.K w a [c0] ∧ (fun _ : Bool => True) a := by
    have h1 : DataW.trod enc Try.prog w 0 (fun _ => true) true n 4 (([c0, c1, c2].drop 0).take (Try.prog.cellsOf 4)) = xs[0]? := hf 0 _ rfl
    have hlt : 0 < xs.length := by omega
    rw [List.getElem?_eq_getElem hlt] at h1
    simp only [hc4_, List.drop_zero, List.drop_succ_cons, List.take_succ_cons, List.take_zero] at h1
    exact (Op.opens_bool Try.underlying4) n [c0] _ h1
  obtain ⟨a1, k1_, g1_⟩ : ∃ a, (Kd.int .i64).K w a [c1] ∧ (fun x : Int => (Lit.int .i64 x).wf = true) a := by
    have h1 : DataW.trod enc Try.prog w 0 (fun _ => true) true n 3 (([c0, c1, c2].drop 1).take (Try.prog.cellsOf 3)) = xs[1]? := hf 1 _ rfl
    have hlt : 1 < xs.length := by omega
    rw [List.getElem?_eq_getElem hlt] at h1
    simp only [hc3_, List.drop_zero, List.drop_succ_cons, List.take_succ_cons, List.take_zero] at h1
    exact (Op.opens_int Try.underlying3) n [c1] _ h1
  obtain ⟨a2, k2_, g2_⟩ : ∃ a, Kd.string.K w a [c2] ∧ (fun s : ByteArray => s.size ≤ maxLen) a := by
    have h1 : DataW.trod enc Try.prog w 0 (fun _ => true) true n 9 (([c0, c1, c2].drop 2).take (Try.prog.cellsOf 9)) = xs[2]? := hf 2 _ rfl
    have hlt : 2 < xs.length := by omega
    rw [List.getElem?_eq_getElem hlt] at h1
    simp only [hc9_, List.drop_zero, List.drop_succ_cons, List.take_succ_cons, List.take_zero] at h1
    exact (Op.opens_string Try.underlying9) n [c2] _ h1
  exact ⟨⟨a0, a1, a2⟩, ⟨[c0], [c1, c2], rfl, k0_, ⟨[c1], [c2], rfl, k1_, k2_⟩⟩, ⟨g0_, g1_, g2_⟩⟩
end Go.Proofs.Ytigoeooelfeopaa.Q
