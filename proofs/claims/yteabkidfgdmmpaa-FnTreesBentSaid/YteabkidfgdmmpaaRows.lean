/-
  No cell of these rows narrows 'for every input' (looked for: loops, veiled, ifaces, maps, wideKeys, modest, calm, conditions, laid).
  DERIVED. THE GIVEN ROWS OF THIS SEAT. 12 by the template 'for every input the law returns true; each argument reads behind the call as it read before'; 0 by the template 'total and deterministic' (their statements: YteabkidfgdmmpaaTotals.lean).
  GIVEN WITH THE SEED: the statements are not yours to turn. If you find one false, say at which input.
  Laid BY PROGRAM, IN A SANDBOX (cutbox-rows.mjs): the forced cells as the released guide's own fill.sh prints them over the translation 927fa79deda72851… (all of the seat's roots in one cut). By AI agents, Wed Nov 11 2026. No macro, syntax, notation, axiom, sorry.
-/
import Derived.Test.YteabkidfgdmmpaaChecked
import GoSem.Claim
import GoSem.ClaimJoined
import GoSem.ClaimMapViews
import Derived.JoinedTies
import Derived.KernelRfl
namespace Go.Proofs.Yteabkidfgdmmpaa
/- THE CELL 'sum', in the pinned program and in every row, IS THE sha256 OF THE DUMP (.gsa) THAT YteabkidfgdmmpaaProg.lean LOADS. Nothing in Lean hashes anything: it is a label: what it is worth is what the hold of that sum in a sandbox is worth. -/
noncomputable def Try.pinned : Pinned := { name := "yteabkidfgdmmpaa", sum := "927fa79deda728512dc77df19fdf1a6bd930ad950bd0f13a7eb51531eb56e643", checked := Try.checked }
namespace Rows
def none {H : Type} : Left H := { results := [], args := [] }

/-- 'laws.FnExactLessPath': WHATEVER THE INPUT: true; the input reads as it did. -/
def fnExactLessPathSpec : ChangeSpec := { name := "fnExactLessPath", fn := fun _ => fun
  | [d1, d2] => { results := [.lit (.bool true)], args := [d1, d2] }
  | _ => none }
def fnExactLessPathRow : OpenClaim := { program := "yteabkidfgdmmpaa", sum := "927fa79deda728512dc77df19fdf1a6bd930ad950bd0f13a7eb51531eb56e643", func := "loop.example/g00452/laws.FnExactLessPath", spec := "fnExactLessPath", apart := false }
def FnExactLessPathSaid : Prop := fnExactLessPathRow.holds Try.pinned (OpenSpec.ofChange fnExactLessPathSpec)

/-- ITS FALSE NEIGHBOUR: 'it returns false'. Refute it at one input. -/
def fnExactLessPathWrong : ChangeSpec := { name := "fnExactLessPath", fn := fun _ => fun
  | [d1, d2] => { results := [.lit (.bool false)], args := [d1, d2] }
  | _ => none }
def FnExactLessPathWrongFalsely : Prop := fnExactLessPathRow.holds Try.pinned (OpenSpec.ofChange fnExactLessPathWrong)

/-- 'laws.FnExactAbove': WHATEVER THE INPUT: true; the input reads as it did. -/
def fnExactAboveSpec : ChangeSpec := { name := "fnExactAbove", fn := fun _ => fun
  | [d] => { results := [.lit (.bool true)], args := [d] }
  | _ => none }
def fnExactAboveRow : OpenClaim := { program := "yteabkidfgdmmpaa", sum := "927fa79deda728512dc77df19fdf1a6bd930ad950bd0f13a7eb51531eb56e643", func := "loop.example/g00452/laws.FnExactAbove", spec := "fnExactAbove", apart := false }
def FnExactAboveSaid : Prop := fnExactAboveRow.holds Try.pinned (OpenSpec.ofChange fnExactAboveSpec)

/-- ITS FALSE NEIGHBOUR: 'it returns false'. Refute it at one input. -/
def fnExactAboveWrong : ChangeSpec := { name := "fnExactAbove", fn := fun _ => fun
  | [d] => { results := [.lit (.bool false)], args := [d] }
  | _ => none }
def FnExactAboveWrongFalsely : Prop := fnExactAboveRow.holds Try.pinned (OpenSpec.ofChange fnExactAboveWrong)

/-- 'laws.FnExactPropOf': WHATEVER THE INPUT: true; the input reads as it did. -/
def fnExactPropOfSpec : ChangeSpec := { name := "fnExactPropOf", fn := fun _ => fun
  | [d1, d2, d3] => { results := [.lit (.bool true)], args := [d1, d2, d3] }
  | _ => none }
def fnExactPropOfRow : OpenClaim := { program := "yteabkidfgdmmpaa", sum := "927fa79deda728512dc77df19fdf1a6bd930ad950bd0f13a7eb51531eb56e643", func := "loop.example/g00452/laws.FnExactPropOf", spec := "fnExactPropOf", apart := false }
def FnExactPropOfSaid : Prop := fnExactPropOfRow.holds Try.pinned (OpenSpec.ofChange fnExactPropOfSpec)

/-- ITS FALSE NEIGHBOUR: 'it returns false'. Refute it at one input. -/
def fnExactPropOfWrong : ChangeSpec := { name := "fnExactPropOf", fn := fun _ => fun
  | [d1, d2, d3] => { results := [.lit (.bool false)], args := [d1, d2, d3] }
  | _ => none }
def FnExactPropOfWrongFalsely : Prop := fnExactPropOfRow.holds Try.pinned (OpenSpec.ofChange fnExactPropOfWrong)

/-- 'laws.FnExactPropsOk': WHATEVER THE INPUT: true; the input reads as it did. -/
def fnExactPropsOkSpec : ChangeSpec := { name := "fnExactPropsOk", fn := fun _ => fun
  | [d] => { results := [.lit (.bool true)], args := [d] }
  | _ => none }
def fnExactPropsOkRow : OpenClaim := { program := "yteabkidfgdmmpaa", sum := "927fa79deda728512dc77df19fdf1a6bd930ad950bd0f13a7eb51531eb56e643", func := "loop.example/g00452/laws.FnExactPropsOk", spec := "fnExactPropsOk", apart := false }
def FnExactPropsOkSaid : Prop := fnExactPropsOkRow.holds Try.pinned (OpenSpec.ofChange fnExactPropsOkSpec)

/-- ITS FALSE NEIGHBOUR: 'it returns false'. Refute it at one input. -/
def fnExactPropsOkWrong : ChangeSpec := { name := "fnExactPropsOk", fn := fun _ => fun
  | [d] => { results := [.lit (.bool false)], args := [d] }
  | _ => none }
def FnExactPropsOkWrongFalsely : Prop := fnExactPropsOkRow.holds Try.pinned (OpenSpec.ofChange fnExactPropsOkWrong)

/-- 'laws.FnExactWide': WHATEVER THE INPUT: true; the input reads as it did. -/
def fnExactWideSpec : ChangeSpec := { name := "fnExactWide", fn := fun _ => fun
  | [d] => { results := [.lit (.bool true)], args := [d] }
  | _ => none }
def fnExactWideRow : OpenClaim := { program := "yteabkidfgdmmpaa", sum := "927fa79deda728512dc77df19fdf1a6bd930ad950bd0f13a7eb51531eb56e643", func := "loop.example/g00452/laws.FnExactWide", spec := "fnExactWide", apart := false }
def FnExactWideSaid : Prop := fnExactWideRow.holds Try.pinned (OpenSpec.ofChange fnExactWideSpec)

/-- ITS FALSE NEIGHBOUR: 'it returns false'. Refute it at one input. -/
def fnExactWideWrong : ChangeSpec := { name := "fnExactWide", fn := fun _ => fun
  | [d] => { results := [.lit (.bool false)], args := [d] }
  | _ => none }
def FnExactWideWrongFalsely : Prop := fnExactWideRow.holds Try.pinned (OpenSpec.ofChange fnExactWideWrong)

/-- 'laws.FnExactFindRes': WHATEVER THE INPUT: true; the input reads as it did. -/
def fnExactFindResSpec : ChangeSpec := { name := "fnExactFindRes", fn := fun _ => fun
  | [d1, d2] => { results := [.lit (.bool true)], args := [d1, d2] }
  | _ => none }
def fnExactFindResRow : OpenClaim := { program := "yteabkidfgdmmpaa", sum := "927fa79deda728512dc77df19fdf1a6bd930ad950bd0f13a7eb51531eb56e643", func := "loop.example/g00452/laws.FnExactFindRes", spec := "fnExactFindRes", apart := false }
def FnExactFindResSaid : Prop := fnExactFindResRow.holds Try.pinned (OpenSpec.ofChange fnExactFindResSpec)

/-- ITS FALSE NEIGHBOUR: 'it returns false'. Refute it at one input. -/
def fnExactFindResWrong : ChangeSpec := { name := "fnExactFindRes", fn := fun _ => fun
  | [d1, d2] => { results := [.lit (.bool false)], args := [d1, d2] }
  | _ => none }
def FnExactFindResWrongFalsely : Prop := fnExactFindResRow.holds Try.pinned (OpenSpec.ofChange fnExactFindResWrong)

/-- 'laws.FnExactIsColl': WHATEVER THE INPUT: true; the input reads as it did. -/
def fnExactIsCollSpec : ChangeSpec := { name := "fnExactIsColl", fn := fun _ => fun
  | [d1, d2] => { results := [.lit (.bool true)], args := [d1, d2] }
  | _ => none }
def fnExactIsCollRow : OpenClaim := { program := "yteabkidfgdmmpaa", sum := "927fa79deda728512dc77df19fdf1a6bd930ad950bd0f13a7eb51531eb56e643", func := "loop.example/g00452/laws.FnExactIsColl", spec := "fnExactIsColl", apart := false }
def FnExactIsCollSaid : Prop := fnExactIsCollRow.holds Try.pinned (OpenSpec.ofChange fnExactIsCollSpec)

/-- ITS FALSE NEIGHBOUR: 'it returns false'. Refute it at one input. -/
def fnExactIsCollWrong : ChangeSpec := { name := "fnExactIsColl", fn := fun _ => fun
  | [d1, d2] => { results := [.lit (.bool false)], args := [d1, d2] }
  | _ => none }
def FnExactIsCollWrongFalsely : Prop := fnExactIsCollRow.holds Try.pinned (OpenSpec.ofChange fnExactIsCollWrong)

/-- 'laws.FnExactKidsOf': WHATEVER THE INPUT: true; the input reads as it did. -/
def fnExactKidsOfSpec : ChangeSpec := { name := "fnExactKidsOf", fn := fun _ => fun
  | [d1, d2] => { results := [.lit (.bool true)], args := [d1, d2] }
  | _ => none }
def fnExactKidsOfRow : OpenClaim := { program := "yteabkidfgdmmpaa", sum := "927fa79deda728512dc77df19fdf1a6bd930ad950bd0f13a7eb51531eb56e643", func := "loop.example/g00452/laws.FnExactKidsOf", spec := "fnExactKidsOf", apart := false }
def FnExactKidsOfSaid : Prop := fnExactKidsOfRow.holds Try.pinned (OpenSpec.ofChange fnExactKidsOfSpec)

/-- ITS FALSE NEIGHBOUR: 'it returns false'. Refute it at one input. -/
def fnExactKidsOfWrong : ChangeSpec := { name := "fnExactKidsOf", fn := fun _ => fun
  | [d1, d2] => { results := [.lit (.bool false)], args := [d1, d2] }
  | _ => none }
def FnExactKidsOfWrongFalsely : Prop := fnExactKidsOfRow.holds Try.pinned (OpenSpec.ofChange fnExactKidsOfWrong)

/-- 'laws.FnExactDeepOf': WHATEVER THE INPUT: true; the input reads as it did. -/
def fnExactDeepOfSpec : ChangeSpec := { name := "fnExactDeepOf", fn := fun _ => fun
  | [d1, d2] => { results := [.lit (.bool true)], args := [d1, d2] }
  | _ => none }
def fnExactDeepOfRow : OpenClaim := { program := "yteabkidfgdmmpaa", sum := "927fa79deda728512dc77df19fdf1a6bd930ad950bd0f13a7eb51531eb56e643", func := "loop.example/g00452/laws.FnExactDeepOf", spec := "fnExactDeepOf", apart := false }
def FnExactDeepOfSaid : Prop := fnExactDeepOfRow.holds Try.pinned (OpenSpec.ofChange fnExactDeepOfSpec)

/-- ITS FALSE NEIGHBOUR: 'it returns false'. Refute it at one input. -/
def fnExactDeepOfWrong : ChangeSpec := { name := "fnExactDeepOf", fn := fun _ => fun
  | [d1, d2] => { results := [.lit (.bool false)], args := [d1, d2] }
  | _ => none }
def FnExactDeepOfWrongFalsely : Prop := fnExactDeepOfRow.holds Try.pinned (OpenSpec.ofChange fnExactDeepOfWrong)

/-- 'laws.FnExactTreeOk': WHATEVER THE INPUT: true; the input reads as it did. -/
def fnExactTreeOkSpec : ChangeSpec := { name := "fnExactTreeOk", fn := fun _ => fun
  | [d] => { results := [.lit (.bool true)], args := [d] }
  | _ => none }
def fnExactTreeOkRow : OpenClaim := { program := "yteabkidfgdmmpaa", sum := "927fa79deda728512dc77df19fdf1a6bd930ad950bd0f13a7eb51531eb56e643", func := "loop.example/g00452/laws.FnExactTreeOk", spec := "fnExactTreeOk", inPlace := ["internal/bytealg.IndexByteString", "internal/bytealg.IndexString"], named := ["internal/bytealg.MaxLen"], apart := false }
def FnExactTreeOkSaid : Prop := fnExactTreeOkRow.holds Try.pinned (OpenSpec.ofChange fnExactTreeOkSpec)

/-- ITS FALSE NEIGHBOUR: 'it returns false'. Refute it at one input. -/
def fnExactTreeOkWrong : ChangeSpec := { name := "fnExactTreeOk", fn := fun _ => fun
  | [d] => { results := [.lit (.bool false)], args := [d] }
  | _ => none }
def FnExactTreeOkWrongFalsely : Prop := fnExactTreeOkRow.holds Try.pinned (OpenSpec.ofChange fnExactTreeOkWrong)

/-- 'laws.FnKids': WHATEVER THE INPUT: true; the input reads as it did. -/
def fnKidsSpec : ChangeSpec := { name := "fnKids", fn := fun _ => fun
  | [d] => { results := [.lit (.bool true)], args := [d] }
  | _ => none }
def fnKidsRow : OpenClaim := { program := "yteabkidfgdmmpaa", sum := "927fa79deda728512dc77df19fdf1a6bd930ad950bd0f13a7eb51531eb56e643", func := "loop.example/g00452/laws.FnKids", spec := "fnKids", apart := false }
def FnKidsSaid : Prop := fnKidsRow.holds Try.pinned (OpenSpec.ofChange fnKidsSpec)

/-- ITS FALSE NEIGHBOUR: 'it returns false'. Refute it at one input. -/
def fnKidsWrong : ChangeSpec := { name := "fnKids", fn := fun _ => fun
  | [d] => { results := [.lit (.bool false)], args := [d] }
  | _ => none }
def FnKidsWrongFalsely : Prop := fnKidsRow.holds Try.pinned (OpenSpec.ofChange fnKidsWrong)

/-- 'laws.FnTreesBent': WHATEVER THE INPUT: true; the input reads as it did. -/
def fnTreesBentSpec : ChangeSpec := { name := "fnTreesBent", fn := fun _ => fun
  | [d] => { results := [.lit (.bool true)], args := [d] }
  | _ => none }
def fnTreesBentRow : OpenClaim := { program := "yteabkidfgdmmpaa", sum := "927fa79deda728512dc77df19fdf1a6bd930ad950bd0f13a7eb51531eb56e643", func := "loop.example/g00452/laws.FnTreesBent", spec := "fnTreesBent", inPlace := ["internal/bytealg.IndexByteString", "internal/bytealg.IndexString"], named := ["internal/bytealg.MaxLen"], apart := false }
def FnTreesBentSaid : Prop := fnTreesBentRow.holds Try.pinned (OpenSpec.ofChange fnTreesBentSpec)

/-- ITS FALSE NEIGHBOUR: 'it returns false'. Refute it at one input. -/
def fnTreesBentWrong : ChangeSpec := { name := "fnTreesBent", fn := fun _ => fun
  | [d] => { results := [.lit (.bool false)], args := [d] }
  | _ => none }
def FnTreesBentWrongFalsely : Prop := fnTreesBentRow.holds Try.pinned (OpenSpec.ofChange fnTreesBentWrong)

/- THE SECOND FORM. 'bulk': how many values and letters a reading holds, each counted each time it is reached (what is shared counts as often as it is met; a slice's spare places count too). A statement '..UptoSaid' is the law's where the arguments, and the package variables that the reading takes, are together of bulk at most 1048576: NARROWER than '..Said'. Prove '..Said' where nothing that the law and all that it calls make is longer than what came in: it says more and counts as full. Else prove '..UptoSaid'. A law counts once. -/
mutual
def uptoBulk {H : Type} : DataW H → Nat
  | .lit (.string bytes) => bytes.length + 1
  | .lit _ => 1
  | .nil => 1
  | .ptr d => uptoBulk d + 1
  | .slice elems spare => uptoBulkAll elems + uptoBulkAll spare + 1
  | .agg parts => uptoBulkAll parts + 1
  | .iface _ d => uptoBulk d + 1
  | .map entries => uptoBulkEntries entries + 1
  | .held _ => 1
def uptoBulkAll {H : Type} : List (DataW H) → Nat
  | [] => 0
  | d :: r => uptoBulk d + uptoBulkAll r
def uptoBulkEntries {H : Type} : List (Lit × DataW H) → Nat
  | [] => 0
  | x :: r => uptoBulkEntry x + uptoBulkEntries r
def uptoBulkEntry {H : Type} : Lit × DataW H → Nat
  | (.string bytes, d) => bytes.length + uptoBulk d + 1
  | (_, d) => uptoBulk d + 1
 end
def uptoSmall : (H : Type) → List (DataW H) → Bool := fun _ ds => decide (uptoBulkAll ds ≤ 1048576)
def OpenSpec.upto (s : _root_.Go.ChangeSpec) : _root_.Go.OpenSpec := { _root_.Go.OpenSpec.ofChange s with cond := some uptoSmall }

/-- 'laws.FnExactLessPath', WHERE WHAT IT READS IS OF BULK AT MOST 1048576: true; the input reads as it did. -/
def fnExactLessPathUptoRow : OpenClaim := { program := "yteabkidfgdmmpaa", sum := "927fa79deda728512dc77df19fdf1a6bd930ad950bd0f13a7eb51531eb56e643", func := "loop.example/g00452/laws.FnExactLessPath", spec := "fnExactLessPath", apart := false, narrowed := true }
def FnExactLessPathUptoSaid : Prop := fnExactLessPathUptoRow.holds Try.pinned (OpenSpec.upto fnExactLessPathSpec)

/-- 'laws.FnExactAbove', WHERE WHAT IT READS IS OF BULK AT MOST 1048576: true; the input reads as it did. -/
def fnExactAboveUptoRow : OpenClaim := { program := "yteabkidfgdmmpaa", sum := "927fa79deda728512dc77df19fdf1a6bd930ad950bd0f13a7eb51531eb56e643", func := "loop.example/g00452/laws.FnExactAbove", spec := "fnExactAbove", apart := false, narrowed := true }
def FnExactAboveUptoSaid : Prop := fnExactAboveUptoRow.holds Try.pinned (OpenSpec.upto fnExactAboveSpec)

/-- 'laws.FnExactPropOf', WHERE WHAT IT READS IS OF BULK AT MOST 1048576: true; the input reads as it did. -/
def fnExactPropOfUptoRow : OpenClaim := { program := "yteabkidfgdmmpaa", sum := "927fa79deda728512dc77df19fdf1a6bd930ad950bd0f13a7eb51531eb56e643", func := "loop.example/g00452/laws.FnExactPropOf", spec := "fnExactPropOf", apart := false, narrowed := true }
def FnExactPropOfUptoSaid : Prop := fnExactPropOfUptoRow.holds Try.pinned (OpenSpec.upto fnExactPropOfSpec)

/-- 'laws.FnExactPropsOk', WHERE WHAT IT READS IS OF BULK AT MOST 1048576: true; the input reads as it did. -/
def fnExactPropsOkUptoRow : OpenClaim := { program := "yteabkidfgdmmpaa", sum := "927fa79deda728512dc77df19fdf1a6bd930ad950bd0f13a7eb51531eb56e643", func := "loop.example/g00452/laws.FnExactPropsOk", spec := "fnExactPropsOk", apart := false, narrowed := true }
def FnExactPropsOkUptoSaid : Prop := fnExactPropsOkUptoRow.holds Try.pinned (OpenSpec.upto fnExactPropsOkSpec)

/-- 'laws.FnExactWide', WHERE WHAT IT READS IS OF BULK AT MOST 1048576: true; the input reads as it did. -/
def fnExactWideUptoRow : OpenClaim := { program := "yteabkidfgdmmpaa", sum := "927fa79deda728512dc77df19fdf1a6bd930ad950bd0f13a7eb51531eb56e643", func := "loop.example/g00452/laws.FnExactWide", spec := "fnExactWide", apart := false, narrowed := true }
def FnExactWideUptoSaid : Prop := fnExactWideUptoRow.holds Try.pinned (OpenSpec.upto fnExactWideSpec)

/-- 'laws.FnExactFindRes', WHERE WHAT IT READS IS OF BULK AT MOST 1048576: true; the input reads as it did. -/
def fnExactFindResUptoRow : OpenClaim := { program := "yteabkidfgdmmpaa", sum := "927fa79deda728512dc77df19fdf1a6bd930ad950bd0f13a7eb51531eb56e643", func := "loop.example/g00452/laws.FnExactFindRes", spec := "fnExactFindRes", apart := false, narrowed := true }
def FnExactFindResUptoSaid : Prop := fnExactFindResUptoRow.holds Try.pinned (OpenSpec.upto fnExactFindResSpec)

/-- 'laws.FnExactIsColl', WHERE WHAT IT READS IS OF BULK AT MOST 1048576: true; the input reads as it did. -/
def fnExactIsCollUptoRow : OpenClaim := { program := "yteabkidfgdmmpaa", sum := "927fa79deda728512dc77df19fdf1a6bd930ad950bd0f13a7eb51531eb56e643", func := "loop.example/g00452/laws.FnExactIsColl", spec := "fnExactIsColl", apart := false, narrowed := true }
def FnExactIsCollUptoSaid : Prop := fnExactIsCollUptoRow.holds Try.pinned (OpenSpec.upto fnExactIsCollSpec)

/-- 'laws.FnExactKidsOf', WHERE WHAT IT READS IS OF BULK AT MOST 1048576: true; the input reads as it did. -/
def fnExactKidsOfUptoRow : OpenClaim := { program := "yteabkidfgdmmpaa", sum := "927fa79deda728512dc77df19fdf1a6bd930ad950bd0f13a7eb51531eb56e643", func := "loop.example/g00452/laws.FnExactKidsOf", spec := "fnExactKidsOf", apart := false, narrowed := true }
def FnExactKidsOfUptoSaid : Prop := fnExactKidsOfUptoRow.holds Try.pinned (OpenSpec.upto fnExactKidsOfSpec)

/-- 'laws.FnExactDeepOf', WHERE WHAT IT READS IS OF BULK AT MOST 1048576: true; the input reads as it did. -/
def fnExactDeepOfUptoRow : OpenClaim := { program := "yteabkidfgdmmpaa", sum := "927fa79deda728512dc77df19fdf1a6bd930ad950bd0f13a7eb51531eb56e643", func := "loop.example/g00452/laws.FnExactDeepOf", spec := "fnExactDeepOf", apart := false, narrowed := true }
def FnExactDeepOfUptoSaid : Prop := fnExactDeepOfUptoRow.holds Try.pinned (OpenSpec.upto fnExactDeepOfSpec)

/-- 'laws.FnExactTreeOk', WHERE WHAT IT READS IS OF BULK AT MOST 1048576: true; the input reads as it did. -/
def fnExactTreeOkUptoRow : OpenClaim := { program := "yteabkidfgdmmpaa", sum := "927fa79deda728512dc77df19fdf1a6bd930ad950bd0f13a7eb51531eb56e643", func := "loop.example/g00452/laws.FnExactTreeOk", spec := "fnExactTreeOk", inPlace := ["internal/bytealg.IndexByteString", "internal/bytealg.IndexString"], named := ["internal/bytealg.MaxLen"], apart := false, narrowed := true }
def FnExactTreeOkUptoSaid : Prop := fnExactTreeOkUptoRow.holds Try.pinned (OpenSpec.upto fnExactTreeOkSpec)

/-- 'laws.FnKids', WHERE WHAT IT READS IS OF BULK AT MOST 1048576: true; the input reads as it did. -/
def fnKidsUptoRow : OpenClaim := { program := "yteabkidfgdmmpaa", sum := "927fa79deda728512dc77df19fdf1a6bd930ad950bd0f13a7eb51531eb56e643", func := "loop.example/g00452/laws.FnKids", spec := "fnKids", apart := false, narrowed := true }
def FnKidsUptoSaid : Prop := fnKidsUptoRow.holds Try.pinned (OpenSpec.upto fnKidsSpec)

/-- 'laws.FnTreesBent', WHERE WHAT IT READS IS OF BULK AT MOST 1048576: true; the input reads as it did. -/
def fnTreesBentUptoRow : OpenClaim := { program := "yteabkidfgdmmpaa", sum := "927fa79deda728512dc77df19fdf1a6bd930ad950bd0f13a7eb51531eb56e643", func := "loop.example/g00452/laws.FnTreesBent", spec := "fnTreesBent", inPlace := ["internal/bytealg.IndexByteString", "internal/bytealg.IndexString"], named := ["internal/bytealg.MaxLen"], apart := false, narrowed := true }
def FnTreesBentUptoSaid : Prop := fnTreesBentUptoRow.holds Try.pinned (OpenSpec.upto fnTreesBentSpec)

end Rows
end Go.Proofs.Yteabkidfgdmmpaa
