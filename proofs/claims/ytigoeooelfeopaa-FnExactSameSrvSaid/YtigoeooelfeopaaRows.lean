/-
  No cell of these rows narrows 'for every input' (looked for: loops, veiled, ifaces, maps, wideKeys, modest, calm, conditions, laid).
  DERIVED. THE GIVEN ROWS OF THIS SEAT. 5 by the template 'for every input the law returns true; each argument reads behind the call as it read before'; 0 by the template 'total and deterministic' (their statements: YtigoeooelfeopaaTotals.lean).
  GIVEN WITH THE SEED: the statements are not yours to turn. If you find one false, say at which input.
  Laid BY PROGRAM, IN A SANDBOX (cutbox-rows.mjs): the forced cells as the released guide's own fill.sh prints them over the translation ede7f67d90775402… (all of the seat's roots in one cut). By AI agents, Wed Nov 11 2026. No macro, syntax, notation, axiom, sorry.
-/
import Derived.Test.YtigoeooelfeopaaChecked
import GoSem.Claim
import GoSem.ClaimJoined
import GoSem.ClaimMapViews
import Derived.JoinedTies
import Derived.KernelRfl
namespace Go.Proofs.Ytigoeooelfeopaa
/- THE CELL 'sum', in the pinned program and in every row, IS THE sha256 OF THE DUMP (.gsa) THAT YtigoeooelfeopaaProg.lean LOADS. Nothing in Lean hashes anything: it is a label: what it is worth is what the hold of that sum in a sandbox is worth. -/
noncomputable def Try.pinned : Pinned := { name := "ytigoeooelfeopaa", sum := "ede7f67d907754024355f95a1e840a4dce0148aec26cb94edcd97fc86d1ea8ea", checked := Try.checked }
namespace Rows
def none {H : Type} : Left H := { results := [], args := [] }

/-- 'laws.FnExactChanges': WHATEVER THE INPUT: true; the input reads as it did. -/
def fnExactChangesSpec : ChangeSpec := { name := "fnExactChanges", fn := fun _ => fun
  | [d] => { results := [.lit (.bool true)], args := [d] }
  | _ => none }
def fnExactChangesRow : OpenClaim := { program := "ytigoeooelfeopaa", sum := "ede7f67d907754024355f95a1e840a4dce0148aec26cb94edcd97fc86d1ea8ea", func := "loop.example/g00452/laws.FnExactChanges", spec := "fnExactChanges", apart := false }
def FnExactChangesSaid : Prop := fnExactChangesRow.holds Try.pinned (OpenSpec.ofChange fnExactChangesSpec)

/-- ITS FALSE NEIGHBOUR: 'it returns false'. Refute it at one input. -/
def fnExactChangesWrong : ChangeSpec := { name := "fnExactChanges", fn := fun _ => fun
  | [d] => { results := [.lit (.bool false)], args := [d] }
  | _ => none }
def FnExactChangesWrongFalsely : Prop := fnExactChangesRow.holds Try.pinned (OpenSpec.ofChange fnExactChangesWrong)

/-- 'laws.FnExactEvalIf': WHATEVER THE INPUT: true; the input reads as it did. -/
def fnExactEvalIfSpec : ChangeSpec := { name := "fnExactEvalIf", fn := fun _ => fun
  | [d1, d2, d3] => { results := [.lit (.bool true)], args := [d1, d2, d3] }
  | _ => none }
def fnExactEvalIfRow : OpenClaim := { program := "ytigoeooelfeopaa", sum := "ede7f67d907754024355f95a1e840a4dce0148aec26cb94edcd97fc86d1ea8ea", func := "loop.example/g00452/laws.FnExactEvalIf", spec := "fnExactEvalIf", apart := false }
def FnExactEvalIfSaid : Prop := fnExactEvalIfRow.holds Try.pinned (OpenSpec.ofChange fnExactEvalIfSpec)

/-- ITS FALSE NEIGHBOUR: 'it returns false'. Refute it at one input. -/
def fnExactEvalIfWrong : ChangeSpec := { name := "fnExactEvalIf", fn := fun _ => fun
  | [d1, d2, d3] => { results := [.lit (.bool false)], args := [d1, d2, d3] }
  | _ => none }
def FnExactEvalIfWrongFalsely : Prop := fnExactEvalIfRow.holds Try.pinned (OpenSpec.ofChange fnExactEvalIfWrong)

/-- 'laws.FnExactSubmitted': WHATEVER THE INPUT: true; the input reads as it did. -/
def fnExactSubmittedSpec : ChangeSpec := { name := "fnExactSubmitted", fn := fun _ => fun
  | [d] => { results := [.lit (.bool true)], args := [d] }
  | _ => none }
def fnExactSubmittedRow : OpenClaim := { program := "ytigoeooelfeopaa", sum := "ede7f67d907754024355f95a1e840a4dce0148aec26cb94edcd97fc86d1ea8ea", func := "loop.example/g00452/laws.FnExactSubmitted", spec := "fnExactSubmitted", apart := false }
def FnExactSubmittedSaid : Prop := fnExactSubmittedRow.holds Try.pinned (OpenSpec.ofChange fnExactSubmittedSpec)

/-- ITS FALSE NEIGHBOUR: 'it returns false'. Refute it at one input. -/
def fnExactSubmittedWrong : ChangeSpec := { name := "fnExactSubmitted", fn := fun _ => fun
  | [d] => { results := [.lit (.bool false)], args := [d] }
  | _ => none }
def FnExactSubmittedWrongFalsely : Prop := fnExactSubmittedRow.holds Try.pinned (OpenSpec.ofChange fnExactSubmittedWrong)

/-- 'laws.FnExactSrvNew': WHATEVER THE INPUT: true; the input reads as it did. -/
def fnExactSrvNewSpec : ChangeSpec := { name := "fnExactSrvNew", fn := fun _ => fun
  | [] => { results := [.lit (.bool true)], args := [] }
  | _ => none }
def fnExactSrvNewRow : OpenClaim := { program := "ytigoeooelfeopaa", sum := "ede7f67d907754024355f95a1e840a4dce0148aec26cb94edcd97fc86d1ea8ea", func := "loop.example/g00452/laws.FnExactSrvNew", spec := "fnExactSrvNew", apart := false }
def FnExactSrvNewSaid : Prop := fnExactSrvNewRow.holds Try.pinned (OpenSpec.ofChange fnExactSrvNewSpec)

/-- ITS FALSE NEIGHBOUR: 'it returns false'. Refute it at one input. -/
def fnExactSrvNewWrong : ChangeSpec := { name := "fnExactSrvNew", fn := fun _ => fun
  | [] => { results := [.lit (.bool false)], args := [] }
  | _ => none }
def FnExactSrvNewWrongFalsely : Prop := fnExactSrvNewRow.holds Try.pinned (OpenSpec.ofChange fnExactSrvNewWrong)

/-- 'laws.FnExactSameSrv': WHATEVER THE INPUT: true; the input reads as it did. -/
def fnExactSameSrvSpec : ChangeSpec := { name := "fnExactSameSrv", fn := fun _ => fun
  | [d1, d2] => { results := [.lit (.bool true)], args := [d1, d2] }
  | _ => none }
def fnExactSameSrvRow : OpenClaim := { program := "ytigoeooelfeopaa", sum := "ede7f67d907754024355f95a1e840a4dce0148aec26cb94edcd97fc86d1ea8ea", func := "loop.example/g00452/laws.FnExactSameSrv", spec := "fnExactSameSrv", apart := false }
def FnExactSameSrvSaid : Prop := fnExactSameSrvRow.holds Try.pinned (OpenSpec.ofChange fnExactSameSrvSpec)

/-- ITS FALSE NEIGHBOUR: 'it returns false'. Refute it at one input. -/
def fnExactSameSrvWrong : ChangeSpec := { name := "fnExactSameSrv", fn := fun _ => fun
  | [d1, d2] => { results := [.lit (.bool false)], args := [d1, d2] }
  | _ => none }
def FnExactSameSrvWrongFalsely : Prop := fnExactSameSrvRow.holds Try.pinned (OpenSpec.ofChange fnExactSameSrvWrong)

/- THE SECOND FORM. 'bulk': how many values and letters a reading holds, each counted each time it is reached (what is shared counts as often as it is met; a slice's spare places count too). A statement '..UptoSaid' is the law's where the arguments, and the package variables that the reading takes, are together of bulk at most 1048576: NARROWER than '..Said'. Prove '..Said' where nothing that the law and all that it calls make is longer than what came in: it says more and counts as full. Else prove '..UptoSaid'. A law counts once. -/
mutual
def uptoBulk {H : Type} : DataW H → Nat
  | .lit (.string bytes) => bytes.length + 1
  | .lit _ => 1
  | .nil => 1
  | .ptr d => uptoBulk d + 1
  | .slice elems spare => uptoBulkAll elems + uptoBulkAll spare + 1
  | .agg parts => uptoBulkAll parts + 1
  | .iface _ d => uptoBulk d + 1
  | .map entries => uptoBulkEntries entries + 1
  | .held _ => 1
def uptoBulkAll {H : Type} : List (DataW H) → Nat
  | [] => 0
  | d :: r => uptoBulk d + uptoBulkAll r
def uptoBulkEntries {H : Type} : List (Lit × DataW H) → Nat
  | [] => 0
  | x :: r => uptoBulkEntry x + uptoBulkEntries r
def uptoBulkEntry {H : Type} : Lit × DataW H → Nat
  | (.string bytes, d) => bytes.length + uptoBulk d + 1
  | (_, d) => uptoBulk d + 1
 end
def uptoSmall : (H : Type) → List (DataW H) → Bool := fun _ ds => decide (uptoBulkAll ds ≤ 1048576)
def OpenSpec.upto (s : _root_.Go.ChangeSpec) : _root_.Go.OpenSpec := { _root_.Go.OpenSpec.ofChange s with cond := some uptoSmall }

/-- 'laws.FnExactChanges', WHERE WHAT IT READS IS OF BULK AT MOST 1048576: true; the input reads as it did. -/
def fnExactChangesUptoRow : OpenClaim := { program := "ytigoeooelfeopaa", sum := "ede7f67d907754024355f95a1e840a4dce0148aec26cb94edcd97fc86d1ea8ea", func := "loop.example/g00452/laws.FnExactChanges", spec := "fnExactChanges", apart := false, narrowed := true }
def FnExactChangesUptoSaid : Prop := fnExactChangesUptoRow.holds Try.pinned (OpenSpec.upto fnExactChangesSpec)

/-- 'laws.FnExactEvalIf', WHERE WHAT IT READS IS OF BULK AT MOST 1048576: true; the input reads as it did. -/
def fnExactEvalIfUptoRow : OpenClaim := { program := "ytigoeooelfeopaa", sum := "ede7f67d907754024355f95a1e840a4dce0148aec26cb94edcd97fc86d1ea8ea", func := "loop.example/g00452/laws.FnExactEvalIf", spec := "fnExactEvalIf", apart := false, narrowed := true }
def FnExactEvalIfUptoSaid : Prop := fnExactEvalIfUptoRow.holds Try.pinned (OpenSpec.upto fnExactEvalIfSpec)

/-- 'laws.FnExactSubmitted', WHERE WHAT IT READS IS OF BULK AT MOST 1048576: true; the input reads as it did. -/
def fnExactSubmittedUptoRow : OpenClaim := { program := "ytigoeooelfeopaa", sum := "ede7f67d907754024355f95a1e840a4dce0148aec26cb94edcd97fc86d1ea8ea", func := "loop.example/g00452/laws.FnExactSubmitted", spec := "fnExactSubmitted", apart := false, narrowed := true }
def FnExactSubmittedUptoSaid : Prop := fnExactSubmittedUptoRow.holds Try.pinned (OpenSpec.upto fnExactSubmittedSpec)

/-- 'laws.FnExactSrvNew', WHERE WHAT IT READS IS OF BULK AT MOST 1048576: true; the input reads as it did. -/
def fnExactSrvNewUptoRow : OpenClaim := { program := "ytigoeooelfeopaa", sum := "ede7f67d907754024355f95a1e840a4dce0148aec26cb94edcd97fc86d1ea8ea", func := "loop.example/g00452/laws.FnExactSrvNew", spec := "fnExactSrvNew", apart := false, narrowed := true }
def FnExactSrvNewUptoSaid : Prop := fnExactSrvNewUptoRow.holds Try.pinned (OpenSpec.upto fnExactSrvNewSpec)

/-- 'laws.FnExactSameSrv', WHERE WHAT IT READS IS OF BULK AT MOST 1048576: true; the input reads as it did. -/
def fnExactSameSrvUptoRow : OpenClaim := { program := "ytigoeooelfeopaa", sum := "ede7f67d907754024355f95a1e840a4dce0148aec26cb94edcd97fc86d1ea8ea", func := "loop.example/g00452/laws.FnExactSameSrv", spec := "fnExactSameSrv", apart := false, narrowed := true }
def FnExactSameSrvUptoSaid : Prop := fnExactSameSrvUptoRow.holds Try.pinned (OpenSpec.upto fnExactSameSrvSpec)

end Rows
end Go.Proofs.Ytigoeooelfeopaa
