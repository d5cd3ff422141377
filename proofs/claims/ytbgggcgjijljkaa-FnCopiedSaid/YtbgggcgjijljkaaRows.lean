/-
  No cell of these rows narrows 'for every input' (looked for: loops, veiled, ifaces, maps, wideKeys, modest, calm, conditions, laid).
  DERIVED. THE GIVEN ROWS OF THIS SEAT. 10 by the template 'for every input the law returns true; each argument reads behind the call as it read before'; 0 by the template 'total and deterministic' (their statements: YtbgggcgjijljkaaTotals.lean).
  GIVEN WITH THE SEED: the statements are not yours to turn. If you find one false, say at which input.
  Laid BY PROGRAM, IN A SANDBOX (cutbox-rows.mjs): the forced cells as the released guide's own fill.sh prints them over the translation bb6635df2e252c2e… (all of the seat's roots in one cut). By AI agents, Wed Nov 11 2026. No macro, syntax, notation, axiom, sorry.
-/
import Derived.Test.YtbgggcgjijljkaaChecked
import GoSem.Claim
import GoSem.ClaimJoined
import GoSem.ClaimMapViews
import Derived.JoinedTies
import Derived.KernelRfl
namespace Go.Proofs.Ytbgggcgjijljkaa
/- THE CELL 'sum', in the pinned program and in every row, IS THE sha256 OF THE DUMP (.gsa) THAT YtbgggcgjijljkaaProg.lean LOADS. Nothing in Lean hashes anything: it is a label: what it is worth is what the hold of that sum in a sandbox is worth. -/
noncomputable def Try.pinned : Pinned := { name := "ytbgggcgjijljkaa", sum := "bb6635df2e252c2e458482fd7f5f3c6a3c4ce3746b71ef043a1256291cfdaeff", checked := Try.checked }
namespace Rows
def none {H : Type} : Left H := { results := [], args := [] }

/-- 'laws.FnExactRemove': WHATEVER THE INPUT: true; the input reads as it did. -/
def fnExactRemoveSpec : ChangeSpec := { name := "fnExactRemove", fn := fun _ => fun
  | [d1, d2] => { results := [.lit (.bool true)], args := [d1, d2] }
  | _ => none }
def fnExactRemoveRow : OpenClaim := { program := "ytbgggcgjijljkaa", sum := "bb6635df2e252c2e458482fd7f5f3c6a3c4ce3746b71ef043a1256291cfdaeff", func := "loop.example/g00452/laws.FnExactRemove", spec := "fnExactRemove", inPlace := ["internal/bytealg.IndexByteString", "internal/bytealg.IndexString"], named := ["internal/bytealg.MaxLen"], apart := false }
def FnExactRemoveSaid : Prop := fnExactRemoveRow.holds Try.pinned (OpenSpec.ofChange fnExactRemoveSpec)

/-- ITS FALSE NEIGHBOUR: 'it returns false'. Refute it at one input. -/
def fnExactRemoveWrong : ChangeSpec := { name := "fnExactRemove", fn := fun _ => fun
  | [d1, d2] => { results := [.lit (.bool false)], args := [d1, d2] }
  | _ => none }
def FnExactRemoveWrongFalsely : Prop := fnExactRemoveRow.holds Try.pinned (OpenSpec.ofChange fnExactRemoveWrong)

/-- 'laws.FnExactMakeColl': WHATEVER THE INPUT: true; the input reads as it did. -/
def fnExactMakeCollSpec : ChangeSpec := { name := "fnExactMakeColl", fn := fun _ => fun
  | [d1, d2, d3] => { results := [.lit (.bool true)], args := [d1, d2, d3] }
  | _ => none }
def fnExactMakeCollRow : OpenClaim := { program := "ytbgggcgjijljkaa", sum := "bb6635df2e252c2e458482fd7f5f3c6a3c4ce3746b71ef043a1256291cfdaeff", func := "loop.example/g00452/laws.FnExactMakeColl", spec := "fnExactMakeColl", inPlace := ["internal/bytealg.IndexByteString", "internal/bytealg.IndexString"], named := ["internal/bytealg.MaxLen"], apart := false }
def FnExactMakeCollSaid : Prop := fnExactMakeCollRow.holds Try.pinned (OpenSpec.ofChange fnExactMakeCollSpec)

/-- ITS FALSE NEIGHBOUR: 'it returns false'. Refute it at one input. -/
def fnExactMakeCollWrong : ChangeSpec := { name := "fnExactMakeColl", fn := fun _ => fun
  | [d1, d2, d3] => { results := [.lit (.bool false)], args := [d1, d2, d3] }
  | _ => none }
def FnExactMakeCollWrongFalsely : Prop := fnExactMakeCollRow.holds Try.pinned (OpenSpec.ofChange fnExactMakeCollWrong)

/-- 'laws.FnExactPutFile': WHATEVER THE INPUT: true; the input reads as it did. -/
def fnExactPutFileSpec : ChangeSpec := { name := "fnExactPutFile", fn := fun _ => fun
  | [d1, d2, d3, d4] => { results := [.lit (.bool true)], args := [d1, d2, d3, d4] }
  | _ => none }
def fnExactPutFileRow : OpenClaim := { program := "ytbgggcgjijljkaa", sum := "bb6635df2e252c2e458482fd7f5f3c6a3c4ce3746b71ef043a1256291cfdaeff", func := "loop.example/g00452/laws.FnExactPutFile", spec := "fnExactPutFile", inPlace := ["internal/bytealg.IndexByteString", "internal/bytealg.IndexString"], named := ["internal/bytealg.MaxLen"], apart := false }
def FnExactPutFileSaid : Prop := fnExactPutFileRow.holds Try.pinned (OpenSpec.ofChange fnExactPutFileSpec)

/-- ITS FALSE NEIGHBOUR: 'it returns false'. Refute it at one input. -/
def fnExactPutFileWrong : ChangeSpec := { name := "fnExactPutFile", fn := fun _ => fun
  | [d1, d2, d3, d4] => { results := [.lit (.bool false)], args := [d1, d2, d3, d4] }
  | _ => none }
def FnExactPutFileWrongFalsely : Prop := fnExactPutFileRow.holds Try.pinned (OpenSpec.ofChange fnExactPutFileWrong)

/-- 'laws.FnExactPatch': WHATEVER THE INPUT: true; the input reads as it did. -/
def fnExactPatchSpec : ChangeSpec := { name := "fnExactPatch", fn := fun _ => fun
  | [d1, d2, d3] => { results := [.lit (.bool true)], args := [d1, d2, d3] }
  | _ => none }
def fnExactPatchRow : OpenClaim := { program := "ytbgggcgjijljkaa", sum := "bb6635df2e252c2e458482fd7f5f3c6a3c4ce3746b71ef043a1256291cfdaeff", func := "loop.example/g00452/laws.FnExactPatch", spec := "fnExactPatch", inPlace := ["internal/bytealg.IndexByteString", "internal/bytealg.IndexString"], named := ["internal/bytealg.MaxLen"], apart := false }
def FnExactPatchSaid : Prop := fnExactPatchRow.holds Try.pinned (OpenSpec.ofChange fnExactPatchSpec)

/-- ITS FALSE NEIGHBOUR: 'it returns false'. Refute it at one input. -/
def fnExactPatchWrong : ChangeSpec := { name := "fnExactPatch", fn := fun _ => fun
  | [d1, d2, d3] => { results := [.lit (.bool false)], args := [d1, d2, d3] }
  | _ => none }
def FnExactPatchWrongFalsely : Prop := fnExactPatchRow.holds Try.pinned (OpenSpec.ofChange fnExactPatchWrong)

/-- 'laws.FnExactCopyTree': WHATEVER THE INPUT: true; the input reads as it did. -/
def fnExactCopyTreeSpec : ChangeSpec := { name := "fnExactCopyTree", fn := fun _ => fun
  | [d1, d2, d3, d4, d5] => { results := [.lit (.bool true)], args := [d1, d2, d3, d4, d5] }
  | _ => none }
def fnExactCopyTreeRow : OpenClaim := { program := "ytbgggcgjijljkaa", sum := "bb6635df2e252c2e458482fd7f5f3c6a3c4ce3746b71ef043a1256291cfdaeff", func := "loop.example/g00452/laws.FnExactCopyTree", spec := "fnExactCopyTree", inPlace := ["internal/bytealg.IndexByteString", "internal/bytealg.IndexString"], named := ["internal/bytealg.MaxLen"], apart := false }
def FnExactCopyTreeSaid : Prop := fnExactCopyTreeRow.holds Try.pinned (OpenSpec.ofChange fnExactCopyTreeSpec)

/-- ITS FALSE NEIGHBOUR: 'it returns false'. Refute it at one input. -/
def fnExactCopyTreeWrong : ChangeSpec := { name := "fnExactCopyTree", fn := fun _ => fun
  | [d1, d2, d3, d4, d5] => { results := [.lit (.bool false)], args := [d1, d2, d3, d4, d5] }
  | _ => none }
def FnExactCopyTreeWrongFalsely : Prop := fnExactCopyTreeRow.holds Try.pinned (OpenSpec.ofChange fnExactCopyTreeWrong)

/-- 'laws.FnExactMoveTree': WHATEVER THE INPUT: true; the input reads as it did. -/
def fnExactMoveTreeSpec : ChangeSpec := { name := "fnExactMoveTree", fn := fun _ => fun
  | [d1, d2, d3, d4, d5] => { results := [.lit (.bool true)], args := [d1, d2, d3, d4, d5] }
  | _ => none }
def fnExactMoveTreeRow : OpenClaim := { program := "ytbgggcgjijljkaa", sum := "bb6635df2e252c2e458482fd7f5f3c6a3c4ce3746b71ef043a1256291cfdaeff", func := "loop.example/g00452/laws.FnExactMoveTree", spec := "fnExactMoveTree", inPlace := ["internal/bytealg.IndexByteString", "internal/bytealg.IndexString"], named := ["internal/bytealg.MaxLen"], apart := false }
def FnExactMoveTreeSaid : Prop := fnExactMoveTreeRow.holds Try.pinned (OpenSpec.ofChange fnExactMoveTreeSpec)

/-- ITS FALSE NEIGHBOUR: 'it returns false'. Refute it at one input. -/
def fnExactMoveTreeWrong : ChangeSpec := { name := "fnExactMoveTree", fn := fun _ => fun
  | [d1, d2, d3, d4, d5] => { results := [.lit (.bool false)], args := [d1, d2, d3, d4, d5] }
  | _ => none }
def FnExactMoveTreeWrongFalsely : Prop := fnExactMoveTreeRow.holds Try.pinned (OpenSpec.ofChange fnExactMoveTreeWrong)

/-- 'laws.FnShelves': WHATEVER THE INPUT: true; the input reads as it did. -/
def fnShelvesSpec : ChangeSpec := { name := "fnShelves", fn := fun _ => fun
  | [d] => { results := [.lit (.bool true)], args := [d] }
  | _ => none }
def fnShelvesRow : OpenClaim := { program := "ytbgggcgjijljkaa", sum := "bb6635df2e252c2e458482fd7f5f3c6a3c4ce3746b71ef043a1256291cfdaeff", func := "loop.example/g00452/laws.FnShelves", spec := "fnShelves", inPlace := ["internal/bytealg.IndexByteString", "internal/bytealg.IndexString"], named := ["internal/bytealg.MaxLen"], apart := false }
def FnShelvesSaid : Prop := fnShelvesRow.holds Try.pinned (OpenSpec.ofChange fnShelvesSpec)

/-- ITS FALSE NEIGHBOUR: 'it returns false'. Refute it at one input. -/
def fnShelvesWrong : ChangeSpec := { name := "fnShelves", fn := fun _ => fun
  | [d] => { results := [.lit (.bool false)], args := [d] }
  | _ => none }
def FnShelvesWrongFalsely : Prop := fnShelvesRow.holds Try.pinned (OpenSpec.ofChange fnShelvesWrong)

/-- 'laws.FnRemoved': WHATEVER THE INPUT: true; the input reads as it did. -/
def fnRemovedSpec : ChangeSpec := { name := "fnRemoved", fn := fun _ => fun
  | [d] => { results := [.lit (.bool true)], args := [d] }
  | _ => none }
def fnRemovedRow : OpenClaim := { program := "ytbgggcgjijljkaa", sum := "bb6635df2e252c2e458482fd7f5f3c6a3c4ce3746b71ef043a1256291cfdaeff", func := "loop.example/g00452/laws.FnRemoved", spec := "fnRemoved", inPlace := ["internal/bytealg.IndexByteString", "internal/bytealg.IndexString"], named := ["internal/bytealg.MaxLen"], apart := false }
def FnRemovedSaid : Prop := fnRemovedRow.holds Try.pinned (OpenSpec.ofChange fnRemovedSpec)

/-- ITS FALSE NEIGHBOUR: 'it returns false'. Refute it at one input. -/
def fnRemovedWrong : ChangeSpec := { name := "fnRemoved", fn := fun _ => fun
  | [d] => { results := [.lit (.bool false)], args := [d] }
  | _ => none }
def FnRemovedWrongFalsely : Prop := fnRemovedRow.holds Try.pinned (OpenSpec.ofChange fnRemovedWrong)

/-- 'laws.FnCopied': WHATEVER THE INPUT: true; the input reads as it did. -/
def fnCopiedSpec : ChangeSpec := { name := "fnCopied", fn := fun _ => fun
  | [d] => { results := [.lit (.bool true)], args := [d] }
  | _ => none }
def fnCopiedRow : OpenClaim := { program := "ytbgggcgjijljkaa", sum := "bb6635df2e252c2e458482fd7f5f3c6a3c4ce3746b71ef043a1256291cfdaeff", func := "loop.example/g00452/laws.FnCopied", spec := "fnCopied", inPlace := ["internal/bytealg.IndexByteString", "internal/bytealg.IndexString"], named := ["internal/bytealg.MaxLen"], apart := false }
def FnCopiedSaid : Prop := fnCopiedRow.holds Try.pinned (OpenSpec.ofChange fnCopiedSpec)

/-- ITS FALSE NEIGHBOUR: 'it returns false'. Refute it at one input. -/
def fnCopiedWrong : ChangeSpec := { name := "fnCopied", fn := fun _ => fun
  | [d] => { results := [.lit (.bool false)], args := [d] }
  | _ => none }
def FnCopiedWrongFalsely : Prop := fnCopiedRow.holds Try.pinned (OpenSpec.ofChange fnCopiedWrong)

/-- 'laws.FnProps': WHATEVER THE INPUT: true; the input reads as it did. -/
def fnPropsSpec : ChangeSpec := { name := "fnProps", fn := fun _ => fun
  | [d] => { results := [.lit (.bool true)], args := [d] }
  | _ => none }
def fnPropsRow : OpenClaim := { program := "ytbgggcgjijljkaa", sum := "bb6635df2e252c2e458482fd7f5f3c6a3c4ce3746b71ef043a1256291cfdaeff", func := "loop.example/g00452/laws.FnProps", spec := "fnProps", apart := false }
def FnPropsSaid : Prop := fnPropsRow.holds Try.pinned (OpenSpec.ofChange fnPropsSpec)

/-- ITS FALSE NEIGHBOUR: 'it returns false'. Refute it at one input. -/
def fnPropsWrong : ChangeSpec := { name := "fnProps", fn := fun _ => fun
  | [d] => { results := [.lit (.bool false)], args := [d] }
  | _ => none }
def FnPropsWrongFalsely : Prop := fnPropsRow.holds Try.pinned (OpenSpec.ofChange fnPropsWrong)

/- THE SECOND FORM. 'bulk': how many values and letters a reading holds, each counted each time it is reached (what is shared counts as often as it is met; a slice's spare places count too). A statement '..UptoSaid' is the law's where the arguments, and the package variables that the reading takes, are together of bulk at most 1048576: NARROWER than '..Said'. Prove '..Said' where nothing that the law and all that it calls make is longer than what came in: it says more and counts as full. Else prove '..UptoSaid'. A law counts once. -/
mutual
def uptoBulk {H : Type} : DataW H → Nat
  | .lit (.string bytes) => bytes.length + 1
  | .lit _ => 1
  | .nil => 1
  | .ptr d => uptoBulk d + 1
  | .slice elems spare => uptoBulkAll elems + uptoBulkAll spare + 1
  | .agg parts => uptoBulkAll parts + 1
  | .iface _ d => uptoBulk d + 1
  | .map entries => uptoBulkEntries entries + 1
  | .held _ => 1
def uptoBulkAll {H : Type} : List (DataW H) → Nat
  | [] => 0
  | d :: r => uptoBulk d + uptoBulkAll r
def uptoBulkEntries {H : Type} : List (Lit × DataW H) → Nat
  | [] => 0
  | x :: r => uptoBulkEntry x + uptoBulkEntries r
def uptoBulkEntry {H : Type} : Lit × DataW H → Nat
  | (.string bytes, d) => bytes.length + uptoBulk d + 1
  | (_, d) => uptoBulk d + 1
 end
def uptoSmall : (H : Type) → List (DataW H) → Bool := fun _ ds => decide (uptoBulkAll ds ≤ 1048576)
def OpenSpec.upto (s : _root_.Go.ChangeSpec) : _root_.Go.OpenSpec := { _root_.Go.OpenSpec.ofChange s with cond := some uptoSmall }

/-- 'laws.FnExactRemove', WHERE WHAT IT READS IS OF BULK AT MOST 1048576: true; the input reads as it did. -/
def fnExactRemoveUptoRow : OpenClaim := { program := "ytbgggcgjijljkaa", sum := "bb6635df2e252c2e458482fd7f5f3c6a3c4ce3746b71ef043a1256291cfdaeff", func := "loop.example/g00452/laws.FnExactRemove", spec := "fnExactRemove", inPlace := ["internal/bytealg.IndexByteString", "internal/bytealg.IndexString"], named := ["internal/bytealg.MaxLen"], apart := false, narrowed := true }
def FnExactRemoveUptoSaid : Prop := fnExactRemoveUptoRow.holds Try.pinned (OpenSpec.upto fnExactRemoveSpec)

/-- 'laws.FnExactMakeColl', WHERE WHAT IT READS IS OF BULK AT MOST 1048576: true; the input reads as it did. -/
def fnExactMakeCollUptoRow : OpenClaim := { program := "ytbgggcgjijljkaa", sum := "bb6635df2e252c2e458482fd7f5f3c6a3c4ce3746b71ef043a1256291cfdaeff", func := "loop.example/g00452/laws.FnExactMakeColl", spec := "fnExactMakeColl", inPlace := ["internal/bytealg.IndexByteString", "internal/bytealg.IndexString"], named := ["internal/bytealg.MaxLen"], apart := false, narrowed := true }
def FnExactMakeCollUptoSaid : Prop := fnExactMakeCollUptoRow.holds Try.pinned (OpenSpec.upto fnExactMakeCollSpec)

/-- 'laws.FnExactPutFile', WHERE WHAT IT READS IS OF BULK AT MOST 1048576: true; the input reads as it did. -/
def fnExactPutFileUptoRow : OpenClaim := { program := "ytbgggcgjijljkaa", sum := "bb6635df2e252c2e458482fd7f5f3c6a3c4ce3746b71ef043a1256291cfdaeff", func := "loop.example/g00452/laws.FnExactPutFile", spec := "fnExactPutFile", inPlace := ["internal/bytealg.IndexByteString", "internal/bytealg.IndexString"], named := ["internal/bytealg.MaxLen"], apart := false, narrowed := true }
def FnExactPutFileUptoSaid : Prop := fnExactPutFileUptoRow.holds Try.pinned (OpenSpec.upto fnExactPutFileSpec)

/-- 'laws.FnExactPatch', WHERE WHAT IT READS IS OF BULK AT MOST 1048576: true; the input reads as it did. -/
def fnExactPatchUptoRow : OpenClaim := { program := "ytbgggcgjijljkaa", sum := "bb6635df2e252c2e458482fd7f5f3c6a3c4ce3746b71ef043a1256291cfdaeff", func := "loop.example/g00452/laws.FnExactPatch", spec := "fnExactPatch", inPlace := ["internal/bytealg.IndexByteString", "internal/bytealg.IndexString"], named := ["internal/bytealg.MaxLen"], apart := false, narrowed := true }
def FnExactPatchUptoSaid : Prop := fnExactPatchUptoRow.holds Try.pinned (OpenSpec.upto fnExactPatchSpec)

/-- 'laws.FnExactCopyTree', WHERE WHAT IT READS IS OF BULK AT MOST 1048576: true; the input reads as it did. -/
def fnExactCopyTreeUptoRow : OpenClaim := { program := "ytbgggcgjijljkaa", sum := "bb6635df2e252c2e458482fd7f5f3c6a3c4ce3746b71ef043a1256291cfdaeff", func := "loop.example/g00452/laws.FnExactCopyTree", spec := "fnExactCopyTree", inPlace := ["internal/bytealg.IndexByteString", "internal/bytealg.IndexString"], named := ["internal/bytealg.MaxLen"], apart := false, narrowed := true }
def FnExactCopyTreeUptoSaid : Prop := fnExactCopyTreeUptoRow.holds Try.pinned (OpenSpec.upto fnExactCopyTreeSpec)

/-- 'laws.FnExactMoveTree', WHERE WHAT IT READS IS OF BULK AT MOST 1048576: true; the input reads as it did. -/
def fnExactMoveTreeUptoRow : OpenClaim := { program := "ytbgggcgjijljkaa", sum := "bb6635df2e252c2e458482fd7f5f3c6a3c4ce3746b71ef043a1256291cfdaeff", func := "loop.example/g00452/laws.FnExactMoveTree", spec := "fnExactMoveTree", inPlace := ["internal/bytealg.IndexByteString", "internal/bytealg.IndexString"], named := ["internal/bytealg.MaxLen"], apart := false, narrowed := true }
def FnExactMoveTreeUptoSaid : Prop := fnExactMoveTreeUptoRow.holds Try.pinned (OpenSpec.upto fnExactMoveTreeSpec)

/-- 'laws.FnShelves', WHERE WHAT IT READS IS OF BULK AT MOST 1048576: true; the input reads as it did. -/
def fnShelvesUptoRow : OpenClaim := { program := "ytbgggcgjijljkaa", sum := "bb6635df2e252c2e458482fd7f5f3c6a3c4ce3746b71ef043a1256291cfdaeff", func := "loop.example/g00452/laws.FnShelves", spec := "fnShelves", inPlace := ["internal/bytealg.IndexByteString", "internal/bytealg.IndexString"], named := ["internal/bytealg.MaxLen"], apart := false, narrowed := true }
def FnShelvesUptoSaid : Prop := fnShelvesUptoRow.holds Try.pinned (OpenSpec.upto fnShelvesSpec)

/-- 'laws.FnRemoved', WHERE WHAT IT READS IS OF BULK AT MOST 1048576: true; the input reads as it did. -/
def fnRemovedUptoRow : OpenClaim := { program := "ytbgggcgjijljkaa", sum := "bb6635df2e252c2e458482fd7f5f3c6a3c4ce3746b71ef043a1256291cfdaeff", func := "loop.example/g00452/laws.FnRemoved", spec := "fnRemoved", inPlace := ["internal/bytealg.IndexByteString", "internal/bytealg.IndexString"], named := ["internal/bytealg.MaxLen"], apart := false, narrowed := true }
def FnRemovedUptoSaid : Prop := fnRemovedUptoRow.holds Try.pinned (OpenSpec.upto fnRemovedSpec)

/-- 'laws.FnCopied', WHERE WHAT IT READS IS OF BULK AT MOST 1048576: true; the input reads as it did. -/
def fnCopiedUptoRow : OpenClaim := { program := "ytbgggcgjijljkaa", sum := "bb6635df2e252c2e458482fd7f5f3c6a3c4ce3746b71ef043a1256291cfdaeff", func := "loop.example/g00452/laws.FnCopied", spec := "fnCopied", inPlace := ["internal/bytealg.IndexByteString", "internal/bytealg.IndexString"], named := ["internal/bytealg.MaxLen"], apart := false, narrowed := true }
def FnCopiedUptoSaid : Prop := fnCopiedUptoRow.holds Try.pinned (OpenSpec.upto fnCopiedSpec)

/-- 'laws.FnProps', WHERE WHAT IT READS IS OF BULK AT MOST 1048576: true; the input reads as it did. -/
def fnPropsUptoRow : OpenClaim := { program := "ytbgggcgjijljkaa", sum := "bb6635df2e252c2e458482fd7f5f3c6a3c4ce3746b71ef043a1256291cfdaeff", func := "loop.example/g00452/laws.FnProps", spec := "fnProps", apart := false, narrowed := true }
def FnPropsUptoSaid : Prop := fnPropsUptoRow.holds Try.pinned (OpenSpec.upto fnPropsSpec)

end Rows
end Go.Proofs.Ytbgggcgjijljkaa
