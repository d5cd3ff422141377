/-
  DERIVED. GIVEN WITH THE SEED: THE CARDS: each row of YtegkokdncakadaaGreatDoorRows.lean that lists a variable, with what it lists TIED to the program's text (the seventh form; the later family's looks); each row that meets fmt, with fmt's text TOLD by the authors' own Lean function (tested against real Go, not proved from fmt's source: count such statements apart). THE CARD IS WHAT COUNTS. Prove the row's statement (the work); the ties are given (YtegkokdncakadaaGreatDoorTie.lean); close each card by the builder's one call (the guide's Derived/Test/ToyasCard.lean, 'card_holds'). Laid BY PROGRAM, IN A SANDBOX (cutbox-door.mjs). By AI agents, Wed Nov 11 2026. No macro, syntax, notation, axiom, sorry.
-/
import Derived.Test.YtegkokdncakadaaGreatDoorRows
import GoSem.ClaimSeven
namespace Go.Proofs.YtegkokdncakadaaGreatDoor
namespace Rows

/-- THE TIED CARD OF 'laws.FnExactParseNode'. -/
def fnExactParseNodeCard : Claim7 := { stood := { row := fnExactParseNodeRow, standIns := [], harness := (true, "7bc97f03ad361b1f08036c2dc121cb8743639c2ad3ffb2a2548dc89b96f293b3"), looks := true }, kinds := [], alts := [], laidByText := true, laidKinds := [.data, .data, .data, .data, .sentinel, .sentinel, .pinned], laidTests := true, laidLooks := .later }
def FnExactParseNodeCardSaid : Prop := Claim7.holds Tryz.pinned (.plain (OpenSpec.ofChange fnExactParseNodeSpec)) fnExactParseNodeCard

/-- THE TIED CARD OF 'laws.FnNodes'. -/
def fnNodesCard : Claim7 := { stood := { row := fnNodesRow, standIns := [], harness := (true, "7bc97f03ad361b1f08036c2dc121cb8743639c2ad3ffb2a2548dc89b96f293b3"), looks := true }, kinds := [], alts := [], laidByText := true, laidKinds := [.data, .data, .data, .data, .sentinel, .sentinel, .pinned], laidTests := true, laidLooks := .later }
def FnNodesCardSaid : Prop := Claim7.holds Tryz.pinned (.plain (OpenSpec.ofChange fnNodesSpec)) fnNodesCard

/-- THE TIED CARD OF 'laws.FnSets'. -/
def fnSetsCard : Claim7 := { stood := { row := fnSetsRow, standIns := [], harness := (true, "7bc97f03ad361b1f08036c2dc121cb8743639c2ad3ffb2a2548dc89b96f293b3"), looks := true }, kinds := [], alts := [], laidByText := true, laidKinds := [.data, .data, .data, .data, .sentinel, .sentinel, .pinned], laidTests := true, laidLooks := .later }
def FnSetsCardSaid : Prop := Claim7.holds Tryz.pinned (.plain (OpenSpec.ofChange fnSetsSpec)) fnSetsCard

/-- THE SECOND FORM's CARD OF 'laws.FnExactParseNode'. -/
def fnExactParseNodeUptoCard : Claim7 := { stood := { row := fnExactParseNodeUptoRow, standIns := [], harness := (true, "7bc97f03ad361b1f08036c2dc121cb8743639c2ad3ffb2a2548dc89b96f293b3"), looks := true }, kinds := [], alts := [], laidByText := true, laidKinds := [.data, .data, .data, .data, .sentinel, .sentinel, .pinned], laidTests := true, laidLooks := .later }
def FnExactParseNodeUptoCardSaid : Prop := Claim7.holds Tryz.pinned (.plain (OpenSpec.upto fnExactParseNodeSpec)) fnExactParseNodeUptoCard

/-- THE SECOND FORM's CARD OF 'laws.FnNodes'. -/
def fnNodesUptoCard : Claim7 := { stood := { row := fnNodesUptoRow, standIns := [], harness := (true, "7bc97f03ad361b1f08036c2dc121cb8743639c2ad3ffb2a2548dc89b96f293b3"), looks := true }, kinds := [], alts := [], laidByText := true, laidKinds := [.data, .data, .data, .data, .sentinel, .sentinel, .pinned], laidTests := true, laidLooks := .later }
def FnNodesUptoCardSaid : Prop := Claim7.holds Tryz.pinned (.plain (OpenSpec.upto fnNodesSpec)) fnNodesUptoCard

/-- THE SECOND FORM's CARD OF 'laws.FnSets'. -/
def fnSetsUptoCard : Claim7 := { stood := { row := fnSetsUptoRow, standIns := [], harness := (true, "7bc97f03ad361b1f08036c2dc121cb8743639c2ad3ffb2a2548dc89b96f293b3"), looks := true }, kinds := [], alts := [], laidByText := true, laidKinds := [.data, .data, .data, .data, .sentinel, .sentinel, .pinned], laidTests := true, laidLooks := .later }
def FnSetsUptoCardSaid : Prop := Claim7.holds Tryz.pinned (.plain (OpenSpec.upto fnSetsSpec)) fnSetsUptoCard
end Rows
end Go.Proofs.YtegkokdncakadaaGreatDoor
