/-
  DERIVED. GIVEN WITH THE SEED: THE CARDS: each row of YtigoeooelfeopaaGreatDoorRows.lean that lists a variable, with what it lists TIED to the program's text (the seventh form; the later family's looks); each row that meets fmt, with fmt's text TOLD by the authors' own Lean function (tested against real Go, not proved from fmt's source: count such statements apart). THE CARD IS WHAT COUNTS. Prove the row's statement (the work); the ties are given (YtigoeooelfeopaaGreatDoorTie.lean); close each card by the builder's one call (the guide's Derived/Test/ToyasCard.lean, 'card_holds'). Laid BY PROGRAM, IN A SANDBOX (cutbox-door.mjs). By AI agents, Wed Nov 11 2026. No macro, syntax, notation, axiom, sorry.
-/
import Derived.Test.YtigoeooelfeopaaGreatDoorRows
import GoSem.ClaimSeven
namespace Go.Proofs.YtigoeooelfeopaaGreatDoor
namespace Rows

/-- THE TIED CARD OF 'laws.FnIfs'. -/
def fnIfsCard : Claim7 := { stood := { row := fnIfsRow, standIns := [], harness := (true, "77d8c091046d187f17e1effb0def74a5f01cfa5577683f83c96ee495ae1e529b"), looks := true }, kinds := [], alts := [], laidByText := true, laidKinds := [.data, .data, .data, .data, .sentinel, .sentinel, .pinned], laidTests := true, laidLooks := .later }
def FnIfsCardSaid : Prop := Claim7.holds Tryz.pinned (.plain (OpenSpec.ofChange fnIfsSpec)) fnIfsCard

/-- THE SECOND FORM's CARD OF 'laws.FnIfs'. -/
def fnIfsUptoCard : Claim7 := { stood := { row := fnIfsUptoRow, standIns := [], harness := (true, "77d8c091046d187f17e1effb0def74a5f01cfa5577683f83c96ee495ae1e529b"), looks := true }, kinds := [], alts := [], laidByText := true, laidKinds := [.data, .data, .data, .data, .sentinel, .sentinel, .pinned], laidTests := true, laidLooks := .later }
def FnIfsUptoCardSaid : Prop := Claim7.holds Tryz.pinned (.plain (OpenSpec.upto fnIfsSpec)) fnIfsUptoCard
end Rows
end Go.Proofs.YtigoeooelfeopaaGreatDoor
