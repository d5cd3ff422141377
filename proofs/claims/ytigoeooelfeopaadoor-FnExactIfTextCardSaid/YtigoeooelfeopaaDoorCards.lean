/-
  DERIVED. GIVEN WITH THE SEED: THE CARDS: each row of YtigoeooelfeopaaDoorRows.lean that lists a variable, with what it lists TIED to the program's text (the seventh form; the later family's looks); each row that meets fmt, with fmt's text TOLD by the authors' own Lean function (tested against real Go, not proved from fmt's source: count such statements apart). THE CARD IS WHAT COUNTS. Prove the row's statement (the work); the ties are given (YtigoeooelfeopaaDoorTie.lean); close each card by the builder's one call (the guide's Derived/Test/ToyasCard.lean, 'card_holds'). Laid BY PROGRAM, IN A SANDBOX (cutbox-door.mjs). By AI agents, Wed Nov 11 2026. No macro, syntax, notation, axiom, sorry.
-/
import Derived.Test.YtigoeooelfeopaaDoorRows
import GoSem.ClaimSeven
namespace Go.Proofs.YtigoeooelfeopaaDoor
namespace Rows

/-- THE TIED CARD OF 'laws.FnExactTagText'. -/
def fnExactTagTextCard : Claim7 := { stood := { row := fnExactTagTextRow, standIns := [], harness := (true, "253dc6298ace389f2e5557fa3de22c83e0659883cb2a2808a0b1dc88ccfd6dc4"), looks := true }, kinds := [], alts := [], laidByText := true, laidKinds := [.data, .data, .data], laidTests := true, laidLooks := .later }
def FnExactTagTextCardSaid : Prop := Claim7.holds Tryd.pinned (.plain (OpenSpec.ofChange fnExactTagTextSpec)) fnExactTagTextCard

/-- THE TIED CARD OF 'laws.FnExactNoneOk'. -/
def fnExactNoneOkCard : Claim7 := { stood := { row := fnExactNoneOkRow, standIns := [], harness := (true, "253dc6298ace389f2e5557fa3de22c83e0659883cb2a2808a0b1dc88ccfd6dc4"), looks := true }, kinds := [], alts := [], laidByText := true, laidKinds := [.data, .pinned], laidTests := true, laidLooks := .later }
def FnExactNoneOkCardSaid : Prop := Claim7.holds Tryd.pinned (.plain (OpenSpec.ofChange fnExactNoneOkSpec)) fnExactNoneOkCard

/-- THE TIED CARD OF 'laws.FnExactParseTags'. -/
def fnExactParseTagsCard : Claim7 := { stood := { row := fnExactParseTagsRow, standIns := [], harness := (true, "253dc6298ace389f2e5557fa3de22c83e0659883cb2a2808a0b1dc88ccfd6dc4"), looks := true }, kinds := [], alts := [], laidByText := true, laidKinds := [.data, .pinned], laidTests := true, laidLooks := .later }
def FnExactParseTagsCardSaid : Prop := Claim7.holds Tryd.pinned (.plain (OpenSpec.ofChange fnExactParseTagsSpec)) fnExactParseTagsCard

/-- THE TIED CARD OF 'laws.FnExactTagAt'. -/
def fnExactTagAtCard : Claim7 := { stood := { row := fnExactTagAtRow, standIns := [], harness := (true, "253dc6298ace389f2e5557fa3de22c83e0659883cb2a2808a0b1dc88ccfd6dc4"), looks := true }, kinds := [], alts := [], laidByText := true, laidKinds := [.data, .data, .data], laidTests := true, laidLooks := .later }
def FnExactTagAtCardSaid : Prop := Claim7.holds Tryd.pinned (.plain (OpenSpec.ofChange fnExactTagAtSpec)) fnExactTagAtCard

/-- THE TIED CARD OF 'laws.FnExactIfText'. -/
def fnExactIfTextCard : Claim7 := { stood := { row := fnExactIfTextRow, standIns := [], harness := (true, "253dc6298ace389f2e5557fa3de22c83e0659883cb2a2808a0b1dc88ccfd6dc4"), looks := true }, kinds := [], alts := [], laidByText := true, laidKinds := [.data, .data, .data, .data, .sentinel, .sentinel, .pinned], laidTests := true, laidLooks := .later }
def FnExactIfTextCardSaid : Prop := Claim7.holds Tryd.pinned (.plain (OpenSpec.ofChange fnExactIfTextSpec)) fnExactIfTextCard

/-- THE SECOND FORM's CARD OF 'laws.FnExactTagText'. -/
def fnExactTagTextUptoCard : Claim7 := { stood := { row := fnExactTagTextUptoRow, standIns := [], harness := (true, "253dc6298ace389f2e5557fa3de22c83e0659883cb2a2808a0b1dc88ccfd6dc4"), looks := true }, kinds := [], alts := [], laidByText := true, laidKinds := [.data, .data, .data], laidTests := true, laidLooks := .later }
def FnExactTagTextUptoCardSaid : Prop := Claim7.holds Tryd.pinned (.plain (OpenSpec.upto fnExactTagTextSpec)) fnExactTagTextUptoCard

/-- THE SECOND FORM's CARD OF 'laws.FnExactNoneOk'. -/
def fnExactNoneOkUptoCard : Claim7 := { stood := { row := fnExactNoneOkUptoRow, standIns := [], harness := (true, "253dc6298ace389f2e5557fa3de22c83e0659883cb2a2808a0b1dc88ccfd6dc4"), looks := true }, kinds := [], alts := [], laidByText := true, laidKinds := [.data, .pinned], laidTests := true, laidLooks := .later }
def FnExactNoneOkUptoCardSaid : Prop := Claim7.holds Tryd.pinned (.plain (OpenSpec.upto fnExactNoneOkSpec)) fnExactNoneOkUptoCard

/-- THE SECOND FORM's CARD OF 'laws.FnExactParseTags'. -/
def fnExactParseTagsUptoCard : Claim7 := { stood := { row := fnExactParseTagsUptoRow, standIns := [], harness := (true, "253dc6298ace389f2e5557fa3de22c83e0659883cb2a2808a0b1dc88ccfd6dc4"), looks := true }, kinds := [], alts := [], laidByText := true, laidKinds := [.data, .pinned], laidTests := true, laidLooks := .later }
def FnExactParseTagsUptoCardSaid : Prop := Claim7.holds Tryd.pinned (.plain (OpenSpec.upto fnExactParseTagsSpec)) fnExactParseTagsUptoCard

/-- THE SECOND FORM's CARD OF 'laws.FnExactTagAt'. -/
def fnExactTagAtUptoCard : Claim7 := { stood := { row := fnExactTagAtUptoRow, standIns := [], harness := (true, "253dc6298ace389f2e5557fa3de22c83e0659883cb2a2808a0b1dc88ccfd6dc4"), looks := true }, kinds := [], alts := [], laidByText := true, laidKinds := [.data, .data, .data], laidTests := true, laidLooks := .later }
def FnExactTagAtUptoCardSaid : Prop := Claim7.holds Tryd.pinned (.plain (OpenSpec.upto fnExactTagAtSpec)) fnExactTagAtUptoCard

/-- THE SECOND FORM's CARD OF 'laws.FnExactIfText'. -/
def fnExactIfTextUptoCard : Claim7 := { stood := { row := fnExactIfTextUptoRow, standIns := [], harness := (true, "253dc6298ace389f2e5557fa3de22c83e0659883cb2a2808a0b1dc88ccfd6dc4"), looks := true }, kinds := [], alts := [], laidByText := true, laidKinds := [.data, .data, .data, .data, .sentinel, .sentinel, .pinned], laidTests := true, laidLooks := .later }
def FnExactIfTextUptoCardSaid : Prop := Claim7.holds Tryd.pinned (.plain (OpenSpec.upto fnExactIfTextSpec)) fnExactIfTextUptoCard
end Rows
end Go.Proofs.YtigoeooelfeopaaDoor
