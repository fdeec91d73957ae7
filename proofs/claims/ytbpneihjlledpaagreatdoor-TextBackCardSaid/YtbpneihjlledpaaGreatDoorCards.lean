/-
  DERIVED. GIVEN WITH THE SEED: THE CARDS: each row of YtbpneihjlledpaaGreatDoorRows.lean that lists a variable, with what it lists TIED to the program's text (the seventh form; the later family's looks); each row that meets fmt, with fmt's text TOLD by the authors' own Lean function (tested against real Go, not proved from fmt's source: count such statements apart). THE CARD IS WHAT COUNTS. Prove the row's statement (the work); the ties are given (YtbpneihjlledpaaGreatDoorTie.lean); close each card by the builder's one call (the guide's Derived/Test/ToyasCard.lean, 'card_holds'). Laid BY PROGRAM, IN A SANDBOX (cutbox-door.mjs). By AI agents, Wed Nov 11 2026. No macro, syntax, notation, axiom, sorry.
-/
import Derived.Test.YtbpneihjlledpaaGreatDoorRows
import GoSem.ClaimSeven
namespace Go.Proofs.YtbpneihjlledpaaGreatDoor
namespace Rows

/-- THE TIED CARD OF 'triforiumlaw34.TextLines'. -/
def textLinesCard : Claim7 := { stood := { row := textLinesRow, standIns := [], harness := (true, "fe4e39475de19ca917a1ee219d16e5b147b6422a09679e9e1015ec7bfd1864f5"), looks := true }, kinds := [], alts := [], laidByText := true, laidKinds := [.data, .data, .data, .data, .sentinel, .sentinel, .pinned], laidTests := true, laidLooks := .later }
def TextLinesCardSaid : Prop := Claim7.holds Tryz.pinned (.plain (OpenSpec.ofChange textLinesSpec)) textLinesCard

/-- THE TIED CARD OF 'triforiumlaw34.TextScripts'. -/
def textScriptsCard : Claim7 := { stood := { row := textScriptsRow, standIns := [], harness := (true, "fe4e39475de19ca917a1ee219d16e5b147b6422a09679e9e1015ec7bfd1864f5"), looks := true }, kinds := [], alts := [], laidByText := true, laidKinds := [.data, .data, .data, .data, .sentinel, .sentinel, .pinned], laidTests := true, laidLooks := .later }
def TextScriptsCardSaid : Prop := Claim7.holds Tryz.pinned (.plain (OpenSpec.ofChange textScriptsSpec)) textScriptsCard

/-- THE TIED CARD OF 'triforiumlaw34.TextBack'. -/
def textBackCard : Claim7 := { stood := { row := textBackRow, standIns := [], harness := (true, "fe4e39475de19ca917a1ee219d16e5b147b6422a09679e9e1015ec7bfd1864f5"), looks := true }, kinds := [], alts := [], laidByText := true, laidKinds := [.data, .data, .data, .data, .sentinel, .sentinel, .pinned], laidTests := true, laidLooks := .later }
def TextBackCardSaid : Prop := Claim7.holds Tryz.pinned (.plain (OpenSpec.ofChange textBackSpec)) textBackCard

/-- THE SECOND FORM's CARD OF 'triforiumlaw34.TextLines'. -/
def textLinesUptoCard : Claim7 := { stood := { row := textLinesUptoRow, standIns := [], harness := (true, "fe4e39475de19ca917a1ee219d16e5b147b6422a09679e9e1015ec7bfd1864f5"), looks := true }, kinds := [], alts := [], laidByText := true, laidKinds := [.data, .data, .data, .data, .sentinel, .sentinel, .pinned], laidTests := true, laidLooks := .later }
def TextLinesUptoCardSaid : Prop := Claim7.holds Tryz.pinned (.plain (OpenSpec.upto textLinesSpec)) textLinesUptoCard

/-- THE SECOND FORM's CARD OF 'triforiumlaw34.TextScripts'. -/
def textScriptsUptoCard : Claim7 := { stood := { row := textScriptsUptoRow, standIns := [], harness := (true, "fe4e39475de19ca917a1ee219d16e5b147b6422a09679e9e1015ec7bfd1864f5"), looks := true }, kinds := [], alts := [], laidByText := true, laidKinds := [.data, .data, .data, .data, .sentinel, .sentinel, .pinned], laidTests := true, laidLooks := .later }
def TextScriptsUptoCardSaid : Prop := Claim7.holds Tryz.pinned (.plain (OpenSpec.upto textScriptsSpec)) textScriptsUptoCard

/-- THE SECOND FORM's CARD OF 'triforiumlaw34.TextBack'. -/
def textBackUptoCard : Claim7 := { stood := { row := textBackUptoRow, standIns := [], harness := (true, "fe4e39475de19ca917a1ee219d16e5b147b6422a09679e9e1015ec7bfd1864f5"), looks := true }, kinds := [], alts := [], laidByText := true, laidKinds := [.data, .data, .data, .data, .sentinel, .sentinel, .pinned], laidTests := true, laidLooks := .later }
def TextBackUptoCardSaid : Prop := Claim7.holds Tryz.pinned (.plain (OpenSpec.upto textBackSpec)) textBackUptoCard
end Rows
end Go.Proofs.YtbpneihjlledpaaGreatDoor
