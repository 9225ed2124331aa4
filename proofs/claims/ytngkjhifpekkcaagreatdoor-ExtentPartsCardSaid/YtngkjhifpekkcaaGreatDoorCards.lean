/-
  DERIVED. GIVEN WITH THE SEED: THE CARDS: each row of YtngkjhifpekkcaaGreatDoorRows.lean that lists a variable, with what it lists TIED to the program's text (the seventh form; the later family's looks); each row that meets fmt, with fmt's text TOLD by the authors' own Lean function (tested against real Go, not proved from fmt's source: count such statements apart). THE CARD IS WHAT COUNTS. Prove the row's statement (the work); the ties are given (YtngkjhifpekkcaaGreatDoorTie.lean); close each card by the builder's one call (the guide's Derived/Test/ToyasCard.lean, 'card_holds'). Laid BY PROGRAM, IN A SANDBOX (cutbox-door.mjs). By AI agents, Wed Nov 11 2026. No macro, syntax, notation, axiom, sorry.
-/
import Derived.Test.YtngkjhifpekkcaaGreatDoorRows
import GoSem.ClaimSeven
namespace Go.Proofs.YtngkjhifpekkcaaGreatDoor
namespace Rows

/-- THE TIED CARD OF 'jettylaw21.ExtentFile'. -/
def extentFileCard : Claim7 := { stood := { row := extentFileRow, standIns := [], harness := (true, "b5527f81d68da712ce58d6d74043e62494c70b8cfc36757a241fcb29e5b09dff"), looks := true }, kinds := [], alts := [], laidByText := true, laidKinds := [.data, .pinned], laidTests := true, laidLooks := .later }
def ExtentFileCardSaid : Prop := Claim7.holds Tryz.pinned (.plain (OpenSpec.ofChange extentFileSpec)) extentFileCard

/-- THE TIED CARD OF 'jettylaw21.ExtentParts'. -/
def extentPartsCard : Claim7 := { stood := { row := extentPartsRow, standIns := [], harness := (true, "b5527f81d68da712ce58d6d74043e62494c70b8cfc36757a241fcb29e5b09dff"), looks := true }, kinds := [], alts := [], laidByText := true, laidKinds := [.data, .pinned], laidTests := true, laidLooks := .later }
def ExtentPartsCardSaid : Prop := Claim7.holds Tryz.pinned (.plain (OpenSpec.ofChange extentPartsSpec)) extentPartsCard

/-- THE SECOND FORM's CARD OF 'jettylaw21.ExtentFile'. -/
def extentFileUptoCard : Claim7 := { stood := { row := extentFileUptoRow, standIns := [], harness := (true, "b5527f81d68da712ce58d6d74043e62494c70b8cfc36757a241fcb29e5b09dff"), looks := true }, kinds := [], alts := [], laidByText := true, laidKinds := [.data, .pinned], laidTests := true, laidLooks := .later }
def ExtentFileUptoCardSaid : Prop := Claim7.holds Tryz.pinned (.plain (OpenSpec.upto extentFileSpec)) extentFileUptoCard

/-- THE SECOND FORM's CARD OF 'jettylaw21.ExtentParts'. -/
def extentPartsUptoCard : Claim7 := { stood := { row := extentPartsUptoRow, standIns := [], harness := (true, "b5527f81d68da712ce58d6d74043e62494c70b8cfc36757a241fcb29e5b09dff"), looks := true }, kinds := [], alts := [], laidByText := true, laidKinds := [.data, .pinned], laidTests := true, laidLooks := .later }
def ExtentPartsUptoCardSaid : Prop := Claim7.holds Tryz.pinned (.plain (OpenSpec.upto extentPartsSpec)) extentPartsUptoCard
end Rows
end Go.Proofs.YtngkjhifpekkcaaGreatDoor
