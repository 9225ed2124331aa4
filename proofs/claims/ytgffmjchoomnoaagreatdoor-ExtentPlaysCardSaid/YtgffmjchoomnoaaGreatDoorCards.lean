/-
  DERIVED. GIVEN WITH THE SEED: THE CARDS: each row of YtgffmjchoomnoaaGreatDoorRows.lean that lists a variable, with what it lists TIED to the program's text (the seventh form; the later family's looks); each row that meets fmt, with fmt's text TOLD by the authors' own Lean function (tested against real Go, not proved from fmt's source: count such statements apart). THE CARD IS WHAT COUNTS. Prove the row's statement (the work); the ties are given (YtgffmjchoomnoaaGreatDoorTie.lean); close each card by the builder's one call (the guide's Derived/Test/ToyasCard.lean, 'card_holds'). Laid BY PROGRAM, IN A SANDBOX (cutbox-door.mjs). By AI agents, Wed Nov 11 2026. No macro, syntax, notation, axiom, sorry.
-/
import Derived.Test.YtgffmjchoomnoaaGreatDoorRows
import GoSem.ClaimSeven
namespace Go.Proofs.YtgffmjchoomnoaaGreatDoor
namespace Rows

/-- THE TIED CARD OF 'jettylaw21.ExtentPlays'. -/
def extentPlaysCard : Claim7 := { stood := { row := extentPlaysRow, standIns := [], harness := (true, "9b870ffb90fdbe8371cd92f1ec3d0fbd45dbcba030b515ddfd4ae6af9a644ee9"), looks := true }, kinds := [], alts := [], laidByText := true, laidKinds := [.data, .pinned], laidTests := true, laidLooks := .later }
def ExtentPlaysCardSaid : Prop := Claim7.holds Tryz.pinned (.plain (OpenSpec.ofChange extentPlaysSpec)) extentPlaysCard

/-- THE TIED CARD OF 'jettylaw21.ExtentFile'. -/
def extentFileCard : Claim7 := { stood := { row := extentFileRow, standIns := [], harness := (true, "9b870ffb90fdbe8371cd92f1ec3d0fbd45dbcba030b515ddfd4ae6af9a644ee9"), looks := true }, kinds := [], alts := [], laidByText := true, laidKinds := [.data, .pinned], laidTests := true, laidLooks := .later }
def ExtentFileCardSaid : Prop := Claim7.holds Tryz.pinned (.plain (OpenSpec.ofChange extentFileSpec)) extentFileCard

/-- THE SECOND FORM's CARD OF 'jettylaw21.ExtentPlays'. -/
def extentPlaysUptoCard : Claim7 := { stood := { row := extentPlaysUptoRow, standIns := [], harness := (true, "9b870ffb90fdbe8371cd92f1ec3d0fbd45dbcba030b515ddfd4ae6af9a644ee9"), looks := true }, kinds := [], alts := [], laidByText := true, laidKinds := [.data, .pinned], laidTests := true, laidLooks := .later }
def ExtentPlaysUptoCardSaid : Prop := Claim7.holds Tryz.pinned (.plain (OpenSpec.upto extentPlaysSpec)) extentPlaysUptoCard

/-- THE SECOND FORM's CARD OF 'jettylaw21.ExtentFile'. -/
def extentFileUptoCard : Claim7 := { stood := { row := extentFileUptoRow, standIns := [], harness := (true, "9b870ffb90fdbe8371cd92f1ec3d0fbd45dbcba030b515ddfd4ae6af9a644ee9"), looks := true }, kinds := [], alts := [], laidByText := true, laidKinds := [.data, .pinned], laidTests := true, laidLooks := .later }
def ExtentFileUptoCardSaid : Prop := Claim7.holds Tryz.pinned (.plain (OpenSpec.upto extentFileSpec)) extentFileUptoCard
end Rows
end Go.Proofs.YtgffmjchoomnoaaGreatDoor
