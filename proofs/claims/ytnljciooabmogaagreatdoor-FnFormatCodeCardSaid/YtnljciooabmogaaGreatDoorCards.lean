/-
  DERIVED. GIVEN WITH THE SEED: THE CARDS: each row of YtnljciooabmogaaGreatDoorRows.lean that lists a variable, with what it lists TIED to the program's text (the seventh form; the later family's looks); each row that meets fmt, with fmt's text TOLD by the authors' own Lean function (tested against real Go, not proved from fmt's source: count such statements apart). THE CARD IS WHAT COUNTS. Prove the row's statement (the work); the ties are given (YtnljciooabmogaaGreatDoorTie.lean); close each card by the builder's one call (the guide's Derived/Test/ToyasCard.lean, 'card_holds'). Laid BY PROGRAM, IN A SANDBOX (cutbox-door.mjs). By AI agents, Wed Nov 11 2026. No macro, syntax, notation, axiom, sorry.
-/
import Derived.Test.YtnljciooabmogaaGreatDoorRows
import GoSem.ClaimSeven
namespace Go.Proofs.YtnljciooabmogaaGreatDoor
namespace Rows

/-- THE TIED CARD OF 'laws.FnFormatCode'. -/
def fnFormatCodeCard : Claim7 := { stood := { row := fnFormatCodeRow, standIns := [], harness := (true, "c13afb05b23971da38806a110a15a08fbab958197182ed74b352031fcc9cecae"), looks := false }, kinds := [], alts := [], laidByText := true, laidKinds := [.data, .data, .data], laidTests := true, laidLooks := .later }
def FnFormatCodeCardSaid : Prop := Claim7.holds Tryz.pinned (.plain (OpenSpec.ofChange fnFormatCodeSpec)) fnFormatCodeCard

/-- THE SECOND FORM's CARD OF 'laws.FnFormatCode'. -/
def fnFormatCodeUptoCard : Claim7 := { stood := { row := fnFormatCodeUptoRow, standIns := [], harness := (true, "c13afb05b23971da38806a110a15a08fbab958197182ed74b352031fcc9cecae"), looks := false }, kinds := [], alts := [], laidByText := true, laidKinds := [.data, .data, .data], laidTests := true, laidLooks := .later }
def FnFormatCodeUptoCardSaid : Prop := Claim7.holds Tryz.pinned (.plain (OpenSpec.upto fnFormatCodeSpec)) fnFormatCodeUptoCard
end Rows
end Go.Proofs.YtnljciooabmogaaGreatDoor
