/-
  DERIVED. GIVEN WITH THE SEED: THE CARDS: each row of YteighafofbohcaaGreatDoorRows.lean that lists a variable, with what it lists TIED to the program's text (the seventh form; the later family's looks); each row that meets fmt, with fmt's text TOLD by the authors' own Lean function (tested against real Go, not proved from fmt's source: count such statements apart). THE CARD IS WHAT COUNTS. Prove the row's statement (the work); the ties are given (YteighafofbohcaaGreatDoorTie.lean); close each card by the builder's one call (the guide's Derived/Test/ToyasCard.lean, 'card_holds'). Laid BY PROGRAM, IN A SANDBOX (cutbox-door.mjs). By AI agents, Wed Nov 11 2026. No macro, syntax, notation, axiom, sorry.
-/
import Derived.Test.YteighafofbohcaaGreatDoorRows
import GoSem.ClaimSeven
namespace Go.Proofs.YteighafofbohcaaGreatDoor
namespace Rows

/-- THE TIED CARD OF 'laws.FnCandidateOrder'. -/
def fnCandidateOrderCard : Claim7 := { stood := { row := fnCandidateOrderRow, standIns := [], harness := (true, "21bdd360056a4092d36439ef5286e3c320482f423b326895b09936e33f920a60"), looks := false }, kinds := [], alts := [], laidByText := true, laidKinds := [.data, .data, .data], laidTests := true, laidLooks := .later }
def FnCandidateOrderCardSaid : Prop := Claim7.holds Tryz.pinned (.plain (OpenSpec.ofChange fnCandidateOrderSpec)) fnCandidateOrderCard

/-- THE TIED CARD OF 'laws.FnDeterminate'. -/
def fnDeterminateCard : Claim7 := { stood := { row := fnDeterminateRow, standIns := [], harness := (true, "21bdd360056a4092d36439ef5286e3c320482f423b326895b09936e33f920a60"), looks := false }, kinds := [], alts := [], laidByText := true, laidKinds := [.data, .data, .data], laidTests := true, laidLooks := .later }
def FnDeterminateCardSaid : Prop := Claim7.holds Tryz.pinned (.plain (OpenSpec.ofChange fnDeterminateSpec)) fnDeterminateCard

/-- THE TIED CARD OF 'laws.FnFormatCode'. -/
def fnFormatCodeCard : Claim7 := { stood := { row := fnFormatCodeRow, standIns := [], harness := (true, "21bdd360056a4092d36439ef5286e3c320482f423b326895b09936e33f920a60"), looks := false }, kinds := [], alts := [], laidByText := true, laidKinds := [.data, .data, .data], laidTests := true, laidLooks := .later }
def FnFormatCodeCardSaid : Prop := Claim7.holds Tryz.pinned (.plain (OpenSpec.ofChange fnFormatCodeSpec)) fnFormatCodeCard

/-- THE SECOND FORM's CARD OF 'laws.FnCandidateOrder'. -/
def fnCandidateOrderUptoCard : Claim7 := { stood := { row := fnCandidateOrderUptoRow, standIns := [], harness := (true, "21bdd360056a4092d36439ef5286e3c320482f423b326895b09936e33f920a60"), looks := false }, kinds := [], alts := [], laidByText := true, laidKinds := [.data, .data, .data], laidTests := true, laidLooks := .later }
def FnCandidateOrderUptoCardSaid : Prop := Claim7.holds Tryz.pinned (.plain (OpenSpec.upto fnCandidateOrderSpec)) fnCandidateOrderUptoCard

/-- THE SECOND FORM's CARD OF 'laws.FnDeterminate'. -/
def fnDeterminateUptoCard : Claim7 := { stood := { row := fnDeterminateUptoRow, standIns := [], harness := (true, "21bdd360056a4092d36439ef5286e3c320482f423b326895b09936e33f920a60"), looks := false }, kinds := [], alts := [], laidByText := true, laidKinds := [.data, .data, .data], laidTests := true, laidLooks := .later }
def FnDeterminateUptoCardSaid : Prop := Claim7.holds Tryz.pinned (.plain (OpenSpec.upto fnDeterminateSpec)) fnDeterminateUptoCard

/-- THE SECOND FORM's CARD OF 'laws.FnFormatCode'. -/
def fnFormatCodeUptoCard : Claim7 := { stood := { row := fnFormatCodeUptoRow, standIns := [], harness := (true, "21bdd360056a4092d36439ef5286e3c320482f423b326895b09936e33f920a60"), looks := false }, kinds := [], alts := [], laidByText := true, laidKinds := [.data, .data, .data], laidTests := true, laidLooks := .later }
def FnFormatCodeUptoCardSaid : Prop := Claim7.holds Tryz.pinned (.plain (OpenSpec.upto fnFormatCodeSpec)) fnFormatCodeUptoCard
end Rows
end Go.Proofs.YteighafofbohcaaGreatDoor
