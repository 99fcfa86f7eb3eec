/-
  DERIVED. GIVEN WITH THE SEED: THE CARDS: each row of YtikgpomnibbioaaGreatDoorRows.lean that lists a variable, with what it lists TIED to the program's text (the seventh form; the later family's looks); each row that meets fmt, with fmt's text TOLD by the authors' own Lean function (tested against real Go, not proved from fmt's source: count such statements apart). THE CARD IS WHAT COUNTS. Prove the row's statement (the work); the ties are given (YtikgpomnibbioaaGreatDoorTie.lean); close each card by the builder's one call (the guide's Derived/Test/ToyasCard.lean, 'card_holds'). Laid BY PROGRAM, IN A SANDBOX (cutbox-door.mjs). By AI agents, Wed Nov 11 2026. No macro, syntax, notation, axiom, sorry.
-/
import Derived.Test.YtikgpomnibbioaaGreatDoorRows
import GoSem.ClaimSeven
namespace Go.Proofs.YtikgpomnibbioaaGreatDoor
namespace Rows

/-- THE TIED CARD OF 'laws.FnExactFormatAnswer'. -/
def fnExactFormatAnswerCard : Claim7 := { stood := { row := fnExactFormatAnswerRow, standIns := [], harness := (true, "0cacf5bab9e2374e0dead3e08cc2398f1470975f99e18f0a2cb0bb3cc9cc189a"), looks := false }, kinds := [], alts := [], laidByText := true, laidKinds := [.data, .data, .data], laidTests := true, laidLooks := .later }
def FnExactFormatAnswerCardSaid : Prop := Claim7.holds Tryz.pinned (.plain (OpenSpec.ofChange fnExactFormatAnswerSpec)) fnExactFormatAnswerCard

/-- THE SECOND FORM's CARD OF 'laws.FnExactFormatAnswer'. -/
def fnExactFormatAnswerUptoCard : Claim7 := { stood := { row := fnExactFormatAnswerUptoRow, standIns := [], harness := (true, "0cacf5bab9e2374e0dead3e08cc2398f1470975f99e18f0a2cb0bb3cc9cc189a"), looks := false }, kinds := [], alts := [], laidByText := true, laidKinds := [.data, .data, .data], laidTests := true, laidLooks := .later }
def FnExactFormatAnswerUptoCardSaid : Prop := Claim7.holds Tryz.pinned (.plain (OpenSpec.upto fnExactFormatAnswerSpec)) fnExactFormatAnswerUptoCard
end Rows
end Go.Proofs.YtikgpomnibbioaaGreatDoor
