/-
  DERIVED. GIVEN WITH THE SEED: THE CARDS: each row of YtoipdmomgjdnaaaDoorRows.lean that lists a variable, with what it lists TIED to the program's text (the seventh form; the later family's looks); each row that meets fmt, with fmt's text TOLD by the authors' own Lean function (tested against real Go, not proved from fmt's source: count such statements apart). THE CARD IS WHAT COUNTS. Prove the row's statement (the work); the ties are given (YtoipdmomgjdnaaaDoorTie.lean); close each card by the builder's one call (the guide's Derived/Test/ToyasCard.lean, 'card_holds'). Laid BY PROGRAM, IN A SANDBOX (cutbox-door.mjs). By AI agents, Wed Nov 11 2026. No macro, syntax, notation, axiom, sorry.
-/
import Derived.Test.YtoipdmomgjdnaaaDoorRows
import GoSem.ClaimSeven
namespace Go.Proofs.YtoipdmomgjdnaaaDoor
namespace Rows

/-- THE TIED CARD OF 'laws.FnExactDeterminate'. -/
def fnExactDeterminateCard : Claim7 := { stood := { row := fnExactDeterminateRow, standIns := [], harness := (true, "e8a0f3fb36d47baca87638e567b8c1dbff2d255d193e5a86e0d982fe94c909eb"), looks := false }, kinds := [], alts := [], laidByText := true, laidKinds := [.data, .data, .data], laidTests := true, laidLooks := .later }
def FnExactDeterminateCardSaid : Prop := Claim7.holds Tryd.pinned (.plain (OpenSpec.ofChange fnExactDeterminateSpec)) fnExactDeterminateCard

/-- THE SECOND FORM's CARD OF 'laws.FnExactDeterminate'. -/
def fnExactDeterminateUptoCard : Claim7 := { stood := { row := fnExactDeterminateUptoRow, standIns := [], harness := (true, "e8a0f3fb36d47baca87638e567b8c1dbff2d255d193e5a86e0d982fe94c909eb"), looks := false }, kinds := [], alts := [], laidByText := true, laidKinds := [.data, .data, .data], laidTests := true, laidLooks := .later }
def FnExactDeterminateUptoCardSaid : Prop := Claim7.holds Tryd.pinned (.plain (OpenSpec.upto fnExactDeterminateSpec)) fnExactDeterminateUptoCard
end Rows
end Go.Proofs.YtoipdmomgjdnaaaDoor
