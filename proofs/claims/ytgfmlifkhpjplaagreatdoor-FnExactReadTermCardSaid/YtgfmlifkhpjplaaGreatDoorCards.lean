/-
  DERIVED. GIVEN WITH THE SEED: THE CARDS: each row of YtgfmlifkhpjplaaGreatDoorRows.lean that lists a variable, with what it lists TIED to the program's text (the seventh form; the later family's looks); each row that meets fmt, with fmt's text TOLD by the authors' own Lean function (tested against real Go, not proved from fmt's source: count such statements apart). THE CARD IS WHAT COUNTS. Prove the row's statement (the work); the ties are given (YtgfmlifkhpjplaaGreatDoorTie.lean); close each card by the builder's one call (the guide's Derived/Test/ToyasCard.lean, 'card_holds'). Laid BY PROGRAM, IN A SANDBOX (cutbox-door.mjs). By AI agents, Wed Nov 11 2026. No macro, syntax, notation, axiom, sorry.
-/
import Derived.Test.YtgfmlifkhpjplaaGreatDoorRows
import GoSem.ClaimSeven
namespace Go.Proofs.YtgfmlifkhpjplaaGreatDoor
namespace Rows

/-- THE TIED CARD OF 'laws.FnExactReadTerm'. -/
def fnExactReadTermCard : Claim7 := { stood := { row := fnExactReadTermRow, standIns := [], harness := (true, "1f35cb7d2c0224f15feb1721b0437e7b38b7e14f7096a548e62920b5b5ddefd3"), looks := true }, kinds := [], alts := [], laidByText := true, laidKinds := [.data, .data, .data, .sentinel, .sentinel], laidTests := true, laidLooks := .later }
def FnExactReadTermCardSaid : Prop := Claim7.holds Tryz.pinned (.plain (OpenSpec.ofChange fnExactReadTermSpec)) fnExactReadTermCard

/-- THE TIED CARD OF 'laws.FnWriteTerm'. -/
def fnWriteTermCard : Claim7 := { stood := { row := fnWriteTermRow, standIns := [], harness := (true, "1f35cb7d2c0224f15feb1721b0437e7b38b7e14f7096a548e62920b5b5ddefd3"), looks := true }, kinds := [], alts := [], laidByText := true, laidKinds := [.data, .data, .data, .sentinel, .sentinel], laidTests := true, laidLooks := .later }
def FnWriteTermCardSaid : Prop := Claim7.holds Tryz.pinned (.plain (OpenSpec.ofChange fnWriteTermSpec)) fnWriteTermCard

/-- THE TIED CARD OF 'laws.FnReadBrackets'. -/
def fnReadBracketsCard : Claim7 := { stood := { row := fnReadBracketsRow, standIns := [], harness := (true, "1f35cb7d2c0224f15feb1721b0437e7b38b7e14f7096a548e62920b5b5ddefd3"), looks := true }, kinds := [], alts := [], laidByText := true, laidKinds := [.data, .data, .data, .sentinel, .sentinel], laidTests := true, laidLooks := .later }
def FnReadBracketsCardSaid : Prop := Claim7.holds Tryz.pinned (.plain (OpenSpec.ofChange fnReadBracketsSpec)) fnReadBracketsCard

/-- THE TIED CARD OF 'laws.FnReadArgs'. -/
def fnReadArgsCard : Claim7 := { stood := { row := fnReadArgsRow, standIns := [], harness := (true, "1f35cb7d2c0224f15feb1721b0437e7b38b7e14f7096a548e62920b5b5ddefd3"), looks := true }, kinds := [], alts := [], laidByText := true, laidKinds := [.data, .data, .data, .sentinel, .sentinel], laidTests := true, laidLooks := .later }
def FnReadArgsCardSaid : Prop := Claim7.holds Tryz.pinned (.plain (OpenSpec.ofChange fnReadArgsSpec)) fnReadArgsCard

/-- THE TIED CARD OF 'laws.FnReadTerm'. -/
def fnReadTermCard : Claim7 := { stood := { row := fnReadTermRow, standIns := [], harness := (true, "1f35cb7d2c0224f15feb1721b0437e7b38b7e14f7096a548e62920b5b5ddefd3"), looks := true }, kinds := [], alts := [], laidByText := true, laidKinds := [.data, .data, .data, .sentinel, .sentinel], laidTests := true, laidLooks := .later }
def FnReadTermCardSaid : Prop := Claim7.holds Tryz.pinned (.plain (OpenSpec.ofChange fnReadTermSpec)) fnReadTermCard

/-- THE TIED CARD OF 'laws.FnReadFails'. -/
def fnReadFailsCard : Claim7 := { stood := { row := fnReadFailsRow, standIns := [], harness := (true, "1f35cb7d2c0224f15feb1721b0437e7b38b7e14f7096a548e62920b5b5ddefd3"), looks := true }, kinds := [], alts := [], laidByText := true, laidKinds := [.data, .data, .data, .sentinel, .sentinel], laidTests := true, laidLooks := .later }
def FnReadFailsCardSaid : Prop := Claim7.holds Tryz.pinned (.plain (OpenSpec.ofChange fnReadFailsSpec)) fnReadFailsCard

/-- THE SECOND FORM's CARD OF 'laws.FnExactReadTerm'. -/
def fnExactReadTermUptoCard : Claim7 := { stood := { row := fnExactReadTermUptoRow, standIns := [], harness := (true, "1f35cb7d2c0224f15feb1721b0437e7b38b7e14f7096a548e62920b5b5ddefd3"), looks := true }, kinds := [], alts := [], laidByText := true, laidKinds := [.data, .data, .data, .sentinel, .sentinel], laidTests := true, laidLooks := .later }
def FnExactReadTermUptoCardSaid : Prop := Claim7.holds Tryz.pinned (.plain (OpenSpec.upto fnExactReadTermSpec)) fnExactReadTermUptoCard

/-- THE SECOND FORM's CARD OF 'laws.FnWriteTerm'. -/
def fnWriteTermUptoCard : Claim7 := { stood := { row := fnWriteTermUptoRow, standIns := [], harness := (true, "1f35cb7d2c0224f15feb1721b0437e7b38b7e14f7096a548e62920b5b5ddefd3"), looks := true }, kinds := [], alts := [], laidByText := true, laidKinds := [.data, .data, .data, .sentinel, .sentinel], laidTests := true, laidLooks := .later }
def FnWriteTermUptoCardSaid : Prop := Claim7.holds Tryz.pinned (.plain (OpenSpec.upto fnWriteTermSpec)) fnWriteTermUptoCard

/-- THE SECOND FORM's CARD OF 'laws.FnReadBrackets'. -/
def fnReadBracketsUptoCard : Claim7 := { stood := { row := fnReadBracketsUptoRow, standIns := [], harness := (true, "1f35cb7d2c0224f15feb1721b0437e7b38b7e14f7096a548e62920b5b5ddefd3"), looks := true }, kinds := [], alts := [], laidByText := true, laidKinds := [.data, .data, .data, .sentinel, .sentinel], laidTests := true, laidLooks := .later }
def FnReadBracketsUptoCardSaid : Prop := Claim7.holds Tryz.pinned (.plain (OpenSpec.upto fnReadBracketsSpec)) fnReadBracketsUptoCard

/-- THE SECOND FORM's CARD OF 'laws.FnReadArgs'. -/
def fnReadArgsUptoCard : Claim7 := { stood := { row := fnReadArgsUptoRow, standIns := [], harness := (true, "1f35cb7d2c0224f15feb1721b0437e7b38b7e14f7096a548e62920b5b5ddefd3"), looks := true }, kinds := [], alts := [], laidByText := true, laidKinds := [.data, .data, .data, .sentinel, .sentinel], laidTests := true, laidLooks := .later }
def FnReadArgsUptoCardSaid : Prop := Claim7.holds Tryz.pinned (.plain (OpenSpec.upto fnReadArgsSpec)) fnReadArgsUptoCard

/-- THE SECOND FORM's CARD OF 'laws.FnReadTerm'. -/
def fnReadTermUptoCard : Claim7 := { stood := { row := fnReadTermUptoRow, standIns := [], harness := (true, "1f35cb7d2c0224f15feb1721b0437e7b38b7e14f7096a548e62920b5b5ddefd3"), looks := true }, kinds := [], alts := [], laidByText := true, laidKinds := [.data, .data, .data, .sentinel, .sentinel], laidTests := true, laidLooks := .later }
def FnReadTermUptoCardSaid : Prop := Claim7.holds Tryz.pinned (.plain (OpenSpec.upto fnReadTermSpec)) fnReadTermUptoCard

/-- THE SECOND FORM's CARD OF 'laws.FnReadFails'. -/
def fnReadFailsUptoCard : Claim7 := { stood := { row := fnReadFailsUptoRow, standIns := [], harness := (true, "1f35cb7d2c0224f15feb1721b0437e7b38b7e14f7096a548e62920b5b5ddefd3"), looks := true }, kinds := [], alts := [], laidByText := true, laidKinds := [.data, .data, .data, .sentinel, .sentinel], laidTests := true, laidLooks := .later }
def FnReadFailsUptoCardSaid : Prop := Claim7.holds Tryz.pinned (.plain (OpenSpec.upto fnReadFailsSpec)) fnReadFailsUptoCard
end Rows
end Go.Proofs.YtgfmlifkhpjplaaGreatDoor
