/-
  DERIVED. GIVEN WITH THE SEED: THE CARDS: each row of YtdjbahilmcokeaaDoorRows.lean that lists a variable, with what it lists TIED to the program's text (the seventh form; the later family's looks); each row that meets fmt, with fmt's text TOLD by the authors' own Lean function (tested against real Go, not proved from fmt's source: count such statements apart). THE CARD IS WHAT COUNTS. Prove the row's statement (the work); the ties are given (YtdjbahilmcokeaaDoorTie.lean); close each card by the builder's one call (the guide's Derived/Test/ToyasCard.lean, 'card_holds'). Laid BY PROGRAM, IN A SANDBOX (cutbox-door.mjs). By AI agents, Wed Nov 11 2026. No macro, syntax, notation, axiom, sorry.
-/
import Derived.Test.YtdjbahilmcokeaaDoorRows
import GoSem.ClaimSeven
namespace Go.Proofs.YtdjbahilmcokeaaDoor
namespace Rows

/-- THE TIED CARD OF 'laws.FnExactFirstKey'. -/
def fnExactFirstKeyCard : Claim7 := { stood := { row := fnExactFirstKeyRow, standIns := [], harness := (true, "c39aa98bc4dc15a1f089bb5f18e72fda4d2dc548dc24da04888ad55f8f442861"), looks := false }, kinds := [], alts := [], laidByText := true, laidKinds := [.data, .data, .data], laidTests := true, laidLooks := .later }
def FnExactFirstKeyCardSaid : Prop := Claim7.holds Tryd.pinned (.plain (OpenSpec.ofChange fnExactFirstKeySpec)) fnExactFirstKeyCard

/-- THE TIED CARD OF 'laws.FnExactFormatInstr'. -/
def fnExactFormatInstrCard : Claim7 := { stood := { row := fnExactFormatInstrRow, standIns := [], harness := (true, "c39aa98bc4dc15a1f089bb5f18e72fda4d2dc548dc24da04888ad55f8f442861"), looks := false }, kinds := [], alts := [], laidByText := true, laidKinds := [.data, .data, .data], laidTests := true, laidLooks := .later }
def FnExactFormatInstrCardSaid : Prop := Claim7.holds Tryd.pinned (.plain (OpenSpec.ofChange fnExactFormatInstrSpec)) fnExactFormatInstrCard

/-- THE TIED CARD OF 'laws.FnExactFormatCode'. -/
def fnExactFormatCodeCard : Claim7 := { stood := { row := fnExactFormatCodeRow, standIns := [], harness := (true, "c39aa98bc4dc15a1f089bb5f18e72fda4d2dc548dc24da04888ad55f8f442861"), looks := false }, kinds := [], alts := [], laidByText := true, laidKinds := [.data, .data, .data], laidTests := true, laidLooks := .later }
def FnExactFormatCodeCardSaid : Prop := Claim7.holds Tryd.pinned (.plain (OpenSpec.ofChange fnExactFormatCodeSpec)) fnExactFormatCodeCard

/-- THE TIED CARD OF 'laws.FnExactDeterminate'. -/
def fnExactDeterminateCard : Claim7 := { stood := { row := fnExactDeterminateRow, standIns := [], harness := (true, "c39aa98bc4dc15a1f089bb5f18e72fda4d2dc548dc24da04888ad55f8f442861"), looks := false }, kinds := [], alts := [], laidByText := true, laidKinds := [.data, .data, .data], laidTests := true, laidLooks := .later }
def FnExactDeterminateCardSaid : Prop := Claim7.holds Tryd.pinned (.plain (OpenSpec.ofChange fnExactDeterminateSpec)) fnExactDeterminateCard

/-- THE TIED CARD OF 'laws.FnExactCandidates'. -/
def fnExactCandidatesCard : Claim7 := { stood := { row := fnExactCandidatesRow, standIns := [], harness := (true, "c39aa98bc4dc15a1f089bb5f18e72fda4d2dc548dc24da04888ad55f8f442861"), looks := false }, kinds := [], alts := [], laidByText := true, laidKinds := [.data, .data, .data], laidTests := true, laidLooks := .later }
def FnExactCandidatesCardSaid : Prop := Claim7.holds Tryd.pinned (.plain (OpenSpec.ofChange fnExactCandidatesSpec)) fnExactCandidatesCard

/-- THE SECOND FORM's CARD OF 'laws.FnExactFirstKey'. -/
def fnExactFirstKeyUptoCard : Claim7 := { stood := { row := fnExactFirstKeyUptoRow, standIns := [], harness := (true, "c39aa98bc4dc15a1f089bb5f18e72fda4d2dc548dc24da04888ad55f8f442861"), looks := false }, kinds := [], alts := [], laidByText := true, laidKinds := [.data, .data, .data], laidTests := true, laidLooks := .later }
def FnExactFirstKeyUptoCardSaid : Prop := Claim7.holds Tryd.pinned (.plain (OpenSpec.upto fnExactFirstKeySpec)) fnExactFirstKeyUptoCard

/-- THE SECOND FORM's CARD OF 'laws.FnExactFormatInstr'. -/
def fnExactFormatInstrUptoCard : Claim7 := { stood := { row := fnExactFormatInstrUptoRow, standIns := [], harness := (true, "c39aa98bc4dc15a1f089bb5f18e72fda4d2dc548dc24da04888ad55f8f442861"), looks := false }, kinds := [], alts := [], laidByText := true, laidKinds := [.data, .data, .data], laidTests := true, laidLooks := .later }
def FnExactFormatInstrUptoCardSaid : Prop := Claim7.holds Tryd.pinned (.plain (OpenSpec.upto fnExactFormatInstrSpec)) fnExactFormatInstrUptoCard

/-- THE SECOND FORM's CARD OF 'laws.FnExactFormatCode'. -/
def fnExactFormatCodeUptoCard : Claim7 := { stood := { row := fnExactFormatCodeUptoRow, standIns := [], harness := (true, "c39aa98bc4dc15a1f089bb5f18e72fda4d2dc548dc24da04888ad55f8f442861"), looks := false }, kinds := [], alts := [], laidByText := true, laidKinds := [.data, .data, .data], laidTests := true, laidLooks := .later }
def FnExactFormatCodeUptoCardSaid : Prop := Claim7.holds Tryd.pinned (.plain (OpenSpec.upto fnExactFormatCodeSpec)) fnExactFormatCodeUptoCard

/-- THE SECOND FORM's CARD OF 'laws.FnExactDeterminate'. -/
def fnExactDeterminateUptoCard : Claim7 := { stood := { row := fnExactDeterminateUptoRow, standIns := [], harness := (true, "c39aa98bc4dc15a1f089bb5f18e72fda4d2dc548dc24da04888ad55f8f442861"), looks := false }, kinds := [], alts := [], laidByText := true, laidKinds := [.data, .data, .data], laidTests := true, laidLooks := .later }
def FnExactDeterminateUptoCardSaid : Prop := Claim7.holds Tryd.pinned (.plain (OpenSpec.upto fnExactDeterminateSpec)) fnExactDeterminateUptoCard

/-- THE SECOND FORM's CARD OF 'laws.FnExactCandidates'. -/
def fnExactCandidatesUptoCard : Claim7 := { stood := { row := fnExactCandidatesUptoRow, standIns := [], harness := (true, "c39aa98bc4dc15a1f089bb5f18e72fda4d2dc548dc24da04888ad55f8f442861"), looks := false }, kinds := [], alts := [], laidByText := true, laidKinds := [.data, .data, .data], laidTests := true, laidLooks := .later }
def FnExactCandidatesUptoCardSaid : Prop := Claim7.holds Tryd.pinned (.plain (OpenSpec.upto fnExactCandidatesSpec)) fnExactCandidatesUptoCard
end Rows
end Go.Proofs.YtdjbahilmcokeaaDoor
