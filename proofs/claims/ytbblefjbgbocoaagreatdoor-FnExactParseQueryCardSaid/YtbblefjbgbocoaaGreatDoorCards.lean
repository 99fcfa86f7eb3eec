/-
  DERIVED. GIVEN WITH THE SEED: THE CARDS: each row of YtbblefjbgbocoaaGreatDoorRows.lean that lists a variable, with what it lists TIED to the program's text (the seventh form; the later family's looks); each row that meets fmt, with fmt's text TOLD by the authors' own Lean function (tested against real Go, not proved from fmt's source: count such statements apart). THE CARD IS WHAT COUNTS. Prove the row's statement (the work); the ties are given (YtbblefjbgbocoaaGreatDoorTie.lean); close each card by the builder's one call (the guide's Derived/Test/ToyasCard.lean, 'card_holds'). Laid BY PROGRAM, IN A SANDBOX (cutbox-door.mjs). By AI agents, Wed Nov 11 2026. No macro, syntax, notation, axiom, sorry.
-/
import Derived.Test.YtbblefjbgbocoaaGreatDoorRows
import GoSem.ClaimSeven
namespace Go.Proofs.YtbblefjbgbocoaaGreatDoor
namespace Rows

/-- THE TIED CARD OF 'laws.FnCodeText'. -/
def fnCodeTextCard : Claim7 := { stood := { row := fnCodeTextRow, standIns := [], harness := (true, "39f039738fe323ee7a6999360ada6996bbf9a791e485344bfdc3066e033b4fc2"), looks := true }, kinds := [], alts := [], laidByText := true, laidKinds := [.data, .data, .data, .data, .sentinel, .sentinel, .pinned], laidTests := true, laidLooks := .later }
def FnCodeTextCardSaid : Prop := Claim7.holds Tryz.pinned (.plain (OpenSpec.ofChange fnCodeTextSpec)) fnCodeTextCard

/-- THE TIED CARD OF 'laws.FnExactParseQuery'. -/
def fnExactParseQueryCard : Claim7 := { stood := { row := fnExactParseQueryRow, standIns := [], harness := (true, "39f039738fe323ee7a6999360ada6996bbf9a791e485344bfdc3066e033b4fc2"), looks := true }, kinds := [], alts := [], laidByText := true, laidKinds := [.data, .data, .data, .sentinel, .sentinel], laidTests := true, laidLooks := .later }
def FnExactParseQueryCardSaid : Prop := Claim7.holds Tryz.pinned (.plain (OpenSpec.ofChange fnExactParseQuerySpec)) fnExactParseQueryCard

/-- THE TIED CARD OF 'laws.FnQueryText'. -/
def fnQueryTextCard : Claim7 := { stood := { row := fnQueryTextRow, standIns := [], harness := (true, "39f039738fe323ee7a6999360ada6996bbf9a791e485344bfdc3066e033b4fc2"), looks := true }, kinds := [], alts := [], laidByText := true, laidKinds := [.data, .data, .data, .sentinel, .sentinel], laidTests := true, laidLooks := .later }
def FnQueryTextCardSaid : Prop := Claim7.holds Tryz.pinned (.plain (OpenSpec.ofChange fnQueryTextSpec)) fnQueryTextCard

/-- THE TIED CARD OF 'laws.FnCandidates'. -/
def fnCandidatesCard : Claim7 := { stood := { row := fnCandidatesRow, standIns := [], harness := (true, "39f039738fe323ee7a6999360ada6996bbf9a791e485344bfdc3066e033b4fc2"), looks := true }, kinds := [], alts := [], laidByText := true, laidKinds := [.data, .data, .data], laidTests := true, laidLooks := .later }
def FnCandidatesCardSaid : Prop := Claim7.holds Tryz.pinned (.plain (OpenSpec.ofChange fnCandidatesSpec)) fnCandidatesCard

/-- THE TIED CARD OF 'laws.FnFirstKey'. -/
def fnFirstKeyCard : Claim7 := { stood := { row := fnFirstKeyRow, standIns := [], harness := (true, "39f039738fe323ee7a6999360ada6996bbf9a791e485344bfdc3066e033b4fc2"), looks := true }, kinds := [], alts := [], laidByText := true, laidKinds := [.data, .data, .data], laidTests := true, laidLooks := .later }
def FnFirstKeyCardSaid : Prop := Claim7.holds Tryz.pinned (.plain (OpenSpec.ofChange fnFirstKeySpec)) fnFirstKeyCard

/-- THE SECOND FORM's CARD OF 'laws.FnCodeText'. -/
def fnCodeTextUptoCard : Claim7 := { stood := { row := fnCodeTextUptoRow, standIns := [], harness := (true, "39f039738fe323ee7a6999360ada6996bbf9a791e485344bfdc3066e033b4fc2"), looks := true }, kinds := [], alts := [], laidByText := true, laidKinds := [.data, .data, .data, .data, .sentinel, .sentinel, .pinned], laidTests := true, laidLooks := .later }
def FnCodeTextUptoCardSaid : Prop := Claim7.holds Tryz.pinned (.plain (OpenSpec.upto fnCodeTextSpec)) fnCodeTextUptoCard

/-- THE SECOND FORM's CARD OF 'laws.FnExactParseQuery'. -/
def fnExactParseQueryUptoCard : Claim7 := { stood := { row := fnExactParseQueryUptoRow, standIns := [], harness := (true, "39f039738fe323ee7a6999360ada6996bbf9a791e485344bfdc3066e033b4fc2"), looks := true }, kinds := [], alts := [], laidByText := true, laidKinds := [.data, .data, .data, .sentinel, .sentinel], laidTests := true, laidLooks := .later }
def FnExactParseQueryUptoCardSaid : Prop := Claim7.holds Tryz.pinned (.plain (OpenSpec.upto fnExactParseQuerySpec)) fnExactParseQueryUptoCard

/-- THE SECOND FORM's CARD OF 'laws.FnQueryText'. -/
def fnQueryTextUptoCard : Claim7 := { stood := { row := fnQueryTextUptoRow, standIns := [], harness := (true, "39f039738fe323ee7a6999360ada6996bbf9a791e485344bfdc3066e033b4fc2"), looks := true }, kinds := [], alts := [], laidByText := true, laidKinds := [.data, .data, .data, .sentinel, .sentinel], laidTests := true, laidLooks := .later }
def FnQueryTextUptoCardSaid : Prop := Claim7.holds Tryz.pinned (.plain (OpenSpec.upto fnQueryTextSpec)) fnQueryTextUptoCard

/-- THE SECOND FORM's CARD OF 'laws.FnCandidates'. -/
def fnCandidatesUptoCard : Claim7 := { stood := { row := fnCandidatesUptoRow, standIns := [], harness := (true, "39f039738fe323ee7a6999360ada6996bbf9a791e485344bfdc3066e033b4fc2"), looks := true }, kinds := [], alts := [], laidByText := true, laidKinds := [.data, .data, .data], laidTests := true, laidLooks := .later }
def FnCandidatesUptoCardSaid : Prop := Claim7.holds Tryz.pinned (.plain (OpenSpec.upto fnCandidatesSpec)) fnCandidatesUptoCard

/-- THE SECOND FORM's CARD OF 'laws.FnFirstKey'. -/
def fnFirstKeyUptoCard : Claim7 := { stood := { row := fnFirstKeyUptoRow, standIns := [], harness := (true, "39f039738fe323ee7a6999360ada6996bbf9a791e485344bfdc3066e033b4fc2"), looks := true }, kinds := [], alts := [], laidByText := true, laidKinds := [.data, .data, .data], laidTests := true, laidLooks := .later }
def FnFirstKeyUptoCardSaid : Prop := Claim7.holds Tryz.pinned (.plain (OpenSpec.upto fnFirstKeySpec)) fnFirstKeyUptoCard
end Rows
end Go.Proofs.YtbblefjbgbocoaaGreatDoor
