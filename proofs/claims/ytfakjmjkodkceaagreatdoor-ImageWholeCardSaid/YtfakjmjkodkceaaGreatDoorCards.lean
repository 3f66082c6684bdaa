/-
  DERIVED. GIVEN WITH THE SEED: THE CARDS: each row of YtfakjmjkodkceaaGreatDoorRows.lean that lists a variable, with what it lists TIED to the program's text (the seventh form; the later family's looks); each row that meets fmt, with fmt's text TOLD by the authors' own Lean function (tested against real Go, not proved from fmt's source: count such statements apart). THE CARD IS WHAT COUNTS. Prove the row's statement (the work); the ties are given (YtfakjmjkodkceaaGreatDoorTie.lean); close each card by the builder's one call (the guide's Derived/Test/ToyasCard.lean, 'card_holds'). Laid BY PROGRAM, IN A SANDBOX (cutbox-door.mjs). By AI agents, Wed Nov 11 2026. No macro, syntax, notation, axiom, sorry.
-/
import Derived.Test.YtfakjmjkodkceaaGreatDoorRows
import GoSem.ClaimSeven
namespace Go.Proofs.YtfakjmjkodkceaaGreatDoor
namespace Rows

/-- THE TIED CARD OF 'undercroftlaw12.ImageBack'. -/
def imageBackCard : Claim7 := { stood := { row := imageBackRow, standIns := [], harness := (true, "b3315a9ef668e422ebf8a52f0cbc164103def5bd66eb19e4ce0843e358a442f6"), looks := true }, kinds := [], alts := [], laidByText := true, laidKinds := [.data, .handle, .pinned], laidTests := true, laidLooks := .later }
def ImageBackCardSaid : Prop := Claim7.holds Tryz.pinned (.plain (OpenSpec.ofChange imageBackSpec)) imageBackCard

/-- THE TIED CARD OF 'undercroftlaw12.ImageWhole'. -/
def imageWholeCard : Claim7 := { stood := { row := imageWholeRow, standIns := [], harness := (true, "b3315a9ef668e422ebf8a52f0cbc164103def5bd66eb19e4ce0843e358a442f6"), looks := true }, kinds := [], alts := [], laidByText := true, laidKinds := [.data, .handle, .pinned], laidTests := true, laidLooks := .later }
def ImageWholeCardSaid : Prop := Claim7.holds Tryz.pinned (.plain (OpenSpec.ofChange imageWholeSpec)) imageWholeCard

/-- THE TIED CARD OF 'undercroftlaw12.ImageTurns'. -/
def imageTurnsCard : Claim7 := { stood := { row := imageTurnsRow, standIns := [], harness := (true, "b3315a9ef668e422ebf8a52f0cbc164103def5bd66eb19e4ce0843e358a442f6"), looks := true }, kinds := [], alts := [], laidByText := true, laidKinds := [.data, .handle, .pinned], laidTests := true, laidLooks := .later }
def ImageTurnsCardSaid : Prop := Claim7.holds Tryz.pinned (.plain (OpenSpec.ofChange imageTurnsSpec)) imageTurnsCard

/-- THE SECOND FORM's CARD OF 'undercroftlaw12.ImageBack'. -/
def imageBackUptoCard : Claim7 := { stood := { row := imageBackUptoRow, standIns := [], harness := (true, "b3315a9ef668e422ebf8a52f0cbc164103def5bd66eb19e4ce0843e358a442f6"), looks := true }, kinds := [], alts := [], laidByText := true, laidKinds := [.data, .handle, .pinned], laidTests := true, laidLooks := .later }
def ImageBackUptoCardSaid : Prop := Claim7.holds Tryz.pinned (.plain (OpenSpec.upto imageBackSpec)) imageBackUptoCard

/-- THE SECOND FORM's CARD OF 'undercroftlaw12.ImageWhole'. -/
def imageWholeUptoCard : Claim7 := { stood := { row := imageWholeUptoRow, standIns := [], harness := (true, "b3315a9ef668e422ebf8a52f0cbc164103def5bd66eb19e4ce0843e358a442f6"), looks := true }, kinds := [], alts := [], laidByText := true, laidKinds := [.data, .handle, .pinned], laidTests := true, laidLooks := .later }
def ImageWholeUptoCardSaid : Prop := Claim7.holds Tryz.pinned (.plain (OpenSpec.upto imageWholeSpec)) imageWholeUptoCard

/-- THE SECOND FORM's CARD OF 'undercroftlaw12.ImageTurns'. -/
def imageTurnsUptoCard : Claim7 := { stood := { row := imageTurnsUptoRow, standIns := [], harness := (true, "b3315a9ef668e422ebf8a52f0cbc164103def5bd66eb19e4ce0843e358a442f6"), looks := true }, kinds := [], alts := [], laidByText := true, laidKinds := [.data, .handle, .pinned], laidTests := true, laidLooks := .later }
def ImageTurnsUptoCardSaid : Prop := Claim7.holds Tryz.pinned (.plain (OpenSpec.upto imageTurnsSpec)) imageTurnsUptoCard
end Rows
end Go.Proofs.YtfakjmjkodkceaaGreatDoor
