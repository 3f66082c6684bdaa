/-
  DERIVED. GIVEN WITH THE SEED: THE CARDS: each row of YtofflfacfjkikaaDoorRows.lean that lists a variable, with what it lists TIED to the program's text (the seventh form; the later family's looks); each row that meets fmt, with fmt's text TOLD by the authors' own Lean function (tested against real Go, not proved from fmt's source: count such statements apart). THE CARD IS WHAT COUNTS. Prove the row's statement (the work); the ties are given (YtofflfacfjkikaaDoorTie.lean); close each card by the builder's one call (the guide's Derived/Test/ToyasCard.lean, 'card_holds'). Laid BY PROGRAM, IN A SANDBOX (cutbox-door.mjs). By AI agents, Wed Nov 11 2026. No macro, syntax, notation, axiom, sorry.
-/
import Derived.Test.YtofflfacfjkikaaDoorRows
import GoSem.ClaimSeven
namespace Go.Proofs.YtofflfacfjkikaaDoor
namespace Rows

/-- THE TIED CARD OF 'undercroftlaw20.ClientTells'. -/
def clientTellsCard : Claim7 := { stood := { row := clientTellsRow, standIns := [], harness := (true, "e613909ae155179f6c488a8e04e7ddbab1eb9ac60150de7372954cb0c966dab4"), looks := true }, kinds := [], alts := [], laidByText := true, laidKinds := [.handle], laidTests := true, laidLooks := .later }
def ClientTellsCardSaid : Prop := Claim7.holds Tryd.pinned (.plain (OpenSpec.ofChange clientTellsSpec)) clientTellsCard

/-- THE TIED CARD OF 'undercroftlaw20.ClientBack'. -/
def clientBackCard : Claim7 := { stood := { row := clientBackRow, standIns := [], harness := (true, "e613909ae155179f6c488a8e04e7ddbab1eb9ac60150de7372954cb0c966dab4"), looks := true }, kinds := [], alts := [], laidByText := true, laidKinds := [.handle], laidTests := true, laidLooks := .later }
def ClientBackCardSaid : Prop := Claim7.holds Tryd.pinned (.plain (OpenSpec.ofChange clientBackSpec)) clientBackCard

/-- THE SECOND FORM's CARD OF 'undercroftlaw20.ClientTells'. -/
def clientTellsUptoCard : Claim7 := { stood := { row := clientTellsUptoRow, standIns := [], harness := (true, "e613909ae155179f6c488a8e04e7ddbab1eb9ac60150de7372954cb0c966dab4"), looks := true }, kinds := [], alts := [], laidByText := true, laidKinds := [.handle], laidTests := true, laidLooks := .later }
def ClientTellsUptoCardSaid : Prop := Claim7.holds Tryd.pinned (.plain (OpenSpec.upto clientTellsSpec)) clientTellsUptoCard

/-- THE SECOND FORM's CARD OF 'undercroftlaw20.ClientBack'. -/
def clientBackUptoCard : Claim7 := { stood := { row := clientBackUptoRow, standIns := [], harness := (true, "e613909ae155179f6c488a8e04e7ddbab1eb9ac60150de7372954cb0c966dab4"), looks := true }, kinds := [], alts := [], laidByText := true, laidKinds := [.handle], laidTests := true, laidLooks := .later }
def ClientBackUptoCardSaid : Prop := Claim7.holds Tryd.pinned (.plain (OpenSpec.upto clientBackSpec)) clientBackUptoCard
end Rows
end Go.Proofs.YtofflfacfjkikaaDoor
