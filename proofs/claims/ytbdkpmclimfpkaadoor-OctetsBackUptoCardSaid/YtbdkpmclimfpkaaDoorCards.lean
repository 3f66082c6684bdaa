/-
  DERIVED. GIVEN WITH THE SEED: THE CARDS: each row of YtbdkpmclimfpkaaDoorRows.lean that lists a variable, with what it lists TIED to the program's text (the seventh form; the later family's looks); each row that meets fmt, with fmt's text TOLD by the authors' own Lean function (tested against real Go, not proved from fmt's source: count such statements apart). THE CARD IS WHAT COUNTS. Prove the row's statement (the work); the ties are given (YtbdkpmclimfpkaaDoorTie.lean); close each card by the builder's one call (the guide's Derived/Test/ToyasCard.lean, 'card_holds'). Laid BY PROGRAM, IN A SANDBOX (cutbox-door.mjs). By AI agents, Wed Nov 11 2026. No macro, syntax, notation, axiom, sorry.
-/
import Derived.Test.YtbdkpmclimfpkaaDoorRows
import GoSem.ClaimSeven
namespace Go.Proofs.YtbdkpmclimfpkaaDoor
namespace Rows

/-- THE TIED CARD OF 'undercroftlaw01.OctetsTells'. -/
def octetsTellsCard : Claim7 := { stood := { row := octetsTellsRow, standIns := [], harness := (true, "8c9bafbaf4d9c672f593a6498a1f7d9ca38a40ff3293b197514c377ff491b6c9"), looks := false }, kinds := [], alts := [], laidByText := true, laidKinds := [.data, .pinned], laidTests := true, laidLooks := .later }
def OctetsTellsCardSaid : Prop := Claim7.holds Tryd.pinned (.plain (OpenSpec.ofChange octetsTellsSpec)) octetsTellsCard

/-- THE TIED CARD OF 'undercroftlaw01.OctetsBack'. -/
def octetsBackCard : Claim7 := { stood := { row := octetsBackRow, standIns := [], harness := (true, "8c9bafbaf4d9c672f593a6498a1f7d9ca38a40ff3293b197514c377ff491b6c9"), looks := false }, kinds := [], alts := [], laidByText := true, laidKinds := [.data, .pinned], laidTests := true, laidLooks := .later }
def OctetsBackCardSaid : Prop := Claim7.holds Tryd.pinned (.plain (OpenSpec.ofChange octetsBackSpec)) octetsBackCard

/-- THE SECOND FORM's CARD OF 'undercroftlaw01.OctetsTells'. -/
def octetsTellsUptoCard : Claim7 := { stood := { row := octetsTellsUptoRow, standIns := [], harness := (true, "8c9bafbaf4d9c672f593a6498a1f7d9ca38a40ff3293b197514c377ff491b6c9"), looks := false }, kinds := [], alts := [], laidByText := true, laidKinds := [.data, .pinned], laidTests := true, laidLooks := .later }
def OctetsTellsUptoCardSaid : Prop := Claim7.holds Tryd.pinned (.plain (OpenSpec.upto octetsTellsSpec)) octetsTellsUptoCard

/-- THE SECOND FORM's CARD OF 'undercroftlaw01.OctetsBack'. -/
def octetsBackUptoCard : Claim7 := { stood := { row := octetsBackUptoRow, standIns := [], harness := (true, "8c9bafbaf4d9c672f593a6498a1f7d9ca38a40ff3293b197514c377ff491b6c9"), looks := false }, kinds := [], alts := [], laidByText := true, laidKinds := [.data, .pinned], laidTests := true, laidLooks := .later }
def OctetsBackUptoCardSaid : Prop := Claim7.holds Tryd.pinned (.plain (OpenSpec.upto octetsBackSpec)) octetsBackUptoCard
end Rows
end Go.Proofs.YtbdkpmclimfpkaaDoor
