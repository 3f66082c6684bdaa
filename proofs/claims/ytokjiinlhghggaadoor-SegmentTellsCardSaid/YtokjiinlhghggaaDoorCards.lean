/-
  DERIVED. GIVEN WITH THE SEED: THE CARDS: each row of YtokjiinlhghggaaDoorRows.lean that lists a variable, with what it lists TIED to the program's text (the seventh form; the later family's looks); each row that meets fmt, with fmt's text TOLD by the authors' own Lean function (tested against real Go, not proved from fmt's source: count such statements apart). THE CARD IS WHAT COUNTS. Prove the row's statement (the work); the ties are given (YtokjiinlhghggaaDoorTie.lean); close each card by the builder's one call (the guide's Derived/Test/ToyasCard.lean, 'card_holds'). Laid BY PROGRAM, IN A SANDBOX (cutbox-door.mjs). By AI agents, Wed Nov 11 2026. No macro, syntax, notation, axiom, sorry.
-/
import Derived.Test.YtokjiinlhghggaaDoorRows
import GoSem.ClaimSeven
namespace Go.Proofs.YtokjiinlhghggaaDoor
namespace Rows

/-- THE TIED CARD OF 'undercroftlaw13.SegmentBack'. -/
def segmentBackCard : Claim7 := { stood := { row := segmentBackRow, standIns := [], harness := (true, "f2c85c601e1e150d4772027c40e4fb505d562f79447aa7bc30557406140f44fc"), looks := false }, kinds := [], alts := [], laidByText := true, laidKinds := [.data, .pinned], laidTests := true, laidLooks := .later }
def SegmentBackCardSaid : Prop := Claim7.holds Tryd.pinned (.plain (OpenSpec.ofChange segmentBackSpec)) segmentBackCard

/-- THE TIED CARD OF 'undercroftlaw13.SegmentRot'. -/
def segmentRotCard : Claim7 := { stood := { row := segmentRotRow, standIns := [], harness := (true, "f2c85c601e1e150d4772027c40e4fb505d562f79447aa7bc30557406140f44fc"), looks := false }, kinds := [], alts := [], laidByText := true, laidKinds := [.data, .pinned], laidTests := true, laidLooks := .later }
def SegmentRotCardSaid : Prop := Claim7.holds Tryd.pinned (.plain (OpenSpec.ofChange segmentRotSpec)) segmentRotCard

/-- THE TIED CARD OF 'undercroftlaw13.SegmentOwn'. -/
def segmentOwnCard : Claim7 := { stood := { row := segmentOwnRow, standIns := [], harness := (true, "f2c85c601e1e150d4772027c40e4fb505d562f79447aa7bc30557406140f44fc"), looks := false }, kinds := [], alts := [], laidByText := true, laidKinds := [.data, .pinned], laidTests := true, laidLooks := .later }
def SegmentOwnCardSaid : Prop := Claim7.holds Tryd.pinned (.plain (OpenSpec.ofChange segmentOwnSpec)) segmentOwnCard

/-- THE TIED CARD OF 'undercroftlaw13.SegmentHolds'. -/
def segmentHoldsCard : Claim7 := { stood := { row := segmentHoldsRow, standIns := [], harness := (true, "f2c85c601e1e150d4772027c40e4fb505d562f79447aa7bc30557406140f44fc"), looks := false }, kinds := [], alts := [], laidByText := true, laidKinds := [.data, .pinned], laidTests := true, laidLooks := .later }
def SegmentHoldsCardSaid : Prop := Claim7.holds Tryd.pinned (.plain (OpenSpec.ofChange segmentHoldsSpec)) segmentHoldsCard

/-- THE TIED CARD OF 'undercroftlaw13.SegmentTells'. -/
def segmentTellsCard : Claim7 := { stood := { row := segmentTellsRow, standIns := [], harness := (true, "f2c85c601e1e150d4772027c40e4fb505d562f79447aa7bc30557406140f44fc"), looks := false }, kinds := [], alts := [], laidByText := true, laidKinds := [.data, .pinned], laidTests := true, laidLooks := .later }
def SegmentTellsCardSaid : Prop := Claim7.holds Tryd.pinned (.plain (OpenSpec.ofChange segmentTellsSpec)) segmentTellsCard

/-- THE TIED CARD OF 'undercroftlaw13.SegmentOwners'. -/
def segmentOwnersCard : Claim7 := { stood := { row := segmentOwnersRow, standIns := [], harness := (true, "f2c85c601e1e150d4772027c40e4fb505d562f79447aa7bc30557406140f44fc"), looks := false }, kinds := [], alts := [], laidByText := true, laidKinds := [.data, .pinned], laidTests := true, laidLooks := .later }
def SegmentOwnersCardSaid : Prop := Claim7.holds Tryd.pinned (.plain (OpenSpec.ofChange segmentOwnersSpec)) segmentOwnersCard

/-- THE SECOND FORM's CARD OF 'undercroftlaw13.SegmentBack'. -/
def segmentBackUptoCard : Claim7 := { stood := { row := segmentBackUptoRow, standIns := [], harness := (true, "f2c85c601e1e150d4772027c40e4fb505d562f79447aa7bc30557406140f44fc"), looks := false }, kinds := [], alts := [], laidByText := true, laidKinds := [.data, .pinned], laidTests := true, laidLooks := .later }
def SegmentBackUptoCardSaid : Prop := Claim7.holds Tryd.pinned (.plain (OpenSpec.upto segmentBackSpec)) segmentBackUptoCard

/-- THE SECOND FORM's CARD OF 'undercroftlaw13.SegmentRot'. -/
def segmentRotUptoCard : Claim7 := { stood := { row := segmentRotUptoRow, standIns := [], harness := (true, "f2c85c601e1e150d4772027c40e4fb505d562f79447aa7bc30557406140f44fc"), looks := false }, kinds := [], alts := [], laidByText := true, laidKinds := [.data, .pinned], laidTests := true, laidLooks := .later }
def SegmentRotUptoCardSaid : Prop := Claim7.holds Tryd.pinned (.plain (OpenSpec.upto segmentRotSpec)) segmentRotUptoCard

/-- THE SECOND FORM's CARD OF 'undercroftlaw13.SegmentOwn'. -/
def segmentOwnUptoCard : Claim7 := { stood := { row := segmentOwnUptoRow, standIns := [], harness := (true, "f2c85c601e1e150d4772027c40e4fb505d562f79447aa7bc30557406140f44fc"), looks := false }, kinds := [], alts := [], laidByText := true, laidKinds := [.data, .pinned], laidTests := true, laidLooks := .later }
def SegmentOwnUptoCardSaid : Prop := Claim7.holds Tryd.pinned (.plain (OpenSpec.upto segmentOwnSpec)) segmentOwnUptoCard

/-- THE SECOND FORM's CARD OF 'undercroftlaw13.SegmentHolds'. -/
def segmentHoldsUptoCard : Claim7 := { stood := { row := segmentHoldsUptoRow, standIns := [], harness := (true, "f2c85c601e1e150d4772027c40e4fb505d562f79447aa7bc30557406140f44fc"), looks := false }, kinds := [], alts := [], laidByText := true, laidKinds := [.data, .pinned], laidTests := true, laidLooks := .later }
def SegmentHoldsUptoCardSaid : Prop := Claim7.holds Tryd.pinned (.plain (OpenSpec.upto segmentHoldsSpec)) segmentHoldsUptoCard

/-- THE SECOND FORM's CARD OF 'undercroftlaw13.SegmentTells'. -/
def segmentTellsUptoCard : Claim7 := { stood := { row := segmentTellsUptoRow, standIns := [], harness := (true, "f2c85c601e1e150d4772027c40e4fb505d562f79447aa7bc30557406140f44fc"), looks := false }, kinds := [], alts := [], laidByText := true, laidKinds := [.data, .pinned], laidTests := true, laidLooks := .later }
def SegmentTellsUptoCardSaid : Prop := Claim7.holds Tryd.pinned (.plain (OpenSpec.upto segmentTellsSpec)) segmentTellsUptoCard

/-- THE SECOND FORM's CARD OF 'undercroftlaw13.SegmentOwners'. -/
def segmentOwnersUptoCard : Claim7 := { stood := { row := segmentOwnersUptoRow, standIns := [], harness := (true, "f2c85c601e1e150d4772027c40e4fb505d562f79447aa7bc30557406140f44fc"), looks := false }, kinds := [], alts := [], laidByText := true, laidKinds := [.data, .pinned], laidTests := true, laidLooks := .later }
def SegmentOwnersUptoCardSaid : Prop := Claim7.holds Tryd.pinned (.plain (OpenSpec.upto segmentOwnersSpec)) segmentOwnersUptoCard
end Rows
end Go.Proofs.YtokjiinlhghggaaDoor
