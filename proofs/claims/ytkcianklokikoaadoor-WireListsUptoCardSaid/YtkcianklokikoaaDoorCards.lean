/-
  DERIVED. GIVEN WITH THE SEED: THE CARDS: each row of YtkcianklokikoaaDoorRows.lean that lists a variable, with what it lists TIED to the program's text (the seventh form; the later family's looks); each row that meets fmt, with fmt's text TOLD by the authors' own Lean function (tested against real Go, not proved from fmt's source: count such statements apart). THE CARD IS WHAT COUNTS. Prove the row's statement (the work); the ties are given (YtkcianklokikoaaDoorTie.lean); close each card by the builder's one call (the guide's Derived/Test/ToyasCard.lean, 'card_holds'). Laid BY PROGRAM, IN A SANDBOX (cutbox-door.mjs). By AI agents, Wed Nov 11 2026. No macro, syntax, notation, axiom, sorry.
-/
import Derived.Test.YtkcianklokikoaaDoorRows
import GoSem.ClaimSeven
namespace Go.Proofs.YtkcianklokikoaaDoor
namespace Rows

/-- THE TIED CARD OF 'undercroftlaw05.WireLists'. -/
def wireListsCard : Claim7 := { stood := { row := wireListsRow, standIns := [], harness := (true, "ddde7bf72dbca89637f10381b18d61d0b5a477ad712509ba66b2a4af445bbf09"), looks := true }, kinds := [], alts := [], laidByText := true, laidKinds := [.handle], laidTests := true, laidLooks := .later }
def WireListsCardSaid : Prop := Claim7.holds Tryd.pinned (.plain (OpenSpec.ofChange wireListsSpec)) wireListsCard

/-- THE TIED CARD OF 'undercroftlaw05.WireSplits'. -/
def wireSplitsCard : Claim7 := { stood := { row := wireSplitsRow, standIns := [], harness := (true, "ddde7bf72dbca89637f10381b18d61d0b5a477ad712509ba66b2a4af445bbf09"), looks := true }, kinds := [], alts := [], laidByText := true, laidKinds := [.handle], laidTests := true, laidLooks := .later }
def WireSplitsCardSaid : Prop := Claim7.holds Tryd.pinned (.plain (OpenSpec.ofChange wireSplitsSpec)) wireSplitsCard

/-- THE TIED CARD OF 'undercroftlaw05.WireBack'. -/
def wireBackCard : Claim7 := { stood := { row := wireBackRow, standIns := [], harness := (true, "ddde7bf72dbca89637f10381b18d61d0b5a477ad712509ba66b2a4af445bbf09"), looks := true }, kinds := [], alts := [], laidByText := true, laidKinds := [.handle], laidTests := true, laidLooks := .later }
def WireBackCardSaid : Prop := Claim7.holds Tryd.pinned (.plain (OpenSpec.ofChange wireBackSpec)) wireBackCard

/-- THE TIED CARD OF 'undercroftlaw05.WireNumbers'. -/
def wireNumbersCard : Claim7 := { stood := { row := wireNumbersRow, standIns := [], harness := (true, "ddde7bf72dbca89637f10381b18d61d0b5a477ad712509ba66b2a4af445bbf09"), looks := true }, kinds := [], alts := [], laidByText := true, laidKinds := [.handle], laidTests := true, laidLooks := .later }
def WireNumbersCardSaid : Prop := Claim7.holds Tryd.pinned (.plain (OpenSpec.ofChange wireNumbersSpec)) wireNumbersCard

/-- THE TIED CARD OF 'undercroftlaw05.WireRot'. -/
def wireRotCard : Claim7 := { stood := { row := wireRotRow, standIns := [], harness := (true, "ddde7bf72dbca89637f10381b18d61d0b5a477ad712509ba66b2a4af445bbf09"), looks := true }, kinds := [], alts := [], laidByText := true, laidKinds := [.handle], laidTests := true, laidLooks := .later }
def WireRotCardSaid : Prop := Claim7.holds Tryd.pinned (.plain (OpenSpec.ofChange wireRotSpec)) wireRotCard

/-- THE TIED CARD OF 'undercroftlaw05.WireOwn'. -/
def wireOwnCard : Claim7 := { stood := { row := wireOwnRow, standIns := [], harness := (true, "ddde7bf72dbca89637f10381b18d61d0b5a477ad712509ba66b2a4af445bbf09"), looks := true }, kinds := [], alts := [], laidByText := true, laidKinds := [.handle], laidTests := true, laidLooks := .later }
def WireOwnCardSaid : Prop := Claim7.holds Tryd.pinned (.plain (OpenSpec.ofChange wireOwnSpec)) wireOwnCard

/-- THE SECOND FORM's CARD OF 'undercroftlaw05.WireLists'. -/
def wireListsUptoCard : Claim7 := { stood := { row := wireListsUptoRow, standIns := [], harness := (true, "ddde7bf72dbca89637f10381b18d61d0b5a477ad712509ba66b2a4af445bbf09"), looks := true }, kinds := [], alts := [], laidByText := true, laidKinds := [.handle], laidTests := true, laidLooks := .later }
def WireListsUptoCardSaid : Prop := Claim7.holds Tryd.pinned (.plain (OpenSpec.upto wireListsSpec)) wireListsUptoCard

/-- THE SECOND FORM's CARD OF 'undercroftlaw05.WireSplits'. -/
def wireSplitsUptoCard : Claim7 := { stood := { row := wireSplitsUptoRow, standIns := [], harness := (true, "ddde7bf72dbca89637f10381b18d61d0b5a477ad712509ba66b2a4af445bbf09"), looks := true }, kinds := [], alts := [], laidByText := true, laidKinds := [.handle], laidTests := true, laidLooks := .later }
def WireSplitsUptoCardSaid : Prop := Claim7.holds Tryd.pinned (.plain (OpenSpec.upto wireSplitsSpec)) wireSplitsUptoCard

/-- THE SECOND FORM's CARD OF 'undercroftlaw05.WireBack'. -/
def wireBackUptoCard : Claim7 := { stood := { row := wireBackUptoRow, standIns := [], harness := (true, "ddde7bf72dbca89637f10381b18d61d0b5a477ad712509ba66b2a4af445bbf09"), looks := true }, kinds := [], alts := [], laidByText := true, laidKinds := [.handle], laidTests := true, laidLooks := .later }
def WireBackUptoCardSaid : Prop := Claim7.holds Tryd.pinned (.plain (OpenSpec.upto wireBackSpec)) wireBackUptoCard

/-- THE SECOND FORM's CARD OF 'undercroftlaw05.WireNumbers'. -/
def wireNumbersUptoCard : Claim7 := { stood := { row := wireNumbersUptoRow, standIns := [], harness := (true, "ddde7bf72dbca89637f10381b18d61d0b5a477ad712509ba66b2a4af445bbf09"), looks := true }, kinds := [], alts := [], laidByText := true, laidKinds := [.handle], laidTests := true, laidLooks := .later }
def WireNumbersUptoCardSaid : Prop := Claim7.holds Tryd.pinned (.plain (OpenSpec.upto wireNumbersSpec)) wireNumbersUptoCard

/-- THE SECOND FORM's CARD OF 'undercroftlaw05.WireRot'. -/
def wireRotUptoCard : Claim7 := { stood := { row := wireRotUptoRow, standIns := [], harness := (true, "ddde7bf72dbca89637f10381b18d61d0b5a477ad712509ba66b2a4af445bbf09"), looks := true }, kinds := [], alts := [], laidByText := true, laidKinds := [.handle], laidTests := true, laidLooks := .later }
def WireRotUptoCardSaid : Prop := Claim7.holds Tryd.pinned (.plain (OpenSpec.upto wireRotSpec)) wireRotUptoCard

/-- THE SECOND FORM's CARD OF 'undercroftlaw05.WireOwn'. -/
def wireOwnUptoCard : Claim7 := { stood := { row := wireOwnUptoRow, standIns := [], harness := (true, "ddde7bf72dbca89637f10381b18d61d0b5a477ad712509ba66b2a4af445bbf09"), looks := true }, kinds := [], alts := [], laidByText := true, laidKinds := [.handle], laidTests := true, laidLooks := .later }
def WireOwnUptoCardSaid : Prop := Claim7.holds Tryd.pinned (.plain (OpenSpec.upto wireOwnSpec)) wireOwnUptoCard
end Rows
end Go.Proofs.YtkcianklokikoaaDoor
