/-
  DERIVED. GIVEN WITH THE SEED: THE CARDS: each row of YtiglgckhikipeaaDoorRows.lean that lists a variable, with what it lists TIED to the program's text (the seventh form; the later family's looks); each row that meets fmt, with fmt's text TOLD by the authors' own Lean function (tested against real Go, not proved from fmt's source: count such statements apart). THE CARD IS WHAT COUNTS. Prove the row's statement (the work); the ties are given (YtiglgckhikipeaaDoorTie.lean); close each card by the builder's one call (the guide's Derived/Test/ToyasCard.lean, 'card_holds'). Laid BY PROGRAM, IN A SANDBOX (cutbox-door.mjs). By AI agents, Wed Nov 11 2026. No macro, syntax, notation, axiom, sorry.
-/
import Derived.Test.YtiglgckhikipeaaDoorRows
import GoSem.ClaimSeven
namespace Go.Proofs.YtiglgckhikipeaaDoor
namespace Rows

/-- THE TIED CARD OF 'undercroftlaw08.DirOctets'. -/
def dirOctetsCard : Claim7 := { stood := { row := dirOctetsRow, standIns := [], harness := (true, "9397e748a7168d9f0878ce1334718167ce724f48dc1448cfc8b38e40fa0aedd7"), looks := false }, kinds := [], alts := [], laidByText := true, laidKinds := [.data, .pinned], laidTests := true, laidLooks := .later }
def DirOctetsCardSaid : Prop := Claim7.holds Tryd.pinned (.plain (OpenSpec.ofChange dirOctetsSpec)) dirOctetsCard

/-- THE TIED CARD OF 'undercroftlaw08.DirBack'. -/
def dirBackCard : Claim7 := { stood := { row := dirBackRow, standIns := [], harness := (true, "9397e748a7168d9f0878ce1334718167ce724f48dc1448cfc8b38e40fa0aedd7"), looks := false }, kinds := [], alts := [], laidByText := true, laidKinds := [.data, .pinned], laidTests := true, laidLooks := .later }
def DirBackCardSaid : Prop := Claim7.holds Tryd.pinned (.plain (OpenSpec.ofChange dirBackSpec)) dirBackCard

/-- THE SECOND FORM's CARD OF 'undercroftlaw08.DirOctets'. -/
def dirOctetsUptoCard : Claim7 := { stood := { row := dirOctetsUptoRow, standIns := [], harness := (true, "9397e748a7168d9f0878ce1334718167ce724f48dc1448cfc8b38e40fa0aedd7"), looks := false }, kinds := [], alts := [], laidByText := true, laidKinds := [.data, .pinned], laidTests := true, laidLooks := .later }
def DirOctetsUptoCardSaid : Prop := Claim7.holds Tryd.pinned (.plain (OpenSpec.upto dirOctetsSpec)) dirOctetsUptoCard

/-- THE SECOND FORM's CARD OF 'undercroftlaw08.DirBack'. -/
def dirBackUptoCard : Claim7 := { stood := { row := dirBackUptoRow, standIns := [], harness := (true, "9397e748a7168d9f0878ce1334718167ce724f48dc1448cfc8b38e40fa0aedd7"), looks := false }, kinds := [], alts := [], laidByText := true, laidKinds := [.data, .pinned], laidTests := true, laidLooks := .later }
def DirBackUptoCardSaid : Prop := Claim7.holds Tryd.pinned (.plain (OpenSpec.upto dirBackSpec)) dirBackUptoCard
end Rows
end Go.Proofs.YtiglgckhikipeaaDoor
