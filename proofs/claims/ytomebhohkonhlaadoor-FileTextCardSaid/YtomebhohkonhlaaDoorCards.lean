/-
  DERIVED. GIVEN WITH THE SEED: THE CARDS: each row of YtomebhohkonhlaaDoorRows.lean that lists a variable, with what it lists TIED to the program's text (the seventh form; the later family's looks); each row that meets fmt, with fmt's text TOLD by the authors' own Lean function (tested against real Go, not proved from fmt's source: count such statements apart). THE CARD IS WHAT COUNTS. Prove the row's statement (the work); the ties are given (YtomebhohkonhlaaDoorTie.lean); close each card by the builder's one call (the guide's Derived/Test/ToyasCard.lean, 'card_holds'). Laid BY PROGRAM, IN A SANDBOX (cutbox-door.mjs). By AI agents, Wed Nov 11 2026. No macro, syntax, notation, axiom, sorry.
-/
import Derived.Test.YtomebhohkonhlaaDoorRows
import GoSem.ClaimSeven
namespace Go.Proofs.YtomebhohkonhlaaDoor
namespace Rows

/-- THE TIED CARD OF 'undercroftlaw07.FileOwn'. -/
def fileOwnCard : Claim7 := { stood := { row := fileOwnRow, standIns := [], harness := (true, "0135e2768c553f4df84490bf3f2b2eae03766f5daec41e8c86caa6917a1ac10c"), looks := false }, kinds := [], alts := [], laidByText := true, laidKinds := [.data, .pinned], laidTests := true, laidLooks := .later }
def FileOwnCardSaid : Prop := Claim7.holds Tryd.pinned (.plain (OpenSpec.ofChange fileOwnSpec)) fileOwnCard

/-- THE TIED CARD OF 'undercroftlaw07.FileOne'. -/
def fileOneCard : Claim7 := { stood := { row := fileOneRow, standIns := [], harness := (true, "0135e2768c553f4df84490bf3f2b2eae03766f5daec41e8c86caa6917a1ac10c"), looks := false }, kinds := [], alts := [], laidByText := true, laidKinds := [.data, .pinned], laidTests := true, laidLooks := .later }
def FileOneCardSaid : Prop := Claim7.holds Tryd.pinned (.plain (OpenSpec.ofChange fileOneSpec)) fileOneCard

/-- THE TIED CARD OF 'undercroftlaw07.FileText'. -/
def fileTextCard : Claim7 := { stood := { row := fileTextRow, standIns := [], harness := (true, "0135e2768c553f4df84490bf3f2b2eae03766f5daec41e8c86caa6917a1ac10c"), looks := false }, kinds := [], alts := [], laidByText := true, laidKinds := [.data, .pinned], laidTests := true, laidLooks := .later }
def FileTextCardSaid : Prop := Claim7.holds Tryd.pinned (.plain (OpenSpec.ofChange fileTextSpec)) fileTextCard

/-- THE TIED CARD OF 'undercroftlaw07.FileCut'. -/
def fileCutCard : Claim7 := { stood := { row := fileCutRow, standIns := [], harness := (true, "0135e2768c553f4df84490bf3f2b2eae03766f5daec41e8c86caa6917a1ac10c"), looks := false }, kinds := [], alts := [], laidByText := true, laidKinds := [.data, .pinned], laidTests := true, laidLooks := .later }
def FileCutCardSaid : Prop := Claim7.holds Tryd.pinned (.plain (OpenSpec.ofChange fileCutSpec)) fileCutCard

/-- THE SECOND FORM's CARD OF 'undercroftlaw07.FileOwn'. -/
def fileOwnUptoCard : Claim7 := { stood := { row := fileOwnUptoRow, standIns := [], harness := (true, "0135e2768c553f4df84490bf3f2b2eae03766f5daec41e8c86caa6917a1ac10c"), looks := false }, kinds := [], alts := [], laidByText := true, laidKinds := [.data, .pinned], laidTests := true, laidLooks := .later }
def FileOwnUptoCardSaid : Prop := Claim7.holds Tryd.pinned (.plain (OpenSpec.upto fileOwnSpec)) fileOwnUptoCard

/-- THE SECOND FORM's CARD OF 'undercroftlaw07.FileOne'. -/
def fileOneUptoCard : Claim7 := { stood := { row := fileOneUptoRow, standIns := [], harness := (true, "0135e2768c553f4df84490bf3f2b2eae03766f5daec41e8c86caa6917a1ac10c"), looks := false }, kinds := [], alts := [], laidByText := true, laidKinds := [.data, .pinned], laidTests := true, laidLooks := .later }
def FileOneUptoCardSaid : Prop := Claim7.holds Tryd.pinned (.plain (OpenSpec.upto fileOneSpec)) fileOneUptoCard

/-- THE SECOND FORM's CARD OF 'undercroftlaw07.FileText'. -/
def fileTextUptoCard : Claim7 := { stood := { row := fileTextUptoRow, standIns := [], harness := (true, "0135e2768c553f4df84490bf3f2b2eae03766f5daec41e8c86caa6917a1ac10c"), looks := false }, kinds := [], alts := [], laidByText := true, laidKinds := [.data, .pinned], laidTests := true, laidLooks := .later }
def FileTextUptoCardSaid : Prop := Claim7.holds Tryd.pinned (.plain (OpenSpec.upto fileTextSpec)) fileTextUptoCard

/-- THE SECOND FORM's CARD OF 'undercroftlaw07.FileCut'. -/
def fileCutUptoCard : Claim7 := { stood := { row := fileCutUptoRow, standIns := [], harness := (true, "0135e2768c553f4df84490bf3f2b2eae03766f5daec41e8c86caa6917a1ac10c"), looks := false }, kinds := [], alts := [], laidByText := true, laidKinds := [.data, .pinned], laidTests := true, laidLooks := .later }
def FileCutUptoCardSaid : Prop := Claim7.holds Tryd.pinned (.plain (OpenSpec.upto fileCutSpec)) fileCutUptoCard
end Rows
end Go.Proofs.YtomebhohkonhlaaDoor
