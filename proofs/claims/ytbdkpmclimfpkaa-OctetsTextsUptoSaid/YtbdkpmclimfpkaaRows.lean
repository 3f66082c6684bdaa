/-
  No cell of these rows narrows 'for every input' (looked for: loops, veiled, ifaces, maps, wideKeys, modest, calm, conditions, laid).
  DERIVED. THE GIVEN ROWS OF THIS SEAT. 4 by the template 'for every input the law returns true; each argument reads behind the call as it read before'; 0 by the template 'total and deterministic' (their statements: YtbdkpmclimfpkaaTotals.lean).
  GIVEN WITH THE SEED: the statements are not yours to turn. If you find one false, say at which input.
  Laid BY PROGRAM, IN A SANDBOX (cutbox-rows.mjs): the forced cells as the released guide's own fill.sh prints them over the translation 7e2b5d241eaf68f7… (all of the seat's roots in one cut). By AI agents, Wed Nov 11 2026. No macro, syntax, notation, axiom, sorry.
-/
import Derived.Test.YtbdkpmclimfpkaaChecked
import GoSem.Claim
import GoSem.ClaimJoined
import GoSem.ClaimMapViews
import Derived.JoinedTies
import Derived.KernelRfl
namespace Go.Proofs.Ytbdkpmclimfpkaa
/- THE CELL 'sum', in the pinned program and in every row, IS THE sha256 OF THE DUMP (.gsa) THAT YtbdkpmclimfpkaaProg.lean LOADS. Nothing in Lean hashes anything: it is a label: what it is worth is what the hold of that sum in a sandbox is worth. -/
noncomputable def Try.pinned : Pinned := { name := "ytbdkpmclimfpkaa", sum := "7e2b5d241eaf68f72a2424a3b1cdabf53ffc9aae9838ba4392279e4115e4c6a7", checked := Try.checked }
namespace Rows
def none {H : Type} : Left H := { results := [], args := [] }

/-- 'undercroftlaw01.OctetsOrder': WHATEVER THE INPUT: true; the input reads as it did. -/
def octetsOrderSpec : ChangeSpec := { name := "octetsOrder", fn := fun _ => fun
  | [d1, d2, d3] => { results := [.lit (.bool true)], args := [d1, d2, d3] }
  | _ => none }
def octetsOrderRow : OpenClaim := { program := "ytbdkpmclimfpkaa", sum := "7e2b5d241eaf68f72a2424a3b1cdabf53ffc9aae9838ba4392279e4115e4c6a7", func := "undercroft/undercroftlaw01.OctetsOrder", spec := "octetsOrder", unfollowed := true, recurses := true, apart := false }
def OctetsOrderSaid : Prop := octetsOrderRow.holds Try.pinned (OpenSpec.ofChange octetsOrderSpec)

/-- ITS FALSE NEIGHBOUR: 'it returns false'. Refute it at one input. -/
def octetsOrderWrong : ChangeSpec := { name := "octetsOrder", fn := fun _ => fun
  | [d1, d2, d3] => { results := [.lit (.bool false)], args := [d1, d2, d3] }
  | _ => none }
def OctetsOrderWrongFalsely : Prop := octetsOrderRow.holds Try.pinned (OpenSpec.ofChange octetsOrderWrong)

/-- 'undercroftlaw01.OctetsDigits': WHATEVER THE INPUT: true; the input reads as it did. -/
def octetsDigitsSpec : ChangeSpec := { name := "octetsDigits", fn := fun _ => fun
  | [d] => { results := [.lit (.bool true)], args := [d] }
  | _ => none }
def octetsDigitsRow : OpenClaim := { program := "ytbdkpmclimfpkaa", sum := "7e2b5d241eaf68f72a2424a3b1cdabf53ffc9aae9838ba4392279e4115e4c6a7", func := "undercroft/undercroftlaw01.OctetsDigits", spec := "octetsDigits", unfollowed := true, recurses := true, apart := false }
def OctetsDigitsSaid : Prop := octetsDigitsRow.holds Try.pinned (OpenSpec.ofChange octetsDigitsSpec)

/-- ITS FALSE NEIGHBOUR: 'it returns false'. Refute it at one input. -/
def octetsDigitsWrong : ChangeSpec := { name := "octetsDigits", fn := fun _ => fun
  | [d] => { results := [.lit (.bool false)], args := [d] }
  | _ => none }
def OctetsDigitsWrongFalsely : Prop := octetsDigitsRow.holds Try.pinned (OpenSpec.ofChange octetsDigitsWrong)

/-- 'undercroftlaw01.OctetsOwn': WHATEVER THE INPUT: true; the input reads as it did. -/
def octetsOwnSpec : ChangeSpec := { name := "octetsOwn", fn := fun _ => fun
  | [d1, d2] => { results := [.lit (.bool true)], args := [d1, d2] }
  | _ => none }
def octetsOwnRow : OpenClaim := { program := "ytbdkpmclimfpkaa", sum := "7e2b5d241eaf68f72a2424a3b1cdabf53ffc9aae9838ba4392279e4115e4c6a7", func := "undercroft/undercroftlaw01.OctetsOwn", spec := "octetsOwn", unfollowed := true, recurses := true, apart := false }
def OctetsOwnSaid : Prop := octetsOwnRow.holds Try.pinned (OpenSpec.ofChange octetsOwnSpec)

/-- ITS FALSE NEIGHBOUR: 'it returns false'. Refute it at one input. -/
def octetsOwnWrong : ChangeSpec := { name := "octetsOwn", fn := fun _ => fun
  | [d1, d2] => { results := [.lit (.bool false)], args := [d1, d2] }
  | _ => none }
def OctetsOwnWrongFalsely : Prop := octetsOwnRow.holds Try.pinned (OpenSpec.ofChange octetsOwnWrong)

/-- 'undercroftlaw01.OctetsTexts': WHATEVER THE INPUT: true; the input reads as it did. -/
def octetsTextsSpec : ChangeSpec := { name := "octetsTexts", fn := fun _ => fun
  | [d1, d2, d3] => { results := [.lit (.bool true)], args := [d1, d2, d3] }
  | _ => none }
def octetsTextsRow : OpenClaim := { program := "ytbdkpmclimfpkaa", sum := "7e2b5d241eaf68f72a2424a3b1cdabf53ffc9aae9838ba4392279e4115e4c6a7", func := "undercroft/undercroftlaw01.OctetsTexts", spec := "octetsTexts", unfollowed := true, recurses := true, apart := false }
def OctetsTextsSaid : Prop := octetsTextsRow.holds Try.pinned (OpenSpec.ofChange octetsTextsSpec)

/-- ITS FALSE NEIGHBOUR: 'it returns false'. Refute it at one input. -/
def octetsTextsWrong : ChangeSpec := { name := "octetsTexts", fn := fun _ => fun
  | [d1, d2, d3] => { results := [.lit (.bool false)], args := [d1, d2, d3] }
  | _ => none }
def OctetsTextsWrongFalsely : Prop := octetsTextsRow.holds Try.pinned (OpenSpec.ofChange octetsTextsWrong)

/- THE SECOND FORM. 'bulk': how many values and letters a reading holds, each counted each time it is reached (what is shared counts as often as it is met; a slice's spare places count too). A statement '..UptoSaid' is the law's where the arguments, and the package variables that the reading takes, are together of bulk at most 1048576: NARROWER than '..Said'. Prove '..Said' where nothing that the law and all that it calls make is longer than what came in: it says more and counts as full. Else prove '..UptoSaid'. A law counts once. -/
mutual
def uptoBulk {H : Type} : DataW H → Nat
  | .lit (.string bytes) => bytes.length + 1
  | .lit _ => 1
  | .nil => 1
  | .ptr d => uptoBulk d + 1
  | .slice elems spare => uptoBulkAll elems + uptoBulkAll spare + 1
  | .agg parts => uptoBulkAll parts + 1
  | .iface _ d => uptoBulk d + 1
  | .map entries => uptoBulkEntries entries + 1
  | .held _ => 1
def uptoBulkAll {H : Type} : List (DataW H) → Nat
  | [] => 0
  | d :: r => uptoBulk d + uptoBulkAll r
def uptoBulkEntries {H : Type} : List (Lit × DataW H) → Nat
  | [] => 0
  | x :: r => uptoBulkEntry x + uptoBulkEntries r
def uptoBulkEntry {H : Type} : Lit × DataW H → Nat
  | (.string bytes, d) => bytes.length + uptoBulk d + 1
  | (_, d) => uptoBulk d + 1
 end
def uptoSmall : (H : Type) → List (DataW H) → Bool := fun _ ds => decide (uptoBulkAll ds ≤ 1048576)
def OpenSpec.upto (s : _root_.Go.ChangeSpec) : _root_.Go.OpenSpec := { _root_.Go.OpenSpec.ofChange s with cond := some uptoSmall }

/-- 'undercroftlaw01.OctetsOrder', WHERE WHAT IT READS IS OF BULK AT MOST 1048576: true; the input reads as it did. -/
def octetsOrderUptoRow : OpenClaim := { program := "ytbdkpmclimfpkaa", sum := "7e2b5d241eaf68f72a2424a3b1cdabf53ffc9aae9838ba4392279e4115e4c6a7", func := "undercroft/undercroftlaw01.OctetsOrder", spec := "octetsOrder", unfollowed := true, recurses := true, apart := false, narrowed := true }
def OctetsOrderUptoSaid : Prop := octetsOrderUptoRow.holds Try.pinned (OpenSpec.upto octetsOrderSpec)

/-- 'undercroftlaw01.OctetsDigits', WHERE WHAT IT READS IS OF BULK AT MOST 1048576: true; the input reads as it did. -/
def octetsDigitsUptoRow : OpenClaim := { program := "ytbdkpmclimfpkaa", sum := "7e2b5d241eaf68f72a2424a3b1cdabf53ffc9aae9838ba4392279e4115e4c6a7", func := "undercroft/undercroftlaw01.OctetsDigits", spec := "octetsDigits", unfollowed := true, recurses := true, apart := false, narrowed := true }
def OctetsDigitsUptoSaid : Prop := octetsDigitsUptoRow.holds Try.pinned (OpenSpec.upto octetsDigitsSpec)

/-- 'undercroftlaw01.OctetsOwn', WHERE WHAT IT READS IS OF BULK AT MOST 1048576: true; the input reads as it did. -/
def octetsOwnUptoRow : OpenClaim := { program := "ytbdkpmclimfpkaa", sum := "7e2b5d241eaf68f72a2424a3b1cdabf53ffc9aae9838ba4392279e4115e4c6a7", func := "undercroft/undercroftlaw01.OctetsOwn", spec := "octetsOwn", unfollowed := true, recurses := true, apart := false, narrowed := true }
def OctetsOwnUptoSaid : Prop := octetsOwnUptoRow.holds Try.pinned (OpenSpec.upto octetsOwnSpec)

/-- 'undercroftlaw01.OctetsTexts', WHERE WHAT IT READS IS OF BULK AT MOST 1048576: true; the input reads as it did. -/
def octetsTextsUptoRow : OpenClaim := { program := "ytbdkpmclimfpkaa", sum := "7e2b5d241eaf68f72a2424a3b1cdabf53ffc9aae9838ba4392279e4115e4c6a7", func := "undercroft/undercroftlaw01.OctetsTexts", spec := "octetsTexts", unfollowed := true, recurses := true, apart := false, narrowed := true }
def OctetsTextsUptoSaid : Prop := octetsTextsUptoRow.holds Try.pinned (OpenSpec.upto octetsTextsSpec)

end Rows
end Go.Proofs.Ytbdkpmclimfpkaa
