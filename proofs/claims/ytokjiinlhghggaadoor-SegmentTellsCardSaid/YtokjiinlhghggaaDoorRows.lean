/-
  NARROWER THAN 'FOR EVERY INPUT', by the rows' own cells (each row's printed sentence says how): SegmentBack: laid · SegmentRot: laid · SegmentOwn: laid · SegmentHolds: laid · SegmentTells: laid · SegmentOwners: laid.
  DERIVED. THE GIVEN ROWS OF THIS SEAT. 6 by the template 'for every input the law returns true; each argument reads behind the call as it read before'; 0 by the template 'total and deterministic' (their statements: YtokjiinlhghggaaDoorTotals.lean).
  GIVEN WITH THE SEED: the statements are not yours to turn. If you find one false, say at which input.
  Laid BY PROGRAM, IN A SANDBOX (cutbox-rows.mjs): the forced cells as the released guide's own fill.sh prints them over the translation e56c2bbc6cdbc8c6… (all of the seat's roots in one cut). By AI agents, Wed Nov 11 2026. No macro, syntax, notation, axiom, sorry.
-/
import Derived.Test.YtokjiinlhghggaaDoorChecked
import GoSem.PinnedTables
import GoSem.Claim
import GoSem.ClaimJoined
import GoSem.ClaimMapViews
import Derived.JoinedTies
import Derived.KernelRfl
namespace Go.Proofs.YtokjiinlhghggaaDoor
/- THE CELL 'sum', in the pinned program and in every row, IS THE sha256 OF THE DUMP (.gsa) THAT YtokjiinlhghggaaDoorProg.lean LOADS. Nothing in Lean hashes anything: it is a label: what it is worth is what the hold of that sum in a sandbox is worth. -/
noncomputable def Tryd.pinned : Pinned := { name := "ytokjiinlhghggaadoor", sum := "e56c2bbc6cdbc8c67a554c29fa04af439dfe4c809a0f0c43809956fc57fe9f98", checked := Tryd.checked }
namespace Rows
def none {H : Type} : Left H := { results := [], args := [] }

/- WHAT THE LISTED PACKAGE-LEVEL VARIABLES READ AS WHEN THE CALL BEGINS. Each datum BY PROGRAM (the guide's laid-datum.mjs) off the statement by which the dump's own 'gosem.cut.vars' lays the variable. In a bare row this is a premise. The card (YtokjiinlhghggaaDoorCards.lean) ties it to the program's text. -/
def laid_unicode_utf8_acceptRanges {H : Type} : DataW H := .agg [.agg [.lit (.int .u8 128), .lit (.int .u8 191)], .agg [.lit (.int .u8 160), .lit (.int .u8 191)], .agg [.lit (.int .u8 128), .lit (.int .u8 159)], .agg [.lit (.int .u8 144), .lit (.int .u8 191)], .agg [.lit (.int .u8 128), .lit (.int .u8 143)], .agg [.lit (.int .u8 0), .lit (.int .u8 0)], .agg [.lit (.int .u8 0), .lit (.int .u8 0)], .agg [.lit (.int .u8 0), .lit (.int .u8 0)], .agg [.lit (.int .u8 0), .lit (.int .u8 0)], .agg [.lit (.int .u8 0), .lit (.int .u8 0)], .agg [.lit (.int .u8 0), .lit (.int .u8 0)], .agg [.lit (.int .u8 0), .lit (.int .u8 0)], .agg [.lit (.int .u8 0), .lit (.int .u8 0)], .agg [.lit (.int .u8 0), .lit (.int .u8 0)], .agg [.lit (.int .u8 0), .lit (.int .u8 0)], .agg [.lit (.int .u8 0), .lit (.int .u8 0)]]
/-- One of Go's own tables, pinned by name: the form's constant. -/
def laid_unicode_utf8_first : DataW Unit := Go.Pinned.utf8First

/-- 'undercroftlaw13.SegmentBack': WHATEVER THE INPUT: true; the input reads as it did. -/
def segmentBackSpec : ChangeSpec := { name := "segmentBack", fn := fun _ => fun
  | [d1, d2] => { results := [.lit (.bool true)], args := [d1, d2] }
  | _ => none }
def segmentBackRow : OpenClaim := { program := "ytokjiinlhghggaadoor", sum := "e56c2bbc6cdbc8c67a554c29fa04af439dfe4c809a0f0c43809956fc57fe9f98", func := "undercroft/undercroftlaw13.SegmentBack", spec := "segmentBack", unfollowed := true, recurses := true, named := ["unicode/utf8.first", "unicode/utf8.acceptRanges"], apart := false, laid := [("unicode/utf8.acceptRanges", laid_unicode_utf8_acceptRanges), ("unicode/utf8.first", laid_unicode_utf8_first)] }
def SegmentBackSaid : Prop := segmentBackRow.holds Tryd.pinned (OpenSpec.ofChange segmentBackSpec)

/-- ITS FALSE NEIGHBOUR: 'it returns false'. Refute it at one input. -/
def segmentBackWrong : ChangeSpec := { name := "segmentBack", fn := fun _ => fun
  | [d1, d2] => { results := [.lit (.bool false)], args := [d1, d2] }
  | _ => none }
def SegmentBackWrongFalsely : Prop := segmentBackRow.holds Tryd.pinned (OpenSpec.ofChange segmentBackWrong)

/-- 'undercroftlaw13.SegmentRot': WHATEVER THE INPUT: true; the input reads as it did. -/
def segmentRotSpec : ChangeSpec := { name := "segmentRot", fn := fun _ => fun
  | [d1, d2, d3] => { results := [.lit (.bool true)], args := [d1, d2, d3] }
  | _ => none }
def segmentRotRow : OpenClaim := { program := "ytokjiinlhghggaadoor", sum := "e56c2bbc6cdbc8c67a554c29fa04af439dfe4c809a0f0c43809956fc57fe9f98", func := "undercroft/undercroftlaw13.SegmentRot", spec := "segmentRot", unfollowed := true, recurses := true, named := ["unicode/utf8.first", "unicode/utf8.acceptRanges"], apart := false, laid := [("unicode/utf8.acceptRanges", laid_unicode_utf8_acceptRanges), ("unicode/utf8.first", laid_unicode_utf8_first)] }
def SegmentRotSaid : Prop := segmentRotRow.holds Tryd.pinned (OpenSpec.ofChange segmentRotSpec)

/-- ITS FALSE NEIGHBOUR: 'it returns false'. Refute it at one input. -/
def segmentRotWrong : ChangeSpec := { name := "segmentRot", fn := fun _ => fun
  | [d1, d2, d3] => { results := [.lit (.bool false)], args := [d1, d2, d3] }
  | _ => none }
def SegmentRotWrongFalsely : Prop := segmentRotRow.holds Tryd.pinned (OpenSpec.ofChange segmentRotWrong)

/-- 'undercroftlaw13.SegmentOwn': WHATEVER THE INPUT: true; the input reads as it did. -/
def segmentOwnSpec : ChangeSpec := { name := "segmentOwn", fn := fun _ => fun
  | [d] => { results := [.lit (.bool true)], args := [d] }
  | _ => none }
def segmentOwnRow : OpenClaim := { program := "ytokjiinlhghggaadoor", sum := "e56c2bbc6cdbc8c67a554c29fa04af439dfe4c809a0f0c43809956fc57fe9f98", func := "undercroft/undercroftlaw13.SegmentOwn", spec := "segmentOwn", unfollowed := true, recurses := true, named := ["unicode/utf8.first", "unicode/utf8.acceptRanges"], apart := false, laid := [("unicode/utf8.acceptRanges", laid_unicode_utf8_acceptRanges), ("unicode/utf8.first", laid_unicode_utf8_first)] }
def SegmentOwnSaid : Prop := segmentOwnRow.holds Tryd.pinned (OpenSpec.ofChange segmentOwnSpec)

/-- ITS FALSE NEIGHBOUR: 'it returns false'. Refute it at one input. -/
def segmentOwnWrong : ChangeSpec := { name := "segmentOwn", fn := fun _ => fun
  | [d] => { results := [.lit (.bool false)], args := [d] }
  | _ => none }
def SegmentOwnWrongFalsely : Prop := segmentOwnRow.holds Tryd.pinned (OpenSpec.ofChange segmentOwnWrong)

/-- 'undercroftlaw13.SegmentHolds': WHATEVER THE INPUT: true; the input reads as it did. -/
def segmentHoldsSpec : ChangeSpec := { name := "segmentHolds", fn := fun _ => fun
  | [d1, d2] => { results := [.lit (.bool true)], args := [d1, d2] }
  | _ => none }
def segmentHoldsRow : OpenClaim := { program := "ytokjiinlhghggaadoor", sum := "e56c2bbc6cdbc8c67a554c29fa04af439dfe4c809a0f0c43809956fc57fe9f98", func := "undercroft/undercroftlaw13.SegmentHolds", spec := "segmentHolds", unfollowed := true, recurses := true, named := ["unicode/utf8.first", "unicode/utf8.acceptRanges"], apart := false, laid := [("unicode/utf8.acceptRanges", laid_unicode_utf8_acceptRanges), ("unicode/utf8.first", laid_unicode_utf8_first)] }
def SegmentHoldsSaid : Prop := segmentHoldsRow.holds Tryd.pinned (OpenSpec.ofChange segmentHoldsSpec)

/-- ITS FALSE NEIGHBOUR: 'it returns false'. Refute it at one input. -/
def segmentHoldsWrong : ChangeSpec := { name := "segmentHolds", fn := fun _ => fun
  | [d1, d2] => { results := [.lit (.bool false)], args := [d1, d2] }
  | _ => none }
def SegmentHoldsWrongFalsely : Prop := segmentHoldsRow.holds Tryd.pinned (OpenSpec.ofChange segmentHoldsWrong)

/-- 'undercroftlaw13.SegmentTells': WHATEVER THE INPUT: true; the input reads as it did. -/
def segmentTellsSpec : ChangeSpec := { name := "segmentTells", fn := fun _ => fun
  | [d1, d2] => { results := [.lit (.bool true)], args := [d1, d2] }
  | _ => none }
def segmentTellsRow : OpenClaim := { program := "ytokjiinlhghggaadoor", sum := "e56c2bbc6cdbc8c67a554c29fa04af439dfe4c809a0f0c43809956fc57fe9f98", func := "undercroft/undercroftlaw13.SegmentTells", spec := "segmentTells", unfollowed := true, recurses := true, named := ["unicode/utf8.first", "unicode/utf8.acceptRanges"], apart := false, laid := [("unicode/utf8.acceptRanges", laid_unicode_utf8_acceptRanges), ("unicode/utf8.first", laid_unicode_utf8_first)] }
def SegmentTellsSaid : Prop := segmentTellsRow.holds Tryd.pinned (OpenSpec.ofChange segmentTellsSpec)

/-- ITS FALSE NEIGHBOUR: 'it returns false'. Refute it at one input. -/
def segmentTellsWrong : ChangeSpec := { name := "segmentTells", fn := fun _ => fun
  | [d1, d2] => { results := [.lit (.bool false)], args := [d1, d2] }
  | _ => none }
def SegmentTellsWrongFalsely : Prop := segmentTellsRow.holds Tryd.pinned (OpenSpec.ofChange segmentTellsWrong)

/-- 'undercroftlaw13.SegmentOwners': WHATEVER THE INPUT: true; the input reads as it did. -/
def segmentOwnersSpec : ChangeSpec := { name := "segmentOwners", fn := fun _ => fun
  | [d] => { results := [.lit (.bool true)], args := [d] }
  | _ => none }
def segmentOwnersRow : OpenClaim := { program := "ytokjiinlhghggaadoor", sum := "e56c2bbc6cdbc8c67a554c29fa04af439dfe4c809a0f0c43809956fc57fe9f98", func := "undercroft/undercroftlaw13.SegmentOwners", spec := "segmentOwners", unfollowed := true, recurses := true, named := ["unicode/utf8.first", "unicode/utf8.acceptRanges"], apart := false, laid := [("unicode/utf8.acceptRanges", laid_unicode_utf8_acceptRanges), ("unicode/utf8.first", laid_unicode_utf8_first)] }
def SegmentOwnersSaid : Prop := segmentOwnersRow.holds Tryd.pinned (OpenSpec.ofChange segmentOwnersSpec)

/-- ITS FALSE NEIGHBOUR: 'it returns false'. Refute it at one input. -/
def segmentOwnersWrong : ChangeSpec := { name := "segmentOwners", fn := fun _ => fun
  | [d] => { results := [.lit (.bool false)], args := [d] }
  | _ => none }
def SegmentOwnersWrongFalsely : Prop := segmentOwnersRow.holds Tryd.pinned (OpenSpec.ofChange segmentOwnersWrong)

/- THE SECOND FORM. 'bulk': how many values and letters a reading holds, each counted each time it is reached (what is shared counts as often as it is met; a slice's spare places count too). A statement '..UptoSaid' is the law's where the arguments, and the package variables that the reading takes, are together of bulk at most 1048576: NARROWER than '..Said'. Prove '..Said' where nothing that the law and all that it calls make is longer than what came in: it says more and counts as full. Else prove '..UptoSaid'. A law counts once. -/
mutual
def uptoBulk {H : Type} : DataW H → Nat
  | .lit (.string bytes) => bytes.length + 1
  | .lit _ => 1
  | .nil => 1
  | .ptr d => uptoBulk d + 1
  | .slice elems spare => uptoBulkAll elems + uptoBulkAll spare + 1
  | .agg parts => uptoBulkAll parts + 1
  | .iface _ d => uptoBulk d + 1
  | .map entries => uptoBulkEntries entries + 1
  | .held _ => 1
def uptoBulkAll {H : Type} : List (DataW H) → Nat
  | [] => 0
  | d :: r => uptoBulk d + uptoBulkAll r
def uptoBulkEntries {H : Type} : List (Lit × DataW H) → Nat
  | [] => 0
  | x :: r => uptoBulkEntry x + uptoBulkEntries r
def uptoBulkEntry {H : Type} : Lit × DataW H → Nat
  | (.string bytes, d) => bytes.length + uptoBulk d + 1
  | (_, d) => uptoBulk d + 1
 end
def uptoSmall : (H : Type) → List (DataW H) → Bool := fun _ ds => decide (uptoBulkAll ds ≤ 1048576)
def OpenSpec.upto (s : _root_.Go.ChangeSpec) : _root_.Go.OpenSpec := { _root_.Go.OpenSpec.ofChange s with cond := some uptoSmall }

/-- 'undercroftlaw13.SegmentBack', WHERE WHAT IT READS IS OF BULK AT MOST 1048576: true; the input reads as it did. -/
def segmentBackUptoRow : OpenClaim := { program := "ytokjiinlhghggaadoor", sum := "e56c2bbc6cdbc8c67a554c29fa04af439dfe4c809a0f0c43809956fc57fe9f98", func := "undercroft/undercroftlaw13.SegmentBack", spec := "segmentBack", unfollowed := true, recurses := true, named := ["unicode/utf8.first", "unicode/utf8.acceptRanges"], apart := false, laid := [("unicode/utf8.acceptRanges", laid_unicode_utf8_acceptRanges), ("unicode/utf8.first", laid_unicode_utf8_first)], narrowed := true }
def SegmentBackUptoSaid : Prop := segmentBackUptoRow.holds Tryd.pinned (OpenSpec.upto segmentBackSpec)

/-- 'undercroftlaw13.SegmentRot', WHERE WHAT IT READS IS OF BULK AT MOST 1048576: true; the input reads as it did. -/
def segmentRotUptoRow : OpenClaim := { program := "ytokjiinlhghggaadoor", sum := "e56c2bbc6cdbc8c67a554c29fa04af439dfe4c809a0f0c43809956fc57fe9f98", func := "undercroft/undercroftlaw13.SegmentRot", spec := "segmentRot", unfollowed := true, recurses := true, named := ["unicode/utf8.first", "unicode/utf8.acceptRanges"], apart := false, laid := [("unicode/utf8.acceptRanges", laid_unicode_utf8_acceptRanges), ("unicode/utf8.first", laid_unicode_utf8_first)], narrowed := true }
def SegmentRotUptoSaid : Prop := segmentRotUptoRow.holds Tryd.pinned (OpenSpec.upto segmentRotSpec)

/-- 'undercroftlaw13.SegmentOwn', WHERE WHAT IT READS IS OF BULK AT MOST 1048576: true; the input reads as it did. -/
def segmentOwnUptoRow : OpenClaim := { program := "ytokjiinlhghggaadoor", sum := "e56c2bbc6cdbc8c67a554c29fa04af439dfe4c809a0f0c43809956fc57fe9f98", func := "undercroft/undercroftlaw13.SegmentOwn", spec := "segmentOwn", unfollowed := true, recurses := true, named := ["unicode/utf8.first", "unicode/utf8.acceptRanges"], apart := false, laid := [("unicode/utf8.acceptRanges", laid_unicode_utf8_acceptRanges), ("unicode/utf8.first", laid_unicode_utf8_first)], narrowed := true }
def SegmentOwnUptoSaid : Prop := segmentOwnUptoRow.holds Tryd.pinned (OpenSpec.upto segmentOwnSpec)

/-- 'undercroftlaw13.SegmentHolds', WHERE WHAT IT READS IS OF BULK AT MOST 1048576: true; the input reads as it did. -/
def segmentHoldsUptoRow : OpenClaim := { program := "ytokjiinlhghggaadoor", sum := "e56c2bbc6cdbc8c67a554c29fa04af439dfe4c809a0f0c43809956fc57fe9f98", func := "undercroft/undercroftlaw13.SegmentHolds", spec := "segmentHolds", unfollowed := true, recurses := true, named := ["unicode/utf8.first", "unicode/utf8.acceptRanges"], apart := false, laid := [("unicode/utf8.acceptRanges", laid_unicode_utf8_acceptRanges), ("unicode/utf8.first", laid_unicode_utf8_first)], narrowed := true }
def SegmentHoldsUptoSaid : Prop := segmentHoldsUptoRow.holds Tryd.pinned (OpenSpec.upto segmentHoldsSpec)

/-- 'undercroftlaw13.SegmentTells', WHERE WHAT IT READS IS OF BULK AT MOST 1048576: true; the input reads as it did. -/
def segmentTellsUptoRow : OpenClaim := { program := "ytokjiinlhghggaadoor", sum := "e56c2bbc6cdbc8c67a554c29fa04af439dfe4c809a0f0c43809956fc57fe9f98", func := "undercroft/undercroftlaw13.SegmentTells", spec := "segmentTells", unfollowed := true, recurses := true, named := ["unicode/utf8.first", "unicode/utf8.acceptRanges"], apart := false, laid := [("unicode/utf8.acceptRanges", laid_unicode_utf8_acceptRanges), ("unicode/utf8.first", laid_unicode_utf8_first)], narrowed := true }
def SegmentTellsUptoSaid : Prop := segmentTellsUptoRow.holds Tryd.pinned (OpenSpec.upto segmentTellsSpec)

/-- 'undercroftlaw13.SegmentOwners', WHERE WHAT IT READS IS OF BULK AT MOST 1048576: true; the input reads as it did. -/
def segmentOwnersUptoRow : OpenClaim := { program := "ytokjiinlhghggaadoor", sum := "e56c2bbc6cdbc8c67a554c29fa04af439dfe4c809a0f0c43809956fc57fe9f98", func := "undercroft/undercroftlaw13.SegmentOwners", spec := "segmentOwners", unfollowed := true, recurses := true, named := ["unicode/utf8.first", "unicode/utf8.acceptRanges"], apart := false, laid := [("unicode/utf8.acceptRanges", laid_unicode_utf8_acceptRanges), ("unicode/utf8.first", laid_unicode_utf8_first)], narrowed := true }
def SegmentOwnersUptoSaid : Prop := segmentOwnersUptoRow.holds Tryd.pinned (OpenSpec.upto segmentOwnersSpec)

end Rows
end Go.Proofs.YtokjiinlhghggaaDoor
