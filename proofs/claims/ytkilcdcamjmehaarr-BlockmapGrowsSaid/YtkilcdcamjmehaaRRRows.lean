/-
  No cell of these rows narrows 'for every input' (looked for: loops, veiled, ifaces, maps, wideKeys, modest, calm, conditions, laid).
  DERIVED. THE GIVEN ROWS OF THIS SEAT. 3 by the template 'for every input the law returns true; each argument reads behind the call as it read before'; 0 by the template 'total and deterministic' (their statements: YtkilcdcamjmehaaRRTotals.lean).
  GIVEN WITH THE SEED: the statements are not yours to turn. If you find one false, say at which input.
  Laid BY PROGRAM, IN A SANDBOX (cutbox-rows.mjs): the forced cells as the released guide's own fill.sh prints them over the translation 66d850406b36c84d… (all of the seat's roots in one cut). By AI agents, Wed Nov 11 2026. No macro, syntax, notation, axiom, sorry.
-/
import Derived.Test.YtkilcdcamjmehaaRRChecked
import GoSem.Claim
import GoSem.ClaimJoined
import GoSem.ClaimMapViews
import Derived.JoinedTies
import Derived.KernelRfl
namespace Go.Proofs.YtkilcdcamjmehaaRR
/- THE CELL 'sum', in the pinned program and in every row, IS THE sha256 OF THE DUMP (.gsa) THAT YtkilcdcamjmehaaRRProg.lean LOADS. Nothing in Lean hashes anything: it is a label: what it is worth is what the hold of that sum in a sandbox is worth. -/
noncomputable def Try.pinned : Pinned := { name := "ytkilcdcamjmehaarr", sum := "66d850406b36c84da1080ae426738c9ec2ba03d00357a2b2a89c7c3c0334234c", checked := Try.checked }
namespace Rows
def none {H : Type} : Left H := { results := [], args := [] }

/-- 'undercroftlaw06.BlockmapGrows': WHATEVER THE INPUT: true; the input reads as it did. -/
def blockmapGrowsSpec : ChangeSpec := { name := "blockmapGrows", fn := fun _ => fun
  | [d1, d2] => { results := [.lit (.bool true)], args := [d1, d2] }
  | _ => none }
def blockmapGrowsRow : OpenClaim := { program := "ytkilcdcamjmehaarr", sum := "66d850406b36c84da1080ae426738c9ec2ba03d00357a2b2a89c7c3c0334234c", func := "undercroft/undercroftlaw06.BlockmapGrows", spec := "blockmapGrows", apart := false }
def BlockmapGrowsSaid : Prop := blockmapGrowsRow.holds Try.pinned (OpenSpec.ofChange blockmapGrowsSpec)

/-- ITS FALSE NEIGHBOUR: 'it returns false'. Refute it at one input. -/
def blockmapGrowsWrong : ChangeSpec := { name := "blockmapGrows", fn := fun _ => fun
  | [d1, d2] => { results := [.lit (.bool false)], args := [d1, d2] }
  | _ => none }
def BlockmapGrowsWrongFalsely : Prop := blockmapGrowsRow.holds Try.pinned (OpenSpec.ofChange blockmapGrowsWrong)

/-- 'undercroftlaw06.BlockmapBeside': WHATEVER THE INPUT: true; the input reads as it did. -/
def blockmapBesideSpec : ChangeSpec := { name := "blockmapBeside", fn := fun _ => fun
  | [d] => { results := [.lit (.bool true)], args := [d] }
  | _ => none }
def blockmapBesideRow : OpenClaim := { program := "ytkilcdcamjmehaarr", sum := "66d850406b36c84da1080ae426738c9ec2ba03d00357a2b2a89c7c3c0334234c", func := "undercroft/undercroftlaw06.BlockmapBeside", spec := "blockmapBeside", apart := false }
def BlockmapBesideSaid : Prop := blockmapBesideRow.holds Try.pinned (OpenSpec.ofChange blockmapBesideSpec)

/-- ITS FALSE NEIGHBOUR: 'it returns false'. Refute it at one input. -/
def blockmapBesideWrong : ChangeSpec := { name := "blockmapBeside", fn := fun _ => fun
  | [d] => { results := [.lit (.bool false)], args := [d] }
  | _ => none }
def BlockmapBesideWrongFalsely : Prop := blockmapBesideRow.holds Try.pinned (OpenSpec.ofChange blockmapBesideWrong)

/-- 'undercroftlaw06.BlockmapSpan': WHATEVER THE INPUT: true; the input reads as it did. -/
def blockmapSpanSpec : ChangeSpec := { name := "blockmapSpan", fn := fun _ => fun
  | [d1, d2] => { results := [.lit (.bool true)], args := [d1, d2] }
  | _ => none }
def blockmapSpanRow : OpenClaim := { program := "ytkilcdcamjmehaarr", sum := "66d850406b36c84da1080ae426738c9ec2ba03d00357a2b2a89c7c3c0334234c", func := "undercroft/undercroftlaw06.BlockmapSpan", spec := "blockmapSpan", apart := false }
def BlockmapSpanSaid : Prop := blockmapSpanRow.holds Try.pinned (OpenSpec.ofChange blockmapSpanSpec)

/-- ITS FALSE NEIGHBOUR: 'it returns false'. Refute it at one input. -/
def blockmapSpanWrong : ChangeSpec := { name := "blockmapSpan", fn := fun _ => fun
  | [d1, d2] => { results := [.lit (.bool false)], args := [d1, d2] }
  | _ => none }
def BlockmapSpanWrongFalsely : Prop := blockmapSpanRow.holds Try.pinned (OpenSpec.ofChange blockmapSpanWrong)

/- THE SECOND FORM. 'bulk': how many values and letters a reading holds, each counted each time it is reached (what is shared counts as often as it is met; a slice's spare places count too). A statement '..UptoSaid' is the law's where the arguments, and the package variables that the reading takes, are together of bulk at most 1048576: NARROWER than '..Said'. Prove '..Said' where nothing that the law and all that it calls make is longer than what came in: it says more and counts as full. Else prove '..UptoSaid'. A law counts once. -/
mutual
def uptoBulk {H : Type} : DataW H → Nat
  | .lit (.string bytes) => bytes.length + 1
  | .lit _ => 1
  | .nil => 1
  | .ptr d => uptoBulk d + 1
  | .slice elems spare => uptoBulkAll elems + uptoBulkAll spare + 1
  | .agg parts => uptoBulkAll parts + 1
  | .iface _ d => uptoBulk d + 1
  | .map entries => uptoBulkEntries entries + 1
  | .held _ => 1
def uptoBulkAll {H : Type} : List (DataW H) → Nat
  | [] => 0
  | d :: r => uptoBulk d + uptoBulkAll r
def uptoBulkEntries {H : Type} : List (Lit × DataW H) → Nat
  | [] => 0
  | x :: r => uptoBulkEntry x + uptoBulkEntries r
def uptoBulkEntry {H : Type} : Lit × DataW H → Nat
  | (.string bytes, d) => bytes.length + uptoBulk d + 1
  | (_, d) => uptoBulk d + 1
 end
def uptoSmall : (H : Type) → List (DataW H) → Bool := fun _ ds => decide (uptoBulkAll ds ≤ 1048576)
def OpenSpec.upto (s : _root_.Go.ChangeSpec) : _root_.Go.OpenSpec := { _root_.Go.OpenSpec.ofChange s with cond := some uptoSmall }

/-- 'undercroftlaw06.BlockmapGrows', WHERE WHAT IT READS IS OF BULK AT MOST 1048576: true; the input reads as it did. -/
def blockmapGrowsUptoRow : OpenClaim := { program := "ytkilcdcamjmehaarr", sum := "66d850406b36c84da1080ae426738c9ec2ba03d00357a2b2a89c7c3c0334234c", func := "undercroft/undercroftlaw06.BlockmapGrows", spec := "blockmapGrows", apart := false, narrowed := true }
def BlockmapGrowsUptoSaid : Prop := blockmapGrowsUptoRow.holds Try.pinned (OpenSpec.upto blockmapGrowsSpec)

/-- 'undercroftlaw06.BlockmapBeside', WHERE WHAT IT READS IS OF BULK AT MOST 1048576: true; the input reads as it did. -/
def blockmapBesideUptoRow : OpenClaim := { program := "ytkilcdcamjmehaarr", sum := "66d850406b36c84da1080ae426738c9ec2ba03d00357a2b2a89c7c3c0334234c", func := "undercroft/undercroftlaw06.BlockmapBeside", spec := "blockmapBeside", apart := false, narrowed := true }
def BlockmapBesideUptoSaid : Prop := blockmapBesideUptoRow.holds Try.pinned (OpenSpec.upto blockmapBesideSpec)

/-- 'undercroftlaw06.BlockmapSpan', WHERE WHAT IT READS IS OF BULK AT MOST 1048576: true; the input reads as it did. -/
def blockmapSpanUptoRow : OpenClaim := { program := "ytkilcdcamjmehaarr", sum := "66d850406b36c84da1080ae426738c9ec2ba03d00357a2b2a89c7c3c0334234c", func := "undercroft/undercroftlaw06.BlockmapSpan", spec := "blockmapSpan", apart := false, narrowed := true }
def BlockmapSpanUptoSaid : Prop := blockmapSpanUptoRow.holds Try.pinned (OpenSpec.upto blockmapSpanSpec)

end Rows
end Go.Proofs.YtkilcdcamjmehaaRR
