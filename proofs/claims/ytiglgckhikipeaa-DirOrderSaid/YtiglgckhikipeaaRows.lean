/-
  No cell of these rows narrows 'for every input' (looked for: loops, veiled, ifaces, maps, wideKeys, modest, calm, conditions, laid).
  DERIVED. THE GIVEN ROWS OF THIS SEAT. 4 by the template 'for every input the law returns true; each argument reads behind the call as it read before'; 0 by the template 'total and deterministic' (their statements: YtiglgckhikipeaaTotals.lean).
  GIVEN WITH THE SEED: the statements are not yours to turn. If you find one false, say at which input.
  Laid BY PROGRAM, IN A SANDBOX (cutbox-rows.mjs): the forced cells as the released guide's own fill.sh prints them over the translation fa6edde9d4db3e74… (all of the seat's roots in one cut). By AI agents, Wed Nov 11 2026. No macro, syntax, notation, axiom, sorry.
-/
import Derived.Test.YtiglgckhikipeaaChecked
import GoSem.Claim
import GoSem.ClaimJoined
import GoSem.ClaimMapViews
import Derived.JoinedTies
import Derived.KernelRfl
namespace Go.Proofs.Ytiglgckhikipeaa
/- THE CELL 'sum', in the pinned program and in every row, IS THE sha256 OF THE DUMP (.gsa) THAT YtiglgckhikipeaaProg.lean LOADS. Nothing in Lean hashes anything: it is a label: what it is worth is what the hold of that sum in a sandbox is worth. -/
noncomputable def Try.pinned : Pinned := { name := "ytiglgckhikipeaa", sum := "fa6edde9d4db3e741af0e7a94bd96086316d59be8473a24396ed2193d2c5caed", checked := Try.checked }
namespace Rows
def none {H : Type} : Left H := { results := [], args := [] }

/-- 'undercroftlaw08.DirOrder': WHATEVER THE INPUT: true; the input reads as it did. -/
def dirOrderSpec : ChangeSpec := { name := "dirOrder", fn := fun _ => fun
  | [d1, d2] => { results := [.lit (.bool true)], args := [d1, d2] }
  | _ => none }
def dirOrderRow : OpenClaim := { program := "ytiglgckhikipeaa", sum := "fa6edde9d4db3e741af0e7a94bd96086316d59be8473a24396ed2193d2c5caed", func := "undercroft/undercroftlaw08.DirOrder", spec := "dirOrder", inPlace := ["internal/bytealg.IndexByteString", "internal/bytealg.IndexString", "slices.overlaps[undercroft/dir.Entry]"], unfollowed := true, recurses := true, named := ["internal/bytealg.MaxLen"], apart := false }
def DirOrderSaid : Prop := dirOrderRow.holds Try.pinned (OpenSpec.ofChange dirOrderSpec)

/-- ITS FALSE NEIGHBOUR: 'it returns false'. Refute it at one input. -/
def dirOrderWrong : ChangeSpec := { name := "dirOrder", fn := fun _ => fun
  | [d1, d2] => { results := [.lit (.bool false)], args := [d1, d2] }
  | _ => none }
def DirOrderWrongFalsely : Prop := dirOrderRow.holds Try.pinned (OpenSpec.ofChange dirOrderWrong)

/-- 'undercroftlaw08.DirOwn': WHATEVER THE INPUT: true; the input reads as it did. -/
def dirOwnSpec : ChangeSpec := { name := "dirOwn", fn := fun _ => fun
  | [d1, d2] => { results := [.lit (.bool true)], args := [d1, d2] }
  | _ => none }
def dirOwnRow : OpenClaim := { program := "ytiglgckhikipeaa", sum := "fa6edde9d4db3e741af0e7a94bd96086316d59be8473a24396ed2193d2c5caed", func := "undercroft/undercroftlaw08.DirOwn", spec := "dirOwn", inPlace := ["internal/bytealg.IndexByteString", "internal/bytealg.IndexString", "slices.overlaps[undercroft/dir.Entry]"], unfollowed := true, recurses := true, named := ["internal/bytealg.MaxLen"], apart := false }
def DirOwnSaid : Prop := dirOwnRow.holds Try.pinned (OpenSpec.ofChange dirOwnSpec)

/-- ITS FALSE NEIGHBOUR: 'it returns false'. Refute it at one input. -/
def dirOwnWrong : ChangeSpec := { name := "dirOwn", fn := fun _ => fun
  | [d1, d2] => { results := [.lit (.bool false)], args := [d1, d2] }
  | _ => none }
def DirOwnWrongFalsely : Prop := dirOwnRow.holds Try.pinned (OpenSpec.ofChange dirOwnWrong)

/-- 'undercroftlaw08.DirTells': WHATEVER THE INPUT: true; the input reads as it did. -/
def dirTellsSpec : ChangeSpec := { name := "dirTells", fn := fun _ => fun
  | [d1, d2, d3] => { results := [.lit (.bool true)], args := [d1, d2, d3] }
  | _ => none }
def dirTellsRow : OpenClaim := { program := "ytiglgckhikipeaa", sum := "fa6edde9d4db3e741af0e7a94bd96086316d59be8473a24396ed2193d2c5caed", func := "undercroft/undercroftlaw08.DirTells", spec := "dirTells", inPlace := ["internal/bytealg.IndexByteString", "internal/bytealg.IndexString", "slices.overlaps[undercroft/dir.Entry]"], unfollowed := true, recurses := true, named := ["internal/bytealg.MaxLen"], apart := false }
def DirTellsSaid : Prop := dirTellsRow.holds Try.pinned (OpenSpec.ofChange dirTellsSpec)

/-- ITS FALSE NEIGHBOUR: 'it returns false'. Refute it at one input. -/
def dirTellsWrong : ChangeSpec := { name := "dirTells", fn := fun _ => fun
  | [d1, d2, d3] => { results := [.lit (.bool false)], args := [d1, d2, d3] }
  | _ => none }
def DirTellsWrongFalsely : Prop := dirTellsRow.holds Try.pinned (OpenSpec.ofChange dirTellsWrong)

/-- 'undercroftlaw08.DirUndone': WHATEVER THE INPUT: true; the input reads as it did. -/
def dirUndoneSpec : ChangeSpec := { name := "dirUndone", fn := fun _ => fun
  | [d1, d2] => { results := [.lit (.bool true)], args := [d1, d2] }
  | _ => none }
def dirUndoneRow : OpenClaim := { program := "ytiglgckhikipeaa", sum := "fa6edde9d4db3e741af0e7a94bd96086316d59be8473a24396ed2193d2c5caed", func := "undercroft/undercroftlaw08.DirUndone", spec := "dirUndone", inPlace := ["internal/bytealg.IndexByteString", "internal/bytealg.IndexString", "slices.overlaps[undercroft/dir.Entry]"], unfollowed := true, recurses := true, named := ["internal/bytealg.MaxLen"], apart := false }
def DirUndoneSaid : Prop := dirUndoneRow.holds Try.pinned (OpenSpec.ofChange dirUndoneSpec)

/-- ITS FALSE NEIGHBOUR: 'it returns false'. Refute it at one input. -/
def dirUndoneWrong : ChangeSpec := { name := "dirUndone", fn := fun _ => fun
  | [d1, d2] => { results := [.lit (.bool false)], args := [d1, d2] }
  | _ => none }
def DirUndoneWrongFalsely : Prop := dirUndoneRow.holds Try.pinned (OpenSpec.ofChange dirUndoneWrong)

/- THE SECOND FORM. 'bulk': how many values and letters a reading holds, each counted each time it is reached (what is shared counts as often as it is met; a slice's spare places count too). A statement '..UptoSaid' is the law's where the arguments, and the package variables that the reading takes, are together of bulk at most 1048576: NARROWER than '..Said'. Prove '..Said' where nothing that the law and all that it calls make is longer than what came in: it says more and counts as full. Else prove '..UptoSaid'. A law counts once. -/
mutual
def uptoBulk {H : Type} : DataW H → Nat
  | .lit (.string bytes) => bytes.length + 1
  | .lit _ => 1
  | .nil => 1
  | .ptr d => uptoBulk d + 1
  | .slice elems spare => uptoBulkAll elems + uptoBulkAll spare + 1
  | .agg parts => uptoBulkAll parts + 1
  | .iface _ d => uptoBulk d + 1
  | .map entries => uptoBulkEntries entries + 1
  | .held _ => 1
def uptoBulkAll {H : Type} : List (DataW H) → Nat
  | [] => 0
  | d :: r => uptoBulk d + uptoBulkAll r
def uptoBulkEntries {H : Type} : List (Lit × DataW H) → Nat
  | [] => 0
  | x :: r => uptoBulkEntry x + uptoBulkEntries r
def uptoBulkEntry {H : Type} : Lit × DataW H → Nat
  | (.string bytes, d) => bytes.length + uptoBulk d + 1
  | (_, d) => uptoBulk d + 1
 end
def uptoSmall : (H : Type) → List (DataW H) → Bool := fun _ ds => decide (uptoBulkAll ds ≤ 1048576)
def OpenSpec.upto (s : _root_.Go.ChangeSpec) : _root_.Go.OpenSpec := { _root_.Go.OpenSpec.ofChange s with cond := some uptoSmall }

/-- 'undercroftlaw08.DirOrder', WHERE WHAT IT READS IS OF BULK AT MOST 1048576: true; the input reads as it did. -/
def dirOrderUptoRow : OpenClaim := { program := "ytiglgckhikipeaa", sum := "fa6edde9d4db3e741af0e7a94bd96086316d59be8473a24396ed2193d2c5caed", func := "undercroft/undercroftlaw08.DirOrder", spec := "dirOrder", inPlace := ["internal/bytealg.IndexByteString", "internal/bytealg.IndexString", "slices.overlaps[undercroft/dir.Entry]"], unfollowed := true, recurses := true, named := ["internal/bytealg.MaxLen"], apart := false, narrowed := true }
def DirOrderUptoSaid : Prop := dirOrderUptoRow.holds Try.pinned (OpenSpec.upto dirOrderSpec)

/-- 'undercroftlaw08.DirOwn', WHERE WHAT IT READS IS OF BULK AT MOST 1048576: true; the input reads as it did. -/
def dirOwnUptoRow : OpenClaim := { program := "ytiglgckhikipeaa", sum := "fa6edde9d4db3e741af0e7a94bd96086316d59be8473a24396ed2193d2c5caed", func := "undercroft/undercroftlaw08.DirOwn", spec := "dirOwn", inPlace := ["internal/bytealg.IndexByteString", "internal/bytealg.IndexString", "slices.overlaps[undercroft/dir.Entry]"], unfollowed := true, recurses := true, named := ["internal/bytealg.MaxLen"], apart := false, narrowed := true }
def DirOwnUptoSaid : Prop := dirOwnUptoRow.holds Try.pinned (OpenSpec.upto dirOwnSpec)

/-- 'undercroftlaw08.DirTells', WHERE WHAT IT READS IS OF BULK AT MOST 1048576: true; the input reads as it did. -/
def dirTellsUptoRow : OpenClaim := { program := "ytiglgckhikipeaa", sum := "fa6edde9d4db3e741af0e7a94bd96086316d59be8473a24396ed2193d2c5caed", func := "undercroft/undercroftlaw08.DirTells", spec := "dirTells", inPlace := ["internal/bytealg.IndexByteString", "internal/bytealg.IndexString", "slices.overlaps[undercroft/dir.Entry]"], unfollowed := true, recurses := true, named := ["internal/bytealg.MaxLen"], apart := false, narrowed := true }
def DirTellsUptoSaid : Prop := dirTellsUptoRow.holds Try.pinned (OpenSpec.upto dirTellsSpec)

/-- 'undercroftlaw08.DirUndone', WHERE WHAT IT READS IS OF BULK AT MOST 1048576: true; the input reads as it did. -/
def dirUndoneUptoRow : OpenClaim := { program := "ytiglgckhikipeaa", sum := "fa6edde9d4db3e741af0e7a94bd96086316d59be8473a24396ed2193d2c5caed", func := "undercroft/undercroftlaw08.DirUndone", spec := "dirUndone", inPlace := ["internal/bytealg.IndexByteString", "internal/bytealg.IndexString", "slices.overlaps[undercroft/dir.Entry]"], unfollowed := true, recurses := true, named := ["internal/bytealg.MaxLen"], apart := false, narrowed := true }
def DirUndoneUptoSaid : Prop := dirUndoneUptoRow.holds Try.pinned (OpenSpec.upto dirUndoneSpec)

end Rows
end Go.Proofs.Ytiglgckhikipeaa
