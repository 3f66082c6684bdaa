/-
  No cell of these rows narrows 'for every input' (looked for: loops, veiled, ifaces, maps, wideKeys, modest, calm, conditions, laid).
  DERIVED. THE GIVEN ROWS OF THIS SEAT. 4 by the template 'for every input the law returns true; each argument reads behind the call as it read before'; 0 by the template 'total and deterministic' (their statements: YtofflfacfjkikaaTotals.lean).
  GIVEN WITH THE SEED: the statements are not yours to turn. If you find one false, say at which input.
  Laid BY PROGRAM, IN A SANDBOX (cutbox-rows.mjs): the forced cells as the released guide's own fill.sh prints them over the translation 025f5234c3bfc4d6… (all of the seat's roots in one cut). By AI agents, Wed Nov 11 2026. No macro, syntax, notation, axiom, sorry.
-/
import Derived.Test.YtofflfacfjkikaaChecked
import GoSem.Claim
import GoSem.ClaimJoined
import GoSem.ClaimMapViews
import Derived.JoinedTies
import Derived.KernelRfl
namespace Go.Proofs.Ytofflfacfjkikaa
/- THE CELL 'sum', in the pinned program and in every row, IS THE sha256 OF THE DUMP (.gsa) THAT YtofflfacfjkikaaProg.lean LOADS. Nothing in Lean hashes anything: it is a label: what it is worth is what the hold of that sum in a sandbox is worth. -/
noncomputable def Try.pinned : Pinned := { name := "ytofflfacfjkikaa", sum := "025f5234c3bfc4d607d85e0c191ed179491fad3bbac60330525823d56e266c23", checked := Try.checked }
namespace Rows
def none {H : Type} : Left H := { results := [], args := [] }

/-- 'undercroftlaw20.ClientTables': WHATEVER THE INPUT: true; the input reads as it did. -/
def clientTablesSpec : ChangeSpec := { name := "clientTables", fn := fun _ => fun
  | [d1, d2, d3, d4] => { results := [.lit (.bool true)], args := [d1, d2, d3, d4] }
  | _ => none }
def clientTablesRow : OpenClaim := { program := "ytofflfacfjkikaa", sum := "025f5234c3bfc4d607d85e0c191ed179491fad3bbac60330525823d56e266c23", func := "undercroft/undercroftlaw20.ClientTables", spec := "clientTables", inPlace := ["slices.overlaps[undercroft/client.Last]"], unfollowed := true, recurses := true, apart := false }
def ClientTablesSaid : Prop := clientTablesRow.holds Try.pinned (OpenSpec.ofChange clientTablesSpec)

/-- ITS FALSE NEIGHBOUR: 'it returns false'. Refute it at one input. -/
def clientTablesWrong : ChangeSpec := { name := "clientTables", fn := fun _ => fun
  | [d1, d2, d3, d4] => { results := [.lit (.bool false)], args := [d1, d2, d3, d4] }
  | _ => none }
def ClientTablesWrongFalsely : Prop := clientTablesRow.holds Try.pinned (OpenSpec.ofChange clientTablesWrong)

/-- 'undercroftlaw20.ClientOnce': WHATEVER THE INPUT: true; the input reads as it did. -/
def clientOnceSpec : ChangeSpec := { name := "clientOnce", fn := fun _ => fun
  | [d] => { results := [.lit (.bool true)], args := [d] }
  | _ => none }
def clientOnceRow : OpenClaim := { program := "ytofflfacfjkikaa", sum := "025f5234c3bfc4d607d85e0c191ed179491fad3bbac60330525823d56e266c23", func := "undercroft/undercroftlaw20.ClientOnce", spec := "clientOnce", inPlace := ["slices.overlaps[undercroft/client.Last]"], unfollowed := true, recurses := true, apart := false }
def ClientOnceSaid : Prop := clientOnceRow.holds Try.pinned (OpenSpec.ofChange clientOnceSpec)

/-- ITS FALSE NEIGHBOUR: 'it returns false'. Refute it at one input. -/
def clientOnceWrong : ChangeSpec := { name := "clientOnce", fn := fun _ => fun
  | [d] => { results := [.lit (.bool false)], args := [d] }
  | _ => none }
def ClientOnceWrongFalsely : Prop := clientOnceRow.holds Try.pinned (OpenSpec.ofChange clientOnceWrong)

/-- 'undercroftlaw20.ClientOthers': WHATEVER THE INPUT: true; the input reads as it did. -/
def clientOthersSpec : ChangeSpec := { name := "clientOthers", fn := fun _ => fun
  | [d1, d2, d3, d4, d5] => { results := [.lit (.bool true)], args := [d1, d2, d3, d4, d5] }
  | _ => none }
def clientOthersRow : OpenClaim := { program := "ytofflfacfjkikaa", sum := "025f5234c3bfc4d607d85e0c191ed179491fad3bbac60330525823d56e266c23", func := "undercroft/undercroftlaw20.ClientOthers", spec := "clientOthers", inPlace := ["slices.overlaps[undercroft/client.Last]"], unfollowed := true, recurses := true, apart := false }
def ClientOthersSaid : Prop := clientOthersRow.holds Try.pinned (OpenSpec.ofChange clientOthersSpec)

/-- ITS FALSE NEIGHBOUR: 'it returns false'. Refute it at one input. -/
def clientOthersWrong : ChangeSpec := { name := "clientOthers", fn := fun _ => fun
  | [d1, d2, d3, d4, d5] => { results := [.lit (.bool false)], args := [d1, d2, d3, d4, d5] }
  | _ => none }
def ClientOthersWrongFalsely : Prop := clientOthersRow.holds Try.pinned (OpenSpec.ofChange clientOthersWrong)

/-- 'undercroftlaw20.ClientOwn': WHATEVER THE INPUT: true; the input reads as it did. -/
def clientOwnSpec : ChangeSpec := { name := "clientOwn", fn := fun _ => fun
  | [d1, d2, d3, d4] => { results := [.lit (.bool true)], args := [d1, d2, d3, d4] }
  | _ => none }
def clientOwnRow : OpenClaim := { program := "ytofflfacfjkikaa", sum := "025f5234c3bfc4d607d85e0c191ed179491fad3bbac60330525823d56e266c23", func := "undercroft/undercroftlaw20.ClientOwn", spec := "clientOwn", inPlace := ["slices.overlaps[undercroft/client.Last]"], unfollowed := true, recurses := true, apart := false }
def ClientOwnSaid : Prop := clientOwnRow.holds Try.pinned (OpenSpec.ofChange clientOwnSpec)

/-- ITS FALSE NEIGHBOUR: 'it returns false'. Refute it at one input. -/
def clientOwnWrong : ChangeSpec := { name := "clientOwn", fn := fun _ => fun
  | [d1, d2, d3, d4] => { results := [.lit (.bool false)], args := [d1, d2, d3, d4] }
  | _ => none }
def ClientOwnWrongFalsely : Prop := clientOwnRow.holds Try.pinned (OpenSpec.ofChange clientOwnWrong)

/- THE SECOND FORM. 'bulk': how many values and letters a reading holds, each counted each time it is reached (what is shared counts as often as it is met; a slice's spare places count too). A statement '..UptoSaid' is the law's where the arguments, and the package variables that the reading takes, are together of bulk at most 1048576: NARROWER than '..Said'. Prove '..Said' where nothing that the law and all that it calls make is longer than what came in: it says more and counts as full. Else prove '..UptoSaid'. A law counts once. -/
mutual
def uptoBulk {H : Type} : DataW H → Nat
  | .lit (.string bytes) => bytes.length + 1
  | .lit _ => 1
  | .nil => 1
  | .ptr d => uptoBulk d + 1
  | .slice elems spare => uptoBulkAll elems + uptoBulkAll spare + 1
  | .agg parts => uptoBulkAll parts + 1
  | .iface _ d => uptoBulk d + 1
  | .map entries => uptoBulkEntries entries + 1
  | .held _ => 1
def uptoBulkAll {H : Type} : List (DataW H) → Nat
  | [] => 0
  | d :: r => uptoBulk d + uptoBulkAll r
def uptoBulkEntries {H : Type} : List (Lit × DataW H) → Nat
  | [] => 0
  | x :: r => uptoBulkEntry x + uptoBulkEntries r
def uptoBulkEntry {H : Type} : Lit × DataW H → Nat
  | (.string bytes, d) => bytes.length + uptoBulk d + 1
  | (_, d) => uptoBulk d + 1
 end
def uptoSmall : (H : Type) → List (DataW H) → Bool := fun _ ds => decide (uptoBulkAll ds ≤ 1048576)
def OpenSpec.upto (s : _root_.Go.ChangeSpec) : _root_.Go.OpenSpec := { _root_.Go.OpenSpec.ofChange s with cond := some uptoSmall }

/-- 'undercroftlaw20.ClientTables', WHERE WHAT IT READS IS OF BULK AT MOST 1048576: true; the input reads as it did. -/
def clientTablesUptoRow : OpenClaim := { program := "ytofflfacfjkikaa", sum := "025f5234c3bfc4d607d85e0c191ed179491fad3bbac60330525823d56e266c23", func := "undercroft/undercroftlaw20.ClientTables", spec := "clientTables", inPlace := ["slices.overlaps[undercroft/client.Last]"], unfollowed := true, recurses := true, apart := false, narrowed := true }
def ClientTablesUptoSaid : Prop := clientTablesUptoRow.holds Try.pinned (OpenSpec.upto clientTablesSpec)

/-- 'undercroftlaw20.ClientOnce', WHERE WHAT IT READS IS OF BULK AT MOST 1048576: true; the input reads as it did. -/
def clientOnceUptoRow : OpenClaim := { program := "ytofflfacfjkikaa", sum := "025f5234c3bfc4d607d85e0c191ed179491fad3bbac60330525823d56e266c23", func := "undercroft/undercroftlaw20.ClientOnce", spec := "clientOnce", inPlace := ["slices.overlaps[undercroft/client.Last]"], unfollowed := true, recurses := true, apart := false, narrowed := true }
def ClientOnceUptoSaid : Prop := clientOnceUptoRow.holds Try.pinned (OpenSpec.upto clientOnceSpec)

/-- 'undercroftlaw20.ClientOthers', WHERE WHAT IT READS IS OF BULK AT MOST 1048576: true; the input reads as it did. -/
def clientOthersUptoRow : OpenClaim := { program := "ytofflfacfjkikaa", sum := "025f5234c3bfc4d607d85e0c191ed179491fad3bbac60330525823d56e266c23", func := "undercroft/undercroftlaw20.ClientOthers", spec := "clientOthers", inPlace := ["slices.overlaps[undercroft/client.Last]"], unfollowed := true, recurses := true, apart := false, narrowed := true }
def ClientOthersUptoSaid : Prop := clientOthersUptoRow.holds Try.pinned (OpenSpec.upto clientOthersSpec)

/-- 'undercroftlaw20.ClientOwn', WHERE WHAT IT READS IS OF BULK AT MOST 1048576: true; the input reads as it did. -/
def clientOwnUptoRow : OpenClaim := { program := "ytofflfacfjkikaa", sum := "025f5234c3bfc4d607d85e0c191ed179491fad3bbac60330525823d56e266c23", func := "undercroft/undercroftlaw20.ClientOwn", spec := "clientOwn", inPlace := ["slices.overlaps[undercroft/client.Last]"], unfollowed := true, recurses := true, apart := false, narrowed := true }
def ClientOwnUptoSaid : Prop := clientOwnUptoRow.holds Try.pinned (OpenSpec.upto clientOwnSpec)

end Rows
end Go.Proofs.Ytofflfacfjkikaa
