/- What a row of this seat knows of the input of ClientTables. Written by a program of this session (mkrow.py). -/
import Derived.Test.YtofflfacfjkikaaPClix0
import Derived.Test.YtofflfacfjkikaaRd
namespace Go.Proofs.Ytofflfacfjkikaa.PCli
open Go.RowKit Go.Proofs.YtofflfacfjkikaaW.PrintWords Go.Proofs.Ytofflfacfjkikaa.Rd
set_option linter.unusedVariables false
def ok52 (x : S52) : Prop := (Lit.int .i64 x.f0).wf = true ∧ (Lit.int .i64 x.f1).wf = true ∧ (x.f2.length * 1 ≤ 140737488351232 ∧ x.f2.length ≤ maxLen ∧ ∀ y23 ∈ x.f2, (Lit.int .u8 y23).wf = true)
def m52 (x : S52) : Nat := (0 + (0 + (x.f2.length + (x.f2.map fun z23 => 0).sum)))
theorem opens52 : Opens Try.prog 52 k52 ok52 m52 := opens_iso (opens_struct Try.underlying52 (by kernel_rfl) (opensF_cons rfl (by kernel_rfl) rfl (opens_int Try.underlying3) (opensF_cons rfl (by kernel_rfl) rfl (opens_int Try.underlying3) (opensF_one rfl (by kernel_rfl) (opens_slice (B := 1) Try.underlying23 (by kernel_rfl) (by kernel_rfl) (opens_int Try.underlying5)))))) (fun x : S52 => (x.f0, x.f1, x.f2)) (fun y => ⟨y.1, y.2.1, y.2.2⟩) (fun _ => rfl)
end Go.Proofs.Ytofflfacfjkikaa.PCli
