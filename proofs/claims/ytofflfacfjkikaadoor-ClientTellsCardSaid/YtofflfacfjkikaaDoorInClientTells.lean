/- What a row of this seat knows of the input of ClientTells. Written by a program of this session (mkrow.py). -/
import Derived.Test.YtofflfacfjkikaaDoorPCtex0
import Derived.Test.YtofflfacfjkikaaDoorRd
namespace Go.Proofs.YtofflfacfjkikaaDoor.PCte
open Go.RowKit Go.Proofs.YtofflfacfjkikaaDoorW.PrintWords Go.Proofs.YtofflfacfjkikaaDoor.Rd
set_option linter.unusedVariables false
def ok24 (x : S24) : Prop := (Lit.int .i64 x.f0).wf = true ∧ (Lit.int .i64 x.f1).wf = true ∧ (x.f2.length * 1 ≤ 140737488351232 ∧ x.f2.length ≤ maxLen ∧ ∀ y22 ∈ x.f2, (Lit.int .u8 y22).wf = true)
def m24 (x : S24) : Nat := (0 + (0 + (x.f2.length + (x.f2.map fun z22 => 0).sum)))
theorem opens24 : Opens Tryd.prog 24 k24 ok24 m24 := opens_iso (opens_struct Tryd.underlying24 (by kernel_rfl) (opensF_cons rfl (by kernel_rfl) rfl (opens_int Tryd.underlying3) (opensF_cons rfl (by kernel_rfl) rfl (opens_int Tryd.underlying3) (opensF_one rfl (by kernel_rfl) (opens_slice (B := 1) Tryd.underlying22 (by kernel_rfl) (by kernel_rfl) (opens_int Tryd.underlying5)))))) (fun x : S24 => (x.f0, x.f1, x.f2)) (fun y => ⟨y.1, y.2.1, y.2.2⟩) (fun _ => rfl)
end Go.Proofs.YtofflfacfjkikaaDoor.PCte
