/- What a row of this seat knows of the input of FileText. Written by a program of this session (mkrow.py). -/
import Derived.Test.YtomebhohkonhlaaDoorPFtxx0
import Derived.Test.YtomebhohkonhlaaDoorRd
namespace Go.Proofs.YtomebhohkonhlaaDoor.PFtx
open Go.RowKit Go.Proofs.YtomebhohkonhlaaDoorW.PrintWords Go.Proofs.YtomebhohkonhlaaDoor.Rd
set_option linter.unusedVariables false
def ok49 (x : S49) : Prop := (Lit.int .i64 x.f0).wf = true ∧ (Lit.int .i64 x.f1).wf = true ∧ (x.f2.length * 1 ≤ 140737488351232 ∧ x.f2.length ≤ maxLen ∧ ∀ y25 ∈ x.f2, (Lit.int .u8 y25).wf = true)
def m49 (x : S49) : Nat := (0 + (0 + (x.f2.length + (x.f2.map fun z25 => 0).sum)))
theorem opens49 : Opens Tryd.prog 49 k49 ok49 m49 := opens_iso (opens_struct Tryd.underlying49 (by kernel_rfl) (opensF_cons rfl (by kernel_rfl) rfl (opens_int Tryd.underlying3) (opensF_cons rfl (by kernel_rfl) rfl (opens_int Tryd.underlying3) (opensF_one rfl (by kernel_rfl) (opens_slice (B := 1) Tryd.underlying25 (by kernel_rfl) (by kernel_rfl) (opens_int Tryd.underlying5)))))) (fun x : S49 => (x.f0, x.f1, x.f2)) (fun y => ⟨y.1, y.2.1, y.2.2⟩) (fun _ => rfl)
end Go.Proofs.YtomebhohkonhlaaDoor.PFtx
