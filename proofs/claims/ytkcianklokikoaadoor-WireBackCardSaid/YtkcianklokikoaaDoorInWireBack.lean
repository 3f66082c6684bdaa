/- What a row of this seat knows of the input of WireBack. Written by a program of this session (mkrow.py). -/
import Derived.Test.YtkcianklokikoaaDoorPWibx0
import Derived.Test.YtkcianklokikoaaDoorRd
namespace Go.Proofs.YtkcianklokikoaaDoor.PWib
open Go.RowKit Go.Proofs.YtkcianklokikoaaDoorW.PrintWords Go.Proofs.YtkcianklokikoaaDoor.Rd
set_option linter.unusedVariables false
def ok42 (x : S42) : Prop := (Lit.int .i64 x.f0).wf = true ∧ (x.f1.length * 8 ≤ 140737488351232 ∧ x.f1.length ≤ maxLen ∧ ∀ y40 ∈ x.f1, (Lit.int .i64 y40).wf = true) ∧ (x.f2.length * 24 ≤ 140737488351232 ∧ x.f2.length ≤ maxLen ∧ ∀ y22 ∈ x.f2, (y22.length * 1 ≤ 140737488351232 ∧ y22.length ≤ maxLen ∧ ∀ y23 ∈ y22, (Lit.int .u8 y23).wf = true))
def m42 (x : S42) : Nat := (0 + ((x.f1.length + (x.f1.map fun z40 => 0).sum) + (x.f2.length + (x.f2.map fun z22 => (z22.length + (z22.map fun z23 => 0).sum)).sum)))
theorem opens42 : Opens Tryd.prog 42 k42 ok42 m42 := opens_iso (opens_struct Tryd.underlying42 (by kernel_rfl) (opensF_cons rfl (by kernel_rfl) rfl (opens_int Tryd.underlying3) (opensF_cons rfl (by kernel_rfl) rfl (opens_slice (B := 8) Tryd.underlying40 (by kernel_rfl) (by kernel_rfl) (opens_int Tryd.underlying3)) (opensF_one rfl (by kernel_rfl) (opens_slice (B := 24) Tryd.underlying22 (by kernel_rfl) (by kernel_rfl) (opens_slice (B := 1) Tryd.underlying23 (by kernel_rfl) (by kernel_rfl) (opens_int Tryd.underlying5))))))) (fun x : S42 => (x.f0, x.f1, x.f2)) (fun y => ⟨y.1, y.2.1, y.2.2⟩) (fun _ => rfl)
end Go.Proofs.YtkcianklokikoaaDoor.PWib
