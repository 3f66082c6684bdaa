/- What a row of this seat knows of the input of FileOwn. Written by a program of this session (mkrow.py). -/
import Derived.Test.YtomebhohkonhlaaDoorPFowx0
import Derived.Test.YtomebhohkonhlaaDoorRd
namespace Go.Proofs.YtomebhohkonhlaaDoor.PFow
open Go.RowKit Go.Proofs.YtomebhohkonhlaaDoorW.PrintWords Go.Proofs.YtomebhohkonhlaaDoor.Rd
set_option linter.unusedVariables false
def ok57 (x : S57) : Prop := (Lit.int .i64 x.f0).wf = true ∧ (x.f1.length * 1 ≤ 140737488351232 ∧ x.f1.length ≤ maxLen ∧ ∀ y25 ∈ x.f1, (Lit.int .u8 y25).wf = true)
def m57 (x : S57) : Nat := (0 + (x.f1.length + (x.f1.map fun z25 => 0).sum))
theorem opens57 : Opens Tryd.prog 57 k57 ok57 m57 := opens_iso (opens_struct Tryd.underlying57 (by kernel_rfl) (opensF_cons rfl (by kernel_rfl) rfl (opens_int Tryd.underlying3) (opensF_one rfl (by kernel_rfl) (opens_slice (B := 1) Tryd.underlying25 (by kernel_rfl) (by kernel_rfl) (opens_int Tryd.underlying5))))) (fun x : S57 => (x.f0, x.f1)) (fun y => ⟨y.1, y.2⟩) (fun _ => rfl)
def ok24 (x : S24) : Prop := (Lit.int .i64 x.f0).wf = true ∧ (x.f1.length * 32 ≤ 140737488351232 ∧ x.f1.length ≤ maxLen ∧ ∀ y22 ∈ x.f1, ok57 y22)
def m24 (x : S24) : Nat := (0 + (x.f1.length + (x.f1.map fun z22 => m57 z22).sum))
theorem opens24 : Opens Tryd.prog 24 k24 ok24 m24 := opens_iso (opens_struct Tryd.underlying24 (by kernel_rfl) (opensF_cons rfl (by kernel_rfl) rfl (opens_int Tryd.underlying3) (opensF_one rfl (by kernel_rfl) (opens_slice (B := 32) Tryd.underlying22 (by kernel_rfl) (by kernel_rfl) opens57)))) (fun x : S24 => (x.f0, x.f1)) (fun y => ⟨y.1, y.2⟩) (fun _ => rfl)
end Go.Proofs.YtomebhohkonhlaaDoor.PFow
