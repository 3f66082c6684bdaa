/- What a row of this seat knows of the input of DirBack. Written by a program of this session (mkrow.py). -/
import Derived.Test.YtiglgckhikipeaaDoorPDocx0
import Derived.Test.YtiglgckhikipeaaDoorRd
namespace Go.Proofs.YtiglgckhikipeaaDoor.PDoc
open Go.RowKit Go.Proofs.YtiglgckhikipeaaDoorW.PrintWords Go.Proofs.YtiglgckhikipeaaDoor.Rd
def ok43 (x : S43) : Prop := x.f0.size ≤ 140737488351232 ∧ (Lit.int .i64 x.f1).wf = true
def m43 (x : S43) : Nat := (x.f0.size + 0)
theorem opens43 : Opens Tryd.prog 43 k43 ok43 m43 := opens_iso (opens_struct Tryd.underlying43 (by kernel_rfl) (opensF_cons rfl (by kernel_rfl) rfl (opens_string Tryd.underlying9) (opensF_one rfl (by kernel_rfl) (opens_int Tryd.underlying3)))) (fun x : S43 => (x.f0, x.f1)) (fun y => ⟨y.1, y.2⟩) (fun _ => rfl)
end Go.Proofs.YtiglgckhikipeaaDoor.PDoc
