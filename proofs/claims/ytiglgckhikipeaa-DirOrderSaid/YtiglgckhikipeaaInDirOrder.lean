/- What a row of this seat knows of the input of DirOrder. Written by a program of this session (mkrow.py). -/
import Derived.Test.YtiglgckhikipeaaPOrdx0
import Derived.Test.YtiglgckhikipeaaRd
namespace Go.Proofs.Ytiglgckhikipeaa.POrd
open Go.RowKit Go.Proofs.YtiglgckhikipeaaW.PrintWords Go.Proofs.Ytiglgckhikipeaa.Rd
def ok37 (x : S37) : Prop := x.f0.size ≤ 140737488351232 ∧ (Lit.int .i64 x.f1).wf = true
theorem opens37 : Opens Try.prog 37 k37 ok37 := opens_iso (opens_struct Try.underlying37 (by kernel_rfl) (opensF_cons rfl (by kernel_rfl) rfl (opens_string Try.underlying9) (opensF_one rfl (by kernel_rfl) (opens_int Try.underlying3)))) (fun x : S37 => (x.f0, x.f1)) (fun y => ⟨y.1, y.2⟩) (fun _ => rfl)
end Go.Proofs.Ytiglgckhikipeaa.POrd
