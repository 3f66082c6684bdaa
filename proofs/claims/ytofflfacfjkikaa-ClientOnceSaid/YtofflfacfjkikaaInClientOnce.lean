/- What a row of this seat knows of the input of ClientOnce. Written by a program of this session (mkrow.py). -/
import Derived.Test.YtofflfacfjkikaaPOncx0
import Derived.Test.YtofflfacfjkikaaRd
namespace Go.Proofs.Ytofflfacfjkikaa.POnc
open Go.RowKit Go.Proofs.YtofflfacfjkikaaW.PrintWords Go.Proofs.Ytofflfacfjkikaa.Rd
set_option linter.unusedVariables false
def ok46 (x : S46) : Prop := (Lit.int .i64 x.f0).wf = true ∧ (Lit.int .i64 x.f1).wf = true
def m46 (x : S46) : Nat := (0 + 0)
theorem opens46 : Opens Try.prog 46 k46 ok46 m46 := opens_iso (opens_struct Try.underlying46 (by kernel_rfl) (opensF_cons rfl (by kernel_rfl) rfl (opens_int Try.underlying3) (opensF_one rfl (by kernel_rfl) (opens_int Try.underlying3)))) (fun x : S46 => (x.f0, x.f1)) (fun y => ⟨y.1, y.2⟩) (fun _ => rfl)
end Go.Proofs.Ytofflfacfjkikaa.POnc
