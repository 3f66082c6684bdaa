/- What a row of this seat knows of the input of ImageWhole. Written by a program of this session (mkrow.py). -/
import Derived.Test.YtfakjmjkodkceaaGreatDoorPImwx0
import Derived.Test.YtfakjmjkodkceaaGreatDoorRd
namespace Go.Proofs.YtfakjmjkodkceaaGreatDoor.PImw
open Go.RowKit Go.Proofs.YtfakjmjkodkceaaGreatDoorW.PrintWords Go.Proofs.YtfakjmjkodkceaaGreatDoor.Rd
set_option linter.unusedVariables false
def ok101 (x : S101) : Prop := x.f0.size ≤ 140737488351232 ∧ (Lit.int .i64 x.f1).wf = true
def m101 (x : S101) : Nat := (x.f0.size + 0)
theorem opens101 : Opens Tryz.prog 101 k101 ok101 m101 := opens_iso (opens_struct Tryz.underlying101 (by kernel_rfl) (opensF_cons rfl (by kernel_rfl) rfl (opens_string Tryz.underlying9) (opensF_one rfl (by kernel_rfl) (opens_int Tryz.underlying3)))) (fun x : S101 => (x.f0, x.f1)) (fun y => ⟨y.1, y.2⟩) (fun _ => rfl)
def ok102 (x : S102) : Prop := (Lit.int .i64 x.f0).wf = true ∧ (x.f1.length * 1 ≤ 140737488351232 ∧ x.f1.length ≤ maxLen ∧ ∀ y41 ∈ x.f1, (Lit.int .u8 y41).wf = true)
def m102 (x : S102) : Nat := (0 + (x.f1.length + (x.f1.map fun z41 => 0).sum))
theorem opens102 : Opens Tryz.prog 102 k102 ok102 m102 := opens_iso (opens_struct Tryz.underlying102 (by kernel_rfl) (opensF_cons rfl (by kernel_rfl) rfl (opens_int Tryz.underlying3) (opensF_one rfl (by kernel_rfl) (opens_slice (B := 1) Tryz.underlying41 (by kernel_rfl) (by kernel_rfl) (opens_int Tryz.underlying5))))) (fun x : S102 => (x.f0, x.f1)) (fun y => ⟨y.1, y.2⟩) (fun _ => rfl)
def ok60 (x : S60) : Prop := (Lit.int .i64 x.f0).wf = true ∧ (x.f1.length * 32 ≤ 140737488351232 ∧ x.f1.length ≤ maxLen ∧ ∀ y58 ∈ x.f1, ok102 y58)
def m60 (x : S60) : Nat := (0 + (x.f1.length + (x.f1.map fun z58 => m102 z58).sum))
theorem opens60 : Opens Tryz.prog 60 k60 ok60 m60 := opens_iso (opens_struct Tryz.underlying60 (by kernel_rfl) (opensF_cons rfl (by kernel_rfl) rfl (opens_int Tryz.underlying3) (opensF_one rfl (by kernel_rfl) (opens_slice (B := 32) Tryz.underlying58 (by kernel_rfl) (by kernel_rfl) opens102)))) (fun x : S60 => (x.f0, x.f1)) (fun y => ⟨y.1, y.2⟩) (fun _ => rfl)
def ok62 (x : S62) : Prop := (Lit.int .i64 x.f0).wf = true ∧ True ∧ (Lit.int .i64 x.f2).wf = true ∧ (x.f3.length * 24 ≤ 140737488351232 ∧ x.f3.length ≤ maxLen ∧ ∀ y57 ∈ x.f3, ok101 y57) ∧ ok60 x.f4
def m62 (x : S62) : Nat := (0 + (0 + (0 + ((x.f3.length + (x.f3.map fun z57 => m101 z57).sum) + m60 x.f4))))
theorem opens62 : Opens Tryz.prog 62 k62 ok62 m62 := opens_iso (opens_struct Tryz.underlying62 (by kernel_rfl) (opensF_cons rfl (by kernel_rfl) rfl (opens_int Tryz.underlying3) (opensF_cons rfl (by kernel_rfl) rfl (opens_bool Tryz.underlying4) (opensF_cons rfl (by kernel_rfl) rfl (opens_int Tryz.underlying3) (opensF_cons rfl (by kernel_rfl) rfl (opens_slice (B := 24) Tryz.underlying57 (by kernel_rfl) (by kernel_rfl) opens101) (opensF_one rfl (by kernel_rfl) opens60)))))) (fun x : S62 => (x.f0, x.f1, x.f2, x.f3, x.f4)) (fun y => ⟨y.1, y.2.1, y.2.2.1, y.2.2.2.1, y.2.2.2.2⟩) (fun _ => rfl)
def ok24 (x : S24) : Prop := (x.f0.length * 80 ≤ 140737488351232 ∧ x.f0.length ≤ maxLen ∧ ∀ y22 ∈ x.f0, ok62 y22) ∧ (Lit.int .i64 x.f1).wf = true
def m24 (x : S24) : Nat := ((x.f0.length + (x.f0.map fun z22 => m62 z22).sum) + 0)
theorem opens24 : Opens Tryz.prog 24 k24 ok24 m24 := opens_iso (opens_struct Tryz.underlying24 (by kernel_rfl) (opensF_cons rfl (by kernel_rfl) rfl (opens_slice (B := 80) Tryz.underlying22 (by kernel_rfl) (by kernel_rfl) opens62) (opensF_one rfl (by kernel_rfl) (opens_int Tryz.underlying3)))) (fun x : S24 => (x.f0, x.f1)) (fun y => ⟨y.1, y.2⟩) (fun _ => rfl)
end Go.Proofs.YtfakjmjkodkceaaGreatDoor.PImw
