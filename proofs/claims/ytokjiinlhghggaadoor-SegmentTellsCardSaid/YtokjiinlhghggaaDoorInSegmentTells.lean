/- What a row of this seat knows of the input of SegmentTells. Written by a program of this session (mkrow.py). -/
import Derived.Test.YtokjiinlhghggaaDoorPTelx0
import Derived.Test.YtokjiinlhghggaaDoorRd
namespace Go.Proofs.YtokjiinlhghggaaDoor.PTel
open Go.RowKit Go.Proofs.YtokjiinlhghggaaDoorW.PrintWords Go.Proofs.YtokjiinlhghggaaDoor.Rd
set_option linter.unusedVariables false
structure S24 where
  f0 : Int
  f1 : (List S60)
def k24 : Kd S24 := Kd.iso (Kd.pair (Kd.int .i64) (Kd.slice 60 k60)) (fun x : S24 => (x.f0, x.f1))
theorem k24_open {w : World} {x : S24} {cs : List Value} (h : k24.K w x cs) : ∃ A1 c1, cs = [.int .i64 x.f0, .slice A1 x.f1.length c1] ∧ x.f1.length ≤ c1 ∧ Kd.C k60 w A1 x.f1.length x.f1 := by
  obtain ⟨_, _, rfl, rfl, ⟨A1, c1, rfl, l1, g1⟩⟩ := h
  exact ⟨A1, c1, rfl, l1, g1⟩
def ok60 (x : S60) : Prop := (Lit.int .i64 x.f0).wf = true ∧ (Lit.int .i64 x.f1).wf = true ∧ (x.f2.length * 1 ≤ 140737488351232 ∧ x.f2.length ≤ maxLen ∧ ∀ y25 ∈ x.f2, (Lit.int .u8 y25).wf = true)
def m60 (x : S60) : Nat := (0 + (0 + (x.f2.length + (x.f2.map fun z25 => 0).sum)))
theorem opens60 : Opens Tryd.prog 60 k60 ok60 m60 := opens_iso (opens_struct Tryd.underlying60 (by kernel_rfl) (opensF_cons rfl (by kernel_rfl) rfl (opens_int Tryd.underlying3) (opensF_cons rfl (by kernel_rfl) rfl (opens_int Tryd.underlying3) (opensF_one rfl (by kernel_rfl) (opens_slice (B := 1) Tryd.underlying25 (by kernel_rfl) (by kernel_rfl) (opens_int Tryd.underlying5)))))) (fun x : S60 => (x.f0, x.f1, x.f2)) (fun y => ⟨y.1, y.2.1, y.2.2⟩) (fun _ => rfl)
def ok24 (x : S24) : Prop := (Lit.int .i64 x.f0).wf = true ∧ (x.f1.length * 40 ≤ 140737488351232 ∧ x.f1.length ≤ maxLen ∧ ∀ y22 ∈ x.f1, ok60 y22)
def m24 (x : S24) : Nat := (0 + (x.f1.length + (x.f1.map fun z22 => m60 z22).sum))
theorem opens24 : Opens Tryd.prog 24 k24 ok24 m24 := opens_iso (opens_struct Tryd.underlying24 (by kernel_rfl) (opensF_cons rfl (by kernel_rfl) rfl (opens_int Tryd.underlying3) (opensF_one rfl (by kernel_rfl) (opens_slice (B := 40) Tryd.underlying22 (by kernel_rfl) (by kernel_rfl) opens60)))) (fun x : S24 => (x.f0, x.f1)) (fun y => ⟨y.1, y.2⟩) (fun _ => rfl)
end Go.Proofs.YtokjiinlhghggaaDoor.PTel
