/- What a row of this seat knows of the input of FileCut. Written by a program of this session (mkrow.py). -/
import Derived.Test.YtomebhohkonhlaaDoorPFctx0
import Derived.Test.YtomebhohkonhlaaDoorRd
namespace Go.Proofs.YtomebhohkonhlaaDoor.PFct
open Go.RowKit Go.Proofs.YtomebhohkonhlaaDoorW.PrintWords Go.Proofs.YtomebhohkonhlaaDoor.Rd
set_option linter.unusedVariables false
structure S24 where
  f0 : Int
  f1 : (List S57)
def k24 : Kd S24 := Kd.iso (Kd.pair (Kd.int .i64) (Kd.slice 57 k57)) (fun x : S24 => (x.f0, x.f1))
theorem k24_open {w : World} {x : S24} {cs : List Value} (h : k24.K w x cs) : ∃ A1 c1, cs = [.int .i64 x.f0, .slice A1 x.f1.length c1] ∧ x.f1.length ≤ c1 ∧ Kd.C k57 w A1 x.f1.length x.f1 := by
  obtain ⟨_, _, rfl, rfl, ⟨A1, c1, rfl, l1, g1⟩⟩ := h
  exact ⟨A1, c1, rfl, l1, g1⟩
def ok57 (x : S57) : Prop := (Lit.int .i64 x.f0).wf = true ∧ (x.f1.length * 1 ≤ 140737488351232 ∧ x.f1.length ≤ maxLen ∧ ∀ y25 ∈ x.f1, (Lit.int .u8 y25).wf = true)
def m57 (x : S57) : Nat := (0 + (x.f1.length + (x.f1.map fun z25 => 0).sum))
theorem opens57 : Opens Tryd.prog 57 k57 ok57 m57 := opens_iso (opens_struct Tryd.underlying57 (by kernel_rfl) (opensF_cons rfl (by kernel_rfl) rfl (opens_int Tryd.underlying3) (opensF_one rfl (by kernel_rfl) (opens_slice (B := 1) Tryd.underlying25 (by kernel_rfl) (by kernel_rfl) (opens_int Tryd.underlying5))))) (fun x : S57 => (x.f0, x.f1)) (fun y => ⟨y.1, y.2⟩) (fun _ => rfl)
def ok24 (x : S24) : Prop := (Lit.int .i64 x.f0).wf = true ∧ (x.f1.length * 32 ≤ 140737488351232 ∧ x.f1.length ≤ maxLen ∧ ∀ y22 ∈ x.f1, ok57 y22)
def m24 (x : S24) : Nat := (0 + (x.f1.length + (x.f1.map fun z22 => m57 z22).sum))
theorem opens24 : Opens Tryd.prog 24 k24 ok24 m24 := opens_iso (opens_struct Tryd.underlying24 (by kernel_rfl) (opensF_cons rfl (by kernel_rfl) rfl (opens_int Tryd.underlying3) (opensF_one rfl (by kernel_rfl) (opens_slice (B := 32) Tryd.underlying22 (by kernel_rfl) (by kernel_rfl) opens57)))) (fun x : S24 => (x.f0, x.f1)) (fun y => ⟨y.1, y.2⟩) (fun _ => rfl)
end Go.Proofs.YtomebhohkonhlaaDoor.PFct
