/- What a row of this seat knows of the input of ClientBack. Written by a program of this session (mkrow.py). -/
import Derived.Test.YtofflfacfjkikaaDoorPCbkx0
import Derived.Test.YtofflfacfjkikaaDoorRd
namespace Go.Proofs.YtofflfacfjkikaaDoor.PCbk
open Go.RowKit Go.Proofs.YtofflfacfjkikaaDoorW.PrintWords Go.Proofs.YtofflfacfjkikaaDoor.Rd
set_option linter.unusedVariables false
structure S24 where
  f0 : Int
  f1 : Int
  f2 : (List Int)
def k24 : Kd S24 := Kd.iso (Kd.pair (Kd.int .i64) (Kd.pair (Kd.int .i64) (Kd.slice 5 (Kd.int .u8)))) (fun x : S24 => (x.f0, x.f1, x.f2))
theorem k24_open {w : World} {x : S24} {cs : List Value} (h : k24.K w x cs) : ∃ A2 c2, cs = [.int .i64 x.f0, .int .i64 x.f1, .slice A2 x.f2.length c2] ∧ x.f2.length ≤ c2 ∧ Kd.C (Kd.int .u8) w A2 x.f2.length x.f2 := by
  obtain ⟨_, _, rfl, rfl, ⟨_, _, rfl, rfl, ⟨A2, c2, rfl, l2, g2⟩⟩⟩ := h
  exact ⟨A2, c2, rfl, l2, g2⟩
def ok24 (x : S24) : Prop := (Lit.int .i64 x.f0).wf = true ∧ (Lit.int .i64 x.f1).wf = true ∧ (x.f2.length * 1 ≤ 140737488351232 ∧ x.f2.length ≤ maxLen ∧ ∀ y22 ∈ x.f2, (Lit.int .u8 y22).wf = true)
def m24 (x : S24) : Nat := (0 + (0 + (x.f2.length + (x.f2.map fun z22 => 0).sum)))
theorem opens24 : Opens Tryd.prog 24 k24 ok24 m24 := opens_iso (opens_struct Tryd.underlying24 (by kernel_rfl) (opensF_cons rfl (by kernel_rfl) rfl (opens_int Tryd.underlying3) (opensF_cons rfl (by kernel_rfl) rfl (opens_int Tryd.underlying3) (opensF_one rfl (by kernel_rfl) (opens_slice (B := 1) Tryd.underlying22 (by kernel_rfl) (by kernel_rfl) (opens_int Tryd.underlying5)))))) (fun x : S24 => (x.f0, x.f1, x.f2)) (fun y => ⟨y.1, y.2.1, y.2.2⟩) (fun _ => rfl)
end Go.Proofs.YtofflfacfjkikaaDoor.PCbk
