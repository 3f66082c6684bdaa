-- Written by a program of this session (gen.py).
import Derived.Test.YtpmojgifbbdncaaDoorProg
import Derived.Below
import Derived.Deep.Draws
import Derived.Deep.AppendLies
import Derived.Maps.AppendAt
import Derived.OwnWalk
import Derived.Laws.BytesArg
import Derived.Laws.MakeOwn
import Derived.Laws.OwnMore
import Derived.Deep.OwnRows
import Derived.Tactics
import Derived.Lib.ConvBytes
import Derived.Laws.Slices
import Derived.WalkKit
import Derived.KernelRfl
import Derived.RowKit3
import Derived.Deep.LoopGhost
import Derived.Deep.QuietTactic
import Derived.BigQuiet
import Derived.WideLaws
import Derived.Deep.DeepCutAuto
import Derived.Deep.CutBlock
import Derived.Deep.RegionHeld3
import Derived.Laws.Rows
import Derived.Lib.AppendStr
import Derived.ArgAppend
import Derived.Laws.IdiomCopy
import Derived.OrdersHeld
import Derived.Laws.BitsLemmas
import Derived.RowKit
import Derived.RangeFuncNested
import Derived.RangeFuncBound
import Derived.RangeFuncCalls
import Derived.RangeFuncLeaves
import Derived.RangeFuncBox
import Derived.Shelf.Abstract
import Derived.OwnWalkIn
import Derived.TacticsInMore
import Derived.LoopNIn
import Derived.LoopIn
import Derived.Outline
import Derived.Lib.IndexLaws
import Derived.Lib.IndexBytes
import Derived.Test.YtpmojgifbbdncaaDoorShelf
import Derived.Lib.Strings
import Derived.Lib.Slices
import Derived.Lib.Walk
import Derived.Lib.Bytealg
import Derived.Test.YtpmojgifbbdncaaDoorOwn
import Derived.Test.YtpmojgifbbdncaaDoorWWords
import Derived.Test.YtpmojgifbbdncaaDoorWLast
import Derived.Test.YtpmojgifbbdncaaDoorWTab
import Derived.Test.YtpmojgifbbdncaaDoorWFour
import Derived.Test.YtpmojgifbbdncaaDoorWQPut
import Derived.Test.YtpmojgifbbdncaaDoorWApart
import Derived.Test.YtpmojgifbbdncaaDoorWArr
import Derived.Test.YtpmojgifbbdncaaDoorWZeros
import Derived.Test.YtpmojgifbbdncaaDoorWFoot
import Derived.Test.YtpmojgifbbdncaaDoorWKept
import Derived.Test.YtpmojgifbbdncaaDoorWShare
import Derived.Test.YtpmojgifbbdncaaDoorWN
import Derived.Test.YtpmojgifbbdncaaDoorWFootNe
import Derived.Test.YtpmojgifbbdncaaDoorWAt
import Derived.Test.YtpmojgifbbdncaaDoorWEqStruct
import Derived.Test.YtpmojgifbbdncaaDoorWRepsOne
import Derived.Test.YtpmojgifbbdncaaDoorWInv
import Derived.Test.YtpmojgifbbdncaaDoorWInvWords
import Derived.Test.YtpmojgifbbdncaaDoorWGuard
import Derived.Test.YtpmojgifbbdncaaDoorWNEv
import Derived.Test.YtpmojgifbbdncaaDoorWMore
namespace Go.Proofs.YtpmojgifbbdncaaDoor.PPth
open Go.RowKit Go.Proofs.YtpmojgifbbdncaaDoorW.PrintWords Go.Proofs.YtpmojgifbbdncaaDoorW.PrintLast Go.Proofs.YtpmojgifbbdncaaDoorW.PrintMore
open Go.Proofs.YtpmojgifbbdncaaDoor.Own
attribute [local go_sem high] unary_not_u32 unary_not_u64 unary_not_u8 string_leq_ string_gtr_
attribute [local go_sem] max2_int min2_int max_two min_two max_three min_three max_four min_four   -- for this text's walks alone
set_option linter.unusedVariables false
set_option linter.unusedSimpArgs false



def errW : Option Int → Value
  | none => .nilIface
  | some c => .iface 0 (.int .i64 c)
theorem errW_none : errW none = .nilIface := rfl
theorem errW_some (c : Int) : errW (some c) = .iface 0 (.int .i64 c) := rfl

theorem info9 : (Tryd.prog.info? 9).map (fun i => (i.zero, i.size, i.bytes)) = some (some (.string ⟨#[]⟩), 1, 16) := by kernel_rfl
-- the values' own types
def rd_L2 (xs : List (List ByteArray)) (i : Int) : (List ByteArray) := xs.getD i.toNat ([] : List ByteArray)
theorem at_L2 {w : World} {A : Option Addr} {n : Nat} {xs : List (List ByteArray)} (h : Kd.C (Kd.slice 9 Kd.string) w A n xs) (i : Int) (h0 : 0 ≤ i) (h1 : i < n) : ∃ ad A0 c0, A = some ad ∧ w.cell? (ad.add i.toNat) = some (.slice A0 (rd_L2 xs i).length c0) ∧ (rd_L2 xs i).length ≤ c0 ∧ Kd.string.C w A0 (rd_L2 xs i).length (rd_L2 xs i) := by
  obtain ⟨ad, c, e, _, hK, hc0⟩ := Kd.C_get h ([] : List ByteArray) i h0 h1
  have hc : ∀ j u, c[j]? = some u → w.cell? (ad.add (i.toNat * 1 + j)) = some u := hc0
  obtain ⟨A0, c0, rfl, l0, g0⟩ := hK
  exact ⟨ad, A0, c0, e, by have hq := hc 0 _ rfl; rwa [Nat.mul_one, Nat.add_zero] at hq, l0, g0⟩

end Go.Proofs.YtpmojgifbbdncaaDoor.PPth
