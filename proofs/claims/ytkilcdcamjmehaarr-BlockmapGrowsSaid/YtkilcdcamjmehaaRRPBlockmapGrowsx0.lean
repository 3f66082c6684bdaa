-- Written by a program of this session (gen.py).
import Derived.Test.YtkilcdcamjmehaaRRProg
import Derived.Below
import Derived.Deep.Draws
import Derived.Deep.AppendLies
import Derived.Maps.AppendAt
import Derived.OwnWalk
import Derived.Laws.BytesArg
import Derived.Laws.MakeOwn
import Derived.Laws.OwnMore
import Derived.Deep.OwnRows
import Derived.Tactics
import Derived.Lib.ConvBytes
import Derived.Laws.Slices
import Derived.WalkKit
import Derived.KernelRfl
import Derived.RowKit3
import Derived.Deep.LoopGhost
import Derived.Deep.QuietTactic
import Derived.BigQuiet
import Derived.WideLaws
import Derived.Deep.DeepCutAuto
import Derived.Deep.CutBlock
import Derived.Deep.RegionHeld3
import Derived.Laws.Rows
import Derived.Lib.AppendStr
import Derived.ArgAppend
import Derived.Laws.IdiomCopy
import Derived.OrdersHeld
import Derived.Laws.BitsLemmas
import Derived.RowKit
import Derived.Test.YtkilcdcamjmehaaRROwn
import Derived.Test.YtkilcdcamjmehaaRRWWords
import Derived.Test.YtkilcdcamjmehaaRRWLast
import Derived.Test.YtkilcdcamjmehaaRRWTab
import Derived.Test.YtkilcdcamjmehaaRRWFour
import Derived.Test.YtkilcdcamjmehaaRRWQPut
import Derived.Test.YtkilcdcamjmehaaRRWApart
import Derived.Test.YtkilcdcamjmehaaRRWArr
import Derived.Test.YtkilcdcamjmehaaRRWZeros
import Derived.Test.YtkilcdcamjmehaaRRWFoot
import Derived.Test.YtkilcdcamjmehaaRRWKept
import Derived.Test.YtkilcdcamjmehaaRRWShare
import Derived.Test.YtkilcdcamjmehaaRRWN
import Derived.Test.YtkilcdcamjmehaaRRWFootNe
import Derived.Test.YtkilcdcamjmehaaRRWAt
import Derived.Test.YtkilcdcamjmehaaRRWEqStruct
import Derived.Test.YtkilcdcamjmehaaRRWRepsOne
import Derived.Test.YtkilcdcamjmehaaRRWInv
import Derived.Test.YtkilcdcamjmehaaRRWInvWords
import Derived.Test.YtkilcdcamjmehaaRRWGuard
import Derived.Test.YtkilcdcamjmehaaRRWNEv
import Derived.Test.YtkilcdcamjmehaaRRWMore
namespace Go.Proofs.YtkilcdcamjmehaaRR.PBlockmapGrows
open Go.RowKit Go.Proofs.YtkilcdcamjmehaaRRW.PrintWords Go.Proofs.YtkilcdcamjmehaaRRW.PrintLast Go.Proofs.YtkilcdcamjmehaaRRW.PrintMore
open Go.Proofs.YtkilcdcamjmehaaRR.Own
attribute [local go_sem high] unary_not_u32 unary_not_u64 unary_not_u8
attribute [local go_sem] max2_int min2_int max_two min_two max_three min_three max_four min_four   -- for this text's walks alone
set_option linter.unusedVariables false
set_option linter.unusedSimpArgs false



def errW : Option Int → Value
  | none => .nilIface
  | some c => .iface 0 (.int .i64 c)
theorem errW_none : errW none = .nilIface := rfl
theorem errW_some (c : Int) : errW (some c) = .iface 0 (.int .i64 c) := rfl

theorem info3 : (Try.prog.info? 3).map (fun i => (i.zero, i.size, i.bytes)) = some (some (.int .i64 0), 1, 8) := by kernel_rfl
-- the values' own types

end Go.Proofs.YtkilcdcamjmehaaRR.PBlockmapGrows
