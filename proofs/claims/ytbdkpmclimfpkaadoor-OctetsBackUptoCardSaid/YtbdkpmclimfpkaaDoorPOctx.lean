-- Written by a program of this session (gen.py).
import Derived.Test.YtbdkpmclimfpkaaDoorPOctx0
import Derived.Test.YtbdkpmclimfpkaaDoorPOctx1
import Derived.Test.YtbdkpmclimfpkaaDoorPOctx2
import Derived.Test.YtbdkpmclimfpkaaDoorPOctx3
import Derived.Test.YtbdkpmclimfpkaaDoorPOctx4
namespace Go.Proofs.YtbdkpmclimfpkaaDoor.POct
open Go.RowKit Go.Proofs.YtbdkpmclimfpkaaDoorW.PrintWords Go.Proofs.YtbdkpmclimfpkaaDoorW.PrintLast Go.Proofs.YtbdkpmclimfpkaaDoorW.PrintMore
open Go.Proofs.YtbdkpmclimfpkaaDoor.Own
attribute [local go_sem high] unary_not_u32 unary_not_u64 unary_not_u8 string_leq_ string_gtr_
attribute [local go_sem] max2_int min2_int max_two min_two max_three min_three max_four min_four   -- for this text's walks alone
set_option linter.unusedVariables false
set_option linter.unusedSimpArgs false

end Go.Proofs.YtbdkpmclimfpkaaDoor.POct
