-- Written by a program of this session (gen.py).
import Derived.Test.YtkcianklokikoaaDoorPWlix0
import Derived.Test.YtkcianklokikoaaDoorPWlix1
import Derived.Test.YtkcianklokikoaaDoorPWlix2
import Derived.Test.YtkcianklokikoaaDoorPWlix3
import Derived.Test.YtkcianklokikoaaDoorPWlix4
import Derived.Test.YtkcianklokikoaaDoorPWlix5
namespace Go.Proofs.YtkcianklokikoaaDoor.PWli
open Go.RowKit Go.Proofs.YtkcianklokikoaaDoorW.PrintWords Go.Proofs.YtkcianklokikoaaDoorW.PrintLast Go.Proofs.YtkcianklokikoaaDoorW.PrintMore
open Go.Proofs.YtkcianklokikoaaDoor.Own
attribute [local go_sem high] unary_not_u32 unary_not_u64 unary_not_u8 string_leq_ string_gtr_
attribute [local go_sem] max2_int min2_int max_two min_two max_three min_three max_four min_four   -- for this text's walks alone
set_option linter.unusedVariables false
set_option linter.unusedSimpArgs false

end Go.Proofs.YtkcianklokikoaaDoor.PWli
