-- Written by a program of this session (gen.py).
import Derived.Test.YtkcianklokikoaaDoorPWspx0
import Derived.Test.YtkcianklokikoaaDoorPWspx1
import Derived.Test.YtkcianklokikoaaDoorPWspx2
import Derived.Test.YtkcianklokikoaaDoorPWspx3
import Derived.Test.YtkcianklokikoaaDoorPWspx4
import Derived.Test.YtkcianklokikoaaDoorPWspx5
namespace Go.Proofs.YtkcianklokikoaaDoor.PWsp
open Go.RowKit Go.Proofs.YtkcianklokikoaaDoorW.PrintWords Go.Proofs.YtkcianklokikoaaDoorW.PrintLast Go.Proofs.YtkcianklokikoaaDoorW.PrintMore
open Go.Proofs.YtkcianklokikoaaDoor.Own
attribute [local go_sem high] unary_not_u32 unary_not_u64 unary_not_u8 string_leq_ string_gtr_
attribute [local go_sem] max2_int min2_int max_two min_two max_three min_three max_four min_four   -- for this text's walks alone
set_option linter.unusedVariables false
set_option linter.unusedSimpArgs false

end Go.Proofs.YtkcianklokikoaaDoor.PWsp
