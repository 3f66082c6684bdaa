-- Written by a program of this session (gen.py).
import Derived.Test.YtokjiinlhghggaaDoorPSowx0
import Derived.Test.YtokjiinlhghggaaDoorPSowx1
import Derived.Test.YtokjiinlhghggaaDoorPSowx2
import Derived.Test.YtokjiinlhghggaaDoorPSowx3
import Derived.Test.YtokjiinlhghggaaDoorPSowx4
import Derived.Test.YtokjiinlhghggaaDoorPSowx5
import Derived.Test.YtokjiinlhghggaaDoorPSowx6
import Derived.Test.YtokjiinlhghggaaDoorPSowx7
namespace Go.Proofs.YtokjiinlhghggaaDoor.PSow
open Go.RowKit Go.Proofs.YtokjiinlhghggaaDoorW.PrintWords Go.Proofs.YtokjiinlhghggaaDoorW.PrintLast Go.Proofs.YtokjiinlhghggaaDoorW.PrintMore
open Go.Proofs.YtokjiinlhghggaaDoor.Own
attribute [local go_sem high] unary_not_u32 unary_not_u64 unary_not_u8 string_leq_ string_gtr_
attribute [local go_sem] max2_int min2_int max_two min_two max_three min_three max_four min_four   -- for this text's walks alone
set_option linter.unusedVariables false
set_option linter.unusedSimpArgs false

end Go.Proofs.YtokjiinlhghggaaDoor.PSow
