-- Written by a program of this session (gen.py).
import Derived.Test.YtokjiinlhghggaaDoorPTelx0
import Derived.Test.YtokjiinlhghggaaDoorPTelx1
import Derived.Test.YtokjiinlhghggaaDoorPTelx2
import Derived.Test.YtokjiinlhghggaaDoorPTelx3
import Derived.Test.YtokjiinlhghggaaDoorPTelx4
import Derived.Test.YtokjiinlhghggaaDoorPTelx5
import Derived.Test.YtokjiinlhghggaaDoorPTelx6
import Derived.Test.YtokjiinlhghggaaDoorPTelx7
import Derived.Test.YtokjiinlhghggaaDoorPTelx8
import Derived.Test.YtokjiinlhghggaaDoorPTelx9
import Derived.Test.YtokjiinlhghggaaDoorPTelx10
import Derived.Test.YtokjiinlhghggaaDoorPTelx11
import Derived.Test.YtokjiinlhghggaaDoorPTelx12
namespace Go.Proofs.YtokjiinlhghggaaDoor.PTel
open Go.RowKit Go.Proofs.YtokjiinlhghggaaDoorW.PrintWords Go.Proofs.YtokjiinlhghggaaDoorW.PrintLast Go.Proofs.YtokjiinlhghggaaDoorW.PrintMore
open Go.Proofs.YtokjiinlhghggaaDoor.Own
attribute [local go_sem high] unary_not_u32 unary_not_u64 unary_not_u8 string_leq_ string_gtr_
attribute [local go_sem] max2_int min2_int max_two min_two max_three min_three max_four min_four   -- for this text's walks alone
set_option linter.unusedVariables false
set_option linter.unusedSimpArgs false

end Go.Proofs.YtokjiinlhghggaaDoor.PTel
