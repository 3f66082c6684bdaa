-- Written by a program of this session (gen.py).
import Derived.Test.YtpmojgifbbdncaaDoorPPthx0
import Derived.Test.YtpmojgifbbdncaaDoorPPthx1
import Derived.Test.YtpmojgifbbdncaaDoorPPthx2
import Derived.Test.YtpmojgifbbdncaaDoorPPthx3
import Derived.Test.YtpmojgifbbdncaaDoorPPthx4
import Derived.Test.YtpmojgifbbdncaaDoorPPthx5
import Derived.Test.YtpmojgifbbdncaaDoorPPthx6
namespace Go.Proofs.YtpmojgifbbdncaaDoor.PPth
open Go.RowKit Go.Proofs.YtpmojgifbbdncaaDoorW.PrintWords Go.Proofs.YtpmojgifbbdncaaDoorW.PrintLast Go.Proofs.YtpmojgifbbdncaaDoorW.PrintMore
open Go.Proofs.YtpmojgifbbdncaaDoor.Own
attribute [local go_sem high] unary_not_u32 unary_not_u64 unary_not_u8 string_leq_ string_gtr_
attribute [local go_sem] max2_int min2_int max_two min_two max_three min_three max_four min_four   -- for this text's walks alone
set_option linter.unusedVariables false
set_option linter.unusedSimpArgs false

end Go.Proofs.YtpmojgifbbdncaaDoor.PPth
