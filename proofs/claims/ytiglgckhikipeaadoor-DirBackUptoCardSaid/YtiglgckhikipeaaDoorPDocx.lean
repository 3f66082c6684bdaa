-- Written by a program of this session (gen.py).
import Derived.Test.YtiglgckhikipeaaDoorPDocx0
import Derived.Test.YtiglgckhikipeaaDoorPDocx1
import Derived.Test.YtiglgckhikipeaaDoorPDocx2
import Derived.Test.YtiglgckhikipeaaDoorPDocx3
import Derived.Test.YtiglgckhikipeaaDoorPDocx4
import Derived.Test.YtiglgckhikipeaaDoorPDocx5
import Derived.Test.YtiglgckhikipeaaDoorPDocx6
import Derived.Test.YtiglgckhikipeaaDoorPDocx7
import Derived.Test.YtiglgckhikipeaaDoorPDocx8
import Derived.Test.YtiglgckhikipeaaDoorPDocx9
import Derived.Test.YtiglgckhikipeaaDoorPDocx10
import Derived.Test.YtiglgckhikipeaaDoorPDocx11
namespace Go.Proofs.YtiglgckhikipeaaDoor.PDoc
open Go.RowKit Go.Proofs.YtiglgckhikipeaaDoorW.PrintWords Go.Proofs.YtiglgckhikipeaaDoorW.PrintLast Go.Proofs.YtiglgckhikipeaaDoorW.PrintMore
open Go.Proofs.YtiglgckhikipeaaDoor.Own
attribute [local go_sem high] unary_not_u32 unary_not_u64 unary_not_u8 string_leq_ string_gtr_
attribute [local go_sem] max2_int min2_int max_two min_two max_three min_three max_four min_four   -- for this text's walks alone
set_option linter.unusedVariables false
set_option linter.unusedSimpArgs false

end Go.Proofs.YtiglgckhikipeaaDoor.PDoc
