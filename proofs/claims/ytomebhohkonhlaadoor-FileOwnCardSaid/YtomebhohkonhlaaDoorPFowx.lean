-- Written by a program of this session (gen.py).
import Derived.Test.YtomebhohkonhlaaDoorPFowx0
import Derived.Test.YtomebhohkonhlaaDoorPFowx1
import Derived.Test.YtomebhohkonhlaaDoorPFowx2
import Derived.Test.YtomebhohkonhlaaDoorPFowx3
import Derived.Test.YtomebhohkonhlaaDoorPFowx4
import Derived.Test.YtomebhohkonhlaaDoorPFowx5
import Derived.Test.YtomebhohkonhlaaDoorPFowx6
import Derived.Test.YtomebhohkonhlaaDoorPFowx7
import Derived.Test.YtomebhohkonhlaaDoorPFowx8
import Derived.Test.YtomebhohkonhlaaDoorPFowx9
namespace Go.Proofs.YtomebhohkonhlaaDoor.PFow
open Go.RowKit Go.Proofs.YtomebhohkonhlaaDoorW.PrintWords Go.Proofs.YtomebhohkonhlaaDoorW.PrintLast Go.Proofs.YtomebhohkonhlaaDoorW.PrintMore
open Go.Proofs.YtomebhohkonhlaaDoor.Own
attribute [local go_sem high] unary_not_u32 unary_not_u64 unary_not_u8 string_leq_ string_gtr_
attribute [local go_sem] max2_int min2_int max_two min_two max_three min_three max_four min_four   -- for this text's walks alone
set_option linter.unusedVariables false
set_option linter.unusedSimpArgs false

end Go.Proofs.YtomebhohkonhlaaDoor.PFow
