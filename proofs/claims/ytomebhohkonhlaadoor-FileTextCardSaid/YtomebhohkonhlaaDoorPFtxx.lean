-- Written by a program of this session (gen.py).
import Derived.Test.YtomebhohkonhlaaDoorPFtxx0
import Derived.Test.YtomebhohkonhlaaDoorPFtxx1
import Derived.Test.YtomebhohkonhlaaDoorPFtxx2
import Derived.Test.YtomebhohkonhlaaDoorPFtxx3
import Derived.Test.YtomebhohkonhlaaDoorPFtxx4
import Derived.Test.YtomebhohkonhlaaDoorPFtxx5
import Derived.Test.YtomebhohkonhlaaDoorPFtxx6
namespace Go.Proofs.YtomebhohkonhlaaDoor.PFtx
open Go.RowKit Go.Proofs.YtomebhohkonhlaaDoorW.PrintWords Go.Proofs.YtomebhohkonhlaaDoorW.PrintLast Go.Proofs.YtomebhohkonhlaaDoorW.PrintMore
open Go.Proofs.YtomebhohkonhlaaDoor.Own
attribute [local go_sem high] unary_not_u32 unary_not_u64 unary_not_u8 string_leq_ string_gtr_
attribute [local go_sem] max2_int min2_int max_two min_two max_three min_three max_four min_four   -- for this text's walks alone
set_option linter.unusedVariables false
set_option linter.unusedSimpArgs false

end Go.Proofs.YtomebhohkonhlaaDoor.PFtx
