-- Written by a program of this session (gen.py).
import Derived.Test.YtofflfacfjkikaaDoorPCbkx0
import Derived.Test.YtofflfacfjkikaaDoorPCbkx1
import Derived.Test.YtofflfacfjkikaaDoorPCbkx2
import Derived.Test.YtofflfacfjkikaaDoorPCbkx3
import Derived.Test.YtofflfacfjkikaaDoorPCbkx4
import Derived.Test.YtofflfacfjkikaaDoorPCbkx5
import Derived.Test.YtofflfacfjkikaaDoorPCbkx6
import Derived.Test.YtofflfacfjkikaaDoorPCbkx7
import Derived.Test.YtofflfacfjkikaaDoorPCbkx8
import Derived.Test.YtofflfacfjkikaaDoorPCbkx9
namespace Go.Proofs.YtofflfacfjkikaaDoor.PCbk
open Go.RowKit Go.Proofs.YtofflfacfjkikaaDoorW.PrintWords Go.Proofs.YtofflfacfjkikaaDoorW.PrintLast Go.Proofs.YtofflfacfjkikaaDoorW.PrintMore
open Go.Proofs.YtofflfacfjkikaaDoor.Own
attribute [local go_sem high] unary_not_u32 unary_not_u64 unary_not_u8 string_leq_ string_gtr_
attribute [local go_sem] max2_int min2_int max_two min_two max_three min_three max_four min_four   -- for this text's walks alone
set_option linter.unusedVariables false
set_option linter.unusedSimpArgs false

end Go.Proofs.YtofflfacfjkikaaDoor.PCbk
