-- Written by a program of this session (gen.py).
import Derived.Test.YtofflfacfjkikaaDoorPCtex0
import Derived.Test.YtofflfacfjkikaaDoorPCtex1
import Derived.Test.YtofflfacfjkikaaDoorPCtex2
import Derived.Test.YtofflfacfjkikaaDoorPCtex3
import Derived.Test.YtofflfacfjkikaaDoorPCtex4
import Derived.Test.YtofflfacfjkikaaDoorPCtex5
import Derived.Test.YtofflfacfjkikaaDoorPCtex6
import Derived.Test.YtofflfacfjkikaaDoorPCtex7
import Derived.Test.YtofflfacfjkikaaDoorPCtex8
import Derived.Test.YtofflfacfjkikaaDoorPCtex9
import Derived.Test.YtofflfacfjkikaaDoorPCtex10
import Derived.Test.YtofflfacfjkikaaDoorPCtex11
import Derived.Test.YtofflfacfjkikaaDoorPCtex12
import Derived.Test.YtofflfacfjkikaaDoorPCtex13
import Derived.Test.YtofflfacfjkikaaDoorPCtex14
namespace Go.Proofs.YtofflfacfjkikaaDoor.PCte
open Go.RowKit Go.Proofs.YtofflfacfjkikaaDoorW.PrintWords Go.Proofs.YtofflfacfjkikaaDoorW.PrintLast Go.Proofs.YtofflfacfjkikaaDoorW.PrintMore
open Go.Proofs.YtofflfacfjkikaaDoor.Own
attribute [local go_sem high] unary_not_u32 unary_not_u64 unary_not_u8 string_leq_ string_gtr_
attribute [local go_sem] max2_int min2_int max_two min_two max_three min_three max_four min_four   -- for this text's walks alone
set_option linter.unusedVariables false
set_option linter.unusedSimpArgs false

end Go.Proofs.YtofflfacfjkikaaDoor.PCte
