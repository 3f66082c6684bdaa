-- Written by a program of this session (gen.py).
import Derived.Test.YtofflfacfjkikaaPOncx0
import Derived.Test.YtofflfacfjkikaaPOncx1
import Derived.Test.YtofflfacfjkikaaPOncx2
import Derived.Test.YtofflfacfjkikaaPOncx3
import Derived.Test.YtofflfacfjkikaaPOncx4
import Derived.Test.YtofflfacfjkikaaPOncx5
namespace Go.Proofs.Ytofflfacfjkikaa.POnc
open Go.RowKit Go.Proofs.YtofflfacfjkikaaW.PrintWords Go.Proofs.YtofflfacfjkikaaW.PrintLast Go.Proofs.YtofflfacfjkikaaW.PrintMore
open Go.Proofs.Ytofflfacfjkikaa.Own
attribute [local go_sem high] unary_not_u32 unary_not_u64 unary_not_u8 string_leq_ string_gtr_
attribute [local go_sem] max2_int min2_int max_two min_two max_three min_three max_four min_four   -- for this text's walks alone
set_option linter.unusedVariables false
set_option linter.unusedSimpArgs false

end Go.Proofs.Ytofflfacfjkikaa.POnc
