-- Written by a program of this session (gen.py).
import Derived.Test.YtofflfacfjkikaaPClix0
import Derived.Test.YtofflfacfjkikaaPClix1
import Derived.Test.YtofflfacfjkikaaPClix2
import Derived.Test.YtofflfacfjkikaaPClix3
import Derived.Test.YtofflfacfjkikaaPClix4
import Derived.Test.YtofflfacfjkikaaPClix5
import Derived.Test.YtofflfacfjkikaaPClix6
import Derived.Test.YtofflfacfjkikaaPClix7
import Derived.Test.YtofflfacfjkikaaPClix8
import Derived.Test.YtofflfacfjkikaaPClix9
namespace Go.Proofs.Ytofflfacfjkikaa.PCli
open Go.RowKit Go.Proofs.YtofflfacfjkikaaW.PrintWords Go.Proofs.YtofflfacfjkikaaW.PrintLast Go.Proofs.YtofflfacfjkikaaW.PrintMore
open Go.Proofs.Ytofflfacfjkikaa.Own
attribute [local go_sem high] unary_not_u32 unary_not_u64 unary_not_u8 string_leq_ string_gtr_
attribute [local go_sem] max2_int min2_int max_two min_two max_three min_three max_four min_four   -- for this text's walks alone
set_option linter.unusedVariables false
set_option linter.unusedSimpArgs false

end Go.Proofs.Ytofflfacfjkikaa.PCli
