-- Written by a program of this session (gen.py).
import Derived.Test.YtiglgckhikipeaaPOrdx0
import Derived.Test.YtiglgckhikipeaaPOrdx1
import Derived.Test.YtiglgckhikipeaaPOrdx2
import Derived.Test.YtiglgckhikipeaaPOrdx3
import Derived.Test.YtiglgckhikipeaaPOrdx4
import Derived.Test.YtiglgckhikipeaaPOrdx5
import Derived.Test.YtiglgckhikipeaaPOrdx6
import Derived.Test.YtiglgckhikipeaaPOrdx7
import Derived.Test.YtiglgckhikipeaaPOrdx8
namespace Go.Proofs.Ytiglgckhikipeaa.POrd
open Go.RowKit Go.Proofs.YtiglgckhikipeaaW.PrintWords Go.Proofs.YtiglgckhikipeaaW.PrintLast Go.Proofs.YtiglgckhikipeaaW.PrintMore
open Go.Proofs.Ytiglgckhikipeaa.Own
attribute [local go_sem high] unary_not_u32 unary_not_u64 unary_not_u8 string_leq_ string_gtr_
attribute [local go_sem] max2_int min2_int max_two min_two max_three min_three max_four min_four   -- for this text's walks alone
set_option linter.unusedVariables false
set_option linter.unusedSimpArgs false

end Go.Proofs.Ytiglgckhikipeaa.POrd
