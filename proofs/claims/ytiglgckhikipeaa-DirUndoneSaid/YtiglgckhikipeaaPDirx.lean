-- Written by a program of this session (gen.py).
import Derived.Test.YtiglgckhikipeaaPDirx0
import Derived.Test.YtiglgckhikipeaaPDirx1
import Derived.Test.YtiglgckhikipeaaPDirx2
import Derived.Test.YtiglgckhikipeaaPDirx3
import Derived.Test.YtiglgckhikipeaaPDirx4
import Derived.Test.YtiglgckhikipeaaPDirx5
import Derived.Test.YtiglgckhikipeaaPDirx6
import Derived.Test.YtiglgckhikipeaaPDirx7
import Derived.Test.YtiglgckhikipeaaPDirx8
import Derived.Test.YtiglgckhikipeaaPDirx9
import Derived.Test.YtiglgckhikipeaaPDirx10
import Derived.Test.YtiglgckhikipeaaPDirx11
namespace Go.Proofs.Ytiglgckhikipeaa.PDir
open Go.RowKit Go.Proofs.YtiglgckhikipeaaW.PrintWords Go.Proofs.YtiglgckhikipeaaW.PrintLast Go.Proofs.YtiglgckhikipeaaW.PrintMore
open Go.Proofs.Ytiglgckhikipeaa.Own
attribute [local go_sem high] unary_not_u32 unary_not_u64 unary_not_u8 string_leq_ string_gtr_
attribute [local go_sem] max2_int min2_int max_two min_two max_three min_three max_four min_four   -- for this text's walks alone
set_option linter.unusedVariables false
set_option linter.unusedSimpArgs false

end Go.Proofs.Ytiglgckhikipeaa.PDir
