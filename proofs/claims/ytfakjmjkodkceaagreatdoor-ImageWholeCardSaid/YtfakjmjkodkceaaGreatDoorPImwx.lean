-- Written by a program of this session (gen.py).
import Derived.Test.YtfakjmjkodkceaaGreatDoorPImwx0
import Derived.Test.YtfakjmjkodkceaaGreatDoorPImwx1
import Derived.Test.YtfakjmjkodkceaaGreatDoorPImwx2
import Derived.Test.YtfakjmjkodkceaaGreatDoorPImwx3
import Derived.Test.YtfakjmjkodkceaaGreatDoorPImwx4
import Derived.Test.YtfakjmjkodkceaaGreatDoorPImwx5
import Derived.Test.YtfakjmjkodkceaaGreatDoorPImwx6
import Derived.Test.YtfakjmjkodkceaaGreatDoorPImwx7
import Derived.Test.YtfakjmjkodkceaaGreatDoorPImwx8
import Derived.Test.YtfakjmjkodkceaaGreatDoorPImwx9
import Derived.Test.YtfakjmjkodkceaaGreatDoorPImwx10
import Derived.Test.YtfakjmjkodkceaaGreatDoorPImwx11
import Derived.Test.YtfakjmjkodkceaaGreatDoorPImwx12
import Derived.Test.YtfakjmjkodkceaaGreatDoorPImwx13
import Derived.Test.YtfakjmjkodkceaaGreatDoorPImwx14
import Derived.Test.YtfakjmjkodkceaaGreatDoorPImwx15
namespace Go.Proofs.YtfakjmjkodkceaaGreatDoor.PImw
open Go.RowKit Go.Proofs.YtfakjmjkodkceaaGreatDoorW.PrintWords Go.Proofs.YtfakjmjkodkceaaGreatDoorW.PrintLast Go.Proofs.YtfakjmjkodkceaaGreatDoorW.PrintMore
open Go.Proofs.YtfakjmjkodkceaaGreatDoor.Own
attribute [local go_sem high] unary_not_u32 unary_not_u64 unary_not_u8 string_leq_ string_gtr_ string_geq_
attribute [local go_sem] max2_int min2_int max_two min_two max_three min_three max_four min_four   -- for this text's walks alone
set_option linter.unusedVariables false
set_option linter.unusedSimpArgs false

end Go.Proofs.YtfakjmjkodkceaaGreatDoor.PImw
