/- What a row of this seat knows of the input of SegmentHolds. Written by a program of this session (mkrow.py). -/
import Derived.Test.YtokjiinlhghggaaDoorPHolx0
import Derived.Test.YtokjiinlhghggaaDoorRd
namespace Go.Proofs.YtokjiinlhghggaaDoor.PHol
open Go.RowKit Go.Proofs.YtokjiinlhghggaaDoorW.PrintWords Go.Proofs.YtokjiinlhghggaaDoor.Rd
set_option linter.unusedVariables false
end Go.Proofs.YtokjiinlhghggaaDoor.PHol
