/- What a row of this seat knows of the input of PathWithin. Written by a program of this session (mkrow.py). -/
import Derived.Test.YtpmojgifbbdncaaDoorPPthx0
import Derived.Test.YtpmojgifbbdncaaDoorRd
namespace Go.Proofs.YtpmojgifbbdncaaDoor.PPth
open Go.RowKit Go.Proofs.YtpmojgifbbdncaaDoorW.PrintWords Go.Proofs.YtpmojgifbbdncaaDoor.Rd
set_option linter.unusedVariables false
end Go.Proofs.YtpmojgifbbdncaaDoor.PPth
