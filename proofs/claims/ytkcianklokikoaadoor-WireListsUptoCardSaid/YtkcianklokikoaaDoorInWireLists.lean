/- What a row of this seat knows of the input of WireLists. Written by a program of this session (mkrow.py). -/
import Derived.Test.YtkcianklokikoaaDoorPWlix0
import Derived.Test.YtkcianklokikoaaDoorRd
namespace Go.Proofs.YtkcianklokikoaaDoor.PWli
open Go.RowKit Go.Proofs.YtkcianklokikoaaDoorW.PrintWords Go.Proofs.YtkcianklokikoaaDoor.Rd
set_option linter.unusedVariables false
end Go.Proofs.YtkcianklokikoaaDoor.PWli
