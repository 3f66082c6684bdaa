/- What a row of this seat knows of the input of OctetsBack. Written by a program of this session (mkrow.py). -/
import Derived.Test.YtbdkpmclimfpkaaDoorPOctx0
import Derived.Test.YtbdkpmclimfpkaaDoorRd
namespace Go.Proofs.YtbdkpmclimfpkaaDoor.POct
open Go.RowKit Go.Proofs.YtbdkpmclimfpkaaDoorW.PrintWords Go.Proofs.YtbdkpmclimfpkaaDoor.Rd
end Go.Proofs.YtbdkpmclimfpkaaDoor.POct
