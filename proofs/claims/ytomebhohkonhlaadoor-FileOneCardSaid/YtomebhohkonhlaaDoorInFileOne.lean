/- What a row of this seat knows of the input of FileOne. Written by a program of this session (mkrow.py). -/
import Derived.Test.YtomebhohkonhlaaDoorPFonx0
import Derived.Test.YtomebhohkonhlaaDoorRd
namespace Go.Proofs.YtomebhohkonhlaaDoor.PFon
open Go.RowKit Go.Proofs.YtomebhohkonhlaaDoorW.PrintWords Go.Proofs.YtomebhohkonhlaaDoor.Rd
set_option linter.unusedVariables false
end Go.Proofs.YtomebhohkonhlaaDoor.PFon
