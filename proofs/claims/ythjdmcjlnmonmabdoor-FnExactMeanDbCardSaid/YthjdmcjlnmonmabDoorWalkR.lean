/- The square root: the program's way by sort.Search; and what rests on it. -/
import Derived.Test.YthjdmcjlnmonmabDoorWalkN
namespace Go.Proofs.YthjdmcjlnmonmabDoor.WalkR
open Go.RowKit Go.Proofs.YthjdmcjlnmonmabDoor.Base Go.Proofs.YthjdmcjlnmonmabDoor.Plain Go.Proofs.YthjdmcjlnmonmabDoor.WalkN
set_option linter.unusedVariables false
set_option linter.unusedSimpArgs false

end Go.Proofs.YthjdmcjlnmonmabDoor.WalkR
