/- The square root: the program's way by sort.Search; and what rests on it. -/
import Derived.Test.YthjdmcjlnmonmaaDoorWalkN
namespace Go.Proofs.YthjdmcjlnmonmaaDoor.WalkR
open Go.RowKit Go.Proofs.YthjdmcjlnmonmaaDoor.Base Go.Proofs.YthjdmcjlnmonmaaDoor.Plain Go.Proofs.YthjdmcjlnmonmaaDoor.WalkN
set_option linter.unusedVariables false
set_option linter.unusedSimpArgs false

end Go.Proofs.YthjdmcjlnmonmaaDoor.WalkR
