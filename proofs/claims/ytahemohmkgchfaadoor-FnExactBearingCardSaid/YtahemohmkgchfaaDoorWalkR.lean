/- The square root: the program's way by sort.Search; and what rests on it. -/
import Derived.Test.YtahemohmkgchfaaDoorWalkN
namespace Go.Proofs.YtahemohmkgchfaaDoor.WalkR
open Go.RowKit Go.Proofs.YtahemohmkgchfaaDoor.Base Go.Proofs.YtahemohmkgchfaaDoor.Plain Go.Proofs.YtahemohmkgchfaaDoor.WalkN
set_option linter.unusedVariables false
set_option linter.unusedSimpArgs false

end Go.Proofs.YtahemohmkgchfaaDoor.WalkR
