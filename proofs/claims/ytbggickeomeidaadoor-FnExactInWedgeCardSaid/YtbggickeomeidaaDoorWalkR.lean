/- The square root: the program's way by sort.Search; and what rests on it. -/
import Derived.Test.YtbggickeomeidaaDoorWalkN
namespace Go.Proofs.YtbggickeomeidaaDoor.WalkR
open Go.RowKit Go.Proofs.YtbggickeomeidaaDoor.Base Go.Proofs.YtbggickeomeidaaDoor.Plain Go.Proofs.YtbggickeomeidaaDoor.WalkN
set_option linter.unusedVariables false
set_option linter.unusedSimpArgs false

end Go.Proofs.YtbggickeomeidaaDoor.WalkR
