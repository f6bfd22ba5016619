/- The square root: the program's way by sort.Search; and what rests on it. -/
import Derived.Test.YtemjjjjkokfjdaaDoorWalkN
namespace Go.Proofs.YtemjjjjkokfjdaaDoor.WalkR
open Go.RowKit Go.Proofs.YtemjjjjkokfjdaaDoor.Base Go.Proofs.YtemjjjjkokfjdaaDoor.Plain Go.Proofs.YtemjjjjkokfjdaaDoor.WalkN
set_option linter.unusedVariables false
set_option linter.unusedSimpArgs false

end Go.Proofs.YtemjjjjkokfjdaaDoor.WalkR
