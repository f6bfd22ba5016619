/- The square root: the program's way by sort.Search; and what rests on it. -/
import Derived.Test.YtgondkjephojjabWalkN
namespace Go.Proofs.Ytgondkjephojjab.WalkR
open Go.RowKit Go.Proofs.Ytgondkjephojjab.Base Go.Proofs.Ytgondkjephojjab.Plain Go.Proofs.Ytgondkjephojjab.WalkN
set_option linter.unusedVariables false
set_option linter.unusedSimpArgs false

end Go.Proofs.Ytgondkjephojjab.WalkR
