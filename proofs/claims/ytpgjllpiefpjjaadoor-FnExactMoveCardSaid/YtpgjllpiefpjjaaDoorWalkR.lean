/- The square root: the program's way by sort.Search; and what rests on it. -/
import Derived.Test.YtpgjllpiefpjjaaDoorWalkN
namespace Go.Proofs.YtpgjllpiefpjjaaDoor.WalkR
open Go.RowKit Go.Proofs.YtpgjllpiefpjjaaDoor.Base Go.Proofs.YtpgjllpiefpjjaaDoor.Plain Go.Proofs.YtpgjllpiefpjjaaDoor.WalkN
set_option linter.unusedVariables false
set_option linter.unusedSimpArgs false

end Go.Proofs.YtpgjllpiefpjjaaDoor.WalkR
