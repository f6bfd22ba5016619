/- Bearing: the law. -/
import Derived.Test.YtpgjllpiefpjjaaDoorWalkE2
namespace Go.Proofs.YtpgjllpiefpjjaaDoor.WalkE3
open Go.RowKit Go.Proofs.YtpgjllpiefpjjaaDoor.Base Go.Proofs.YtpgjllpiefpjjaaDoor.Plain Go.Proofs.YtpgjllpiefpjjaaDoor.PlainD Go.Proofs.YtpgjllpiefpjjaaDoor.WalkN Go.Proofs.YtpgjllpiefpjjaaDoor.WalkP Go.Proofs.YtpgjllpiefpjjaaDoor.WalkD Go.Proofs.YtpgjllpiefpjjaaDoor.WalkE Go.Proofs.YtpgjllpiefpjjaaDoor.WalkE2
set_option linter.unusedVariables false
set_option linter.unusedSimpArgs false

/-- the direction from a point to another one, 0 where one is not valid -/
def bearF (x y u v : Int) : Int := bif okP x y && okP u v then (bestF (u - x) (v - y) 360 : Int) else 0
end Go.Proofs.YtpgjllpiefpjjaaDoor.WalkE3
