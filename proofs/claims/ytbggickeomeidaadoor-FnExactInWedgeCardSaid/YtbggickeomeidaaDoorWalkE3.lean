/- Bearing: the law. -/
import Derived.Test.YtbggickeomeidaaDoorWalkE2
namespace Go.Proofs.YtbggickeomeidaaDoor.WalkE3
open Go.RowKit Go.Proofs.YtbggickeomeidaaDoor.Base Go.Proofs.YtbggickeomeidaaDoor.Plain Go.Proofs.YtbggickeomeidaaDoor.PlainD Go.Proofs.YtbggickeomeidaaDoor.WalkN Go.Proofs.YtbggickeomeidaaDoor.WalkP Go.Proofs.YtbggickeomeidaaDoor.WalkD Go.Proofs.YtbggickeomeidaaDoor.WalkE Go.Proofs.YtbggickeomeidaaDoor.WalkE2
set_option linter.unusedVariables false
set_option linter.unusedSimpArgs false

/-- the direction from a point to another one, 0 where one is not valid -/
def bearF (x y u v : Int) : Int := bif okP x y && okP u v then (bestF (u - x) (v - y) 360 : Int) else 0
end Go.Proofs.YtbggickeomeidaaDoor.WalkE3
