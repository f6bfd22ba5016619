/- Walks over slices of numbers: the reference's and the program's helpers, and those of package slices. -/
import Derived.Test.YtbggickeomeidaaWalkI
import Derived.Test.YtbggickeomeidaaPlainT
import Derived.WalkSpells
namespace Go.Proofs.Ytbggickeomeidaa.WalkU
open Go Go.RowKit Go.Proofs.Ytbggickeomeidaa.Base Go.Proofs.Ytbggickeomeidaa.Words Go.Proofs.Ytbggickeomeidaa.Ints Go.Proofs.Ytbggickeomeidaa.WalkN Go.Proofs.Ytbggickeomeidaa.WalkP Go.Proofs.Ytbggickeomeidaa.WalkI Go.Proofs.Ytbggickeomeidaa.PlainT
set_option linter.unusedVariables false
set_option linter.unusedSimpArgs false

end Go.Proofs.Ytbggickeomeidaa.WalkU
