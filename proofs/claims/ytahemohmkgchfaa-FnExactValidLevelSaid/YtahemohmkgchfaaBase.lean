/- Small lemmas that know nothing of the program. -/
import Derived.WalkKit
import Derived.WalkLawsBesides
import Derived.WalkSpells
import Derived.OpenShut
import Derived.Below
import Derived.Carry
import Derived.Lib.Hide
namespace Go.Proofs.Ytahemohmkgchfaa.Base
open Go.RowKit

theorem bd {a : Int} (h : (Lit.int .i64 a).wf = true) : -9223372036854775808 ≤ a ∧ a ≤ 9223372036854775807 := by
  have := Go.bounds_i64 h
  omega

end Go.Proofs.Ytahemohmkgchfaa.Base
