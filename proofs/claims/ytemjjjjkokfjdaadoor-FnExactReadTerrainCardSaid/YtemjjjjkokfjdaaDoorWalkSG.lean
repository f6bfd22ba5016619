/- SetGround: copies of a terrain. -/
import Derived.Test.YtemjjjjkokfjdaaDoorWalkQ
import Derived.Test.YtemjjjjkokfjdaaDoorWalkW
import Derived.Deep.RegionHeld3
import Derived.Deep.RegionWith
import Derived.Deep.DeepCutAuto
namespace Go.Proofs.YtemjjjjkokfjdaaDoor.WalkSG
open Go Go.RowKit Go.Proofs.YtemjjjjkokfjdaaDoor.Base Go.Proofs.YtemjjjjkokfjdaaDoor.Plain Go.Proofs.YtemjjjjkokfjdaaDoor.Words Go.Proofs.YtemjjjjkokfjdaaDoor.Ints Go.Proofs.YtemjjjjkokfjdaaDoor.WalkN Go.Proofs.YtemjjjjkokfjdaaDoor.WalkP Go.Proofs.YtemjjjjkokfjdaaDoor.WalkI Go.Proofs.YtemjjjjkokfjdaaDoor.WalkU Go.Proofs.YtemjjjjkokfjdaaDoor.PlainT Go.Proofs.YtemjjjjkokfjdaaDoor.WalkQ Go.Proofs.YtemjjjjkokfjdaaDoor.WalkW
set_option linter.unusedVariables false
set_option linter.unusedSimpArgs false

/-- a terrain in memory of its own -/
def TerOwn (s wd ht : Int) (n m : Nat) (hs cs : List Int) (W : World) (e : Ending) (w' : World) : Prop :=
  ∃ (P : Option Addr) (p : Nat) (Q : Option Addr) (q : Nat), e = .returned (.agg #[.int .i64 s, .int .i64 wd, .int .i64 ht, .slice P n p, .slice Q m q]) ∧ Ow w' W.heap.size P n p hs ∧ Ow w' W.heap.size Q m q cs ∧ Ap P Q ∧ Below W.heap.size W w'

end Go.Proofs.YtemjjjjkokfjdaaDoor.WalkSG
