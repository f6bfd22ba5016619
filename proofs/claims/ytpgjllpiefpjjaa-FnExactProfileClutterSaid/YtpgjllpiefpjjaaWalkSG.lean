/- SetGround: copies of a terrain. -/
import Derived.Test.YtpgjllpiefpjjaaWalkQ
import Derived.Test.YtpgjllpiefpjjaaWalkW
import Derived.Deep.RegionHeld3
import Derived.Deep.RegionWith
import Derived.Deep.DeepCutAuto
namespace Go.Proofs.Ytpgjllpiefpjjaa.WalkSG
open Go Go.RowKit Go.Proofs.Ytpgjllpiefpjjaa.Base Go.Proofs.Ytpgjllpiefpjjaa.Plain Go.Proofs.Ytpgjllpiefpjjaa.Words Go.Proofs.Ytpgjllpiefpjjaa.Ints Go.Proofs.Ytpgjllpiefpjjaa.WalkN Go.Proofs.Ytpgjllpiefpjjaa.WalkP Go.Proofs.Ytpgjllpiefpjjaa.WalkI Go.Proofs.Ytpgjllpiefpjjaa.WalkU Go.Proofs.Ytpgjllpiefpjjaa.PlainT Go.Proofs.Ytpgjllpiefpjjaa.WalkQ Go.Proofs.Ytpgjllpiefpjjaa.WalkW
set_option linter.unusedVariables false
set_option linter.unusedSimpArgs false

/-- a terrain in memory of its own -/
def TerOwn (s wd ht : Int) (n m : Nat) (hs cs : List Int) (W : World) (e : Ending) (w' : World) : Prop :=
  ∃ (P : Option Addr) (p : Nat) (Q : Option Addr) (q : Nat), e = .returned (.agg #[.int .i64 s, .int .i64 wd, .int .i64 ht, .slice P n p, .slice Q m q]) ∧ Ow w' W.heap.size P n p hs ∧ Ow w' W.heap.size Q m q cs ∧ Ap P Q ∧ Below W.heap.size W w'

end Go.Proofs.Ytpgjllpiefpjjaa.WalkSG
