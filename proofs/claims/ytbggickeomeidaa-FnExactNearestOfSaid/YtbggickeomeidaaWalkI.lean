/- Walks over slices of numbers: the laws' own helpers. -/
import Derived.Test.YtbggickeomeidaaInts
import Derived.Test.YtbggickeomeidaaWalkN
import Derived.LoopTactic
import Derived.RegionTactic
namespace Go.Proofs.Ytbggickeomeidaa.WalkI
open Go Go.RowKit Go.Proofs.Ytbggickeomeidaa.Base Go.Proofs.Ytbggickeomeidaa.Words Go.Proofs.Ytbggickeomeidaa.Ints Go.Proofs.Ytbggickeomeidaa.WalkP
set_option linter.unusedVariables false
set_option linter.unusedSimpArgs false

theorem made_get {n k : Nat} (h : k < n) : (madeCells #[Value.int .i64 0] n)[k]? = some (.int .i64 0) := by
  simp [madeCells, h, Nat.mod_one]

/-- what is left of a size -/
def szF (n : Nat) (L : Int) : Int := if L - n < 0 then -1 else L - n
/-- n numbers from k on -/
def upF (k : Int) (n : Nat) : List Int := (List.range n).map fun j : Nat => k + (j : Int)
theorem upF_len (k : Int) (n : Nat) : (upF k n).length = n := by simp [upF]
theorem upF_get {k : Int} {n j : Nat} (h : j < n) : (upF k n).getD j 0 = k + j := by simp [upF, h]

end Go.Proofs.Ytbggickeomeidaa.WalkI
