/-
  No cell of these rows narrows 'for every input' (looked for: loops, veiled, ifaces, maps, wideKeys, modest, calm, conditions, laid).
  DERIVED. THE GIVEN ROWS OF THIS SEAT. 15 by the template 'for every input the law returns true; each argument reads behind the call as it read before'; 0 by the template 'total and deterministic' (their statements: YtahemohmkgchfaaTotals.lean).
  GIVEN WITH THE SEED: the statements are not yours to turn. If you find one false, say at which input.
  Laid BY PROGRAM, IN A SANDBOX (cutbox-rows.mjs): the forced cells as the released guide's own fill.sh prints them over the translation d6a01b9addb35a98… (all of the seat's roots in one cut). By AI agents, Wed Nov 11 2026. No macro, syntax, notation, axiom, sorry.
-/
import Derived.Test.YtahemohmkgchfaaChecked
import GoSem.Claim
import GoSem.ClaimJoined
import GoSem.ClaimMapViews
import Derived.JoinedTies
import Derived.KernelRfl
namespace Go.Proofs.Ytahemohmkgchfaa
/- THE CELL 'sum', in the pinned program and in every row, IS THE sha256 OF THE DUMP (.gsa) THAT YtahemohmkgchfaaProg.lean LOADS. Nothing in Lean hashes anything: it is a label: what it is worth is what the hold of that sum in a sandbox is worth. -/
noncomputable def Try.pinned : Pinned := { name := "ytahemohmkgchfaa", sum := "d6a01b9addb35a98212b413d26f884ae060ca2b5d659c50f3f380612bcb08f1a", checked := Try.checked }
namespace Rows
def none {H : Type} : Left H := { results := [], args := [] }

/-- 'laws.FnExactConstants': WHATEVER THE INPUT: true; the input reads as it did. -/
def fnExactConstantsSpec : ChangeSpec := { name := "fnExactConstants", fn := fun _ => fun
  | [] => { results := [.lit (.bool true)], args := [] }
  | _ => none }
def fnExactConstantsRow : OpenClaim := { program := "ytahemohmkgchfaa", sum := "d6a01b9addb35a98212b413d26f884ae060ca2b5d659c50f3f380612bcb08f1a", func := "loop.example/g00925/laws.FnExactConstants", spec := "fnExactConstants", apart := false }
def FnExactConstantsSaid : Prop := fnExactConstantsRow.holds Try.pinned (OpenSpec.ofChange fnExactConstantsSpec)

/-- ITS FALSE NEIGHBOUR: 'it returns false'. Refute it at one input. -/
def fnExactConstantsWrong : ChangeSpec := { name := "fnExactConstants", fn := fun _ => fun
  | [] => { results := [.lit (.bool false)], args := [] }
  | _ => none }
def FnExactConstantsWrongFalsely : Prop := fnExactConstantsRow.holds Try.pinned (OpenSpec.ofChange fnExactConstantsWrong)

/-- 'laws.FnExactValidLevel': WHATEVER THE INPUT: true; the input reads as it did. -/
def fnExactValidLevelSpec : ChangeSpec := { name := "fnExactValidLevel", fn := fun _ => fun
  | [d] => { results := [.lit (.bool true)], args := [d] }
  | _ => none }
def fnExactValidLevelRow : OpenClaim := { program := "ytahemohmkgchfaa", sum := "d6a01b9addb35a98212b413d26f884ae060ca2b5d659c50f3f380612bcb08f1a", func := "loop.example/g00925/laws.FnExactValidLevel", spec := "fnExactValidLevel", apart := false }
def FnExactValidLevelSaid : Prop := fnExactValidLevelRow.holds Try.pinned (OpenSpec.ofChange fnExactValidLevelSpec)

/-- ITS FALSE NEIGHBOUR: 'it returns false'. Refute it at one input. -/
def fnExactValidLevelWrong : ChangeSpec := { name := "fnExactValidLevel", fn := fun _ => fun
  | [d] => { results := [.lit (.bool false)], args := [d] }
  | _ => none }
def FnExactValidLevelWrongFalsely : Prop := fnExactValidLevelRow.holds Try.pinned (OpenSpec.ofChange fnExactValidLevelWrong)

/-- 'laws.FnExactValidPoint': WHATEVER THE INPUT: true; the input reads as it did. -/
def fnExactValidPointSpec : ChangeSpec := { name := "fnExactValidPoint", fn := fun _ => fun
  | [d] => { results := [.lit (.bool true)], args := [d] }
  | _ => none }
def fnExactValidPointRow : OpenClaim := { program := "ytahemohmkgchfaa", sum := "d6a01b9addb35a98212b413d26f884ae060ca2b5d659c50f3f380612bcb08f1a", func := "loop.example/g00925/laws.FnExactValidPoint", spec := "fnExactValidPoint", apart := false }
def FnExactValidPointSaid : Prop := fnExactValidPointRow.holds Try.pinned (OpenSpec.ofChange fnExactValidPointSpec)

/-- ITS FALSE NEIGHBOUR: 'it returns false'. Refute it at one input. -/
def fnExactValidPointWrong : ChangeSpec := { name := "fnExactValidPoint", fn := fun _ => fun
  | [d] => { results := [.lit (.bool false)], args := [d] }
  | _ => none }
def FnExactValidPointWrongFalsely : Prop := fnExactValidPointRow.holds Try.pinned (OpenSpec.ofChange fnExactValidPointWrong)

/-- 'laws.FnExactCodeName': WHATEVER THE INPUT: true; the input reads as it did. -/
def fnExactCodeNameSpec : ChangeSpec := { name := "fnExactCodeName", fn := fun _ => fun
  | [d] => { results := [.lit (.bool true)], args := [d] }
  | _ => none }
def fnExactCodeNameRow : OpenClaim := { program := "ytahemohmkgchfaa", sum := "d6a01b9addb35a98212b413d26f884ae060ca2b5d659c50f3f380612bcb08f1a", func := "loop.example/g00925/laws.FnExactCodeName", spec := "fnExactCodeName", apart := false }
def FnExactCodeNameSaid : Prop := fnExactCodeNameRow.holds Try.pinned (OpenSpec.ofChange fnExactCodeNameSpec)

/-- ITS FALSE NEIGHBOUR: 'it returns false'. Refute it at one input. -/
def fnExactCodeNameWrong : ChangeSpec := { name := "fnExactCodeName", fn := fun _ => fun
  | [d] => { results := [.lit (.bool false)], args := [d] }
  | _ => none }
def FnExactCodeNameWrongFalsely : Prop := fnExactCodeNameRow.holds Try.pinned (OpenSpec.ofChange fnExactCodeNameWrong)

/-- 'laws.FnExactTurn': WHATEVER THE INPUT: true; the input reads as it did. -/
def fnExactTurnSpec : ChangeSpec := { name := "fnExactTurn", fn := fun _ => fun
  | [d1, d2] => { results := [.lit (.bool true)], args := [d1, d2] }
  | _ => none }
def fnExactTurnRow : OpenClaim := { program := "ytahemohmkgchfaa", sum := "d6a01b9addb35a98212b413d26f884ae060ca2b5d659c50f3f380612bcb08f1a", func := "loop.example/g00925/laws.FnExactTurn", spec := "fnExactTurn", apart := false }
def FnExactTurnSaid : Prop := fnExactTurnRow.holds Try.pinned (OpenSpec.ofChange fnExactTurnSpec)

/-- ITS FALSE NEIGHBOUR: 'it returns false'. Refute it at one input. -/
def fnExactTurnWrong : ChangeSpec := { name := "fnExactTurn", fn := fun _ => fun
  | [d1, d2] => { results := [.lit (.bool false)], args := [d1, d2] }
  | _ => none }
def FnExactTurnWrongFalsely : Prop := fnExactTurnRow.holds Try.pinned (OpenSpec.ofChange fnExactTurnWrong)

/-- 'laws.FnExactIsName': WHATEVER THE INPUT: true; the input reads as it did. -/
def fnExactIsNameSpec : ChangeSpec := { name := "fnExactIsName", fn := fun _ => fun
  | [d] => { results := [.lit (.bool true)], args := [d] }
  | _ => none }
def fnExactIsNameRow : OpenClaim := { program := "ytahemohmkgchfaa", sum := "d6a01b9addb35a98212b413d26f884ae060ca2b5d659c50f3f380612bcb08f1a", func := "loop.example/g00925/laws.FnExactIsName", spec := "fnExactIsName", apart := false }
def FnExactIsNameSaid : Prop := fnExactIsNameRow.holds Try.pinned (OpenSpec.ofChange fnExactIsNameSpec)

/-- ITS FALSE NEIGHBOUR: 'it returns false'. Refute it at one input. -/
def fnExactIsNameWrong : ChangeSpec := { name := "fnExactIsName", fn := fun _ => fun
  | [d] => { results := [.lit (.bool false)], args := [d] }
  | _ => none }
def FnExactIsNameWrongFalsely : Prop := fnExactIsNameRow.holds Try.pinned (OpenSpec.ofChange fnExactIsNameWrong)

/-- 'laws.FnExactCrc16': WHATEVER THE INPUT: true; the input reads as it did. -/
def fnExactCrc16Spec : ChangeSpec := { name := "fnExactCrc16", fn := fun _ => fun
  | [d1, d2] => { results := [.lit (.bool true)], args := [d1, d2] }
  | _ => none }
def fnExactCrc16Row : OpenClaim := { program := "ytahemohmkgchfaa", sum := "d6a01b9addb35a98212b413d26f884ae060ca2b5d659c50f3f380612bcb08f1a", func := "loop.example/g00925/laws.FnExactCrc16", spec := "fnExactCrc16", apart := false }
def FnExactCrc16Said : Prop := fnExactCrc16Row.holds Try.pinned (OpenSpec.ofChange fnExactCrc16Spec)

/-- ITS FALSE NEIGHBOUR: 'it returns false'. Refute it at one input. -/
def fnExactCrc16Wrong : ChangeSpec := { name := "fnExactCrc16", fn := fun _ => fun
  | [d1, d2] => { results := [.lit (.bool false)], args := [d1, d2] }
  | _ => none }
def FnExactCrc16WrongFalsely : Prop := fnExactCrc16Row.holds Try.pinned (OpenSpec.ofChange fnExactCrc16Wrong)

/-- 'laws.FnExactRootOf': WHATEVER THE INPUT: true; the input reads as it did. -/
def fnExactRootOfSpec : ChangeSpec := { name := "fnExactRootOf", fn := fun _ => fun
  | [d] => { results := [.lit (.bool true)], args := [d] }
  | _ => none }
def fnExactRootOfRow : OpenClaim := { program := "ytahemohmkgchfaa", sum := "d6a01b9addb35a98212b413d26f884ae060ca2b5d659c50f3f380612bcb08f1a", func := "loop.example/g00925/laws.FnExactRootOf", spec := "fnExactRootOf", unfollowed := true, recurses := true, apart := false }
def FnExactRootOfSaid : Prop := fnExactRootOfRow.holds Try.pinned (OpenSpec.ofChange fnExactRootOfSpec)

/-- ITS FALSE NEIGHBOUR: 'it returns false'. Refute it at one input. -/
def fnExactRootOfWrong : ChangeSpec := { name := "fnExactRootOf", fn := fun _ => fun
  | [d] => { results := [.lit (.bool false)], args := [d] }
  | _ => none }
def FnExactRootOfWrongFalsely : Prop := fnExactRootOfRow.holds Try.pinned (OpenSpec.ofChange fnExactRootOfWrong)

/-- 'laws.FnExactDivRound': WHATEVER THE INPUT: true; the input reads as it did. -/
def fnExactDivRoundSpec : ChangeSpec := { name := "fnExactDivRound", fn := fun _ => fun
  | [d1, d2] => { results := [.lit (.bool true)], args := [d1, d2] }
  | _ => none }
def fnExactDivRoundRow : OpenClaim := { program := "ytahemohmkgchfaa", sum := "d6a01b9addb35a98212b413d26f884ae060ca2b5d659c50f3f380612bcb08f1a", func := "loop.example/g00925/laws.FnExactDivRound", spec := "fnExactDivRound", apart := false }
def FnExactDivRoundSaid : Prop := fnExactDivRoundRow.holds Try.pinned (OpenSpec.ofChange fnExactDivRoundSpec)

/-- ITS FALSE NEIGHBOUR: 'it returns false'. Refute it at one input. -/
def fnExactDivRoundWrong : ChangeSpec := { name := "fnExactDivRound", fn := fun _ => fun
  | [d1, d2] => { results := [.lit (.bool false)], args := [d1, d2] }
  | _ => none }
def FnExactDivRoundWrongFalsely : Prop := fnExactDivRoundRow.holds Try.pinned (OpenSpec.ofChange fnExactDivRoundWrong)

/-- 'laws.FnExactBulgeAt': WHATEVER THE INPUT: true; the input reads as it did. -/
def fnExactBulgeAtSpec : ChangeSpec := { name := "fnExactBulgeAt", fn := fun _ => fun
  | [d1, d2] => { results := [.lit (.bool true)], args := [d1, d2] }
  | _ => none }
def fnExactBulgeAtRow : OpenClaim := { program := "ytahemohmkgchfaa", sum := "d6a01b9addb35a98212b413d26f884ae060ca2b5d659c50f3f380612bcb08f1a", func := "loop.example/g00925/laws.FnExactBulgeAt", spec := "fnExactBulgeAt", apart := false }
def FnExactBulgeAtSaid : Prop := fnExactBulgeAtRow.holds Try.pinned (OpenSpec.ofChange fnExactBulgeAtSpec)

/-- ITS FALSE NEIGHBOUR: 'it returns false'. Refute it at one input. -/
def fnExactBulgeAtWrong : ChangeSpec := { name := "fnExactBulgeAt", fn := fun _ => fun
  | [d1, d2] => { results := [.lit (.bool false)], args := [d1, d2] }
  | _ => none }
def FnExactBulgeAtWrongFalsely : Prop := fnExactBulgeAtRow.holds Try.pinned (OpenSpec.ofChange fnExactBulgeAtWrong)

/-- 'laws.FnExactHorizonOf': WHATEVER THE INPUT: true; the input reads as it did. -/
def fnExactHorizonOfSpec : ChangeSpec := { name := "fnExactHorizonOf", fn := fun _ => fun
  | [d] => { results := [.lit (.bool true)], args := [d] }
  | _ => none }
def fnExactHorizonOfRow : OpenClaim := { program := "ytahemohmkgchfaa", sum := "d6a01b9addb35a98212b413d26f884ae060ca2b5d659c50f3f380612bcb08f1a", func := "loop.example/g00925/laws.FnExactHorizonOf", spec := "fnExactHorizonOf", unfollowed := true, recurses := true, apart := false }
def FnExactHorizonOfSaid : Prop := fnExactHorizonOfRow.holds Try.pinned (OpenSpec.ofChange fnExactHorizonOfSpec)

/-- ITS FALSE NEIGHBOUR: 'it returns false'. Refute it at one input. -/
def fnExactHorizonOfWrong : ChangeSpec := { name := "fnExactHorizonOf", fn := fun _ => fun
  | [d] => { results := [.lit (.bool false)], args := [d] }
  | _ => none }
def FnExactHorizonOfWrongFalsely : Prop := fnExactHorizonOfRow.holds Try.pinned (OpenSpec.ofChange fnExactHorizonOfWrong)

/-- 'laws.FnExactBetween': WHATEVER THE INPUT: true; the input reads as it did. -/
def fnExactBetweenSpec : ChangeSpec := { name := "fnExactBetween", fn := fun _ => fun
  | [d1, d2, d3, d4, d5] => { results := [.lit (.bool true)], args := [d1, d2, d3, d4, d5] }
  | _ => none }
def fnExactBetweenRow : OpenClaim := { program := "ytahemohmkgchfaa", sum := "d6a01b9addb35a98212b413d26f884ae060ca2b5d659c50f3f380612bcb08f1a", func := "loop.example/g00925/laws.FnExactBetween", spec := "fnExactBetween", apart := false }
def FnExactBetweenSaid : Prop := fnExactBetweenRow.holds Try.pinned (OpenSpec.ofChange fnExactBetweenSpec)

/-- ITS FALSE NEIGHBOUR: 'it returns false'. Refute it at one input. -/
def fnExactBetweenWrong : ChangeSpec := { name := "fnExactBetween", fn := fun _ => fun
  | [d1, d2, d3, d4, d5] => { results := [.lit (.bool false)], args := [d1, d2, d3, d4, d5] }
  | _ => none }
def FnExactBetweenWrongFalsely : Prop := fnExactBetweenRow.holds Try.pinned (OpenSpec.ofChange fnExactBetweenWrong)

/-- 'laws.FnExactFresnelRadius': WHATEVER THE INPUT: true; the input reads as it did. -/
def fnExactFresnelRadiusSpec : ChangeSpec := { name := "fnExactFresnelRadius", fn := fun _ => fun
  | [d1, d2, d3] => { results := [.lit (.bool true)], args := [d1, d2, d3] }
  | _ => none }
def fnExactFresnelRadiusRow : OpenClaim := { program := "ytahemohmkgchfaa", sum := "d6a01b9addb35a98212b413d26f884ae060ca2b5d659c50f3f380612bcb08f1a", func := "loop.example/g00925/laws.FnExactFresnelRadius", spec := "fnExactFresnelRadius", unfollowed := true, recurses := true, apart := false }
def FnExactFresnelRadiusSaid : Prop := fnExactFresnelRadiusRow.holds Try.pinned (OpenSpec.ofChange fnExactFresnelRadiusSpec)

/-- ITS FALSE NEIGHBOUR: 'it returns false'. Refute it at one input. -/
def fnExactFresnelRadiusWrong : ChangeSpec := { name := "fnExactFresnelRadius", fn := fun _ => fun
  | [d1, d2, d3] => { results := [.lit (.bool false)], args := [d1, d2, d3] }
  | _ => none }
def FnExactFresnelRadiusWrongFalsely : Prop := fnExactFresnelRadiusRow.holds Try.pinned (OpenSpec.ofChange fnExactFresnelRadiusWrong)

/-- 'laws.FnExactAlong': WHATEVER THE INPUT: true; the input reads as it did. -/
def fnExactAlongSpec : ChangeSpec := { name := "fnExactAlong", fn := fun _ => fun
  | [d1, d2, d3, d4] => { results := [.lit (.bool true)], args := [d1, d2, d3, d4] }
  | _ => none }
def fnExactAlongRow : OpenClaim := { program := "ytahemohmkgchfaa", sum := "d6a01b9addb35a98212b413d26f884ae060ca2b5d659c50f3f380612bcb08f1a", func := "loop.example/g00925/laws.FnExactAlong", spec := "fnExactAlong", apart := false }
def FnExactAlongSaid : Prop := fnExactAlongRow.holds Try.pinned (OpenSpec.ofChange fnExactAlongSpec)

/-- ITS FALSE NEIGHBOUR: 'it returns false'. Refute it at one input. -/
def fnExactAlongWrong : ChangeSpec := { name := "fnExactAlong", fn := fun _ => fun
  | [d1, d2, d3, d4] => { results := [.lit (.bool false)], args := [d1, d2, d3, d4] }
  | _ => none }
def FnExactAlongWrongFalsely : Prop := fnExactAlongRow.holds Try.pinned (OpenSpec.ofChange fnExactAlongWrong)

/-- 'laws.FnExactDistance': WHATEVER THE INPUT: true; the input reads as it did. -/
def fnExactDistanceSpec : ChangeSpec := { name := "fnExactDistance", fn := fun _ => fun
  | [d1, d2] => { results := [.lit (.bool true)], args := [d1, d2] }
  | _ => none }
def fnExactDistanceRow : OpenClaim := { program := "ytahemohmkgchfaa", sum := "d6a01b9addb35a98212b413d26f884ae060ca2b5d659c50f3f380612bcb08f1a", func := "loop.example/g00925/laws.FnExactDistance", spec := "fnExactDistance", unfollowed := true, recurses := true, apart := false }
def FnExactDistanceSaid : Prop := fnExactDistanceRow.holds Try.pinned (OpenSpec.ofChange fnExactDistanceSpec)

/-- ITS FALSE NEIGHBOUR: 'it returns false'. Refute it at one input. -/
def fnExactDistanceWrong : ChangeSpec := { name := "fnExactDistance", fn := fun _ => fun
  | [d1, d2] => { results := [.lit (.bool false)], args := [d1, d2] }
  | _ => none }
def FnExactDistanceWrongFalsely : Prop := fnExactDistanceRow.holds Try.pinned (OpenSpec.ofChange fnExactDistanceWrong)

/- THE SECOND FORM. 'bulk': how many values and letters a reading holds, each counted each time it is reached (what is shared counts as often as it is met; a slice's spare places count too). A statement '..UptoSaid' is the law's where the arguments, and the package variables that the reading takes, are together of bulk at most 1048576: NARROWER than '..Said'. Prove '..Said' where nothing that the law and all that it calls make is longer than what came in: it says more and counts as full. Else prove '..UptoSaid'. A law counts once. -/
mutual
def uptoBulk {H : Type} : DataW H → Nat
  | .lit (.string bytes) => bytes.length + 1
  | .lit _ => 1
  | .nil => 1
  | .ptr d => uptoBulk d + 1
  | .slice elems spare => uptoBulkAll elems + uptoBulkAll spare + 1
  | .agg parts => uptoBulkAll parts + 1
  | .iface _ d => uptoBulk d + 1
  | .map entries => uptoBulkEntries entries + 1
  | .held _ => 1
def uptoBulkAll {H : Type} : List (DataW H) → Nat
  | [] => 0
  | d :: r => uptoBulk d + uptoBulkAll r
def uptoBulkEntries {H : Type} : List (Lit × DataW H) → Nat
  | [] => 0
  | x :: r => uptoBulkEntry x + uptoBulkEntries r
def uptoBulkEntry {H : Type} : Lit × DataW H → Nat
  | (.string bytes, d) => bytes.length + uptoBulk d + 1
  | (_, d) => uptoBulk d + 1
 end
def uptoSmall : (H : Type) → List (DataW H) → Bool := fun _ ds => decide (uptoBulkAll ds ≤ 1048576)
def OpenSpec.upto (s : _root_.Go.ChangeSpec) : _root_.Go.OpenSpec := { _root_.Go.OpenSpec.ofChange s with cond := some uptoSmall }

/-- 'laws.FnExactConstants', WHERE WHAT IT READS IS OF BULK AT MOST 1048576: true; the input reads as it did. -/
def fnExactConstantsUptoRow : OpenClaim := { program := "ytahemohmkgchfaa", sum := "d6a01b9addb35a98212b413d26f884ae060ca2b5d659c50f3f380612bcb08f1a", func := "loop.example/g00925/laws.FnExactConstants", spec := "fnExactConstants", apart := false, narrowed := true }
def FnExactConstantsUptoSaid : Prop := fnExactConstantsUptoRow.holds Try.pinned (OpenSpec.upto fnExactConstantsSpec)

/-- 'laws.FnExactValidLevel', WHERE WHAT IT READS IS OF BULK AT MOST 1048576: true; the input reads as it did. -/
def fnExactValidLevelUptoRow : OpenClaim := { program := "ytahemohmkgchfaa", sum := "d6a01b9addb35a98212b413d26f884ae060ca2b5d659c50f3f380612bcb08f1a", func := "loop.example/g00925/laws.FnExactValidLevel", spec := "fnExactValidLevel", apart := false, narrowed := true }
def FnExactValidLevelUptoSaid : Prop := fnExactValidLevelUptoRow.holds Try.pinned (OpenSpec.upto fnExactValidLevelSpec)

/-- 'laws.FnExactValidPoint', WHERE WHAT IT READS IS OF BULK AT MOST 1048576: true; the input reads as it did. -/
def fnExactValidPointUptoRow : OpenClaim := { program := "ytahemohmkgchfaa", sum := "d6a01b9addb35a98212b413d26f884ae060ca2b5d659c50f3f380612bcb08f1a", func := "loop.example/g00925/laws.FnExactValidPoint", spec := "fnExactValidPoint", apart := false, narrowed := true }
def FnExactValidPointUptoSaid : Prop := fnExactValidPointUptoRow.holds Try.pinned (OpenSpec.upto fnExactValidPointSpec)

/-- 'laws.FnExactCodeName', WHERE WHAT IT READS IS OF BULK AT MOST 1048576: true; the input reads as it did. -/
def fnExactCodeNameUptoRow : OpenClaim := { program := "ytahemohmkgchfaa", sum := "d6a01b9addb35a98212b413d26f884ae060ca2b5d659c50f3f380612bcb08f1a", func := "loop.example/g00925/laws.FnExactCodeName", spec := "fnExactCodeName", apart := false, narrowed := true }
def FnExactCodeNameUptoSaid : Prop := fnExactCodeNameUptoRow.holds Try.pinned (OpenSpec.upto fnExactCodeNameSpec)

/-- 'laws.FnExactTurn', WHERE WHAT IT READS IS OF BULK AT MOST 1048576: true; the input reads as it did. -/
def fnExactTurnUptoRow : OpenClaim := { program := "ytahemohmkgchfaa", sum := "d6a01b9addb35a98212b413d26f884ae060ca2b5d659c50f3f380612bcb08f1a", func := "loop.example/g00925/laws.FnExactTurn", spec := "fnExactTurn", apart := false, narrowed := true }
def FnExactTurnUptoSaid : Prop := fnExactTurnUptoRow.holds Try.pinned (OpenSpec.upto fnExactTurnSpec)

/-- 'laws.FnExactIsName', WHERE WHAT IT READS IS OF BULK AT MOST 1048576: true; the input reads as it did. -/
def fnExactIsNameUptoRow : OpenClaim := { program := "ytahemohmkgchfaa", sum := "d6a01b9addb35a98212b413d26f884ae060ca2b5d659c50f3f380612bcb08f1a", func := "loop.example/g00925/laws.FnExactIsName", spec := "fnExactIsName", apart := false, narrowed := true }
def FnExactIsNameUptoSaid : Prop := fnExactIsNameUptoRow.holds Try.pinned (OpenSpec.upto fnExactIsNameSpec)

/-- 'laws.FnExactCrc16', WHERE WHAT IT READS IS OF BULK AT MOST 1048576: true; the input reads as it did. -/
def fnExactCrc16UptoRow : OpenClaim := { program := "ytahemohmkgchfaa", sum := "d6a01b9addb35a98212b413d26f884ae060ca2b5d659c50f3f380612bcb08f1a", func := "loop.example/g00925/laws.FnExactCrc16", spec := "fnExactCrc16", apart := false, narrowed := true }
def FnExactCrc16UptoSaid : Prop := fnExactCrc16UptoRow.holds Try.pinned (OpenSpec.upto fnExactCrc16Spec)

/-- 'laws.FnExactRootOf', WHERE WHAT IT READS IS OF BULK AT MOST 1048576: true; the input reads as it did. -/
def fnExactRootOfUptoRow : OpenClaim := { program := "ytahemohmkgchfaa", sum := "d6a01b9addb35a98212b413d26f884ae060ca2b5d659c50f3f380612bcb08f1a", func := "loop.example/g00925/laws.FnExactRootOf", spec := "fnExactRootOf", unfollowed := true, recurses := true, apart := false, narrowed := true }
def FnExactRootOfUptoSaid : Prop := fnExactRootOfUptoRow.holds Try.pinned (OpenSpec.upto fnExactRootOfSpec)

/-- 'laws.FnExactDivRound', WHERE WHAT IT READS IS OF BULK AT MOST 1048576: true; the input reads as it did. -/
def fnExactDivRoundUptoRow : OpenClaim := { program := "ytahemohmkgchfaa", sum := "d6a01b9addb35a98212b413d26f884ae060ca2b5d659c50f3f380612bcb08f1a", func := "loop.example/g00925/laws.FnExactDivRound", spec := "fnExactDivRound", apart := false, narrowed := true }
def FnExactDivRoundUptoSaid : Prop := fnExactDivRoundUptoRow.holds Try.pinned (OpenSpec.upto fnExactDivRoundSpec)

/-- 'laws.FnExactBulgeAt', WHERE WHAT IT READS IS OF BULK AT MOST 1048576: true; the input reads as it did. -/
def fnExactBulgeAtUptoRow : OpenClaim := { program := "ytahemohmkgchfaa", sum := "d6a01b9addb35a98212b413d26f884ae060ca2b5d659c50f3f380612bcb08f1a", func := "loop.example/g00925/laws.FnExactBulgeAt", spec := "fnExactBulgeAt", apart := false, narrowed := true }
def FnExactBulgeAtUptoSaid : Prop := fnExactBulgeAtUptoRow.holds Try.pinned (OpenSpec.upto fnExactBulgeAtSpec)

/-- 'laws.FnExactHorizonOf', WHERE WHAT IT READS IS OF BULK AT MOST 1048576: true; the input reads as it did. -/
def fnExactHorizonOfUptoRow : OpenClaim := { program := "ytahemohmkgchfaa", sum := "d6a01b9addb35a98212b413d26f884ae060ca2b5d659c50f3f380612bcb08f1a", func := "loop.example/g00925/laws.FnExactHorizonOf", spec := "fnExactHorizonOf", unfollowed := true, recurses := true, apart := false, narrowed := true }
def FnExactHorizonOfUptoSaid : Prop := fnExactHorizonOfUptoRow.holds Try.pinned (OpenSpec.upto fnExactHorizonOfSpec)

/-- 'laws.FnExactBetween', WHERE WHAT IT READS IS OF BULK AT MOST 1048576: true; the input reads as it did. -/
def fnExactBetweenUptoRow : OpenClaim := { program := "ytahemohmkgchfaa", sum := "d6a01b9addb35a98212b413d26f884ae060ca2b5d659c50f3f380612bcb08f1a", func := "loop.example/g00925/laws.FnExactBetween", spec := "fnExactBetween", apart := false, narrowed := true }
def FnExactBetweenUptoSaid : Prop := fnExactBetweenUptoRow.holds Try.pinned (OpenSpec.upto fnExactBetweenSpec)

/-- 'laws.FnExactFresnelRadius', WHERE WHAT IT READS IS OF BULK AT MOST 1048576: true; the input reads as it did. -/
def fnExactFresnelRadiusUptoRow : OpenClaim := { program := "ytahemohmkgchfaa", sum := "d6a01b9addb35a98212b413d26f884ae060ca2b5d659c50f3f380612bcb08f1a", func := "loop.example/g00925/laws.FnExactFresnelRadius", spec := "fnExactFresnelRadius", unfollowed := true, recurses := true, apart := false, narrowed := true }
def FnExactFresnelRadiusUptoSaid : Prop := fnExactFresnelRadiusUptoRow.holds Try.pinned (OpenSpec.upto fnExactFresnelRadiusSpec)

/-- 'laws.FnExactAlong', WHERE WHAT IT READS IS OF BULK AT MOST 1048576: true; the input reads as it did. -/
def fnExactAlongUptoRow : OpenClaim := { program := "ytahemohmkgchfaa", sum := "d6a01b9addb35a98212b413d26f884ae060ca2b5d659c50f3f380612bcb08f1a", func := "loop.example/g00925/laws.FnExactAlong", spec := "fnExactAlong", apart := false, narrowed := true }
def FnExactAlongUptoSaid : Prop := fnExactAlongUptoRow.holds Try.pinned (OpenSpec.upto fnExactAlongSpec)

/-- 'laws.FnExactDistance', WHERE WHAT IT READS IS OF BULK AT MOST 1048576: true; the input reads as it did. -/
def fnExactDistanceUptoRow : OpenClaim := { program := "ytahemohmkgchfaa", sum := "d6a01b9addb35a98212b413d26f884ae060ca2b5d659c50f3f380612bcb08f1a", func := "loop.example/g00925/laws.FnExactDistance", spec := "fnExactDistance", unfollowed := true, recurses := true, apart := false, narrowed := true }
def FnExactDistanceUptoSaid : Prop := fnExactDistanceUptoRow.holds Try.pinned (OpenSpec.upto fnExactDistanceSpec)

end Rows
end Go.Proofs.Ytahemohmkgchfaa
