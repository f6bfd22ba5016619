/-
  No cell of these rows narrows 'for every input' (looked for: loops, veiled, ifaces, maps, wideKeys, modest, calm, conditions, laid).
  DERIVED. THE GIVEN ROWS OF THIS SEAT. 12 by the template 'for every input the law returns true; each argument reads behind the call as it read before'; 0 by the template 'total and deterministic' (their statements: YtgondkjephojjaaTotals.lean).
  GIVEN WITH THE SEED: the statements are not yours to turn. If you find one false, say at which input.
  Laid BY PROGRAM, IN A SANDBOX (cutbox-rows.mjs): the forced cells as the released guide's own fill.sh prints them over the translation 798b446ffb858d6e… (all of the seat's roots in one cut). By AI agents, Wed Nov 11 2026. No macro, syntax, notation, axiom, sorry.
-/
import Derived.Test.YtgondkjephojjaaChecked
import GoSem.Claim
import GoSem.ClaimJoined
import GoSem.ClaimMapViews
import Derived.JoinedTies
import Derived.KernelRfl
namespace Go.Proofs.Ytgondkjephojjaa
/- THE CELL 'sum', in the pinned program and in every row, IS THE sha256 OF THE DUMP (.gsa) THAT YtgondkjephojjaaProg.lean LOADS. Nothing in Lean hashes anything: it is a label: what it is worth is what the hold of that sum in a sandbox is worth. -/
noncomputable def Try.pinned : Pinned := { name := "ytgondkjephojjaa", sum := "798b446ffb858d6ec0e31267e8d12ff50e140e7d7342afb1009fa02d03806c16", checked := Try.checked }
namespace Rows
def none {H : Type} : Left H := { results := [], args := [] }

/-- 'laws.FnExactSameProfile': WHATEVER THE INPUT: true; the input reads as it did. -/
def fnExactSameProfileSpec : ChangeSpec := { name := "fnExactSameProfile", fn := fun _ => fun
  | [d1, d2] => { results := [.lit (.bool true)], args := [d1, d2] }
  | _ => none }
def fnExactSameProfileRow : OpenClaim := { program := "ytgondkjephojjaa", sum := "798b446ffb858d6ec0e31267e8d12ff50e140e7d7342afb1009fa02d03806c16", func := "loop.example/g00925/laws.FnExactSameProfile", spec := "fnExactSameProfile", apart := false }
def FnExactSameProfileSaid : Prop := fnExactSameProfileRow.holds Try.pinned (OpenSpec.ofChange fnExactSameProfileSpec)

/-- ITS FALSE NEIGHBOUR: 'it returns false'. Refute it at one input. -/
def fnExactSameProfileWrong : ChangeSpec := { name := "fnExactSameProfile", fn := fun _ => fun
  | [d1, d2] => { results := [.lit (.bool false)], args := [d1, d2] }
  | _ => none }
def FnExactSameProfileWrongFalsely : Prop := fnExactSameProfileRow.holds Try.pinned (OpenSpec.ofChange fnExactSameProfileWrong)

/-- 'laws.FnExactSameAntenna': WHATEVER THE INPUT: true; the input reads as it did. -/
def fnExactSameAntennaSpec : ChangeSpec := { name := "fnExactSameAntenna", fn := fun _ => fun
  | [d1, d2] => { results := [.lit (.bool true)], args := [d1, d2] }
  | _ => none }
def fnExactSameAntennaRow : OpenClaim := { program := "ytgondkjephojjaa", sum := "798b446ffb858d6ec0e31267e8d12ff50e140e7d7342afb1009fa02d03806c16", func := "loop.example/g00925/laws.FnExactSameAntenna", spec := "fnExactSameAntenna", apart := false }
def FnExactSameAntennaSaid : Prop := fnExactSameAntennaRow.holds Try.pinned (OpenSpec.ofChange fnExactSameAntennaSpec)

/-- ITS FALSE NEIGHBOUR: 'it returns false'. Refute it at one input. -/
def fnExactSameAntennaWrong : ChangeSpec := { name := "fnExactSameAntenna", fn := fun _ => fun
  | [d1, d2] => { results := [.lit (.bool false)], args := [d1, d2] }
  | _ => none }
def FnExactSameAntennaWrongFalsely : Prop := fnExactSameAntennaRow.holds Try.pinned (OpenSpec.ofChange fnExactSameAntennaWrong)

/-- 'laws.FnExactSameTerrain': WHATEVER THE INPUT: true; the input reads as it did. -/
def fnExactSameTerrainSpec : ChangeSpec := { name := "fnExactSameTerrain", fn := fun _ => fun
  | [d1, d2] => { results := [.lit (.bool true)], args := [d1, d2] }
  | _ => none }
def fnExactSameTerrainRow : OpenClaim := { program := "ytgondkjephojjaa", sum := "798b446ffb858d6ec0e31267e8d12ff50e140e7d7342afb1009fa02d03806c16", func := "loop.example/g00925/laws.FnExactSameTerrain", spec := "fnExactSameTerrain", apart := false }
def FnExactSameTerrainSaid : Prop := fnExactSameTerrainRow.holds Try.pinned (OpenSpec.ofChange fnExactSameTerrainSpec)

/-- ITS FALSE NEIGHBOUR: 'it returns false'. Refute it at one input. -/
def fnExactSameTerrainWrong : ChangeSpec := { name := "fnExactSameTerrain", fn := fun _ => fun
  | [d1, d2] => { results := [.lit (.bool false)], args := [d1, d2] }
  | _ => none }
def FnExactSameTerrainWrongFalsely : Prop := fnExactSameTerrainRow.holds Try.pinned (OpenSpec.ofChange fnExactSameTerrainWrong)

/-- 'laws.FnExactValidProfile': WHATEVER THE INPUT: true; the input reads as it did. -/
def fnExactValidProfileSpec : ChangeSpec := { name := "fnExactValidProfile", fn := fun _ => fun
  | [d] => { results := [.lit (.bool true)], args := [d] }
  | _ => none }
def fnExactValidProfileRow : OpenClaim := { program := "ytgondkjephojjaa", sum := "798b446ffb858d6ec0e31267e8d12ff50e140e7d7342afb1009fa02d03806c16", func := "loop.example/g00925/laws.FnExactValidProfile", spec := "fnExactValidProfile", unfollowed := true, recurses := true, apart := false }
def FnExactValidProfileSaid : Prop := fnExactValidProfileRow.holds Try.pinned (OpenSpec.ofChange fnExactValidProfileSpec)

/-- ITS FALSE NEIGHBOUR: 'it returns false'. Refute it at one input. -/
def fnExactValidProfileWrong : ChangeSpec := { name := "fnExactValidProfile", fn := fun _ => fun
  | [d] => { results := [.lit (.bool false)], args := [d] }
  | _ => none }
def FnExactValidProfileWrongFalsely : Prop := fnExactValidProfileRow.holds Try.pinned (OpenSpec.ofChange fnExactValidProfileWrong)

/-- 'laws.FnExactValidTerrain': WHATEVER THE INPUT: true; the input reads as it did. -/
def fnExactValidTerrainSpec : ChangeSpec := { name := "fnExactValidTerrain", fn := fun _ => fun
  | [d] => { results := [.lit (.bool true)], args := [d] }
  | _ => none }
def fnExactValidTerrainRow : OpenClaim := { program := "ytgondkjephojjaa", sum := "798b446ffb858d6ec0e31267e8d12ff50e140e7d7342afb1009fa02d03806c16", func := "loop.example/g00925/laws.FnExactValidTerrain", spec := "fnExactValidTerrain", unfollowed := true, recurses := true, apart := false }
def FnExactValidTerrainSaid : Prop := fnExactValidTerrainRow.holds Try.pinned (OpenSpec.ofChange fnExactValidTerrainSpec)

/-- ITS FALSE NEIGHBOUR: 'it returns false'. Refute it at one input. -/
def fnExactValidTerrainWrong : ChangeSpec := { name := "fnExactValidTerrain", fn := fun _ => fun
  | [d] => { results := [.lit (.bool false)], args := [d] }
  | _ => none }
def FnExactValidTerrainWrongFalsely : Prop := fnExactValidTerrainRow.holds Try.pinned (OpenSpec.ofChange fnExactValidTerrainWrong)

/-- 'laws.FnExactValidAntenna': WHATEVER THE INPUT: true; the input reads as it did. -/
def fnExactValidAntennaSpec : ChangeSpec := { name := "fnExactValidAntenna", fn := fun _ => fun
  | [d] => { results := [.lit (.bool true)], args := [d] }
  | _ => none }
def fnExactValidAntennaRow : OpenClaim := { program := "ytgondkjephojjaa", sum := "798b446ffb858d6ec0e31267e8d12ff50e140e7d7342afb1009fa02d03806c16", func := "loop.example/g00925/laws.FnExactValidAntenna", spec := "fnExactValidAntenna", unfollowed := true, recurses := true, apart := false }
def FnExactValidAntennaSaid : Prop := fnExactValidAntennaRow.holds Try.pinned (OpenSpec.ofChange fnExactValidAntennaSpec)

/-- ITS FALSE NEIGHBOUR: 'it returns false'. Refute it at one input. -/
def fnExactValidAntennaWrong : ChangeSpec := { name := "fnExactValidAntenna", fn := fun _ => fun
  | [d] => { results := [.lit (.bool false)], args := [d] }
  | _ => none }
def FnExactValidAntennaWrongFalsely : Prop := fnExactValidAntennaRow.holds Try.pinned (OpenSpec.ofChange fnExactValidAntennaWrong)

/-- 'laws.FnExactOmniAntenna': WHATEVER THE INPUT: true; the input reads as it did. -/
def fnExactOmniAntennaSpec : ChangeSpec := { name := "fnExactOmniAntenna", fn := fun _ => fun
  | [d1, d2] => { results := [.lit (.bool true)], args := [d1, d2] }
  | _ => none }
def fnExactOmniAntennaRow : OpenClaim := { program := "ytgondkjephojjaa", sum := "798b446ffb858d6ec0e31267e8d12ff50e140e7d7342afb1009fa02d03806c16", func := "loop.example/g00925/laws.FnExactOmniAntenna", spec := "fnExactOmniAntenna", apart := false }
def FnExactOmniAntennaSaid : Prop := fnExactOmniAntennaRow.holds Try.pinned (OpenSpec.ofChange fnExactOmniAntennaSpec)

/-- ITS FALSE NEIGHBOUR: 'it returns false'. Refute it at one input. -/
def fnExactOmniAntennaWrong : ChangeSpec := { name := "fnExactOmniAntenna", fn := fun _ => fun
  | [d1, d2] => { results := [.lit (.bool false)], args := [d1, d2] }
  | _ => none }
def FnExactOmniAntennaWrongFalsely : Prop := fnExactOmniAntennaRow.holds Try.pinned (OpenSpec.ofChange fnExactOmniAntennaWrong)

/-- 'laws.FnExactInTerrain': WHATEVER THE INPUT: true; the input reads as it did. -/
def fnExactInTerrainSpec : ChangeSpec := { name := "fnExactInTerrain", fn := fun _ => fun
  | [d1, d2] => { results := [.lit (.bool true)], args := [d1, d2] }
  | _ => none }
def fnExactInTerrainRow : OpenClaim := { program := "ytgondkjephojjaa", sum := "798b446ffb858d6ec0e31267e8d12ff50e140e7d7342afb1009fa02d03806c16", func := "loop.example/g00925/laws.FnExactInTerrain", spec := "fnExactInTerrain", unfollowed := true, recurses := true, apart := false }
def FnExactInTerrainSaid : Prop := fnExactInTerrainRow.holds Try.pinned (OpenSpec.ofChange fnExactInTerrainSpec)

/-- ITS FALSE NEIGHBOUR: 'it returns false'. Refute it at one input. -/
def fnExactInTerrainWrong : ChangeSpec := { name := "fnExactInTerrain", fn := fun _ => fun
  | [d1, d2] => { results := [.lit (.bool false)], args := [d1, d2] }
  | _ => none }
def FnExactInTerrainWrongFalsely : Prop := fnExactInTerrainRow.holds Try.pinned (OpenSpec.ofChange fnExactInTerrainWrong)

/-- 'laws.FnExactFrontToBack': WHATEVER THE INPUT: true; the input reads as it did. -/
def fnExactFrontToBackSpec : ChangeSpec := { name := "fnExactFrontToBack", fn := fun _ => fun
  | [d] => { results := [.lit (.bool true)], args := [d] }
  | _ => none }
def fnExactFrontToBackRow : OpenClaim := { program := "ytgondkjephojjaa", sum := "798b446ffb858d6ec0e31267e8d12ff50e140e7d7342afb1009fa02d03806c16", func := "loop.example/g00925/laws.FnExactFrontToBack", spec := "fnExactFrontToBack", unfollowed := true, recurses := true, apart := false }
def FnExactFrontToBackSaid : Prop := fnExactFrontToBackRow.holds Try.pinned (OpenSpec.ofChange fnExactFrontToBackSpec)

/-- ITS FALSE NEIGHBOUR: 'it returns false'. Refute it at one input. -/
def fnExactFrontToBackWrong : ChangeSpec := { name := "fnExactFrontToBack", fn := fun _ => fun
  | [d] => { results := [.lit (.bool false)], args := [d] }
  | _ => none }
def FnExactFrontToBackWrongFalsely : Prop := fnExactFrontToBackRow.holds Try.pinned (OpenSpec.ofChange fnExactFrontToBackWrong)

/-- 'laws.FnExactTurnProfile': WHATEVER THE INPUT: true; the input reads as it did. -/
def fnExactTurnProfileSpec : ChangeSpec := { name := "fnExactTurnProfile", fn := fun _ => fun
  | [d] => { results := [.lit (.bool true)], args := [d] }
  | _ => none }
def fnExactTurnProfileRow : OpenClaim := { program := "ytgondkjephojjaa", sum := "798b446ffb858d6ec0e31267e8d12ff50e140e7d7342afb1009fa02d03806c16", func := "loop.example/g00925/laws.FnExactTurnProfile", spec := "fnExactTurnProfile", unfollowed := true, recurses := true, apart := false }
def FnExactTurnProfileSaid : Prop := fnExactTurnProfileRow.holds Try.pinned (OpenSpec.ofChange fnExactTurnProfileSpec)

/-- ITS FALSE NEIGHBOUR: 'it returns false'. Refute it at one input. -/
def fnExactTurnProfileWrong : ChangeSpec := { name := "fnExactTurnProfile", fn := fun _ => fun
  | [d] => { results := [.lit (.bool false)], args := [d] }
  | _ => none }
def FnExactTurnProfileWrongFalsely : Prop := fnExactTurnProfileRow.holds Try.pinned (OpenSpec.ofChange fnExactTurnProfileWrong)

/-- 'laws.FnExactRaiseEnds': WHATEVER THE INPUT: true; the input reads as it did. -/
def fnExactRaiseEndsSpec : ChangeSpec := { name := "fnExactRaiseEnds", fn := fun _ => fun
  | [d1, d2] => { results := [.lit (.bool true)], args := [d1, d2] }
  | _ => none }
def fnExactRaiseEndsRow : OpenClaim := { program := "ytgondkjephojjaa", sum := "798b446ffb858d6ec0e31267e8d12ff50e140e7d7342afb1009fa02d03806c16", func := "loop.example/g00925/laws.FnExactRaiseEnds", spec := "fnExactRaiseEnds", unfollowed := true, recurses := true, apart := false }
def FnExactRaiseEndsSaid : Prop := fnExactRaiseEndsRow.holds Try.pinned (OpenSpec.ofChange fnExactRaiseEndsSpec)

/-- ITS FALSE NEIGHBOUR: 'it returns false'. Refute it at one input. -/
def fnExactRaiseEndsWrong : ChangeSpec := { name := "fnExactRaiseEnds", fn := fun _ => fun
  | [d1, d2] => { results := [.lit (.bool false)], args := [d1, d2] }
  | _ => none }
def FnExactRaiseEndsWrongFalsely : Prop := fnExactRaiseEndsRow.holds Try.pinned (OpenSpec.ofChange fnExactRaiseEndsWrong)

/-- 'laws.FnExactNearestOf': WHATEVER THE INPUT: true; the input reads as it did. -/
def fnExactNearestOfSpec : ChangeSpec := { name := "fnExactNearestOf", fn := fun _ => fun
  | [d1, d2] => { results := [.lit (.bool true)], args := [d1, d2] }
  | _ => none }
def fnExactNearestOfRow : OpenClaim := { program := "ytgondkjephojjaa", sum := "798b446ffb858d6ec0e31267e8d12ff50e140e7d7342afb1009fa02d03806c16", func := "loop.example/g00925/laws.FnExactNearestOf", spec := "fnExactNearestOf", unfollowed := true, recurses := true, apart := false }
def FnExactNearestOfSaid : Prop := fnExactNearestOfRow.holds Try.pinned (OpenSpec.ofChange fnExactNearestOfSpec)

/-- ITS FALSE NEIGHBOUR: 'it returns false'. Refute it at one input. -/
def fnExactNearestOfWrong : ChangeSpec := { name := "fnExactNearestOf", fn := fun _ => fun
  | [d1, d2] => { results := [.lit (.bool false)], args := [d1, d2] }
  | _ => none }
def FnExactNearestOfWrongFalsely : Prop := fnExactNearestOfRow.holds Try.pinned (OpenSpec.ofChange fnExactNearestOfWrong)

/- THE SECOND FORM. 'bulk': how many values and letters a reading holds, each counted each time it is reached (what is shared counts as often as it is met; a slice's spare places count too). A statement '..UptoSaid' is the law's where the arguments, and the package variables that the reading takes, are together of bulk at most 1048576: NARROWER than '..Said'. Prove '..Said' where nothing that the law and all that it calls make is longer than what came in: it says more and counts as full. Else prove '..UptoSaid'. A law counts once. -/
mutual
def uptoBulk {H : Type} : DataW H → Nat
  | .lit (.string bytes) => bytes.length + 1
  | .lit _ => 1
  | .nil => 1
  | .ptr d => uptoBulk d + 1
  | .slice elems spare => uptoBulkAll elems + uptoBulkAll spare + 1
  | .agg parts => uptoBulkAll parts + 1
  | .iface _ d => uptoBulk d + 1
  | .map entries => uptoBulkEntries entries + 1
  | .held _ => 1
def uptoBulkAll {H : Type} : List (DataW H) → Nat
  | [] => 0
  | d :: r => uptoBulk d + uptoBulkAll r
def uptoBulkEntries {H : Type} : List (Lit × DataW H) → Nat
  | [] => 0
  | x :: r => uptoBulkEntry x + uptoBulkEntries r
def uptoBulkEntry {H : Type} : Lit × DataW H → Nat
  | (.string bytes, d) => bytes.length + uptoBulk d + 1
  | (_, d) => uptoBulk d + 1
 end
def uptoSmall : (H : Type) → List (DataW H) → Bool := fun _ ds => decide (uptoBulkAll ds ≤ 1048576)
def OpenSpec.upto (s : _root_.Go.ChangeSpec) : _root_.Go.OpenSpec := { _root_.Go.OpenSpec.ofChange s with cond := some uptoSmall }

/-- 'laws.FnExactSameProfile', WHERE WHAT IT READS IS OF BULK AT MOST 1048576: true; the input reads as it did. -/
def fnExactSameProfileUptoRow : OpenClaim := { program := "ytgondkjephojjaa", sum := "798b446ffb858d6ec0e31267e8d12ff50e140e7d7342afb1009fa02d03806c16", func := "loop.example/g00925/laws.FnExactSameProfile", spec := "fnExactSameProfile", apart := false, narrowed := true }
def FnExactSameProfileUptoSaid : Prop := fnExactSameProfileUptoRow.holds Try.pinned (OpenSpec.upto fnExactSameProfileSpec)

/-- 'laws.FnExactSameAntenna', WHERE WHAT IT READS IS OF BULK AT MOST 1048576: true; the input reads as it did. -/
def fnExactSameAntennaUptoRow : OpenClaim := { program := "ytgondkjephojjaa", sum := "798b446ffb858d6ec0e31267e8d12ff50e140e7d7342afb1009fa02d03806c16", func := "loop.example/g00925/laws.FnExactSameAntenna", spec := "fnExactSameAntenna", apart := false, narrowed := true }
def FnExactSameAntennaUptoSaid : Prop := fnExactSameAntennaUptoRow.holds Try.pinned (OpenSpec.upto fnExactSameAntennaSpec)

/-- 'laws.FnExactSameTerrain', WHERE WHAT IT READS IS OF BULK AT MOST 1048576: true; the input reads as it did. -/
def fnExactSameTerrainUptoRow : OpenClaim := { program := "ytgondkjephojjaa", sum := "798b446ffb858d6ec0e31267e8d12ff50e140e7d7342afb1009fa02d03806c16", func := "loop.example/g00925/laws.FnExactSameTerrain", spec := "fnExactSameTerrain", apart := false, narrowed := true }
def FnExactSameTerrainUptoSaid : Prop := fnExactSameTerrainUptoRow.holds Try.pinned (OpenSpec.upto fnExactSameTerrainSpec)

/-- 'laws.FnExactValidProfile', WHERE WHAT IT READS IS OF BULK AT MOST 1048576: true; the input reads as it did. -/
def fnExactValidProfileUptoRow : OpenClaim := { program := "ytgondkjephojjaa", sum := "798b446ffb858d6ec0e31267e8d12ff50e140e7d7342afb1009fa02d03806c16", func := "loop.example/g00925/laws.FnExactValidProfile", spec := "fnExactValidProfile", unfollowed := true, recurses := true, apart := false, narrowed := true }
def FnExactValidProfileUptoSaid : Prop := fnExactValidProfileUptoRow.holds Try.pinned (OpenSpec.upto fnExactValidProfileSpec)

/-- 'laws.FnExactValidTerrain', WHERE WHAT IT READS IS OF BULK AT MOST 1048576: true; the input reads as it did. -/
def fnExactValidTerrainUptoRow : OpenClaim := { program := "ytgondkjephojjaa", sum := "798b446ffb858d6ec0e31267e8d12ff50e140e7d7342afb1009fa02d03806c16", func := "loop.example/g00925/laws.FnExactValidTerrain", spec := "fnExactValidTerrain", unfollowed := true, recurses := true, apart := false, narrowed := true }
def FnExactValidTerrainUptoSaid : Prop := fnExactValidTerrainUptoRow.holds Try.pinned (OpenSpec.upto fnExactValidTerrainSpec)

/-- 'laws.FnExactValidAntenna', WHERE WHAT IT READS IS OF BULK AT MOST 1048576: true; the input reads as it did. -/
def fnExactValidAntennaUptoRow : OpenClaim := { program := "ytgondkjephojjaa", sum := "798b446ffb858d6ec0e31267e8d12ff50e140e7d7342afb1009fa02d03806c16", func := "loop.example/g00925/laws.FnExactValidAntenna", spec := "fnExactValidAntenna", unfollowed := true, recurses := true, apart := false, narrowed := true }
def FnExactValidAntennaUptoSaid : Prop := fnExactValidAntennaUptoRow.holds Try.pinned (OpenSpec.upto fnExactValidAntennaSpec)

/-- 'laws.FnExactOmniAntenna', WHERE WHAT IT READS IS OF BULK AT MOST 1048576: true; the input reads as it did. -/
def fnExactOmniAntennaUptoRow : OpenClaim := { program := "ytgondkjephojjaa", sum := "798b446ffb858d6ec0e31267e8d12ff50e140e7d7342afb1009fa02d03806c16", func := "loop.example/g00925/laws.FnExactOmniAntenna", spec := "fnExactOmniAntenna", apart := false, narrowed := true }
def FnExactOmniAntennaUptoSaid : Prop := fnExactOmniAntennaUptoRow.holds Try.pinned (OpenSpec.upto fnExactOmniAntennaSpec)

/-- 'laws.FnExactInTerrain', WHERE WHAT IT READS IS OF BULK AT MOST 1048576: true; the input reads as it did. -/
def fnExactInTerrainUptoRow : OpenClaim := { program := "ytgondkjephojjaa", sum := "798b446ffb858d6ec0e31267e8d12ff50e140e7d7342afb1009fa02d03806c16", func := "loop.example/g00925/laws.FnExactInTerrain", spec := "fnExactInTerrain", unfollowed := true, recurses := true, apart := false, narrowed := true }
def FnExactInTerrainUptoSaid : Prop := fnExactInTerrainUptoRow.holds Try.pinned (OpenSpec.upto fnExactInTerrainSpec)

/-- 'laws.FnExactFrontToBack', WHERE WHAT IT READS IS OF BULK AT MOST 1048576: true; the input reads as it did. -/
def fnExactFrontToBackUptoRow : OpenClaim := { program := "ytgondkjephojjaa", sum := "798b446ffb858d6ec0e31267e8d12ff50e140e7d7342afb1009fa02d03806c16", func := "loop.example/g00925/laws.FnExactFrontToBack", spec := "fnExactFrontToBack", unfollowed := true, recurses := true, apart := false, narrowed := true }
def FnExactFrontToBackUptoSaid : Prop := fnExactFrontToBackUptoRow.holds Try.pinned (OpenSpec.upto fnExactFrontToBackSpec)

/-- 'laws.FnExactTurnProfile', WHERE WHAT IT READS IS OF BULK AT MOST 1048576: true; the input reads as it did. -/
def fnExactTurnProfileUptoRow : OpenClaim := { program := "ytgondkjephojjaa", sum := "798b446ffb858d6ec0e31267e8d12ff50e140e7d7342afb1009fa02d03806c16", func := "loop.example/g00925/laws.FnExactTurnProfile", spec := "fnExactTurnProfile", unfollowed := true, recurses := true, apart := false, narrowed := true }
def FnExactTurnProfileUptoSaid : Prop := fnExactTurnProfileUptoRow.holds Try.pinned (OpenSpec.upto fnExactTurnProfileSpec)

/-- 'laws.FnExactRaiseEnds', WHERE WHAT IT READS IS OF BULK AT MOST 1048576: true; the input reads as it did. -/
def fnExactRaiseEndsUptoRow : OpenClaim := { program := "ytgondkjephojjaa", sum := "798b446ffb858d6ec0e31267e8d12ff50e140e7d7342afb1009fa02d03806c16", func := "loop.example/g00925/laws.FnExactRaiseEnds", spec := "fnExactRaiseEnds", unfollowed := true, recurses := true, apart := false, narrowed := true }
def FnExactRaiseEndsUptoSaid : Prop := fnExactRaiseEndsUptoRow.holds Try.pinned (OpenSpec.upto fnExactRaiseEndsSpec)

/-- 'laws.FnExactNearestOf', WHERE WHAT IT READS IS OF BULK AT MOST 1048576: true; the input reads as it did. -/
def fnExactNearestOfUptoRow : OpenClaim := { program := "ytgondkjephojjaa", sum := "798b446ffb858d6ec0e31267e8d12ff50e140e7d7342afb1009fa02d03806c16", func := "loop.example/g00925/laws.FnExactNearestOf", spec := "fnExactNearestOf", unfollowed := true, recurses := true, apart := false, narrowed := true }
def FnExactNearestOfUptoSaid : Prop := fnExactNearestOfUptoRow.holds Try.pinned (OpenSpec.upto fnExactNearestOfSpec)

end Rows
end Go.Proofs.Ytgondkjephojjaa
