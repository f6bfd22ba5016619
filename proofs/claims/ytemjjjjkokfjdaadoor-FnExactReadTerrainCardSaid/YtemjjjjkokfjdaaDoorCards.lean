/-
  DERIVED. GIVEN WITH THE SEED: THE CARDS: each row of YtemjjjjkokfjdaaDoorRows.lean that lists a variable, with what it lists TIED to the program's text (the seventh form; the later family's looks); each row that meets fmt, with fmt's text TOLD by the authors' own Lean function (tested against real Go, not proved from fmt's source: count such statements apart). THE CARD IS WHAT COUNTS. Prove the row's statement (the work); the ties are given (YtemjjjjkokfjdaaDoorTie.lean); close each card by the builder's one call (the guide's Derived/Test/ToyasCard.lean, 'card_holds'). Laid BY PROGRAM, IN A SANDBOX (cutbox-door.mjs). By AI agents, Wed Nov 11 2026. No macro, syntax, notation, axiom, sorry.
-/
import Derived.Test.YtemjjjjkokfjdaaDoorRows
import GoSem.ClaimSeven
namespace Go.Proofs.YtemjjjjkokfjdaaDoor
namespace Rows

/-- THE TIED CARD OF 'laws.FnExactReadTerrain'. -/
def fnExactReadTerrainCard : Claim7 := { stood := { row := fnExactReadTerrainRow, standIns := [], harness := (true, "0111c1b764504c9d5d7fcf5b1bbe2cef7e4eca61bbf13f1ce21d53940929399c"), looks := true }, kinds := [], alts := [], laidByText := true, laidKinds := [.data, .data, .data, .data, .sentinel, .sentinel, .pinned], laidTests := true, laidLooks := .later }
def FnExactReadTerrainCardSaid : Prop := Claim7.holds Tryd.pinned (.plain (OpenSpec.ofChange fnExactReadTerrainSpec)) fnExactReadTerrainCard

/-- THE TIED CARD OF 'laws.FnExactTerrainText'. -/
def fnExactTerrainTextCard : Claim7 := { stood := { row := fnExactTerrainTextRow, standIns := [], harness := (true, "0111c1b764504c9d5d7fcf5b1bbe2cef7e4eca61bbf13f1ce21d53940929399c"), looks := true }, kinds := [], alts := [], laidByText := true, laidKinds := [.data, .data, .data], laidTests := true, laidLooks := .later }
def FnExactTerrainTextCardSaid : Prop := Claim7.holds Tryd.pinned (.plain (OpenSpec.ofChange fnExactTerrainTextSpec)) fnExactTerrainTextCard

/-- THE SECOND FORM's CARD OF 'laws.FnExactReadTerrain'. -/
def fnExactReadTerrainUptoCard : Claim7 := { stood := { row := fnExactReadTerrainUptoRow, standIns := [], harness := (true, "0111c1b764504c9d5d7fcf5b1bbe2cef7e4eca61bbf13f1ce21d53940929399c"), looks := true }, kinds := [], alts := [], laidByText := true, laidKinds := [.data, .data, .data, .data, .sentinel, .sentinel, .pinned], laidTests := true, laidLooks := .later }
def FnExactReadTerrainUptoCardSaid : Prop := Claim7.holds Tryd.pinned (.plain (OpenSpec.upto fnExactReadTerrainSpec)) fnExactReadTerrainUptoCard

/-- THE SECOND FORM's CARD OF 'laws.FnExactTerrainText'. -/
def fnExactTerrainTextUptoCard : Claim7 := { stood := { row := fnExactTerrainTextUptoRow, standIns := [], harness := (true, "0111c1b764504c9d5d7fcf5b1bbe2cef7e4eca61bbf13f1ce21d53940929399c"), looks := true }, kinds := [], alts := [], laidByText := true, laidKinds := [.data, .data, .data], laidTests := true, laidLooks := .later }
def FnExactTerrainTextUptoCardSaid : Prop := Claim7.holds Tryd.pinned (.plain (OpenSpec.upto fnExactTerrainTextSpec)) fnExactTerrainTextUptoCard
end Rows
end Go.Proofs.YtemjjjjkokfjdaaDoor
