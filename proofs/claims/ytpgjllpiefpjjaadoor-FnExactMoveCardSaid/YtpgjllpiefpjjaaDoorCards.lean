/-
  DERIVED. GIVEN WITH THE SEED: THE CARDS: each row of YtpgjllpiefpjjaaDoorRows.lean that lists a variable, with what it lists TIED to the program's text (the seventh form; the later family's looks); each row that meets fmt, with fmt's text TOLD by the authors' own Lean function (tested against real Go, not proved from fmt's source: count such statements apart). THE CARD IS WHAT COUNTS. Prove the row's statement (the work); the ties are given (YtpgjllpiefpjjaaDoorTie.lean); close each card by the builder's one call (the guide's Derived/Test/ToyasCard.lean, 'card_holds'). Laid BY PROGRAM, IN A SANDBOX (cutbox-door.mjs). By AI agents, Wed Nov 11 2026. No macro, syntax, notation, axiom, sorry.
-/
import Derived.Test.YtpgjllpiefpjjaaDoorRows
import GoSem.ClaimSeven
namespace Go.Proofs.YtpgjllpiefpjjaaDoor
namespace Rows

/-- THE TIED CARD OF 'laws.FnExactTerrainText'. -/
def fnExactTerrainTextCard : Claim7 := { stood := { row := fnExactTerrainTextRow, standIns := [], harness := (true, "cbad94e439243045043a70646ab4e7d1e029c33e070b370f4d834378d9264967"), looks := true }, kinds := [], alts := [], laidByText := true, laidKinds := [.data, .data, .data], laidTests := true, laidLooks := .later }
def FnExactTerrainTextCardSaid : Prop := Claim7.holds Tryd.pinned (.plain (OpenSpec.ofChange fnExactTerrainTextSpec)) fnExactTerrainTextCard

/-- THE TIED CARD OF 'laws.FnExactReadTerrain'. -/
def fnExactReadTerrainCard : Claim7 := { stood := { row := fnExactReadTerrainRow, standIns := [], harness := (true, "cbad94e439243045043a70646ab4e7d1e029c33e070b370f4d834378d9264967"), looks := true }, kinds := [], alts := [], laidByText := true, laidKinds := [.data, .data, .data, .data, .sentinel, .sentinel, .pinned], laidTests := true, laidLooks := .later }
def FnExactReadTerrainCardSaid : Prop := Claim7.holds Tryd.pinned (.plain (OpenSpec.ofChange fnExactReadTerrainSpec)) fnExactReadTerrainCard

/-- THE TIED CARD OF 'laws.FnExactInWedge'. -/
def fnExactInWedgeCard : Claim7 := { stood := { row := fnExactInWedgeRow, standIns := [], harness := (true, "cbad94e439243045043a70646ab4e7d1e029c33e070b370f4d834378d9264967"), looks := true }, kinds := [], alts := [], laidByText := true, laidKinds := [.data], laidTests := true, laidLooks := .later }
def FnExactInWedgeCardSaid : Prop := Claim7.holds Tryd.pinned (.plain (OpenSpec.ofChange fnExactInWedgeSpec)) fnExactInWedgeCard

/-- THE TIED CARD OF 'laws.FnExactMove'. -/
def fnExactMoveCard : Claim7 := { stood := { row := fnExactMoveRow, standIns := [], harness := (true, "cbad94e439243045043a70646ab4e7d1e029c33e070b370f4d834378d9264967"), looks := true }, kinds := [], alts := [], laidByText := true, laidKinds := [.data], laidTests := true, laidLooks := .later }
def FnExactMoveCardSaid : Prop := Claim7.holds Tryd.pinned (.plain (OpenSpec.ofChange fnExactMoveSpec)) fnExactMoveCard

/-- THE SECOND FORM's CARD OF 'laws.FnExactTerrainText'. -/
def fnExactTerrainTextUptoCard : Claim7 := { stood := { row := fnExactTerrainTextUptoRow, standIns := [], harness := (true, "cbad94e439243045043a70646ab4e7d1e029c33e070b370f4d834378d9264967"), looks := true }, kinds := [], alts := [], laidByText := true, laidKinds := [.data, .data, .data], laidTests := true, laidLooks := .later }
def FnExactTerrainTextUptoCardSaid : Prop := Claim7.holds Tryd.pinned (.plain (OpenSpec.upto fnExactTerrainTextSpec)) fnExactTerrainTextUptoCard

/-- THE SECOND FORM's CARD OF 'laws.FnExactReadTerrain'. -/
def fnExactReadTerrainUptoCard : Claim7 := { stood := { row := fnExactReadTerrainUptoRow, standIns := [], harness := (true, "cbad94e439243045043a70646ab4e7d1e029c33e070b370f4d834378d9264967"), looks := true }, kinds := [], alts := [], laidByText := true, laidKinds := [.data, .data, .data, .data, .sentinel, .sentinel, .pinned], laidTests := true, laidLooks := .later }
def FnExactReadTerrainUptoCardSaid : Prop := Claim7.holds Tryd.pinned (.plain (OpenSpec.upto fnExactReadTerrainSpec)) fnExactReadTerrainUptoCard

/-- THE SECOND FORM's CARD OF 'laws.FnExactInWedge'. -/
def fnExactInWedgeUptoCard : Claim7 := { stood := { row := fnExactInWedgeUptoRow, standIns := [], harness := (true, "cbad94e439243045043a70646ab4e7d1e029c33e070b370f4d834378d9264967"), looks := true }, kinds := [], alts := [], laidByText := true, laidKinds := [.data], laidTests := true, laidLooks := .later }
def FnExactInWedgeUptoCardSaid : Prop := Claim7.holds Tryd.pinned (.plain (OpenSpec.upto fnExactInWedgeSpec)) fnExactInWedgeUptoCard

/-- THE SECOND FORM's CARD OF 'laws.FnExactMove'. -/
def fnExactMoveUptoCard : Claim7 := { stood := { row := fnExactMoveUptoRow, standIns := [], harness := (true, "cbad94e439243045043a70646ab4e7d1e029c33e070b370f4d834378d9264967"), looks := true }, kinds := [], alts := [], laidByText := true, laidKinds := [.data], laidTests := true, laidLooks := .later }
def FnExactMoveUptoCardSaid : Prop := Claim7.holds Tryd.pinned (.plain (OpenSpec.upto fnExactMoveSpec)) fnExactMoveUptoCard
end Rows
end Go.Proofs.YtpgjllpiefpjjaaDoor
