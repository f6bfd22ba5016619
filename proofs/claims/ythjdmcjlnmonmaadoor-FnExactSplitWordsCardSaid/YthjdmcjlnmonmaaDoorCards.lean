/-
  DERIVED. GIVEN WITH THE SEED: THE CARDS: each row of YthjdmcjlnmonmaaDoorRows.lean that lists a variable, with what it lists TIED to the program's text (the seventh form; the later family's looks); each row that meets fmt, with fmt's text TOLD by the authors' own Lean function (tested against real Go, not proved from fmt's source: count such statements apart). THE CARD IS WHAT COUNTS. Prove the row's statement (the work); the ties are given (YthjdmcjlnmonmaaDoorTie.lean); close each card by the builder's one call (the guide's Derived/Test/ToyasCard.lean, 'card_holds'). Laid BY PROGRAM, IN A SANDBOX (cutbox-door.mjs). By AI agents, Wed Nov 11 2026. No macro, syntax, notation, axiom, sorry.
-/
import Derived.Test.YthjdmcjlnmonmaaDoorRows
import GoSem.ClaimSeven
namespace Go.Proofs.YthjdmcjlnmonmaaDoor
namespace Rows

/-- THE TIED CARD OF 'laws.FnExactReadList'. -/
def fnExactReadListCard : Claim7 := { stood := { row := fnExactReadListRow, standIns := [], harness := (true, "f1125b5e14cbaac331b109d8bad5f3a2374675d3496a1d03ed6f150e6ae11060"), looks := true }, kinds := [], alts := [], laidByText := true, laidKinds := [.data, .data, .data, .data, .sentinel, .sentinel, .pinned], laidTests := true, laidLooks := .later }
def FnExactReadListCardSaid : Prop := Claim7.holds Tryd.pinned (.plain (OpenSpec.ofChange fnExactReadListSpec)) fnExactReadListCard

/-- THE TIED CARD OF 'laws.FnExactReadPoint'. -/
def fnExactReadPointCard : Claim7 := { stood := { row := fnExactReadPointRow, standIns := [], harness := (true, "f1125b5e14cbaac331b109d8bad5f3a2374675d3496a1d03ed6f150e6ae11060"), looks := true }, kinds := [], alts := [], laidByText := true, laidKinds := [.data, .data, .data, .data, .sentinel, .sentinel, .pinned], laidTests := true, laidLooks := .later }
def FnExactReadPointCardSaid : Prop := Claim7.holds Tryd.pinned (.plain (OpenSpec.ofChange fnExactReadPointSpec)) fnExactReadPointCard

/-- THE TIED CARD OF 'laws.FnExactReadTerrain'. -/
def fnExactReadTerrainCard : Claim7 := { stood := { row := fnExactReadTerrainRow, standIns := [], harness := (true, "f1125b5e14cbaac331b109d8bad5f3a2374675d3496a1d03ed6f150e6ae11060"), looks := true }, kinds := [], alts := [], laidByText := true, laidKinds := [.data, .data, .data, .data, .sentinel, .sentinel, .pinned], laidTests := true, laidLooks := .later }
def FnExactReadTerrainCardSaid : Prop := Claim7.holds Tryd.pinned (.plain (OpenSpec.ofChange fnExactReadTerrainSpec)) fnExactReadTerrainCard

/-- THE TIED CARD OF 'laws.FnExactSplitWords'. -/
def fnExactSplitWordsCard : Claim7 := { stood := { row := fnExactSplitWordsRow, standIns := [], harness := (true, "f1125b5e14cbaac331b109d8bad5f3a2374675d3496a1d03ed6f150e6ae11060"), looks := true }, kinds := [], alts := [], laidByText := true, laidKinds := [.data, .pinned], laidTests := true, laidLooks := .later }
def FnExactSplitWordsCardSaid : Prop := Claim7.holds Tryd.pinned (.plain (OpenSpec.ofChange fnExactSplitWordsSpec)) fnExactSplitWordsCard

/-- THE TIED CARD OF 'laws.FnExactListText'. -/
def fnExactListTextCard : Claim7 := { stood := { row := fnExactListTextRow, standIns := [], harness := (true, "f1125b5e14cbaac331b109d8bad5f3a2374675d3496a1d03ed6f150e6ae11060"), looks := true }, kinds := [], alts := [], laidByText := true, laidKinds := [.data, .data, .data], laidTests := true, laidLooks := .later }
def FnExactListTextCardSaid : Prop := Claim7.holds Tryd.pinned (.plain (OpenSpec.ofChange fnExactListTextSpec)) fnExactListTextCard

/-- THE TIED CARD OF 'laws.FnExactDecimal'. -/
def fnExactDecimalCard : Claim7 := { stood := { row := fnExactDecimalRow, standIns := [], harness := (true, "f1125b5e14cbaac331b109d8bad5f3a2374675d3496a1d03ed6f150e6ae11060"), looks := true }, kinds := [], alts := [], laidByText := true, laidKinds := [.data, .data, .data], laidTests := true, laidLooks := .later }
def FnExactDecimalCardSaid : Prop := Claim7.holds Tryd.pinned (.plain (OpenSpec.ofChange fnExactDecimalSpec)) fnExactDecimalCard

/-- THE TIED CARD OF 'laws.FnExactPointText'. -/
def fnExactPointTextCard : Claim7 := { stood := { row := fnExactPointTextRow, standIns := [], harness := (true, "f1125b5e14cbaac331b109d8bad5f3a2374675d3496a1d03ed6f150e6ae11060"), looks := true }, kinds := [], alts := [], laidByText := true, laidKinds := [.data, .data, .data], laidTests := true, laidLooks := .later }
def FnExactPointTextCardSaid : Prop := Claim7.holds Tryd.pinned (.plain (OpenSpec.ofChange fnExactPointTextSpec)) fnExactPointTextCard

/-- THE TIED CARD OF 'laws.FnExactDbText'. -/
def fnExactDbTextCard : Claim7 := { stood := { row := fnExactDbTextRow, standIns := [], harness := (true, "f1125b5e14cbaac331b109d8bad5f3a2374675d3496a1d03ed6f150e6ae11060"), looks := true }, kinds := [], alts := [], laidByText := true, laidKinds := [.data, .data, .data], laidTests := true, laidLooks := .later }
def FnExactDbTextCardSaid : Prop := Claim7.holds Tryd.pinned (.plain (OpenSpec.ofChange fnExactDbTextSpec)) fnExactDbTextCard

/-- THE TIED CARD OF 'laws.FnExactTerrainText'. -/
def fnExactTerrainTextCard : Claim7 := { stood := { row := fnExactTerrainTextRow, standIns := [], harness := (true, "f1125b5e14cbaac331b109d8bad5f3a2374675d3496a1d03ed6f150e6ae11060"), looks := true }, kinds := [], alts := [], laidByText := true, laidKinds := [.data, .data, .data], laidTests := true, laidLooks := .later }
def FnExactTerrainTextCardSaid : Prop := Claim7.holds Tryd.pinned (.plain (OpenSpec.ofChange fnExactTerrainTextSpec)) fnExactTerrainTextCard

/-- THE TIED CARD OF 'laws.FnExactReadDecimal'. -/
def fnExactReadDecimalCard : Claim7 := { stood := { row := fnExactReadDecimalRow, standIns := [], harness := (true, "f1125b5e14cbaac331b109d8bad5f3a2374675d3496a1d03ed6f150e6ae11060"), looks := true }, kinds := [], alts := [], laidByText := true, laidKinds := [.data, .data, .data, .sentinel, .sentinel], laidTests := true, laidLooks := .later }
def FnExactReadDecimalCardSaid : Prop := Claim7.holds Tryd.pinned (.plain (OpenSpec.ofChange fnExactReadDecimalSpec)) fnExactReadDecimalCard

/-- THE TIED CARD OF 'laws.FnExactReadDb'. -/
def fnExactReadDbCard : Claim7 := { stood := { row := fnExactReadDbRow, standIns := [], harness := (true, "f1125b5e14cbaac331b109d8bad5f3a2374675d3496a1d03ed6f150e6ae11060"), looks := true }, kinds := [], alts := [], laidByText := true, laidKinds := [.data, .data, .data, .sentinel, .sentinel], laidTests := true, laidLooks := .later }
def FnExactReadDbCardSaid : Prop := Claim7.holds Tryd.pinned (.plain (OpenSpec.ofChange fnExactReadDbSpec)) fnExactReadDbCard

/-- THE TIED CARD OF 'laws.FnExactLogDb'. -/
def fnExactLogDbCard : Claim7 := { stood := { row := fnExactLogDbRow, standIns := [], harness := (true, "f1125b5e14cbaac331b109d8bad5f3a2374675d3496a1d03ed6f150e6ae11060"), looks := true }, kinds := [], alts := [], laidByText := true, laidKinds := [.data, .data, .data], laidTests := true, laidLooks := .later }
def FnExactLogDbCardSaid : Prop := Claim7.holds Tryd.pinned (.plain (OpenSpec.ofChange fnExactLogDbSpec)) fnExactLogDbCard

/-- THE SECOND FORM's CARD OF 'laws.FnExactReadList'. -/
def fnExactReadListUptoCard : Claim7 := { stood := { row := fnExactReadListUptoRow, standIns := [], harness := (true, "f1125b5e14cbaac331b109d8bad5f3a2374675d3496a1d03ed6f150e6ae11060"), looks := true }, kinds := [], alts := [], laidByText := true, laidKinds := [.data, .data, .data, .data, .sentinel, .sentinel, .pinned], laidTests := true, laidLooks := .later }
def FnExactReadListUptoCardSaid : Prop := Claim7.holds Tryd.pinned (.plain (OpenSpec.upto fnExactReadListSpec)) fnExactReadListUptoCard

/-- THE SECOND FORM's CARD OF 'laws.FnExactReadPoint'. -/
def fnExactReadPointUptoCard : Claim7 := { stood := { row := fnExactReadPointUptoRow, standIns := [], harness := (true, "f1125b5e14cbaac331b109d8bad5f3a2374675d3496a1d03ed6f150e6ae11060"), looks := true }, kinds := [], alts := [], laidByText := true, laidKinds := [.data, .data, .data, .data, .sentinel, .sentinel, .pinned], laidTests := true, laidLooks := .later }
def FnExactReadPointUptoCardSaid : Prop := Claim7.holds Tryd.pinned (.plain (OpenSpec.upto fnExactReadPointSpec)) fnExactReadPointUptoCard

/-- THE SECOND FORM's CARD OF 'laws.FnExactReadTerrain'. -/
def fnExactReadTerrainUptoCard : Claim7 := { stood := { row := fnExactReadTerrainUptoRow, standIns := [], harness := (true, "f1125b5e14cbaac331b109d8bad5f3a2374675d3496a1d03ed6f150e6ae11060"), looks := true }, kinds := [], alts := [], laidByText := true, laidKinds := [.data, .data, .data, .data, .sentinel, .sentinel, .pinned], laidTests := true, laidLooks := .later }
def FnExactReadTerrainUptoCardSaid : Prop := Claim7.holds Tryd.pinned (.plain (OpenSpec.upto fnExactReadTerrainSpec)) fnExactReadTerrainUptoCard

/-- THE SECOND FORM's CARD OF 'laws.FnExactSplitWords'. -/
def fnExactSplitWordsUptoCard : Claim7 := { stood := { row := fnExactSplitWordsUptoRow, standIns := [], harness := (true, "f1125b5e14cbaac331b109d8bad5f3a2374675d3496a1d03ed6f150e6ae11060"), looks := true }, kinds := [], alts := [], laidByText := true, laidKinds := [.data, .pinned], laidTests := true, laidLooks := .later }
def FnExactSplitWordsUptoCardSaid : Prop := Claim7.holds Tryd.pinned (.plain (OpenSpec.upto fnExactSplitWordsSpec)) fnExactSplitWordsUptoCard

/-- THE SECOND FORM's CARD OF 'laws.FnExactListText'. -/
def fnExactListTextUptoCard : Claim7 := { stood := { row := fnExactListTextUptoRow, standIns := [], harness := (true, "f1125b5e14cbaac331b109d8bad5f3a2374675d3496a1d03ed6f150e6ae11060"), looks := true }, kinds := [], alts := [], laidByText := true, laidKinds := [.data, .data, .data], laidTests := true, laidLooks := .later }
def FnExactListTextUptoCardSaid : Prop := Claim7.holds Tryd.pinned (.plain (OpenSpec.upto fnExactListTextSpec)) fnExactListTextUptoCard

/-- THE SECOND FORM's CARD OF 'laws.FnExactDecimal'. -/
def fnExactDecimalUptoCard : Claim7 := { stood := { row := fnExactDecimalUptoRow, standIns := [], harness := (true, "f1125b5e14cbaac331b109d8bad5f3a2374675d3496a1d03ed6f150e6ae11060"), looks := true }, kinds := [], alts := [], laidByText := true, laidKinds := [.data, .data, .data], laidTests := true, laidLooks := .later }
def FnExactDecimalUptoCardSaid : Prop := Claim7.holds Tryd.pinned (.plain (OpenSpec.upto fnExactDecimalSpec)) fnExactDecimalUptoCard

/-- THE SECOND FORM's CARD OF 'laws.FnExactPointText'. -/
def fnExactPointTextUptoCard : Claim7 := { stood := { row := fnExactPointTextUptoRow, standIns := [], harness := (true, "f1125b5e14cbaac331b109d8bad5f3a2374675d3496a1d03ed6f150e6ae11060"), looks := true }, kinds := [], alts := [], laidByText := true, laidKinds := [.data, .data, .data], laidTests := true, laidLooks := .later }
def FnExactPointTextUptoCardSaid : Prop := Claim7.holds Tryd.pinned (.plain (OpenSpec.upto fnExactPointTextSpec)) fnExactPointTextUptoCard

/-- THE SECOND FORM's CARD OF 'laws.FnExactDbText'. -/
def fnExactDbTextUptoCard : Claim7 := { stood := { row := fnExactDbTextUptoRow, standIns := [], harness := (true, "f1125b5e14cbaac331b109d8bad5f3a2374675d3496a1d03ed6f150e6ae11060"), looks := true }, kinds := [], alts := [], laidByText := true, laidKinds := [.data, .data, .data], laidTests := true, laidLooks := .later }
def FnExactDbTextUptoCardSaid : Prop := Claim7.holds Tryd.pinned (.plain (OpenSpec.upto fnExactDbTextSpec)) fnExactDbTextUptoCard

/-- THE SECOND FORM's CARD OF 'laws.FnExactTerrainText'. -/
def fnExactTerrainTextUptoCard : Claim7 := { stood := { row := fnExactTerrainTextUptoRow, standIns := [], harness := (true, "f1125b5e14cbaac331b109d8bad5f3a2374675d3496a1d03ed6f150e6ae11060"), looks := true }, kinds := [], alts := [], laidByText := true, laidKinds := [.data, .data, .data], laidTests := true, laidLooks := .later }
def FnExactTerrainTextUptoCardSaid : Prop := Claim7.holds Tryd.pinned (.plain (OpenSpec.upto fnExactTerrainTextSpec)) fnExactTerrainTextUptoCard

/-- THE SECOND FORM's CARD OF 'laws.FnExactReadDecimal'. -/
def fnExactReadDecimalUptoCard : Claim7 := { stood := { row := fnExactReadDecimalUptoRow, standIns := [], harness := (true, "f1125b5e14cbaac331b109d8bad5f3a2374675d3496a1d03ed6f150e6ae11060"), looks := true }, kinds := [], alts := [], laidByText := true, laidKinds := [.data, .data, .data, .sentinel, .sentinel], laidTests := true, laidLooks := .later }
def FnExactReadDecimalUptoCardSaid : Prop := Claim7.holds Tryd.pinned (.plain (OpenSpec.upto fnExactReadDecimalSpec)) fnExactReadDecimalUptoCard

/-- THE SECOND FORM's CARD OF 'laws.FnExactReadDb'. -/
def fnExactReadDbUptoCard : Claim7 := { stood := { row := fnExactReadDbUptoRow, standIns := [], harness := (true, "f1125b5e14cbaac331b109d8bad5f3a2374675d3496a1d03ed6f150e6ae11060"), looks := true }, kinds := [], alts := [], laidByText := true, laidKinds := [.data, .data, .data, .sentinel, .sentinel], laidTests := true, laidLooks := .later }
def FnExactReadDbUptoCardSaid : Prop := Claim7.holds Tryd.pinned (.plain (OpenSpec.upto fnExactReadDbSpec)) fnExactReadDbUptoCard

/-- THE SECOND FORM's CARD OF 'laws.FnExactLogDb'. -/
def fnExactLogDbUptoCard : Claim7 := { stood := { row := fnExactLogDbUptoRow, standIns := [], harness := (true, "f1125b5e14cbaac331b109d8bad5f3a2374675d3496a1d03ed6f150e6ae11060"), looks := true }, kinds := [], alts := [], laidByText := true, laidKinds := [.data, .data, .data], laidTests := true, laidLooks := .later }
def FnExactLogDbUptoCardSaid : Prop := Claim7.holds Tryd.pinned (.plain (OpenSpec.upto fnExactLogDbSpec)) fnExactLogDbUptoCard
end Rows
end Go.Proofs.YthjdmcjlnmonmaaDoor
