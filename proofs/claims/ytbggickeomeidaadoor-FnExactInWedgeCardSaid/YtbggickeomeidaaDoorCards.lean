/-
  DERIVED. GIVEN WITH THE SEED: THE CARDS: each row of YtbggickeomeidaaDoorRows.lean that lists a variable, with what it lists TIED to the program's text (the seventh form; the later family's looks); each row that meets fmt, with fmt's text TOLD by the authors' own Lean function (tested against real Go, not proved from fmt's source: count such statements apart). THE CARD IS WHAT COUNTS. Prove the row's statement (the work); the ties are given (YtbggickeomeidaaDoorTie.lean); close each card by the builder's one call (the guide's Derived/Test/ToyasCard.lean, 'card_holds'). Laid BY PROGRAM, IN A SANDBOX (cutbox-door.mjs). By AI agents, Wed Nov 11 2026. No macro, syntax, notation, axiom, sorry.
-/
import Derived.Test.YtbggickeomeidaaDoorRows
import GoSem.ClaimSeven
namespace Go.Proofs.YtbggickeomeidaaDoor
namespace Rows

/-- THE TIED CARD OF 'laws.FnExactReadDb'. -/
def fnExactReadDbCard : Claim7 := { stood := { row := fnExactReadDbRow, standIns := [], harness := (true, "74fb0bca4966a4ef1d3e252268e34d42e5131ebe65c7062d95cfde17430b40b8"), looks := true }, kinds := [], alts := [], laidByText := true, laidKinds := [.data, .data, .data, .sentinel, .sentinel], laidTests := true, laidLooks := .later }
def FnExactReadDbCardSaid : Prop := Claim7.holds Tryd.pinned (.plain (OpenSpec.ofChange fnExactReadDbSpec)) fnExactReadDbCard

/-- THE TIED CARD OF 'laws.FnExactReadDecimal'. -/
def fnExactReadDecimalCard : Claim7 := { stood := { row := fnExactReadDecimalRow, standIns := [], harness := (true, "74fb0bca4966a4ef1d3e252268e34d42e5131ebe65c7062d95cfde17430b40b8"), looks := true }, kinds := [], alts := [], laidByText := true, laidKinds := [.data, .data, .data, .sentinel, .sentinel], laidTests := true, laidLooks := .later }
def FnExactReadDecimalCardSaid : Prop := Claim7.holds Tryd.pinned (.plain (OpenSpec.ofChange fnExactReadDecimalSpec)) fnExactReadDecimalCard

/-- THE TIED CARD OF 'laws.FnExactReadList'. -/
def fnExactReadListCard : Claim7 := { stood := { row := fnExactReadListRow, standIns := [], harness := (true, "74fb0bca4966a4ef1d3e252268e34d42e5131ebe65c7062d95cfde17430b40b8"), looks := true }, kinds := [], alts := [], laidByText := true, laidKinds := [.data, .data, .data, .data, .sentinel, .sentinel, .pinned], laidTests := true, laidLooks := .later }
def FnExactReadListCardSaid : Prop := Claim7.holds Tryd.pinned (.plain (OpenSpec.ofChange fnExactReadListSpec)) fnExactReadListCard

/-- THE TIED CARD OF 'laws.FnExactReadPoint'. -/
def fnExactReadPointCard : Claim7 := { stood := { row := fnExactReadPointRow, standIns := [], harness := (true, "74fb0bca4966a4ef1d3e252268e34d42e5131ebe65c7062d95cfde17430b40b8"), looks := true }, kinds := [], alts := [], laidByText := true, laidKinds := [.data, .data, .data, .data, .sentinel, .sentinel, .pinned], laidTests := true, laidLooks := .later }
def FnExactReadPointCardSaid : Prop := Claim7.holds Tryd.pinned (.plain (OpenSpec.ofChange fnExactReadPointSpec)) fnExactReadPointCard

/-- THE TIED CARD OF 'laws.FnExactSplitWords'. -/
def fnExactSplitWordsCard : Claim7 := { stood := { row := fnExactSplitWordsRow, standIns := [], harness := (true, "74fb0bca4966a4ef1d3e252268e34d42e5131ebe65c7062d95cfde17430b40b8"), looks := true }, kinds := [], alts := [], laidByText := true, laidKinds := [.data, .pinned], laidTests := true, laidLooks := .later }
def FnExactSplitWordsCardSaid : Prop := Claim7.holds Tryd.pinned (.plain (OpenSpec.ofChange fnExactSplitWordsSpec)) fnExactSplitWordsCard

/-- THE TIED CARD OF 'laws.FnExactInWedge'. -/
def fnExactInWedgeCard : Claim7 := { stood := { row := fnExactInWedgeRow, standIns := [], harness := (true, "74fb0bca4966a4ef1d3e252268e34d42e5131ebe65c7062d95cfde17430b40b8"), looks := true }, kinds := [], alts := [], laidByText := true, laidKinds := [.data], laidTests := true, laidLooks := .later }
def FnExactInWedgeCardSaid : Prop := Claim7.holds Tryd.pinned (.plain (OpenSpec.ofChange fnExactInWedgeSpec)) fnExactInWedgeCard

/-- THE SECOND FORM's CARD OF 'laws.FnExactReadDb'. -/
def fnExactReadDbUptoCard : Claim7 := { stood := { row := fnExactReadDbUptoRow, standIns := [], harness := (true, "74fb0bca4966a4ef1d3e252268e34d42e5131ebe65c7062d95cfde17430b40b8"), looks := true }, kinds := [], alts := [], laidByText := true, laidKinds := [.data, .data, .data, .sentinel, .sentinel], laidTests := true, laidLooks := .later }
def FnExactReadDbUptoCardSaid : Prop := Claim7.holds Tryd.pinned (.plain (OpenSpec.upto fnExactReadDbSpec)) fnExactReadDbUptoCard

/-- THE SECOND FORM's CARD OF 'laws.FnExactReadDecimal'. -/
def fnExactReadDecimalUptoCard : Claim7 := { stood := { row := fnExactReadDecimalUptoRow, standIns := [], harness := (true, "74fb0bca4966a4ef1d3e252268e34d42e5131ebe65c7062d95cfde17430b40b8"), looks := true }, kinds := [], alts := [], laidByText := true, laidKinds := [.data, .data, .data, .sentinel, .sentinel], laidTests := true, laidLooks := .later }
def FnExactReadDecimalUptoCardSaid : Prop := Claim7.holds Tryd.pinned (.plain (OpenSpec.upto fnExactReadDecimalSpec)) fnExactReadDecimalUptoCard

/-- THE SECOND FORM's CARD OF 'laws.FnExactReadList'. -/
def fnExactReadListUptoCard : Claim7 := { stood := { row := fnExactReadListUptoRow, standIns := [], harness := (true, "74fb0bca4966a4ef1d3e252268e34d42e5131ebe65c7062d95cfde17430b40b8"), looks := true }, kinds := [], alts := [], laidByText := true, laidKinds := [.data, .data, .data, .data, .sentinel, .sentinel, .pinned], laidTests := true, laidLooks := .later }
def FnExactReadListUptoCardSaid : Prop := Claim7.holds Tryd.pinned (.plain (OpenSpec.upto fnExactReadListSpec)) fnExactReadListUptoCard

/-- THE SECOND FORM's CARD OF 'laws.FnExactReadPoint'. -/
def fnExactReadPointUptoCard : Claim7 := { stood := { row := fnExactReadPointUptoRow, standIns := [], harness := (true, "74fb0bca4966a4ef1d3e252268e34d42e5131ebe65c7062d95cfde17430b40b8"), looks := true }, kinds := [], alts := [], laidByText := true, laidKinds := [.data, .data, .data, .data, .sentinel, .sentinel, .pinned], laidTests := true, laidLooks := .later }
def FnExactReadPointUptoCardSaid : Prop := Claim7.holds Tryd.pinned (.plain (OpenSpec.upto fnExactReadPointSpec)) fnExactReadPointUptoCard

/-- THE SECOND FORM's CARD OF 'laws.FnExactSplitWords'. -/
def fnExactSplitWordsUptoCard : Claim7 := { stood := { row := fnExactSplitWordsUptoRow, standIns := [], harness := (true, "74fb0bca4966a4ef1d3e252268e34d42e5131ebe65c7062d95cfde17430b40b8"), looks := true }, kinds := [], alts := [], laidByText := true, laidKinds := [.data, .pinned], laidTests := true, laidLooks := .later }
def FnExactSplitWordsUptoCardSaid : Prop := Claim7.holds Tryd.pinned (.plain (OpenSpec.upto fnExactSplitWordsSpec)) fnExactSplitWordsUptoCard

/-- THE SECOND FORM's CARD OF 'laws.FnExactInWedge'. -/
def fnExactInWedgeUptoCard : Claim7 := { stood := { row := fnExactInWedgeUptoRow, standIns := [], harness := (true, "74fb0bca4966a4ef1d3e252268e34d42e5131ebe65c7062d95cfde17430b40b8"), looks := true }, kinds := [], alts := [], laidByText := true, laidKinds := [.data], laidTests := true, laidLooks := .later }
def FnExactInWedgeUptoCardSaid : Prop := Claim7.holds Tryd.pinned (.plain (OpenSpec.upto fnExactInWedgeSpec)) fnExactInWedgeUptoCard
end Rows
end Go.Proofs.YtbggickeomeidaaDoor
