/-
  DERIVED. GIVEN WITH THE SEED: THE CARDS: each row of YthjdmcjlnmonmabDoorRows.lean that lists a variable, with what it lists TIED to the program's text (the seventh form; the later family's looks); each row that meets fmt, with fmt's text TOLD by the authors' own Lean function (tested against real Go, not proved from fmt's source: count such statements apart). THE CARD IS WHAT COUNTS. Prove the row's statement (the work); the ties are given (YthjdmcjlnmonmabDoorTie.lean); close each card by the builder's one call (the guide's Derived/Test/ToyasCard.lean, 'card_holds'). Laid BY PROGRAM, IN A SANDBOX (cutbox-door.mjs). By AI agents, Wed Nov 11 2026. No macro, syntax, notation, axiom, sorry.
-/
import Derived.Test.YthjdmcjlnmonmabDoorRows
import GoSem.ClaimSeven
namespace Go.Proofs.YthjdmcjlnmonmabDoor
namespace Rows

/-- THE TIED CARD OF 'laws.FnExactRatioDb'. -/
def fnExactRatioDbCard : Claim7 := { stood := { row := fnExactRatioDbRow, standIns := [], harness := (true, "695fe0350a4e3cf93c28c3bde2bdd9b3deeeb55bb3f77a16bf7f656ac2b7ccde"), looks := false }, kinds := [], alts := [], laidByText := true, laidKinds := [.data, .data, .data], laidTests := true, laidLooks := .later }
def FnExactRatioDbCardSaid : Prop := Claim7.holds Tryd.pinned (.plain (OpenSpec.ofChange fnExactRatioDbSpec)) fnExactRatioDbCard

/-- THE TIED CARD OF 'laws.FnExactPowDb'. -/
def fnExactPowDbCard : Claim7 := { stood := { row := fnExactPowDbRow, standIns := [], harness := (true, "695fe0350a4e3cf93c28c3bde2bdd9b3deeeb55bb3f77a16bf7f656ac2b7ccde"), looks := false }, kinds := [], alts := [], laidByText := true, laidKinds := [.data, .data, .data], laidTests := true, laidLooks := .later }
def FnExactPowDbCardSaid : Prop := Claim7.holds Tryd.pinned (.plain (OpenSpec.ofChange fnExactPowDbSpec)) fnExactPowDbCard

/-- THE TIED CARD OF 'laws.FnExactDiffDb'. -/
def fnExactDiffDbCard : Claim7 := { stood := { row := fnExactDiffDbRow, standIns := [], harness := (true, "695fe0350a4e3cf93c28c3bde2bdd9b3deeeb55bb3f77a16bf7f656ac2b7ccde"), looks := false }, kinds := [], alts := [], laidByText := true, laidKinds := [.data, .data, .data], laidTests := true, laidLooks := .later }
def FnExactDiffDbCardSaid : Prop := Claim7.holds Tryd.pinned (.plain (OpenSpec.ofChange fnExactDiffDbSpec)) fnExactDiffDbCard

/-- THE TIED CARD OF 'laws.FnExactMeanDb'. -/
def fnExactMeanDbCard : Claim7 := { stood := { row := fnExactMeanDbRow, standIns := [], harness := (true, "695fe0350a4e3cf93c28c3bde2bdd9b3deeeb55bb3f77a16bf7f656ac2b7ccde"), looks := false }, kinds := [], alts := [], laidByText := true, laidKinds := [.data, .data, .data], laidTests := true, laidLooks := .later }
def FnExactMeanDbCardSaid : Prop := Claim7.holds Tryd.pinned (.plain (OpenSpec.ofChange fnExactMeanDbSpec)) fnExactMeanDbCard

/-- THE TIED CARD OF 'laws.FnExactSumDb'. -/
def fnExactSumDbCard : Claim7 := { stood := { row := fnExactSumDbRow, standIns := [], harness := (true, "695fe0350a4e3cf93c28c3bde2bdd9b3deeeb55bb3f77a16bf7f656ac2b7ccde"), looks := false }, kinds := [], alts := [], laidByText := true, laidKinds := [.data, .data, .data], laidTests := true, laidLooks := .later }
def FnExactSumDbCardSaid : Prop := Claim7.holds Tryd.pinned (.plain (OpenSpec.ofChange fnExactSumDbSpec)) fnExactSumDbCard

/-- THE SECOND FORM's CARD OF 'laws.FnExactRatioDb'. -/
def fnExactRatioDbUptoCard : Claim7 := { stood := { row := fnExactRatioDbUptoRow, standIns := [], harness := (true, "695fe0350a4e3cf93c28c3bde2bdd9b3deeeb55bb3f77a16bf7f656ac2b7ccde"), looks := false }, kinds := [], alts := [], laidByText := true, laidKinds := [.data, .data, .data], laidTests := true, laidLooks := .later }
def FnExactRatioDbUptoCardSaid : Prop := Claim7.holds Tryd.pinned (.plain (OpenSpec.upto fnExactRatioDbSpec)) fnExactRatioDbUptoCard

/-- THE SECOND FORM's CARD OF 'laws.FnExactPowDb'. -/
def fnExactPowDbUptoCard : Claim7 := { stood := { row := fnExactPowDbUptoRow, standIns := [], harness := (true, "695fe0350a4e3cf93c28c3bde2bdd9b3deeeb55bb3f77a16bf7f656ac2b7ccde"), looks := false }, kinds := [], alts := [], laidByText := true, laidKinds := [.data, .data, .data], laidTests := true, laidLooks := .later }
def FnExactPowDbUptoCardSaid : Prop := Claim7.holds Tryd.pinned (.plain (OpenSpec.upto fnExactPowDbSpec)) fnExactPowDbUptoCard

/-- THE SECOND FORM's CARD OF 'laws.FnExactDiffDb'. -/
def fnExactDiffDbUptoCard : Claim7 := { stood := { row := fnExactDiffDbUptoRow, standIns := [], harness := (true, "695fe0350a4e3cf93c28c3bde2bdd9b3deeeb55bb3f77a16bf7f656ac2b7ccde"), looks := false }, kinds := [], alts := [], laidByText := true, laidKinds := [.data, .data, .data], laidTests := true, laidLooks := .later }
def FnExactDiffDbUptoCardSaid : Prop := Claim7.holds Tryd.pinned (.plain (OpenSpec.upto fnExactDiffDbSpec)) fnExactDiffDbUptoCard

/-- THE SECOND FORM's CARD OF 'laws.FnExactMeanDb'. -/
def fnExactMeanDbUptoCard : Claim7 := { stood := { row := fnExactMeanDbUptoRow, standIns := [], harness := (true, "695fe0350a4e3cf93c28c3bde2bdd9b3deeeb55bb3f77a16bf7f656ac2b7ccde"), looks := false }, kinds := [], alts := [], laidByText := true, laidKinds := [.data, .data, .data], laidTests := true, laidLooks := .later }
def FnExactMeanDbUptoCardSaid : Prop := Claim7.holds Tryd.pinned (.plain (OpenSpec.upto fnExactMeanDbSpec)) fnExactMeanDbUptoCard

/-- THE SECOND FORM's CARD OF 'laws.FnExactSumDb'. -/
def fnExactSumDbUptoCard : Claim7 := { stood := { row := fnExactSumDbUptoRow, standIns := [], harness := (true, "695fe0350a4e3cf93c28c3bde2bdd9b3deeeb55bb3f77a16bf7f656ac2b7ccde"), looks := false }, kinds := [], alts := [], laidByText := true, laidKinds := [.data, .data, .data], laidTests := true, laidLooks := .later }
def FnExactSumDbUptoCardSaid : Prop := Claim7.holds Tryd.pinned (.plain (OpenSpec.upto fnExactSumDbSpec)) fnExactSumDbUptoCard
end Rows
end Go.Proofs.YthjdmcjlnmonmabDoor
