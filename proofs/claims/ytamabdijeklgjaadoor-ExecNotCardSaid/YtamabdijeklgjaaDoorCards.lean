/-
  DERIVED. GIVEN WITH THE SEED: THE CARDS: each row of YtamabdijeklgjaaDoorRows.lean that lists a variable, with what it lists TIED to the program's text (the seventh form; the later family's looks); each row that meets fmt, with fmt's text TOLD by the authors' own Lean function (tested against real Go, not proved from fmt's source: count such statements apart). THE CARD IS WHAT COUNTS. Prove the row's statement (the work); the ties are given (YtamabdijeklgjaaDoorTie.lean); close each card by the builder's one call (the guide's Derived/Test/ToyasCard.lean, 'card_holds'). Laid BY PROGRAM, IN A SANDBOX (cutbox-door.mjs). By AI agents, Wed Nov 11 2026. No macro, syntax, notation, axiom, sorry.
-/
import Derived.Test.YtamabdijeklgjaaDoorRows
import GoSem.ClaimSeven
namespace Go.Proofs.YtamabdijeklgjaaDoor
namespace Rows

/-- THE TIED CARD OF 'observatorylaw33.FlowUnits'. -/
def flowUnitsCard : Claim7 := { stood := { row := flowUnitsRow, standIns := [], harness := (true, "b67c695ce48b5e33e8ca0521eea163c86315a06ae61641e4111f586b99d8738a"), looks := true }, kinds := [], alts := [], laidByText := true, laidKinds := [.data, .data, .data, .sentinel, .sentinel], laidTests := true, laidLooks := .later }
def FlowUnitsCardSaid : Prop := Claim7.holds Tryd.pinned (.plain (OpenSpec.ofChange flowUnitsSpec)) flowUnitsCard

/-- THE TIED CARD OF 'observatorylaw33.FlowPure'. -/
def flowPureCard : Claim7 := { stood := { row := flowPureRow, standIns := [], harness := (true, "b67c695ce48b5e33e8ca0521eea163c86315a06ae61641e4111f586b99d8738a"), looks := true }, kinds := [], alts := [], laidByText := true, laidKinds := [.data, .data, .data, .sentinel, .sentinel], laidTests := true, laidLooks := .later }
def FlowPureCardSaid : Prop := Claim7.holds Tryd.pinned (.plain (OpenSpec.ofChange flowPureSpec)) flowPureCard

/-- THE TIED CARD OF 'observatorylaw34.ExecEnough'. -/
def execEnoughCard : Claim7 := { stood := { row := execEnoughRow, standIns := [], harness := (true, "b67c695ce48b5e33e8ca0521eea163c86315a06ae61641e4111f586b99d8738a"), looks := true }, kinds := [], alts := [], laidByText := true, laidKinds := [.data, .data, .data, .sentinel, .sentinel, .data], laidTests := true, laidLooks := .later }
def ExecEnoughCardSaid : Prop := Claim7.holds Tryd.pinned (.plain (OpenSpec.ofChange execEnoughSpec)) execEnoughCard

/-- THE TIED CARD OF 'observatorylaw34.ExecRefines'. -/
def execRefinesCard : Claim7 := { stood := { row := execRefinesRow, standIns := [], harness := (true, "b67c695ce48b5e33e8ca0521eea163c86315a06ae61641e4111f586b99d8738a"), looks := true }, kinds := [], alts := [], laidByText := true, laidKinds := [.data, .data, .data, .sentinel, .sentinel, .data], laidTests := true, laidLooks := .later }
def ExecRefinesCardSaid : Prop := Claim7.holds Tryd.pinned (.plain (OpenSpec.ofChange execRefinesSpec)) execRefinesCard

/-- THE TIED CARD OF 'observatorylaw34.ExecNot'. -/
def execNotCard : Claim7 := { stood := { row := execNotRow, standIns := [], harness := (true, "b67c695ce48b5e33e8ca0521eea163c86315a06ae61641e4111f586b99d8738a"), looks := true }, kinds := [], alts := [], laidByText := true, laidKinds := [.data, .data, .data, .sentinel, .sentinel, .data], laidTests := true, laidLooks := .later }
def ExecNotCardSaid : Prop := Claim7.holds Tryd.pinned (.plain (OpenSpec.ofChange execNotSpec)) execNotCard

/-- THE TIED CARD OF 'observatorylaw34.ExecCells'. -/
def execCellsCard : Claim7 := { stood := { row := execCellsRow, standIns := [], harness := (true, "b67c695ce48b5e33e8ca0521eea163c86315a06ae61641e4111f586b99d8738a"), looks := true }, kinds := [], alts := [], laidByText := true, laidKinds := [.data, .data, .data, .sentinel, .sentinel, .data], laidTests := true, laidLooks := .later }
def ExecCellsCardSaid : Prop := Claim7.holds Tryd.pinned (.plain (OpenSpec.ofChange execCellsSpec)) execCellsCard

/-- THE TIED CARD OF 'observatorylaw33.FlowTexts'. -/
def flowTextsCard : Claim7 := { stood := { row := flowTextsRow, standIns := [], harness := (true, "b67c695ce48b5e33e8ca0521eea163c86315a06ae61641e4111f586b99d8738a"), looks := true }, kinds := [], alts := [], laidByText := true, laidKinds := [.data, .data, .data, .sentinel, .sentinel], laidTests := true, laidLooks := .later }
def FlowTextsCardSaid : Prop := Claim7.holds Tryd.pinned (.plain (OpenSpec.ofChange flowTextsSpec)) flowTextsCard

/-- THE SECOND FORM's CARD OF 'observatorylaw33.FlowUnits'. -/
def flowUnitsUptoCard : Claim7 := { stood := { row := flowUnitsUptoRow, standIns := [], harness := (true, "b67c695ce48b5e33e8ca0521eea163c86315a06ae61641e4111f586b99d8738a"), looks := true }, kinds := [], alts := [], laidByText := true, laidKinds := [.data, .data, .data, .sentinel, .sentinel], laidTests := true, laidLooks := .later }
def FlowUnitsUptoCardSaid : Prop := Claim7.holds Tryd.pinned (.plain (OpenSpec.upto flowUnitsSpec)) flowUnitsUptoCard

/-- THE SECOND FORM's CARD OF 'observatorylaw33.FlowPure'. -/
def flowPureUptoCard : Claim7 := { stood := { row := flowPureUptoRow, standIns := [], harness := (true, "b67c695ce48b5e33e8ca0521eea163c86315a06ae61641e4111f586b99d8738a"), looks := true }, kinds := [], alts := [], laidByText := true, laidKinds := [.data, .data, .data, .sentinel, .sentinel], laidTests := true, laidLooks := .later }
def FlowPureUptoCardSaid : Prop := Claim7.holds Tryd.pinned (.plain (OpenSpec.upto flowPureSpec)) flowPureUptoCard

/-- THE SECOND FORM's CARD OF 'observatorylaw34.ExecEnough'. -/
def execEnoughUptoCard : Claim7 := { stood := { row := execEnoughUptoRow, standIns := [], harness := (true, "b67c695ce48b5e33e8ca0521eea163c86315a06ae61641e4111f586b99d8738a"), looks := true }, kinds := [], alts := [], laidByText := true, laidKinds := [.data, .data, .data, .sentinel, .sentinel, .data], laidTests := true, laidLooks := .later }
def ExecEnoughUptoCardSaid : Prop := Claim7.holds Tryd.pinned (.plain (OpenSpec.upto execEnoughSpec)) execEnoughUptoCard

/-- THE SECOND FORM's CARD OF 'observatorylaw34.ExecRefines'. -/
def execRefinesUptoCard : Claim7 := { stood := { row := execRefinesUptoRow, standIns := [], harness := (true, "b67c695ce48b5e33e8ca0521eea163c86315a06ae61641e4111f586b99d8738a"), looks := true }, kinds := [], alts := [], laidByText := true, laidKinds := [.data, .data, .data, .sentinel, .sentinel, .data], laidTests := true, laidLooks := .later }
def ExecRefinesUptoCardSaid : Prop := Claim7.holds Tryd.pinned (.plain (OpenSpec.upto execRefinesSpec)) execRefinesUptoCard

/-- THE SECOND FORM's CARD OF 'observatorylaw34.ExecNot'. -/
def execNotUptoCard : Claim7 := { stood := { row := execNotUptoRow, standIns := [], harness := (true, "b67c695ce48b5e33e8ca0521eea163c86315a06ae61641e4111f586b99d8738a"), looks := true }, kinds := [], alts := [], laidByText := true, laidKinds := [.data, .data, .data, .sentinel, .sentinel, .data], laidTests := true, laidLooks := .later }
def ExecNotUptoCardSaid : Prop := Claim7.holds Tryd.pinned (.plain (OpenSpec.upto execNotSpec)) execNotUptoCard

/-- THE SECOND FORM's CARD OF 'observatorylaw34.ExecCells'. -/
def execCellsUptoCard : Claim7 := { stood := { row := execCellsUptoRow, standIns := [], harness := (true, "b67c695ce48b5e33e8ca0521eea163c86315a06ae61641e4111f586b99d8738a"), looks := true }, kinds := [], alts := [], laidByText := true, laidKinds := [.data, .data, .data, .sentinel, .sentinel, .data], laidTests := true, laidLooks := .later }
def ExecCellsUptoCardSaid : Prop := Claim7.holds Tryd.pinned (.plain (OpenSpec.upto execCellsSpec)) execCellsUptoCard

/-- THE SECOND FORM's CARD OF 'observatorylaw33.FlowTexts'. -/
def flowTextsUptoCard : Claim7 := { stood := { row := flowTextsUptoRow, standIns := [], harness := (true, "b67c695ce48b5e33e8ca0521eea163c86315a06ae61641e4111f586b99d8738a"), looks := true }, kinds := [], alts := [], laidByText := true, laidKinds := [.data, .data, .data, .sentinel, .sentinel], laidTests := true, laidLooks := .later }
def FlowTextsUptoCardSaid : Prop := Claim7.holds Tryd.pinned (.plain (OpenSpec.upto flowTextsSpec)) flowTextsUptoCard
end Rows
end Go.Proofs.YtamabdijeklgjaaDoor
