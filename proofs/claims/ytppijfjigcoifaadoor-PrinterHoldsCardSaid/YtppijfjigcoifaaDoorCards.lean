/-
  DERIVED. GIVEN WITH THE SEED: THE CARDS: each row of YtppijfjigcoifaaDoorRows.lean that lists a variable, with what it lists TIED to the program's text (the seventh form; the later family's looks); each row that meets fmt, with fmt's text TOLD by the authors' own Lean function (tested against real Go, not proved from fmt's source: count such statements apart). THE CARD IS WHAT COUNTS. Prove the row's statement (the work); the ties are given (YtppijfjigcoifaaDoorTie.lean); close each card by the builder's one call (the guide's Derived/Test/ToyasCard.lean, 'card_holds'). Laid BY PROGRAM, IN A SANDBOX (cutbox-door.mjs). By AI agents, Wed Nov 11 2026. No macro, syntax, notation, axiom, sorry.
-/
import Derived.Test.YtppijfjigcoifaaDoorRows
import GoSem.ClaimSeven
namespace Go.Proofs.YtppijfjigcoifaaDoor
namespace Rows

/-- THE TIED CARD OF 'scrollbacklaw14.GridSizes'. -/
def gridSizesCard : Claim7 := { stood := { row := gridSizesRow, standIns := [], harness := (true, "5b8fc82b0c391caad3c1e67adf23a839c0d90f63bb783902444a3c6aaf8a4ef3"), looks := false }, kinds := [], alts := [], laidByText := true, laidKinds := [.widerDeep, .widerDeep], laidTests := true, laidLooks := .later }
def GridSizesCardSaid : Prop := Claim7.holds Tryd.pinned (.plain (OpenSpec.ofChange gridSizesSpec)) gridSizesCard

/-- THE TIED CARD OF 'scrollbacklaw14.GridOf'. -/
def gridOfCard : Claim7 := { stood := { row := gridOfRow, standIns := [], harness := (true, "5b8fc82b0c391caad3c1e67adf23a839c0d90f63bb783902444a3c6aaf8a4ef3"), looks := false }, kinds := [], alts := [], laidByText := true, laidKinds := [.widerDeep, .widerDeep], laidTests := true, laidLooks := .later }
def GridOfCardSaid : Prop := Claim7.holds Tryd.pinned (.plain (OpenSpec.ofChange gridOfSpec)) gridOfCard

/-- THE TIED CARD OF 'scrollbacklaw16.PrinterNil'. -/
def printerNilCard : Claim7 := { stood := { row := printerNilRow, standIns := [], harness := (true, "5b8fc82b0c391caad3c1e67adf23a839c0d90f63bb783902444a3c6aaf8a4ef3"), looks := false }, kinds := [], alts := [], laidByText := true, laidKinds := [.widerDeep, .widerDeep], laidTests := true, laidLooks := .later }
def PrinterNilCardSaid : Prop := Claim7.holds Tryd.pinned (.plain (OpenSpec.ofChange printerNilSpec)) printerNilCard

/-- THE TIED CARD OF 'scrollbacklaw16.PrinterPlays'. -/
def printerPlaysCard : Claim7 := { stood := { row := printerPlaysRow, standIns := [], harness := (true, "5b8fc82b0c391caad3c1e67adf23a839c0d90f63bb783902444a3c6aaf8a4ef3"), looks := false }, kinds := [], alts := [], laidByText := true, laidKinds := [.widerDeep, .widerDeep], laidTests := true, laidLooks := .later }
def PrinterPlaysCardSaid : Prop := Claim7.holds Tryd.pinned (.plain (OpenSpec.ofChange printerPlaysSpec)) printerPlaysCard

/-- THE TIED CARD OF 'scrollbacklaw16.PrinterCursors'. -/
def printerCursorsCard : Claim7 := { stood := { row := printerCursorsRow, standIns := [], harness := (true, "5b8fc82b0c391caad3c1e67adf23a839c0d90f63bb783902444a3c6aaf8a4ef3"), looks := false }, kinds := [], alts := [], laidByText := true, laidKinds := [.widerDeep, .widerDeep], laidTests := true, laidLooks := .later }
def PrinterCursorsCardSaid : Prop := Claim7.holds Tryd.pinned (.plain (OpenSpec.ofChange printerCursorsSpec)) printerCursorsCard

/-- THE TIED CARD OF 'scrollbacklaw16.PrinterRuns'. -/
def printerRunsCard : Claim7 := { stood := { row := printerRunsRow, standIns := [], harness := (true, "5b8fc82b0c391caad3c1e67adf23a839c0d90f63bb783902444a3c6aaf8a4ef3"), looks := false }, kinds := [], alts := [], laidByText := true, laidKinds := [.widerDeep, .widerDeep], laidTests := true, laidLooks := .later }
def PrinterRunsCardSaid : Prop := Claim7.holds Tryd.pinned (.plain (OpenSpec.ofChange printerRunsSpec)) printerRunsCard

/-- THE TIED CARD OF 'scrollbacklaw16.PrinterHolds'. -/
def printerHoldsCard : Claim7 := { stood := { row := printerHoldsRow, standIns := [], harness := (true, "5b8fc82b0c391caad3c1e67adf23a839c0d90f63bb783902444a3c6aaf8a4ef3"), looks := false }, kinds := [], alts := [], laidByText := true, laidKinds := [.widerDeep, .widerDeep], laidTests := true, laidLooks := .later }
def PrinterHoldsCardSaid : Prop := Claim7.holds Tryd.pinned (.plain (OpenSpec.ofChange printerHoldsSpec)) printerHoldsCard

/-- THE TIED CARD OF 'scrollbacklaw14.GridPlays'. -/
def gridPlaysCard : Claim7 := { stood := { row := gridPlaysRow, standIns := [], harness := (true, "5b8fc82b0c391caad3c1e67adf23a839c0d90f63bb783902444a3c6aaf8a4ef3"), looks := false }, kinds := [], alts := [], laidByText := true, laidKinds := [.widerDeep, .widerDeep], laidTests := true, laidLooks := .later }
def GridPlaysCardSaid : Prop := Claim7.holds Tryd.pinned (.plain (OpenSpec.ofChange gridPlaysSpec)) gridPlaysCard

/-- THE TIED CARD OF 'scrollbacklaw14.GridSame'. -/
def gridSameCard : Claim7 := { stood := { row := gridSameRow, standIns := [], harness := (true, "5b8fc82b0c391caad3c1e67adf23a839c0d90f63bb783902444a3c6aaf8a4ef3"), looks := false }, kinds := [], alts := [], laidByText := true, laidKinds := [.widerDeep, .widerDeep], laidTests := true, laidLooks := .later }
def GridSameCardSaid : Prop := Claim7.holds Tryd.pinned (.plain (OpenSpec.ofChange gridSameSpec)) gridSameCard

/-- THE TIED CARD OF 'scrollbacklaw14.GridNil'. -/
def gridNilCard : Claim7 := { stood := { row := gridNilRow, standIns := [], harness := (true, "5b8fc82b0c391caad3c1e67adf23a839c0d90f63bb783902444a3c6aaf8a4ef3"), looks := false }, kinds := [], alts := [], laidByText := true, laidKinds := [.widerDeep, .widerDeep], laidTests := true, laidLooks := .later }
def GridNilCardSaid : Prop := Claim7.holds Tryd.pinned (.plain (OpenSpec.ofChange gridNilSpec)) gridNilCard

/-- THE TIED CARD OF 'scrollbacklaw14.GridHolds'. -/
def gridHoldsCard : Claim7 := { stood := { row := gridHoldsRow, standIns := [], harness := (true, "5b8fc82b0c391caad3c1e67adf23a839c0d90f63bb783902444a3c6aaf8a4ef3"), looks := false }, kinds := [], alts := [], laidByText := true, laidKinds := [.widerDeep, .widerDeep], laidTests := true, laidLooks := .later }
def GridHoldsCardSaid : Prop := Claim7.holds Tryd.pinned (.plain (OpenSpec.ofChange gridHoldsSpec)) gridHoldsCard

/-- THE SECOND FORM's CARD OF 'scrollbacklaw14.GridSizes'. -/
def gridSizesUptoCard : Claim7 := { stood := { row := gridSizesUptoRow, standIns := [], harness := (true, "5b8fc82b0c391caad3c1e67adf23a839c0d90f63bb783902444a3c6aaf8a4ef3"), looks := false }, kinds := [], alts := [], laidByText := true, laidKinds := [.widerDeep, .widerDeep], laidTests := true, laidLooks := .later }
def GridSizesUptoCardSaid : Prop := Claim7.holds Tryd.pinned (.plain (OpenSpec.upto gridSizesSpec)) gridSizesUptoCard

/-- THE SECOND FORM's CARD OF 'scrollbacklaw14.GridOf'. -/
def gridOfUptoCard : Claim7 := { stood := { row := gridOfUptoRow, standIns := [], harness := (true, "5b8fc82b0c391caad3c1e67adf23a839c0d90f63bb783902444a3c6aaf8a4ef3"), looks := false }, kinds := [], alts := [], laidByText := true, laidKinds := [.widerDeep, .widerDeep], laidTests := true, laidLooks := .later }
def GridOfUptoCardSaid : Prop := Claim7.holds Tryd.pinned (.plain (OpenSpec.upto gridOfSpec)) gridOfUptoCard

/-- THE SECOND FORM's CARD OF 'scrollbacklaw16.PrinterNil'. -/
def printerNilUptoCard : Claim7 := { stood := { row := printerNilUptoRow, standIns := [], harness := (true, "5b8fc82b0c391caad3c1e67adf23a839c0d90f63bb783902444a3c6aaf8a4ef3"), looks := false }, kinds := [], alts := [], laidByText := true, laidKinds := [.widerDeep, .widerDeep], laidTests := true, laidLooks := .later }
def PrinterNilUptoCardSaid : Prop := Claim7.holds Tryd.pinned (.plain (OpenSpec.upto printerNilSpec)) printerNilUptoCard

/-- THE SECOND FORM's CARD OF 'scrollbacklaw16.PrinterPlays'. -/
def printerPlaysUptoCard : Claim7 := { stood := { row := printerPlaysUptoRow, standIns := [], harness := (true, "5b8fc82b0c391caad3c1e67adf23a839c0d90f63bb783902444a3c6aaf8a4ef3"), looks := false }, kinds := [], alts := [], laidByText := true, laidKinds := [.widerDeep, .widerDeep], laidTests := true, laidLooks := .later }
def PrinterPlaysUptoCardSaid : Prop := Claim7.holds Tryd.pinned (.plain (OpenSpec.upto printerPlaysSpec)) printerPlaysUptoCard

/-- THE SECOND FORM's CARD OF 'scrollbacklaw16.PrinterCursors'. -/
def printerCursorsUptoCard : Claim7 := { stood := { row := printerCursorsUptoRow, standIns := [], harness := (true, "5b8fc82b0c391caad3c1e67adf23a839c0d90f63bb783902444a3c6aaf8a4ef3"), looks := false }, kinds := [], alts := [], laidByText := true, laidKinds := [.widerDeep, .widerDeep], laidTests := true, laidLooks := .later }
def PrinterCursorsUptoCardSaid : Prop := Claim7.holds Tryd.pinned (.plain (OpenSpec.upto printerCursorsSpec)) printerCursorsUptoCard

/-- THE SECOND FORM's CARD OF 'scrollbacklaw16.PrinterRuns'. -/
def printerRunsUptoCard : Claim7 := { stood := { row := printerRunsUptoRow, standIns := [], harness := (true, "5b8fc82b0c391caad3c1e67adf23a839c0d90f63bb783902444a3c6aaf8a4ef3"), looks := false }, kinds := [], alts := [], laidByText := true, laidKinds := [.widerDeep, .widerDeep], laidTests := true, laidLooks := .later }
def PrinterRunsUptoCardSaid : Prop := Claim7.holds Tryd.pinned (.plain (OpenSpec.upto printerRunsSpec)) printerRunsUptoCard

/-- THE SECOND FORM's CARD OF 'scrollbacklaw16.PrinterHolds'. -/
def printerHoldsUptoCard : Claim7 := { stood := { row := printerHoldsUptoRow, standIns := [], harness := (true, "5b8fc82b0c391caad3c1e67adf23a839c0d90f63bb783902444a3c6aaf8a4ef3"), looks := false }, kinds := [], alts := [], laidByText := true, laidKinds := [.widerDeep, .widerDeep], laidTests := true, laidLooks := .later }
def PrinterHoldsUptoCardSaid : Prop := Claim7.holds Tryd.pinned (.plain (OpenSpec.upto printerHoldsSpec)) printerHoldsUptoCard

/-- THE SECOND FORM's CARD OF 'scrollbacklaw14.GridPlays'. -/
def gridPlaysUptoCard : Claim7 := { stood := { row := gridPlaysUptoRow, standIns := [], harness := (true, "5b8fc82b0c391caad3c1e67adf23a839c0d90f63bb783902444a3c6aaf8a4ef3"), looks := false }, kinds := [], alts := [], laidByText := true, laidKinds := [.widerDeep, .widerDeep], laidTests := true, laidLooks := .later }
def GridPlaysUptoCardSaid : Prop := Claim7.holds Tryd.pinned (.plain (OpenSpec.upto gridPlaysSpec)) gridPlaysUptoCard

/-- THE SECOND FORM's CARD OF 'scrollbacklaw14.GridSame'. -/
def gridSameUptoCard : Claim7 := { stood := { row := gridSameUptoRow, standIns := [], harness := (true, "5b8fc82b0c391caad3c1e67adf23a839c0d90f63bb783902444a3c6aaf8a4ef3"), looks := false }, kinds := [], alts := [], laidByText := true, laidKinds := [.widerDeep, .widerDeep], laidTests := true, laidLooks := .later }
def GridSameUptoCardSaid : Prop := Claim7.holds Tryd.pinned (.plain (OpenSpec.upto gridSameSpec)) gridSameUptoCard

/-- THE SECOND FORM's CARD OF 'scrollbacklaw14.GridNil'. -/
def gridNilUptoCard : Claim7 := { stood := { row := gridNilUptoRow, standIns := [], harness := (true, "5b8fc82b0c391caad3c1e67adf23a839c0d90f63bb783902444a3c6aaf8a4ef3"), looks := false }, kinds := [], alts := [], laidByText := true, laidKinds := [.widerDeep, .widerDeep], laidTests := true, laidLooks := .later }
def GridNilUptoCardSaid : Prop := Claim7.holds Tryd.pinned (.plain (OpenSpec.upto gridNilSpec)) gridNilUptoCard

/-- THE SECOND FORM's CARD OF 'scrollbacklaw14.GridHolds'. -/
def gridHoldsUptoCard : Claim7 := { stood := { row := gridHoldsUptoRow, standIns := [], harness := (true, "5b8fc82b0c391caad3c1e67adf23a839c0d90f63bb783902444a3c6aaf8a4ef3"), looks := false }, kinds := [], alts := [], laidByText := true, laidKinds := [.widerDeep, .widerDeep], laidTests := true, laidLooks := .later }
def GridHoldsUptoCardSaid : Prop := Claim7.holds Tryd.pinned (.plain (OpenSpec.upto gridHoldsSpec)) gridHoldsUptoCard
end Rows
end Go.Proofs.YtppijfjigcoifaaDoor
