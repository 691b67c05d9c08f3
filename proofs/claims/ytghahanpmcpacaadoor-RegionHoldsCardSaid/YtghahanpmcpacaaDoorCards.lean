/-
  DERIVED. GIVEN WITH THE SEED: THE CARDS: each row of YtghahanpmcpacaaDoorRows.lean that lists a variable, with what it lists TIED to the program's text (the seventh form; the later family's looks); each row that meets fmt, with fmt's text TOLD by the authors' own Lean function (tested against real Go, not proved from fmt's source: count such statements apart). THE CARD IS WHAT COUNTS. Prove the row's statement (the work); the ties are given (YtghahanpmcpacaaDoorTie.lean); close each card by the builder's one call (the guide's Derived/Test/ToyasCard.lean, 'card_holds'). Laid BY PROGRAM, IN A SANDBOX (cutbox-door.mjs). By AI agents, Wed Nov 11 2026. No macro, syntax, notation, axiom, sorry.
-/
import Derived.Test.YtghahanpmcpacaaDoorRows
import GoSem.ClaimSeven
namespace Go.Proofs.YtghahanpmcpacaaDoor
namespace Rows

/-- THE TIED CARD OF 'scrollbacklaw19.RegionNil'. -/
def regionNilCard : Claim7 := { stood := { row := regionNilRow, standIns := [], harness := (true, "34939c0ed964c40429ab32073748b58fb8aa2dc684de8c7f456c3fec690b7572"), looks := false }, kinds := [], alts := [], laidByText := true, laidKinds := [.widerDeep, .widerDeep], laidTests := true, laidLooks := .later }
def RegionNilCardSaid : Prop := Claim7.holds Tryd.pinned (.plain (OpenSpec.ofChange regionNilSpec)) regionNilCard

/-- THE TIED CARD OF 'scrollbacklaw18.EditNil'. -/
def editNilCard : Claim7 := { stood := { row := editNilRow, standIns := [], harness := (true, "34939c0ed964c40429ab32073748b58fb8aa2dc684de8c7f456c3fec690b7572"), looks := false }, kinds := [], alts := [], laidByText := true, laidKinds := [.widerDeep, .widerDeep], laidTests := true, laidLooks := .later }
def EditNilCardSaid : Prop := Claim7.holds Tryd.pinned (.plain (OpenSpec.ofChange editNilSpec)) editNilCard

/-- THE TIED CARD OF 'scrollbacklaw18.EditCells'. -/
def editCellsCard : Claim7 := { stood := { row := editCellsRow, standIns := [], harness := (true, "34939c0ed964c40429ab32073748b58fb8aa2dc684de8c7f456c3fec690b7572"), looks := false }, kinds := [], alts := [], laidByText := true, laidKinds := [.widerDeep, .widerDeep], laidTests := true, laidLooks := .later }
def EditCellsCardSaid : Prop := Claim7.holds Tryd.pinned (.plain (OpenSpec.ofChange editCellsSpec)) editCellsCard

/-- THE TIED CARD OF 'scrollbacklaw18.EditLines'. -/
def editLinesCard : Claim7 := { stood := { row := editLinesRow, standIns := [], harness := (true, "34939c0ed964c40429ab32073748b58fb8aa2dc684de8c7f456c3fec690b7572"), looks := false }, kinds := [], alts := [], laidByText := true, laidKinds := [.widerDeep, .widerDeep], laidTests := true, laidLooks := .later }
def EditLinesCardSaid : Prop := Claim7.holds Tryd.pinned (.plain (OpenSpec.ofChange editLinesSpec)) editLinesCard

/-- THE TIED CARD OF 'scrollbacklaw18.EditPlays'. -/
def editPlaysCard : Claim7 := { stood := { row := editPlaysRow, standIns := [], harness := (true, "34939c0ed964c40429ab32073748b58fb8aa2dc684de8c7f456c3fec690b7572"), looks := false }, kinds := [], alts := [], laidByText := true, laidKinds := [.widerDeep, .widerDeep], laidTests := true, laidLooks := .later }
def EditPlaysCardSaid : Prop := Claim7.holds Tryd.pinned (.plain (OpenSpec.ofChange editPlaysSpec)) editPlaysCard

/-- THE TIED CARD OF 'scrollbacklaw19.RegionPlays'. -/
def regionPlaysCard : Claim7 := { stood := { row := regionPlaysRow, standIns := [], harness := (true, "34939c0ed964c40429ab32073748b58fb8aa2dc684de8c7f456c3fec690b7572"), looks := false }, kinds := [], alts := [], laidByText := true, laidKinds := [.widerDeep, .widerDeep], laidTests := true, laidLooks := .later }
def RegionPlaysCardSaid : Prop := Claim7.holds Tryd.pinned (.plain (OpenSpec.ofChange regionPlaysSpec)) regionPlaysCard

/-- THE TIED CARD OF 'scrollbacklaw19.RegionFeeds'. -/
def regionFeedsCard : Claim7 := { stood := { row := regionFeedsRow, standIns := [], harness := (true, "34939c0ed964c40429ab32073748b58fb8aa2dc684de8c7f456c3fec690b7572"), looks := false }, kinds := [], alts := [], laidByText := true, laidKinds := [.widerDeep, .widerDeep], laidTests := true, laidLooks := .later }
def RegionFeedsCardSaid : Prop := Claim7.holds Tryd.pinned (.plain (OpenSpec.ofChange regionFeedsSpec)) regionFeedsCard

/-- THE TIED CARD OF 'scrollbacklaw18.EditHolds'. -/
def editHoldsCard : Claim7 := { stood := { row := editHoldsRow, standIns := [], harness := (true, "34939c0ed964c40429ab32073748b58fb8aa2dc684de8c7f456c3fec690b7572"), looks := false }, kinds := [], alts := [], laidByText := true, laidKinds := [.widerDeep, .widerDeep], laidTests := true, laidLooks := .later }
def EditHoldsCardSaid : Prop := Claim7.holds Tryd.pinned (.plain (OpenSpec.ofChange editHoldsSpec)) editHoldsCard

/-- THE TIED CARD OF 'scrollbacklaw19.RegionHolds'. -/
def regionHoldsCard : Claim7 := { stood := { row := regionHoldsRow, standIns := [], harness := (true, "34939c0ed964c40429ab32073748b58fb8aa2dc684de8c7f456c3fec690b7572"), looks := false }, kinds := [], alts := [], laidByText := true, laidKinds := [.widerDeep, .widerDeep], laidTests := true, laidLooks := .later }
def RegionHoldsCardSaid : Prop := Claim7.holds Tryd.pinned (.plain (OpenSpec.ofChange regionHoldsSpec)) regionHoldsCard

/-- THE SECOND FORM's CARD OF 'scrollbacklaw19.RegionNil'. -/
def regionNilUptoCard : Claim7 := { stood := { row := regionNilUptoRow, standIns := [], harness := (true, "34939c0ed964c40429ab32073748b58fb8aa2dc684de8c7f456c3fec690b7572"), looks := false }, kinds := [], alts := [], laidByText := true, laidKinds := [.widerDeep, .widerDeep], laidTests := true, laidLooks := .later }
def RegionNilUptoCardSaid : Prop := Claim7.holds Tryd.pinned (.plain (OpenSpec.upto regionNilSpec)) regionNilUptoCard

/-- THE SECOND FORM's CARD OF 'scrollbacklaw18.EditNil'. -/
def editNilUptoCard : Claim7 := { stood := { row := editNilUptoRow, standIns := [], harness := (true, "34939c0ed964c40429ab32073748b58fb8aa2dc684de8c7f456c3fec690b7572"), looks := false }, kinds := [], alts := [], laidByText := true, laidKinds := [.widerDeep, .widerDeep], laidTests := true, laidLooks := .later }
def EditNilUptoCardSaid : Prop := Claim7.holds Tryd.pinned (.plain (OpenSpec.upto editNilSpec)) editNilUptoCard

/-- THE SECOND FORM's CARD OF 'scrollbacklaw18.EditCells'. -/
def editCellsUptoCard : Claim7 := { stood := { row := editCellsUptoRow, standIns := [], harness := (true, "34939c0ed964c40429ab32073748b58fb8aa2dc684de8c7f456c3fec690b7572"), looks := false }, kinds := [], alts := [], laidByText := true, laidKinds := [.widerDeep, .widerDeep], laidTests := true, laidLooks := .later }
def EditCellsUptoCardSaid : Prop := Claim7.holds Tryd.pinned (.plain (OpenSpec.upto editCellsSpec)) editCellsUptoCard

/-- THE SECOND FORM's CARD OF 'scrollbacklaw18.EditLines'. -/
def editLinesUptoCard : Claim7 := { stood := { row := editLinesUptoRow, standIns := [], harness := (true, "34939c0ed964c40429ab32073748b58fb8aa2dc684de8c7f456c3fec690b7572"), looks := false }, kinds := [], alts := [], laidByText := true, laidKinds := [.widerDeep, .widerDeep], laidTests := true, laidLooks := .later }
def EditLinesUptoCardSaid : Prop := Claim7.holds Tryd.pinned (.plain (OpenSpec.upto editLinesSpec)) editLinesUptoCard

/-- THE SECOND FORM's CARD OF 'scrollbacklaw18.EditPlays'. -/
def editPlaysUptoCard : Claim7 := { stood := { row := editPlaysUptoRow, standIns := [], harness := (true, "34939c0ed964c40429ab32073748b58fb8aa2dc684de8c7f456c3fec690b7572"), looks := false }, kinds := [], alts := [], laidByText := true, laidKinds := [.widerDeep, .widerDeep], laidTests := true, laidLooks := .later }
def EditPlaysUptoCardSaid : Prop := Claim7.holds Tryd.pinned (.plain (OpenSpec.upto editPlaysSpec)) editPlaysUptoCard

/-- THE SECOND FORM's CARD OF 'scrollbacklaw19.RegionPlays'. -/
def regionPlaysUptoCard : Claim7 := { stood := { row := regionPlaysUptoRow, standIns := [], harness := (true, "34939c0ed964c40429ab32073748b58fb8aa2dc684de8c7f456c3fec690b7572"), looks := false }, kinds := [], alts := [], laidByText := true, laidKinds := [.widerDeep, .widerDeep], laidTests := true, laidLooks := .later }
def RegionPlaysUptoCardSaid : Prop := Claim7.holds Tryd.pinned (.plain (OpenSpec.upto regionPlaysSpec)) regionPlaysUptoCard

/-- THE SECOND FORM's CARD OF 'scrollbacklaw19.RegionFeeds'. -/
def regionFeedsUptoCard : Claim7 := { stood := { row := regionFeedsUptoRow, standIns := [], harness := (true, "34939c0ed964c40429ab32073748b58fb8aa2dc684de8c7f456c3fec690b7572"), looks := false }, kinds := [], alts := [], laidByText := true, laidKinds := [.widerDeep, .widerDeep], laidTests := true, laidLooks := .later }
def RegionFeedsUptoCardSaid : Prop := Claim7.holds Tryd.pinned (.plain (OpenSpec.upto regionFeedsSpec)) regionFeedsUptoCard

/-- THE SECOND FORM's CARD OF 'scrollbacklaw18.EditHolds'. -/
def editHoldsUptoCard : Claim7 := { stood := { row := editHoldsUptoRow, standIns := [], harness := (true, "34939c0ed964c40429ab32073748b58fb8aa2dc684de8c7f456c3fec690b7572"), looks := false }, kinds := [], alts := [], laidByText := true, laidKinds := [.widerDeep, .widerDeep], laidTests := true, laidLooks := .later }
def EditHoldsUptoCardSaid : Prop := Claim7.holds Tryd.pinned (.plain (OpenSpec.upto editHoldsSpec)) editHoldsUptoCard

/-- THE SECOND FORM's CARD OF 'scrollbacklaw19.RegionHolds'. -/
def regionHoldsUptoCard : Claim7 := { stood := { row := regionHoldsUptoRow, standIns := [], harness := (true, "34939c0ed964c40429ab32073748b58fb8aa2dc684de8c7f456c3fec690b7572"), looks := false }, kinds := [], alts := [], laidByText := true, laidKinds := [.widerDeep, .widerDeep], laidTests := true, laidLooks := .later }
def RegionHoldsUptoCardSaid : Prop := Claim7.holds Tryd.pinned (.plain (OpenSpec.upto regionHoldsSpec)) regionHoldsUptoCard
end Rows
end Go.Proofs.YtghahanpmcpacaaDoor
