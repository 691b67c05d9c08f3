/-
  DERIVED. GIVEN WITH THE SEED: THE CARDS: each row of YtjligfbaljnhnaaDoorRows.lean that lists a variable, with what it lists TIED to the program's text (the seventh form; the later family's looks); each row that meets fmt, with fmt's text TOLD by the authors' own Lean function (tested against real Go, not proved from fmt's source: count such statements apart). THE CARD IS WHAT COUNTS. Prove the row's statement (the work); the ties are given (YtjligfbaljnhnaaDoorTie.lean); close each card by the builder's one call (the guide's Derived/Test/ToyasCard.lean, 'card_holds'). Laid BY PROGRAM, IN A SANDBOX (cutbox-door.mjs). By AI agents, Wed Nov 11 2026. No macro, syntax, notation, axiom, sorry.
-/
import Derived.Test.YtjligfbaljnhnaaDoorRows
import GoSem.ClaimSeven
namespace Go.Proofs.YtjligfbaljnhnaaDoor
namespace Rows

/-- THE TIED CARD OF 'scrollbacklaw17.EraseNil'. -/
def eraseNilCard : Claim7 := { stood := { row := eraseNilRow, standIns := [], harness := (true, "403e4dcfda91919e2684a871d6d21c8bd4bc4543e2b768e54c43e046a96e1575"), looks := false }, kinds := [], alts := [], laidByText := true, laidKinds := [.widerDeep, .widerDeep], laidTests := true, laidLooks := .later }
def EraseNilCardSaid : Prop := Claim7.holds Tryd.pinned (.plain (OpenSpec.ofChange eraseNilSpec)) eraseNilCard

/-- THE TIED CARD OF 'scrollbacklaw14.GridSizes'. -/
def gridSizesCard : Claim7 := { stood := { row := gridSizesRow, standIns := [], harness := (true, "403e4dcfda91919e2684a871d6d21c8bd4bc4543e2b768e54c43e046a96e1575"), looks := false }, kinds := [], alts := [], laidByText := true, laidKinds := [.widerDeep, .widerDeep], laidTests := true, laidLooks := .later }
def GridSizesCardSaid : Prop := Claim7.holds Tryd.pinned (.plain (OpenSpec.ofChange gridSizesSpec)) gridSizesCard

/-- THE TIED CARD OF 'scrollbacklaw17.EraseLines'. -/
def eraseLinesCard : Claim7 := { stood := { row := eraseLinesRow, standIns := [], harness := (true, "403e4dcfda91919e2684a871d6d21c8bd4bc4543e2b768e54c43e046a96e1575"), looks := false }, kinds := [], alts := [], laidByText := true, laidKinds := [.widerDeep, .widerDeep], laidTests := true, laidLooks := .later }
def EraseLinesCardSaid : Prop := Claim7.holds Tryd.pinned (.plain (OpenSpec.ofChange eraseLinesSpec)) eraseLinesCard

/-- THE TIED CARD OF 'scrollbacklaw17.EraseScreens'. -/
def eraseScreensCard : Claim7 := { stood := { row := eraseScreensRow, standIns := [], harness := (true, "403e4dcfda91919e2684a871d6d21c8bd4bc4543e2b768e54c43e046a96e1575"), looks := false }, kinds := [], alts := [], laidByText := true, laidKinds := [.widerDeep, .widerDeep], laidTests := true, laidLooks := .later }
def EraseScreensCardSaid : Prop := Claim7.holds Tryd.pinned (.plain (OpenSpec.ofChange eraseScreensSpec)) eraseScreensCard

/-- THE TIED CARD OF 'scrollbacklaw17.ErasePlays'. -/
def erasePlaysCard : Claim7 := { stood := { row := erasePlaysRow, standIns := [], harness := (true, "403e4dcfda91919e2684a871d6d21c8bd4bc4543e2b768e54c43e046a96e1575"), looks := false }, kinds := [], alts := [], laidByText := true, laidKinds := [.widerDeep, .widerDeep], laidTests := true, laidLooks := .later }
def ErasePlaysCardSaid : Prop := Claim7.holds Tryd.pinned (.plain (OpenSpec.ofChange erasePlaysSpec)) erasePlaysCard

/-- THE TIED CARD OF 'scrollbacklaw17.EraseHolds'. -/
def eraseHoldsCard : Claim7 := { stood := { row := eraseHoldsRow, standIns := [], harness := (true, "403e4dcfda91919e2684a871d6d21c8bd4bc4543e2b768e54c43e046a96e1575"), looks := false }, kinds := [], alts := [], laidByText := true, laidKinds := [.widerDeep, .widerDeep], laidTests := true, laidLooks := .later }
def EraseHoldsCardSaid : Prop := Claim7.holds Tryd.pinned (.plain (OpenSpec.ofChange eraseHoldsSpec)) eraseHoldsCard

/-- THE TIED CARD OF 'scrollbacklaw14.GridOf'. -/
def gridOfCard : Claim7 := { stood := { row := gridOfRow, standIns := [], harness := (true, "403e4dcfda91919e2684a871d6d21c8bd4bc4543e2b768e54c43e046a96e1575"), looks := false }, kinds := [], alts := [], laidByText := true, laidKinds := [.widerDeep, .widerDeep], laidTests := true, laidLooks := .later }
def GridOfCardSaid : Prop := Claim7.holds Tryd.pinned (.plain (OpenSpec.ofChange gridOfSpec)) gridOfCard

/-- THE TIED CARD OF 'scrollbacklaw14.GridPlays'. -/
def gridPlaysCard : Claim7 := { stood := { row := gridPlaysRow, standIns := [], harness := (true, "403e4dcfda91919e2684a871d6d21c8bd4bc4543e2b768e54c43e046a96e1575"), looks := false }, kinds := [], alts := [], laidByText := true, laidKinds := [.widerDeep, .widerDeep], laidTests := true, laidLooks := .later }
def GridPlaysCardSaid : Prop := Claim7.holds Tryd.pinned (.plain (OpenSpec.ofChange gridPlaysSpec)) gridPlaysCard

/-- THE TIED CARD OF 'scrollbacklaw14.GridSame'. -/
def gridSameCard : Claim7 := { stood := { row := gridSameRow, standIns := [], harness := (true, "403e4dcfda91919e2684a871d6d21c8bd4bc4543e2b768e54c43e046a96e1575"), looks := false }, kinds := [], alts := [], laidByText := true, laidKinds := [.widerDeep, .widerDeep], laidTests := true, laidLooks := .later }
def GridSameCardSaid : Prop := Claim7.holds Tryd.pinned (.plain (OpenSpec.ofChange gridSameSpec)) gridSameCard

/-- THE TIED CARD OF 'scrollbacklaw14.GridNil'. -/
def gridNilCard : Claim7 := { stood := { row := gridNilRow, standIns := [], harness := (true, "403e4dcfda91919e2684a871d6d21c8bd4bc4543e2b768e54c43e046a96e1575"), looks := false }, kinds := [], alts := [], laidByText := true, laidKinds := [.widerDeep, .widerDeep], laidTests := true, laidLooks := .later }
def GridNilCardSaid : Prop := Claim7.holds Tryd.pinned (.plain (OpenSpec.ofChange gridNilSpec)) gridNilCard

/-- THE TIED CARD OF 'scrollbacklaw14.GridHolds'. -/
def gridHoldsCard : Claim7 := { stood := { row := gridHoldsRow, standIns := [], harness := (true, "403e4dcfda91919e2684a871d6d21c8bd4bc4543e2b768e54c43e046a96e1575"), looks := false }, kinds := [], alts := [], laidByText := true, laidKinds := [.widerDeep, .widerDeep], laidTests := true, laidLooks := .later }
def GridHoldsCardSaid : Prop := Claim7.holds Tryd.pinned (.plain (OpenSpec.ofChange gridHoldsSpec)) gridHoldsCard

/-- THE SECOND FORM's CARD OF 'scrollbacklaw17.EraseNil'. -/
def eraseNilUptoCard : Claim7 := { stood := { row := eraseNilUptoRow, standIns := [], harness := (true, "403e4dcfda91919e2684a871d6d21c8bd4bc4543e2b768e54c43e046a96e1575"), looks := false }, kinds := [], alts := [], laidByText := true, laidKinds := [.widerDeep, .widerDeep], laidTests := true, laidLooks := .later }
def EraseNilUptoCardSaid : Prop := Claim7.holds Tryd.pinned (.plain (OpenSpec.upto eraseNilSpec)) eraseNilUptoCard

/-- THE SECOND FORM's CARD OF 'scrollbacklaw14.GridSizes'. -/
def gridSizesUptoCard : Claim7 := { stood := { row := gridSizesUptoRow, standIns := [], harness := (true, "403e4dcfda91919e2684a871d6d21c8bd4bc4543e2b768e54c43e046a96e1575"), looks := false }, kinds := [], alts := [], laidByText := true, laidKinds := [.widerDeep, .widerDeep], laidTests := true, laidLooks := .later }
def GridSizesUptoCardSaid : Prop := Claim7.holds Tryd.pinned (.plain (OpenSpec.upto gridSizesSpec)) gridSizesUptoCard

/-- THE SECOND FORM's CARD OF 'scrollbacklaw17.EraseLines'. -/
def eraseLinesUptoCard : Claim7 := { stood := { row := eraseLinesUptoRow, standIns := [], harness := (true, "403e4dcfda91919e2684a871d6d21c8bd4bc4543e2b768e54c43e046a96e1575"), looks := false }, kinds := [], alts := [], laidByText := true, laidKinds := [.widerDeep, .widerDeep], laidTests := true, laidLooks := .later }
def EraseLinesUptoCardSaid : Prop := Claim7.holds Tryd.pinned (.plain (OpenSpec.upto eraseLinesSpec)) eraseLinesUptoCard

/-- THE SECOND FORM's CARD OF 'scrollbacklaw17.EraseScreens'. -/
def eraseScreensUptoCard : Claim7 := { stood := { row := eraseScreensUptoRow, standIns := [], harness := (true, "403e4dcfda91919e2684a871d6d21c8bd4bc4543e2b768e54c43e046a96e1575"), looks := false }, kinds := [], alts := [], laidByText := true, laidKinds := [.widerDeep, .widerDeep], laidTests := true, laidLooks := .later }
def EraseScreensUptoCardSaid : Prop := Claim7.holds Tryd.pinned (.plain (OpenSpec.upto eraseScreensSpec)) eraseScreensUptoCard

/-- THE SECOND FORM's CARD OF 'scrollbacklaw17.ErasePlays'. -/
def erasePlaysUptoCard : Claim7 := { stood := { row := erasePlaysUptoRow, standIns := [], harness := (true, "403e4dcfda91919e2684a871d6d21c8bd4bc4543e2b768e54c43e046a96e1575"), looks := false }, kinds := [], alts := [], laidByText := true, laidKinds := [.widerDeep, .widerDeep], laidTests := true, laidLooks := .later }
def ErasePlaysUptoCardSaid : Prop := Claim7.holds Tryd.pinned (.plain (OpenSpec.upto erasePlaysSpec)) erasePlaysUptoCard

/-- THE SECOND FORM's CARD OF 'scrollbacklaw17.EraseHolds'. -/
def eraseHoldsUptoCard : Claim7 := { stood := { row := eraseHoldsUptoRow, standIns := [], harness := (true, "403e4dcfda91919e2684a871d6d21c8bd4bc4543e2b768e54c43e046a96e1575"), looks := false }, kinds := [], alts := [], laidByText := true, laidKinds := [.widerDeep, .widerDeep], laidTests := true, laidLooks := .later }
def EraseHoldsUptoCardSaid : Prop := Claim7.holds Tryd.pinned (.plain (OpenSpec.upto eraseHoldsSpec)) eraseHoldsUptoCard

/-- THE SECOND FORM's CARD OF 'scrollbacklaw14.GridOf'. -/
def gridOfUptoCard : Claim7 := { stood := { row := gridOfUptoRow, standIns := [], harness := (true, "403e4dcfda91919e2684a871d6d21c8bd4bc4543e2b768e54c43e046a96e1575"), looks := false }, kinds := [], alts := [], laidByText := true, laidKinds := [.widerDeep, .widerDeep], laidTests := true, laidLooks := .later }
def GridOfUptoCardSaid : Prop := Claim7.holds Tryd.pinned (.plain (OpenSpec.upto gridOfSpec)) gridOfUptoCard

/-- THE SECOND FORM's CARD OF 'scrollbacklaw14.GridPlays'. -/
def gridPlaysUptoCard : Claim7 := { stood := { row := gridPlaysUptoRow, standIns := [], harness := (true, "403e4dcfda91919e2684a871d6d21c8bd4bc4543e2b768e54c43e046a96e1575"), looks := false }, kinds := [], alts := [], laidByText := true, laidKinds := [.widerDeep, .widerDeep], laidTests := true, laidLooks := .later }
def GridPlaysUptoCardSaid : Prop := Claim7.holds Tryd.pinned (.plain (OpenSpec.upto gridPlaysSpec)) gridPlaysUptoCard

/-- THE SECOND FORM's CARD OF 'scrollbacklaw14.GridSame'. -/
def gridSameUptoCard : Claim7 := { stood := { row := gridSameUptoRow, standIns := [], harness := (true, "403e4dcfda91919e2684a871d6d21c8bd4bc4543e2b768e54c43e046a96e1575"), looks := false }, kinds := [], alts := [], laidByText := true, laidKinds := [.widerDeep, .widerDeep], laidTests := true, laidLooks := .later }
def GridSameUptoCardSaid : Prop := Claim7.holds Tryd.pinned (.plain (OpenSpec.upto gridSameSpec)) gridSameUptoCard

/-- THE SECOND FORM's CARD OF 'scrollbacklaw14.GridNil'. -/
def gridNilUptoCard : Claim7 := { stood := { row := gridNilUptoRow, standIns := [], harness := (true, "403e4dcfda91919e2684a871d6d21c8bd4bc4543e2b768e54c43e046a96e1575"), looks := false }, kinds := [], alts := [], laidByText := true, laidKinds := [.widerDeep, .widerDeep], laidTests := true, laidLooks := .later }
def GridNilUptoCardSaid : Prop := Claim7.holds Tryd.pinned (.plain (OpenSpec.upto gridNilSpec)) gridNilUptoCard

/-- THE SECOND FORM's CARD OF 'scrollbacklaw14.GridHolds'. -/
def gridHoldsUptoCard : Claim7 := { stood := { row := gridHoldsUptoRow, standIns := [], harness := (true, "403e4dcfda91919e2684a871d6d21c8bd4bc4543e2b768e54c43e046a96e1575"), looks := false }, kinds := [], alts := [], laidByText := true, laidKinds := [.widerDeep, .widerDeep], laidTests := true, laidLooks := .later }
def GridHoldsUptoCardSaid : Prop := Claim7.holds Tryd.pinned (.plain (OpenSpec.upto gridHoldsSpec)) gridHoldsUptoCard
end Rows
end Go.Proofs.YtjligfbaljnhnaaDoor
