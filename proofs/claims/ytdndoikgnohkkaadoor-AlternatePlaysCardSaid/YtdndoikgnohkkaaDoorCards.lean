/-
  DERIVED. GIVEN WITH THE SEED: THE CARDS: each row of YtdndoikgnohkkaaDoorRows.lean that lists a variable, with what it lists TIED to the program's text (the seventh form; the later family's looks); each row that meets fmt, with fmt's text TOLD by the authors' own Lean function (tested against real Go, not proved from fmt's source: count such statements apart). THE CARD IS WHAT COUNTS. Prove the row's statement (the work); the ties are given (YtdndoikgnohkkaaDoorTie.lean); close each card by the builder's one call (the guide's Derived/Test/ToyasCard.lean, 'card_holds'). Laid BY PROGRAM, IN A SANDBOX (cutbox-door.mjs). By AI agents, Wed Nov 11 2026. No macro, syntax, notation, axiom, sorry.
-/
import Derived.Test.YtdndoikgnohkkaaDoorRows
import GoSem.ClaimSeven
namespace Go.Proofs.YtdndoikgnohkkaaDoor
namespace Rows

/-- THE TIED CARD OF 'scrollbacklaw24.AlternateNil'. -/
def alternateNilCard : Claim7 := { stood := { row := alternateNilRow, standIns := [], harness := (true, "ea8601e2323384d77651dda04c0369d23e0416cf26576e6361c251a6e51ea47a"), looks := false }, kinds := [], alts := [], laidByText := true, laidKinds := [.widerDeep, .widerDeep], laidTests := true, laidLooks := .later }
def AlternateNilCardSaid : Prop := Claim7.holds Tryd.pinned (.plain (OpenSpec.ofChange alternateNilSpec)) alternateNilCard

/-- THE TIED CARD OF 'scrollbacklaw24.AlternateHolds'. -/
def alternateHoldsCard : Claim7 := { stood := { row := alternateHoldsRow, standIns := [], harness := (true, "ea8601e2323384d77651dda04c0369d23e0416cf26576e6361c251a6e51ea47a"), looks := false }, kinds := [], alts := [], laidByText := true, laidKinds := [.widerDeep, .widerDeep], laidTests := true, laidLooks := .later }
def AlternateHoldsCardSaid : Prop := Claim7.holds Tryd.pinned (.plain (OpenSpec.ofChange alternateHoldsSpec)) alternateHoldsCard

/-- THE TIED CARD OF 'scrollbacklaw24.AlternateSizes'. -/
def alternateSizesCard : Claim7 := { stood := { row := alternateSizesRow, standIns := [], harness := (true, "ea8601e2323384d77651dda04c0369d23e0416cf26576e6361c251a6e51ea47a"), looks := false }, kinds := [], alts := [], laidByText := true, laidKinds := [.widerDeep, .widerDeep], laidTests := true, laidLooks := .later }
def AlternateSizesCardSaid : Prop := Claim7.holds Tryd.pinned (.plain (OpenSpec.ofChange alternateSizesSpec)) alternateSizesCard

/-- THE TIED CARD OF 'scrollbacklaw24.AlternateKeeps'. -/
def alternateKeepsCard : Claim7 := { stood := { row := alternateKeepsRow, standIns := [], harness := (true, "ea8601e2323384d77651dda04c0369d23e0416cf26576e6361c251a6e51ea47a"), looks := false }, kinds := [], alts := [], laidByText := true, laidKinds := [.widerDeep, .widerDeep], laidTests := true, laidLooks := .later }
def AlternateKeepsCardSaid : Prop := Claim7.holds Tryd.pinned (.plain (OpenSpec.ofChange alternateKeepsSpec)) alternateKeepsCard

/-- THE TIED CARD OF 'scrollbacklaw24.AlternatePlays'. -/
def alternatePlaysCard : Claim7 := { stood := { row := alternatePlaysRow, standIns := [], harness := (true, "ea8601e2323384d77651dda04c0369d23e0416cf26576e6361c251a6e51ea47a"), looks := false }, kinds := [], alts := [], laidByText := true, laidKinds := [.widerDeep, .widerDeep], laidTests := true, laidLooks := .later }
def AlternatePlaysCardSaid : Prop := Claim7.holds Tryd.pinned (.plain (OpenSpec.ofChange alternatePlaysSpec)) alternatePlaysCard

/-- THE SECOND FORM's CARD OF 'scrollbacklaw24.AlternateNil'. -/
def alternateNilUptoCard : Claim7 := { stood := { row := alternateNilUptoRow, standIns := [], harness := (true, "ea8601e2323384d77651dda04c0369d23e0416cf26576e6361c251a6e51ea47a"), looks := false }, kinds := [], alts := [], laidByText := true, laidKinds := [.widerDeep, .widerDeep], laidTests := true, laidLooks := .later }
def AlternateNilUptoCardSaid : Prop := Claim7.holds Tryd.pinned (.plain (OpenSpec.upto alternateNilSpec)) alternateNilUptoCard

/-- THE SECOND FORM's CARD OF 'scrollbacklaw24.AlternateHolds'. -/
def alternateHoldsUptoCard : Claim7 := { stood := { row := alternateHoldsUptoRow, standIns := [], harness := (true, "ea8601e2323384d77651dda04c0369d23e0416cf26576e6361c251a6e51ea47a"), looks := false }, kinds := [], alts := [], laidByText := true, laidKinds := [.widerDeep, .widerDeep], laidTests := true, laidLooks := .later }
def AlternateHoldsUptoCardSaid : Prop := Claim7.holds Tryd.pinned (.plain (OpenSpec.upto alternateHoldsSpec)) alternateHoldsUptoCard

/-- THE SECOND FORM's CARD OF 'scrollbacklaw24.AlternateSizes'. -/
def alternateSizesUptoCard : Claim7 := { stood := { row := alternateSizesUptoRow, standIns := [], harness := (true, "ea8601e2323384d77651dda04c0369d23e0416cf26576e6361c251a6e51ea47a"), looks := false }, kinds := [], alts := [], laidByText := true, laidKinds := [.widerDeep, .widerDeep], laidTests := true, laidLooks := .later }
def AlternateSizesUptoCardSaid : Prop := Claim7.holds Tryd.pinned (.plain (OpenSpec.upto alternateSizesSpec)) alternateSizesUptoCard

/-- THE SECOND FORM's CARD OF 'scrollbacklaw24.AlternateKeeps'. -/
def alternateKeepsUptoCard : Claim7 := { stood := { row := alternateKeepsUptoRow, standIns := [], harness := (true, "ea8601e2323384d77651dda04c0369d23e0416cf26576e6361c251a6e51ea47a"), looks := false }, kinds := [], alts := [], laidByText := true, laidKinds := [.widerDeep, .widerDeep], laidTests := true, laidLooks := .later }
def AlternateKeepsUptoCardSaid : Prop := Claim7.holds Tryd.pinned (.plain (OpenSpec.upto alternateKeepsSpec)) alternateKeepsUptoCard

/-- THE SECOND FORM's CARD OF 'scrollbacklaw24.AlternatePlays'. -/
def alternatePlaysUptoCard : Claim7 := { stood := { row := alternatePlaysUptoRow, standIns := [], harness := (true, "ea8601e2323384d77651dda04c0369d23e0416cf26576e6361c251a6e51ea47a"), looks := false }, kinds := [], alts := [], laidByText := true, laidKinds := [.widerDeep, .widerDeep], laidTests := true, laidLooks := .later }
def AlternatePlaysUptoCardSaid : Prop := Claim7.holds Tryd.pinned (.plain (OpenSpec.upto alternatePlaysSpec)) alternatePlaysUptoCard
end Rows
end Go.Proofs.YtdndoikgnohkkaaDoor
