/-
  NARROWER THAN 'FOR EVERY INPUT', by the rows' own cells (each row's printed sentence says how): RegionNil: laid · EditNil: laid · EditCells: laid · EditLines: laid · EditPlays: laid · RegionPlays: laid · RegionFeeds: laid · EditHolds: laid · RegionHolds: laid.
  DERIVED. THE GIVEN ROWS OF THIS SEAT. 9 by the template 'for every input the law returns true; each argument reads behind the call as it read before'; 0 by the template 'total and deterministic' (their statements: YtghahanpmcpacaaDoorTotals.lean).
  GIVEN WITH THE SEED: the statements are not yours to turn. If you find one false, say at which input.
  Laid BY PROGRAM, IN A SANDBOX (cutbox-rows.mjs): the forced cells as the released guide's own fill.sh prints them over the translation a26341e0c2403514… (all of the seat's roots in one cut). By AI agents, Wed Nov 11 2026. No macro, syntax, notation, axiom, sorry.
-/
import Derived.Test.YtghahanpmcpacaaDoorChecked
import GoSem.Claim
import GoSem.ClaimJoined
import GoSem.ClaimMapViews
import Derived.JoinedTies
import Derived.KernelRfl
namespace Go.Proofs.YtghahanpmcpacaaDoor
/- THE CELL 'sum', in the pinned program and in every row, IS THE sha256 OF THE DUMP (.gsa) THAT YtghahanpmcpacaaDoorProg.lean LOADS. Nothing in Lean hashes anything: it is a label: what it is worth is what the hold of that sum in a sandbox is worth. -/
noncomputable def Tryd.pinned : Pinned := { name := "ytghahanpmcpacaadoor", sum := "a26341e0c2403514474cca5d5c523995aac98d63d1da4d341877387710aedda5", checked := Tryd.checked }
namespace Rows
def none {H : Type} : Left H := { results := [], args := [] }

/- WHAT THE LISTED PACKAGE-LEVEL VARIABLES READ AS WHEN THE CALL BEGINS. Each datum BY PROGRAM (the guide's laid-datum.mjs) off the statement by which the dump's own 'gosem.cut.vars' lays the variable. In a bare row this is a premise. The card (YtghahanpmcpacaaDoorCards.lean) ties it to the program's text. -/
def laid_scrollback_width_marks {H : Type} : DataW H := .agg [.agg [.lit (.int .i32 768), .lit (.int .i32 879)], .agg [.lit (.int .i32 1155), .lit (.int .i32 1161)], .agg [.lit (.int .i32 1425), .lit (.int .i32 1469)], .agg [.lit (.int .i32 1552), .lit (.int .i32 1562)], .agg [.lit (.int .i32 1611), .lit (.int .i32 1631)], .agg [.lit (.int .i32 1750), .lit (.int .i32 1756)], .agg [.lit (.int .i32 3633), .lit (.int .i32 3633)], .agg [.lit (.int .i32 3636), .lit (.int .i32 3642)], .agg [.lit (.int .i32 3655), .lit (.int .i32 3662)], .agg [.lit (.int .i32 6832), .lit (.int .i32 6911)], .agg [.lit (.int .i32 7616), .lit (.int .i32 7679)], .agg [.lit (.int .i32 8203), .lit (.int .i32 8207)], .agg [.lit (.int .i32 8400), .lit (.int .i32 8447)], .agg [.lit (.int .i32 12330), .lit (.int .i32 12335)], .agg [.lit (.int .i32 12441), .lit (.int .i32 12442)], .agg [.lit (.int .i32 65024), .lit (.int .i32 65039)], .agg [.lit (.int .i32 65056), .lit (.int .i32 65071)], .agg [.lit (.int .i32 917760), .lit (.int .i32 917999)]]
def laid_scrollback_width_wide {H : Type} : DataW H := .agg [.agg [.lit (.int .i32 4352), .lit (.int .i32 4447)], .agg [.lit (.int .i32 9001), .lit (.int .i32 9002)], .agg [.lit (.int .i32 11904), .lit (.int .i32 12329)], .agg [.lit (.int .i32 12336), .lit (.int .i32 12350)], .agg [.lit (.int .i32 12353), .lit (.int .i32 12440)], .agg [.lit (.int .i32 12443), .lit (.int .i32 13311)], .agg [.lit (.int .i32 13312), .lit (.int .i32 19903)], .agg [.lit (.int .i32 19968), .lit (.int .i32 42191)], .agg [.lit (.int .i32 43360), .lit (.int .i32 43391)], .agg [.lit (.int .i32 44032), .lit (.int .i32 55203)], .agg [.lit (.int .i32 63744), .lit (.int .i32 64255)], .agg [.lit (.int .i32 65072), .lit (.int .i32 65135)], .agg [.lit (.int .i32 65280), .lit (.int .i32 65376)], .agg [.lit (.int .i32 65504), .lit (.int .i32 65510)], .agg [.lit (.int .i32 127744), .lit (.int .i32 128591)], .agg [.lit (.int .i32 128640), .lit (.int .i32 128767)], .agg [.lit (.int .i32 129280), .lit (.int .i32 129535)], .agg [.lit (.int .i32 131072), .lit (.int .i32 196605)], .agg [.lit (.int .i32 196608), .lit (.int .i32 262141)]]

/-- 'scrollbacklaw19.RegionNil': WHATEVER THE INPUT: true; the input reads as it did. -/
def regionNilSpec : ChangeSpec := { name := "regionNil", fn := fun _ => fun
  | [d] => { results := [.lit (.bool true)], args := [d] }
  | _ => none }
def regionNilRow : OpenClaim := { program := "ytghahanpmcpacaadoor", sum := "a26341e0c2403514474cca5d5c523995aac98d63d1da4d341877387710aedda5", func := "scrollback/scrollbacklaw19.RegionNil", spec := "regionNil", unfollowed := true, recurses := true, named := ["scrollback/width.marks", "scrollback/width.wide"], apart := false, laid := [("scrollback/width.marks", laid_scrollback_width_marks), ("scrollback/width.wide", laid_scrollback_width_wide)] }
def RegionNilSaid : Prop := regionNilRow.holds Tryd.pinned (OpenSpec.ofChange regionNilSpec)

/-- ITS FALSE NEIGHBOUR: 'it returns false'. Refute it at one input. -/
def regionNilWrong : ChangeSpec := { name := "regionNil", fn := fun _ => fun
  | [d] => { results := [.lit (.bool false)], args := [d] }
  | _ => none }
def RegionNilWrongFalsely : Prop := regionNilRow.holds Tryd.pinned (OpenSpec.ofChange regionNilWrong)

/-- 'scrollbacklaw18.EditNil': WHATEVER THE INPUT: true; the input reads as it did. -/
def editNilSpec : ChangeSpec := { name := "editNil", fn := fun _ => fun
  | [d] => { results := [.lit (.bool true)], args := [d] }
  | _ => none }
def editNilRow : OpenClaim := { program := "ytghahanpmcpacaadoor", sum := "a26341e0c2403514474cca5d5c523995aac98d63d1da4d341877387710aedda5", func := "scrollback/scrollbacklaw18.EditNil", spec := "editNil", unfollowed := true, recurses := true, named := ["scrollback/width.marks", "scrollback/width.wide"], apart := false, laid := [("scrollback/width.marks", laid_scrollback_width_marks), ("scrollback/width.wide", laid_scrollback_width_wide)] }
def EditNilSaid : Prop := editNilRow.holds Tryd.pinned (OpenSpec.ofChange editNilSpec)

/-- ITS FALSE NEIGHBOUR: 'it returns false'. Refute it at one input. -/
def editNilWrong : ChangeSpec := { name := "editNil", fn := fun _ => fun
  | [d] => { results := [.lit (.bool false)], args := [d] }
  | _ => none }
def EditNilWrongFalsely : Prop := editNilRow.holds Tryd.pinned (OpenSpec.ofChange editNilWrong)

/-- 'scrollbacklaw18.EditCells': WHATEVER THE INPUT: true; the input reads as it did. -/
def editCellsSpec : ChangeSpec := { name := "editCells", fn := fun _ => fun
  | [d1, d2, d3, d4, d5] => { results := [.lit (.bool true)], args := [d1, d2, d3, d4, d5] }
  | _ => none }
def editCellsRow : OpenClaim := { program := "ytghahanpmcpacaadoor", sum := "a26341e0c2403514474cca5d5c523995aac98d63d1da4d341877387710aedda5", func := "scrollback/scrollbacklaw18.EditCells", spec := "editCells", unfollowed := true, recurses := true, named := ["scrollback/width.marks", "scrollback/width.wide"], apart := false, laid := [("scrollback/width.marks", laid_scrollback_width_marks), ("scrollback/width.wide", laid_scrollback_width_wide)] }
def EditCellsSaid : Prop := editCellsRow.holds Tryd.pinned (OpenSpec.ofChange editCellsSpec)

/-- ITS FALSE NEIGHBOUR: 'it returns false'. Refute it at one input. -/
def editCellsWrong : ChangeSpec := { name := "editCells", fn := fun _ => fun
  | [d1, d2, d3, d4, d5] => { results := [.lit (.bool false)], args := [d1, d2, d3, d4, d5] }
  | _ => none }
def EditCellsWrongFalsely : Prop := editCellsRow.holds Tryd.pinned (OpenSpec.ofChange editCellsWrong)

/-- 'scrollbacklaw18.EditLines': WHATEVER THE INPUT: true; the input reads as it did. -/
def editLinesSpec : ChangeSpec := { name := "editLines", fn := fun _ => fun
  | [d1, d2, d3, d4, d5] => { results := [.lit (.bool true)], args := [d1, d2, d3, d4, d5] }
  | _ => none }
def editLinesRow : OpenClaim := { program := "ytghahanpmcpacaadoor", sum := "a26341e0c2403514474cca5d5c523995aac98d63d1da4d341877387710aedda5", func := "scrollback/scrollbacklaw18.EditLines", spec := "editLines", unfollowed := true, recurses := true, named := ["scrollback/width.marks", "scrollback/width.wide"], apart := false, laid := [("scrollback/width.marks", laid_scrollback_width_marks), ("scrollback/width.wide", laid_scrollback_width_wide)] }
def EditLinesSaid : Prop := editLinesRow.holds Tryd.pinned (OpenSpec.ofChange editLinesSpec)

/-- ITS FALSE NEIGHBOUR: 'it returns false'. Refute it at one input. -/
def editLinesWrong : ChangeSpec := { name := "editLines", fn := fun _ => fun
  | [d1, d2, d3, d4, d5] => { results := [.lit (.bool false)], args := [d1, d2, d3, d4, d5] }
  | _ => none }
def EditLinesWrongFalsely : Prop := editLinesRow.holds Tryd.pinned (OpenSpec.ofChange editLinesWrong)

/-- 'scrollbacklaw18.EditPlays': WHATEVER THE INPUT: true; the input reads as it did. -/
def editPlaysSpec : ChangeSpec := { name := "editPlays", fn := fun _ => fun
  | [d1, d2, d3, d4, d5] => { results := [.lit (.bool true)], args := [d1, d2, d3, d4, d5] }
  | _ => none }
def editPlaysRow : OpenClaim := { program := "ytghahanpmcpacaadoor", sum := "a26341e0c2403514474cca5d5c523995aac98d63d1da4d341877387710aedda5", func := "scrollback/scrollbacklaw18.EditPlays", spec := "editPlays", unfollowed := true, recurses := true, named := ["scrollback/width.marks", "scrollback/width.wide"], apart := false, laid := [("scrollback/width.marks", laid_scrollback_width_marks), ("scrollback/width.wide", laid_scrollback_width_wide)] }
def EditPlaysSaid : Prop := editPlaysRow.holds Tryd.pinned (OpenSpec.ofChange editPlaysSpec)

/-- ITS FALSE NEIGHBOUR: 'it returns false'. Refute it at one input. -/
def editPlaysWrong : ChangeSpec := { name := "editPlays", fn := fun _ => fun
  | [d1, d2, d3, d4, d5] => { results := [.lit (.bool false)], args := [d1, d2, d3, d4, d5] }
  | _ => none }
def EditPlaysWrongFalsely : Prop := editPlaysRow.holds Tryd.pinned (OpenSpec.ofChange editPlaysWrong)

/-- 'scrollbacklaw19.RegionPlays': WHATEVER THE INPUT: true; the input reads as it did. -/
def regionPlaysSpec : ChangeSpec := { name := "regionPlays", fn := fun _ => fun
  | [d1, d2, d3, d4, d5] => { results := [.lit (.bool true)], args := [d1, d2, d3, d4, d5] }
  | _ => none }
def regionPlaysRow : OpenClaim := { program := "ytghahanpmcpacaadoor", sum := "a26341e0c2403514474cca5d5c523995aac98d63d1da4d341877387710aedda5", func := "scrollback/scrollbacklaw19.RegionPlays", spec := "regionPlays", unfollowed := true, recurses := true, named := ["scrollback/width.marks", "scrollback/width.wide"], apart := false, laid := [("scrollback/width.marks", laid_scrollback_width_marks), ("scrollback/width.wide", laid_scrollback_width_wide)] }
def RegionPlaysSaid : Prop := regionPlaysRow.holds Tryd.pinned (OpenSpec.ofChange regionPlaysSpec)

/-- ITS FALSE NEIGHBOUR: 'it returns false'. Refute it at one input. -/
def regionPlaysWrong : ChangeSpec := { name := "regionPlays", fn := fun _ => fun
  | [d1, d2, d3, d4, d5] => { results := [.lit (.bool false)], args := [d1, d2, d3, d4, d5] }
  | _ => none }
def RegionPlaysWrongFalsely : Prop := regionPlaysRow.holds Tryd.pinned (OpenSpec.ofChange regionPlaysWrong)

/-- 'scrollbacklaw19.RegionFeeds': WHATEVER THE INPUT: true; the input reads as it did. -/
def regionFeedsSpec : ChangeSpec := { name := "regionFeeds", fn := fun _ => fun
  | [d1, d2, d3, d4, d5, d6, d7] => { results := [.lit (.bool true)], args := [d1, d2, d3, d4, d5, d6, d7] }
  | _ => none }
def regionFeedsRow : OpenClaim := { program := "ytghahanpmcpacaadoor", sum := "a26341e0c2403514474cca5d5c523995aac98d63d1da4d341877387710aedda5", func := "scrollback/scrollbacklaw19.RegionFeeds", spec := "regionFeeds", unfollowed := true, recurses := true, named := ["scrollback/width.marks", "scrollback/width.wide"], apart := false, laid := [("scrollback/width.marks", laid_scrollback_width_marks), ("scrollback/width.wide", laid_scrollback_width_wide)] }
def RegionFeedsSaid : Prop := regionFeedsRow.holds Tryd.pinned (OpenSpec.ofChange regionFeedsSpec)

/-- ITS FALSE NEIGHBOUR: 'it returns false'. Refute it at one input. -/
def regionFeedsWrong : ChangeSpec := { name := "regionFeeds", fn := fun _ => fun
  | [d1, d2, d3, d4, d5, d6, d7] => { results := [.lit (.bool false)], args := [d1, d2, d3, d4, d5, d6, d7] }
  | _ => none }
def RegionFeedsWrongFalsely : Prop := regionFeedsRow.holds Tryd.pinned (OpenSpec.ofChange regionFeedsWrong)

/-- 'scrollbacklaw18.EditHolds': WHATEVER THE INPUT: true; the input reads as it did. -/
def editHoldsSpec : ChangeSpec := { name := "editHolds", fn := fun _ => fun
  | [d1, d2, d3, d4, d5, d6] => { results := [.lit (.bool true)], args := [d1, d2, d3, d4, d5, d6] }
  | _ => none }
def editHoldsRow : OpenClaim := { program := "ytghahanpmcpacaadoor", sum := "a26341e0c2403514474cca5d5c523995aac98d63d1da4d341877387710aedda5", func := "scrollback/scrollbacklaw18.EditHolds", spec := "editHolds", unfollowed := true, recurses := true, named := ["scrollback/width.marks", "scrollback/width.wide"], apart := false, laid := [("scrollback/width.marks", laid_scrollback_width_marks), ("scrollback/width.wide", laid_scrollback_width_wide)] }
def EditHoldsSaid : Prop := editHoldsRow.holds Tryd.pinned (OpenSpec.ofChange editHoldsSpec)

/-- ITS FALSE NEIGHBOUR: 'it returns false'. Refute it at one input. -/
def editHoldsWrong : ChangeSpec := { name := "editHolds", fn := fun _ => fun
  | [d1, d2, d3, d4, d5, d6] => { results := [.lit (.bool false)], args := [d1, d2, d3, d4, d5, d6] }
  | _ => none }
def EditHoldsWrongFalsely : Prop := editHoldsRow.holds Tryd.pinned (OpenSpec.ofChange editHoldsWrong)

/-- 'scrollbacklaw19.RegionHolds': WHATEVER THE INPUT: true; the input reads as it did. -/
def regionHoldsSpec : ChangeSpec := { name := "regionHolds", fn := fun _ => fun
  | [d1, d2, d3, d4, d5, d6, d7] => { results := [.lit (.bool true)], args := [d1, d2, d3, d4, d5, d6, d7] }
  | _ => none }
def regionHoldsRow : OpenClaim := { program := "ytghahanpmcpacaadoor", sum := "a26341e0c2403514474cca5d5c523995aac98d63d1da4d341877387710aedda5", func := "scrollback/scrollbacklaw19.RegionHolds", spec := "regionHolds", unfollowed := true, recurses := true, named := ["scrollback/width.marks", "scrollback/width.wide"], apart := false, laid := [("scrollback/width.marks", laid_scrollback_width_marks), ("scrollback/width.wide", laid_scrollback_width_wide)] }
def RegionHoldsSaid : Prop := regionHoldsRow.holds Tryd.pinned (OpenSpec.ofChange regionHoldsSpec)

/-- ITS FALSE NEIGHBOUR: 'it returns false'. Refute it at one input. -/
def regionHoldsWrong : ChangeSpec := { name := "regionHolds", fn := fun _ => fun
  | [d1, d2, d3, d4, d5, d6, d7] => { results := [.lit (.bool false)], args := [d1, d2, d3, d4, d5, d6, d7] }
  | _ => none }
def RegionHoldsWrongFalsely : Prop := regionHoldsRow.holds Tryd.pinned (OpenSpec.ofChange regionHoldsWrong)

/- THE SECOND FORM. 'bulk': how many values and letters a reading holds, each counted each time it is reached (what is shared counts as often as it is met; a slice's spare places count too). A statement '..UptoSaid' is the law's where the arguments, and the package variables that the reading takes, are together of bulk at most 1048576: NARROWER than '..Said'. Prove '..Said' where nothing that the law and all that it calls make is longer than what came in: it says more and counts as full. Else prove '..UptoSaid'. A law counts once. -/
mutual
def uptoBulk {H : Type} : DataW H → Nat
  | .lit (.string bytes) => bytes.length + 1
  | .lit _ => 1
  | .nil => 1
  | .ptr d => uptoBulk d + 1
  | .slice elems spare => uptoBulkAll elems + uptoBulkAll spare + 1
  | .agg parts => uptoBulkAll parts + 1
  | .iface _ d => uptoBulk d + 1
  | .map entries => uptoBulkEntries entries + 1
  | .held _ => 1
def uptoBulkAll {H : Type} : List (DataW H) → Nat
  | [] => 0
  | d :: r => uptoBulk d + uptoBulkAll r
def uptoBulkEntries {H : Type} : List (Lit × DataW H) → Nat
  | [] => 0
  | x :: r => uptoBulkEntry x + uptoBulkEntries r
def uptoBulkEntry {H : Type} : Lit × DataW H → Nat
  | (.string bytes, d) => bytes.length + uptoBulk d + 1
  | (_, d) => uptoBulk d + 1
 end
def uptoSmall : (H : Type) → List (DataW H) → Bool := fun _ ds => decide (uptoBulkAll ds ≤ 1048576)
def OpenSpec.upto (s : _root_.Go.ChangeSpec) : _root_.Go.OpenSpec := { _root_.Go.OpenSpec.ofChange s with cond := some uptoSmall }

/-- 'scrollbacklaw19.RegionNil', WHERE WHAT IT READS IS OF BULK AT MOST 1048576: true; the input reads as it did. -/
def regionNilUptoRow : OpenClaim := { program := "ytghahanpmcpacaadoor", sum := "a26341e0c2403514474cca5d5c523995aac98d63d1da4d341877387710aedda5", func := "scrollback/scrollbacklaw19.RegionNil", spec := "regionNil", unfollowed := true, recurses := true, named := ["scrollback/width.marks", "scrollback/width.wide"], apart := false, laid := [("scrollback/width.marks", laid_scrollback_width_marks), ("scrollback/width.wide", laid_scrollback_width_wide)], narrowed := true }
def RegionNilUptoSaid : Prop := regionNilUptoRow.holds Tryd.pinned (OpenSpec.upto regionNilSpec)

/-- 'scrollbacklaw18.EditNil', WHERE WHAT IT READS IS OF BULK AT MOST 1048576: true; the input reads as it did. -/
def editNilUptoRow : OpenClaim := { program := "ytghahanpmcpacaadoor", sum := "a26341e0c2403514474cca5d5c523995aac98d63d1da4d341877387710aedda5", func := "scrollback/scrollbacklaw18.EditNil", spec := "editNil", unfollowed := true, recurses := true, named := ["scrollback/width.marks", "scrollback/width.wide"], apart := false, laid := [("scrollback/width.marks", laid_scrollback_width_marks), ("scrollback/width.wide", laid_scrollback_width_wide)], narrowed := true }
def EditNilUptoSaid : Prop := editNilUptoRow.holds Tryd.pinned (OpenSpec.upto editNilSpec)

/-- 'scrollbacklaw18.EditCells', WHERE WHAT IT READS IS OF BULK AT MOST 1048576: true; the input reads as it did. -/
def editCellsUptoRow : OpenClaim := { program := "ytghahanpmcpacaadoor", sum := "a26341e0c2403514474cca5d5c523995aac98d63d1da4d341877387710aedda5", func := "scrollback/scrollbacklaw18.EditCells", spec := "editCells", unfollowed := true, recurses := true, named := ["scrollback/width.marks", "scrollback/width.wide"], apart := false, laid := [("scrollback/width.marks", laid_scrollback_width_marks), ("scrollback/width.wide", laid_scrollback_width_wide)], narrowed := true }
def EditCellsUptoSaid : Prop := editCellsUptoRow.holds Tryd.pinned (OpenSpec.upto editCellsSpec)

/-- 'scrollbacklaw18.EditLines', WHERE WHAT IT READS IS OF BULK AT MOST 1048576: true; the input reads as it did. -/
def editLinesUptoRow : OpenClaim := { program := "ytghahanpmcpacaadoor", sum := "a26341e0c2403514474cca5d5c523995aac98d63d1da4d341877387710aedda5", func := "scrollback/scrollbacklaw18.EditLines", spec := "editLines", unfollowed := true, recurses := true, named := ["scrollback/width.marks", "scrollback/width.wide"], apart := false, laid := [("scrollback/width.marks", laid_scrollback_width_marks), ("scrollback/width.wide", laid_scrollback_width_wide)], narrowed := true }
def EditLinesUptoSaid : Prop := editLinesUptoRow.holds Tryd.pinned (OpenSpec.upto editLinesSpec)

/-- 'scrollbacklaw18.EditPlays', WHERE WHAT IT READS IS OF BULK AT MOST 1048576: true; the input reads as it did. -/
def editPlaysUptoRow : OpenClaim := { program := "ytghahanpmcpacaadoor", sum := "a26341e0c2403514474cca5d5c523995aac98d63d1da4d341877387710aedda5", func := "scrollback/scrollbacklaw18.EditPlays", spec := "editPlays", unfollowed := true, recurses := true, named := ["scrollback/width.marks", "scrollback/width.wide"], apart := false, laid := [("scrollback/width.marks", laid_scrollback_width_marks), ("scrollback/width.wide", laid_scrollback_width_wide)], narrowed := true }
def EditPlaysUptoSaid : Prop := editPlaysUptoRow.holds Tryd.pinned (OpenSpec.upto editPlaysSpec)

/-- 'scrollbacklaw19.RegionPlays', WHERE WHAT IT READS IS OF BULK AT MOST 1048576: true; the input reads as it did. -/
def regionPlaysUptoRow : OpenClaim := { program := "ytghahanpmcpacaadoor", sum := "a26341e0c2403514474cca5d5c523995aac98d63d1da4d341877387710aedda5", func := "scrollback/scrollbacklaw19.RegionPlays", spec := "regionPlays", unfollowed := true, recurses := true, named := ["scrollback/width.marks", "scrollback/width.wide"], apart := false, laid := [("scrollback/width.marks", laid_scrollback_width_marks), ("scrollback/width.wide", laid_scrollback_width_wide)], narrowed := true }
def RegionPlaysUptoSaid : Prop := regionPlaysUptoRow.holds Tryd.pinned (OpenSpec.upto regionPlaysSpec)

/-- 'scrollbacklaw19.RegionFeeds', WHERE WHAT IT READS IS OF BULK AT MOST 1048576: true; the input reads as it did. -/
def regionFeedsUptoRow : OpenClaim := { program := "ytghahanpmcpacaadoor", sum := "a26341e0c2403514474cca5d5c523995aac98d63d1da4d341877387710aedda5", func := "scrollback/scrollbacklaw19.RegionFeeds", spec := "regionFeeds", unfollowed := true, recurses := true, named := ["scrollback/width.marks", "scrollback/width.wide"], apart := false, laid := [("scrollback/width.marks", laid_scrollback_width_marks), ("scrollback/width.wide", laid_scrollback_width_wide)], narrowed := true }
def RegionFeedsUptoSaid : Prop := regionFeedsUptoRow.holds Tryd.pinned (OpenSpec.upto regionFeedsSpec)

/-- 'scrollbacklaw18.EditHolds', WHERE WHAT IT READS IS OF BULK AT MOST 1048576: true; the input reads as it did. -/
def editHoldsUptoRow : OpenClaim := { program := "ytghahanpmcpacaadoor", sum := "a26341e0c2403514474cca5d5c523995aac98d63d1da4d341877387710aedda5", func := "scrollback/scrollbacklaw18.EditHolds", spec := "editHolds", unfollowed := true, recurses := true, named := ["scrollback/width.marks", "scrollback/width.wide"], apart := false, laid := [("scrollback/width.marks", laid_scrollback_width_marks), ("scrollback/width.wide", laid_scrollback_width_wide)], narrowed := true }
def EditHoldsUptoSaid : Prop := editHoldsUptoRow.holds Tryd.pinned (OpenSpec.upto editHoldsSpec)

/-- 'scrollbacklaw19.RegionHolds', WHERE WHAT IT READS IS OF BULK AT MOST 1048576: true; the input reads as it did. -/
def regionHoldsUptoRow : OpenClaim := { program := "ytghahanpmcpacaadoor", sum := "a26341e0c2403514474cca5d5c523995aac98d63d1da4d341877387710aedda5", func := "scrollback/scrollbacklaw19.RegionHolds", spec := "regionHolds", unfollowed := true, recurses := true, named := ["scrollback/width.marks", "scrollback/width.wide"], apart := false, laid := [("scrollback/width.marks", laid_scrollback_width_marks), ("scrollback/width.wide", laid_scrollback_width_wide)], narrowed := true }
def RegionHoldsUptoSaid : Prop := regionHoldsUptoRow.holds Tryd.pinned (OpenSpec.upto regionHoldsSpec)

end Rows
end Go.Proofs.YtghahanpmcpacaaDoor
