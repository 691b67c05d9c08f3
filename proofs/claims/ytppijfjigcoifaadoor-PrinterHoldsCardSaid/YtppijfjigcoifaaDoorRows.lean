/-
  NARROWER THAN 'FOR EVERY INPUT', by the rows' own cells (each row's printed sentence says how): GridSizes: laid · GridOf: laid · PrinterNil: laid · PrinterPlays: laid · PrinterCursors: laid · PrinterRuns: laid · PrinterHolds: laid · GridPlays: laid · GridSame: laid · GridNil: laid · GridHolds: laid.
  DERIVED. THE GIVEN ROWS OF THIS SEAT. 11 by the template 'for every input the law returns true; each argument reads behind the call as it read before'; 0 by the template 'total and deterministic' (their statements: YtppijfjigcoifaaDoorTotals.lean).
  GIVEN WITH THE SEED: the statements are not yours to turn. If you find one false, say at which input.
  Laid BY PROGRAM, IN A SANDBOX (cutbox-rows.mjs): the forced cells as the released guide's own fill.sh prints them over the translation b209da57bba3c645… (all of the seat's roots in one cut). By AI agents, Wed Nov 11 2026. No macro, syntax, notation, axiom, sorry.
-/
import Derived.Test.YtppijfjigcoifaaDoorChecked
import GoSem.Claim
import GoSem.ClaimJoined
import GoSem.ClaimMapViews
import Derived.JoinedTies
import Derived.KernelRfl
namespace Go.Proofs.YtppijfjigcoifaaDoor
/- THE CELL 'sum', in the pinned program and in every row, IS THE sha256 OF THE DUMP (.gsa) THAT YtppijfjigcoifaaDoorProg.lean LOADS. Nothing in Lean hashes anything: it is a label: what it is worth is what the hold of that sum in a sandbox is worth. -/
noncomputable def Tryd.pinned : Pinned := { name := "ytppijfjigcoifaadoor", sum := "b209da57bba3c64551e39a8fc76ea0b849a01f07fad8d0f2d0b2577a1308c6d4", checked := Tryd.checked }
namespace Rows
def none {H : Type} : Left H := { results := [], args := [] }

/- WHAT THE LISTED PACKAGE-LEVEL VARIABLES READ AS WHEN THE CALL BEGINS. Each datum BY PROGRAM (the guide's laid-datum.mjs) off the statement by which the dump's own 'gosem.cut.vars' lays the variable. In a bare row this is a premise. The card (YtppijfjigcoifaaDoorCards.lean) ties it to the program's text. -/
def laid_scrollback_width_marks {H : Type} : DataW H := .agg [.agg [.lit (.int .i32 768), .lit (.int .i32 879)], .agg [.lit (.int .i32 1155), .lit (.int .i32 1161)], .agg [.lit (.int .i32 1425), .lit (.int .i32 1469)], .agg [.lit (.int .i32 1552), .lit (.int .i32 1562)], .agg [.lit (.int .i32 1611), .lit (.int .i32 1631)], .agg [.lit (.int .i32 1750), .lit (.int .i32 1756)], .agg [.lit (.int .i32 3633), .lit (.int .i32 3633)], .agg [.lit (.int .i32 3636), .lit (.int .i32 3642)], .agg [.lit (.int .i32 3655), .lit (.int .i32 3662)], .agg [.lit (.int .i32 6832), .lit (.int .i32 6911)], .agg [.lit (.int .i32 7616), .lit (.int .i32 7679)], .agg [.lit (.int .i32 8203), .lit (.int .i32 8207)], .agg [.lit (.int .i32 8400), .lit (.int .i32 8447)], .agg [.lit (.int .i32 12330), .lit (.int .i32 12335)], .agg [.lit (.int .i32 12441), .lit (.int .i32 12442)], .agg [.lit (.int .i32 65024), .lit (.int .i32 65039)], .agg [.lit (.int .i32 65056), .lit (.int .i32 65071)], .agg [.lit (.int .i32 917760), .lit (.int .i32 917999)]]
def laid_scrollback_width_wide {H : Type} : DataW H := .agg [.agg [.lit (.int .i32 4352), .lit (.int .i32 4447)], .agg [.lit (.int .i32 9001), .lit (.int .i32 9002)], .agg [.lit (.int .i32 11904), .lit (.int .i32 12329)], .agg [.lit (.int .i32 12336), .lit (.int .i32 12350)], .agg [.lit (.int .i32 12353), .lit (.int .i32 12440)], .agg [.lit (.int .i32 12443), .lit (.int .i32 13311)], .agg [.lit (.int .i32 13312), .lit (.int .i32 19903)], .agg [.lit (.int .i32 19968), .lit (.int .i32 42191)], .agg [.lit (.int .i32 43360), .lit (.int .i32 43391)], .agg [.lit (.int .i32 44032), .lit (.int .i32 55203)], .agg [.lit (.int .i32 63744), .lit (.int .i32 64255)], .agg [.lit (.int .i32 65072), .lit (.int .i32 65135)], .agg [.lit (.int .i32 65280), .lit (.int .i32 65376)], .agg [.lit (.int .i32 65504), .lit (.int .i32 65510)], .agg [.lit (.int .i32 127744), .lit (.int .i32 128591)], .agg [.lit (.int .i32 128640), .lit (.int .i32 128767)], .agg [.lit (.int .i32 129280), .lit (.int .i32 129535)], .agg [.lit (.int .i32 131072), .lit (.int .i32 196605)], .agg [.lit (.int .i32 196608), .lit (.int .i32 262141)]]

/-- 'scrollbacklaw14.GridSizes': WHATEVER THE INPUT: true; the input reads as it did. -/
def gridSizesSpec : ChangeSpec := { name := "gridSizes", fn := fun _ => fun
  | [d1, d2] => { results := [.lit (.bool true)], args := [d1, d2] }
  | _ => none }
def gridSizesRow : OpenClaim := { program := "ytppijfjigcoifaadoor", sum := "b209da57bba3c64551e39a8fc76ea0b849a01f07fad8d0f2d0b2577a1308c6d4", func := "scrollback/scrollbacklaw14.GridSizes", spec := "gridSizes", unfollowed := true, recurses := true, named := ["scrollback/width.marks", "scrollback/width.wide"], apart := false, laid := [("scrollback/width.marks", laid_scrollback_width_marks), ("scrollback/width.wide", laid_scrollback_width_wide)] }
def GridSizesSaid : Prop := gridSizesRow.holds Tryd.pinned (OpenSpec.ofChange gridSizesSpec)

/-- ITS FALSE NEIGHBOUR: 'it returns false'. Refute it at one input. -/
def gridSizesWrong : ChangeSpec := { name := "gridSizes", fn := fun _ => fun
  | [d1, d2] => { results := [.lit (.bool false)], args := [d1, d2] }
  | _ => none }
def GridSizesWrongFalsely : Prop := gridSizesRow.holds Tryd.pinned (OpenSpec.ofChange gridSizesWrong)

/-- 'scrollbacklaw14.GridOf': WHATEVER THE INPUT: true; the input reads as it did. -/
def gridOfSpec : ChangeSpec := { name := "gridOf", fn := fun _ => fun
  | [d1, d2] => { results := [.lit (.bool true)], args := [d1, d2] }
  | _ => none }
def gridOfRow : OpenClaim := { program := "ytppijfjigcoifaadoor", sum := "b209da57bba3c64551e39a8fc76ea0b849a01f07fad8d0f2d0b2577a1308c6d4", func := "scrollback/scrollbacklaw14.GridOf", spec := "gridOf", unfollowed := true, recurses := true, named := ["scrollback/width.marks", "scrollback/width.wide"], apart := false, laid := [("scrollback/width.marks", laid_scrollback_width_marks), ("scrollback/width.wide", laid_scrollback_width_wide)] }
def GridOfSaid : Prop := gridOfRow.holds Tryd.pinned (OpenSpec.ofChange gridOfSpec)

/-- ITS FALSE NEIGHBOUR: 'it returns false'. Refute it at one input. -/
def gridOfWrong : ChangeSpec := { name := "gridOf", fn := fun _ => fun
  | [d1, d2] => { results := [.lit (.bool false)], args := [d1, d2] }
  | _ => none }
def GridOfWrongFalsely : Prop := gridOfRow.holds Tryd.pinned (OpenSpec.ofChange gridOfWrong)

/-- 'scrollbacklaw16.PrinterNil': WHATEVER THE INPUT: true; the input reads as it did. -/
def printerNilSpec : ChangeSpec := { name := "printerNil", fn := fun _ => fun
  | [d1, d2] => { results := [.lit (.bool true)], args := [d1, d2] }
  | _ => none }
def printerNilRow : OpenClaim := { program := "ytppijfjigcoifaadoor", sum := "b209da57bba3c64551e39a8fc76ea0b849a01f07fad8d0f2d0b2577a1308c6d4", func := "scrollback/scrollbacklaw16.PrinterNil", spec := "printerNil", unfollowed := true, recurses := true, named := ["scrollback/width.marks", "scrollback/width.wide"], apart := false, laid := [("scrollback/width.marks", laid_scrollback_width_marks), ("scrollback/width.wide", laid_scrollback_width_wide)] }
def PrinterNilSaid : Prop := printerNilRow.holds Tryd.pinned (OpenSpec.ofChange printerNilSpec)

/-- ITS FALSE NEIGHBOUR: 'it returns false'. Refute it at one input. -/
def printerNilWrong : ChangeSpec := { name := "printerNil", fn := fun _ => fun
  | [d1, d2] => { results := [.lit (.bool false)], args := [d1, d2] }
  | _ => none }
def PrinterNilWrongFalsely : Prop := printerNilRow.holds Tryd.pinned (OpenSpec.ofChange printerNilWrong)

/-- 'scrollbacklaw16.PrinterPlays': WHATEVER THE INPUT: true; the input reads as it did. -/
def printerPlaysSpec : ChangeSpec := { name := "printerPlays", fn := fun _ => fun
  | [d1, d2, d3] => { results := [.lit (.bool true)], args := [d1, d2, d3] }
  | _ => none }
def printerPlaysRow : OpenClaim := { program := "ytppijfjigcoifaadoor", sum := "b209da57bba3c64551e39a8fc76ea0b849a01f07fad8d0f2d0b2577a1308c6d4", func := "scrollback/scrollbacklaw16.PrinterPlays", spec := "printerPlays", unfollowed := true, recurses := true, named := ["scrollback/width.marks", "scrollback/width.wide"], apart := false, laid := [("scrollback/width.marks", laid_scrollback_width_marks), ("scrollback/width.wide", laid_scrollback_width_wide)] }
def PrinterPlaysSaid : Prop := printerPlaysRow.holds Tryd.pinned (OpenSpec.ofChange printerPlaysSpec)

/-- ITS FALSE NEIGHBOUR: 'it returns false'. Refute it at one input. -/
def printerPlaysWrong : ChangeSpec := { name := "printerPlays", fn := fun _ => fun
  | [d1, d2, d3] => { results := [.lit (.bool false)], args := [d1, d2, d3] }
  | _ => none }
def PrinterPlaysWrongFalsely : Prop := printerPlaysRow.holds Tryd.pinned (OpenSpec.ofChange printerPlaysWrong)

/-- 'scrollbacklaw16.PrinterCursors': WHATEVER THE INPUT: true; the input reads as it did. -/
def printerCursorsSpec : ChangeSpec := { name := "printerCursors", fn := fun _ => fun
  | [d1, d2, d3, d4, d5] => { results := [.lit (.bool true)], args := [d1, d2, d3, d4, d5] }
  | _ => none }
def printerCursorsRow : OpenClaim := { program := "ytppijfjigcoifaadoor", sum := "b209da57bba3c64551e39a8fc76ea0b849a01f07fad8d0f2d0b2577a1308c6d4", func := "scrollback/scrollbacklaw16.PrinterCursors", spec := "printerCursors", unfollowed := true, recurses := true, named := ["scrollback/width.marks", "scrollback/width.wide"], apart := false, laid := [("scrollback/width.marks", laid_scrollback_width_marks), ("scrollback/width.wide", laid_scrollback_width_wide)] }
def PrinterCursorsSaid : Prop := printerCursorsRow.holds Tryd.pinned (OpenSpec.ofChange printerCursorsSpec)

/-- ITS FALSE NEIGHBOUR: 'it returns false'. Refute it at one input. -/
def printerCursorsWrong : ChangeSpec := { name := "printerCursors", fn := fun _ => fun
  | [d1, d2, d3, d4, d5] => { results := [.lit (.bool false)], args := [d1, d2, d3, d4, d5] }
  | _ => none }
def PrinterCursorsWrongFalsely : Prop := printerCursorsRow.holds Tryd.pinned (OpenSpec.ofChange printerCursorsWrong)

/-- 'scrollbacklaw16.PrinterRuns': WHATEVER THE INPUT: true; the input reads as it did. -/
def printerRunsSpec : ChangeSpec := { name := "printerRuns", fn := fun _ => fun
  | [d1, d2, d3] => { results := [.lit (.bool true)], args := [d1, d2, d3] }
  | _ => none }
def printerRunsRow : OpenClaim := { program := "ytppijfjigcoifaadoor", sum := "b209da57bba3c64551e39a8fc76ea0b849a01f07fad8d0f2d0b2577a1308c6d4", func := "scrollback/scrollbacklaw16.PrinterRuns", spec := "printerRuns", unfollowed := true, recurses := true, named := ["scrollback/width.marks", "scrollback/width.wide"], apart := false, laid := [("scrollback/width.marks", laid_scrollback_width_marks), ("scrollback/width.wide", laid_scrollback_width_wide)] }
def PrinterRunsSaid : Prop := printerRunsRow.holds Tryd.pinned (OpenSpec.ofChange printerRunsSpec)

/-- ITS FALSE NEIGHBOUR: 'it returns false'. Refute it at one input. -/
def printerRunsWrong : ChangeSpec := { name := "printerRuns", fn := fun _ => fun
  | [d1, d2, d3] => { results := [.lit (.bool false)], args := [d1, d2, d3] }
  | _ => none }
def PrinterRunsWrongFalsely : Prop := printerRunsRow.holds Tryd.pinned (OpenSpec.ofChange printerRunsWrong)

/-- 'scrollbacklaw16.PrinterHolds': WHATEVER THE INPUT: true; the input reads as it did. -/
def printerHoldsSpec : ChangeSpec := { name := "printerHolds", fn := fun _ => fun
  | [d1, d2, d3] => { results := [.lit (.bool true)], args := [d1, d2, d3] }
  | _ => none }
def printerHoldsRow : OpenClaim := { program := "ytppijfjigcoifaadoor", sum := "b209da57bba3c64551e39a8fc76ea0b849a01f07fad8d0f2d0b2577a1308c6d4", func := "scrollback/scrollbacklaw16.PrinterHolds", spec := "printerHolds", unfollowed := true, recurses := true, named := ["scrollback/width.marks", "scrollback/width.wide"], apart := false, laid := [("scrollback/width.marks", laid_scrollback_width_marks), ("scrollback/width.wide", laid_scrollback_width_wide)] }
def PrinterHoldsSaid : Prop := printerHoldsRow.holds Tryd.pinned (OpenSpec.ofChange printerHoldsSpec)

/-- ITS FALSE NEIGHBOUR: 'it returns false'. Refute it at one input. -/
def printerHoldsWrong : ChangeSpec := { name := "printerHolds", fn := fun _ => fun
  | [d1, d2, d3] => { results := [.lit (.bool false)], args := [d1, d2, d3] }
  | _ => none }
def PrinterHoldsWrongFalsely : Prop := printerHoldsRow.holds Tryd.pinned (OpenSpec.ofChange printerHoldsWrong)

/-- 'scrollbacklaw14.GridPlays': WHATEVER THE INPUT: true; the input reads as it did. -/
def gridPlaysSpec : ChangeSpec := { name := "gridPlays", fn := fun _ => fun
  | [d1, d2, d3] => { results := [.lit (.bool true)], args := [d1, d2, d3] }
  | _ => none }
def gridPlaysRow : OpenClaim := { program := "ytppijfjigcoifaadoor", sum := "b209da57bba3c64551e39a8fc76ea0b849a01f07fad8d0f2d0b2577a1308c6d4", func := "scrollback/scrollbacklaw14.GridPlays", spec := "gridPlays", unfollowed := true, recurses := true, named := ["scrollback/width.marks", "scrollback/width.wide"], apart := false, laid := [("scrollback/width.marks", laid_scrollback_width_marks), ("scrollback/width.wide", laid_scrollback_width_wide)] }
def GridPlaysSaid : Prop := gridPlaysRow.holds Tryd.pinned (OpenSpec.ofChange gridPlaysSpec)

/-- ITS FALSE NEIGHBOUR: 'it returns false'. Refute it at one input. -/
def gridPlaysWrong : ChangeSpec := { name := "gridPlays", fn := fun _ => fun
  | [d1, d2, d3] => { results := [.lit (.bool false)], args := [d1, d2, d3] }
  | _ => none }
def GridPlaysWrongFalsely : Prop := gridPlaysRow.holds Tryd.pinned (OpenSpec.ofChange gridPlaysWrong)

/-- 'scrollbacklaw14.GridSame': WHATEVER THE INPUT: true; the input reads as it did. -/
def gridSameSpec : ChangeSpec := { name := "gridSame", fn := fun _ => fun
  | [d1, d2, d3, d4] => { results := [.lit (.bool true)], args := [d1, d2, d3, d4] }
  | _ => none }
def gridSameRow : OpenClaim := { program := "ytppijfjigcoifaadoor", sum := "b209da57bba3c64551e39a8fc76ea0b849a01f07fad8d0f2d0b2577a1308c6d4", func := "scrollback/scrollbacklaw14.GridSame", spec := "gridSame", unfollowed := true, recurses := true, named := ["scrollback/width.marks", "scrollback/width.wide"], apart := false, laid := [("scrollback/width.marks", laid_scrollback_width_marks), ("scrollback/width.wide", laid_scrollback_width_wide)] }
def GridSameSaid : Prop := gridSameRow.holds Tryd.pinned (OpenSpec.ofChange gridSameSpec)

/-- ITS FALSE NEIGHBOUR: 'it returns false'. Refute it at one input. -/
def gridSameWrong : ChangeSpec := { name := "gridSame", fn := fun _ => fun
  | [d1, d2, d3, d4] => { results := [.lit (.bool false)], args := [d1, d2, d3, d4] }
  | _ => none }
def GridSameWrongFalsely : Prop := gridSameRow.holds Tryd.pinned (OpenSpec.ofChange gridSameWrong)

/-- 'scrollbacklaw14.GridNil': WHATEVER THE INPUT: true; the input reads as it did. -/
def gridNilSpec : ChangeSpec := { name := "gridNil", fn := fun _ => fun
  | [d] => { results := [.lit (.bool true)], args := [d] }
  | _ => none }
def gridNilRow : OpenClaim := { program := "ytppijfjigcoifaadoor", sum := "b209da57bba3c64551e39a8fc76ea0b849a01f07fad8d0f2d0b2577a1308c6d4", func := "scrollback/scrollbacklaw14.GridNil", spec := "gridNil", unfollowed := true, recurses := true, named := ["scrollback/width.marks", "scrollback/width.wide"], apart := false, laid := [("scrollback/width.marks", laid_scrollback_width_marks), ("scrollback/width.wide", laid_scrollback_width_wide)] }
def GridNilSaid : Prop := gridNilRow.holds Tryd.pinned (OpenSpec.ofChange gridNilSpec)

/-- ITS FALSE NEIGHBOUR: 'it returns false'. Refute it at one input. -/
def gridNilWrong : ChangeSpec := { name := "gridNil", fn := fun _ => fun
  | [d] => { results := [.lit (.bool false)], args := [d] }
  | _ => none }
def GridNilWrongFalsely : Prop := gridNilRow.holds Tryd.pinned (OpenSpec.ofChange gridNilWrong)

/-- 'scrollbacklaw14.GridHolds': WHATEVER THE INPUT: true; the input reads as it did. -/
def gridHoldsSpec : ChangeSpec := { name := "gridHolds", fn := fun _ => fun
  | [d1, d2, d3] => { results := [.lit (.bool true)], args := [d1, d2, d3] }
  | _ => none }
def gridHoldsRow : OpenClaim := { program := "ytppijfjigcoifaadoor", sum := "b209da57bba3c64551e39a8fc76ea0b849a01f07fad8d0f2d0b2577a1308c6d4", func := "scrollback/scrollbacklaw14.GridHolds", spec := "gridHolds", unfollowed := true, recurses := true, named := ["scrollback/width.marks", "scrollback/width.wide"], apart := false, laid := [("scrollback/width.marks", laid_scrollback_width_marks), ("scrollback/width.wide", laid_scrollback_width_wide)] }
def GridHoldsSaid : Prop := gridHoldsRow.holds Tryd.pinned (OpenSpec.ofChange gridHoldsSpec)

/-- ITS FALSE NEIGHBOUR: 'it returns false'. Refute it at one input. -/
def gridHoldsWrong : ChangeSpec := { name := "gridHolds", fn := fun _ => fun
  | [d1, d2, d3] => { results := [.lit (.bool false)], args := [d1, d2, d3] }
  | _ => none }
def GridHoldsWrongFalsely : Prop := gridHoldsRow.holds Tryd.pinned (OpenSpec.ofChange gridHoldsWrong)

/- THE SECOND FORM. 'bulk': how many values and letters a reading holds, each counted each time it is reached (what is shared counts as often as it is met; a slice's spare places count too). A statement '..UptoSaid' is the law's where the arguments, and the package variables that the reading takes, are together of bulk at most 1048576: NARROWER than '..Said'. Prove '..Said' where nothing that the law and all that it calls make is longer than what came in: it says more and counts as full. Else prove '..UptoSaid'. A law counts once. -/
mutual
def uptoBulk {H : Type} : DataW H → Nat
  | .lit (.string bytes) => bytes.length + 1
  | .lit _ => 1
  | .nil => 1
  | .ptr d => uptoBulk d + 1
  | .slice elems spare => uptoBulkAll elems + uptoBulkAll spare + 1
  | .agg parts => uptoBulkAll parts + 1
  | .iface _ d => uptoBulk d + 1
  | .map entries => uptoBulkEntries entries + 1
  | .held _ => 1
def uptoBulkAll {H : Type} : List (DataW H) → Nat
  | [] => 0
  | d :: r => uptoBulk d + uptoBulkAll r
def uptoBulkEntries {H : Type} : List (Lit × DataW H) → Nat
  | [] => 0
  | x :: r => uptoBulkEntry x + uptoBulkEntries r
def uptoBulkEntry {H : Type} : Lit × DataW H → Nat
  | (.string bytes, d) => bytes.length + uptoBulk d + 1
  | (_, d) => uptoBulk d + 1
 end
def uptoSmall : (H : Type) → List (DataW H) → Bool := fun _ ds => decide (uptoBulkAll ds ≤ 1048576)
def OpenSpec.upto (s : _root_.Go.ChangeSpec) : _root_.Go.OpenSpec := { _root_.Go.OpenSpec.ofChange s with cond := some uptoSmall }

/-- 'scrollbacklaw14.GridSizes', WHERE WHAT IT READS IS OF BULK AT MOST 1048576: true; the input reads as it did. -/
def gridSizesUptoRow : OpenClaim := { program := "ytppijfjigcoifaadoor", sum := "b209da57bba3c64551e39a8fc76ea0b849a01f07fad8d0f2d0b2577a1308c6d4", func := "scrollback/scrollbacklaw14.GridSizes", spec := "gridSizes", unfollowed := true, recurses := true, named := ["scrollback/width.marks", "scrollback/width.wide"], apart := false, laid := [("scrollback/width.marks", laid_scrollback_width_marks), ("scrollback/width.wide", laid_scrollback_width_wide)], narrowed := true }
def GridSizesUptoSaid : Prop := gridSizesUptoRow.holds Tryd.pinned (OpenSpec.upto gridSizesSpec)

/-- 'scrollbacklaw14.GridOf', WHERE WHAT IT READS IS OF BULK AT MOST 1048576: true; the input reads as it did. -/
def gridOfUptoRow : OpenClaim := { program := "ytppijfjigcoifaadoor", sum := "b209da57bba3c64551e39a8fc76ea0b849a01f07fad8d0f2d0b2577a1308c6d4", func := "scrollback/scrollbacklaw14.GridOf", spec := "gridOf", unfollowed := true, recurses := true, named := ["scrollback/width.marks", "scrollback/width.wide"], apart := false, laid := [("scrollback/width.marks", laid_scrollback_width_marks), ("scrollback/width.wide", laid_scrollback_width_wide)], narrowed := true }
def GridOfUptoSaid : Prop := gridOfUptoRow.holds Tryd.pinned (OpenSpec.upto gridOfSpec)

/-- 'scrollbacklaw16.PrinterNil', WHERE WHAT IT READS IS OF BULK AT MOST 1048576: true; the input reads as it did. -/
def printerNilUptoRow : OpenClaim := { program := "ytppijfjigcoifaadoor", sum := "b209da57bba3c64551e39a8fc76ea0b849a01f07fad8d0f2d0b2577a1308c6d4", func := "scrollback/scrollbacklaw16.PrinterNil", spec := "printerNil", unfollowed := true, recurses := true, named := ["scrollback/width.marks", "scrollback/width.wide"], apart := false, laid := [("scrollback/width.marks", laid_scrollback_width_marks), ("scrollback/width.wide", laid_scrollback_width_wide)], narrowed := true }
def PrinterNilUptoSaid : Prop := printerNilUptoRow.holds Tryd.pinned (OpenSpec.upto printerNilSpec)

/-- 'scrollbacklaw16.PrinterPlays', WHERE WHAT IT READS IS OF BULK AT MOST 1048576: true; the input reads as it did. -/
def printerPlaysUptoRow : OpenClaim := { program := "ytppijfjigcoifaadoor", sum := "b209da57bba3c64551e39a8fc76ea0b849a01f07fad8d0f2d0b2577a1308c6d4", func := "scrollback/scrollbacklaw16.PrinterPlays", spec := "printerPlays", unfollowed := true, recurses := true, named := ["scrollback/width.marks", "scrollback/width.wide"], apart := false, laid := [("scrollback/width.marks", laid_scrollback_width_marks), ("scrollback/width.wide", laid_scrollback_width_wide)], narrowed := true }
def PrinterPlaysUptoSaid : Prop := printerPlaysUptoRow.holds Tryd.pinned (OpenSpec.upto printerPlaysSpec)

/-- 'scrollbacklaw16.PrinterCursors', WHERE WHAT IT READS IS OF BULK AT MOST 1048576: true; the input reads as it did. -/
def printerCursorsUptoRow : OpenClaim := { program := "ytppijfjigcoifaadoor", sum := "b209da57bba3c64551e39a8fc76ea0b849a01f07fad8d0f2d0b2577a1308c6d4", func := "scrollback/scrollbacklaw16.PrinterCursors", spec := "printerCursors", unfollowed := true, recurses := true, named := ["scrollback/width.marks", "scrollback/width.wide"], apart := false, laid := [("scrollback/width.marks", laid_scrollback_width_marks), ("scrollback/width.wide", laid_scrollback_width_wide)], narrowed := true }
def PrinterCursorsUptoSaid : Prop := printerCursorsUptoRow.holds Tryd.pinned (OpenSpec.upto printerCursorsSpec)

/-- 'scrollbacklaw16.PrinterRuns', WHERE WHAT IT READS IS OF BULK AT MOST 1048576: true; the input reads as it did. -/
def printerRunsUptoRow : OpenClaim := { program := "ytppijfjigcoifaadoor", sum := "b209da57bba3c64551e39a8fc76ea0b849a01f07fad8d0f2d0b2577a1308c6d4", func := "scrollback/scrollbacklaw16.PrinterRuns", spec := "printerRuns", unfollowed := true, recurses := true, named := ["scrollback/width.marks", "scrollback/width.wide"], apart := false, laid := [("scrollback/width.marks", laid_scrollback_width_marks), ("scrollback/width.wide", laid_scrollback_width_wide)], narrowed := true }
def PrinterRunsUptoSaid : Prop := printerRunsUptoRow.holds Tryd.pinned (OpenSpec.upto printerRunsSpec)

/-- 'scrollbacklaw16.PrinterHolds', WHERE WHAT IT READS IS OF BULK AT MOST 1048576: true; the input reads as it did. -/
def printerHoldsUptoRow : OpenClaim := { program := "ytppijfjigcoifaadoor", sum := "b209da57bba3c64551e39a8fc76ea0b849a01f07fad8d0f2d0b2577a1308c6d4", func := "scrollback/scrollbacklaw16.PrinterHolds", spec := "printerHolds", unfollowed := true, recurses := true, named := ["scrollback/width.marks", "scrollback/width.wide"], apart := false, laid := [("scrollback/width.marks", laid_scrollback_width_marks), ("scrollback/width.wide", laid_scrollback_width_wide)], narrowed := true }
def PrinterHoldsUptoSaid : Prop := printerHoldsUptoRow.holds Tryd.pinned (OpenSpec.upto printerHoldsSpec)

/-- 'scrollbacklaw14.GridPlays', WHERE WHAT IT READS IS OF BULK AT MOST 1048576: true; the input reads as it did. -/
def gridPlaysUptoRow : OpenClaim := { program := "ytppijfjigcoifaadoor", sum := "b209da57bba3c64551e39a8fc76ea0b849a01f07fad8d0f2d0b2577a1308c6d4", func := "scrollback/scrollbacklaw14.GridPlays", spec := "gridPlays", unfollowed := true, recurses := true, named := ["scrollback/width.marks", "scrollback/width.wide"], apart := false, laid := [("scrollback/width.marks", laid_scrollback_width_marks), ("scrollback/width.wide", laid_scrollback_width_wide)], narrowed := true }
def GridPlaysUptoSaid : Prop := gridPlaysUptoRow.holds Tryd.pinned (OpenSpec.upto gridPlaysSpec)

/-- 'scrollbacklaw14.GridSame', WHERE WHAT IT READS IS OF BULK AT MOST 1048576: true; the input reads as it did. -/
def gridSameUptoRow : OpenClaim := { program := "ytppijfjigcoifaadoor", sum := "b209da57bba3c64551e39a8fc76ea0b849a01f07fad8d0f2d0b2577a1308c6d4", func := "scrollback/scrollbacklaw14.GridSame", spec := "gridSame", unfollowed := true, recurses := true, named := ["scrollback/width.marks", "scrollback/width.wide"], apart := false, laid := [("scrollback/width.marks", laid_scrollback_width_marks), ("scrollback/width.wide", laid_scrollback_width_wide)], narrowed := true }
def GridSameUptoSaid : Prop := gridSameUptoRow.holds Tryd.pinned (OpenSpec.upto gridSameSpec)

/-- 'scrollbacklaw14.GridNil', WHERE WHAT IT READS IS OF BULK AT MOST 1048576: true; the input reads as it did. -/
def gridNilUptoRow : OpenClaim := { program := "ytppijfjigcoifaadoor", sum := "b209da57bba3c64551e39a8fc76ea0b849a01f07fad8d0f2d0b2577a1308c6d4", func := "scrollback/scrollbacklaw14.GridNil", spec := "gridNil", unfollowed := true, recurses := true, named := ["scrollback/width.marks", "scrollback/width.wide"], apart := false, laid := [("scrollback/width.marks", laid_scrollback_width_marks), ("scrollback/width.wide", laid_scrollback_width_wide)], narrowed := true }
def GridNilUptoSaid : Prop := gridNilUptoRow.holds Tryd.pinned (OpenSpec.upto gridNilSpec)

/-- 'scrollbacklaw14.GridHolds', WHERE WHAT IT READS IS OF BULK AT MOST 1048576: true; the input reads as it did. -/
def gridHoldsUptoRow : OpenClaim := { program := "ytppijfjigcoifaadoor", sum := "b209da57bba3c64551e39a8fc76ea0b849a01f07fad8d0f2d0b2577a1308c6d4", func := "scrollback/scrollbacklaw14.GridHolds", spec := "gridHolds", unfollowed := true, recurses := true, named := ["scrollback/width.marks", "scrollback/width.wide"], apart := false, laid := [("scrollback/width.marks", laid_scrollback_width_marks), ("scrollback/width.wide", laid_scrollback_width_wide)], narrowed := true }
def GridHoldsUptoSaid : Prop := gridHoldsUptoRow.holds Tryd.pinned (OpenSpec.upto gridHoldsSpec)

end Rows
end Go.Proofs.YtppijfjigcoifaaDoor
