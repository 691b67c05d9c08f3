/-
  NARROWER THAN 'FOR EVERY INPUT', by the rows' own cells (each row's printed sentence says how): AlternateNil: laid · AlternateHolds: laid · AlternateSizes: laid · AlternateKeeps: laid · AlternatePlays: laid.
  DERIVED. THE GIVEN ROWS OF THIS SEAT. 5 by the template 'for every input the law returns true; each argument reads behind the call as it read before'; 0 by the template 'total and deterministic' (their statements: YtdndoikgnohkkaaDoorTotals.lean).
  GIVEN WITH THE SEED: the statements are not yours to turn. If you find one false, say at which input.
  Laid BY PROGRAM, IN A SANDBOX (cutbox-rows.mjs): the forced cells as the released guide's own fill.sh prints them over the translation bcaa932b9e59c914… (all of the seat's roots in one cut). By AI agents, Wed Nov 11 2026. No macro, syntax, notation, axiom, sorry.
-/
import Derived.Test.YtdndoikgnohkkaaDoorChecked
import GoSem.Claim
import GoSem.ClaimJoined
import GoSem.ClaimMapViews
import Derived.JoinedTies
import Derived.KernelRfl
namespace Go.Proofs.YtdndoikgnohkkaaDoor
/- THE CELL 'sum', in the pinned program and in every row, IS THE sha256 OF THE DUMP (.gsa) THAT YtdndoikgnohkkaaDoorProg.lean LOADS. Nothing in Lean hashes anything: it is a label: what it is worth is what the hold of that sum in a sandbox is worth. -/
noncomputable def Tryd.pinned : Pinned := { name := "ytdndoikgnohkkaadoor", sum := "bcaa932b9e59c914daaa3382df6cb447fcd4973724dcb215406d3b6cebdf50d3", checked := Tryd.checked }
namespace Rows
def none {H : Type} : Left H := { results := [], args := [] }

/- WHAT THE LISTED PACKAGE-LEVEL VARIABLES READ AS WHEN THE CALL BEGINS. Each datum BY PROGRAM (the guide's laid-datum.mjs) off the statement by which the dump's own 'gosem.cut.vars' lays the variable. In a bare row this is a premise. The card (YtdndoikgnohkkaaDoorCards.lean) ties it to the program's text. -/
def laid_scrollback_width_marks {H : Type} : DataW H := .agg [.agg [.lit (.int .i32 768), .lit (.int .i32 879)], .agg [.lit (.int .i32 1155), .lit (.int .i32 1161)], .agg [.lit (.int .i32 1425), .lit (.int .i32 1469)], .agg [.lit (.int .i32 1552), .lit (.int .i32 1562)], .agg [.lit (.int .i32 1611), .lit (.int .i32 1631)], .agg [.lit (.int .i32 1750), .lit (.int .i32 1756)], .agg [.lit (.int .i32 3633), .lit (.int .i32 3633)], .agg [.lit (.int .i32 3636), .lit (.int .i32 3642)], .agg [.lit (.int .i32 3655), .lit (.int .i32 3662)], .agg [.lit (.int .i32 6832), .lit (.int .i32 6911)], .agg [.lit (.int .i32 7616), .lit (.int .i32 7679)], .agg [.lit (.int .i32 8203), .lit (.int .i32 8207)], .agg [.lit (.int .i32 8400), .lit (.int .i32 8447)], .agg [.lit (.int .i32 12330), .lit (.int .i32 12335)], .agg [.lit (.int .i32 12441), .lit (.int .i32 12442)], .agg [.lit (.int .i32 65024), .lit (.int .i32 65039)], .agg [.lit (.int .i32 65056), .lit (.int .i32 65071)], .agg [.lit (.int .i32 917760), .lit (.int .i32 917999)]]
def laid_scrollback_width_wide {H : Type} : DataW H := .agg [.agg [.lit (.int .i32 4352), .lit (.int .i32 4447)], .agg [.lit (.int .i32 9001), .lit (.int .i32 9002)], .agg [.lit (.int .i32 11904), .lit (.int .i32 12329)], .agg [.lit (.int .i32 12336), .lit (.int .i32 12350)], .agg [.lit (.int .i32 12353), .lit (.int .i32 12440)], .agg [.lit (.int .i32 12443), .lit (.int .i32 13311)], .agg [.lit (.int .i32 13312), .lit (.int .i32 19903)], .agg [.lit (.int .i32 19968), .lit (.int .i32 42191)], .agg [.lit (.int .i32 43360), .lit (.int .i32 43391)], .agg [.lit (.int .i32 44032), .lit (.int .i32 55203)], .agg [.lit (.int .i32 63744), .lit (.int .i32 64255)], .agg [.lit (.int .i32 65072), .lit (.int .i32 65135)], .agg [.lit (.int .i32 65280), .lit (.int .i32 65376)], .agg [.lit (.int .i32 65504), .lit (.int .i32 65510)], .agg [.lit (.int .i32 127744), .lit (.int .i32 128591)], .agg [.lit (.int .i32 128640), .lit (.int .i32 128767)], .agg [.lit (.int .i32 129280), .lit (.int .i32 129535)], .agg [.lit (.int .i32 131072), .lit (.int .i32 196605)], .agg [.lit (.int .i32 196608), .lit (.int .i32 262141)]]

/-- 'scrollbacklaw24.AlternateNil': WHATEVER THE INPUT: true; the input reads as it did. -/
def alternateNilSpec : ChangeSpec := { name := "alternateNil", fn := fun _ => fun
  | [d1, d2, d3] => { results := [.lit (.bool true)], args := [d1, d2, d3] }
  | _ => none }
def alternateNilRow : OpenClaim := { program := "ytdndoikgnohkkaadoor", sum := "bcaa932b9e59c914daaa3382df6cb447fcd4973724dcb215406d3b6cebdf50d3", func := "scrollback/scrollbacklaw24.AlternateNil", spec := "alternateNil", unfollowed := true, recurses := true, named := ["scrollback/width.marks", "scrollback/width.wide"], apart := false, laid := [("scrollback/width.marks", laid_scrollback_width_marks), ("scrollback/width.wide", laid_scrollback_width_wide)] }
def AlternateNilSaid : Prop := alternateNilRow.holds Tryd.pinned (OpenSpec.ofChange alternateNilSpec)

/-- ITS FALSE NEIGHBOUR: 'it returns false'. Refute it at one input. -/
def alternateNilWrong : ChangeSpec := { name := "alternateNil", fn := fun _ => fun
  | [d1, d2, d3] => { results := [.lit (.bool false)], args := [d1, d2, d3] }
  | _ => none }
def AlternateNilWrongFalsely : Prop := alternateNilRow.holds Tryd.pinned (OpenSpec.ofChange alternateNilWrong)

/-- 'scrollbacklaw24.AlternateHolds': WHATEVER THE INPUT: true; the input reads as it did. -/
def alternateHoldsSpec : ChangeSpec := { name := "alternateHolds", fn := fun _ => fun
  | [d1, d2, d3] => { results := [.lit (.bool true)], args := [d1, d2, d3] }
  | _ => none }
def alternateHoldsRow : OpenClaim := { program := "ytdndoikgnohkkaadoor", sum := "bcaa932b9e59c914daaa3382df6cb447fcd4973724dcb215406d3b6cebdf50d3", func := "scrollback/scrollbacklaw24.AlternateHolds", spec := "alternateHolds", unfollowed := true, recurses := true, named := ["scrollback/width.marks", "scrollback/width.wide"], apart := false, laid := [("scrollback/width.marks", laid_scrollback_width_marks), ("scrollback/width.wide", laid_scrollback_width_wide)] }
def AlternateHoldsSaid : Prop := alternateHoldsRow.holds Tryd.pinned (OpenSpec.ofChange alternateHoldsSpec)

/-- ITS FALSE NEIGHBOUR: 'it returns false'. Refute it at one input. -/
def alternateHoldsWrong : ChangeSpec := { name := "alternateHolds", fn := fun _ => fun
  | [d1, d2, d3] => { results := [.lit (.bool false)], args := [d1, d2, d3] }
  | _ => none }
def AlternateHoldsWrongFalsely : Prop := alternateHoldsRow.holds Tryd.pinned (OpenSpec.ofChange alternateHoldsWrong)

/-- 'scrollbacklaw24.AlternateSizes': WHATEVER THE INPUT: true; the input reads as it did. -/
def alternateSizesSpec : ChangeSpec := { name := "alternateSizes", fn := fun _ => fun
  | [d1, d2] => { results := [.lit (.bool true)], args := [d1, d2] }
  | _ => none }
def alternateSizesRow : OpenClaim := { program := "ytdndoikgnohkkaadoor", sum := "bcaa932b9e59c914daaa3382df6cb447fcd4973724dcb215406d3b6cebdf50d3", func := "scrollback/scrollbacklaw24.AlternateSizes", spec := "alternateSizes", unfollowed := true, recurses := true, named := ["scrollback/width.marks", "scrollback/width.wide"], apart := false, laid := [("scrollback/width.marks", laid_scrollback_width_marks), ("scrollback/width.wide", laid_scrollback_width_wide)] }
def AlternateSizesSaid : Prop := alternateSizesRow.holds Tryd.pinned (OpenSpec.ofChange alternateSizesSpec)

/-- ITS FALSE NEIGHBOUR: 'it returns false'. Refute it at one input. -/
def alternateSizesWrong : ChangeSpec := { name := "alternateSizes", fn := fun _ => fun
  | [d1, d2] => { results := [.lit (.bool false)], args := [d1, d2] }
  | _ => none }
def AlternateSizesWrongFalsely : Prop := alternateSizesRow.holds Tryd.pinned (OpenSpec.ofChange alternateSizesWrong)

/-- 'scrollbacklaw24.AlternateKeeps': WHATEVER THE INPUT: true; the input reads as it did. -/
def alternateKeepsSpec : ChangeSpec := { name := "alternateKeeps", fn := fun _ => fun
  | [d1, d2] => { results := [.lit (.bool true)], args := [d1, d2] }
  | _ => none }
def alternateKeepsRow : OpenClaim := { program := "ytdndoikgnohkkaadoor", sum := "bcaa932b9e59c914daaa3382df6cb447fcd4973724dcb215406d3b6cebdf50d3", func := "scrollback/scrollbacklaw24.AlternateKeeps", spec := "alternateKeeps", unfollowed := true, recurses := true, named := ["scrollback/width.marks", "scrollback/width.wide"], apart := false, laid := [("scrollback/width.marks", laid_scrollback_width_marks), ("scrollback/width.wide", laid_scrollback_width_wide)] }
def AlternateKeepsSaid : Prop := alternateKeepsRow.holds Tryd.pinned (OpenSpec.ofChange alternateKeepsSpec)

/-- ITS FALSE NEIGHBOUR: 'it returns false'. Refute it at one input. -/
def alternateKeepsWrong : ChangeSpec := { name := "alternateKeeps", fn := fun _ => fun
  | [d1, d2] => { results := [.lit (.bool false)], args := [d1, d2] }
  | _ => none }
def AlternateKeepsWrongFalsely : Prop := alternateKeepsRow.holds Tryd.pinned (OpenSpec.ofChange alternateKeepsWrong)

/-- 'scrollbacklaw24.AlternatePlays': WHATEVER THE INPUT: true; the input reads as it did. -/
def alternatePlaysSpec : ChangeSpec := { name := "alternatePlays", fn := fun _ => fun
  | [d1, d2, d3] => { results := [.lit (.bool true)], args := [d1, d2, d3] }
  | _ => none }
def alternatePlaysRow : OpenClaim := { program := "ytdndoikgnohkkaadoor", sum := "bcaa932b9e59c914daaa3382df6cb447fcd4973724dcb215406d3b6cebdf50d3", func := "scrollback/scrollbacklaw24.AlternatePlays", spec := "alternatePlays", unfollowed := true, recurses := true, named := ["scrollback/width.marks", "scrollback/width.wide"], apart := false, laid := [("scrollback/width.marks", laid_scrollback_width_marks), ("scrollback/width.wide", laid_scrollback_width_wide)] }
def AlternatePlaysSaid : Prop := alternatePlaysRow.holds Tryd.pinned (OpenSpec.ofChange alternatePlaysSpec)

/-- ITS FALSE NEIGHBOUR: 'it returns false'. Refute it at one input. -/
def alternatePlaysWrong : ChangeSpec := { name := "alternatePlays", fn := fun _ => fun
  | [d1, d2, d3] => { results := [.lit (.bool false)], args := [d1, d2, d3] }
  | _ => none }
def AlternatePlaysWrongFalsely : Prop := alternatePlaysRow.holds Tryd.pinned (OpenSpec.ofChange alternatePlaysWrong)

/- THE SECOND FORM. 'bulk': how many values and letters a reading holds, each counted each time it is reached (what is shared counts as often as it is met; a slice's spare places count too). A statement '..UptoSaid' is the law's where the arguments, and the package variables that the reading takes, are together of bulk at most 1048576: NARROWER than '..Said'. Prove '..Said' where nothing that the law and all that it calls make is longer than what came in: it says more and counts as full. Else prove '..UptoSaid'. A law counts once. -/
mutual
def uptoBulk {H : Type} : DataW H → Nat
  | .lit (.string bytes) => bytes.length + 1
  | .lit _ => 1
  | .nil => 1
  | .ptr d => uptoBulk d + 1
  | .slice elems spare => uptoBulkAll elems + uptoBulkAll spare + 1
  | .agg parts => uptoBulkAll parts + 1
  | .iface _ d => uptoBulk d + 1
  | .map entries => uptoBulkEntries entries + 1
  | .held _ => 1
def uptoBulkAll {H : Type} : List (DataW H) → Nat
  | [] => 0
  | d :: r => uptoBulk d + uptoBulkAll r
def uptoBulkEntries {H : Type} : List (Lit × DataW H) → Nat
  | [] => 0
  | x :: r => uptoBulkEntry x + uptoBulkEntries r
def uptoBulkEntry {H : Type} : Lit × DataW H → Nat
  | (.string bytes, d) => bytes.length + uptoBulk d + 1
  | (_, d) => uptoBulk d + 1
 end
def uptoSmall : (H : Type) → List (DataW H) → Bool := fun _ ds => decide (uptoBulkAll ds ≤ 1048576)
def OpenSpec.upto (s : _root_.Go.ChangeSpec) : _root_.Go.OpenSpec := { _root_.Go.OpenSpec.ofChange s with cond := some uptoSmall }

/-- 'scrollbacklaw24.AlternateNil', WHERE WHAT IT READS IS OF BULK AT MOST 1048576: true; the input reads as it did. -/
def alternateNilUptoRow : OpenClaim := { program := "ytdndoikgnohkkaadoor", sum := "bcaa932b9e59c914daaa3382df6cb447fcd4973724dcb215406d3b6cebdf50d3", func := "scrollback/scrollbacklaw24.AlternateNil", spec := "alternateNil", unfollowed := true, recurses := true, named := ["scrollback/width.marks", "scrollback/width.wide"], apart := false, laid := [("scrollback/width.marks", laid_scrollback_width_marks), ("scrollback/width.wide", laid_scrollback_width_wide)], narrowed := true }
def AlternateNilUptoSaid : Prop := alternateNilUptoRow.holds Tryd.pinned (OpenSpec.upto alternateNilSpec)

/-- 'scrollbacklaw24.AlternateHolds', WHERE WHAT IT READS IS OF BULK AT MOST 1048576: true; the input reads as it did. -/
def alternateHoldsUptoRow : OpenClaim := { program := "ytdndoikgnohkkaadoor", sum := "bcaa932b9e59c914daaa3382df6cb447fcd4973724dcb215406d3b6cebdf50d3", func := "scrollback/scrollbacklaw24.AlternateHolds", spec := "alternateHolds", unfollowed := true, recurses := true, named := ["scrollback/width.marks", "scrollback/width.wide"], apart := false, laid := [("scrollback/width.marks", laid_scrollback_width_marks), ("scrollback/width.wide", laid_scrollback_width_wide)], narrowed := true }
def AlternateHoldsUptoSaid : Prop := alternateHoldsUptoRow.holds Tryd.pinned (OpenSpec.upto alternateHoldsSpec)

/-- 'scrollbacklaw24.AlternateSizes', WHERE WHAT IT READS IS OF BULK AT MOST 1048576: true; the input reads as it did. -/
def alternateSizesUptoRow : OpenClaim := { program := "ytdndoikgnohkkaadoor", sum := "bcaa932b9e59c914daaa3382df6cb447fcd4973724dcb215406d3b6cebdf50d3", func := "scrollback/scrollbacklaw24.AlternateSizes", spec := "alternateSizes", unfollowed := true, recurses := true, named := ["scrollback/width.marks", "scrollback/width.wide"], apart := false, laid := [("scrollback/width.marks", laid_scrollback_width_marks), ("scrollback/width.wide", laid_scrollback_width_wide)], narrowed := true }
def AlternateSizesUptoSaid : Prop := alternateSizesUptoRow.holds Tryd.pinned (OpenSpec.upto alternateSizesSpec)

/-- 'scrollbacklaw24.AlternateKeeps', WHERE WHAT IT READS IS OF BULK AT MOST 1048576: true; the input reads as it did. -/
def alternateKeepsUptoRow : OpenClaim := { program := "ytdndoikgnohkkaadoor", sum := "bcaa932b9e59c914daaa3382df6cb447fcd4973724dcb215406d3b6cebdf50d3", func := "scrollback/scrollbacklaw24.AlternateKeeps", spec := "alternateKeeps", unfollowed := true, recurses := true, named := ["scrollback/width.marks", "scrollback/width.wide"], apart := false, laid := [("scrollback/width.marks", laid_scrollback_width_marks), ("scrollback/width.wide", laid_scrollback_width_wide)], narrowed := true }
def AlternateKeepsUptoSaid : Prop := alternateKeepsUptoRow.holds Tryd.pinned (OpenSpec.upto alternateKeepsSpec)

/-- 'scrollbacklaw24.AlternatePlays', WHERE WHAT IT READS IS OF BULK AT MOST 1048576: true; the input reads as it did. -/
def alternatePlaysUptoRow : OpenClaim := { program := "ytdndoikgnohkkaadoor", sum := "bcaa932b9e59c914daaa3382df6cb447fcd4973724dcb215406d3b6cebdf50d3", func := "scrollback/scrollbacklaw24.AlternatePlays", spec := "alternatePlays", unfollowed := true, recurses := true, named := ["scrollback/width.marks", "scrollback/width.wide"], apart := false, laid := [("scrollback/width.marks", laid_scrollback_width_marks), ("scrollback/width.wide", laid_scrollback_width_wide)], narrowed := true }
def AlternatePlaysUptoSaid : Prop := alternatePlaysUptoRow.holds Tryd.pinned (OpenSpec.upto alternatePlaysSpec)

end Rows
end Go.Proofs.YtdndoikgnohkkaaDoor
