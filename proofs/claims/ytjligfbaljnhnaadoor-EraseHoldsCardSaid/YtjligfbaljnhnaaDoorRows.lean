/-
  NARROWER THAN 'FOR EVERY INPUT', by the rows' own cells (each row's printed sentence says how): EraseNil: laid · GridSizes: laid · EraseLines: laid · EraseScreens: laid · ErasePlays: laid · EraseHolds: laid · GridOf: laid · GridPlays: laid · GridSame: laid · GridNil: laid · GridHolds: laid.
  DERIVED. THE GIVEN ROWS OF THIS SEAT. 11 by the template 'for every input the law returns true; each argument reads behind the call as it read before'; 0 by the template 'total and deterministic' (their statements: YtjligfbaljnhnaaDoorTotals.lean).
  GIVEN WITH THE SEED: the statements are not yours to turn. If you find one false, say at which input.
  Laid BY PROGRAM, IN A SANDBOX (cutbox-rows.mjs): the forced cells as the released guide's own fill.sh prints them over the translation 39dc96b85db1f699… (all of the seat's roots in one cut). By AI agents, Wed Nov 11 2026. No macro, syntax, notation, axiom, sorry.
-/
import Derived.Test.YtjligfbaljnhnaaDoorChecked
import GoSem.Claim
import GoSem.ClaimJoined
import GoSem.ClaimMapViews
import Derived.JoinedTies
import Derived.KernelRfl
namespace Go.Proofs.YtjligfbaljnhnaaDoor
/- THE CELL 'sum', in the pinned program and in every row, IS THE sha256 OF THE DUMP (.gsa) THAT YtjligfbaljnhnaaDoorProg.lean LOADS. Nothing in Lean hashes anything: it is a label: what it is worth is what the hold of that sum in a sandbox is worth. -/
noncomputable def Tryd.pinned : Pinned := { name := "ytjligfbaljnhnaadoor", sum := "39dc96b85db1f69999fe169fa68092c13501deb965219d250c22552c073d62f9", checked := Tryd.checked }
namespace Rows
def none {H : Type} : Left H := { results := [], args := [] }

/- WHAT THE LISTED PACKAGE-LEVEL VARIABLES READ AS WHEN THE CALL BEGINS. Each datum BY PROGRAM (the guide's laid-datum.mjs) off the statement by which the dump's own 'gosem.cut.vars' lays the variable. In a bare row this is a premise. The card (YtjligfbaljnhnaaDoorCards.lean) ties it to the program's text. -/
def laid_scrollback_width_marks {H : Type} : DataW H := .agg [.agg [.lit (.int .i32 768), .lit (.int .i32 879)], .agg [.lit (.int .i32 1155), .lit (.int .i32 1161)], .agg [.lit (.int .i32 1425), .lit (.int .i32 1469)], .agg [.lit (.int .i32 1552), .lit (.int .i32 1562)], .agg [.lit (.int .i32 1611), .lit (.int .i32 1631)], .agg [.lit (.int .i32 1750), .lit (.int .i32 1756)], .agg [.lit (.int .i32 3633), .lit (.int .i32 3633)], .agg [.lit (.int .i32 3636), .lit (.int .i32 3642)], .agg [.lit (.int .i32 3655), .lit (.int .i32 3662)], .agg [.lit (.int .i32 6832), .lit (.int .i32 6911)], .agg [.lit (.int .i32 7616), .lit (.int .i32 7679)], .agg [.lit (.int .i32 8203), .lit (.int .i32 8207)], .agg [.lit (.int .i32 8400), .lit (.int .i32 8447)], .agg [.lit (.int .i32 12330), .lit (.int .i32 12335)], .agg [.lit (.int .i32 12441), .lit (.int .i32 12442)], .agg [.lit (.int .i32 65024), .lit (.int .i32 65039)], .agg [.lit (.int .i32 65056), .lit (.int .i32 65071)], .agg [.lit (.int .i32 917760), .lit (.int .i32 917999)]]
def laid_scrollback_width_wide {H : Type} : DataW H := .agg [.agg [.lit (.int .i32 4352), .lit (.int .i32 4447)], .agg [.lit (.int .i32 9001), .lit (.int .i32 9002)], .agg [.lit (.int .i32 11904), .lit (.int .i32 12329)], .agg [.lit (.int .i32 12336), .lit (.int .i32 12350)], .agg [.lit (.int .i32 12353), .lit (.int .i32 12440)], .agg [.lit (.int .i32 12443), .lit (.int .i32 13311)], .agg [.lit (.int .i32 13312), .lit (.int .i32 19903)], .agg [.lit (.int .i32 19968), .lit (.int .i32 42191)], .agg [.lit (.int .i32 43360), .lit (.int .i32 43391)], .agg [.lit (.int .i32 44032), .lit (.int .i32 55203)], .agg [.lit (.int .i32 63744), .lit (.int .i32 64255)], .agg [.lit (.int .i32 65072), .lit (.int .i32 65135)], .agg [.lit (.int .i32 65280), .lit (.int .i32 65376)], .agg [.lit (.int .i32 65504), .lit (.int .i32 65510)], .agg [.lit (.int .i32 127744), .lit (.int .i32 128591)], .agg [.lit (.int .i32 128640), .lit (.int .i32 128767)], .agg [.lit (.int .i32 129280), .lit (.int .i32 129535)], .agg [.lit (.int .i32 131072), .lit (.int .i32 196605)], .agg [.lit (.int .i32 196608), .lit (.int .i32 262141)]]

/-- 'scrollbacklaw17.EraseNil': WHATEVER THE INPUT: true; the input reads as it did. -/
def eraseNilSpec : ChangeSpec := { name := "eraseNil", fn := fun _ => fun
  | [d] => { results := [.lit (.bool true)], args := [d] }
  | _ => none }
def eraseNilRow : OpenClaim := { program := "ytjligfbaljnhnaadoor", sum := "39dc96b85db1f69999fe169fa68092c13501deb965219d250c22552c073d62f9", func := "scrollback/scrollbacklaw17.EraseNil", spec := "eraseNil", unfollowed := true, recurses := true, named := ["scrollback/width.marks", "scrollback/width.wide"], apart := false, laid := [("scrollback/width.marks", laid_scrollback_width_marks), ("scrollback/width.wide", laid_scrollback_width_wide)] }
def EraseNilSaid : Prop := eraseNilRow.holds Tryd.pinned (OpenSpec.ofChange eraseNilSpec)

/-- ITS FALSE NEIGHBOUR: 'it returns false'. Refute it at one input. -/
def eraseNilWrong : ChangeSpec := { name := "eraseNil", fn := fun _ => fun
  | [d] => { results := [.lit (.bool false)], args := [d] }
  | _ => none }
def EraseNilWrongFalsely : Prop := eraseNilRow.holds Tryd.pinned (OpenSpec.ofChange eraseNilWrong)

/-- 'scrollbacklaw14.GridSizes': WHATEVER THE INPUT: true; the input reads as it did. -/
def gridSizesSpec : ChangeSpec := { name := "gridSizes", fn := fun _ => fun
  | [d1, d2] => { results := [.lit (.bool true)], args := [d1, d2] }
  | _ => none }
def gridSizesRow : OpenClaim := { program := "ytjligfbaljnhnaadoor", sum := "39dc96b85db1f69999fe169fa68092c13501deb965219d250c22552c073d62f9", func := "scrollback/scrollbacklaw14.GridSizes", spec := "gridSizes", unfollowed := true, recurses := true, named := ["scrollback/width.marks", "scrollback/width.wide"], apart := false, laid := [("scrollback/width.marks", laid_scrollback_width_marks), ("scrollback/width.wide", laid_scrollback_width_wide)] }
def GridSizesSaid : Prop := gridSizesRow.holds Tryd.pinned (OpenSpec.ofChange gridSizesSpec)

/-- ITS FALSE NEIGHBOUR: 'it returns false'. Refute it at one input. -/
def gridSizesWrong : ChangeSpec := { name := "gridSizes", fn := fun _ => fun
  | [d1, d2] => { results := [.lit (.bool false)], args := [d1, d2] }
  | _ => none }
def GridSizesWrongFalsely : Prop := gridSizesRow.holds Tryd.pinned (OpenSpec.ofChange gridSizesWrong)

/-- 'scrollbacklaw17.EraseLines': WHATEVER THE INPUT: true; the input reads as it did. -/
def eraseLinesSpec : ChangeSpec := { name := "eraseLines", fn := fun _ => fun
  | [d1, d2, d3, d4, d5] => { results := [.lit (.bool true)], args := [d1, d2, d3, d4, d5] }
  | _ => none }
def eraseLinesRow : OpenClaim := { program := "ytjligfbaljnhnaadoor", sum := "39dc96b85db1f69999fe169fa68092c13501deb965219d250c22552c073d62f9", func := "scrollback/scrollbacklaw17.EraseLines", spec := "eraseLines", unfollowed := true, recurses := true, named := ["scrollback/width.marks", "scrollback/width.wide"], apart := false, laid := [("scrollback/width.marks", laid_scrollback_width_marks), ("scrollback/width.wide", laid_scrollback_width_wide)] }
def EraseLinesSaid : Prop := eraseLinesRow.holds Tryd.pinned (OpenSpec.ofChange eraseLinesSpec)

/-- ITS FALSE NEIGHBOUR: 'it returns false'. Refute it at one input. -/
def eraseLinesWrong : ChangeSpec := { name := "eraseLines", fn := fun _ => fun
  | [d1, d2, d3, d4, d5] => { results := [.lit (.bool false)], args := [d1, d2, d3, d4, d5] }
  | _ => none }
def EraseLinesWrongFalsely : Prop := eraseLinesRow.holds Tryd.pinned (OpenSpec.ofChange eraseLinesWrong)

/-- 'scrollbacklaw17.EraseScreens': WHATEVER THE INPUT: true; the input reads as it did. -/
def eraseScreensSpec : ChangeSpec := { name := "eraseScreens", fn := fun _ => fun
  | [d1, d2, d3, d4, d5] => { results := [.lit (.bool true)], args := [d1, d2, d3, d4, d5] }
  | _ => none }
def eraseScreensRow : OpenClaim := { program := "ytjligfbaljnhnaadoor", sum := "39dc96b85db1f69999fe169fa68092c13501deb965219d250c22552c073d62f9", func := "scrollback/scrollbacklaw17.EraseScreens", spec := "eraseScreens", unfollowed := true, recurses := true, named := ["scrollback/width.marks", "scrollback/width.wide"], apart := false, laid := [("scrollback/width.marks", laid_scrollback_width_marks), ("scrollback/width.wide", laid_scrollback_width_wide)] }
def EraseScreensSaid : Prop := eraseScreensRow.holds Tryd.pinned (OpenSpec.ofChange eraseScreensSpec)

/-- ITS FALSE NEIGHBOUR: 'it returns false'. Refute it at one input. -/
def eraseScreensWrong : ChangeSpec := { name := "eraseScreens", fn := fun _ => fun
  | [d1, d2, d3, d4, d5] => { results := [.lit (.bool false)], args := [d1, d2, d3, d4, d5] }
  | _ => none }
def EraseScreensWrongFalsely : Prop := eraseScreensRow.holds Tryd.pinned (OpenSpec.ofChange eraseScreensWrong)

/-- 'scrollbacklaw17.ErasePlays': WHATEVER THE INPUT: true; the input reads as it did. -/
def erasePlaysSpec : ChangeSpec := { name := "erasePlays", fn := fun _ => fun
  | [d1, d2, d3, d4, d5] => { results := [.lit (.bool true)], args := [d1, d2, d3, d4, d5] }
  | _ => none }
def erasePlaysRow : OpenClaim := { program := "ytjligfbaljnhnaadoor", sum := "39dc96b85db1f69999fe169fa68092c13501deb965219d250c22552c073d62f9", func := "scrollback/scrollbacklaw17.ErasePlays", spec := "erasePlays", unfollowed := true, recurses := true, named := ["scrollback/width.marks", "scrollback/width.wide"], apart := false, laid := [("scrollback/width.marks", laid_scrollback_width_marks), ("scrollback/width.wide", laid_scrollback_width_wide)] }
def ErasePlaysSaid : Prop := erasePlaysRow.holds Tryd.pinned (OpenSpec.ofChange erasePlaysSpec)

/-- ITS FALSE NEIGHBOUR: 'it returns false'. Refute it at one input. -/
def erasePlaysWrong : ChangeSpec := { name := "erasePlays", fn := fun _ => fun
  | [d1, d2, d3, d4, d5] => { results := [.lit (.bool false)], args := [d1, d2, d3, d4, d5] }
  | _ => none }
def ErasePlaysWrongFalsely : Prop := erasePlaysRow.holds Tryd.pinned (OpenSpec.ofChange erasePlaysWrong)

/-- 'scrollbacklaw17.EraseHolds': WHATEVER THE INPUT: true; the input reads as it did. -/
def eraseHoldsSpec : ChangeSpec := { name := "eraseHolds", fn := fun _ => fun
  | [d1, d2, d3, d4, d5, d6] => { results := [.lit (.bool true)], args := [d1, d2, d3, d4, d5, d6] }
  | _ => none }
def eraseHoldsRow : OpenClaim := { program := "ytjligfbaljnhnaadoor", sum := "39dc96b85db1f69999fe169fa68092c13501deb965219d250c22552c073d62f9", func := "scrollback/scrollbacklaw17.EraseHolds", spec := "eraseHolds", unfollowed := true, recurses := true, named := ["scrollback/width.marks", "scrollback/width.wide"], apart := false, laid := [("scrollback/width.marks", laid_scrollback_width_marks), ("scrollback/width.wide", laid_scrollback_width_wide)] }
def EraseHoldsSaid : Prop := eraseHoldsRow.holds Tryd.pinned (OpenSpec.ofChange eraseHoldsSpec)

/-- ITS FALSE NEIGHBOUR: 'it returns false'. Refute it at one input. -/
def eraseHoldsWrong : ChangeSpec := { name := "eraseHolds", fn := fun _ => fun
  | [d1, d2, d3, d4, d5, d6] => { results := [.lit (.bool false)], args := [d1, d2, d3, d4, d5, d6] }
  | _ => none }
def EraseHoldsWrongFalsely : Prop := eraseHoldsRow.holds Tryd.pinned (OpenSpec.ofChange eraseHoldsWrong)

/-- 'scrollbacklaw14.GridOf': WHATEVER THE INPUT: true; the input reads as it did. -/
def gridOfSpec : ChangeSpec := { name := "gridOf", fn := fun _ => fun
  | [d1, d2] => { results := [.lit (.bool true)], args := [d1, d2] }
  | _ => none }
def gridOfRow : OpenClaim := { program := "ytjligfbaljnhnaadoor", sum := "39dc96b85db1f69999fe169fa68092c13501deb965219d250c22552c073d62f9", func := "scrollback/scrollbacklaw14.GridOf", spec := "gridOf", unfollowed := true, recurses := true, named := ["scrollback/width.marks", "scrollback/width.wide"], apart := false, laid := [("scrollback/width.marks", laid_scrollback_width_marks), ("scrollback/width.wide", laid_scrollback_width_wide)] }
def GridOfSaid : Prop := gridOfRow.holds Tryd.pinned (OpenSpec.ofChange gridOfSpec)

/-- ITS FALSE NEIGHBOUR: 'it returns false'. Refute it at one input. -/
def gridOfWrong : ChangeSpec := { name := "gridOf", fn := fun _ => fun
  | [d1, d2] => { results := [.lit (.bool false)], args := [d1, d2] }
  | _ => none }
def GridOfWrongFalsely : Prop := gridOfRow.holds Tryd.pinned (OpenSpec.ofChange gridOfWrong)

/-- 'scrollbacklaw14.GridPlays': WHATEVER THE INPUT: true; the input reads as it did. -/
def gridPlaysSpec : ChangeSpec := { name := "gridPlays", fn := fun _ => fun
  | [d1, d2, d3] => { results := [.lit (.bool true)], args := [d1, d2, d3] }
  | _ => none }
def gridPlaysRow : OpenClaim := { program := "ytjligfbaljnhnaadoor", sum := "39dc96b85db1f69999fe169fa68092c13501deb965219d250c22552c073d62f9", func := "scrollback/scrollbacklaw14.GridPlays", spec := "gridPlays", unfollowed := true, recurses := true, named := ["scrollback/width.marks", "scrollback/width.wide"], apart := false, laid := [("scrollback/width.marks", laid_scrollback_width_marks), ("scrollback/width.wide", laid_scrollback_width_wide)] }
def GridPlaysSaid : Prop := gridPlaysRow.holds Tryd.pinned (OpenSpec.ofChange gridPlaysSpec)

/-- ITS FALSE NEIGHBOUR: 'it returns false'. Refute it at one input. -/
def gridPlaysWrong : ChangeSpec := { name := "gridPlays", fn := fun _ => fun
  | [d1, d2, d3] => { results := [.lit (.bool false)], args := [d1, d2, d3] }
  | _ => none }
def GridPlaysWrongFalsely : Prop := gridPlaysRow.holds Tryd.pinned (OpenSpec.ofChange gridPlaysWrong)

/-- 'scrollbacklaw14.GridSame': WHATEVER THE INPUT: true; the input reads as it did. -/
def gridSameSpec : ChangeSpec := { name := "gridSame", fn := fun _ => fun
  | [d1, d2, d3, d4] => { results := [.lit (.bool true)], args := [d1, d2, d3, d4] }
  | _ => none }
def gridSameRow : OpenClaim := { program := "ytjligfbaljnhnaadoor", sum := "39dc96b85db1f69999fe169fa68092c13501deb965219d250c22552c073d62f9", func := "scrollback/scrollbacklaw14.GridSame", spec := "gridSame", unfollowed := true, recurses := true, named := ["scrollback/width.marks", "scrollback/width.wide"], apart := false, laid := [("scrollback/width.marks", laid_scrollback_width_marks), ("scrollback/width.wide", laid_scrollback_width_wide)] }
def GridSameSaid : Prop := gridSameRow.holds Tryd.pinned (OpenSpec.ofChange gridSameSpec)

/-- ITS FALSE NEIGHBOUR: 'it returns false'. Refute it at one input. -/
def gridSameWrong : ChangeSpec := { name := "gridSame", fn := fun _ => fun
  | [d1, d2, d3, d4] => { results := [.lit (.bool false)], args := [d1, d2, d3, d4] }
  | _ => none }
def GridSameWrongFalsely : Prop := gridSameRow.holds Tryd.pinned (OpenSpec.ofChange gridSameWrong)

/-- 'scrollbacklaw14.GridNil': WHATEVER THE INPUT: true; the input reads as it did. -/
def gridNilSpec : ChangeSpec := { name := "gridNil", fn := fun _ => fun
  | [d] => { results := [.lit (.bool true)], args := [d] }
  | _ => none }
def gridNilRow : OpenClaim := { program := "ytjligfbaljnhnaadoor", sum := "39dc96b85db1f69999fe169fa68092c13501deb965219d250c22552c073d62f9", func := "scrollback/scrollbacklaw14.GridNil", spec := "gridNil", unfollowed := true, recurses := true, named := ["scrollback/width.marks", "scrollback/width.wide"], apart := false, laid := [("scrollback/width.marks", laid_scrollback_width_marks), ("scrollback/width.wide", laid_scrollback_width_wide)] }
def GridNilSaid : Prop := gridNilRow.holds Tryd.pinned (OpenSpec.ofChange gridNilSpec)

/-- ITS FALSE NEIGHBOUR: 'it returns false'. Refute it at one input. -/
def gridNilWrong : ChangeSpec := { name := "gridNil", fn := fun _ => fun
  | [d] => { results := [.lit (.bool false)], args := [d] }
  | _ => none }
def GridNilWrongFalsely : Prop := gridNilRow.holds Tryd.pinned (OpenSpec.ofChange gridNilWrong)

/-- 'scrollbacklaw14.GridHolds': WHATEVER THE INPUT: true; the input reads as it did. -/
def gridHoldsSpec : ChangeSpec := { name := "gridHolds", fn := fun _ => fun
  | [d1, d2, d3] => { results := [.lit (.bool true)], args := [d1, d2, d3] }
  | _ => none }
def gridHoldsRow : OpenClaim := { program := "ytjligfbaljnhnaadoor", sum := "39dc96b85db1f69999fe169fa68092c13501deb965219d250c22552c073d62f9", func := "scrollback/scrollbacklaw14.GridHolds", spec := "gridHolds", unfollowed := true, recurses := true, named := ["scrollback/width.marks", "scrollback/width.wide"], apart := false, laid := [("scrollback/width.marks", laid_scrollback_width_marks), ("scrollback/width.wide", laid_scrollback_width_wide)] }
def GridHoldsSaid : Prop := gridHoldsRow.holds Tryd.pinned (OpenSpec.ofChange gridHoldsSpec)

/-- ITS FALSE NEIGHBOUR: 'it returns false'. Refute it at one input. -/
def gridHoldsWrong : ChangeSpec := { name := "gridHolds", fn := fun _ => fun
  | [d1, d2, d3] => { results := [.lit (.bool false)], args := [d1, d2, d3] }
  | _ => none }
def GridHoldsWrongFalsely : Prop := gridHoldsRow.holds Tryd.pinned (OpenSpec.ofChange gridHoldsWrong)

/- THE SECOND FORM. 'bulk': how many values and letters a reading holds, each counted each time it is reached (what is shared counts as often as it is met; a slice's spare places count too). A statement '..UptoSaid' is the law's where the arguments, and the package variables that the reading takes, are together of bulk at most 1048576: NARROWER than '..Said'. Prove '..Said' where nothing that the law and all that it calls make is longer than what came in: it says more and counts as full. Else prove '..UptoSaid'. A law counts once. -/
mutual
def uptoBulk {H : Type} : DataW H → Nat
  | .lit (.string bytes) => bytes.length + 1
  | .lit _ => 1
  | .nil => 1
  | .ptr d => uptoBulk d + 1
  | .slice elems spare => uptoBulkAll elems + uptoBulkAll spare + 1
  | .agg parts => uptoBulkAll parts + 1
  | .iface _ d => uptoBulk d + 1
  | .map entries => uptoBulkEntries entries + 1
  | .held _ => 1
def uptoBulkAll {H : Type} : List (DataW H) → Nat
  | [] => 0
  | d :: r => uptoBulk d + uptoBulkAll r
def uptoBulkEntries {H : Type} : List (Lit × DataW H) → Nat
  | [] => 0
  | x :: r => uptoBulkEntry x + uptoBulkEntries r
def uptoBulkEntry {H : Type} : Lit × DataW H → Nat
  | (.string bytes, d) => bytes.length + uptoBulk d + 1
  | (_, d) => uptoBulk d + 1
 end
def uptoSmall : (H : Type) → List (DataW H) → Bool := fun _ ds => decide (uptoBulkAll ds ≤ 1048576)
def OpenSpec.upto (s : _root_.Go.ChangeSpec) : _root_.Go.OpenSpec := { _root_.Go.OpenSpec.ofChange s with cond := some uptoSmall }

/-- 'scrollbacklaw17.EraseNil', WHERE WHAT IT READS IS OF BULK AT MOST 1048576: true; the input reads as it did. -/
def eraseNilUptoRow : OpenClaim := { program := "ytjligfbaljnhnaadoor", sum := "39dc96b85db1f69999fe169fa68092c13501deb965219d250c22552c073d62f9", func := "scrollback/scrollbacklaw17.EraseNil", spec := "eraseNil", unfollowed := true, recurses := true, named := ["scrollback/width.marks", "scrollback/width.wide"], apart := false, laid := [("scrollback/width.marks", laid_scrollback_width_marks), ("scrollback/width.wide", laid_scrollback_width_wide)], narrowed := true }
def EraseNilUptoSaid : Prop := eraseNilUptoRow.holds Tryd.pinned (OpenSpec.upto eraseNilSpec)

/-- 'scrollbacklaw14.GridSizes', WHERE WHAT IT READS IS OF BULK AT MOST 1048576: true; the input reads as it did. -/
def gridSizesUptoRow : OpenClaim := { program := "ytjligfbaljnhnaadoor", sum := "39dc96b85db1f69999fe169fa68092c13501deb965219d250c22552c073d62f9", func := "scrollback/scrollbacklaw14.GridSizes", spec := "gridSizes", unfollowed := true, recurses := true, named := ["scrollback/width.marks", "scrollback/width.wide"], apart := false, laid := [("scrollback/width.marks", laid_scrollback_width_marks), ("scrollback/width.wide", laid_scrollback_width_wide)], narrowed := true }
def GridSizesUptoSaid : Prop := gridSizesUptoRow.holds Tryd.pinned (OpenSpec.upto gridSizesSpec)

/-- 'scrollbacklaw17.EraseLines', WHERE WHAT IT READS IS OF BULK AT MOST 1048576: true; the input reads as it did. -/
def eraseLinesUptoRow : OpenClaim := { program := "ytjligfbaljnhnaadoor", sum := "39dc96b85db1f69999fe169fa68092c13501deb965219d250c22552c073d62f9", func := "scrollback/scrollbacklaw17.EraseLines", spec := "eraseLines", unfollowed := true, recurses := true, named := ["scrollback/width.marks", "scrollback/width.wide"], apart := false, laid := [("scrollback/width.marks", laid_scrollback_width_marks), ("scrollback/width.wide", laid_scrollback_width_wide)], narrowed := true }
def EraseLinesUptoSaid : Prop := eraseLinesUptoRow.holds Tryd.pinned (OpenSpec.upto eraseLinesSpec)

/-- 'scrollbacklaw17.EraseScreens', WHERE WHAT IT READS IS OF BULK AT MOST 1048576: true; the input reads as it did. -/
def eraseScreensUptoRow : OpenClaim := { program := "ytjligfbaljnhnaadoor", sum := "39dc96b85db1f69999fe169fa68092c13501deb965219d250c22552c073d62f9", func := "scrollback/scrollbacklaw17.EraseScreens", spec := "eraseScreens", unfollowed := true, recurses := true, named := ["scrollback/width.marks", "scrollback/width.wide"], apart := false, laid := [("scrollback/width.marks", laid_scrollback_width_marks), ("scrollback/width.wide", laid_scrollback_width_wide)], narrowed := true }
def EraseScreensUptoSaid : Prop := eraseScreensUptoRow.holds Tryd.pinned (OpenSpec.upto eraseScreensSpec)

/-- 'scrollbacklaw17.ErasePlays', WHERE WHAT IT READS IS OF BULK AT MOST 1048576: true; the input reads as it did. -/
def erasePlaysUptoRow : OpenClaim := { program := "ytjligfbaljnhnaadoor", sum := "39dc96b85db1f69999fe169fa68092c13501deb965219d250c22552c073d62f9", func := "scrollback/scrollbacklaw17.ErasePlays", spec := "erasePlays", unfollowed := true, recurses := true, named := ["scrollback/width.marks", "scrollback/width.wide"], apart := false, laid := [("scrollback/width.marks", laid_scrollback_width_marks), ("scrollback/width.wide", laid_scrollback_width_wide)], narrowed := true }
def ErasePlaysUptoSaid : Prop := erasePlaysUptoRow.holds Tryd.pinned (OpenSpec.upto erasePlaysSpec)

/-- 'scrollbacklaw17.EraseHolds', WHERE WHAT IT READS IS OF BULK AT MOST 1048576: true; the input reads as it did. -/
def eraseHoldsUptoRow : OpenClaim := { program := "ytjligfbaljnhnaadoor", sum := "39dc96b85db1f69999fe169fa68092c13501deb965219d250c22552c073d62f9", func := "scrollback/scrollbacklaw17.EraseHolds", spec := "eraseHolds", unfollowed := true, recurses := true, named := ["scrollback/width.marks", "scrollback/width.wide"], apart := false, laid := [("scrollback/width.marks", laid_scrollback_width_marks), ("scrollback/width.wide", laid_scrollback_width_wide)], narrowed := true }
def EraseHoldsUptoSaid : Prop := eraseHoldsUptoRow.holds Tryd.pinned (OpenSpec.upto eraseHoldsSpec)

/-- 'scrollbacklaw14.GridOf', WHERE WHAT IT READS IS OF BULK AT MOST 1048576: true; the input reads as it did. -/
def gridOfUptoRow : OpenClaim := { program := "ytjligfbaljnhnaadoor", sum := "39dc96b85db1f69999fe169fa68092c13501deb965219d250c22552c073d62f9", func := "scrollback/scrollbacklaw14.GridOf", spec := "gridOf", unfollowed := true, recurses := true, named := ["scrollback/width.marks", "scrollback/width.wide"], apart := false, laid := [("scrollback/width.marks", laid_scrollback_width_marks), ("scrollback/width.wide", laid_scrollback_width_wide)], narrowed := true }
def GridOfUptoSaid : Prop := gridOfUptoRow.holds Tryd.pinned (OpenSpec.upto gridOfSpec)

/-- 'scrollbacklaw14.GridPlays', WHERE WHAT IT READS IS OF BULK AT MOST 1048576: true; the input reads as it did. -/
def gridPlaysUptoRow : OpenClaim := { program := "ytjligfbaljnhnaadoor", sum := "39dc96b85db1f69999fe169fa68092c13501deb965219d250c22552c073d62f9", func := "scrollback/scrollbacklaw14.GridPlays", spec := "gridPlays", unfollowed := true, recurses := true, named := ["scrollback/width.marks", "scrollback/width.wide"], apart := false, laid := [("scrollback/width.marks", laid_scrollback_width_marks), ("scrollback/width.wide", laid_scrollback_width_wide)], narrowed := true }
def GridPlaysUptoSaid : Prop := gridPlaysUptoRow.holds Tryd.pinned (OpenSpec.upto gridPlaysSpec)

/-- 'scrollbacklaw14.GridSame', WHERE WHAT IT READS IS OF BULK AT MOST 1048576: true; the input reads as it did. -/
def gridSameUptoRow : OpenClaim := { program := "ytjligfbaljnhnaadoor", sum := "39dc96b85db1f69999fe169fa68092c13501deb965219d250c22552c073d62f9", func := "scrollback/scrollbacklaw14.GridSame", spec := "gridSame", unfollowed := true, recurses := true, named := ["scrollback/width.marks", "scrollback/width.wide"], apart := false, laid := [("scrollback/width.marks", laid_scrollback_width_marks), ("scrollback/width.wide", laid_scrollback_width_wide)], narrowed := true }
def GridSameUptoSaid : Prop := gridSameUptoRow.holds Tryd.pinned (OpenSpec.upto gridSameSpec)

/-- 'scrollbacklaw14.GridNil', WHERE WHAT IT READS IS OF BULK AT MOST 1048576: true; the input reads as it did. -/
def gridNilUptoRow : OpenClaim := { program := "ytjligfbaljnhnaadoor", sum := "39dc96b85db1f69999fe169fa68092c13501deb965219d250c22552c073d62f9", func := "scrollback/scrollbacklaw14.GridNil", spec := "gridNil", unfollowed := true, recurses := true, named := ["scrollback/width.marks", "scrollback/width.wide"], apart := false, laid := [("scrollback/width.marks", laid_scrollback_width_marks), ("scrollback/width.wide", laid_scrollback_width_wide)], narrowed := true }
def GridNilUptoSaid : Prop := gridNilUptoRow.holds Tryd.pinned (OpenSpec.upto gridNilSpec)

/-- 'scrollbacklaw14.GridHolds', WHERE WHAT IT READS IS OF BULK AT MOST 1048576: true; the input reads as it did. -/
def gridHoldsUptoRow : OpenClaim := { program := "ytjligfbaljnhnaadoor", sum := "39dc96b85db1f69999fe169fa68092c13501deb965219d250c22552c073d62f9", func := "scrollback/scrollbacklaw14.GridHolds", spec := "gridHolds", unfollowed := true, recurses := true, named := ["scrollback/width.marks", "scrollback/width.wide"], apart := false, laid := [("scrollback/width.marks", laid_scrollback_width_marks), ("scrollback/width.wide", laid_scrollback_width_wide)], narrowed := true }
def GridHoldsUptoSaid : Prop := gridHoldsUptoRow.holds Tryd.pinned (OpenSpec.upto gridHoldsSpec)

end Rows
end Go.Proofs.YtjligfbaljnhnaaDoor
