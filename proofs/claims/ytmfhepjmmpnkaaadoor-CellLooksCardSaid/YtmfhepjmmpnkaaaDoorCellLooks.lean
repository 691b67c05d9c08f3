/-
  CellLooks: the walk.
-/
import Derived.Test.YtmfhepjmmpnkaaaDoorKnown4
set_option linter.unusedSimpArgs false
set_option linter.unusedVariables false
namespace Go.Proofs.YtmfhepjmmpnkaaaDoor
open Go.RowKit

set_option maxRecDepth 100000 in
set_option maxHeartbeats 4000000 in
theorem l04CellLooks_any (c : Cell) (w : World) (ht : Tabs w) : Calls Tryd.prog 7 #[.agg (cv c)] w fun e w' => e = .returned (.bool true) ∧ Below w.heap.size w w' := by
  have HT := Lib.hid (ht.bel ((Below.refl _ _).alloc (Nat.le_refl _) (.cells (cv c) 30)))
  clear ht
  have h1 : ((!decide (c.rune = 0)) == (c.rune != 0)) = true := by by_cases h : c.rune = 0 <;> simp [h]
  have h2 : (decide (c = blank pen0) == decide (c = ⟨0, 0, 0, 0, 1, pen0⟩)) = true := by unfold blank; exact beq_self_eq_true _
  go_enter Tryd.func7, Tryd.ntmps7
  go_wp2_with fail
  refine wp_region_below (by kernel_rfl) (by kernel_rfl) ?_
  repeat (go_big_quiet_step ((first | (go_at_call 32; exact quiet_below (cellValid_any _ _ (HT.out.bel (below_plus _ _)))) | (go_at_call 34; exact quiet_below (r04Valid_any _ _)) | (go_at_call 35; exact quiet_below (cellWritten_any _ _)) | (go_at_call 36; exact quiet_below (cellEmpty_any _ _)) | (go_at_call 33; exact quiet_below (cellText_any _ _)) | (go_at_call 37; exact quiet_below (r04Text_any _ _)) | (go_at_call 19; exact quiet_below (l04known_any _ (HT.out.bel (below_plus _ _)))))))
  refine wpQuiet_nil ?_
  intro w1 hb
  obtain ⟨hk, hb1⟩ := box_call hb (by simp)
  clear hb hk
  go_wp2_with fail
  go_ret
  exact ⟨rfl, hb1⟩
end Go.Proofs.YtmfhepjmmpnkaaaDoor
