/-
  The law's does of the chapter on regions.
-/
import Derived.Test.YtghahanpmcpacaaDoorD19aZ
import Derived.Test.YtghahanpmcpacaaDoorD19bZ
import Derived.Test.YtghahanpmcpacaaDoorD19cZ
import Derived.Test.YtghahanpmcpacaaDoorD19dZ
set_option linter.unusedSimpArgs false
set_option linter.unusedVariables false
namespace Go.Proofs.YtghahanpmcpacaaDoor
open Go.RowKit

section
variable {w0 w : World} {os : List Ob} {p x cols : Nat} {L : List Ln}
theorem l19does_any (a : Act19) (hT : Tabs w0) (hS : Objs w0 w (.grid p 37 cols L :: .grid x 63 cols L :: os)) (hc : 0 < cols) (hcm : cols ≤ 1000) (hR : Rect cols L) (hL : 0 < L.length) (hLm : L.length ≤ 1000) (hn : -9223372036854775808 ≤ a.n ∧ a.n ≤ 9223372036854775807) :
    Calls Tryd.prog 26 #[.pointer (some ⟨p, 0, none⟩), .pointer (some ⟨x, 0, none⟩), .agg (av19 a)] w fun e w' => e = .returned (.bool true) ∧ Objs w0 w' (.grid p 37 cols (act19N a cols L) :: .grid x 63 cols (act19N a cols L) :: os) := by
  obtain ⟨wh, n, top, bot, row, col, pend, q⟩ := a
  by_cases h0 : wh = 0
  · subst h0; exact l19does0 hT hS hc hcm hR hL hLm hn.1 hn.2
  by_cases h1 : wh = 1
  · subst h1; exact l19does1 hT hS hc hcm hR hL hLm hn.1 hn.2
  by_cases h2 : wh = 2
  · subst h2; exact l19does2 hT hS hc hcm hR hL hLm hn.1 hn.2
  exact l19does3 hT hS hc hcm hR hL hLm hn.1 hn.2 (beq_no h0) (beq_no h1) (beq_no h2)
end
end Go.Proofs.YtghahanpmcpacaaDoor
