/-
  What the rows' list gives: the program's two tables lie in their blocks. And the pieces that every card of this seat asks.
-/
import Derived.Test.YtmfhepjmmpnkaaaDoorLift
import Derived.Test.YtmfhepjmmpnkaaaDoorCards
import Derived.Test.YtmfhepjmmpnkaaaDoorTie
import Derived.WalkKit
import Derived.Deep.DeepHandedRow
set_option linter.unusedSimpArgs false
set_option linter.unusedVariables false
set_option linter.constructorNameAsVariable false
set_option maxRecDepth 100000
namespace Go.Proofs.YtmfhepjmmpnkaaaDoor
open Go.ChangeShapes Go.WideShapes Go.ChangeAt Go.RowKit Go.Deep Go.WideElems

theorem own_knob : ownKnob Tryd.prog.godebug = none := by kernel_rfl
theorem laid_out : laidOutB Tryd.prog = true := by kernel_rfl
def pairData {H : Type} (x : Int × Int) : DataW H := .agg [.lit (.int .i32 x.1), .lit (.int .i32 x.2)]
theorem cells_pair : Tryd.prog.cellsOf 106 = 2 := by kernel_rfl
section
variable {H : Type} {enc : TypeId × Value → H} {w : World} {base : Nat} {sp : Nat → Bool} {hd : Bool} {fuel : Nat} {cs : List Value}
theorem num_lit {t : TypeId} {c : Value} {n : Int} {p : List MemPlace} (ht : Tryd.prog.underlying t = some (.int .i32)) (h : DataW.trod enc Tryd.prog w base sp hd fuel t [c] = some (.lit (.int .i32 n), p)) : c = .int .i32 n := by
  obtain ⟨m, hm, hx, _⟩ := DataW.trod_int ht h
  simp only [Prod.mk.injEq, DataW.lit.injEq, Lit.int.injEq, true_and] at hx
  simp only [List.cons.injEq, and_true] at hm
  rw [hm, hx.1]
theorem trod_pair {x : Int × Int} {p : List MemPlace} (h : DataW.trod enc Tryd.prog w base sp hd fuel 106 cs = some (pairData x, p)) : cs = [.int .i32 x.1, .int .i32 x.2] := by
  obtain ⟨xs, n, _, hx, hlen, hxl, hf⟩ := DataW.trod_array Tryd.underlying106 h
  rw [cells_pair] at hlen
  match cs, hlen, xs, hxl, hf, hx with
  | [c0, c1], _, [y0, y1], _, hf, hx =>
    have h0 := hf 0 (by omega)
    have h1 := hf 1 (by omega)
    simp only [cells_i32, Nat.zero_mul, Nat.one_mul, List.drop_zero, List.drop_succ_cons, List.take_succ_cons, List.take_zero, List.getElem?_cons_zero, List.getElem?_cons_succ] at h0 h1
    simp only [pairData, List.map_cons, List.map_nil, Prod.mk.injEq, DataW.agg.injEq, List.cons.injEq, and_true] at hx
    obtain ⟨y0a, y0b⟩ := y0
    obtain ⟨y1a, y1b⟩ := y1
    obtain ⟨⟨e0, e1⟩, _⟩ := hx
    simp only at e0 e1
    subst e0 e1
    rw [num_lit Tryd.underlying21 h0, num_lit Tryd.underlying21 h1]
theorem trod_table {t : TypeId} {tab : List (Int × Int)} {p : List MemPlace} (ht : Tryd.prog.underlying t = some (.array tab.length 106)) (h : DataW.trod enc Tryd.prog w base sp hd fuel t cs = some (.agg (tab.map pairData), p)) :
    ∀ k, k < tab.length → cs[k * 2]? = some (.int .i32 (loOf tab k)) ∧ cs[k * 2 + 1]? = some (.int .i32 (hiOf tab k)) := by
  obtain ⟨xs, n, _, hx, hlen, hxl, hf⟩ := DataW.trod_array ht h
  intro k hk
  have hkf := hf k hk
  rw [cells_pair] at hkf
  have hk2 : k < xs.length := by omega
  rw [List.getElem?_eq_getElem hk2] at hkf
  simp only [Prod.mk.injEq, DataW.agg.injEq] at hx
  have he : xs[k].1 = pairData tab[k] := by
    have := congrArg (fun l => l[k]?) hx.1
    simp only [List.getElem?_map, List.getElem?_eq_getElem hk, List.getElem?_eq_getElem hk2, Option.map_some, Option.some.injEq] at this
    exact this.symm
  have hp := trod_pair (x := tab[k]) (p := xs[k].2) (by rw [hkf, ← he])
  have g0 := congrArg (fun l => l[0]?) hp
  have g1 := congrArg (fun l => l[1]?) hp
  simp only [List.getElem?_take, List.getElem?_drop, List.getElem?_cons_zero, List.getElem?_cons_succ, Nat.add_zero] at g0 g1
  simp only [loOf, hiOf, List.getD_eq_getElem?_getD, List.getElem?_eq_getElem hk, Option.getD_some]
  exact ⟨by simpa using g0, by simpa using g1⟩
end
theorem pairs_of {W : World} {name : String} {g : Nat} {t : TypeId} {tab : List (Int × Int)} {cs : Array Value} {fuel : Nat} {p : List MemPlace} {base : Nat} {sp : Nat → Bool} {hd : Bool} {H : Type} {enc : TypeId × Value → H} (hg : Tryd.prog.globalNamed name = some g) (ht : Tryd.prog.underlying t = some (.array tab.length 106))
    (hv : W.var? Tryd.prog name = some cs) (h : DataW.trod enc Tryd.prog W base sp hd fuel t cs.toList = some (.agg (tab.map pairData), p)) (hn : 0 < tab.length) : Pairs W g tab.length (loOf tab) (hiOf tab) := by
  have hc := World.var?_cell hg hv
  have htb := trod_table ht h
  refine ⟨?_, fun k hk => ?_⟩
  · have := (htb 0 hn).1
    have h0 := hc 0
    simp only [Nat.zero_mul, Array.getElem?_toList] at this
    rw [this] at h0
    exact block_lt_of_cell h0
  · obtain ⟨h1, h2⟩ := htb k hk
    rw [hc, hc]
    exact ⟨by simpa using h1, by simpa using h2⟩
theorem tabs_of {W : World} (h : laidMetH Tryd.prog Rows.cellOfRow.laid W) : Tabs W := by
  have h' : laidMet Tryd.prog Rows.cellOfRow.laid W := h
  obtain ⟨ps, ⟨g, t, cs, fuel, p, q, hg, ht, hv, hd, ⟨g2, t2, cs2, fuel2, p2, q2, hg2, ht2, hv2, hd2, _⟩, _⟩, _⟩ := h'
  have e1 : Tryd.prog.globalNamed "scrollback/width.marks" = some 0 := by kernel_rfl
  have e2 : Tryd.prog.globalNamed "scrollback/width.wide" = some 1 := by kernel_rfl
  obtain rfl := Option.some.inj (e1.symm.trans hg)
  obtain rfl := Option.some.inj (e2.symm.trans hg2)
  have f1 : (Tryd.prog.globals[0]?).map (·.type) = some 107 := by kernel_rfl
  have f2 : (Tryd.prog.globals[1]?).map (·.type) = some 108 := by kernel_rfl
  obtain rfl := Option.some.inj (f1.symm.trans ht)
  obtain rfl := Option.some.inj (f2.symm.trans ht2)
  exact ⟨pairs_of (tab := marksTab) e1 Tryd.underlying107 hv hd (by decide), pairs_of (tab := wideTab) e2 Tryd.underlying108 hv2 hd2 (by decide)⟩
/-- A world for the witnesses: the tables hold what their initialisers lay. -/
def setTab (n : Nat) (tab : List (Int × Int)) (h : Array Obj) : Array Obj := h.modify n fun
  | .cells _ t frozen => .cells (tab.flatMap fun x => [Value.int .i32 x.1, Value.int .i32 x.2]).toArray t frozen
  | o => o
noncomputable def laidWorld (os : Os) : World :=
  { World.holding Tryd.prog os ⟨#[], #[], []⟩ with heap := setTab 1 wideTab (setTab 0 marksTab (World.holding Tryd.prog os ⟨#[], #[], []⟩).heap) }
end Go.Proofs.YtmfhepjmmpnkaaaDoor
