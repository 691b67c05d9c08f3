/-
  What a line among the arguments looks like.
-/
import Derived.Test.YtmfhepjmmpnkaaaDoorLift
set_option linter.unusedSimpArgs false
set_option linter.unusedVariables false
set_option linter.constructorNameAsVariable false
set_option maxRecDepth 100000
namespace Go.Proofs.YtmfhepjmmpnkaaaDoor
open Go.ChangeShapes Go.WideShapes Go.ChangeAt Go.RowKit Go.Deep Go.WideElems

section
variable {H : Type} {enc : TypeId × Value → H}
theorem cells_line : Tryd.prog.cellsOf 59 = 2 := by kernel_rfl
theorem cells_slice : Tryd.prog.cellsOf 43 = 1 := by kernel_rfl
theorem cells_bool : Tryd.prog.cellsOf 4 = 1 := by kernel_rfl
theorem trod_line {w : World} {fuel : Nat} {cs : List Value} {x : DataW H × List MemPlace} {hd : Bool} (h : DataW.trod enc Tryd.prog w 0 (fun _ => true) hd fuel 59 cs = some x) : ∃ A c l s, cs = [.slice A l.length c, .bool s] ∧ RdC w A c l ∧ c ≤ maxLen := by
  obtain ⟨xs, n, _, _, hlen, hxl, hf⟩ := DataW.trod_struct Tryd.underlying59 h
  rw [cells_line] at hlen
  match cs, hlen, hf with
  | [c0, c1], _, hf =>
    have h0 : DataW.trod enc Tryd.prog w 0 (fun _ => true) hd n 43 (([c0, c1].drop 0).take (Tryd.prog.cellsOf 43)) = xs[0]? := hf 0 _ rfl
    have h1 : DataW.trod enc Tryd.prog w 0 (fun _ => true) hd n 4 (([c0, c1].drop 1).take (Tryd.prog.cellsOf 4)) = xs[1]? := hf 1 _ rfl
    obtain ⟨z0, e0⟩ := some_of (show (xs[0]?).isSome = true by simp [hxl])
    obtain ⟨z1, e1⟩ := some_of (show (xs[1]?).isSome = true by simp [hxl])
    simp only [cells_slice, cells_bool, List.drop_zero, List.drop_succ_cons, List.take_succ_cons, List.take_zero] at h0 h1
    obtain ⟨A, c, l, he, hr, hm⟩ := trod_cells (h0.trans e0)
    obtain ⟨b, hb, _⟩ := DataW.trod_bool Tryd.underlying4 (h1.trans e1)
    simp only [List.cons.injEq, and_true] at he hb
    subst he
    subst hb
    exact ⟨A, c, l, b, rfl, hr, hm⟩
theorem open_line {v : Value} {w : World} {r : Reach} {b0 : Nat} {hd : Bool} {d : DataW H} {p : List MemPlace} (hv : Value.okWide Tryd.prog w r b0 59 v) (h : DataW.Trod enc Tryd.prog w 0 (fun _ => true) hd 59 v d p) : ∃ A c l s, v = .agg #[.slice A l.length c, .bool s] ∧ RdC w A c l ∧ c ≤ maxLen := by
  obtain ⟨cs, rfl, _⟩ := okWide_struct Tryd.underlying59 hv
  obtain ⟨fuel, hf⟩ := h
  obtain ⟨A, c, l, s, he, hr⟩ := trod_line hf
  exact ⟨A, c, l, s, by rw [show cs = #[.slice A l.length c, .bool s] from by simpa [Value.cells] using congrArg List.toArray he], hr⟩
end
end Go.Proofs.YtmfhepjmmpnkaaaDoor
