/-
  cell.Of; the reference's Stain.
-/
import Derived.Test.YtmfhepjmmpnkaaaDoorFix2
import Derived.Test.YtmfhepjmmpnkaaaDoorSame
set_option linter.unusedSimpArgs false
set_option linter.unusedVariables false
namespace Go.Proofs.YtmfhepjmmpnkaaaDoor
open Go.RowKit

def ofCells (r : Int) (p : Pen) : List Cell × Int := if wOf r < 1 ∨ p.ok = false then ([], 2) else if wOf r = 2 then ([⟨r, 0, 0, 0, 2, p⟩, spacer p], 0) else ([⟨r, 0, 0, 0, 1, p⟩], 0)
/-- What gives a slice of cells of its own, and an error. -/
def CellsEnd (l : List Cell) (n : Int) (w : World) (e : Ending) (w' : World) : Prop := ∃ v, e = .returned (.tuple #[v, .int .i64 n]) ∧ OwnC w' w.heap.size v l ∧ Below w.heap.size w w'

set_option maxHeartbeats 1000000 in
theorem cellOf_any (r : Int) (p : Pen) (w : World) (ht : Tabs w) : Calls Tryd.prog 30 #[.int .i32 r, .agg (pv p)] w (CellsEnd (ofCells r p).1 (ofCells r p).2 w) := by
  have HT := Lib.hid (ht.bel ((Below.refl _ _).alloc (Nat.le_refl _) (.cells (pv p) 27)))
  clear ht
  by_cases h1 : wOf r < 1
  · have HO := Lib.hid (show ofCells r p = ([], 2) by simp [ofCells, h1])
    go_enter Tryd.func30, Tryd.ntmps30
    go_wp2_with fail
    refine (widthOf_any _ _ HT.out).mono ?_
    rintro e w1 ⟨rfl, hb⟩
    obtain ⟨hk, hb1⟩ := box_call hb (by simp)
    clear hb
    go_wp2_with fail
    go_ret2
    exact ⟨_, by rw [HO.out]; rfl, by rw [HO.out]; exact OwnC.nil _ _, hb1⟩
  cases hp : p.ok
  · have HP := Lib.hid hp
    have HO := Lib.hid (show ofCells r p = ([], 2) by simp [ofCells, hp])
    clear hp
    go_enter Tryd.func30, Tryd.ntmps30
    go_wp2_with fail
    refine (widthOf_any _ _ HT.out).mono ?_
    rintro e w1 ⟨rfl, hb⟩
    obtain ⟨hk, hb1⟩ := box_call hb (by simp)
    obtain ⟨hx, hf, hz, hpa⟩ := hk.pbox
    clear hb hk
    go_wp2_with fail
    refine (penv_no _ HP.out).mono ?_
    rintro e w2 ⟨rfl, hb2⟩
    go_wp2_with fail
    go_ret2
    exact ⟨_, by rw [HO.out]; rfl, by rw [HO.out]; exact OwnC.nil _ _, hb1.trans (hb2.mono hb1.size)⟩
  have HP := Lib.hid hp
  by_cases h2 : wOf r = 2
  · have HO := Lib.hid (show ofCells r p = ([⟨r, 0, 0, 0, 2, p⟩, spacer p], 0) by simp [ofCells, hp, h2])
    have H2 := Lib.hid h2
    clear hp h1 h2
    go_enter Tryd.func30, Tryd.ntmps30
    go_wp2_with fail
    refine (width_is H2.out _ HT.out).mono ?_
    rintro e w1 ⟨rfl, hb⟩
    obtain ⟨hk, hb1⟩ := box_call hb (by simp)
    have HK := Lib.hid hk
    obtain ⟨hx, hf, hz, hpa⟩ := hk.pbox
    clear hb hk
    go_wp2_with fail
    refine (penv_yes _ HP.out).mono ?_
    rintro e w2 ⟨rfl, hb2⟩
    have HB := Lib.hid (hb1.trans (hb2.mono hb1.size))
    have HK := Lib.hid (HK.out.bel hb2)
    clear hx hf hz hpa hb1 hb2
    obtain ⟨hx, hf, hz, hpa⟩ := HK.out.pbox
    go_wp2_with fail
    refine (cellSpacer_any _ _).mono ?_
    rintro e w3 ⟨rfl, hb3⟩
    have HO3 := Lib.hid ((OwnC.one (B := w.heap.size) w2 ⟨r, 0, 0, 0, 2, p⟩ HB.out.size).bel hb3)
    have HB3 := Lib.hid ((HB.out.alloc HB.out.size _).trans (hb3.mono (by have := HB.out.size; simp; omega)))
    have hz3 := HB3.out.size
    clear hb3 hx hf hz hpa
    go_wp2_with (at_builtin; (refine wpList_appC rfl _ _ rfl w.heap.size _ _ rfl (HO3.out.alloc _) _ 1 [spacer p] rfl (RdC.one _ _) (by simp) (by simp; omega) ?_); intro v1 w4 hown1 hg1 hat1; have HO4 := Lib.hid hown1; have HB4 := Lib.hid ((HB3.out.alloc HB3.out.size _).grown hg1 (by simp; omega) (fun q hq => (World.ownsRow.lt HO3.out q hq).1)); clear hown1 hg1 hat1)
    go_ret2
    exact ⟨_, by rw [HO.out]; rfl, by rw [HO.out]; exact HO4.out, HB4.out⟩
  · have H1 := Lib.hid (show wOf r = 1 by have := wOf_cases r; omega)
    have HO := Lib.hid (show ofCells r p = ([⟨r, 0, 0, 0, 1, p⟩], 0) by simp [ofCells, hp, H1.out])
    clear hp h1 h2
    go_enter Tryd.func30, Tryd.ntmps30
    go_wp2_with fail
    refine (width_is H1.out _ HT.out).mono ?_
    rintro e w1 ⟨rfl, hb⟩
    obtain ⟨hk, hb1⟩ := box_call hb (by simp)
    have HK := Lib.hid hk
    obtain ⟨hx, hf, hz, hpa⟩ := hk.pbox
    clear hb hk
    go_wp2_with fail
    refine (penv_yes _ HP.out).mono ?_
    rintro e w2 ⟨rfl, hb2⟩
    have HB := Lib.hid (hb1.trans (hb2.mono hb1.size))
    have HK := Lib.hid (HK.out.bel hb2)
    clear hx hf hz hpa hb1 hb2
    obtain ⟨hx, hf, hz, hpa⟩ := HK.out.pbox
    go_wp2_with fail
    go_ret2
    exact ⟨_, by rw [HO.out]; rfl, by rw [HO.out]; exact OwnC.one (B := w.heap.size) w2 ⟨r, 0, 0, 0, 1, p⟩ HB.out.size, HB.out.alloc HB.out.size _⟩
end Go.Proofs.YtmfhepjmmpnkaaaDoor
