/-
  The reference's Stain: it changes cells of a slice, and nothing else.
-/
import Derived.Test.YtmfhepjmmpnkaaaDoorOf
set_option linter.unusedSimpArgs false
set_option linter.unusedVariables false
namespace Go.Proofs.YtmfhepjmmpnkaaaDoor
open Go.RowKit

theorem flat_set1 (cs : List Cell) (k j : Nat) (u : Value) (d : Cell) (hk : k < cs.length) (hj : j < 16) (hd : (cv cs[k]).setIfInBounds j u = cv d) : (flat cs).set (k * 16 + j) u = flat (cs.set k d) := by
  induction cs generalizing k with
  | nil => simp at hk
  | cons c r ih =>
    cases k with
    | zero =>
      simp at hd
      rw [flat_cons, List.set_cons_zero, flat_cons, ← hd, List.set_append_left _ _ (by simp [cv_size]; omega)]
      simp
    | succ k =>
      rw [flat_cons, List.set_cons_succ, flat_cons, List.set_append_right _ _ (by simp [cv_size]; omega)]
      simp only [Array.length_toList, cv_size]
      rw [show (k + 1) * 16 + j - 16 = k * 16 + j by omega, ih k (by simpa using hk) (by simpa using hd)]
theorem OwnC.setAt {w : World} {B g n cap : Nat} {cs : List Cell} (h : OwnC w B (.slice (some ⟨g, 0, none⟩) n cap) cs) {k j : Nat} (hk : k < cs.length) (hj : j < 16) {u : Value} {d : Cell} (hd : (cv cs[k]).setIfInBounds j u = cv d) :
    OwnC (w.setCell ⟨g, k * 16 + j, none⟩ u) B (.slice (some ⟨g, 0, none⟩) n cap) (cs.set k d) ∧ w.grownBy (w.setCell ⟨g, k * 16 + j, none⟩ u) (some g) := by
  obtain ⟨_, _, rfl, _⟩ := h.head (by omega)
  obtain ⟨h1, h2⟩ := World.ownsRow.stored h (k * 16 + j) u
  refine ⟨?_, h2⟩
  unfold OwnC
  rw [← flat_set1 cs k j u d hk hj hd]
  simpa using h1
theorem OwnC.free {w : World} {B g n cap : Nat} {cs : List Cell} (h : OwnC w B (.slice (some ⟨g, 0, none⟩) n cap) cs) (i : Nat) : w.frozen? ⟨g, i, none⟩ = false := by
  rcases h.2 with ⟨h', _⟩ | ⟨g', cap', cur, h', hb, hg, _⟩
  · simp at h'
  · simp only [Value.slice.injEq, Option.some.injEq, Addr.mk.injEq, and_true, true_and] at h'
    obtain ⟨rfl, -, rfl⟩ := h'
    exact Blk.frozen (t := 30) hg i

/-- Only the slice's own block has turned. -/
def OnlyEnd (w : World) (row : Option Nat) (e : Ending) (w' : World) : Prop := e = .returned (.tuple #[]) ∧ w.grownBy w' row

set_option maxHeartbeats 1000000 in
theorem r04Stain_any (B : Nat) (A : Option Addr) (c : Nat) (cs : List Cell) (w : World) (ho : OwnC w B (.slice A cs.length c) cs) (hn : cs.length ≤ 1000000) :
    Calls Tryd.prog 29 #[.slice A cs.length c] w (OnlyEnd w (A.map (·.block))) := by
  have HO := Lib.hid ho
  clear ho
  go_enter Tryd.func29, Tryd.ntmps29
  go_wp2_with fail
  go_loopw [2] (fun i wr => ∃ k : Nat, k ≤ cs.length ∧ i = .int .i64 k ∧ (∃ ds : List Cell, ds.length = cs.length ∧ OwnC wr B (.slice A cs.length c) ds) ∧ w.grownBy wr (A.map (·.block))) (fun i _ => cs.length - (intOf i).toNat)
  case atStart => exact ⟨0, by omega, rfl, ⟨cs, rfl, HO.out⟩, World.grownBy.refl _ _⟩
  case round =>
    obtain ⟨k, hk, rfl, ⟨ds, hl, ho⟩, hg⟩ := hrel
    have HL := Lib.hid hl
    have HD := Lib.hid ho
    have HG := Lib.hid hg
    clear hl ho hg
    by_cases hlt : k < cs.length
    · have hlt2 : k < ds.length := by rw [HL.out]; exact hlt
      obtain ⟨g, rfl, -, hgB, hgz, hr⟩ := HD.out.head (by omega)
      have hfr := HD.out.free
      have hru := elem_rune hr hlt2
      have hwd := elem_width hr hlt2
      rw [Nat.zero_add] at hru hwd
      go_wp2_with fail
      go_roundw
      case rel =>
        obtain ⟨h1, h2⟩ := HD.out.setAt hlt2 (j := 0) (by omega) (cv_set0 ds[k] (wrap32 (ds[k].rune + 1)))
        have hlt3 : k < (ds.set k { ds[k] with rune := wrap32 (ds[k].rune + 1) }).length := by simpa using hlt2
        obtain ⟨h3, h4⟩ := h1.setAt hlt3 (j := 4) (by omega) (cv_set4 _ (wrap64 (ds[k].width + 1)))
        exact ⟨k + 1, by omega, by go_num, ⟨_, by simp [HL.out], h3⟩, (HG.out.trans h2).trans h4⟩
      case measure => simp [intOf]; omega
    · go_wp2_with fail
      go_end0
      exact ⟨rfl, HG.out⟩
end Go.Proofs.YtmfhepjmmpnkaaaDoor
