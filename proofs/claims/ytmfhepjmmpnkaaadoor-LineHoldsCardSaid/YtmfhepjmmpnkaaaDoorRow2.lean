/-
  The reference's Row: whether cells are a row, cell by cell and pair by pair.
-/
import Derived.Test.YtmfhepjmmpnkaaaDoorRow
set_option linter.unusedSimpArgs false
set_option linter.unusedVariables false
namespace Go.Proofs.YtmfhepjmmpnkaaaDoor
open Go.RowKit

theorem ok_width {c : Cell} (h : c.ok = true) : c.width = 0 ∨ c.width = 1 ∨ c.width = 2 := by
  have hc := wOf_cases c.rune
  unfold Cell.ok at h
  by_cases hr : c.rune = 0
  · simp [hr] at h; omega
  · simp [hr] at h; omega
theorem ok_pen {c : Cell} (h : c.ok = true) : c.pen.ok = true := by
  unfold Cell.ok at h
  simp only [Bool.and_eq_true] at h; exact h.1
theorem ok_spacer {p : Pen} (h : p.ok = true) : (spacer p).ok = true := by simp [Cell.ok, spacer, h, Cell.noMarks]
theorem ok_blank {p : Pen} : (blank p).ok = p.ok := by simp [Cell.ok, blank, Cell.noMarks]
theorem ok_zero {c : Cell} (h : c.ok = true) (hw : c.width = 0) : c = spacer c.pen := by
  unfold Cell.ok at h
  by_cases hr : c.rune = 0
  · simp [hr, Cell.noMarks] at h
    obtain ⟨_, _, h1, h2, h3⟩ := h
    cases c
    simp_all [spacer]
  · simp [hr] at h; omega
theorem rowAt_spacer {cs : List Cell} {k : Nat} (h1 : (cAt cs k).width = 2) (hp : (cAt cs k).pen.ok = true) (h2 : cAt cs (k + 1) = spacer (cAt cs k).pen) : rowAt cs (k + 1) = true := by
  simp [rowAt, behindAt, h1, h2, ok_spacer hp]
  simp [spacer]
theorem rowAt_noSpacer {cs : List Cell} {k : Nat} (h1 : (cAt cs k).width = 2) (h2 : ¬ cAt cs (k + 1) = spacer (cAt cs k).pen) : rowAt cs (k + 1) = false := by
  rw [Bool.eq_false_iff]
  intro h
  simp only [rowAt, behindAt, h1, decide_true, Bool.and_eq_true, beq_iff_eq, decide_eq_true_eq, Bool.or_eq_true, Nat.add_sub_cancel] at h
  obtain ⟨⟨⟨ho, hw⟩, hp⟩, _⟩ := h
  have hp' : (cAt cs (k + 1)).pen = (cAt cs k).pen := by simpa using hp
  exact h2 (by rw [← hp']; exact ok_zero ho hw)
theorem rowAt_one {cs : List Cell} {k : Nat} (ho : (cAt cs k).ok = true) (hb : behindAt cs k = false) (hw : (cAt cs k).width = 1) : rowAt cs k = true := by simp [rowAt, ho, hb, hw]
theorem rowAt_two {cs : List Cell} {k : Nat} (ho : (cAt cs k).ok = true) (hb : behindAt cs k = false) (hw : (cAt cs k).width = 2) : rowAt cs k = !decide (k + 1 = cs.length) := by simp [rowAt, ho, hb, hw]
theorem rowAt_bad {cs : List Cell} {k : Nat} (ho : (cAt cs k).ok = false) : rowAt cs k = false := by simp [rowAt, ho]
theorem rowAt_zero {cs : List Cell} {k : Nat} (hb : behindAt cs k = false) (hw : (cAt cs k).width = 0) : rowAt cs k = false := by simp [rowAt, hb, hw]

set_option maxRecDepth 100000 in
set_option maxHeartbeats 4000000 in
theorem r04Row_any (A : Option Addr) (c : Nat) (cs : List Cell) (w : World) (ha : RdC w A c cs) (hn : cs.length ≤ 1000000) :
    Calls Tryd.prog 23 #[.slice A cs.length c] w fun e w' => e = .returned (.bool (rowOk cs)) ∧ Below w.heap.size w w' := by
  have HA := Lib.hid ha
  clear ha
  go_enter Tryd.func23, Tryd.ntmps23
  go_wp2_with fail
  go_loopw [3] (fun i wr => ∃ k : Nat, k ≤ cs.length ∧ i = .int .i64 k ∧ (∀ j, j < k → rowAt cs j = true) ∧ behindAt cs k = false ∧ Below w.heap.size w wr) (fun i _ => cs.length - (intOf i).toNat)
  case atStart => exact ⟨0, by omega, rfl, (fun j hj => by omega), rfl, Below.refl _ _⟩
  case round =>
    obtain ⟨k, hk, rfl, hj, hbe, hb⟩ := hrel
    have HJ := Lib.hid hj
    have HW := Lib.hid hb
    have HBE := Lib.hid hbe
    clear hj hb hbe
    by_cases hlt : k < cs.length
    case neg =>
      have HE := Lib.hid (rowOk_yes (fun j hj => HJ.out j (by omega)))
      go_wp2_with fail
      go_ret
      exact ⟨by rw [HE.out]; rfl, HW.out⟩
    have HX := Lib.hid (cAt_eq hlt)
    obtain ⟨b1, o1, rfl, hz1, hr1⟩ := (HA.out.bel HW.out).at_ hlt
    have HR := Lib.hid hr1
    have hc1 := elem_cell hr1 hlt
    clear hr1
    cases hv : cs[k].ok
    · have HV := Lib.hid hv
      have HE := Lib.hid (rowOk_no hlt (rowAt_bad (by rw [HX.out]; exact hv)))
      clear hv
      go_wp2_with fail
      refine (r04valid_no HV.out _).mono ?_
      rintro e w2 ⟨rfl, hb2⟩
      go_wp2_with fail
      go_ret
      exact ⟨by rw [HE.out]; rfl, HW.out.trans (hb2.mono HW.out.size)⟩
    have HV := Lib.hid hv
    clear hv
    go_wp2_with fail
    refine (r04valid_yes HV.out _).mono ?_
    rintro e w2 ⟨rfl, hb2⟩
    have HR := Lib.hid ((rangeAt_same (fun i => hb2.cell (p := ⟨b1, i, none⟩) hz1)).2 HR.out)
    have hz2 : b1 < w2.heap.size := by have := hb2.size; omega
    have HW := Lib.hid (HW.out.trans (hb2.mono HW.out.size))
    have hcw := elem_width HR.out hlt
    have hcp := elem_pen HR.out hlt
    clear hb2 hc1 hz1
    by_cases h0 : cs[k].width = 0
    · have h0' := beq_yes h0
      have HE := Lib.hid (rowOk_no hlt (rowAt_zero HBE.out (by rw [HX.out]; exact h0)))
      clear h0
      go_wp2_with fail
      go_ret
      exact ⟨by rw [HE.out]; rfl, HW.out⟩
    have h0' := beq_no h0
    by_cases h1 : cs[k].width = 1
    · have h1' := beq_yes h1
      have HO := Lib.hid (rowAt_one (by rw [HX.out]; exact HV.out) HBE.out (by rw [HX.out]; exact h1))
      have HB2 := Lib.hid (show behindAt cs (k + 1) = false by simp [behindAt, HX.out, h1])
      clear h0 h1
      go_wp2_with fail
      go_roundw
      case rel => exact ⟨k + 1, by omega, by go_num, upto_succ HJ.out HO.out, HB2.out, HW.out⟩
      case measure => simp [intOf]; omega
    have h1' := beq_no h1
    have H2 := Lib.hid (show cs[k].width = 2 by have := ok_width HV.out; omega)
    have HO := Lib.hid (rowAt_two (by rw [HX.out]; exact HV.out) HBE.out (by rw [HX.out]; exact H2.out))
    clear h0 h1
    by_cases hla : k + 1 < cs.length
    case neg =>
      have hla' : decide ((cs.length : Int) ≤ (k : Int) + 1) = true := by simp; omega
      have HE := Lib.hid (rowOk_no hlt (by rw [HO.out]; simp; omega))
      go_wp2_with fail
      refine wp_region_below (by kernel_rfl) (by kernel_rfl) ?_
      repeat (go_big_quiet_step (fail))
      refine wpQuiet_nil ?_
      intro w3 hb3
      go_wp2_with fail
      go_ret
      exact ⟨by rw [HE.out]; rfl, HW.out.trans (hb3.mono HW.out.size)⟩
    have hla' : decide ((cs.length : Int) ≤ (k : Int) + 1) = false := by simp; omega
    have hla1 : (0 : Int) ≤ (k : Int) + 1 := by omega
    have hla2 : (k : Int) + 1 < (cs.length : Int) := by omega
    have hla3 : IntKind.i64.wrap ((k : Int) + 1) = (k : Int) + 1 := IntWalk.i64_in _ (by omega)
    have hla4 : ((k : Int) + 1).toNat = k + 1 := by omega
    have HX1 := Lib.hid (cAt_eq hla)
    have hc2 := elem_cell HR.out hla
    by_cases he : cs[k + 1] = ⟨0, 0, 0, 0, 0, cs[k].pen⟩
    · have he' : decide (cs[k + 1] = ⟨0, 0, 0, 0, 0, cs[k].pen⟩) = true := by simpa using he
      have HO2 := Lib.hid (rowAt_spacer (cs := cs) (k := k) (by rw [HX.out]; exact H2.out) (by rw [HX.out]; exact ok_pen HV.out) (by rw [HX.out, HX1.out]; exact he))
      have HB2 := Lib.hid (show behindAt cs (k + 1 + 1) = false by simp [behindAt, HX1.out, he])
      clear he
      go_wp2_with fail
      refine wp_region_below (by kernel_rfl) (by kernel_rfl) ?_
      repeat (go_big_quiet_step (fail))
      refine wpQuiet_nil ?_
      intro w3 hb3
      clear hla3 hla4
      go_wp2_with fail
      go_roundw
      case rel => exact ⟨k + 1 + 1, by omega, by go_num, upto_succ (upto_succ HJ.out (by rw [HO.out]; simp; omega)) HO2.out, HB2.out, HW.out.trans (hb3.mono HW.out.size)⟩
      case measure => simp [intOf]; omega
    · have he' : decide (cs[k + 1] = ⟨0, 0, 0, 0, 0, cs[k].pen⟩) = false := by simpa using he
      have HE := Lib.hid (rowOk_no hla (rowAt_noSpacer (cs := cs) (k := k) (by rw [HX.out]; exact H2.out) (by rw [HX.out, HX1.out]; exact he)))
      clear he
      go_wp2_with fail
      refine wp_region_below (by kernel_rfl) (by kernel_rfl) ?_
      repeat (go_big_quiet_step (fail))
      refine wpQuiet_nil ?_
      intro w3 hb3
      clear hla3 hla4
      go_wp2_with fail
      go_ret
      exact ⟨by rw [HE.out]; rfl, HW.out.trans (hb3.mono HW.out.size)⟩
end Go.Proofs.YtmfhepjmmpnkaaaDoor
