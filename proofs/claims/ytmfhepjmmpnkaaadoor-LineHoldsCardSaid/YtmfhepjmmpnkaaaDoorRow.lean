/-
  cell.Row: whether cells are a row.
-/
import Derived.Test.YtmfhepjmmpnkaaaDoorSlice
set_option linter.unusedSimpArgs false
set_option linter.unusedVariables false
namespace Go.Proofs.YtmfhepjmmpnkaaaDoor
open Go.RowKit

def cAt (cs : List Cell) (k : Nat) : Cell := cs.getD k cell0
theorem cAt_eq {cs : List Cell} {k : Nat} (h : k < cs.length) : cAt cs k = cs[k] := by simp [cAt, h]
def behindAt (cs : List Cell) : Nat → Bool
  | 0 => false
  | k + 1 => decide ((cAt cs k).width = 2)
/-- Whether the cell at k may stand there. -/
def rowAt (cs : List Cell) (k : Nat) : Bool :=
  (cAt cs k).ok && (decide ((cAt cs k).width = 0) == behindAt cs k) && (!behindAt cs k || decide ((cAt cs k).pen = (cAt cs (k - 1)).pen)) && !(decide ((cAt cs k).width = 2) && decide (k + 1 = cs.length))
def rowOk (cs : List Cell) : Bool := (List.range cs.length).all (rowAt cs)
theorem rowOk_no {cs : List Cell} {k : Nat} (hk : k < cs.length) (h : rowAt cs k = false) : rowOk cs = false := by
  rw [Bool.eq_false_iff]
  intro h1
  have := List.all_eq_true.1 h1 k (by simp [hk])
  rw [h] at this; cases this
theorem rowOk_yes {cs : List Cell} (h : ∀ k, k < cs.length → rowAt cs k = true) : rowOk cs = true :=
  List.all_eq_true.2 fun k hk => h k (by simpa using hk)

set_option maxRecDepth 100000 in
set_option maxHeartbeats 4000000 in
theorem cellRow_any (A : Option Addr) (c : Nat) (cs : List Cell) (w : World) (ht : Tabs w) (ha : RdC w A c cs) (hn : cs.length ≤ 1000000) :
    Calls Tryd.prog 22 #[.slice A cs.length c] w fun e w' => e = .returned (.bool (rowOk cs)) ∧ Below w.heap.size w w' := by
  have HT := Lib.hid ht
  have HA := Lib.hid ha
  clear ht ha
  go_enter Tryd.func22, Tryd.ntmps22
  go_wp2_with fail
  go_loopw [8] (fun i wr => ∃ k : Nat, k ≤ cs.length ∧ i = .int .i64 k ∧ (∀ j, j < k → rowAt cs j = true) ∧ Below w.heap.size w wr) (fun i _ => cs.length - (intOf i).toNat)
  case atStart => exact ⟨0, by omega, rfl, fun j hj => by omega, Below.refl _ _⟩
  case round =>
    obtain ⟨k, hk, rfl, hj, hb⟩ := hrel
    have HJ := Lib.hid hj
    have HW := Lib.hid hb
    clear hj hb
    by_cases hlt : k < cs.length
    case neg =>
      have HE := Lib.hid (rowOk_yes (fun j hj => HJ.out j (by omega)))
      go_wp2_with fail
      go_ret
      exact ⟨by rw [HE.out]; rfl, HW.out⟩
    have HX := Lib.hid (cAt_eq hlt)
    have HTW := Lib.hid (HT.out.bel HW.out)
    cases k with
    | zero =>
      obtain ⟨b1, o1, rfl, hz1, hr1⟩ := (HA.out.bel HW.out).at_ hlt
      have hc1 := elem_cell hr1 hlt
      have hcw := elem_width hr1 hlt
      have hz2 : b1 < wr.heap.size + 1 := by omega
      simp only [Nat.zero_mul, Nat.add_zero] at hc1 hcw
      clear hr1
      have HBE := Lib.hid (show behindAt cs 0 = false from rfl)
      have hlast : decide (0 + 1 = cs.length) = decide ((((0 : Nat) : Int) : Int) = (cs.length : Int) - 1) := by simp; omega
      cases hv : cs[0].ok
      · have HV := Lib.hid hv
        clear hv
        have HO := Lib.hid (show rowAt cs 0 = false by simp [rowAt, HX.out, HV.out, HBE.out, hlast] <;> omega)
        clear HX HBE
        go_wp2_with fail
        refine wp_region_below (by kernel_rfl) (by kernel_rfl) ?_
        repeat (go_big_quiet_step ((go_at_call 32; exact quiet_below (valid_no HV.out _ (HTW.out.bel (((Below.refl _ _).alloc (Nat.le_refl _) _).trans ((below_plus _ _).mono (by simp))))))))
        refine wpQuiet_nil ?_
        intro w2 hb2
        obtain ⟨_, hb3⟩ := box_call hb2 (by simp)
        go_wp2_with fail
        have HE := Lib.hid (rowOk_no hlt HO.out)
        go_ret
        exact ⟨by rw [HE.out]; rfl, HW.out.trans (hb3.mono HW.out.size)⟩
      have HV := Lib.hid hv
      clear hv
      by_cases h0 : cs[0].width = 0
      · have h0' := beq_yes h0
        have H0 := Lib.hid h0
        clear h0
        have HO := Lib.hid (show rowAt cs 0 = false by simp [rowAt, HX.out, HV.out, HBE.out, hlast, H0.out] <;> omega)
        clear HX HBE
        go_wp2_with fail
        refine wp_region_below (by kernel_rfl) (by kernel_rfl) ?_
        repeat (go_big_quiet_step ((go_at_call 32; exact quiet_below (valid_yes HV.out _ (HTW.out.bel (((Below.refl _ _).alloc (Nat.le_refl _) _).trans ((below_plus _ _).mono (by simp))))))))
        refine wpQuiet_nil ?_
        intro w2 hb2
        obtain ⟨_, hb3⟩ := box_call hb2 (by simp)
        go_wp2_with fail
        have HE := Lib.hid (rowOk_no hlt HO.out)
        go_ret
        exact ⟨by rw [HE.out]; rfl, HW.out.trans (hb3.mono HW.out.size)⟩
      have h0' := beq_no h0
      have H0 := Lib.hid h0
      clear h0
      by_cases h2 : cs[0].width = 2
      · have h2' := beq_yes h2
        have H2 := Lib.hid h2
        clear h2
        by_cases hla : ((0 : Nat) : Int) = (cs.length : Int) - 1
        · have hla' : (((0 : Nat) : Int) == (cs.length : Int) - 1) = true := beq_yes hla
          have HLA := Lib.hid hla
          clear hla
          have HO := Lib.hid (show rowAt cs 0 = false by have hla := HLA.out; simp [rowAt, HX.out, HV.out, HBE.out, hlast, H0.out, H2.out, hla] <;> omega)
          clear HX HBE
          go_wp2_with fail
          refine wp_region_below (by kernel_rfl) (by kernel_rfl) ?_
          repeat (go_big_quiet_step ((go_at_call 32; exact quiet_below (valid_yes HV.out _ (HTW.out.bel (((Below.refl _ _).alloc (Nat.le_refl _) _).trans ((below_plus _ _).mono (by simp))))))))
          refine wpQuiet_nil ?_
          intro w2 hb2
          obtain ⟨_, hb3⟩ := box_call hb2 (by simp)
          go_wp2_with fail
          have HE := Lib.hid (rowOk_no hlt HO.out)
          go_ret
          exact ⟨by rw [HE.out]; rfl, HW.out.trans (hb3.mono HW.out.size)⟩
        · have hla' : (((0 : Nat) : Int) == (cs.length : Int) - 1) = false := beq_no hla
          have HLA := Lib.hid hla
          clear hla
          have HO := Lib.hid (show rowAt cs 0 = true by have hla := HLA.out; simp [rowAt, HX.out, HV.out, HBE.out, hlast, H0.out, H2.out, hla] <;> omega)
          clear HX HBE
          go_wp2_with fail
          refine wp_region_below (by kernel_rfl) (by kernel_rfl) ?_
          repeat (go_big_quiet_step ((go_at_call 32; exact quiet_below (valid_yes HV.out _ (HTW.out.bel (((Below.refl _ _).alloc (Nat.le_refl _) _).trans ((below_plus _ _).mono (by simp))))))))
          refine wpQuiet_nil ?_
          intro w2 hb2
          obtain ⟨_, hb3⟩ := box_call hb2 (by simp)
          go_wp2_with fail
          go_roundw
          case rel => exact ⟨0 + 1, by omega, by go_num, upto_succ HJ.out HO.out, HW.out.trans (hb3.mono HW.out.size)⟩
          case measure => simp [intOf]; omega
      have h2' := beq_no h2
      have H2 := Lib.hid h2
      clear h2
      have HO := Lib.hid (show rowAt cs 0 = true by simp [rowAt, HX.out, HV.out, HBE.out, hlast, H0.out, H2.out] <;> omega)
      clear HX HBE
      go_wp2_with fail
      refine wp_region_below (by kernel_rfl) (by kernel_rfl) ?_
      repeat (go_big_quiet_step ((go_at_call 32; exact quiet_below (valid_yes HV.out _ (HTW.out.bel (((Below.refl _ _).alloc (Nat.le_refl _) _).trans ((below_plus _ _).mono (by simp))))))))
      refine wpQuiet_nil ?_
      intro w2 hb2
      obtain ⟨_, hb3⟩ := box_call hb2 (by simp)
      go_wp2_with fail
      go_roundw
      case rel => exact ⟨0 + 1, by omega, by go_num, upto_succ HJ.out HO.out, HW.out.trans (hb3.mono HW.out.size)⟩
      case measure => simp [intOf]; omega
    | succ k =>
      obtain ⟨b1, o1, rfl, hz1, hr1⟩ := (HA.out.bel HW.out).at_ hlt
      have hc1 := elem_cell hr1 hlt
      have hcw := elem_width hr1 hlt
      have hz2 : b1 < wr.heap.size + 1 := by omega
      have hlt1 : k < cs.length := by omega
      have HX1 := Lib.hid (cAt_eq hlt1)
      have hw1 := elem_width hr1 hlt1
      have hp1 := elem_pen hr1 hlt1
      clear hr1
      by_cases hq : cs[k].width = 2
      · have hq' := beq_yes hq
        have HBE := Lib.hid (show behindAt cs (k + 1) = true by simp [behindAt, HX1.out, hq])
        clear hq
        have hlast : decide ((k + 1) + 1 = cs.length) = decide (((((k + 1) : Nat) : Int) : Int) = (cs.length : Int) - 1) := by simp; omega
        cases hv : cs[k + 1].ok
        · have HV := Lib.hid hv
          clear hv
          have HO := Lib.hid (show rowAt cs (k + 1) = false by simp [rowAt, HX.out, HV.out, HBE.out, hlast] <;> omega)
          clear HX HBE
          go_wp2_with fail
          refine wp_region_below (by kernel_rfl) (by kernel_rfl) ?_
          repeat (go_big_quiet_step ((go_at_call 32; exact quiet_below (valid_no HV.out _ (HTW.out.bel (((Below.refl _ _).alloc (Nat.le_refl _) _).trans ((below_plus _ _).mono (by simp))))))))
          refine wpQuiet_nil ?_
          intro w2 hb2
          obtain ⟨_, hb3⟩ := box_call hb2 (by simp)
          go_wp2_with fail
          have HE := Lib.hid (rowOk_no hlt HO.out)
          go_ret
          exact ⟨by rw [HE.out]; rfl, HW.out.trans (hb3.mono HW.out.size)⟩
        have HV := Lib.hid hv
        clear hv
        by_cases h0 : cs[k + 1].width = 0
        · have h0' := beq_yes h0
          have H0 := Lib.hid h0
          clear h0
          have h2' : (cs[k + 1].width == 2) = false := beq_no (by rw [H0.out]; omega)
          by_cases hp : cs[k + 1].pen = cs[k].pen
          · have hp' : decide (cs[k + 1].pen = cs[k].pen) = true := by simpa using hp
            have HP := Lib.hid hp
            clear hp
            have HO := Lib.hid (show rowAt cs (k + 1) = true by simp [rowAt, HX.out, HV.out, HBE.out, hlast, H0.out, HP.out, HX1.out] <;> omega)
            clear HX HBE
            go_wp2_with fail
            refine wp_region_below (by kernel_rfl) (by kernel_rfl) ?_
            repeat (go_big_quiet_step ((go_at_call 32; exact quiet_below (valid_yes HV.out _ (HTW.out.bel (((Below.refl _ _).alloc (Nat.le_refl _) _).trans ((below_plus _ _).mono (by simp))))))))
            refine wpQuiet_nil ?_
            intro w2 hb2
            obtain ⟨_, hb3⟩ := box_call hb2 (by simp)
            go_wp2_with fail
            go_roundw
            case rel => exact ⟨(k + 1) + 1, by omega, by go_num, upto_succ HJ.out HO.out, HW.out.trans (hb3.mono HW.out.size)⟩
            case measure => simp [intOf]; omega
          · have hp' : decide (cs[k + 1].pen = cs[k].pen) = false := by simpa using hp
            have HP := Lib.hid hp
            clear hp
            have HO := Lib.hid (show rowAt cs (k + 1) = false by simp [rowAt, HX.out, HV.out, HBE.out, hlast, H0.out, HP.out, HX1.out] <;> omega)
            clear HX HBE
            go_wp2_with fail
            refine wp_region_below (by kernel_rfl) (by kernel_rfl) ?_
            repeat (go_big_quiet_step ((go_at_call 32; exact quiet_below (valid_yes HV.out _ (HTW.out.bel (((Below.refl _ _).alloc (Nat.le_refl _) _).trans ((below_plus _ _).mono (by simp))))))))
            refine wpQuiet_nil ?_
            intro w2 hb2
            obtain ⟨_, hb3⟩ := box_call hb2 (by simp)
            go_wp2_with fail
            have HE := Lib.hid (rowOk_no hlt HO.out)
            go_ret
            exact ⟨by rw [HE.out]; rfl, HW.out.trans (hb3.mono HW.out.size)⟩
        have h0' := beq_no h0
        have H0 := Lib.hid h0
        clear h0
        have HO := Lib.hid (show rowAt cs (k + 1) = false by simp [rowAt, HX.out, HV.out, HBE.out, hlast, H0.out] <;> omega)
        clear HX HBE
        go_wp2_with fail
        refine wp_region_below (by kernel_rfl) (by kernel_rfl) ?_
        repeat (go_big_quiet_step ((go_at_call 32; exact quiet_below (valid_yes HV.out _ (HTW.out.bel (((Below.refl _ _).alloc (Nat.le_refl _) _).trans ((below_plus _ _).mono (by simp))))))))
        refine wpQuiet_nil ?_
        intro w2 hb2
        obtain ⟨_, hb3⟩ := box_call hb2 (by simp)
        go_wp2_with fail
        have HE := Lib.hid (rowOk_no hlt HO.out)
        go_ret
        exact ⟨by rw [HE.out]; rfl, HW.out.trans (hb3.mono HW.out.size)⟩
      · have hq' := beq_no hq
        have HBE := Lib.hid (show behindAt cs (k + 1) = false by simp [behindAt, HX1.out, hq])
        clear hq
        have hlast : decide ((k + 1) + 1 = cs.length) = decide (((((k + 1) : Nat) : Int) : Int) = (cs.length : Int) - 1) := by simp; omega
        cases hv : cs[k + 1].ok
        · have HV := Lib.hid hv
          clear hv
          have HO := Lib.hid (show rowAt cs (k + 1) = false by simp [rowAt, HX.out, HV.out, HBE.out, hlast] <;> omega)
          clear HX HBE
          go_wp2_with fail
          refine wp_region_below (by kernel_rfl) (by kernel_rfl) ?_
          repeat (go_big_quiet_step ((go_at_call 32; exact quiet_below (valid_no HV.out _ (HTW.out.bel (((Below.refl _ _).alloc (Nat.le_refl _) _).trans ((below_plus _ _).mono (by simp))))))))
          refine wpQuiet_nil ?_
          intro w2 hb2
          obtain ⟨_, hb3⟩ := box_call hb2 (by simp)
          go_wp2_with fail
          have HE := Lib.hid (rowOk_no hlt HO.out)
          go_ret
          exact ⟨by rw [HE.out]; rfl, HW.out.trans (hb3.mono HW.out.size)⟩
        have HV := Lib.hid hv
        clear hv
        by_cases h0 : cs[k + 1].width = 0
        · have h0' := beq_yes h0
          have H0 := Lib.hid h0
          clear h0
          have HO := Lib.hid (show rowAt cs (k + 1) = false by simp [rowAt, HX.out, HV.out, HBE.out, hlast, H0.out] <;> omega)
          clear HX HBE
          go_wp2_with fail
          refine wp_region_below (by kernel_rfl) (by kernel_rfl) ?_
          repeat (go_big_quiet_step ((go_at_call 32; exact quiet_below (valid_yes HV.out _ (HTW.out.bel (((Below.refl _ _).alloc (Nat.le_refl _) _).trans ((below_plus _ _).mono (by simp))))))))
          refine wpQuiet_nil ?_
          intro w2 hb2
          obtain ⟨_, hb3⟩ := box_call hb2 (by simp)
          go_wp2_with fail
          have HE := Lib.hid (rowOk_no hlt HO.out)
          go_ret
          exact ⟨by rw [HE.out]; rfl, HW.out.trans (hb3.mono HW.out.size)⟩
        have h0' := beq_no h0
        have H0 := Lib.hid h0
        clear h0
        by_cases h2 : cs[k + 1].width = 2
        · have h2' := beq_yes h2
          have H2 := Lib.hid h2
          clear h2
          by_cases hla : (((k + 1) : Nat) : Int) = (cs.length : Int) - 1
          · have hla' : ((((k + 1) : Nat) : Int) == (cs.length : Int) - 1) = true := beq_yes hla
            have HLA := Lib.hid hla
            clear hla
            have HO := Lib.hid (show rowAt cs (k + 1) = false by have hla := HLA.out; simp [rowAt, HX.out, HV.out, HBE.out, hlast, H0.out, H2.out, hla] <;> omega)
            clear HX HBE
            go_wp2_with fail
            refine wp_region_below (by kernel_rfl) (by kernel_rfl) ?_
            repeat (go_big_quiet_step ((go_at_call 32; exact quiet_below (valid_yes HV.out _ (HTW.out.bel (((Below.refl _ _).alloc (Nat.le_refl _) _).trans ((below_plus _ _).mono (by simp))))))))
            refine wpQuiet_nil ?_
            intro w2 hb2
            obtain ⟨_, hb3⟩ := box_call hb2 (by simp)
            go_wp2_with fail
            have HE := Lib.hid (rowOk_no hlt HO.out)
            go_ret
            exact ⟨by rw [HE.out]; rfl, HW.out.trans (hb3.mono HW.out.size)⟩
          · have hla' : ((((k + 1) : Nat) : Int) == (cs.length : Int) - 1) = false := beq_no hla
            have HLA := Lib.hid hla
            clear hla
            have HO := Lib.hid (show rowAt cs (k + 1) = true by have hla := HLA.out; simp [rowAt, HX.out, HV.out, HBE.out, hlast, H0.out, H2.out, hla] <;> omega)
            clear HX HBE
            go_wp2_with fail
            refine wp_region_below (by kernel_rfl) (by kernel_rfl) ?_
            repeat (go_big_quiet_step ((go_at_call 32; exact quiet_below (valid_yes HV.out _ (HTW.out.bel (((Below.refl _ _).alloc (Nat.le_refl _) _).trans ((below_plus _ _).mono (by simp))))))))
            refine wpQuiet_nil ?_
            intro w2 hb2
            obtain ⟨_, hb3⟩ := box_call hb2 (by simp)
            go_wp2_with fail
            go_roundw
            case rel => exact ⟨(k + 1) + 1, by omega, by go_num, upto_succ HJ.out HO.out, HW.out.trans (hb3.mono HW.out.size)⟩
            case measure => simp [intOf]; omega
        have h2' := beq_no h2
        have H2 := Lib.hid h2
        clear h2
        have HO := Lib.hid (show rowAt cs (k + 1) = true by simp [rowAt, HX.out, HV.out, HBE.out, hlast, H0.out, H2.out] <;> omega)
        clear HX HBE
        go_wp2_with fail
        refine wp_region_below (by kernel_rfl) (by kernel_rfl) ?_
        repeat (go_big_quiet_step ((go_at_call 32; exact quiet_below (valid_yes HV.out _ (HTW.out.bel (((Below.refl _ _).alloc (Nat.le_refl _) _).trans ((below_plus _ _).mono (by simp))))))))
        refine wpQuiet_nil ?_
        intro w2 hb2
        obtain ⟨_, hb3⟩ := box_call hb2 (by simp)
        go_wp2_with fail
        go_roundw
        case rel => exact ⟨(k + 1) + 1, by omega, by go_num, upto_succ HJ.out HO.out, HW.out.trans (hb3.mono HW.out.size)⟩
        case measure => simp [intOf]; omega
end Go.Proofs.YtmfhepjmmpnkaaaDoor
