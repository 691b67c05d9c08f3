/-
  cell.Fix.
-/
import Derived.Test.YtmfhepjmmpnkaaaDoorFixP
set_option linter.unusedSimpArgs false
set_option linter.unusedVariables false
namespace Go.Proofs.YtmfhepjmmpnkaaaDoor
open Go.RowKit

/-- What Fix gives: a slice of its own with the fixed cells. -/
def FixEnd (cs : List Cell) (w : World) (e : Ending) (w' : World) : Prop := ∃ v, e = .returned v ∧ OwnC w' w.heap.size v (fixL cs) ∧ Below w.heap.size w w'
theorem below_put {w0 w w' : World} {g : Nat} (hb : Below w0.heap.size w0 w) (hg : w.grownBy w' (some g)) (hB : w0.heap.size ≤ g) : Below w0.heap.size w0 w' := hb.grown hg hb.size (fun k hk => by cases hk; exact hB)
/-- What the walk asks of an element of a slice at the head of a block. -/
theorem own_elem {w : World} {g : Nat} {l : List Cell} (h : w.rangeAt g 0 (flat l)) {k : Nat} (hk : k < l.length) {c : Cell} (hc : l[k] = c) :
    w.cell? ⟨g, k * 16 + 4, none⟩ = some (.int .i64 c.width) ∧ penAt w g (k * 16 + 5) = some c.pen ∧ cellAt w g (k * 16) = some c := by
  have h1 := elem_width h hk
  have h2 := elem_pen h hk
  have h3 := elem_cell h hk
  rw [Nat.zero_add] at h1 h2 h3
  rw [hc] at h1 h2 h3
  exact ⟨h1, h2, h3⟩
theorem OwnC.head {w : World} {B n c : Nat} {A : Option Addr} {cs : List Cell} (h : OwnC w B (.slice A n c) cs) (hn : 0 < cs.length) : ∃ g, A = some ⟨g, 0, none⟩ ∧ n = cs.length ∧ B ≤ g ∧ g < w.heap.size ∧ w.rangeAt g 0 (flat cs) := by
  obtain ⟨g, cap, hv, h1, h2, h3⟩ := h.blk hn
  simp only [Value.slice.injEq] at hv
  exact ⟨g, hv.1, hv.2.1, h1, h2, h3⟩
theorem OwnC.putAt {w : World} {B g n cap : Nat} {cs : List Cell} (h : OwnC w B (.slice (some ⟨g, 0, none⟩) n cap) cs) {k : Nat} (hk : k < cs.length) (d : Cell) :
    ∃ W, (storeCells ⟨g, k * 16, none⟩ (cv d).toList 0).run Tryd.prog w = .ok () W ∧ OwnC W B (.slice (some ⟨g, 0, none⟩) n cap) (cs.set k d) ∧ w.grownBy W (some g) := by
  obtain ⟨_, _, rfl, _⟩ := h.head (by omega)
  exact h.put hk d

set_option maxRecDepth 100000 in
set_option maxHeartbeats 8000000 in
theorem cellFix_any (A : Option Addr) (c : Nat) (cs : List Cell) (w : World) (ha : RdC w A c cs) (hn : cs.length ≤ 100000) :
    Calls Tryd.prog 26 #[.slice A cs.length c] w (FixEnd cs w) := by
  have HA := Lib.hid ha
  clear ha
  go_enter Tryd.func26, Tryd.ntmps26
  go_wp2_with (at_builtin; (refine wpList_appC rfl _ _ rfl w.heap.size (.slice none 0 0) [] rfl (OwnC.nil w _) A c cs rfl HA.out (by simp; omega) (Nat.le_refl _) ?_); intro v1 w1 hown1 hg1 hat1; rw [List.nil_append] at hown1; obtain ⟨A1, c1, rfl, hrd1⟩ := hown1.form; have HO := Lib.hid hown1; have HB := Lib.hid ((Below.refl _ _).grown hg1 (Nat.le_refl _) (by simp [Value.ownBlock])); clear hown1 hg1 hat1 hrd1)
  go_loopw [11] (fun i wr => ∃ k : Nat, k ≤ cs.length ∧ i = .int .i64 k ∧ OwnC wr w.heap.size (.slice A1 cs.length c1) (fixTo cs k) ∧ Below w.heap.size w wr) (fun i _ => cs.length - (intOf i).toNat)
  case atStart => exact ⟨0, by omega, rfl, by rw [fixTo_zero]; exact HO.out, HB.out⟩
  case round =>
    clear HO HB
    obtain ⟨k, hk, rfl, ho, hb⟩ := hrel
    have HO := Lib.hid ho
    have HW := Lib.hid hb
    clear ho hb
    by_cases hlt : k < cs.length
    case neg =>
      obtain rfl : k = cs.length := by omega
      go_wp2_with fail
      go_ret
      exact ⟨_, rfl, by have := HO.out; rw [fixTo_all] at this; exact this, HW.out⟩
    have HL := Lib.hid (fixTo_length cs k)
    obtain ⟨g, rfl, -, hgB, hgz, hr⟩ := HO.out.head (by rw [HL.out]; omega)
    have HR := Lib.hid hr
    have HB := Lib.hid hgB
    clear hr hgB
    obtain ⟨hcw, hcp, _⟩ := own_elem HR.out (by rw [HL.out]; exact hlt) (fixTo_here hlt (by rw [HL.out]; exact hlt))
    have HS := Lib.hid (fixTo_succ hlt)
    cases k with
    | zero =>
      have HPR := Lib.hid (show (if 0 = 0 then none else (fixL cs)[0 - 1]?) = none from rfl)
      simp only [Nat.zero_mul, Nat.zero_add] at hcw hcp
      by_cases hnx : 0 + 1 < cs.length
      case neg =>
        have HNX := Lib.hid (show cs[0 + 1]? = none from List.getElem?_eq_none (by omega))
        by_cases h0 : cs[0].width = 0
        · have h0' := beq_yes h0
          have h2' : (cs[0].width == 2) = false := beq_no (by omega)
          have H0 := Lib.hid h0
          clear h0
          have HSE := Lib.hid (show fixStep (if 0 = 0 then none else (fixL cs)[0 - 1]?) cs[0] cs[0 + 1]? = blank cs[0].pen by rw [HPR.out, HNX.out]; simp [fixStep, H0.out])
          go_wp2_with fail
          refine (cellBlank_any _ _).mono ?_
          rintro e w2 ⟨rfl, hb2⟩
          obtain ⟨W, hst, ho2, hg2⟩ := (HO.out.bel hb2).putAt (k := 0) (by rw [HL.out]; exact hlt) (blank cs[0].pen)
          have HO2 := Lib.hid ho2
          have HG2 := Lib.hid hg2
          rw [Nat.zero_mul] at hst
          have hz2 := hb2.size
          clear ho2 hg2
          go_wp2_with fail
          go_roundw
          case rel => exact ⟨0 + 1, by omega, by go_num, by rw [HS.out, HSE.out]; exact HO2.out, below_put (HW.out.trans (hb2.mono HW.out.size)) HG2.out HB.out⟩
          case measure => simp [intOf]; omega
        have h0' := beq_no h0
        have H0 := Lib.hid h0
        clear h0
        by_cases h2 : cs[0].width = 2
        · have h2' := beq_yes h2
          have H2 := Lib.hid h2
          clear h2
          have HSE := Lib.hid (show fixStep (if 0 = 0 then none else (fixL cs)[0 - 1]?) cs[0] cs[0 + 1]? = blank cs[0].pen by rw [HPR.out, HNX.out]; simp [fixStep, H0.out, H2.out])
          go_wp2_with fail
          refine (cellBlank_any _ _).mono ?_
          rintro e w2 ⟨rfl, hb2⟩
          obtain ⟨W, hst, ho2, hg2⟩ := (HO.out.bel hb2).putAt (k := 0) (by rw [HL.out]; exact hlt) (blank cs[0].pen)
          have HO2 := Lib.hid ho2
          have HG2 := Lib.hid hg2
          rw [Nat.zero_mul] at hst
          have hz2 := hb2.size
          clear ho2 hg2
          go_wp2_with fail
          go_roundw
          case rel => exact ⟨0 + 1, by omega, by go_num, by rw [HS.out, HSE.out]; exact HO2.out, below_put (HW.out.trans (hb2.mono HW.out.size)) HG2.out HB.out⟩
          case measure => simp [intOf]; omega
        have h2' := beq_no h2
        have H2 := Lib.hid h2
        clear h2
        have HSE := Lib.hid (fixTo_same hlt (show fixStep (if 0 = 0 then none else (fixL cs)[0 - 1]?) cs[0] cs[0 + 1]? = cs[0] by rw [HPR.out, HNX.out]; simp [fixStep, H0.out, H2.out]))
        go_wp2_with fail
        go_roundw
        case rel => exact ⟨0 + 1, by omega, by go_num, by rw [HSE.out]; exact HO.out, HW.out⟩
        case measure => simp [intOf]; omega
      have HNX := Lib.hid (List.getElem?_eq_getElem hnx)
      obtain ⟨hnw, _, _⟩ := own_elem HR.out (by rw [HL.out]; exact hnx) (fixTo_next hnx (by rw [HL.out]; exact hnx))
      simp only [Nat.zero_add, Nat.one_mul] at hnw
      by_cases hw : cs[0 + 1].width = 0
      · have hw' := beq_yes hw
        have HNW := Lib.hid hw
        clear hw
        by_cases h0 : cs[0].width = 0
        · have h0' := beq_yes h0
          have h2' : (cs[0].width == 2) = false := beq_no (by omega)
          have H0 := Lib.hid h0
          clear h0
          have HSE := Lib.hid (show fixStep (if 0 = 0 then none else (fixL cs)[0 - 1]?) cs[0] cs[0 + 1]? = blank cs[0].pen by rw [HPR.out, HNX.out]; simp [fixStep, H0.out])
          go_wp2_with fail
          refine (cellBlank_any _ _).mono ?_
          rintro e w2 ⟨rfl, hb2⟩
          obtain ⟨W, hst, ho2, hg2⟩ := (HO.out.bel hb2).putAt (k := 0) (by rw [HL.out]; exact hlt) (blank cs[0].pen)
          have HO2 := Lib.hid ho2
          have HG2 := Lib.hid hg2
          rw [Nat.zero_mul] at hst
          have hz2 := hb2.size
          clear ho2 hg2
          go_wp2_with fail
          go_roundw
          case rel => exact ⟨0 + 1, by omega, by go_num, by rw [HS.out, HSE.out]; exact HO2.out, below_put (HW.out.trans (hb2.mono HW.out.size)) HG2.out HB.out⟩
          case measure => simp [intOf]; omega
        have h0' := beq_no h0
        have H0 := Lib.hid h0
        clear h0
        by_cases h2 : cs[0].width = 2
        · have h2' := beq_yes h2
          have H2 := Lib.hid h2
          clear h2
          have HSE := Lib.hid (fixTo_same hlt (show fixStep (if 0 = 0 then none else (fixL cs)[0 - 1]?) cs[0] cs[0 + 1]? = cs[0] by rw [HPR.out, HNX.out]; simp [fixStep, H0.out, H2.out, HNW.out]))
          go_wp2_with fail
          go_roundw
          case rel => exact ⟨0 + 1, by omega, by go_num, by rw [HSE.out]; exact HO.out, HW.out⟩
          case measure => simp [intOf]; omega
        have h2' := beq_no h2
        have H2 := Lib.hid h2
        clear h2
        have HSE := Lib.hid (fixTo_same hlt (show fixStep (if 0 = 0 then none else (fixL cs)[0 - 1]?) cs[0] cs[0 + 1]? = cs[0] by rw [HPR.out, HNX.out]; simp [fixStep, H0.out, H2.out]))
        go_wp2_with fail
        go_roundw
        case rel => exact ⟨0 + 1, by omega, by go_num, by rw [HSE.out]; exact HO.out, HW.out⟩
        case measure => simp [intOf]; omega
      · have hw' := beq_no hw
        have HNW := Lib.hid hw
        clear hw
        by_cases h0 : cs[0].width = 0
        · have h0' := beq_yes h0
          have h2' : (cs[0].width == 2) = false := beq_no (by omega)
          have H0 := Lib.hid h0
          clear h0
          have HSE := Lib.hid (show fixStep (if 0 = 0 then none else (fixL cs)[0 - 1]?) cs[0] cs[0 + 1]? = blank cs[0].pen by rw [HPR.out, HNX.out]; simp [fixStep, H0.out])
          go_wp2_with fail
          refine (cellBlank_any _ _).mono ?_
          rintro e w2 ⟨rfl, hb2⟩
          obtain ⟨W, hst, ho2, hg2⟩ := (HO.out.bel hb2).putAt (k := 0) (by rw [HL.out]; exact hlt) (blank cs[0].pen)
          have HO2 := Lib.hid ho2
          have HG2 := Lib.hid hg2
          rw [Nat.zero_mul] at hst
          have hz2 := hb2.size
          clear ho2 hg2
          go_wp2_with fail
          go_roundw
          case rel => exact ⟨0 + 1, by omega, by go_num, by rw [HS.out, HSE.out]; exact HO2.out, below_put (HW.out.trans (hb2.mono HW.out.size)) HG2.out HB.out⟩
          case measure => simp [intOf]; omega
        have h0' := beq_no h0
        have H0 := Lib.hid h0
        clear h0
        by_cases h2 : cs[0].width = 2
        · have h2' := beq_yes h2
          have H2 := Lib.hid h2
          clear h2
          have HSE := Lib.hid (show fixStep (if 0 = 0 then none else (fixL cs)[0 - 1]?) cs[0] cs[0 + 1]? = blank cs[0].pen by rw [HPR.out, HNX.out]; simp [fixStep, H0.out, H2.out, HNW.out])
          go_wp2_with fail
          refine (cellBlank_any _ _).mono ?_
          rintro e w2 ⟨rfl, hb2⟩
          obtain ⟨W, hst, ho2, hg2⟩ := (HO.out.bel hb2).putAt (k := 0) (by rw [HL.out]; exact hlt) (blank cs[0].pen)
          have HO2 := Lib.hid ho2
          have HG2 := Lib.hid hg2
          rw [Nat.zero_mul] at hst
          have hz2 := hb2.size
          clear ho2 hg2
          go_wp2_with fail
          go_roundw
          case rel => exact ⟨0 + 1, by omega, by go_num, by rw [HS.out, HSE.out]; exact HO2.out, below_put (HW.out.trans (hb2.mono HW.out.size)) HG2.out HB.out⟩
          case measure => simp [intOf]; omega
        have h2' := beq_no h2
        have H2 := Lib.hid h2
        clear h2
        have HSE := Lib.hid (fixTo_same hlt (show fixStep (if 0 = 0 then none else (fixL cs)[0 - 1]?) cs[0] cs[0 + 1]? = cs[0] by rw [HPR.out, HNX.out]; simp [fixStep, H0.out, H2.out]))
        go_wp2_with fail
        go_roundw
        case rel => exact ⟨0 + 1, by omega, by go_num, by rw [HSE.out]; exact HO.out, HW.out⟩
        case measure => simp [intOf]; omega
    | succ k =>
      have hk2 : k < (fixL cs).length := by rw [fixL_length]; omega
      have HPR := Lib.hid (show (if k + 1 = 0 then none else (fixL cs)[k + 1 - 1]?) = some (fixL cs)[k] by rw [if_neg (by omega), Nat.add_sub_cancel, List.getElem?_eq_getElem hk2])
      obtain ⟨hpw, hpp, _⟩ := own_elem HR.out (k := k) (by rw [HL.out]; omega) (fixTo_prev hlt (by rw [HL.out]; omega) hk2)
      by_cases hq : (fixL cs)[k].width = 2
      · have hq' := beq_yes hq
        have HQ := Lib.hid hq
        clear hq
        by_cases hnx : (k + 1) + 1 < cs.length
        case neg =>
          have HNX := Lib.hid (show cs[(k + 1) + 1]? = none from List.getElem?_eq_none (by omega))
          by_cases h0 : cs[(k + 1)].width = 0
          · have h0' := beq_yes h0
            have h2' : (cs[(k + 1)].width == 2) = false := beq_no (by omega)
            have H0 := Lib.hid h0
            clear h0
            have HSE := Lib.hid (show fixStep (if (k + 1) = 0 then none else (fixL cs)[(k + 1) - 1]?) cs[(k + 1)] cs[(k + 1) + 1]? = spacer (fixL cs)[k].pen by rw [HPR.out, HNX.out]; simp [fixStep, H0.out, HQ.out])
            go_wp2_with fail
            refine (cellSpacer_any _ _).mono ?_
            rintro e w2 ⟨rfl, hb2⟩
            obtain ⟨W, hst, ho2, hg2⟩ := (HO.out.bel hb2).putAt (k := (k + 1)) (by rw [HL.out]; exact hlt) (spacer (fixL cs)[k].pen)
            have HO2 := Lib.hid ho2
            have HG2 := Lib.hid hg2
            have hz2 := hb2.size
            clear ho2 hg2
            go_wp2_with fail
            go_roundw
            case rel => exact ⟨(k + 1) + 1, by omega, by go_num, by rw [HS.out, HSE.out]; exact HO2.out, below_put (HW.out.trans (hb2.mono HW.out.size)) HG2.out HB.out⟩
            case measure => simp [intOf]; omega
          have h0' := beq_no h0
          have H0 := Lib.hid h0
          clear h0
          by_cases h2 : cs[(k + 1)].width = 2
          · have h2' := beq_yes h2
            have H2 := Lib.hid h2
            clear h2
            have HSE := Lib.hid (show fixStep (if (k + 1) = 0 then none else (fixL cs)[(k + 1) - 1]?) cs[(k + 1)] cs[(k + 1) + 1]? = blank cs[(k + 1)].pen by rw [HPR.out, HNX.out]; simp [fixStep, H0.out, H2.out])
            go_wp2_with fail
            refine (cellBlank_any _ _).mono ?_
            rintro e w2 ⟨rfl, hb2⟩
            obtain ⟨W, hst, ho2, hg2⟩ := (HO.out.bel hb2).putAt (k := (k + 1)) (by rw [HL.out]; exact hlt) (blank cs[(k + 1)].pen)
            have HO2 := Lib.hid ho2
            have HG2 := Lib.hid hg2
            have hz2 := hb2.size
            clear ho2 hg2
            go_wp2_with fail
            go_roundw
            case rel => exact ⟨(k + 1) + 1, by omega, by go_num, by rw [HS.out, HSE.out]; exact HO2.out, below_put (HW.out.trans (hb2.mono HW.out.size)) HG2.out HB.out⟩
            case measure => simp [intOf]; omega
          have h2' := beq_no h2
          have H2 := Lib.hid h2
          clear h2
          have HSE := Lib.hid (fixTo_same hlt (show fixStep (if (k + 1) = 0 then none else (fixL cs)[(k + 1) - 1]?) cs[(k + 1)] cs[(k + 1) + 1]? = cs[(k + 1)] by rw [HPR.out, HNX.out]; simp [fixStep, H0.out, H2.out]))
          go_wp2_with fail
          go_roundw
          case rel => exact ⟨(k + 1) + 1, by omega, by go_num, by rw [HSE.out]; exact HO.out, HW.out⟩
          case measure => simp [intOf]; omega
        have HNX := Lib.hid (List.getElem?_eq_getElem hnx)
        obtain ⟨hnw, _, _⟩ := own_elem HR.out (by rw [HL.out]; exact hnx) (fixTo_next hnx (by rw [HL.out]; exact hnx))
        by_cases hw : cs[(k + 1) + 1].width = 0
        · have hw' := beq_yes hw
          have HNW := Lib.hid hw
          clear hw
          by_cases h0 : cs[(k + 1)].width = 0
          · have h0' := beq_yes h0
            have h2' : (cs[(k + 1)].width == 2) = false := beq_no (by omega)
            have H0 := Lib.hid h0
            clear h0
            have HSE := Lib.hid (show fixStep (if (k + 1) = 0 then none else (fixL cs)[(k + 1) - 1]?) cs[(k + 1)] cs[(k + 1) + 1]? = spacer (fixL cs)[k].pen by rw [HPR.out, HNX.out]; simp [fixStep, H0.out, HQ.out])
            go_wp2_with fail
            refine (cellSpacer_any _ _).mono ?_
            rintro e w2 ⟨rfl, hb2⟩
            obtain ⟨W, hst, ho2, hg2⟩ := (HO.out.bel hb2).putAt (k := (k + 1)) (by rw [HL.out]; exact hlt) (spacer (fixL cs)[k].pen)
            have HO2 := Lib.hid ho2
            have HG2 := Lib.hid hg2
            have hz2 := hb2.size
            clear ho2 hg2
            go_wp2_with fail
            go_roundw
            case rel => exact ⟨(k + 1) + 1, by omega, by go_num, by rw [HS.out, HSE.out]; exact HO2.out, below_put (HW.out.trans (hb2.mono HW.out.size)) HG2.out HB.out⟩
            case measure => simp [intOf]; omega
          have h0' := beq_no h0
          have H0 := Lib.hid h0
          clear h0
          by_cases h2 : cs[(k + 1)].width = 2
          · have h2' := beq_yes h2
            have H2 := Lib.hid h2
            clear h2
            have HSE := Lib.hid (fixTo_same hlt (show fixStep (if (k + 1) = 0 then none else (fixL cs)[(k + 1) - 1]?) cs[(k + 1)] cs[(k + 1) + 1]? = cs[(k + 1)] by rw [HPR.out, HNX.out]; simp [fixStep, H0.out, H2.out, HNW.out]))
            go_wp2_with fail
            go_roundw
            case rel => exact ⟨(k + 1) + 1, by omega, by go_num, by rw [HSE.out]; exact HO.out, HW.out⟩
            case measure => simp [intOf]; omega
          have h2' := beq_no h2
          have H2 := Lib.hid h2
          clear h2
          have HSE := Lib.hid (fixTo_same hlt (show fixStep (if (k + 1) = 0 then none else (fixL cs)[(k + 1) - 1]?) cs[(k + 1)] cs[(k + 1) + 1]? = cs[(k + 1)] by rw [HPR.out, HNX.out]; simp [fixStep, H0.out, H2.out]))
          go_wp2_with fail
          go_roundw
          case rel => exact ⟨(k + 1) + 1, by omega, by go_num, by rw [HSE.out]; exact HO.out, HW.out⟩
          case measure => simp [intOf]; omega
        · have hw' := beq_no hw
          have HNW := Lib.hid hw
          clear hw
          by_cases h0 : cs[(k + 1)].width = 0
          · have h0' := beq_yes h0
            have h2' : (cs[(k + 1)].width == 2) = false := beq_no (by omega)
            have H0 := Lib.hid h0
            clear h0
            have HSE := Lib.hid (show fixStep (if (k + 1) = 0 then none else (fixL cs)[(k + 1) - 1]?) cs[(k + 1)] cs[(k + 1) + 1]? = spacer (fixL cs)[k].pen by rw [HPR.out, HNX.out]; simp [fixStep, H0.out, HQ.out])
            go_wp2_with fail
            refine (cellSpacer_any _ _).mono ?_
            rintro e w2 ⟨rfl, hb2⟩
            obtain ⟨W, hst, ho2, hg2⟩ := (HO.out.bel hb2).putAt (k := (k + 1)) (by rw [HL.out]; exact hlt) (spacer (fixL cs)[k].pen)
            have HO2 := Lib.hid ho2
            have HG2 := Lib.hid hg2
            have hz2 := hb2.size
            clear ho2 hg2
            go_wp2_with fail
            go_roundw
            case rel => exact ⟨(k + 1) + 1, by omega, by go_num, by rw [HS.out, HSE.out]; exact HO2.out, below_put (HW.out.trans (hb2.mono HW.out.size)) HG2.out HB.out⟩
            case measure => simp [intOf]; omega
          have h0' := beq_no h0
          have H0 := Lib.hid h0
          clear h0
          by_cases h2 : cs[(k + 1)].width = 2
          · have h2' := beq_yes h2
            have H2 := Lib.hid h2
            clear h2
            have HSE := Lib.hid (show fixStep (if (k + 1) = 0 then none else (fixL cs)[(k + 1) - 1]?) cs[(k + 1)] cs[(k + 1) + 1]? = blank cs[(k + 1)].pen by rw [HPR.out, HNX.out]; simp [fixStep, H0.out, H2.out, HNW.out])
            go_wp2_with fail
            refine (cellBlank_any _ _).mono ?_
            rintro e w2 ⟨rfl, hb2⟩
            obtain ⟨W, hst, ho2, hg2⟩ := (HO.out.bel hb2).putAt (k := (k + 1)) (by rw [HL.out]; exact hlt) (blank cs[(k + 1)].pen)
            have HO2 := Lib.hid ho2
            have HG2 := Lib.hid hg2
            have hz2 := hb2.size
            clear ho2 hg2
            go_wp2_with fail
            go_roundw
            case rel => exact ⟨(k + 1) + 1, by omega, by go_num, by rw [HS.out, HSE.out]; exact HO2.out, below_put (HW.out.trans (hb2.mono HW.out.size)) HG2.out HB.out⟩
            case measure => simp [intOf]; omega
          have h2' := beq_no h2
          have H2 := Lib.hid h2
          clear h2
          have HSE := Lib.hid (fixTo_same hlt (show fixStep (if (k + 1) = 0 then none else (fixL cs)[(k + 1) - 1]?) cs[(k + 1)] cs[(k + 1) + 1]? = cs[(k + 1)] by rw [HPR.out, HNX.out]; simp [fixStep, H0.out, H2.out]))
          go_wp2_with fail
          go_roundw
          case rel => exact ⟨(k + 1) + 1, by omega, by go_num, by rw [HSE.out]; exact HO.out, HW.out⟩
          case measure => simp [intOf]; omega
      · have hq' := beq_no hq
        have HQ := Lib.hid hq
        clear hq
        by_cases hnx : (k + 1) + 1 < cs.length
        case neg =>
          have HNX := Lib.hid (show cs[(k + 1) + 1]? = none from List.getElem?_eq_none (by omega))
          by_cases h0 : cs[(k + 1)].width = 0
          · have h0' := beq_yes h0
            have h2' : (cs[(k + 1)].width == 2) = false := beq_no (by omega)
            have H0 := Lib.hid h0
            clear h0
            have HSE := Lib.hid (show fixStep (if (k + 1) = 0 then none else (fixL cs)[(k + 1) - 1]?) cs[(k + 1)] cs[(k + 1) + 1]? = blank cs[(k + 1)].pen by rw [HPR.out, HNX.out]; simp [fixStep, H0.out, HQ.out])
            go_wp2_with fail
            refine (cellBlank_any _ _).mono ?_
            rintro e w2 ⟨rfl, hb2⟩
            obtain ⟨W, hst, ho2, hg2⟩ := (HO.out.bel hb2).putAt (k := (k + 1)) (by rw [HL.out]; exact hlt) (blank cs[(k + 1)].pen)
            have HO2 := Lib.hid ho2
            have HG2 := Lib.hid hg2
            have hz2 := hb2.size
            clear ho2 hg2
            go_wp2_with fail
            go_roundw
            case rel => exact ⟨(k + 1) + 1, by omega, by go_num, by rw [HS.out, HSE.out]; exact HO2.out, below_put (HW.out.trans (hb2.mono HW.out.size)) HG2.out HB.out⟩
            case measure => simp [intOf]; omega
          have h0' := beq_no h0
          have H0 := Lib.hid h0
          clear h0
          by_cases h2 : cs[(k + 1)].width = 2
          · have h2' := beq_yes h2
            have H2 := Lib.hid h2
            clear h2
            have HSE := Lib.hid (show fixStep (if (k + 1) = 0 then none else (fixL cs)[(k + 1) - 1]?) cs[(k + 1)] cs[(k + 1) + 1]? = blank cs[(k + 1)].pen by rw [HPR.out, HNX.out]; simp [fixStep, H0.out, H2.out])
            go_wp2_with fail
            refine (cellBlank_any _ _).mono ?_
            rintro e w2 ⟨rfl, hb2⟩
            obtain ⟨W, hst, ho2, hg2⟩ := (HO.out.bel hb2).putAt (k := (k + 1)) (by rw [HL.out]; exact hlt) (blank cs[(k + 1)].pen)
            have HO2 := Lib.hid ho2
            have HG2 := Lib.hid hg2
            have hz2 := hb2.size
            clear ho2 hg2
            go_wp2_with fail
            go_roundw
            case rel => exact ⟨(k + 1) + 1, by omega, by go_num, by rw [HS.out, HSE.out]; exact HO2.out, below_put (HW.out.trans (hb2.mono HW.out.size)) HG2.out HB.out⟩
            case measure => simp [intOf]; omega
          have h2' := beq_no h2
          have H2 := Lib.hid h2
          clear h2
          have HSE := Lib.hid (fixTo_same hlt (show fixStep (if (k + 1) = 0 then none else (fixL cs)[(k + 1) - 1]?) cs[(k + 1)] cs[(k + 1) + 1]? = cs[(k + 1)] by rw [HPR.out, HNX.out]; simp [fixStep, H0.out, H2.out]))
          go_wp2_with fail
          go_roundw
          case rel => exact ⟨(k + 1) + 1, by omega, by go_num, by rw [HSE.out]; exact HO.out, HW.out⟩
          case measure => simp [intOf]; omega
        have HNX := Lib.hid (List.getElem?_eq_getElem hnx)
        obtain ⟨hnw, _, _⟩ := own_elem HR.out (by rw [HL.out]; exact hnx) (fixTo_next hnx (by rw [HL.out]; exact hnx))
        by_cases hw : cs[(k + 1) + 1].width = 0
        · have hw' := beq_yes hw
          have HNW := Lib.hid hw
          clear hw
          by_cases h0 : cs[(k + 1)].width = 0
          · have h0' := beq_yes h0
            have h2' : (cs[(k + 1)].width == 2) = false := beq_no (by omega)
            have H0 := Lib.hid h0
            clear h0
            have HSE := Lib.hid (show fixStep (if (k + 1) = 0 then none else (fixL cs)[(k + 1) - 1]?) cs[(k + 1)] cs[(k + 1) + 1]? = blank cs[(k + 1)].pen by rw [HPR.out, HNX.out]; simp [fixStep, H0.out, HQ.out])
            go_wp2_with fail
            refine (cellBlank_any _ _).mono ?_
            rintro e w2 ⟨rfl, hb2⟩
            obtain ⟨W, hst, ho2, hg2⟩ := (HO.out.bel hb2).putAt (k := (k + 1)) (by rw [HL.out]; exact hlt) (blank cs[(k + 1)].pen)
            have HO2 := Lib.hid ho2
            have HG2 := Lib.hid hg2
            have hz2 := hb2.size
            clear ho2 hg2
            go_wp2_with fail
            go_roundw
            case rel => exact ⟨(k + 1) + 1, by omega, by go_num, by rw [HS.out, HSE.out]; exact HO2.out, below_put (HW.out.trans (hb2.mono HW.out.size)) HG2.out HB.out⟩
            case measure => simp [intOf]; omega
          have h0' := beq_no h0
          have H0 := Lib.hid h0
          clear h0
          by_cases h2 : cs[(k + 1)].width = 2
          · have h2' := beq_yes h2
            have H2 := Lib.hid h2
            clear h2
            have HSE := Lib.hid (fixTo_same hlt (show fixStep (if (k + 1) = 0 then none else (fixL cs)[(k + 1) - 1]?) cs[(k + 1)] cs[(k + 1) + 1]? = cs[(k + 1)] by rw [HPR.out, HNX.out]; simp [fixStep, H0.out, H2.out, HNW.out]))
            go_wp2_with fail
            go_roundw
            case rel => exact ⟨(k + 1) + 1, by omega, by go_num, by rw [HSE.out]; exact HO.out, HW.out⟩
            case measure => simp [intOf]; omega
          have h2' := beq_no h2
          have H2 := Lib.hid h2
          clear h2
          have HSE := Lib.hid (fixTo_same hlt (show fixStep (if (k + 1) = 0 then none else (fixL cs)[(k + 1) - 1]?) cs[(k + 1)] cs[(k + 1) + 1]? = cs[(k + 1)] by rw [HPR.out, HNX.out]; simp [fixStep, H0.out, H2.out]))
          go_wp2_with fail
          go_roundw
          case rel => exact ⟨(k + 1) + 1, by omega, by go_num, by rw [HSE.out]; exact HO.out, HW.out⟩
          case measure => simp [intOf]; omega
        · have hw' := beq_no hw
          have HNW := Lib.hid hw
          clear hw
          by_cases h0 : cs[(k + 1)].width = 0
          · have h0' := beq_yes h0
            have h2' : (cs[(k + 1)].width == 2) = false := beq_no (by omega)
            have H0 := Lib.hid h0
            clear h0
            have HSE := Lib.hid (show fixStep (if (k + 1) = 0 then none else (fixL cs)[(k + 1) - 1]?) cs[(k + 1)] cs[(k + 1) + 1]? = blank cs[(k + 1)].pen by rw [HPR.out, HNX.out]; simp [fixStep, H0.out, HQ.out])
            go_wp2_with fail
            refine (cellBlank_any _ _).mono ?_
            rintro e w2 ⟨rfl, hb2⟩
            obtain ⟨W, hst, ho2, hg2⟩ := (HO.out.bel hb2).putAt (k := (k + 1)) (by rw [HL.out]; exact hlt) (blank cs[(k + 1)].pen)
            have HO2 := Lib.hid ho2
            have HG2 := Lib.hid hg2
            have hz2 := hb2.size
            clear ho2 hg2
            go_wp2_with fail
            go_roundw
            case rel => exact ⟨(k + 1) + 1, by omega, by go_num, by rw [HS.out, HSE.out]; exact HO2.out, below_put (HW.out.trans (hb2.mono HW.out.size)) HG2.out HB.out⟩
            case measure => simp [intOf]; omega
          have h0' := beq_no h0
          have H0 := Lib.hid h0
          clear h0
          by_cases h2 : cs[(k + 1)].width = 2
          · have h2' := beq_yes h2
            have H2 := Lib.hid h2
            clear h2
            have HSE := Lib.hid (show fixStep (if (k + 1) = 0 then none else (fixL cs)[(k + 1) - 1]?) cs[(k + 1)] cs[(k + 1) + 1]? = blank cs[(k + 1)].pen by rw [HPR.out, HNX.out]; simp [fixStep, H0.out, H2.out, HNW.out])
            go_wp2_with fail
            refine (cellBlank_any _ _).mono ?_
            rintro e w2 ⟨rfl, hb2⟩
            obtain ⟨W, hst, ho2, hg2⟩ := (HO.out.bel hb2).putAt (k := (k + 1)) (by rw [HL.out]; exact hlt) (blank cs[(k + 1)].pen)
            have HO2 := Lib.hid ho2
            have HG2 := Lib.hid hg2
            have hz2 := hb2.size
            clear ho2 hg2
            go_wp2_with fail
            go_roundw
            case rel => exact ⟨(k + 1) + 1, by omega, by go_num, by rw [HS.out, HSE.out]; exact HO2.out, below_put (HW.out.trans (hb2.mono HW.out.size)) HG2.out HB.out⟩
            case measure => simp [intOf]; omega
          have h2' := beq_no h2
          have H2 := Lib.hid h2
          clear h2
          have HSE := Lib.hid (fixTo_same hlt (show fixStep (if (k + 1) = 0 then none else (fixL cs)[(k + 1) - 1]?) cs[(k + 1)] cs[(k + 1) + 1]? = cs[(k + 1)] by rw [HPR.out, HNX.out]; simp [fixStep, H0.out, H2.out]))
          go_wp2_with fail
          go_roundw
          case rel => exact ⟨(k + 1) + 1, by omega, by go_num, by rw [HSE.out]; exact HO.out, HW.out⟩
          case measure => simp [intOf]; omega
end Go.Proofs.YtmfhepjmmpnkaaaDoor
