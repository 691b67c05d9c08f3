/-
  The reference's Fix.
-/
import Derived.Test.YtmfhepjmmpnkaaaDoorFix
set_option linter.unusedSimpArgs false
set_option linter.unusedVariables false
namespace Go.Proofs.YtmfhepjmmpnkaaaDoor
open Go.RowKit

theorem RdC.one (w : World) (d : Cell) : RdC (w.alloc (.cells (cv d) 30)) (some ⟨w.heap.size, 0, none⟩) 1 [d] :=
  ⟨Nat.le_refl _, (fun h => by cases h), fun _ => ⟨w.heap.size, 0, rfl, by simp, by have := rangeAt_new w (cv d) 30; simpa [flat] using this⟩⟩
theorem RdC.one' (w : World) (o : Obj) (d : Cell) : RdC ((w.alloc o).alloc (.cells (cv d) 30)) (some ⟨w.heap.size + 1, 0, none⟩) 1 [d] := by
  have := RdC.one (w.alloc o) d
  simpa using this
theorem take_get {l : List Cell} {k j : Nat} (h : k ≤ l.length) (hj : j < k) (h1 : j < (l.take k).length) (h2 : j < l.length) : (l.take k)[j] = l[j] := by simp
/-- A round's end: what was appended, and what stands. -/
theorem fix_app {w wr w1 : World} {cs : List Cell} {k : Nat} {v v' : Value} {o o2 : Obj} {d : Cell} (hlt : k < cs.length) (hb : Below w.heap.size w wr) (ho : OwnC wr w.heap.size v ((fixL cs).take k))
    (hd : (fixL cs)[k]? = some d) (h1 : OwnC w1 w.heap.size v' ((fixL cs).take k ++ [d])) (hg : ((wr.alloc o).alloc o2).grownBy w1 v.ownBlock) :
    OwnC w1 w.heap.size v' ((fixL cs).take (k + 1)) ∧ Below w.heap.size w w1 := by
  have hl : k < (fixL cs).length := by rw [fixL_length]; exact hlt
  have hz := hb.size
  refine ⟨?_, ((hb.alloc hz _).alloc (by simp; omega) _).grown hg (by simp; omega) (fun q hq => (World.ownsRow.lt ho q hq).1)⟩
  rw [List.take_succ_eq_append_getElem hl]
  rw [List.getElem?_eq_getElem hl] at hd
  rw [Option.some.inj hd]
  exact h1
theorem fixL_step {cs : List Cell} {k : Nat} (h : k < cs.length) : (fixL cs)[k]? = some (fixStep (if k = 0 then none else (fixL cs)[k - 1]?) cs[k] cs[k + 1]?) := fixGo_get none cs k h

set_option maxRecDepth 100000 in
set_option maxHeartbeats 8000000 in
theorem r04Fix_any (A : Option Addr) (c : Nat) (cs : List Cell) (w : World) (ha : RdC w A c cs) (hn : cs.length ≤ 100000) :
    Calls Tryd.prog 28 #[.slice A cs.length c] w (FixEnd cs w) := by
  have HA := Lib.hid ha
  clear ha
  go_enter Tryd.func28, Tryd.ntmps28
  go_wp2_with fail
  go_loopw [3, 4] (fun v i wr => ∃ k : Nat, k ≤ cs.length ∧ i = .int .i64 k ∧ OwnC wr w.heap.size v ((fixL cs).take k) ∧ Below w.heap.size w wr) (fun _ i _ => cs.length - (intOf i).toNat)
  case atStart => exact ⟨0, by omega, rfl, OwnC.nil _ _, Below.refl _ _⟩
  case round =>
    obtain ⟨k, hk, rfl, ho, hb⟩ := hrel
    have HO := Lib.hid ho
    have HW := Lib.hid hb
    clear ho hb
    by_cases hlt : k < cs.length
    case neg =>
      obtain rfl : k = cs.length := by omega
      go_wp2_with fail
      go_ret
      exact ⟨_, rfl, by have := HO.out; rw [List.take_of_length_le (by rw [fixL_length]; omega)] at this; exact this, HW.out⟩
    have HL := Lib.hid (show ((fixL cs).take k).length = k by rw [List.length_take, fixL_length]; omega)
    obtain ⟨A1, c1, hv, hrd⟩ := HO.out.form
    rw [HL.out] at hv
    subst hv
    have HRD := Lib.hid hrd
    clear hrd
    obtain ⟨b1, o1, rfl, hz1, hr1⟩ := (HA.out.bel HW.out).at_ hlt
    have HR := Lib.hid hr1
    have hc1 := elem_cell hr1 hlt
    have hw0 := HW.out.size
    have HS := Lib.hid (fixL_step hlt)
    clear hr1
    cases k with
    | zero =>
      have HPR := Lib.hid (show (if 0 = 0 then none else (fixL cs)[0 - 1]?) = none from rfl)
      simp only [Nat.zero_mul, Nat.add_zero] at hc1
      by_cases h0 : cs[0].width = 0
      · have h0' := beq_yes h0
        have h2' : (cs[0].width == 2) = false := beq_no (by omega)
        have H0 := Lib.hid h0
        clear h0
        by_cases hnx : 0 + 1 < cs.length
        case neg =>
          have HNX := Lib.hid (show cs[0 + 1]? = none from List.getElem?_eq_none (by omega))
          have HSE := Lib.hid (show (fixL cs)[0]? = some (blank cs[0].pen) by rw [HS.out, HPR.out, HNX.out]; simp [fixStep, H0.out])
          go_wp2_with (at_builtin; (refine wpList_appC rfl _ _ rfl w.heap.size _ _ rfl ((HO.out.alloc _).alloc _) _ 1 [blank cs[0].pen] rfl (RdC.one' _ _ _) (by rw [HL.out]; show _ + 1 ≤ _; omega) (by simp; omega) ?_); intro v1 w1 hown1 hg1 hat1; have hst := fix_app hlt HW.out HO.out HSE.out hown1 hg1; have HST := Lib.hid hst; clear hst hown1 hg1 hat1)
          go_roundw
          case rel => exact ⟨0 + 1, by omega, by go_num, HST.out.1, HST.out.2⟩
          case measure => simp [intOf]; omega
        have HNX := Lib.hid (List.getElem?_eq_getElem hnx)
        have hnw := elem_width HR.out hnx
        simp only [Nat.zero_add, Nat.one_mul] at hnw
        have HSE := Lib.hid (show (fixL cs)[0]? = some (blank cs[0].pen) by rw [HS.out, HPR.out, HNX.out]; simp [fixStep, H0.out])
        go_wp2_with (at_builtin; (refine wpList_appC rfl _ _ rfl w.heap.size _ _ rfl ((HO.out.alloc _).alloc _) _ 1 [blank cs[0].pen] rfl (RdC.one' _ _ _) (by rw [HL.out]; show _ + 1 ≤ _; omega) (by simp; omega) ?_); intro v1 w1 hown1 hg1 hat1; have hst := fix_app hlt HW.out HO.out HSE.out hown1 hg1; have HST := Lib.hid hst; clear hst hown1 hg1 hat1)
        go_roundw
        case rel => exact ⟨0 + 1, by omega, by go_num, HST.out.1, HST.out.2⟩
        case measure => simp [intOf]; omega
      have h0' := beq_no h0
      have H0 := Lib.hid h0
      clear h0
      by_cases h2 : cs[0].width = 2
      · have h2' := beq_yes h2
        have H2 := Lib.hid h2
        clear h2
        by_cases hnx : 0 + 1 < cs.length
        case neg =>
          have HNX := Lib.hid (show cs[0 + 1]? = none from List.getElem?_eq_none (by omega))
          have HSE := Lib.hid (show (fixL cs)[0]? = some (blank cs[0].pen) by rw [HS.out, HPR.out, HNX.out]; simp [fixStep, H0.out, H2.out])
          go_wp2_with (at_builtin; (refine wpList_appC rfl _ _ rfl w.heap.size _ _ rfl ((HO.out.alloc _).alloc _) _ 1 [blank cs[0].pen] rfl (RdC.one' _ _ _) (by rw [HL.out]; show _ + 1 ≤ _; omega) (by simp; omega) ?_); intro v1 w1 hown1 hg1 hat1; have hst := fix_app hlt HW.out HO.out HSE.out hown1 hg1; have HST := Lib.hid hst; clear hst hown1 hg1 hat1)
          go_roundw
          case rel => exact ⟨0 + 1, by omega, by go_num, HST.out.1, HST.out.2⟩
          case measure => simp [intOf]; omega
        have HNX := Lib.hid (List.getElem?_eq_getElem hnx)
        have hnw := elem_width HR.out hnx
        simp only [Nat.zero_add, Nat.one_mul] at hnw
        by_cases hw : cs[0 + 1].width = 0
        · have hw' := beq_yes hw
          have HNW := Lib.hid hw
          clear hw
          have HSE := Lib.hid (show (fixL cs)[0]? = some (cs[0]) by rw [HS.out, HPR.out, HNX.out]; simp [fixStep, H0.out, H2.out, HNW.out])
          go_wp2_with (at_builtin; (refine wpList_appC rfl _ _ rfl w.heap.size _ _ rfl ((HO.out.alloc _).alloc _) _ 1 [cs[0]] rfl (RdC.one' _ _ _) (by rw [HL.out]; show _ + 1 ≤ _; omega) (by simp; omega) ?_); intro v1 w1 hown1 hg1 hat1; have hst := fix_app hlt HW.out HO.out HSE.out hown1 hg1; have HST := Lib.hid hst; clear hst hown1 hg1 hat1)
          go_roundw
          case rel => exact ⟨0 + 1, by omega, by go_num, HST.out.1, HST.out.2⟩
          case measure => simp [intOf]; omega
        · have hw' := beq_no hw
          have HNW := Lib.hid hw
          clear hw
          have HSE := Lib.hid (show (fixL cs)[0]? = some (blank cs[0].pen) by rw [HS.out, HPR.out, HNX.out]; simp [fixStep, H0.out, H2.out, HNW.out])
          go_wp2_with (at_builtin; (refine wpList_appC rfl _ _ rfl w.heap.size _ _ rfl ((HO.out.alloc _).alloc _) _ 1 [blank cs[0].pen] rfl (RdC.one' _ _ _) (by rw [HL.out]; show _ + 1 ≤ _; omega) (by simp; omega) ?_); intro v1 w1 hown1 hg1 hat1; have hst := fix_app hlt HW.out HO.out HSE.out hown1 hg1; have HST := Lib.hid hst; clear hst hown1 hg1 hat1)
          go_roundw
          case rel => exact ⟨0 + 1, by omega, by go_num, HST.out.1, HST.out.2⟩
          case measure => simp [intOf]; omega
      have h2' := beq_no h2
      have H2 := Lib.hid h2
      clear h2
      by_cases hnx : 0 + 1 < cs.length
      case neg =>
        have HNX := Lib.hid (show cs[0 + 1]? = none from List.getElem?_eq_none (by omega))
        have HSE := Lib.hid (show (fixL cs)[0]? = some (cs[0]) by rw [HS.out, HPR.out, HNX.out]; simp [fixStep, H0.out, H2.out])
        go_wp2_with (at_builtin; (refine wpList_appC rfl _ _ rfl w.heap.size _ _ rfl ((HO.out.alloc _).alloc _) _ 1 [cs[0]] rfl (RdC.one' _ _ _) (by rw [HL.out]; show _ + 1 ≤ _; omega) (by simp; omega) ?_); intro v1 w1 hown1 hg1 hat1; have hst := fix_app hlt HW.out HO.out HSE.out hown1 hg1; have HST := Lib.hid hst; clear hst hown1 hg1 hat1)
        go_roundw
        case rel => exact ⟨0 + 1, by omega, by go_num, HST.out.1, HST.out.2⟩
        case measure => simp [intOf]; omega
      have HNX := Lib.hid (List.getElem?_eq_getElem hnx)
      have hnw := elem_width HR.out hnx
      simp only [Nat.zero_add, Nat.one_mul] at hnw
      have HSE := Lib.hid (show (fixL cs)[0]? = some (cs[0]) by rw [HS.out, HPR.out, HNX.out]; simp [fixStep, H0.out, H2.out])
      go_wp2_with (at_builtin; (refine wpList_appC rfl _ _ rfl w.heap.size _ _ rfl ((HO.out.alloc _).alloc _) _ 1 [cs[0]] rfl (RdC.one' _ _ _) (by rw [HL.out]; show _ + 1 ≤ _; omega) (by simp; omega) ?_); intro v1 w1 hown1 hg1 hat1; have hst := fix_app hlt HW.out HO.out HSE.out hown1 hg1; have HST := Lib.hid hst; clear hst hown1 hg1 hat1)
      go_roundw
      case rel => exact ⟨0 + 1, by omega, by go_num, HST.out.1, HST.out.2⟩
      case measure => simp [intOf]; omega
    | succ k =>
      have hk2 : k < (fixL cs).length := by rw [fixL_length]; omega
      have HPR := Lib.hid (show (if k + 1 = 0 then none else (fixL cs)[k + 1 - 1]?) = some (fixL cs)[k] by rw [if_neg (by omega), Nat.add_sub_cancel, List.getElem?_eq_getElem hk2])
      obtain ⟨b2, o2, rfl, hz2, hr2⟩ := HRD.out.at_ (k := k) (by rw [HL.out]; omega)
      have hpw := elem_width hr2 (k := k) (by rw [HL.out]; omega)
      have hpp := elem_pen hr2 (k := k) (by rw [HL.out]; omega)
      rw [take_get (by rw [fixL_length]; omega) (by omega) _ hk2] at hpw hpp
      clear hr2
      by_cases h0 : cs[(k + 1)].width = 0
      · have h0' := beq_yes h0
        have h2' : (cs[(k + 1)].width == 2) = false := beq_no (by omega)
        have H0 := Lib.hid h0
        clear h0
        by_cases hq : (fixL cs)[k].width = 2
        · have hq' := beq_yes hq
          have HQ := Lib.hid hq
          clear hq
          by_cases hnx : (k + 1) + 1 < cs.length
          case neg =>
            have HNX := Lib.hid (show cs[(k + 1) + 1]? = none from List.getElem?_eq_none (by omega))
            have HSE := Lib.hid (show (fixL cs)[(k + 1)]? = some (spacer (fixL cs)[k].pen) by rw [HS.out, HPR.out, HNX.out]; simp [fixStep, H0.out, HQ.out])
            go_wp2_with (at_builtin; (refine wpList_appC rfl _ _ rfl w.heap.size _ _ rfl ((HO.out.alloc _).alloc _) _ 1 [spacer (fixL cs)[k].pen] rfl (RdC.one' _ _ _) (by rw [HL.out]; show _ + 1 ≤ _; omega) (by simp; omega) ?_); intro v1 w1 hown1 hg1 hat1; have hst := fix_app hlt HW.out HO.out HSE.out hown1 hg1; have HST := Lib.hid hst; clear hst hown1 hg1 hat1)
            go_roundw
            case rel => exact ⟨(k + 1) + 1, by omega, by go_num, HST.out.1, HST.out.2⟩
            case measure => simp [intOf]; omega
          have HNX := Lib.hid (List.getElem?_eq_getElem hnx)
          have hnw := elem_width HR.out hnx
          have HSE := Lib.hid (show (fixL cs)[(k + 1)]? = some (spacer (fixL cs)[k].pen) by rw [HS.out, HPR.out, HNX.out]; simp [fixStep, H0.out, HQ.out])
          go_wp2_with (at_builtin; (refine wpList_appC rfl _ _ rfl w.heap.size _ _ rfl ((HO.out.alloc _).alloc _) _ 1 [spacer (fixL cs)[k].pen] rfl (RdC.one' _ _ _) (by rw [HL.out]; show _ + 1 ≤ _; omega) (by simp; omega) ?_); intro v1 w1 hown1 hg1 hat1; have hst := fix_app hlt HW.out HO.out HSE.out hown1 hg1; have HST := Lib.hid hst; clear hst hown1 hg1 hat1)
          go_roundw
          case rel => exact ⟨(k + 1) + 1, by omega, by go_num, HST.out.1, HST.out.2⟩
          case measure => simp [intOf]; omega
        · have hq' := beq_no hq
          have HQ := Lib.hid hq
          clear hq
          by_cases hnx : (k + 1) + 1 < cs.length
          case neg =>
            have HNX := Lib.hid (show cs[(k + 1) + 1]? = none from List.getElem?_eq_none (by omega))
            have HSE := Lib.hid (show (fixL cs)[(k + 1)]? = some (blank cs[(k + 1)].pen) by rw [HS.out, HPR.out, HNX.out]; simp [fixStep, H0.out, HQ.out])
            go_wp2_with (at_builtin; (refine wpList_appC rfl _ _ rfl w.heap.size _ _ rfl ((HO.out.alloc _).alloc _) _ 1 [blank cs[(k + 1)].pen] rfl (RdC.one' _ _ _) (by rw [HL.out]; show _ + 1 ≤ _; omega) (by simp; omega) ?_); intro v1 w1 hown1 hg1 hat1; have hst := fix_app hlt HW.out HO.out HSE.out hown1 hg1; have HST := Lib.hid hst; clear hst hown1 hg1 hat1)
            go_roundw
            case rel => exact ⟨(k + 1) + 1, by omega, by go_num, HST.out.1, HST.out.2⟩
            case measure => simp [intOf]; omega
          have HNX := Lib.hid (List.getElem?_eq_getElem hnx)
          have hnw := elem_width HR.out hnx
          have HSE := Lib.hid (show (fixL cs)[(k + 1)]? = some (blank cs[(k + 1)].pen) by rw [HS.out, HPR.out, HNX.out]; simp [fixStep, H0.out, HQ.out])
          go_wp2_with (at_builtin; (refine wpList_appC rfl _ _ rfl w.heap.size _ _ rfl ((HO.out.alloc _).alloc _) _ 1 [blank cs[(k + 1)].pen] rfl (RdC.one' _ _ _) (by rw [HL.out]; show _ + 1 ≤ _; omega) (by simp; omega) ?_); intro v1 w1 hown1 hg1 hat1; have hst := fix_app hlt HW.out HO.out HSE.out hown1 hg1; have HST := Lib.hid hst; clear hst hown1 hg1 hat1)
          go_roundw
          case rel => exact ⟨(k + 1) + 1, by omega, by go_num, HST.out.1, HST.out.2⟩
          case measure => simp [intOf]; omega
      have h0' := beq_no h0
      have H0 := Lib.hid h0
      clear h0
      by_cases h2 : cs[(k + 1)].width = 2
      · have h2' := beq_yes h2
        have H2 := Lib.hid h2
        clear h2
        by_cases hnx : (k + 1) + 1 < cs.length
        case neg =>
          have HNX := Lib.hid (show cs[(k + 1) + 1]? = none from List.getElem?_eq_none (by omega))
          have HSE := Lib.hid (show (fixL cs)[(k + 1)]? = some (blank cs[(k + 1)].pen) by rw [HS.out, HPR.out, HNX.out]; simp [fixStep, H0.out, H2.out])
          go_wp2_with (at_builtin; (refine wpList_appC rfl _ _ rfl w.heap.size _ _ rfl ((HO.out.alloc _).alloc _) _ 1 [blank cs[(k + 1)].pen] rfl (RdC.one' _ _ _) (by rw [HL.out]; show _ + 1 ≤ _; omega) (by simp; omega) ?_); intro v1 w1 hown1 hg1 hat1; have hst := fix_app hlt HW.out HO.out HSE.out hown1 hg1; have HST := Lib.hid hst; clear hst hown1 hg1 hat1)
          go_roundw
          case rel => exact ⟨(k + 1) + 1, by omega, by go_num, HST.out.1, HST.out.2⟩
          case measure => simp [intOf]; omega
        have HNX := Lib.hid (List.getElem?_eq_getElem hnx)
        have hnw := elem_width HR.out hnx
        by_cases hw : cs[(k + 1) + 1].width = 0
        · have hw' := beq_yes hw
          have HNW := Lib.hid hw
          clear hw
          have HSE := Lib.hid (show (fixL cs)[(k + 1)]? = some (cs[(k + 1)]) by rw [HS.out, HPR.out, HNX.out]; simp [fixStep, H0.out, H2.out, HNW.out])
          go_wp2_with (at_builtin; (refine wpList_appC rfl _ _ rfl w.heap.size _ _ rfl ((HO.out.alloc _).alloc _) _ 1 [cs[(k + 1)]] rfl (RdC.one' _ _ _) (by rw [HL.out]; show _ + 1 ≤ _; omega) (by simp; omega) ?_); intro v1 w1 hown1 hg1 hat1; have hst := fix_app hlt HW.out HO.out HSE.out hown1 hg1; have HST := Lib.hid hst; clear hst hown1 hg1 hat1)
          go_roundw
          case rel => exact ⟨(k + 1) + 1, by omega, by go_num, HST.out.1, HST.out.2⟩
          case measure => simp [intOf]; omega
        · have hw' := beq_no hw
          have HNW := Lib.hid hw
          clear hw
          have HSE := Lib.hid (show (fixL cs)[(k + 1)]? = some (blank cs[(k + 1)].pen) by rw [HS.out, HPR.out, HNX.out]; simp [fixStep, H0.out, H2.out, HNW.out])
          go_wp2_with (at_builtin; (refine wpList_appC rfl _ _ rfl w.heap.size _ _ rfl ((HO.out.alloc _).alloc _) _ 1 [blank cs[(k + 1)].pen] rfl (RdC.one' _ _ _) (by rw [HL.out]; show _ + 1 ≤ _; omega) (by simp; omega) ?_); intro v1 w1 hown1 hg1 hat1; have hst := fix_app hlt HW.out HO.out HSE.out hown1 hg1; have HST := Lib.hid hst; clear hst hown1 hg1 hat1)
          go_roundw
          case rel => exact ⟨(k + 1) + 1, by omega, by go_num, HST.out.1, HST.out.2⟩
          case measure => simp [intOf]; omega
      have h2' := beq_no h2
      have H2 := Lib.hid h2
      clear h2
      by_cases hnx : (k + 1) + 1 < cs.length
      case neg =>
        have HNX := Lib.hid (show cs[(k + 1) + 1]? = none from List.getElem?_eq_none (by omega))
        have HSE := Lib.hid (show (fixL cs)[(k + 1)]? = some (cs[(k + 1)]) by rw [HS.out, HPR.out, HNX.out]; simp [fixStep, H0.out, H2.out])
        go_wp2_with (at_builtin; (refine wpList_appC rfl _ _ rfl w.heap.size _ _ rfl ((HO.out.alloc _).alloc _) _ 1 [cs[(k + 1)]] rfl (RdC.one' _ _ _) (by rw [HL.out]; show _ + 1 ≤ _; omega) (by simp; omega) ?_); intro v1 w1 hown1 hg1 hat1; have hst := fix_app hlt HW.out HO.out HSE.out hown1 hg1; have HST := Lib.hid hst; clear hst hown1 hg1 hat1)
        go_roundw
        case rel => exact ⟨(k + 1) + 1, by omega, by go_num, HST.out.1, HST.out.2⟩
        case measure => simp [intOf]; omega
      have HNX := Lib.hid (List.getElem?_eq_getElem hnx)
      have hnw := elem_width HR.out hnx
      have HSE := Lib.hid (show (fixL cs)[(k + 1)]? = some (cs[(k + 1)]) by rw [HS.out, HPR.out, HNX.out]; simp [fixStep, H0.out, H2.out])
      go_wp2_with (at_builtin; (refine wpList_appC rfl _ _ rfl w.heap.size _ _ rfl ((HO.out.alloc _).alloc _) _ 1 [cs[(k + 1)]] rfl (RdC.one' _ _ _) (by rw [HL.out]; show _ + 1 ≤ _; omega) (by simp; omega) ?_); intro v1 w1 hown1 hg1 hat1; have hst := fix_app hlt HW.out HO.out HSE.out hown1 hg1; have HST := Lib.hid hst; clear hst hown1 hg1 hat1)
      go_roundw
      case rel => exact ⟨(k + 1) + 1, by omega, by go_num, HST.out.1, HST.out.2⟩
      case measure => simp [intOf]; omega
end Go.Proofs.YtmfhepjmmpnkaaaDoor
