/-
  The reference's marks and Valid of a cell.
-/
import Derived.Test.YtmfhepjmmpnkaaaDoorCell
set_option linter.unusedSimpArgs false
set_option linter.unusedVariables false
namespace Go.Proofs.YtmfhepjmmpnkaaaDoor
open Go.RowKit

def Cell.nMarks (c : Cell) : Int := if c.m0 = 0 then 0 else if c.m1 = 0 then 1 else if c.m2 = 0 then 2 else 3
/-- What the reference's marks gives. -/
def MarksEnd (c : Cell) (e : Ending) : Prop := ∃ n : Int, e = .returned (.tuple #[.int .i64 n, .bool c.marksOk]) ∧ (c.marksOk = true → n = c.nMarks)
theorem marksEnd_no {c : Cell} {n : Int} (h : c.marksOk = false) : MarksEnd c (.returned (.tuple #[.int .i64 n, .bool false])) := ⟨n, by rw [h], by rw [h]; intro h; cases h⟩
theorem marksEnd_yes {c : Cell} {n : Int} (h : c.marksOk = true) (hn : n = c.nMarks) : MarksEnd c (.returned (.tuple #[.int .i64 n, .bool true])) := ⟨n, by rw [h], fun _ => hn⟩

set_option maxRecDepth 100000 in
set_option maxHeartbeats 4000000 in
theorem r04marks_any (c : Cell) (w : World) : Calls Tryd.prog 71 #[.agg (cv c)] w fun e w' => MarksEnd c e ∧ Below w.heap.size w w' := by
  go_enter Tryd.func71, Tryd.ntmps71
  go_wp2_with fail
  go_loopw [4] (fun i wr => ∃ k : Nat, k ≤ 3 ∧ i = .int .i64 k ∧ (∀ j, j < k → ¬ c.mark j = 0 ∧ wOf (c.mark j) = 0) ∧ Blk wr w.heap.size 30 (cv c) ∧ Below w.heap.size w wr) (fun i _ => 3 - (intOf i).toNat)
  case atStart => exact ⟨0, by omega, rfl, fun j hj => by omega, Blk.new _ _ _, (Below.refl _ _).alloc (Nat.le_refl _) _⟩
  case round =>
    obtain ⟨k, hk, rfl, hl, hx, hb⟩ := hrel
    have HL := Lib.hid hl
    have HB := Lib.hid hb
    have HX := Lib.hid hx
    obtain ⟨hx1, hf, hz, hca, hpa⟩ := hx.box
    clear hl hb hx
    have hk4 : k = 0 ∨ k = 1 ∨ k = 2 ∨ k = 3 := by omega
    clear hk
    rcases hk4 with rfl | rfl | rfl | rfl
    · by_cases hm : c.m0 = 0
      · have hm' := bne_no hm
        have HM := Lib.hid hm
        clear hm
        go_wp2_with fail
        go_loop [5] (fun i => ∃ j : Nat, 0 ≤ j ∧ j ≤ 3 ∧ i = .int .i64 j ∧ (∀ t, 0 ≤ t → t < j → c.mark t = 0)) (fun i => 3 - (intOf i).toNat)
        case atStart => exact ⟨0, by omega, by omega, rfl, fun t h1 h2 => by omega⟩
        case round =>
          obtain ⟨j, hj, hj3, rfl, hz0⟩ := hrel
          have HZ := Lib.hid hz0
          clear hz0
          have hj4 : j = 0 ∨ j = 1 ∨ j = 2 ∨ j = 3 := by omega
          clear hj hj3
          rcases hj4 with rfl | rfl | rfl | rfl
          · by_cases hq : c.m0 = 0
            · have hq' := bne_no hq
              have HQ := Lib.hid hq
              clear hq
              go_wp2_with fail
              go_round
              case rel => exact ⟨1, by omega, by omega, rfl, fun t h1 h2 => (Nat.lt_or_ge t 0).elim (fun h => HZ.out t h1 h) (fun h => by obtain rfl : t = 0 := (by omega); exact HQ.out)⟩
              case measure => simp [intOf]
            · have hq' := bne_yes hq
              exact absurd HM.out hq
          · by_cases hq : c.m1 = 0
            · have hq' := bne_no hq
              have HQ := Lib.hid hq
              clear hq
              go_wp2_with fail
              go_round
              case rel => exact ⟨2, by omega, by omega, rfl, fun t h1 h2 => (Nat.lt_or_ge t 1).elim (fun h => HZ.out t h1 h) (fun h => by obtain rfl : t = 1 := (by omega); exact HQ.out)⟩
              case measure => simp [intOf]
            · have hq' := bne_yes hq
              have HO := Lib.hid (show c.marksOk = false by have h1 : c.m0 = 0 := HM.out; simp [Cell.marksOk, Cell.mOk, hq, h1])
              clear hq
              go_wp2_with fail
              go_ret2
              exact ⟨marksEnd_no HO.out, HB.out⟩
          · by_cases hq : c.m2 = 0
            · have hq' := bne_no hq
              have HQ := Lib.hid hq
              clear hq
              go_wp2_with fail
              go_round
              case rel => exact ⟨3, by omega, by omega, rfl, fun t h1 h2 => (Nat.lt_or_ge t 2).elim (fun h => HZ.out t h1 h) (fun h => by obtain rfl : t = 2 := (by omega); exact HQ.out)⟩
              case measure => simp [intOf]
            · have hq' := bne_yes hq
              have HO := Lib.hid (show c.marksOk = false by have h1 : c.m1 = 0 := HZ.out 1 (by omega) (by omega); simp [Cell.marksOk, Cell.mOk, hq, h1])
              clear hq
              go_wp2_with fail
              go_ret2
              exact ⟨marksEnd_no HO.out, HB.out⟩
          · go_wp2_with fail
            go_ret2
            exact ⟨by have a0 : c.m0 = 0 := HZ.out 0 (by omega) (by omega); have a1 : c.m1 = 0 := HZ.out 1 (by omega) (by omega); have a2 : c.m2 = 0 := HZ.out 2 (by omega) (by omega); exact marksEnd_yes (by simp [Cell.marksOk, Cell.mOk, a0, a1, a2]) (by simp [Cell.nMarks, a0, a1, a2]), HB.out⟩
      have hm' := bne_yes hm
      by_cases hw : wOf c.m0 = 0
      · have hw' := bne_no hw
        have HM := Lib.hid hm
        have HW := Lib.hid hw
        clear hm hw
        go_wp2_with fail
        refine (r02Of_any _ _).mono ?_
        rintro e w3 ⟨rfl, hb3⟩
        obtain ⟨hx3, hf3, hz3, hca3, hpa3⟩ := (HX.out.bel hb3).box
        go_wp2_with fail
        go_roundw
        case rel => exact ⟨1, by omega, rfl, upto_succ HL.out ⟨HM.out, HW.out⟩, HX.out.bel hb3, HB.out.trans (hb3.mono HB.out.size)⟩
        case measure => simp [intOf]
      · have hw' := bne_yes hw
        have HO := Lib.hid (show c.marksOk = false by simp [Cell.marksOk, Cell.mOk, hm, hw])
        clear hm hw
        go_wp2_with fail
        refine (r02Of_any _ _).mono ?_
        rintro e w3 ⟨rfl, hb3⟩
        obtain ⟨hx3, hf3, hz3, hca3, hpa3⟩ := (HX.out.bel hb3).box
        go_wp2_with fail
        go_ret2
        exact ⟨marksEnd_no HO.out, HB.out.trans (hb3.mono HB.out.size)⟩
    · by_cases hm : c.m1 = 0
      · have hm' := bne_no hm
        have HM := Lib.hid hm
        clear hm
        go_wp2_with fail
        go_loop [5] (fun i => ∃ j : Nat, 1 ≤ j ∧ j ≤ 3 ∧ i = .int .i64 j ∧ (∀ t, 1 ≤ t → t < j → c.mark t = 0)) (fun i => 3 - (intOf i).toNat)
        case atStart => exact ⟨1, by omega, by omega, rfl, fun t h1 h2 => by omega⟩
        case round =>
          obtain ⟨j, hj, hj3, rfl, hz0⟩ := hrel
          have HZ := Lib.hid hz0
          clear hz0
          have hj4 : j = 1 ∨ j = 2 ∨ j = 3 := by omega
          clear hj hj3
          rcases hj4 with rfl | rfl | rfl
          · by_cases hq : c.m1 = 0
            · have hq' := bne_no hq
              have HQ := Lib.hid hq
              clear hq
              go_wp2_with fail
              go_round
              case rel => exact ⟨2, by omega, by omega, rfl, fun t h1 h2 => (Nat.lt_or_ge t 1).elim (fun h => HZ.out t h1 h) (fun h => by obtain rfl : t = 1 := (by omega); exact HQ.out)⟩
              case measure => simp [intOf]
            · have hq' := bne_yes hq
              exact absurd HM.out hq
          · by_cases hq : c.m2 = 0
            · have hq' := bne_no hq
              have HQ := Lib.hid hq
              clear hq
              go_wp2_with fail
              go_round
              case rel => exact ⟨3, by omega, by omega, rfl, fun t h1 h2 => (Nat.lt_or_ge t 2).elim (fun h => HZ.out t h1 h) (fun h => by obtain rfl : t = 2 := (by omega); exact HQ.out)⟩
              case measure => simp [intOf]
            · have hq' := bne_yes hq
              have HO := Lib.hid (show c.marksOk = false by have h1 : c.m1 = 0 := HM.out; simp [Cell.marksOk, Cell.mOk, hq, h1])
              clear hq
              go_wp2_with fail
              go_ret2
              exact ⟨marksEnd_no HO.out, HB.out⟩
          · go_wp2_with fail
            go_ret2
            exact ⟨by have a0 : ¬ c.m0 = 0 := (HL.out 0 (by omega)).1; have b0 : wOf c.m0 = 0 := (HL.out 0 (by omega)).2; have a1 : c.m1 = 0 := HZ.out 1 (by omega) (by omega); have a2 : c.m2 = 0 := HZ.out 2 (by omega) (by omega); exact marksEnd_yes (by simp [Cell.marksOk, Cell.mOk, a0, a1, a2, b0]) (by simp [Cell.nMarks, a0, a1, a2, b0]), HB.out⟩
      have hm' := bne_yes hm
      by_cases hw : wOf c.m1 = 0
      · have hw' := bne_no hw
        have HM := Lib.hid hm
        have HW := Lib.hid hw
        clear hm hw
        go_wp2_with fail
        refine (r02Of_any _ _).mono ?_
        rintro e w3 ⟨rfl, hb3⟩
        obtain ⟨hx3, hf3, hz3, hca3, hpa3⟩ := (HX.out.bel hb3).box
        go_wp2_with fail
        go_roundw
        case rel => exact ⟨2, by omega, rfl, upto_succ HL.out ⟨HM.out, HW.out⟩, HX.out.bel hb3, HB.out.trans (hb3.mono HB.out.size)⟩
        case measure => simp [intOf]
      · have hw' := bne_yes hw
        have HO := Lib.hid (show c.marksOk = false by simp [Cell.marksOk, Cell.mOk, hm, hw])
        clear hm hw
        go_wp2_with fail
        refine (r02Of_any _ _).mono ?_
        rintro e w3 ⟨rfl, hb3⟩
        obtain ⟨hx3, hf3, hz3, hca3, hpa3⟩ := (HX.out.bel hb3).box
        go_wp2_with fail
        go_ret2
        exact ⟨marksEnd_no HO.out, HB.out.trans (hb3.mono HB.out.size)⟩
    · by_cases hm : c.m2 = 0
      · have hm' := bne_no hm
        have HM := Lib.hid hm
        clear hm
        go_wp2_with fail
        go_loop [5] (fun i => ∃ j : Nat, 2 ≤ j ∧ j ≤ 3 ∧ i = .int .i64 j ∧ (∀ t, 2 ≤ t → t < j → c.mark t = 0)) (fun i => 3 - (intOf i).toNat)
        case atStart => exact ⟨2, by omega, by omega, rfl, fun t h1 h2 => by omega⟩
        case round =>
          obtain ⟨j, hj, hj3, rfl, hz0⟩ := hrel
          have HZ := Lib.hid hz0
          clear hz0
          have hj4 : j = 2 ∨ j = 3 := by omega
          clear hj hj3
          rcases hj4 with rfl | rfl
          · by_cases hq : c.m2 = 0
            · have hq' := bne_no hq
              have HQ := Lib.hid hq
              clear hq
              go_wp2_with fail
              go_round
              case rel => exact ⟨3, by omega, by omega, rfl, fun t h1 h2 => (Nat.lt_or_ge t 2).elim (fun h => HZ.out t h1 h) (fun h => by obtain rfl : t = 2 := (by omega); exact HQ.out)⟩
              case measure => simp [intOf]
            · have hq' := bne_yes hq
              exact absurd HM.out hq
          · go_wp2_with fail
            go_ret2
            exact ⟨by have a0 : ¬ c.m0 = 0 := (HL.out 0 (by omega)).1; have b0 : wOf c.m0 = 0 := (HL.out 0 (by omega)).2; have a1 : ¬ c.m1 = 0 := (HL.out 1 (by omega)).1; have b1 : wOf c.m1 = 0 := (HL.out 1 (by omega)).2; have a2 : c.m2 = 0 := HZ.out 2 (by omega) (by omega); exact marksEnd_yes (by simp [Cell.marksOk, Cell.mOk, a0, a1, a2, b0, b1]) (by simp [Cell.nMarks, a0, a1, a2, b0, b1]), HB.out⟩
      have hm' := bne_yes hm
      by_cases hw : wOf c.m2 = 0
      · have hw' := bne_no hw
        have HM := Lib.hid hm
        have HW := Lib.hid hw
        clear hm hw
        go_wp2_with fail
        refine (r02Of_any _ _).mono ?_
        rintro e w3 ⟨rfl, hb3⟩
        obtain ⟨hx3, hf3, hz3, hca3, hpa3⟩ := (HX.out.bel hb3).box
        go_wp2_with fail
        go_roundw
        case rel => exact ⟨3, by omega, rfl, upto_succ HL.out ⟨HM.out, HW.out⟩, HX.out.bel hb3, HB.out.trans (hb3.mono HB.out.size)⟩
        case measure => simp [intOf]
      · have hw' := bne_yes hw
        have HO := Lib.hid (show c.marksOk = false by simp [Cell.marksOk, Cell.mOk, hm, hw])
        clear hm hw
        go_wp2_with fail
        refine (r02Of_any _ _).mono ?_
        rintro e w3 ⟨rfl, hb3⟩
        obtain ⟨hx3, hf3, hz3, hca3, hpa3⟩ := (HX.out.bel hb3).box
        go_wp2_with fail
        go_ret2
        exact ⟨marksEnd_no HO.out, HB.out.trans (hb3.mono HB.out.size)⟩
    · go_wp2_with fail
      go_loop [5] (fun i => i = .int .i64 3) (fun i => 0)
      case atStart => rfl
      case round =>
        obtain rfl := hrel
        go_wp2_with fail
        go_ret2
        exact ⟨by have a0 := (HL.out 0 (by omega)).1; have a1 := (HL.out 1 (by omega)).1; have a2 := (HL.out 2 (by omega)).1; have b0 := (HL.out 0 (by omega)).2; have b1 := (HL.out 1 (by omega)).2; have b2 := (HL.out 2 (by omega)).2; simp only [Cell.mark] at a0 a1 a2 b0 b1 b2; exact marksEnd_yes (by simp [Cell.marksOk, Cell.mOk, a0, a1, a2, b0, b1, b2]) (by simp [Cell.nMarks, a0, a1, a2]), HB.out⟩

theorem wOf_zero : wOf 0 = -1 := by decide +kernel
theorem wOf_cases (r : Int) : wOf r = -1 ∨ wOf r = 0 ∨ wOf r = 1 ∨ wOf r = 2 := by
  unfold wOf
  by_cases h1 : unprinted r = true
  · simp [h1]
  · by_cases h2 : inTab marksTab r = true
    · simp [h1, h2]
    · by_cases h3 : inTab wideTab r = true <;> simp [h1, h2, h3]
theorem marksOk_n {c : Cell} (h : c.marksOk = true) : (c.nMarks = 0 ↔ c.noMarks = true) := by
  simp only [Cell.marksOk, Cell.mOk, Bool.and_eq_true, Bool.or_eq_true, decide_eq_true_eq, Bool.not_eq_true', decide_eq_false_iff_not] at h
  unfold Cell.nMarks Cell.noMarks
  simp only [Prod.mk.injEq, decide_eq_true_eq]
  by_cases h0 : c.m0 = 0 <;> by_cases h1 : c.m1 = 0 <;> by_cases h2 : c.m2 = 0 <;> simp [h0, h1, h2] at h ⊢
theorem noMarks_ok {c : Cell} (h : c.noMarks = true) : c.marksOk = true := by
  simp only [Cell.noMarks, Prod.mk.injEq, decide_eq_true_eq] at h
  simp [Cell.marksOk, Cell.mOk, h]
/-- The reference's way to say that a cell is right. -/
theorem ok_ref (c : Cell) : c.ok = (c.pen.ok && c.marksOk && (if c.width = 0 then decide (c.rune = 0) && decide (c.nMarks = 0) else if c.width = 1 then (decide (c.rune = 0) && decide (c.nMarks = 0)) || (!decide (c.rune = 0) && decide (wOf c.rune = 1)) else if c.width = 2 then decide (wOf c.rune = 2) else false)) := by
  rw [Bool.eq_iff_iff]
  have hz := wOf_zero
  have hc := wOf_cases c.rune
  have hn := @marksOk_n c
  have ho := @noMarks_ok c
  unfold Cell.ok
  by_cases hr : c.rune = 0
  · rw [hr] at hc ⊢
    simp only [hz]
    by_cases h0 : c.width = 0
    · by_cases hm : c.marksOk = true
      · simp [h0, hm, hn hm]
      · have : ¬ c.noMarks = true := fun h => hm (ho h)
        simp [h0, hm, this]
    · by_cases h1 : c.width = 1
      · by_cases hm : c.marksOk = true
        · simp [h1, hm, hn hm]
        · have : ¬ c.noMarks = true := fun h => hm (ho h)
          simp [h1, hm, this]
      · simp [h0, h1]
  · simp only [hr, if_false]
    by_cases h0 : c.width = 0
    · simp [h0]
    · by_cases h1 : c.width = 1
      · rw [h1, show decide ((1 : Int) = wOf c.rune) = decide (wOf c.rune = 1) from by simp only [eq_comm]]; simp [and_assoc]
      · by_cases h2 : c.width = 2
        · rw [h2, show decide ((2 : Int) = wOf c.rune) = decide (wOf c.rune = 2) from by simp only [eq_comm]]; simp [and_assoc]
        · simp only [h0, h1, h2, if_false, Bool.and_false, Bool.false_eq_true, iff_false]
          simp only [Bool.and_eq_true, decide_eq_true_eq, not_and]
          intro _ _ h; omega

set_option maxHeartbeats 4000000 in
theorem r04Valid_any (c : Cell) (w : World) : Calls Tryd.prog 34 #[.agg (cv c)] w fun e w' => e = .returned (.bool c.ok) ∧ Below w.heap.size w w' := by
  have HO := Lib.hid (ok_ref c)
  cases hp : c.pen.ok
  · have HP := Lib.hid hp
    go_enter Tryd.func34, Tryd.ntmps34
    go_wp2_with fail
    refine (r04marks_any _ _).mono ?_
    rintro e w1 ⟨⟨n, rfl, hn⟩, hb⟩
    obtain ⟨hk, hb1⟩ := box_call hb (by simp)
    have HN := Lib.hid hn
    have HK := Lib.hid hk
    obtain ⟨hx, hf, hz, hca, hpa⟩ := hk.box
    clear hb hk hn
    go_wp2_with fail
    refine (r03v_no _ HP.out).mono ?_
    rintro e w2 ⟨rfl, hb2⟩
    go_wp2_with fail
    go_ret
    exact ⟨by rw [HO.out, HP.out]; rfl, hb1.trans (hb2.mono hb1.size)⟩
  have HP := Lib.hid hp
  clear hp
  cases hm : c.marksOk
  · have HM := Lib.hid hm
    clear hm
    go_enter Tryd.func34, Tryd.ntmps34
    go_wp2_with fail
    refine (r04marks_any _ _).mono ?_
    rintro e w1 ⟨⟨n, rfl, hn⟩, hb⟩
    rw [HM.out]
    obtain ⟨hk, hb1⟩ := box_call hb (by simp)
    obtain ⟨hx, hf, hz, hca, hpa⟩ := hk.box
    clear hb hk hn
    go_wp2_with fail
    refine (r03v_yes _ HP.out).mono ?_
    rintro e w2 ⟨rfl, hb2⟩
    go_wp2_with fail
    go_ret
    exact ⟨by rw [HO.out, HP.out, HM.out]; rfl, hb1.trans (hb2.mono hb1.size)⟩
  have HM := Lib.hid hm
  clear hm
  have H2 : Hid (c.ok = (if c.width = 0 then decide (c.rune = 0) && decide (c.nMarks = 0) else if c.width = 1 then (decide (c.rune = 0) && decide (c.nMarks = 0)) || (!decide (c.rune = 0) && decide (wOf c.rune = 1)) else if c.width = 2 then decide (wOf c.rune = 2) else false)) := Lib.hid (by rw [HO.out, HP.out, HM.out]; simp)
  clear HO
  go_enter Tryd.func34, Tryd.ntmps34
  go_wp2_with fail
  refine (r04marks_any _ _).mono ?_
  rintro e w1 ⟨⟨n, rfl, hn⟩, hb⟩
  rw [HM.out]
  obtain rfl : n = c.nMarks := hn HM.out
  obtain ⟨hk, hb1⟩ := box_call hb (by simp)
  have HK := Lib.hid hk
  obtain ⟨hx, hf, hz, hca, hpa⟩ := hk.box
  clear hb hk hn
  go_wp2_with fail
  refine (r03v_yes _ HP.out).mono ?_
  rintro e w2 ⟨rfl, hb2⟩
  have HB := Lib.hid (hb1.trans (hb2.mono hb1.size))
  obtain ⟨hx2, hf2, hz2, hca2, hpa2⟩ := (HK.out.bel hb2).box
  clear hb1 hb2 hx hf hz hca hpa
  by_cases hr : c.rune = 0
  · have hr' := beq_yes hr
    have hr2 := bne_no hr
    have HR := Lib.hid hr
    clear hr
    have hz0 : (wOf c.rune == 2) = false := by rw [HR.out]; decide +kernel
    by_cases h0 : c.width = 0
    · have h0' := beq_yes h0
      have H0 := Lib.hid h0
      clear h0
      go_wp2_with fail
      go_ret
      exact ⟨by rw [H2.out]; simp [H0.out, HR.out]; rfl, HB.out⟩
    have h0' := beq_no h0
    by_cases h1 : c.width = 1
    · have h1' := beq_yes h1
      have H1 := Lib.hid h1
      clear h1 h0
      by_cases hn : c.nMarks = 0
      · have hn' := beq_yes hn
        have HN := Lib.hid hn
        clear hn
        go_wp2_with fail
        go_ret
        exact ⟨by rw [H2.out]; simp [H1.out, HR.out, HN.out], HB.out⟩
      · have hn' := beq_no hn
        have HN := Lib.hid hn
        clear hn
        go_wp2_with fail
        go_ret
        exact ⟨by rw [H2.out]; simp [H1.out, HR.out, HN.out], HB.out⟩
    have h1' := beq_no h1
    by_cases h2 : c.width = 2
    · have h2' := beq_yes h2
      have H0 := Lib.hid h2
      clear h2 h1 h0
      go_wp2_with fail
      refine (r02Of_any _ _).mono ?_
      rintro e w4 ⟨rfl, hb4⟩
      go_wp2_with fail
      go_ret
      exact ⟨by rw [H2.out]; simp [H0.out]; simpa using hz0, HB.out.trans (hb4.mono HB.out.size)⟩
    · have h2' := beq_no h2
      have H0 := Lib.hid (And.intro h0 (And.intro h1 h2))
      clear h2 h1 h0
      go_wp2_with fail
      go_ret
      exact ⟨by rw [H2.out]; simp [H0.out.1, H0.out.2.1, H0.out.2.2], HB.out⟩
  · have hr' := beq_no hr
    have hr2 := bne_yes hr
    have HR := Lib.hid hr
    clear hr
    by_cases h0 : c.width = 0
    · have h0' := beq_yes h0
      have H0 := Lib.hid h0
      clear h0
      go_wp2_with fail
      go_ret
      exact ⟨by rw [H2.out]; simp [H0.out, HR.out], HB.out⟩
    have h0' := beq_no h0
    by_cases h1 : c.width = 1
    · have h1' := beq_yes h1
      have H1 := Lib.hid h1
      clear h1 h0
      go_wp2_with fail
      refine (r02Of_any _ _).mono ?_
      rintro e w4 ⟨rfl, hb4⟩
      go_wp2_with fail
      go_ret
      exact ⟨by rw [H2.out]; simp [H1.out, HR.out]; rfl, HB.out.trans (hb4.mono HB.out.size)⟩
    have h1' := beq_no h1
    by_cases h2 : c.width = 2
    · have h2' := beq_yes h2
      have H0 := Lib.hid h2
      clear h2 h1 h0
      go_wp2_with fail
      refine (r02Of_any _ _).mono ?_
      rintro e w4 ⟨rfl, hb4⟩
      go_wp2_with fail
      go_ret
      exact ⟨by rw [H2.out]; simp [H0.out]; rfl, HB.out.trans (hb4.mono HB.out.size)⟩
    · have h2' := beq_no h2
      have H0 := Lib.hid (And.intro h0 (And.intro h1 h2))
      clear h2 h1 h0
      go_wp2_with fail
      go_ret
      exact ⟨by rw [H2.out]; simp [H0.out.1, H0.out.2.1, H0.out.2.2], HB.out⟩

end Go.Proofs.YtmfhepjmmpnkaaaDoor
