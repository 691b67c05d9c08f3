/-
  Contracts of the functions on single cells: Blank, Spacer, Written, Empty, Valid, and the reference's marks, Valid.
-/
import Derived.Test.YtmfhepjmmpnkaaaDoorWidth2
import Derived.Test.YtmfhepjmmpnkaaaDoorMem
set_option linter.unusedSimpArgs false
set_option linter.unusedVariables false
namespace Go.Proofs.YtmfhepjmmpnkaaaDoor
open Go.RowKit

def blank (p : Pen) : Cell := ⟨0, 0, 0, 0, 1, p⟩
def spacer (p : Pen) : Cell := ⟨0, 0, 0, 0, 0, p⟩
def Cell.mark (c : Cell) : Nat → Int
  | 0 => c.m0
  | 1 => c.m1
  | _ => c.m2
def Cell.mOk (c : Cell) : Nat → Bool
  | 0 => decide (c.m0 = 0) || decide (wOf c.m0 = 0)
  | 1 => decide (c.m1 = 0) || (decide (wOf c.m1 = 0) && !decide (c.m0 = 0))
  | _ => decide (c.m2 = 0) || (decide (wOf c.m2 = 0) && !decide (c.m1 = 0))
def Cell.marksOk (c : Cell) : Bool := c.mOk 0 && c.mOk 1 && c.mOk 2
def Cell.noMarks (c : Cell) : Bool := decide ((c.m0, c.m1, c.m2) = (0, 0, 0))
def Cell.ok (c : Cell) : Bool := c.pen.ok && (if c.rune = 0 then (decide (c.width = 0) || decide (c.width = 1)) && c.noMarks else c.marksOk && (decide (0 < c.width) && decide (c.width = wOf c.rune)))

theorem cellBlank_any (p : Pen) (w : World) : Calls Tryd.prog 14 #[.agg (pv p)] w fun e w' => e = .returned (.agg (cv (blank p))) ∧ Below w.heap.size w w' := by
  go_enter Tryd.func14, Tryd.ntmps14
  go_wp2
  exact bodyPost_ret (results_cell_row Tryd.results14 _ _ (w.heap.size + 1) 30 (cv (blank p)) (0, 0) _ rfl (heap_alloc2_new w _ _) Tryd.underlying30 rfl cell_size) rfl ⟨rfl, ((Below.refl _ _).alloc (Nat.le_refl _) _).alloc (by simp) _⟩
theorem cellSpacer_any (p : Pen) (w : World) : Calls Tryd.prog 15 #[.agg (pv p)] w fun e w' => e = .returned (.agg (cv (spacer p))) ∧ Below w.heap.size w w' := by
  go_enter Tryd.func15, Tryd.ntmps15
  go_wp2
  exact bodyPost_ret (results_cell_row Tryd.results15 _ _ (w.heap.size + 1) 30 (cv (spacer p)) (0, 0) _ rfl (heap_alloc2_new w _ _) Tryd.underlying30 rfl cell_size) rfl ⟨rfl, ((Below.refl _ _).alloc (Nat.le_refl _) _).alloc (by simp) _⟩
/-- A box that the walk made, behind a call that only makes memory. -/
theorem box_call {w w2 : World} {c : Array Value} {t : TypeId} {B : Nat} (hb : Below B (w.alloc (.cells c t)) w2) (hB : w.heap.size < B) : Blk w2 w.heap.size t c ∧ Below w.heap.size w w2 :=
  ⟨(Blk.new w t c).below hb hB, ((Below.refl _ _).alloc (Nat.le_refl _) _).trans (hb.mono (by omega))⟩
theorem cellEmpty_any (c : Cell) (w : World) : Calls Tryd.prog 36 #[.agg (cv c)] w fun e w' => e = .returned (.bool (decide (c = blank pen0))) ∧ Below w.heap.size w w' := by
  go_enter Tryd.func36, Tryd.ntmps36
  go_wp2
  refine wp_region_below (by kernel_rfl) (by kernel_rfl) ?_
  repeat (go_big_quiet_step ((go_at_call 14; exact quiet_below (cellBlank_any _ _))))
  refine wpQuiet_nil ?_
  intro w2 hb
  go_wp2
  go_ret
  exact ⟨rfl, (box_call hb (by simp)).2⟩
theorem cellWritten_any (c : Cell) (w : World) : Calls Tryd.prog 35 #[.agg (cv c)] w fun e w' => e = .returned (.bool (!decide (c.rune = 0))) ∧ Below w.heap.size w w' := by
  go_enter Tryd.func35, Tryd.ntmps35
  go_wp2
  go_ret
  exact ⟨by simp; rfl, (Below.refl _ _).alloc (Nat.le_refl _) _⟩

theorem penv_yes {p : Pen} (w : World) (h : p.ok = true) : Calls Tryd.prog 73 #[.agg (pv p)] w fun e w' => e = .returned (.bool true) ∧ Below w.heap.size w w' := pen_yes w h
theorem penv_no {p : Pen} (w : World) (h : p.ok = false) : Calls Tryd.prog 73 #[.agg (pv p)] w fun e w' => e = .returned (.bool false) ∧ Below w.heap.size w w' := pen_no w h
theorem r03v_yes {p : Pen} (w : World) (h : p.ok = true) : Calls Tryd.prog 17 #[.agg (pv p)] w fun e w' => e = .returned (.bool true) ∧ Below w.heap.size w w' := h ▸ r03Valid_any p w
theorem r03v_no {p : Pen} (w : World) (h : p.ok = false) : Calls Tryd.prog 17 #[.agg (pv p)] w fun e w' => e = .returned (.bool false) ∧ Below w.heap.size w w' := h ▸ r03Valid_any p w
theorem width_is {r n : Int} (h : wOf r = n) (w : World) (ht : Tabs w) : Calls Tryd.prog 72 #[.int .i32 r] w fun e w' => e = .returned (.int .i64 n) ∧ Below w.heap.size w w' := h ▸ widthOf_any r w ht

set_option maxHeartbeats 1000000 in
theorem cellValid0 (c : Cell) (w : World) (hp : c.pen.ok = false) : Calls Tryd.prog 32 #[.agg (cv c)] w fun e w' => e = .returned (.bool c.ok) ∧ Below w.heap.size w w' := by
  have HO := Lib.hid (show c.ok = false by simp [Cell.ok, hp])
  have HC := Lib.hid (fun w => penv_no w hp)
  clear hp
  go_enter Tryd.func32, Tryd.ntmps32
  go_wp2_with fail
  refine (HC.out _).mono ?_
  rintro e w1 ⟨rfl, hb⟩
  obtain ⟨hk, hb1⟩ := box_call hb (by simp)
  obtain ⟨hx, hf, hz, hca, hpa⟩ := hk.box
  clear hb hk
  go_wp2_with fail
  go_ret
  exact ⟨by rw [HO.out]; rfl, hb1⟩
set_option maxHeartbeats 1000000 in
theorem cellValid1 (c : Cell) (w : World) (hp : c.pen.ok = true) (hr : c.rune = 0) : Calls Tryd.prog 32 #[.agg (cv c)] w fun e w' => e = .returned (.bool c.ok) ∧ Below w.heap.size w w' := by
  have HO := Lib.hid (show c.ok = ((decide (c.width = 0) || decide (c.width = 1)) && c.noMarks) by simp [Cell.ok, hp, hr])
  have HC := Lib.hid (fun w => penv_yes w hp)
  have hr' : (c.rune == 0) = true := by simpa using hr
  clear hp hr
  by_cases h0 : c.width = 0
  · have h0' : (c.width == 0) = true := by simpa using h0
    have H0 := Lib.hid h0
    clear h0
    go_enter Tryd.func32, Tryd.ntmps32
    go_wp2_with fail
    refine (HC.out _).mono ?_
    rintro e w1 ⟨rfl, hb⟩
    obtain ⟨hk, hb1⟩ := box_call hb (by simp)
    obtain ⟨hx, hf, hz, hca, hpa⟩ := hk.box
    clear hb hk
    go_wp2_with fail
    go_ret
    exact ⟨by rw [HO.out]; simp [H0.out, Cell.noMarks], hb1⟩
  · have h0' := beq_no h0
    have H0 := Lib.hid h0
    clear h0
    by_cases h1 : c.width = 1
    · have h1' : (c.width == 1) = true := by simpa using h1
      have H1 := Lib.hid h1
      clear h1
      go_enter Tryd.func32, Tryd.ntmps32
      go_wp2_with fail
      refine (HC.out _).mono ?_
      rintro e w1 ⟨rfl, hb⟩
      obtain ⟨hk, hb1⟩ := box_call hb (by simp)
      obtain ⟨hx, hf, hz, hca, hpa⟩ := hk.box
      clear hb hk
      go_wp2_with fail
      go_ret
      exact ⟨by rw [HO.out]; simp [H1.out, Cell.noMarks], hb1⟩
    · have h1' := beq_no h1
      have H1 := Lib.hid h1
      clear h1
      go_enter Tryd.func32, Tryd.ntmps32
      go_wp2_with fail
      refine (HC.out _).mono ?_
      rintro e w1 ⟨rfl, hb⟩
      obtain ⟨hk, hb1⟩ := box_call hb (by simp)
      obtain ⟨hx, hf, hz, hca, hpa⟩ := hk.box
      clear hb hk
      go_wp2_with fail
      go_ret
      exact ⟨by rw [HO.out]; simp [H0.out, H1.out], hb1⟩

set_option maxRecDepth 100000 in
set_option maxHeartbeats 4000000 in
theorem cellValid2 (c : Cell) (w : World) (ht : Tabs w) (hp : c.pen.ok = true) (hr : ¬ c.rune = 0) : Calls Tryd.prog 32 #[.agg (cv c)] w fun e w' => e = .returned (.bool c.ok) ∧ Below w.heap.size w w' := by
  have HT := Lib.hid ht
  have HO := Lib.hid (show c.ok = (c.marksOk && (decide (0 < c.width) && decide (c.width = wOf c.rune))) by simp [Cell.ok, hp, hr])
  have HC := Lib.hid (fun w => penv_yes w hp)
  have hr' := beq_no hr
  clear hp hr ht
  go_enter Tryd.func32, Tryd.ntmps32
  go_wp2_with fail
  refine (HC.out _).mono ?_
  rintro e w1 ⟨rfl, hb⟩
  obtain ⟨hk, hb1⟩ := box_call hb (by simp)
  have HB := Lib.hid hb1
  have HX := Lib.hid hk
  obtain ⟨hx, hf, hz, hca, hpa⟩ := hk.box
  clear hb hb1 hk
  go_wp2_with fail
  clear hx hz hf hca hpa
  go_loopw [28] (fun i wr => ∃ k : Nat, k ≤ 3 ∧ i = .int .i64 k ∧ (∀ j, j < k → c.mOk j = true) ∧ Blk wr w.heap.size 30 (cv c) ∧ Below w.heap.size w wr) (fun i _ => 3 - (intOf i).toNat)
  case atStart => exact ⟨0, by omega, rfl, fun j hj => by omega, HX.out, HB.out⟩
  case round =>
    clear HB HX
    obtain ⟨k, hk, rfl, hl, hx, hb⟩ := hrel
    have HL := Lib.hid hl
    have HB := Lib.hid hb
    have HX := Lib.hid hx
    obtain ⟨hx1, hf, hz, hca, hpa⟩ := hx.box
    clear hl hb hx
    have hk4 : k = 0 ∨ k = 1 ∨ k = 2 ∨ k = 3 := by omega
    clear hk
    rcases hk4 with rfl | rfl | rfl | rfl
    -- rounds
    · -- mark 0
      by_cases hm : c.m0 = 0
      · have hm' : (c.m0 != 0) = false := by simpa using hm
        have HK := Lib.hid (show c.mOk 0 = true by simp [Cell.mOk, hm])
        clear hm
        go_wp2_with fail
        go_roundw
        case rel => exact ⟨1, by omega, rfl, upto_succ HL.out HK.out, HX.out, HB.out⟩
        case measure => simp [intOf]
      have hm' := bne_yes hm
      by_cases hw : wOf c.m0 = 0
      · have hw' : (wOf c.m0 != 0) = false := by simpa using hw
        have HK := Lib.hid (show c.mOk 0 = true by simp [Cell.mOk, hm, hw])
        clear hm hw
        go_wp2_with fail
        refine (widthOf_any _ _ (HT.out.bel HB.out)).mono ?_
        rintro e w3 ⟨rfl, hb3⟩
        obtain ⟨hx3, hf3, hz3, hca3, hpa3⟩ := (HX.out.bel hb3).box
        go_wp2_with fail
        go_roundw
        case rel => exact ⟨1, by omega, rfl, upto_succ HL.out HK.out, HX.out.bel hb3, HB.out.trans (hb3.mono HB.out.size)⟩
        case measure => simp [intOf]
      · have hw' := bne_yes hw
        have HK := Lib.hid (show c.marksOk = false by simp [Cell.marksOk, Cell.mOk, hm, hw])
        clear hm hw
        go_wp2_with fail
        refine (widthOf_any _ _ (HT.out.bel HB.out)).mono ?_
        rintro e w3 ⟨rfl, hb3⟩
        obtain ⟨hx3, hf3, hz3, hca3, hpa3⟩ := (HX.out.bel hb3).box
        go_wp2_with fail
        go_ret
        exact ⟨by rw [HO.out, HK.out]; rfl, HB.out.trans (hb3.mono HB.out.size)⟩
    · -- mark 1
      by_cases hm : c.m1 = 0
      · have hm' : (c.m1 != 0) = false := by simpa using hm
        have HK := Lib.hid (show c.mOk 1 = true by simp [Cell.mOk, hm])
        clear hm
        go_wp2_with fail
        go_roundw
        case rel => exact ⟨2, by omega, rfl, upto_succ HL.out HK.out, HX.out, HB.out⟩
        case measure => simp [intOf]
      have hm' := bne_yes hm
      by_cases hw : wOf c.m1 = 0
      · have hw' : (wOf c.m1 != 0) = false := by simpa using hw
        by_cases hq : c.m0 = 0
        · have hq' : (c.m0 == 0) = true := by simpa using hq
          have HK := Lib.hid (show c.marksOk = false by simp [Cell.marksOk, Cell.mOk, hm, hw, hq])
          clear hm hw
          go_wp2_with fail
          refine (widthOf_any _ _ (HT.out.bel HB.out)).mono ?_
          rintro e w3 ⟨rfl, hb3⟩
          obtain ⟨hx3, hf3, hz3, hca3, hpa3⟩ := (HX.out.bel hb3).box
          go_wp2_with fail
          go_ret
          exact ⟨by rw [HO.out, HK.out]; rfl, HB.out.trans (hb3.mono HB.out.size)⟩
        · have hq' := beq_no hq
          have HK := Lib.hid (show c.mOk 1 = true by simp [Cell.mOk, hm, hw, hq])
          clear hm hw
          go_wp2_with fail
          refine (widthOf_any _ _ (HT.out.bel HB.out)).mono ?_
          rintro e w3 ⟨rfl, hb3⟩
          obtain ⟨hx3, hf3, hz3, hca3, hpa3⟩ := (HX.out.bel hb3).box
          go_wp2_with fail
          go_roundw
          case rel => exact ⟨2, by omega, rfl, upto_succ HL.out HK.out, HX.out.bel hb3, HB.out.trans (hb3.mono HB.out.size)⟩
          case measure => simp [intOf]
      · have hw' := bne_yes hw
        have HK := Lib.hid (show c.marksOk = false by simp [Cell.marksOk, Cell.mOk, hm, hw])
        clear hm hw
        go_wp2_with fail
        refine (widthOf_any _ _ (HT.out.bel HB.out)).mono ?_
        rintro e w3 ⟨rfl, hb3⟩
        obtain ⟨hx3, hf3, hz3, hca3, hpa3⟩ := (HX.out.bel hb3).box
        go_wp2_with fail
        go_ret
        exact ⟨by rw [HO.out, HK.out]; rfl, HB.out.trans (hb3.mono HB.out.size)⟩
    · -- mark 2
      by_cases hm : c.m2 = 0
      · have hm' : (c.m2 != 0) = false := by simpa using hm
        have HK := Lib.hid (show c.mOk 2 = true by simp [Cell.mOk, hm])
        clear hm
        go_wp2_with fail
        go_roundw
        case rel => exact ⟨3, by omega, rfl, upto_succ HL.out HK.out, HX.out, HB.out⟩
        case measure => simp [intOf]
      have hm' := bne_yes hm
      by_cases hw : wOf c.m2 = 0
      · have hw' : (wOf c.m2 != 0) = false := by simpa using hw
        by_cases hq : c.m1 = 0
        · have hq' : (c.m1 == 0) = true := by simpa using hq
          have HK := Lib.hid (show c.marksOk = false by simp [Cell.marksOk, Cell.mOk, hm, hw, hq])
          clear hm hw
          go_wp2_with fail
          refine (widthOf_any _ _ (HT.out.bel HB.out)).mono ?_
          rintro e w3 ⟨rfl, hb3⟩
          obtain ⟨hx3, hf3, hz3, hca3, hpa3⟩ := (HX.out.bel hb3).box
          go_wp2_with fail
          go_ret
          exact ⟨by rw [HO.out, HK.out]; rfl, HB.out.trans (hb3.mono HB.out.size)⟩
        · have hq' := beq_no hq
          have HK := Lib.hid (show c.mOk 2 = true by simp [Cell.mOk, hm, hw, hq])
          clear hm hw
          go_wp2_with fail
          refine (widthOf_any _ _ (HT.out.bel HB.out)).mono ?_
          rintro e w3 ⟨rfl, hb3⟩
          obtain ⟨hx3, hf3, hz3, hca3, hpa3⟩ := (HX.out.bel hb3).box
          go_wp2_with fail
          go_roundw
          case rel => exact ⟨3, by omega, rfl, upto_succ HL.out HK.out, HX.out.bel hb3, HB.out.trans (hb3.mono HB.out.size)⟩
          case measure => simp [intOf]
      · have hw' := bne_yes hw
        have HK := Lib.hid (show c.marksOk = false by simp [Cell.marksOk, Cell.mOk, hm, hw])
        clear hm hw
        go_wp2_with fail
        refine (widthOf_any _ _ (HT.out.bel HB.out)).mono ?_
        rintro e w3 ⟨rfl, hb3⟩
        obtain ⟨hx3, hf3, hz3, hca3, hpa3⟩ := (HX.out.bel hb3).box
        go_wp2_with fail
        go_ret
        exact ⟨by rw [HO.out, HK.out]; rfl, HB.out.trans (hb3.mono HB.out.size)⟩
    -- end of rounds
    · have HM := Lib.hid (show c.marksOk = true by simp [Cell.marksOk, HL.out 0 (by omega), HL.out 1 (by omega), HL.out 2 (by omega)])
      by_cases hw : 0 < c.width
      · go_wp2_with fail
        refine wp_region_below (by kernel_rfl) (by kernel_rfl) ?_
        repeat (go_big_quiet_step ((go_at_call 72; exact quiet_below (widthOf_any _ _ ((HT.out.bel HB.out).bel (below_plus _ _))))))
        refine wpQuiet_nil ?_
        intro w2 hb2
        go_wp2_with fail
        go_ret
        exact ⟨by rw [HO.out, HM.out]; simp [hw]; rfl, HB.out.trans (hb2.mono HB.out.size)⟩
      · have hw' : decide (0 < c.width) = false := by simpa using hw
        go_wp2_with fail
        refine wp_region_below (by kernel_rfl) (by kernel_rfl) ?_
        repeat (go_big_quiet_step (fail))
        refine wpQuiet_nil ?_
        intro w2 hb2
        go_wp2_with fail
        go_ret
        exact ⟨by rw [HO.out, HM.out, hw']; rfl, HB.out.trans (hb2.mono HB.out.size)⟩

theorem cellValid_any (c : Cell) (w : World) (ht : Tabs w) : Calls Tryd.prog 32 #[.agg (cv c)] w fun e w' => e = .returned (.bool c.ok) ∧ Below w.heap.size w w' := by
  cases hp : c.pen.ok
  · exact cellValid0 c w hp
  · by_cases hr : c.rune = 0
    · exact cellValid1 c w hp hr
    · exact cellValid2 c w ht hp hr
end Go.Proofs.YtmfhepjmmpnkaaaDoor
