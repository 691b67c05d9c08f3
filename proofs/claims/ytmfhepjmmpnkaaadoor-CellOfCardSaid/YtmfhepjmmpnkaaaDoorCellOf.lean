/-
  CellOf: the walk.
-/
import Derived.Test.YtmfhepjmmpnkaaaDoorKnown4
set_option linter.unusedSimpArgs false
set_option linter.unusedVariables false
namespace Go.Proofs.YtmfhepjmmpnkaaaDoor
open Go.RowKit

theorem ofIs_bad {r : Int} {p : Pen} (h : wOf r < 1 ∨ p.ok = false) : ofIs r p 2 [] = true := by simp [ofIs, ofCells, h]
theorem ofIs_one {r : Int} {p : Pen} (h : wOf r = 1) (hp : p.ok = true) : ofIs r p 0 [⟨r, 0, 0, 0, 1, p⟩] = true := by simp [ofIs, ofCells, h, hp]
theorem ofIs_two {r : Int} {p : Pen} (h : wOf r = 2) (hp : p.ok = true) : ofIs r p 0 [⟨r, 0, 0, 0, 2, p⟩, ⟨0, 0, 0, 0, 0, p⟩] = true := by simp [ofIs, ofCells, h, hp, spacer]
theorem r02_is {r n : Int} (h : wOf r = n) (w : World) : Calls Tryd.prog 16 #[.int .i32 r] w fun e w' => e = .returned (.int .i64 n) ∧ Below w.heap.size w w' := h ▸ r02Of_any r w

set_option maxRecDepth 100000 in
set_option maxHeartbeats 4000000 in
theorem l04CellOf_any (r : Int) (p : Pen) (w : World) (ht : Tabs w) : Calls Tryd.prog 3 #[.int .i32 r, .agg (pv p)] w fun e w' => e = .returned (.bool true) ∧ Below w.heap.size w w' := by
  have HT := Lib.hid ht
  clear ht
  have hd1 : decide (blank p = ⟨0, 0, 0, 0, 1, p⟩) = true := by simp [blank]
  have hd2 : decide (spacer p = ⟨0, 0, 0, 0, 0, p⟩) = true := by simp [spacer]
  go_enter Tryd.func3, Tryd.ntmps3
  go_wp2_with fail
  refine wp_region_below (by kernel_rfl) (by kernel_rfl) ?_
  repeat (go_big_quiet_step ((first | (go_at_call 14; exact quiet_below (cellBlank_any _ _)) | (go_at_call 15; exact quiet_below (cellSpacer_any _ _)))))
  refine wpQuiet_nil ?_
  intro w1 hb
  obtain ⟨hk, hb1⟩ := box_call hb (by simp)
  have HK := Lib.hid hk
  have HB := Lib.hid hb1
  clear hb hk hb1 hd1 hd2
  by_cases h1 : wOf r < 1
  · have HO := Lib.hid (ofIs_bad (r := r) (p := p) (.inl h1))
    go_wp2_with fail
    refine (r02Of_any _ _).mono ?_
    rintro e w2 ⟨rfl, hb2⟩
    have HK := Lib.hid (HK.out.bel hb2)
    have HB := Lib.hid (HB.out.trans (hb2.mono HB.out.size))
    obtain ⟨hx, hf, hz, hpa⟩ := HK.out.pbox
    clear hb2
    go_wp2_with fail
    refine (of_yes (want := []) HO.out _ _ _ (HT.out.bel HB.out) (RdC.nil _) (by decide)).mono ?_
    rintro e w3 ⟨rfl, hb3⟩
    have HB := Lib.hid (HB.out.trans (hb3.mono HB.out.size))
    clear hb3 hx hf hz hpa
    go_wp2_with fail
    refine (l04known_any _ (HT.out.bel HB.out)).mono ?_
    rintro e w4 ⟨rfl, hb4⟩
    go_wp2_with fail
    go_ret
    exact ⟨rfl, HB.out.trans (hb4.mono HB.out.size)⟩
  cases hp : p.ok
  · have HP := Lib.hid hp
    have HO := Lib.hid (ofIs_bad (r := r) (p := p) (.inr hp))
    clear hp
    go_wp2_with fail
    refine (r02Of_any _ _).mono ?_
    rintro e w2 ⟨rfl, hb2⟩
    have HK := Lib.hid (HK.out.bel hb2)
    have HB := Lib.hid (HB.out.trans (hb2.mono HB.out.size))
    obtain ⟨hx, hf, hz, hpa⟩ := HK.out.pbox
    clear hb2
    go_wp2_with fail
    refine (r03v_no _ HP.out).mono ?_
    rintro e w5 ⟨rfl, hb5⟩
    have HK := Lib.hid (HK.out.bel hb5)
    have HB := Lib.hid (HB.out.trans (hb5.mono HB.out.size))
    clear hb5 hx hf hz hpa
    obtain ⟨hx, hf, hz, hpa⟩ := HK.out.pbox
    go_wp2_with fail
    refine (of_yes (want := []) HO.out _ _ _ (HT.out.bel HB.out) (RdC.nil _) (by decide)).mono ?_
    rintro e w3 ⟨rfl, hb3⟩
    have HB := Lib.hid (HB.out.trans (hb3.mono HB.out.size))
    clear hb3 hx hf hz hpa
    go_wp2_with fail
    refine (l04known_any _ (HT.out.bel HB.out)).mono ?_
    rintro e w4 ⟨rfl, hb4⟩
    go_wp2_with fail
    go_ret
    exact ⟨rfl, HB.out.trans (hb4.mono HB.out.size)⟩
  have HP := Lib.hid hp
  clear hp
  have hcas : wOf r = 1 ∨ wOf r = 2 := by have := wOf_cases r; omega
  rcases hcas with hn | hn
  · have HN := Lib.hid hn
    have HO := Lib.hid (ofIs_one hn HP.out)
    clear hn h1
    go_wp2_with fail
    refine (r02_is HN.out _).mono ?_
    rintro e w2 ⟨rfl, hb2⟩
    have HK := Lib.hid (HK.out.bel hb2)
    have HB := Lib.hid (HB.out.trans (hb2.mono HB.out.size))
    obtain ⟨hx, hf, hz, hpa⟩ := HK.out.pbox
    clear hb2
    go_wp2_with fail
    refine (r03v_yes _ HP.out).mono ?_
    rintro e w5 ⟨rfl, hb5⟩
    have HK := Lib.hid (HK.out.bel hb5)
    have HB := Lib.hid (HB.out.trans (hb5.mono HB.out.size))
    clear hb5 hx hf hz hpa
    obtain ⟨hx, hf, hz, hpa⟩ := HK.out.pbox
    go_wp2_with (first | (refine wpList_bs1 rfl _ rfl _ rfl ?_) | (refine wpList_bs2 rfl _ _ rfl _ _ rfl rfl ?_))
    refine (of_yes (want := [⟨r, 0, 0, 0, 1, p⟩]) HO.out _ _ _ ((HT.out.bel HB.out).bel ((Below.refl _ _).alloc (Nat.le_refl _) _)) (RdC.lit _ _) (by simp)).mono ?_
    rintro e w3 ⟨rfl, hb3⟩
    have HB := Lib.hid (HB.out.trans ((below_one hb3).mono HB.out.size))
    clear hb3 hx hf hz hpa
    go_wp2_with fail
    refine (l04known_any _ (HT.out.bel HB.out)).mono ?_
    rintro e w4 ⟨rfl, hb4⟩
    go_wp2_with fail
    go_ret
    exact ⟨rfl, HB.out.trans (hb4.mono HB.out.size)⟩
  · have HN := Lib.hid hn
    have HO := Lib.hid (ofIs_two hn HP.out)
    clear hn h1
    go_wp2_with fail
    refine (r02_is HN.out _).mono ?_
    rintro e w2 ⟨rfl, hb2⟩
    have HK := Lib.hid (HK.out.bel hb2)
    have HB := Lib.hid (HB.out.trans (hb2.mono HB.out.size))
    obtain ⟨hx, hf, hz, hpa⟩ := HK.out.pbox
    clear hb2
    go_wp2_with fail
    refine (r03v_yes _ HP.out).mono ?_
    rintro e w5 ⟨rfl, hb5⟩
    have HK := Lib.hid (HK.out.bel hb5)
    have HB := Lib.hid (HB.out.trans (hb5.mono HB.out.size))
    clear hb5 hx hf hz hpa
    obtain ⟨hx, hf, hz, hpa⟩ := HK.out.pbox
    go_wp2_with (first | (refine wpList_bs1 rfl _ rfl _ rfl ?_) | (refine wpList_bs2 rfl _ _ rfl _ _ rfl rfl ?_))
    refine (of_yes (want := [⟨r, 0, 0, 0, 2, p⟩, ⟨0, 0, 0, 0, 0, p⟩]) HO.out _ _ _ ((HT.out.bel HB.out).bel ((Below.refl _ _).alloc (Nat.le_refl _) _)) (RdC.lit _ _) (by simp)).mono ?_
    rintro e w3 ⟨rfl, hb3⟩
    have HB := Lib.hid (HB.out.trans ((below_one hb3).mono HB.out.size))
    clear hb3 hx hf hz hpa
    go_wp2_with fail
    refine (l04known_any _ (HT.out.bel HB.out)).mono ?_
    rintro e w4 ⟨rfl, hb4⟩
    go_wp2_with fail
    go_ret
    exact ⟨rfl, HB.out.trans (hb4.mono HB.out.size)⟩
end Go.Proofs.YtmfhepjmmpnkaaaDoor
