/-
  GridSizes: the law returns true.
-/
import Derived.Test.YtppijfjigcoifaaDoorM5
import Derived.Test.YtppijfjigcoifaaDoorM3
set_option linter.unusedSimpArgs false
set_option linter.unusedVariables false
namespace Go.Proofs.YtppijfjigcoifaaDoor
open Go.RowKit

theorem rectN14 (rows cols : Nat) (p : Pen) : Rect cols (List.replicate rows (List.replicate cols (blank p), false)) := fun l hl => by rw [(List.mem_replicate.1 hl).2]; simp
set_option maxRecDepth 100000 in
set_option maxHeartbeats 4000000 in
theorem l14GridSizes_any (rows cols : Int) (w : World) (hT : Tabs w) : Calls Tryd.prog 3 #[.int .i64 rows, .int .i64 cols] w fun e w' => e = .returned (.bool true) ∧ Below w.heap.size w w' := by
  have HT := Lib.hid hT
  clear hT
  by_cases hno : rows < 1 ∨ 1000 < rows ∨ cols < 1 ∨ 1000 < cols
  · have h' : rows < 1 ∨ (1 ≤ rows ∧ 1000 < rows) ∨ ((1 ≤ rows ∧ rows ≤ 1000) ∧ cols < 1) ∨ ((1 ≤ rows ∧ rows ≤ 1000) ∧ 1 ≤ cols ∧ 1000 < cols) := by omega
    have HNO := Lib.hid hno
    clear hno
    rcases h' with h | ⟨h, h2⟩ | ⟨⟨h, h2⟩, h3⟩ | ⟨⟨h, h2⟩, h3, h4⟩
    all_goals
      go_enter Tryd.func3, Tryd.ntmps3
      go_wp2_with fail
      refine (gridNew_no rows cols HNO.out _).mono ?_
      rintro e w1 ⟨rfl, rfl⟩
      go_wp2_with fail
      refine (l14fails_any none 2 2 _).mono ?_
      rintro e w1 ⟨rfl, rfl⟩
      go_wp2_with fail
      refine (l14known_any _ HT.out).mono ?_
      rintro e w1 ⟨rfl, hb⟩
      go_wp2_with fail
      go_ret
      exact ⟨rfl, hb⟩
  obtain ⟨rr, rfl⟩ : ∃ rr : Nat, rows = rr := ⟨rows.toNat, by omega⟩
  obtain ⟨s, rfl⟩ : ∃ s : Nat, cols = s := ⟨cols.toNat, by omega⟩
  have h1 : 1 ≤ rr := by omega
  have h2 : rr ≤ 1000 := by omega
  have h3 : 1 ≤ s := by omega
  have h4 : s ≤ 1000 := by omega
  clear hno
  have e1 : ¬ (rr : Int) < 1 := by omega
  have e2 : ¬ (1000 : Int) < rr := by omega
  have e3 : ¬ (s : Int) < 1 := by omega
  have e4 : ¬ (1000 : Int) < s := by omega
  obtain ⟨L, hL⟩ : ∃ L, L = List.replicate rr (List.replicate s (blank pen0), false) := ⟨_, rfl⟩
  have HL := Lib.hid hL
  have HLL := Lib.hid (show L.length = rr by rw [hL]; simp)
  have HR := Lib.hid (show Rect s L by rw [hL]; exact rectN14 rr s pen0)
  clear hL
  by_cases hbig : 3 < rr ∧ 3 < s
  · have e5 : (3 : Int) < rr := by omega
    have e6 : (3 : Int) < s := by omega
    go_enter Tryd.func3, Tryd.ntmps3
    go_wp2_with fail
    refine (gridNew_yes rr s h1 h2 h3 h4 w _ [] (objs_start w)).mono ?_
    rintro e w1 ⟨p, rfl, hS⟩
    rw [← HL.out] at hS
    have S1 := Lib.hid hS
    clear hS
    go_wp2_with fail
    have hcon := Rows_any S1.out (k := 0) rfl
    rw [HLL.out] at hcon
    refine hcon.mono ?_
    rintro e w2 ⟨rfl, hS⟩
    have S2 := Lib.hid hS
    clear hS S1 hcon
    go_wp2_with fail
    refine (Cols_any S2.out (k := 0) rfl).mono ?_
    rintro e w3 ⟨rfl, hS⟩
    have S3 := Lib.hid hS
    clear hS S2
    go_wp2_with fail
    refine (l14known_any _ (S3.out.tabs HT.out)).mono ?_
    rintro e w4 ⟨rfl, hb⟩
    have HB := Lib.hid (S3.out.bel hb).base
    clear hb
    go_wp2_with fail
    go_ret
    exact ⟨rfl, HB.out⟩
  have hsm : rr ≤ 3 ∨ (3 < rr ∧ s ≤ 3) := by omega
  clear hbig
  rcases hsm with h5 | ⟨h5, h6⟩
  all_goals
    go_enter Tryd.func3, Tryd.ntmps3
    go_wp2_with fail
    refine (gridNew_yes rr s h1 h2 h3 h4 w _ [] (objs_start w)).mono ?_
    rintro e w1 ⟨p, rfl, hS⟩
    rw [← HL.out] at hS
    have S1 := Lib.hid hS
    clear hS
    go_wp2_with fail
    refine (Lines_any S1.out (k := 0) rfl (by omega) (HR.out.mill h4) (by rw [HLL.out]; omega)).mono ?_
    rintro e w2 ⟨v, rfl, hS⟩
    have S2 := Lib.hid hS
    clear hS S1
    go_wp2_with fail
    refine (r14New_any rr s h2 h4 w _ _ S2.out).mono ?_
    rintro e w3 ⟨x, rfl, hS⟩
    rw [← HL.out] at hS
    have S3 := Lib.hid hS
    clear S2
    obtain ⟨A1, c1, rfl, -, hr1⟩ := hS.linesRd (k := 1) rfl
    obtain ⟨Ax, cx, hBx, -, hrx⟩ := hS.gridRd (k := 0) rfl
    obtain ⟨hxx, hfx, hzx⟩ := hBx.facts
    have HR1 := Lib.hid hr1
    have HRX := Lib.hid hrx
    clear hS hr1 hrx hBx
    go_wp2_with fail
    have hcon := r14SameLines_any A1 Ax c1 cx L L w3 HR1.out HRX.out (by rw [HLL.out]; omega) (by rw [HLL.out]; omega) (HR.out.mill h4) (HR.out.mill h4)
    rw [show decide (L = L) = true by simp] at hcon
    refine hcon.mono ?_
    rintro e w4 ⟨rfl, hb⟩
    have S4 := Lib.hid (S3.out.bel hb)
    clear hb hcon hxx hfx hzx HR1 HRX S3
    go_wp2_with fail
    refine (l14known_any _ (S4.out.tabs HT.out)).mono ?_
    rintro e w5 ⟨rfl, hb⟩
    have HB := Lib.hid (S4.out.bel hb).base
    clear hb
    go_wp2_with fail
    go_ret
    exact ⟨rfl, HB.out⟩
end Go.Proofs.YtppijfjigcoifaaDoor
