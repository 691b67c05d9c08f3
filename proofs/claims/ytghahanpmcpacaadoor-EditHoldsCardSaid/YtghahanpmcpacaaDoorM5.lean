/-
  Part 5 of the texts on which the proofs of this seat stand: each part says ahead of it what it shows.
-/
import Derived.Test.YtghahanpmcpacaaDoorM4
import Derived.ProofKit
import Derived.OpenShut
import Derived.Deep.Slices
import Derived.Lib.LaidTab
import Derived.ChangeSame
import Derived.Carry
import Derived.Test.YtghahanpmcpacaaDoorCards
import Derived.Test.YtghahanpmcpacaaDoorTie
import Derived.WalkKit
import Derived.Deep.DeepHandedRow

/-
  Which calls of the chapter on editing are right.
-/
set_option linter.unusedSimpArgs false
set_option linter.unusedVariables false
namespace Go.Proofs.YtghahanpmcpacaaDoor
open Go.RowKit

theorem act18ok_is (what n row col top bot : Int) (pend : Bool) (q : Pen) (R C : Nat) : act18ok ⟨what, n, row, col, pend, top, bot, q⟩ R C = (decide (((0 ≤ row ∧ row < R) ∧ (0 ≤ col ∧ col < C) ∧ (pend = true → col = (C : Int) - 1)) ∧ 0 ≤ n ∧ (what = 0 ∨ what = 1 ∨ (0 ≤ top ∧ top ≤ bot ∧ bot < R))) && q.ok) := by
  rw [Bool.eq_iff_iff, act18ok_iff, ingrid_iff, Bool.and_eq_true, decide_eq_true_eq]
  constructor
  · rintro ⟨h1, h2, h3, h4⟩; exact ⟨⟨h1, h3, h4⟩, h2⟩
  · rintro ⟨⟨h1, h3, h4⟩, h2⟩; exact ⟨h1, h2, h3, h4⟩
section
variable {w0 w : World} {os : List Ob} {k p cols : Nat} {L : List Ln}
set_option maxRecDepth 100000 in
set_option maxHeartbeats 8000000 in
theorem l18right_any (a : Act18) (hT : Tabs w0) (hS : Objs w0 w os) (hk : os[k]? = some (.grid p 63 cols L)) (hcm : cols ≤ 1000) :
    Calls Tryd.prog 30 #[.pointer (some ⟨p, 0, none⟩), .agg (av18 a)] w fun e w' => e = .returned (.bool (act18ok a L.length cols)) ∧ Objs w0 w' os := by
  obtain ⟨what, n, row, col, pend, top, bot, q⟩ := a
  have S := Lib.hid hS
  have HT := Lib.hid hT
  have HK := Lib.hid hk
  have HEQ := Lib.hid (act18ok_is what n row col top bot pend q L.length cols)
  have HWC := Lib.hid (show IntKind.i64.wrap ((cols : Int) - 1) = (cols : Int) - 1 from IntWalk.i64_in _ (by omega))
  clear hS hT hk
  go_enter Tryd.func30, Tryd.ntmps30
  go_upto_region 1 with (fail)
  refine at_objsC S.out.alloc1 (fun W hW => ?_)
  generalize w.heap.size = b3 at hW ⊢
  obtain ⟨hx, hf, hz, hr, hp⟩ := (hW.box (k := 0) rfl).act18
  have S0 := Lib.hid hW
  clear hW
  go_upto_region 2 with (fail)
  refine at_objsC (S0.out.alloc1 (c1 := #[.int .i64 row, .int .i64 col, .bool pend]) (t1 := 25)) (fun W2 hW => ?_)
  generalize W.heap.size = b5 at hW ⊢
  clear hx hf hz hr hp
  have S1 := Lib.hid hW
  have HT2 := Lib.hid (S1.out.tabs HT.out)
  have hwc := HWC.out
  clear hW S0
  by_cases h1 : row < 0
  · have d1 : decide (row < 0) = true := decide_eq_true h1
    have HE := Lib.hid ((HEQ.out.trans (by simp; omega) : _ = false))
    obtain ⟨A1, c1, hB1, hmx1, -⟩ := S1.out.gridRd (k := k + 2) HK.out
    obtain ⟨hx0, hf0, hz0⟩ := hB1.facts
    obtain ⟨hx5, hf5, hz5⟩ := (S1.out.box (k := 0) rfl).facts
    obtain ⟨hx, hf, hz, hr, hp⟩ := (S1.out.box (k := 1) rfl).act18
    clear hB1
    refine wp_region_below (by kernel_rfl) (by kernel_rfl) ?_
    repeat (go_big_quiet_step (first | (go_at_call 60; exact quiet_below (r14Blank_any _ _)) | (go_at_call 53; exact quiet_below (cellValid_any _ _ (HT2.out.bel (below_plus _ _))))))
    refine wpQuiet_nil ?_
    intro w2 hb2
    have S2 := Lib.hid (S1.out.bel hb2)
    clear hb2
    clear hx0 hf0 hz0 hx5 hf5 hz5 hx hf hz hr hp
    go_wp2_with fail
    go_ret
    exact ⟨by rw [HE.out]; rfl, S2.out.tail.tail⟩
  have d1 : decide (row < 0) = false := decide_eq_false h1
  by_cases h2 : (L.length : Int) ≤ row
  · have d2 : decide ((L.length : Int) ≤ row) = true := decide_eq_true h2
    have HE := Lib.hid ((HEQ.out.trans (by simp; omega) : _ = false))
    obtain ⟨A1, c1, hB1, hmx1, -⟩ := S1.out.gridRd (k := k + 2) HK.out
    obtain ⟨hx0, hf0, hz0⟩ := hB1.facts
    obtain ⟨hx5, hf5, hz5⟩ := (S1.out.box (k := 0) rfl).facts
    obtain ⟨hx, hf, hz, hr, hp⟩ := (S1.out.box (k := 1) rfl).act18
    clear hB1
    refine wp_region_below (by kernel_rfl) (by kernel_rfl) ?_
    repeat (go_big_quiet_step (first | (go_at_call 60; exact quiet_below (r14Blank_any _ _)) | (go_at_call 53; exact quiet_below (cellValid_any _ _ (HT2.out.bel (below_plus _ _))))))
    refine wpQuiet_nil ?_
    intro w2 hb2
    have S2 := Lib.hid (S1.out.bel hb2)
    clear hb2
    clear hx0 hf0 hz0 hx5 hf5 hz5 hx hf hz hr hp
    go_wp2_with fail
    go_ret
    exact ⟨by rw [HE.out]; rfl, S2.out.tail.tail⟩
  have d2 : decide ((L.length : Int) ≤ row) = false := decide_eq_false h2
  by_cases h3 : col < 0
  · have d3 : decide (col < 0) = true := decide_eq_true h3
    have HE := Lib.hid ((HEQ.out.trans (by simp; omega) : _ = false))
    obtain ⟨A1, c1, hB1, hmx1, -⟩ := S1.out.gridRd (k := k + 2) HK.out
    obtain ⟨hx0, hf0, hz0⟩ := hB1.facts
    obtain ⟨hx5, hf5, hz5⟩ := (S1.out.box (k := 0) rfl).facts
    obtain ⟨hx, hf, hz, hr, hp⟩ := (S1.out.box (k := 1) rfl).act18
    clear hB1
    refine wp_region_below (by kernel_rfl) (by kernel_rfl) ?_
    repeat (go_big_quiet_step (first | (go_at_call 60; exact quiet_below (r14Blank_any _ _)) | (go_at_call 53; exact quiet_below (cellValid_any _ _ (HT2.out.bel (below_plus _ _))))))
    refine wpQuiet_nil ?_
    intro w2 hb2
    have S2 := Lib.hid (S1.out.bel hb2)
    clear hb2
    clear hx0 hf0 hz0 hx5 hf5 hz5 hx hf hz hr hp
    go_wp2_with fail
    go_ret
    exact ⟨by rw [HE.out]; rfl, S2.out.tail.tail⟩
  have d3 : decide (col < 0) = false := decide_eq_false h3
  by_cases h4 : (cols : Int) ≤ col
  · have d4 : decide ((cols : Int) ≤ col) = true := decide_eq_true h4
    have HE := Lib.hid ((HEQ.out.trans (by simp; omega) : _ = false))
    obtain ⟨A1, c1, hB1, hmx1, -⟩ := S1.out.gridRd (k := k + 2) HK.out
    obtain ⟨hx0, hf0, hz0⟩ := hB1.facts
    obtain ⟨hx5, hf5, hz5⟩ := (S1.out.box (k := 0) rfl).facts
    obtain ⟨hx, hf, hz, hr, hp⟩ := (S1.out.box (k := 1) rfl).act18
    clear hB1
    refine wp_region_below (by kernel_rfl) (by kernel_rfl) ?_
    repeat (go_big_quiet_step (first | (go_at_call 60; exact quiet_below (r14Blank_any _ _)) | (go_at_call 53; exact quiet_below (cellValid_any _ _ (HT2.out.bel (below_plus _ _))))))
    refine wpQuiet_nil ?_
    intro w2 hb2
    have S2 := Lib.hid (S1.out.bel hb2)
    clear hb2
    clear hx0 hf0 hz0 hx5 hf5 hz5 hx hf hz hr hp
    go_wp2_with fail
    go_ret
    exact ⟨by rw [HE.out]; rfl, S2.out.tail.tail⟩
  have d4 : decide ((cols : Int) ≤ col) = false := decide_eq_false h4
  cases pend with
  | true =>
    by_cases h5 : col = (cols : Int) - 1
    · have h5b := bne_no h5
      have HP := Lib.hid h5
      clear h5
      by_cases h6 : n < 0
      · have d6 : decide (n < 0) = true := decide_eq_true h6
        have HE := Lib.hid ((HEQ.out.trans (by have h5 := HP.out; simp; omega) : _ = false))
        obtain ⟨A1, c1, hB1, hmx1, -⟩ := S1.out.gridRd (k := k + 2) HK.out
        obtain ⟨hx0, hf0, hz0⟩ := hB1.facts
        obtain ⟨hx5, hf5, hz5⟩ := (S1.out.box (k := 0) rfl).facts
        obtain ⟨hx, hf, hz, hr, hp⟩ := (S1.out.box (k := 1) rfl).act18
        clear hB1
        refine wp_region_below (by kernel_rfl) (by kernel_rfl) ?_
        repeat (go_big_quiet_step (first | (go_at_call 60; exact quiet_below (r14Blank_any _ _)) | (go_at_call 53; exact quiet_below (cellValid_any _ _ (HT2.out.bel (below_plus _ _))))))
        refine wpQuiet_nil ?_
        intro w2 hb2
        have S2 := Lib.hid (S1.out.bel hb2)
        clear hb2
        clear hx0 hf0 hz0 hx5 hf5 hz5 hx hf hz hr hp
        go_wp2_with fail
        go_ret
        exact ⟨by rw [HE.out]; rfl, S2.out.tail.tail⟩
      have d6 : decide (n < 0) = false := decide_eq_false h6
      cases hq : q.ok with
      | false =>
        have HQ := Lib.hid hq
        have HE := Lib.hid ((HEQ.out.trans (by have h5 := HP.out; rw [hq]; simp) : _ = false))
        clear hq
        have hqb : (blank q).ok = false := by rw [ok_blank]; exact HQ.out
        obtain ⟨A1, c1, hB1, hmx1, -⟩ := S1.out.gridRd (k := k + 2) HK.out
        obtain ⟨hx0, hf0, hz0⟩ := hB1.facts
        obtain ⟨hx5, hf5, hz5⟩ := (S1.out.box (k := 0) rfl).facts
        obtain ⟨hx, hf, hz, hr, hp⟩ := (S1.out.box (k := 1) rfl).act18
        clear hB1
        refine wp_region_below (by kernel_rfl) (by kernel_rfl) ?_
        repeat (go_big_quiet_step (first | (go_at_call 60; exact quiet_below (r14Blank_any _ _)) | (go_at_call 53; exact quiet_below (cellValid_any _ _ (HT2.out.bel (below_plus _ _))))))
        refine wpQuiet_nil ?_
        intro w2 hb2
        have S2 := Lib.hid (S1.out.bel hb2)
        clear hb2
        clear hx0 hf0 hz0 hx5 hf5 hz5 hx hf hz hr hp
        go_wp2_with fail
        go_ret
        exact ⟨by rw [HE.out]; rfl, S2.out.tail.tail⟩
      | true =>
        have HQ := Lib.hid hq
        clear hq
        have hqb : (blank q).ok = true := by rw [ok_blank]; exact HQ.out
        obtain ⟨A1, c1, hB1, hmx1, -⟩ := S1.out.gridRd (k := k + 2) HK.out
        obtain ⟨hx0, hf0, hz0⟩ := hB1.facts
        obtain ⟨hx5, hf5, hz5⟩ := (S1.out.box (k := 0) rfl).facts
        obtain ⟨hx, hf, hz, hr, hp⟩ := (S1.out.box (k := 1) rfl).act18
        clear hB1
        refine wp_region_below (by kernel_rfl) (by kernel_rfl) ?_
        repeat (go_big_quiet_step (first | (go_at_call 60; exact quiet_below (r14Blank_any _ _)) | (go_at_call 53; exact quiet_below (cellValid_any _ _ (HT2.out.bel (below_plus _ _))))))
        refine wpQuiet_nil ?_
        intro w2 hb2
        have S2 := Lib.hid (S1.out.bel hb2)
        clear hb2
        clear hx0 hf0 hz0 hx5 hf5 hz5 hx hf hz hr hp
        by_cases g0 : what = 0
        · have g0b := beq_yes g0
          have HW0 := Lib.hid g0
          clear g0
          have HE := Lib.hid ((HEQ.out.trans (by have h5 := HP.out; have hq0 := HQ.out; have g0 := HW0.out; simp [hq0]; omega) : _ = true))
          obtain ⟨A2, c2, hB2, hmx2, -⟩ := S2.out.gridRd (k := k + 2) HK.out
          obtain ⟨hx0, hf0, hz0⟩ := hB2.facts
          obtain ⟨hx5, hf5, hz5⟩ := (S2.out.box (k := 0) rfl).facts
          obtain ⟨hx, hf, hz, hr, hp⟩ := (S2.out.box (k := 1) rfl).act18
          clear hB2
          go_upto_region 4 with (fail)
          refine wp_region_below (by kernel_rfl) (by kernel_rfl) ?_
          repeat (go_big_quiet_step (first | (go_at_call 60; exact quiet_below (r14Blank_any _ _)) | (go_at_call 53; exact quiet_below (cellValid_any _ _ (HT2.out.bel (below_plus _ _))))))
          refine wpQuiet_nil ?_
          intro w3 hb3
          have S3 := Lib.hid (S2.out.bel hb3)
          clear hb3
          clear hx0 hf0 hz0 hx5 hf5 hz5 hx hf hz hr hp
          go_wp2_with fail
          go_ret
          exact ⟨by rw [HE.out]; rfl, S3.out.tail.tail⟩
        have g0b := beq_no g0
        by_cases g1 : what = 1
        · have g1b := beq_yes g1
          have HW1 := Lib.hid g1
          clear g1 g0
          have HE := Lib.hid ((HEQ.out.trans (by have h5 := HP.out; have hq0 := HQ.out; have g1 := HW1.out; simp [hq0]; omega) : _ = true))
          obtain ⟨A2, c2, hB2, hmx2, -⟩ := S2.out.gridRd (k := k + 2) HK.out
          obtain ⟨hx0, hf0, hz0⟩ := hB2.facts
          obtain ⟨hx5, hf5, hz5⟩ := (S2.out.box (k := 0) rfl).facts
          obtain ⟨hx, hf, hz, hr, hp⟩ := (S2.out.box (k := 1) rfl).act18
          clear hB2
          go_upto_region 4 with (fail)
          refine wp_region_below (by kernel_rfl) (by kernel_rfl) ?_
          repeat (go_big_quiet_step (first | (go_at_call 60; exact quiet_below (r14Blank_any _ _)) | (go_at_call 53; exact quiet_below (cellValid_any _ _ (HT2.out.bel (below_plus _ _))))))
          refine wpQuiet_nil ?_
          intro w3 hb3
          have S3 := Lib.hid (S2.out.bel hb3)
          clear hb3
          clear hx0 hf0 hz0 hx5 hf5 hz5 hx hf hz hr hp
          go_wp2_with fail
          go_ret
          exact ⟨by rw [HE.out]; rfl, S3.out.tail.tail⟩
        have g1b := beq_no g1
        by_cases g2 : 0 ≤ top
        · have g2b : decide (0 ≤ top) = true := decide_eq_true g2
          by_cases g3 : top ≤ bot
          · have g3b : decide (top ≤ bot) = true := decide_eq_true g3
            by_cases g4 : bot < (L.length : Int)
            · have g4b : decide (bot < (L.length : Int)) = true := decide_eq_true g4
              have HE := Lib.hid ((HEQ.out.trans (by have h5 := HP.out; have hq0 := HQ.out; simp [hq0]; omega) : _ = true))
              obtain ⟨A2, c2, hB2, hmx2, -⟩ := S2.out.gridRd (k := k + 2) HK.out
              obtain ⟨hx0, hf0, hz0⟩ := hB2.facts
              obtain ⟨hx5, hf5, hz5⟩ := (S2.out.box (k := 0) rfl).facts
              obtain ⟨hx, hf, hz, hr, hp⟩ := (S2.out.box (k := 1) rfl).act18
              clear hB2
              go_upto_region 4 with (fail)
              refine wp_region_below (by kernel_rfl) (by kernel_rfl) ?_
              repeat (go_big_quiet_step (first | (go_at_call 60; exact quiet_below (r14Blank_any _ _)) | (go_at_call 53; exact quiet_below (cellValid_any _ _ (HT2.out.bel (below_plus _ _))))))
              refine wpQuiet_nil ?_
              intro w3 hb3
              have S3 := Lib.hid (S2.out.bel hb3)
              clear hb3
              clear hx0 hf0 hz0 hx5 hf5 hz5 hx hf hz hr hp
              go_wp2_with fail
              go_ret
              exact ⟨by rw [HE.out]; rfl, S3.out.tail.tail⟩
            · have g4b : decide (bot < (L.length : Int)) = false := decide_eq_false g4
              have HE := Lib.hid ((HEQ.out.trans (by have h5 := HP.out; have hq0 := HQ.out; simp [hq0]; omega) : _ = false))
              obtain ⟨A2, c2, hB2, hmx2, -⟩ := S2.out.gridRd (k := k + 2) HK.out
              obtain ⟨hx0, hf0, hz0⟩ := hB2.facts
              obtain ⟨hx5, hf5, hz5⟩ := (S2.out.box (k := 0) rfl).facts
              obtain ⟨hx, hf, hz, hr, hp⟩ := (S2.out.box (k := 1) rfl).act18
              clear hB2
              go_upto_region 4 with (fail)
              refine wp_region_below (by kernel_rfl) (by kernel_rfl) ?_
              repeat (go_big_quiet_step (first | (go_at_call 60; exact quiet_below (r14Blank_any _ _)) | (go_at_call 53; exact quiet_below (cellValid_any _ _ (HT2.out.bel (below_plus _ _))))))
              refine wpQuiet_nil ?_
              intro w3 hb3
              have S3 := Lib.hid (S2.out.bel hb3)
              clear hb3
              clear hx0 hf0 hz0 hx5 hf5 hz5 hx hf hz hr hp
              go_wp2_with fail
              go_ret
              exact ⟨by rw [HE.out]; rfl, S3.out.tail.tail⟩
          · have g3b : decide (top ≤ bot) = false := decide_eq_false g3
            have HE := Lib.hid ((HEQ.out.trans (by have h5 := HP.out; have hq0 := HQ.out; simp [hq0]; omega) : _ = false))
            obtain ⟨A2, c2, hB2, hmx2, -⟩ := S2.out.gridRd (k := k + 2) HK.out
            obtain ⟨hx0, hf0, hz0⟩ := hB2.facts
            obtain ⟨hx5, hf5, hz5⟩ := (S2.out.box (k := 0) rfl).facts
            obtain ⟨hx, hf, hz, hr, hp⟩ := (S2.out.box (k := 1) rfl).act18
            clear hB2
            go_upto_region 4 with (fail)
            refine wp_region_below (by kernel_rfl) (by kernel_rfl) ?_
            repeat (go_big_quiet_step (first | (go_at_call 60; exact quiet_below (r14Blank_any _ _)) | (go_at_call 53; exact quiet_below (cellValid_any _ _ (HT2.out.bel (below_plus _ _))))))
            refine wpQuiet_nil ?_
            intro w3 hb3
            have S3 := Lib.hid (S2.out.bel hb3)
            clear hb3
            clear hx0 hf0 hz0 hx5 hf5 hz5 hx hf hz hr hp
            go_wp2_with fail
            go_ret
            exact ⟨by rw [HE.out]; rfl, S3.out.tail.tail⟩
        · have g2b : decide (0 ≤ top) = false := decide_eq_false g2
          have HE := Lib.hid ((HEQ.out.trans (by have h5 := HP.out; have hq0 := HQ.out; simp [hq0]; omega) : _ = false))
          obtain ⟨A2, c2, hB2, hmx2, -⟩ := S2.out.gridRd (k := k + 2) HK.out
          obtain ⟨hx0, hf0, hz0⟩ := hB2.facts
          obtain ⟨hx5, hf5, hz5⟩ := (S2.out.box (k := 0) rfl).facts
          obtain ⟨hx, hf, hz, hr, hp⟩ := (S2.out.box (k := 1) rfl).act18
          clear hB2
          go_upto_region 4 with (fail)
          refine wp_region_below (by kernel_rfl) (by kernel_rfl) ?_
          repeat (go_big_quiet_step (first | (go_at_call 60; exact quiet_below (r14Blank_any _ _)) | (go_at_call 53; exact quiet_below (cellValid_any _ _ (HT2.out.bel (below_plus _ _))))))
          refine wpQuiet_nil ?_
          intro w3 hb3
          have S3 := Lib.hid (S2.out.bel hb3)
          clear hb3
          clear hx0 hf0 hz0 hx5 hf5 hz5 hx hf hz hr hp
          go_wp2_with fail
          go_ret
          exact ⟨by rw [HE.out]; rfl, S3.out.tail.tail⟩
    · have h5b := bne_yes h5
      have HE := Lib.hid ((HEQ.out.trans (by simp; omega) : _ = false))
      obtain ⟨A1, c1, hB1, hmx1, -⟩ := S1.out.gridRd (k := k + 2) HK.out
      obtain ⟨hx0, hf0, hz0⟩ := hB1.facts
      obtain ⟨hx5, hf5, hz5⟩ := (S1.out.box (k := 0) rfl).facts
      obtain ⟨hx, hf, hz, hr, hp⟩ := (S1.out.box (k := 1) rfl).act18
      clear hB1
      refine wp_region_below (by kernel_rfl) (by kernel_rfl) ?_
      repeat (go_big_quiet_step (first | (go_at_call 60; exact quiet_below (r14Blank_any _ _)) | (go_at_call 53; exact quiet_below (cellValid_any _ _ (HT2.out.bel (below_plus _ _))))))
      refine wpQuiet_nil ?_
      intro w2 hb2
      have S2 := Lib.hid (S1.out.bel hb2)
      clear hb2
      clear hx0 hf0 hz0 hx5 hf5 hz5 hx hf hz hr hp
      go_wp2_with fail
      go_ret
      exact ⟨by rw [HE.out]; rfl, S2.out.tail.tail⟩
  | false =>
    by_cases h6 : n < 0
    · have d6 : decide (n < 0) = true := decide_eq_true h6
      have HE := Lib.hid ((HEQ.out.trans (by simp; omega) : _ = false))
      obtain ⟨A1, c1, hB1, hmx1, -⟩ := S1.out.gridRd (k := k + 2) HK.out
      obtain ⟨hx0, hf0, hz0⟩ := hB1.facts
      obtain ⟨hx5, hf5, hz5⟩ := (S1.out.box (k := 0) rfl).facts
      obtain ⟨hx, hf, hz, hr, hp⟩ := (S1.out.box (k := 1) rfl).act18
      clear hB1
      refine wp_region_below (by kernel_rfl) (by kernel_rfl) ?_
      repeat (go_big_quiet_step (first | (go_at_call 60; exact quiet_below (r14Blank_any _ _)) | (go_at_call 53; exact quiet_below (cellValid_any _ _ (HT2.out.bel (below_plus _ _))))))
      refine wpQuiet_nil ?_
      intro w2 hb2
      have S2 := Lib.hid (S1.out.bel hb2)
      clear hb2
      clear hx0 hf0 hz0 hx5 hf5 hz5 hx hf hz hr hp
      go_wp2_with fail
      go_ret
      exact ⟨by rw [HE.out]; rfl, S2.out.tail.tail⟩
    have d6 : decide (n < 0) = false := decide_eq_false h6
    cases hq : q.ok with
    | false =>
      have HQ := Lib.hid hq
      have HE := Lib.hid ((HEQ.out.trans (by rw [hq]; simp) : _ = false))
      clear hq
      have hqb : (blank q).ok = false := by rw [ok_blank]; exact HQ.out
      obtain ⟨A1, c1, hB1, hmx1, -⟩ := S1.out.gridRd (k := k + 2) HK.out
      obtain ⟨hx0, hf0, hz0⟩ := hB1.facts
      obtain ⟨hx5, hf5, hz5⟩ := (S1.out.box (k := 0) rfl).facts
      obtain ⟨hx, hf, hz, hr, hp⟩ := (S1.out.box (k := 1) rfl).act18
      clear hB1
      refine wp_region_below (by kernel_rfl) (by kernel_rfl) ?_
      repeat (go_big_quiet_step (first | (go_at_call 60; exact quiet_below (r14Blank_any _ _)) | (go_at_call 53; exact quiet_below (cellValid_any _ _ (HT2.out.bel (below_plus _ _))))))
      refine wpQuiet_nil ?_
      intro w2 hb2
      have S2 := Lib.hid (S1.out.bel hb2)
      clear hb2
      clear hx0 hf0 hz0 hx5 hf5 hz5 hx hf hz hr hp
      go_wp2_with fail
      go_ret
      exact ⟨by rw [HE.out]; rfl, S2.out.tail.tail⟩
    | true =>
      have HQ := Lib.hid hq
      clear hq
      have hqb : (blank q).ok = true := by rw [ok_blank]; exact HQ.out
      obtain ⟨A1, c1, hB1, hmx1, -⟩ := S1.out.gridRd (k := k + 2) HK.out
      obtain ⟨hx0, hf0, hz0⟩ := hB1.facts
      obtain ⟨hx5, hf5, hz5⟩ := (S1.out.box (k := 0) rfl).facts
      obtain ⟨hx, hf, hz, hr, hp⟩ := (S1.out.box (k := 1) rfl).act18
      clear hB1
      refine wp_region_below (by kernel_rfl) (by kernel_rfl) ?_
      repeat (go_big_quiet_step (first | (go_at_call 60; exact quiet_below (r14Blank_any _ _)) | (go_at_call 53; exact quiet_below (cellValid_any _ _ (HT2.out.bel (below_plus _ _))))))
      refine wpQuiet_nil ?_
      intro w2 hb2
      have S2 := Lib.hid (S1.out.bel hb2)
      clear hb2
      clear hx0 hf0 hz0 hx5 hf5 hz5 hx hf hz hr hp
      by_cases g0 : what = 0
      · have g0b := beq_yes g0
        have HW0 := Lib.hid g0
        clear g0
        have HE := Lib.hid ((HEQ.out.trans (by have hq0 := HQ.out; have g0 := HW0.out; simp [hq0]; omega) : _ = true))
        obtain ⟨A2, c2, hB2, hmx2, -⟩ := S2.out.gridRd (k := k + 2) HK.out
        obtain ⟨hx0, hf0, hz0⟩ := hB2.facts
        obtain ⟨hx5, hf5, hz5⟩ := (S2.out.box (k := 0) rfl).facts
        obtain ⟨hx, hf, hz, hr, hp⟩ := (S2.out.box (k := 1) rfl).act18
        clear hB2
        go_upto_region 4 with (fail)
        refine wp_region_below (by kernel_rfl) (by kernel_rfl) ?_
        repeat (go_big_quiet_step (first | (go_at_call 60; exact quiet_below (r14Blank_any _ _)) | (go_at_call 53; exact quiet_below (cellValid_any _ _ (HT2.out.bel (below_plus _ _))))))
        refine wpQuiet_nil ?_
        intro w3 hb3
        have S3 := Lib.hid (S2.out.bel hb3)
        clear hb3
        clear hx0 hf0 hz0 hx5 hf5 hz5 hx hf hz hr hp
        go_wp2_with fail
        go_ret
        exact ⟨by rw [HE.out]; rfl, S3.out.tail.tail⟩
      have g0b := beq_no g0
      by_cases g1 : what = 1
      · have g1b := beq_yes g1
        have HW1 := Lib.hid g1
        clear g1 g0
        have HE := Lib.hid ((HEQ.out.trans (by have hq0 := HQ.out; have g1 := HW1.out; simp [hq0]; omega) : _ = true))
        obtain ⟨A2, c2, hB2, hmx2, -⟩ := S2.out.gridRd (k := k + 2) HK.out
        obtain ⟨hx0, hf0, hz0⟩ := hB2.facts
        obtain ⟨hx5, hf5, hz5⟩ := (S2.out.box (k := 0) rfl).facts
        obtain ⟨hx, hf, hz, hr, hp⟩ := (S2.out.box (k := 1) rfl).act18
        clear hB2
        go_upto_region 4 with (fail)
        refine wp_region_below (by kernel_rfl) (by kernel_rfl) ?_
        repeat (go_big_quiet_step (first | (go_at_call 60; exact quiet_below (r14Blank_any _ _)) | (go_at_call 53; exact quiet_below (cellValid_any _ _ (HT2.out.bel (below_plus _ _))))))
        refine wpQuiet_nil ?_
        intro w3 hb3
        have S3 := Lib.hid (S2.out.bel hb3)
        clear hb3
        clear hx0 hf0 hz0 hx5 hf5 hz5 hx hf hz hr hp
        go_wp2_with fail
        go_ret
        exact ⟨by rw [HE.out]; rfl, S3.out.tail.tail⟩
      have g1b := beq_no g1
      by_cases g2 : 0 ≤ top
      · have g2b : decide (0 ≤ top) = true := decide_eq_true g2
        by_cases g3 : top ≤ bot
        · have g3b : decide (top ≤ bot) = true := decide_eq_true g3
          by_cases g4 : bot < (L.length : Int)
          · have g4b : decide (bot < (L.length : Int)) = true := decide_eq_true g4
            have HE := Lib.hid ((HEQ.out.trans (by have hq0 := HQ.out; simp [hq0]; omega) : _ = true))
            obtain ⟨A2, c2, hB2, hmx2, -⟩ := S2.out.gridRd (k := k + 2) HK.out
            obtain ⟨hx0, hf0, hz0⟩ := hB2.facts
            obtain ⟨hx5, hf5, hz5⟩ := (S2.out.box (k := 0) rfl).facts
            obtain ⟨hx, hf, hz, hr, hp⟩ := (S2.out.box (k := 1) rfl).act18
            clear hB2
            go_upto_region 4 with (fail)
            refine wp_region_below (by kernel_rfl) (by kernel_rfl) ?_
            repeat (go_big_quiet_step (first | (go_at_call 60; exact quiet_below (r14Blank_any _ _)) | (go_at_call 53; exact quiet_below (cellValid_any _ _ (HT2.out.bel (below_plus _ _))))))
            refine wpQuiet_nil ?_
            intro w3 hb3
            have S3 := Lib.hid (S2.out.bel hb3)
            clear hb3
            clear hx0 hf0 hz0 hx5 hf5 hz5 hx hf hz hr hp
            go_wp2_with fail
            go_ret
            exact ⟨by rw [HE.out]; rfl, S3.out.tail.tail⟩
          · have g4b : decide (bot < (L.length : Int)) = false := decide_eq_false g4
            have HE := Lib.hid ((HEQ.out.trans (by have hq0 := HQ.out; simp [hq0]; omega) : _ = false))
            obtain ⟨A2, c2, hB2, hmx2, -⟩ := S2.out.gridRd (k := k + 2) HK.out
            obtain ⟨hx0, hf0, hz0⟩ := hB2.facts
            obtain ⟨hx5, hf5, hz5⟩ := (S2.out.box (k := 0) rfl).facts
            obtain ⟨hx, hf, hz, hr, hp⟩ := (S2.out.box (k := 1) rfl).act18
            clear hB2
            go_upto_region 4 with (fail)
            refine wp_region_below (by kernel_rfl) (by kernel_rfl) ?_
            repeat (go_big_quiet_step (first | (go_at_call 60; exact quiet_below (r14Blank_any _ _)) | (go_at_call 53; exact quiet_below (cellValid_any _ _ (HT2.out.bel (below_plus _ _))))))
            refine wpQuiet_nil ?_
            intro w3 hb3
            have S3 := Lib.hid (S2.out.bel hb3)
            clear hb3
            clear hx0 hf0 hz0 hx5 hf5 hz5 hx hf hz hr hp
            go_wp2_with fail
            go_ret
            exact ⟨by rw [HE.out]; rfl, S3.out.tail.tail⟩
        · have g3b : decide (top ≤ bot) = false := decide_eq_false g3
          have HE := Lib.hid ((HEQ.out.trans (by have hq0 := HQ.out; simp [hq0]; omega) : _ = false))
          obtain ⟨A2, c2, hB2, hmx2, -⟩ := S2.out.gridRd (k := k + 2) HK.out
          obtain ⟨hx0, hf0, hz0⟩ := hB2.facts
          obtain ⟨hx5, hf5, hz5⟩ := (S2.out.box (k := 0) rfl).facts
          obtain ⟨hx, hf, hz, hr, hp⟩ := (S2.out.box (k := 1) rfl).act18
          clear hB2
          go_upto_region 4 with (fail)
          refine wp_region_below (by kernel_rfl) (by kernel_rfl) ?_
          repeat (go_big_quiet_step (first | (go_at_call 60; exact quiet_below (r14Blank_any _ _)) | (go_at_call 53; exact quiet_below (cellValid_any _ _ (HT2.out.bel (below_plus _ _))))))
          refine wpQuiet_nil ?_
          intro w3 hb3
          have S3 := Lib.hid (S2.out.bel hb3)
          clear hb3
          clear hx0 hf0 hz0 hx5 hf5 hz5 hx hf hz hr hp
          go_wp2_with fail
          go_ret
          exact ⟨by rw [HE.out]; rfl, S3.out.tail.tail⟩
      · have g2b : decide (0 ≤ top) = false := decide_eq_false g2
        have HE := Lib.hid ((HEQ.out.trans (by have hq0 := HQ.out; simp [hq0]; omega) : _ = false))
        obtain ⟨A2, c2, hB2, hmx2, -⟩ := S2.out.gridRd (k := k + 2) HK.out
        obtain ⟨hx0, hf0, hz0⟩ := hB2.facts
        obtain ⟨hx5, hf5, hz5⟩ := (S2.out.box (k := 0) rfl).facts
        obtain ⟨hx, hf, hz, hr, hp⟩ := (S2.out.box (k := 1) rfl).act18
        clear hB2
        go_upto_region 4 with (fail)
        refine wp_region_below (by kernel_rfl) (by kernel_rfl) ?_
        repeat (go_big_quiet_step (first | (go_at_call 60; exact quiet_below (r14Blank_any _ _)) | (go_at_call 53; exact quiet_below (cellValid_any _ _ (HT2.out.bel (below_plus _ _))))))
        refine wpQuiet_nil ?_
        intro w3 hb3
        have S3 := Lib.hid (S2.out.bel hb3)
        clear hb3
        clear hx0 hf0 hz0 hx5 hf5 hz5 hx hf hz hr hp
        go_wp2_with fail
        go_ret
        exact ⟨by rw [HE.out]; rfl, S3.out.tail.tail⟩
end
end Go.Proofs.YtghahanpmcpacaaDoor

/-
  The law's does of the chapter on editing.
-/
set_option linter.unusedSimpArgs false
set_option linter.unusedVariables false
namespace Go.Proofs.YtghahanpmcpacaaDoor
open Go.RowKit

theorem rowMod_same {y : Nat} {f : List Cell → List Cell} {L : List Ln} (hf : ∀ cs, f cs = cs) : rowMod y f L = L := by
  apply List.ext_getElem?
  intro r
  rw [rowMod_is, lnMod_get]
  split <;> simp [hf]
section
variable {w0 w : World} {os : List Ob} {p x cols : Nat} {L : List Ln}
end
end Go.Proofs.YtghahanpmcpacaaDoor

/-
  The grids with which a law of the later chapters begins: filled with given cells.
-/
set_option linter.unusedSimpArgs false
set_option linter.unusedVariables false
namespace Go.Proofs.YtghahanpmcpacaaDoor
open Go.RowKit

theorem Objs.nestAll {w0 w w' : World} {os os2 : List Ob} (h : Objs w0 w os) (h2 : Objs w w' os2) : Objs w0 w' (os2 ++ os) := by
  obtain ⟨h1, F, a2, a3, a4, a5⟩ := h
  obtain ⟨hb, G, b2, b3, b4, b5⟩ := h2
  have hlt : ∀ i b, F i b → b < w.heap.size := fun i b hF => by
    rcases Nat.lt_or_ge i os.length with hi | hi
    · exact (a2 i os[i] (by simp [hi])).lt hF
    · exact (a4 i hi b hF).elim
  refine ⟨h1.trans (hb.mono h1.size), fun i => if i < os2.length then G i else F (i - os2.length), fun i o hi => ?_, fun i b hF => ?_, fun i hi b hF => ?_, fun i j b hi hj => ?_⟩
  · by_cases hl : i < os2.length
    · simp only [hl, if_true]
      rw [List.getElem?_append_left hl] at hi
      exact b2 i o hi
    · simp only [hl, if_false]
      rw [List.getElem?_append_right (by omega)] at hi
      exact (a2 _ o hi).chg (Chg.of_below hb noBlk) (fun _ _ hf => hf)
  · simp only at hF
    split at hF
    · have := b3 i b hF; have := h1.size; omega
    · exact a3 _ b hF
  · simp only at hF
    rw [List.length_append] at hi
    rw [if_neg (by omega)] at hF
    exact a4 _ (by omega) b hF
  · simp only at hi hj
    split at hi <;> split at hj
    · exact b5 i j b hi hj
    · have := b3 i b hi; have := hlt _ b hj; omega
    · have := b3 j b hj; have := hlt _ b hi; omega
    · have := a5 _ _ b hi hj; omega
/-- A row is filled: from column col on, with the cells from number n on. -/
def begCells (cols lim : Nat) (fill : List Cell) (row : Nat) : Nat → Nat → Nat → List Ln → Nat × List Ln
  | 0, n, _, L => (n, L)
  | fuel + 1, n, col, L =>
    if col < cols ∧ n < lim then
      if ¬ (cAt fill (n % fill.length)).ok = true ∨ (cAt fill (n % fill.length)).width = 0 ∨ (cols : Int) < col + (cAt fill (n % fill.length)).width then begCells cols lim fill row fuel (n + 1) (col + 1) L
      else begCells cols lim fill row fuel (n + 1) (col + (cAt fill (n % fill.length)).width.toNat) (rowMod row (putC col (cAt fill (n % fill.length))) L)
    else (n, L)
theorem begCells_stop {cols lim : Nat} {fill : List Cell} {row n col : Nat} {L : List Ln} (h : ¬ (col < cols ∧ n < lim)) : begCells cols lim fill row (lim - n) n col L = (n, L) := by
  cases hf : lim - n with
  | zero => rfl
  | succ f => unfold begCells; rw [if_neg h]
theorem begCells_skip {cols lim : Nat} {fill : List Cell} {row n col : Nat} {L : List Ln} {y : Cell} (hy : cAt fill (n % fill.length) = y) (h1 : col < cols) (h2 : n < lim) (h : ¬ y.ok = true ∨ y.width = 0 ∨ (cols : Int) < col + y.width) :
    begCells cols lim fill row (lim - n) n col L = begCells cols lim fill row (lim - (n + 1)) (n + 1) (col + 1) L := by
  rw [show lim - n = (lim - (n + 1)) + 1 by omega]
  conv => lhs; unfold begCells
  rw [if_pos ⟨h1, h2⟩, hy, if_pos h]
theorem begCells_put {cols lim : Nat} {fill : List Cell} {row n col : Nat} {L : List Ln} {y : Cell} (hy : cAt fill (n % fill.length) = y) (h1 : col < cols) (h2 : n < lim) (h : ¬ (¬ y.ok = true ∨ y.width = 0 ∨ (cols : Int) < col + y.width)) :
    begCells cols lim fill row (lim - n) n col L = begCells cols lim fill row (lim - (n + 1)) (n + 1) (col + y.width.toNat) (rowMod row (putC col y) L) := by
  rw [show lim - n = (lim - (n + 1)) + 1 by omega]
  conv => lhs; unfold begCells
  rw [if_pos ⟨h1, h2⟩, hy, if_neg h]
/-- Whether a row is soft, by the bits of a number. -/
def softB (soft : Int) (row : Nat) : Bool := (soft / 2 ^ (row % 16)).tmod 2 == 1
/-- All rows are filled; k of them are left. -/
def begRows (rows cols lim : Nat) (fill : List Cell) (soft : Int) : Nat → Nat → List Ln → List Ln
  | 0, _, L => L
  | k + 1, n, L => begRows rows cols lim fill soft k (begCells cols lim fill (rows - (k + 1)) (lim - n) n 0 L).1 (softMod (rows - (k + 1)) (softB soft (rows - (k + 1))) (begCells cols lim fill (rows - (k + 1)) (lim - n) n 0 L).2)
def begunP (rows cols : Nat) (fill : List Cell) (soft : Int) : List Ln := begRows rows cols (fill.length * rows * cols) fill soft rows 0 (List.replicate rows (List.replicate cols (blank pen0), false))
theorem begRows_step {rows cols lim : Nat} {fill : List Cell} {soft : Int} {row n : Nat} {L : List Ln} {r : Nat × List Ln} (h : row < rows) (hr : begCells cols lim fill row (lim - n) n 0 L = r) :
    begRows rows cols lim fill soft (rows - row) n L = begRows rows cols lim fill soft (rows - (row + 1)) r.1 (softMod row (softB soft row) r.2) := by
  rw [show rows - row = (rows - (row + 1)) + 1 by omega]
  conv => lhs; unfold begRows
  rw [show rows - (rows - (row + 1) + 1) = row by omega, hr]
theorem begCells_rect {cols lim : Nat} {fill : List Cell} {row : Nat} (fuel n col : Nat) {L : List Ln} (hR : Rect cols L) : Rect cols (begCells cols lim fill row fuel n col L).2 ∧ (begCells cols lim fill row fuel n col L).2.length = L.length := by
  induction fuel generalizing n col L with
  | zero => exact ⟨hR, rfl⟩
  | succ f ih =>
    unfold begCells
    split
    · split
      · exact ih _ _ hR
      · have := ih (n + 1) (col + (cAt fill (n % fill.length)).width.toNat) (hR.rowMod row (f := putC col (cAt fill (n % fill.length))) (fun cs h => by rw [putC_length, h]))
        rwa [rowMod_length] at this
    · exact ⟨hR, rfl⟩
theorem begRows_rect {rows cols lim : Nat} {fill : List Cell} {soft : Int} (k n : Nat) {L : List Ln} (hR : Rect cols L) : Rect cols (begRows rows cols lim fill soft k n L) ∧ (begRows rows cols lim fill soft k n L).length = L.length := by
  induction k generalizing n L with
  | zero => exact ⟨hR, rfl⟩
  | succ k ih =>
    unfold begRows
    have h1 := begCells_rect (cols := cols) (lim := lim) (fill := fill) (row := rows - (k + 1)) (lim - n) n 0 hR
    have h2 := ih (begCells cols lim fill (rows - (k + 1)) (lim - n) n 0 L).1 (h1.1.softMod (rows - (k + 1)) (softB soft (rows - (k + 1))))
    rw [softMod_length, h1.2] at h2
    exact h2
theorem rect_new (rows cols : Nat) (p : Pen) : Rect cols (List.replicate rows (List.replicate cols (blank p), false)) := fun l hl => by rw [(List.mem_replicate.1 hl).2]; simp
theorem begunP_rect (rows cols : Nat) (fill : List Cell) (soft : Int) : Rect cols (begunP rows cols fill soft) ∧ (begunP rows cols fill soft).length = rows := by
  have := begRows_rect (rows := rows) (cols := cols) (lim := fill.length * rows * cols) (fill := fill) (soft := soft) rows 0 (rect_new rows cols pen0)
  rw [List.length_replicate] at this
  exact this
end Go.Proofs.YtghahanpmcpacaaDoor

/-
  The grids with which the laws of chapter 18 begin.
-/
set_option linter.unusedSimpArgs false
set_option linter.unusedVariables false
namespace Go.Proofs.YtghahanpmcpacaaDoor
open Go.RowKit

set_option maxRecDepth 100000 in
set_option maxHeartbeats 4000000 in
theorem l18begun_base (A : Option Addr) (c : Nat) (fill : List Cell) (rows cols : Nat) (soft : Int) (w : World) (hT : Tabs w) (ha : RdC w A c fill) (h1 : 1 ≤ rows) (h2 : rows ≤ 6) (h3 : 1 ≤ cols) (h4 : cols ≤ 12) (h5 : fill.length ≤ 20) (hs : 0 ≤ soft ∧ soft ≤ 65535) :
    Calls Tryd.prog 20 #[.int .i64 rows, .int .i64 cols, .slice A fill.length c, .int .u16 soft] w fun e w' => ∃ p x, e = .returned (.tuple #[.pointer (some ⟨p, 0, none⟩), .pointer (some ⟨x, 0, none⟩)]) ∧ Objs w w' [.grid p 37 cols (begunP rows cols fill soft), .grid x 63 cols (begunP rows cols fill soft)] := by
  have HT := Lib.hid hT
  have HA := Lib.hid ha
  obtain ⟨lim, hlim⟩ : ∃ lim : Nat, lim = fill.length * rows * cols := ⟨_, rfl⟩
  obtain ⟨lr, hlr⟩ : ∃ lr : Nat, lr = fill.length * rows := ⟨_, rfl⟩
  have hlrm : lr ≤ 120 := by rw [hlr]; exact Nat.mul_le_mul h5 h2
  have hlimm : lim ≤ 1440 := by rw [hlim, ← hlr]; exact Nat.mul_le_mul hlrm h4
  have HM1 := Lib.hid (show (fill.length : Int) * (rows : Int) = (lr : Int) by rw [hlr]; simp)
  have HM2 := Lib.hid (show (lr : Int) * (cols : Int) = (lim : Int) by rw [hlim, hlr]; simp)
  have HG := Lib.hid (show begunP rows cols fill soft = begRows rows cols lim fill soft (rows - 0) 0 (List.replicate rows (List.replicate cols (blank pen0), false)) by unfold begunP; rw [hlim]; rfl)
  have HF0 := Lib.hid (show 0 < lim → 0 < fill.length from fun h => by rcases Nat.eq_zero_or_pos fill.length with e | e; (rw [hlim, e] at h; simp at h); exact e)
  obtain ⟨G, hG⟩ : ∃ G, G = begunP rows cols fill soft := ⟨_, rfl⟩
  rw [← hG] at HG ⊢
  have HR0 := Lib.hid (rect_new rows cols pen0)
  clear hT ha hlim hlr hG
  go_enter Tryd.func20, Tryd.ntmps20
  go_wp2_with fail
  refine (gridNew_yes rows cols h1 (by omega) h3 (by omega) w w [] (objs_start w)).mono ?_
  rintro e w1 ⟨p, rfl, hS⟩
  have S1 := Lib.hid hS
  clear hS
  go_wp2_with fail
  refine (r14New_any rows cols (by omega) (by omega) w w1 _ S1.out).mono ?_
  rintro e w2 ⟨x, rfl, hS⟩
  have S2 := Lib.hid hS.swap
  clear hS S1
  go_wp2_with fail
  go_loopw [13, 14, 15, 16, 17] (fun vn vr _ _ _ wr => ∃ (n row : Nat) (L : List Ln), (row ≤ rows ∧ n ≤ 2000) ∧ vn = .int .i64 n ∧ vr = .int .i64 row ∧ (Rect cols L ∧ L.length = rows) ∧ Hid (begRows rows cols lim fill soft (rows - row) n L = G) ∧ Objs w wr [.grid p 37 cols L, .grid x 63 cols L]) (fun _ vr _ _ _ _ => rows - (intOf vr).toNat)
  case atStart => exact ⟨0, 0, _, ⟨Nat.zero_le _, by omega⟩, rfl, rfl, ⟨HR0.out, by simp⟩, Lib.hid HG.out.symm, S2.out⟩
  case round =>
    obtain ⟨n, row, L, ⟨hrow, hnm⟩, rfl, rfl, hRL, HJ, hS⟩ := hrel
    have HRL := Lib.hid hRL
    have S := Lib.hid hS
    clear hRL hS
    by_cases hlt : row < rows
    case neg =>
      have HE := Lib.hid (show L = G by have := HJ.out; rw [show rows - row = 0 by omega] at this; exact this)
      go_wp2_with fail
      go_ret2
      exact ⟨p, x, rfl, by rw [← HE.out]; exact S.out⟩
    obtain ⟨R, hRR⟩ : ∃ R, R = begCells cols lim fill row (lim - n) n 0 L := ⟨_, rfl⟩
    have HJ2 := Lib.hid (show begRows rows cols lim fill soft (rows - (row + 1)) R.1 (softMod row (softB soft row) R.2) = G by rw [← begRows_step hlt hRR.symm]; exact HJ.out)
    have HRR := Lib.hid hRR.symm
    clear hRR
    go_wp2_with fail
    go_loopw [13, 15, 16] (fun vn vc _ wr => ∃ (n col : Nat) (L : List Ln), vn = .int .i64 n ∧ vc = .int .i64 col ∧ n ≤ 2000 ∧ col ≤ 20 ∧ (Rect cols L ∧ L.length = rows) ∧ Hid (begCells cols lim fill row (lim - n) n col L = R) ∧ Objs w wr [.grid p 37 cols L, .grid x 63 cols L]) (fun vn _ _ _ => lim - (intOf vn).toNat)
    case atStart => exact ⟨n, 0, L, rfl, rfl, hnm, by omega, HRL.out, HRR, S.out⟩
    case round =>
      obtain ⟨m, col, LL, rfl, rfl, hm, hcol, hRLL, HJC, hS⟩ := hrel
      have HRLL := Lib.hid hRLL
      have SS := Lib.hid hS
      clear hRLL hS
      have HW1 := Lib.hid (show IntKind.i64.wrap ((fill.length : Int) * (rows : Int)) = (lr : Int) by rw [HM1.out]; exact IntWalk.i64_in _ (by omega))
      have HW2 := Lib.hid (show IntKind.i64.wrap ((lr : Int) * (cols : Int)) = (lim : Int) by rw [HM2.out]; exact IntWalk.i64_in _ (by omega))
      by_cases hcc : col < cols
      case neg =>
        have HE := Lib.hid (show R = (m, LL) by rw [← HJC.out]; exact begCells_stop (by omega))
        have HRW := Lib.hid (show row < LL.length by rw [HRLL.out.2]; exact hlt)
        have HLM := Lib.hid (show LL.length ≤ 1000000 by rw [HRLL.out.2]; omega)
        go_wp2_with fail
        refine (SetSoftG _ SS.out (k := 0) rfl (by omega) HRW.out HLM.out).mono ?_
        rintro e w3 ⟨rfl, hS⟩
        obtain ⟨l, hl⟩ := get_of HRW.out
        obtain ⟨sb, hsb⟩ : ∃ sb, sb = softB soft row := ⟨_, rfl⟩
        have HSB := Lib.hid hsb
        rw [show ((soft / 2 ^ (row % 16)).tmod 2 == 1) = sb from hsb.symm] at hS ⊢
        obtain ⟨v, hS1⟩ := (show Objs w w3 [.grid p 37 cols (softMod row sb LL), .grid x 63 cols LL] from hS).openGrid (k := 1) rfl
        have HN := Lib.hid (softMod_some (s := sb) hl)
        obtain ⟨Av, cv', rfl, hcm2, hrd⟩ := hS1.linesRd (k := 0) rfl
        obtain ⟨F, bs, hF, -⟩ := hS1.get (k := 0) rfl
        obtain ⟨A2, c2, e2, -, -, -, h4'⟩ := hF.form
        simp only [Value.slice.injEq, true_and] at e2
        obtain ⟨rfl, rfl⟩ := e2
        have hpos : 0 < LL.length := by have := HRW.out; omega
        obtain ⟨g, rfl, hz, -, hso, hfz⟩ := h4' hpos
        have hso2 := hso row l hl
        obtain ⟨hx0, hf0, hz0⟩ := (hS1.box (k := 2) rfl).facts
        have hS2 := ((hS1.storeSoft (k := 0) (s := sb) rfl hl) : Objs w _ [.lines _ _, _, _]).closeGrid (k := 1) rfl
        rw [← softMod_some hl] at hS2
        have S4 := Lib.hid hS2
        have hrw := HRW.out
        have hll := HRLL.out.2
        rw [hll] at hrw
        have HRX := Lib.hid (show Rect cols (softMod row sb LL) ∧ (softMod row sb LL).length = rows from ⟨HRLL.out.1.softMod _ _, by rw [softMod_length]; exact HRLL.out.2⟩)
        clear hS hS1 hcm2 hrd hF h4' hso hS2 hsb hl hll hpos
        go_wp2_with fail
        go_roundw
        case rel => exact ⟨m, row + 1, softMod row sb LL, ⟨by omega, hm⟩, by go_num, by go_num, HRX.out, Lib.hid (by have := HJ2.out; rw [HE.out, ← HSB.out] at this; exact this), S4.out⟩
        case measure => simp [intOf]; omega
      by_cases hml : m < lim
      case neg =>
        have HE := Lib.hid (show R = (m, LL) by rw [← HJC.out]; exact begCells_stop (by omega))
        have HRW := Lib.hid (show row < LL.length by rw [HRLL.out.2]; exact hlt)
        have HLM := Lib.hid (show LL.length ≤ 1000000 by rw [HRLL.out.2]; omega)
        have hw1 := HW1.out
        have hw2 := HW2.out
        go_wp2_with fail
        refine (SetSoftG _ SS.out (k := 0) rfl (by omega) HRW.out HLM.out).mono ?_
        rintro e w3 ⟨rfl, hS⟩
        obtain ⟨l, hl⟩ := get_of HRW.out
        obtain ⟨sb, hsb⟩ : ∃ sb, sb = softB soft row := ⟨_, rfl⟩
        have HSB := Lib.hid hsb
        rw [show ((soft / 2 ^ (row % 16)).tmod 2 == 1) = sb from hsb.symm] at hS ⊢
        obtain ⟨v, hS1⟩ := (show Objs w w3 [.grid p 37 cols (softMod row sb LL), .grid x 63 cols LL] from hS).openGrid (k := 1) rfl
        have HN := Lib.hid (softMod_some (s := sb) hl)
        obtain ⟨Av, cv', rfl, hcm2, hrd⟩ := hS1.linesRd (k := 0) rfl
        obtain ⟨F, bs, hF, -⟩ := hS1.get (k := 0) rfl
        obtain ⟨A2, c2, e2, -, -, -, h4'⟩ := hF.form
        simp only [Value.slice.injEq, true_and] at e2
        obtain ⟨rfl, rfl⟩ := e2
        have hpos : 0 < LL.length := by have := HRW.out; omega
        obtain ⟨g, rfl, hz, -, hso, hfz⟩ := h4' hpos
        have hso2 := hso row l hl
        obtain ⟨hx0, hf0, hz0⟩ := (hS1.box (k := 2) rfl).facts
        have hS2 := ((hS1.storeSoft (k := 0) (s := sb) rfl hl) : Objs w _ [.lines _ _, _, _]).closeGrid (k := 1) rfl
        rw [← softMod_some hl] at hS2
        have S4 := Lib.hid hS2
        have hrw := HRW.out
        have hll := HRLL.out.2
        rw [hll] at hrw
        have HRX := Lib.hid (show Rect cols (softMod row sb LL) ∧ (softMod row sb LL).length = rows from ⟨HRLL.out.1.softMod _ _, by rw [softMod_length]; exact HRLL.out.2⟩)
        clear hS hS1 hcm2 hrd hF h4' hso hS2 hsb hl hll hpos
        go_wp2_with fail
        go_roundw
        case rel => exact ⟨m, row + 1, softMod row sb LL, ⟨by omega, hm⟩, by go_num, by go_num, HRX.out, Lib.hid (by have := HJ2.out; rw [HE.out, ← HSB.out] at this; exact this), S4.out⟩
        case measure => simp [intOf]; omega
      have hw1 := HW1.out
      have hw2 := HW2.out
      have hf0 : 0 < fill.length := HF0.out (by omega)
      have hkl : m % fill.length < fill.length := Nat.mod_lt _ hf0
      obtain ⟨b, off, rfl, hz, hr⟩ := (HA.out.bel SS.out.base).at_ hkl
      have hce := elem_cell hr hkl
      obtain ⟨y, hy⟩ : ∃ y, fill[m % fill.length] = y := ⟨_, rfl⟩
      rw [hy] at hce
      have HY := Lib.hid (show cAt fill (m % fill.length) = y by rw [cAt_eq hkl]; exact hy)
      clear hy hr
      cases hok : y.ok with
      | false =>
        have HJN := Lib.hid (begCells_skip (row := row) (L := LL) HY.out hcc hml (.inl (by simp [hok])))
        have HOK := Lib.hid hok
        clear hok
        go_wp2_with fail
        refine (pure_call (cellValid_any y _ (SS.out.alloc1.tabs HT.out)) SS.out.alloc1).mono ?_
        rw [HOK.out]
        rintro e w3 ⟨rfl, hS⟩
        have S3 := Lib.hid hS
        clear hS hce
        go_wp2_with fail
        go_roundw
        case rel => exact ⟨m + 1, col + 1, LL, by go_num, by go_num, by omega, by omega, HRLL.out, Lib.hid (HJN.out.symm.trans HJC.out), S3.out.tail⟩
        case measure => simp [intOf]; omega
      | true =>
        have hyw : 0 ≤ y.width ∧ y.width ≤ 2 := by rcases ok_width hok with h | h | h <;> omega
        have HOK := Lib.hid hok
        clear hok
        by_cases hw0 : y.width = 0
        · have HJN := Lib.hid (begCells_skip (row := row) (L := LL) HY.out hcc hml (.inr (.inl hw0)))
          have hb := beq_yes hw0
          clear hw0
          go_wp2_with fail
          refine (pure_call (cellValid_any y _ (SS.out.alloc1.tabs HT.out)) SS.out.alloc1).mono ?_
          rw [HOK.out]
          rintro e w3 ⟨rfl, hS⟩
          obtain ⟨hx, hf, hz2, hc1, hc2⟩ := (hS.box (k := 0) rfl).box
          have S3 := Lib.hid hS
          clear hS hce
          go_wp2_with fail
          go_roundw
          case rel => exact ⟨m + 1, col + 1, LL, by go_num, by go_num, by omega, by omega, HRLL.out, Lib.hid (HJN.out.symm.trans HJC.out), S3.out.tail⟩
          case measure => simp [intOf]; omega
        by_cases hov : (cols : Int) < col + y.width
        · have HJN := Lib.hid (begCells_skip (row := row) (L := LL) HY.out hcc hml (.inr (.inr hov)))
          have hb := beq_no hw0
          clear hw0
          go_wp2_with fail
          refine (pure_call (cellValid_any y _ (SS.out.alloc1.tabs HT.out)) SS.out.alloc1).mono ?_
          rw [HOK.out]
          rintro e w3 ⟨rfl, hS⟩
          obtain ⟨hx, hf, hz2, hc1, hc2⟩ := (hS.box (k := 0) rfl).box
          have S3 := Lib.hid hS
          clear hS hce
          go_wp2_with fail
          go_roundw
          case rel => exact ⟨m + 1, col + 1, LL, by go_num, by go_num, by omega, by omega, HRLL.out, Lib.hid (HJN.out.symm.trans HJC.out), S3.out.tail⟩
          case measure => simp [intOf]; omega
        have HJN := Lib.hid (begCells_put (row := row) (L := LL) HY.out hcc hml (by rw [HOK.out]; simp; omega))
        have hb := beq_no hw0
        have HW := Lib.hid hw0
        have HFIT := Lib.hid (show (col : Int) + y.width ≤ cols by omega)
        have HRW := Lib.hid (show row < LL.length by rw [HRLL.out.2]; exact hlt)
        clear hw0
        go_wp2_with fail
        refine (pure_call (cellValid_any y _ (SS.out.alloc1.tabs HT.out)) SS.out.alloc1).mono ?_
        rw [HOK.out]
        rintro e w3 ⟨rfl, hS⟩
        obtain ⟨hx, hf, hz2, hc1, hc2⟩ := (hS.box (k := 0) rfl).box
        have S3 := Lib.hid hS
        clear hS hce
        go_wp2_with fail
        refine (PutG y HT.out S3.out (k := 1) rfl (by omega) HRLL.out.1 HRW.out HOK.out HW.out HFIT.out).mono ?_
        rintro e w4 ⟨rfl, hS⟩
        clear hx hf hz2 hc1 hc2
        obtain ⟨hx, hf, hz2, hc1, hc2⟩ := (hS.box (k := 0) rfl).box
        have S4 := Lib.hid hS
        clear hS S3
        go_wp2_with fail
        refine (r14PutG y S4.out (k := 2) rfl (by omega) HRLL.out.1 HRW.out HOK.out HW.out HFIT.out).mono ?_
        rintro e w5 ⟨rfl, hS⟩
        clear hx hf hz2 hc1 hc2
        obtain ⟨hx, hf, hz2, hc1, hc2⟩ := (hS.box (k := 0) rfl).box
        have S5 := Lib.hid hS
        clear hS S4
        go_wp2_with fail
        go_roundw
        case rel => exact ⟨m + 1, col + y.width.toNat, rowMod row (putC col y) LL, by go_num, congrArg (Value.int .i64) (by omega), by omega, by omega, ⟨HRLL.out.1.rowMod _ (fun cs h => by rw [putC_length, h]), by rw [rowMod_length]; exact HRLL.out.2⟩, Lib.hid (HJN.out.symm.trans HJC.out), S5.out.tail⟩
        case measure => simp [intOf]; omega
end Go.Proofs.YtghahanpmcpacaaDoor

/-
  The law's rowed of chapter 18: a row is as it is spelled. And small.
-/
set_option linter.unusedSimpArgs false
set_option linter.unusedVariables false
namespace Go.Proofs.YtghahanpmcpacaaDoor
open Go.RowKit

def smallB (rows cols : Int) (n : Nat) : Bool := decide ((1 ≤ rows ∧ rows ≤ 6) ∧ (1 ≤ cols ∧ cols ≤ 12) ∧ n ≤ 20)
set_option maxHeartbeats 1000000 in
theorem l18small_any (rows cols : Int) (A : Option Addr) (n c : Nat) (w : World) (hn : n ≤ maxLen) : Calls Tryd.prog 19 #[.int .i64 rows, .int .i64 cols, .slice A n c] w fun e w' => e = .returned (.bool (smallB rows cols n)) ∧ w = w' := by
  have hn63 : n ≤ 9223372036854775807 := by unfold maxLen at hn; omega
  clear hn
  have no : ∀ h : ¬ ((1 ≤ rows ∧ rows ≤ 6) ∧ (1 ≤ cols ∧ cols ≤ 12) ∧ n ≤ 20), Hid (smallB rows cols n = false) := fun h => Lib.hid (decide_eq_false h)
  by_cases h1 : 1 ≤ rows
  case neg =>
    have HE := no (by omega)
    clear no
    go_enter Tryd.func19, Tryd.ntmps19
    go_wp2_with fail
    go_ret
    exact ⟨by rw [HE.out]; rfl, rfl⟩
  by_cases h2 : rows ≤ 6
  case neg =>
    have HE := no (by omega)
    clear no
    go_enter Tryd.func19, Tryd.ntmps19
    go_wp2_with fail
    go_ret
    exact ⟨by rw [HE.out]; rfl, rfl⟩
  by_cases h3 : 1 ≤ cols
  case neg =>
    have HE := no (by omega)
    clear no
    go_enter Tryd.func19, Tryd.ntmps19
    go_wp2_with fail
    go_ret
    exact ⟨by rw [HE.out]; rfl, rfl⟩
  by_cases h4 : cols ≤ 12
  case neg =>
    have HE := no (by omega)
    clear no
    go_enter Tryd.func19, Tryd.ntmps19
    go_wp2_with fail
    go_ret
    exact ⟨by rw [HE.out]; rfl, rfl⟩
  by_cases h5 : n ≤ 20
  case neg =>
    have HE := no (by omega)
    clear no
    go_enter Tryd.func19, Tryd.ntmps19
    go_wp2_with fail
    go_ret
    exact ⟨by rw [HE.out]; simp; omega, rfl⟩
  have HE := Lib.hid (show smallB rows cols n = true from decide_eq_true ⟨⟨h1, h2⟩, ⟨h3, h4⟩, h5⟩)
  clear no
  go_enter Tryd.func19, Tryd.ntmps19
  go_wp2_with fail
  go_ret
  exact ⟨by rw [HE.out]; simp; omega, rfl⟩
def spell (bs : List UInt8) : List Cell := bs.map fun b => if b = 46 then ⟨0, 0, 0, 0, 1, pen0⟩ else ⟨(b.toNat : Int), 0, 0, 0, 1, pen0⟩
theorem wantAt8 {bs : List UInt8} {want : ByteArray} (h : want = ⟨bs.toArray⟩) {m : Nat} (hm : m < want.size) (hb : m < bs.length) : want[m]'hm = bs[m] := by
  subst h
  show (bs.toArray)[m]'_ = _
  simp
theorem spell_at {bs : List UInt8} {m : Nat} (hb : m < bs.length) (h : m < (spell bs).length) : (spell bs)[m] = if bs[m] = 46 then ⟨0, 0, 0, 0, 1, pen0⟩ else ⟨(bs[m].toNat : Int), 0, 0, 0, 1, pen0⟩ := by simp [spell]
section
variable {w0 w : World} {os : List Ob} {k p cols : Nat} {L : List Ln}
set_option maxHeartbeats 2000000 in
theorem l18rowed_yes {y : Nat} (bs : List UInt8) (s : Bool) (want : ByteArray) (hwant : want = ⟨bs.toArray⟩) (hS : Objs w0 w os) (hk : os[k]? = some (.grid p 37 cols L)) (hc : 0 < cols) (hl : L[y]? = some (spell bs, s)) (hbs : bs.length ≤ 1000) :
    Calls Tryd.prog 51 #[.pointer (some ⟨p, 0, none⟩), .int .i64 y, .string want, .bool s] w fun e w' => e = .returned (.bool true) ∧ Objs w0 w' os := by
  have S := Lib.hid hS
  have HK := Lib.hid hk
  have HL := Lib.hid hl
  have hsl : (spell bs).length = bs.length := by simp [spell]
  have HSL := Lib.hid hsl
  have hwl : want.size = bs.length := by rw [hwant]; simp [ByteArray.size]
  clear hS hk hl hsl
  have HWL := Lib.hid hwl
  have HWANT := Lib.hid hwant
  clear hwl hwant
  go_enter Tryd.func51, Tryd.ntmps51
  go_wp2_with fail
  refine (Line_yes S.out HK.out hc HL.out (by rw [HSL.out]; omega)).mono ?_
  rintro e w1 ⟨v, rfl, hS⟩
  obtain ⟨A, c, rfl, hrd⟩ := hS.cellsRd (k := 0) rfl
  have S1 := Lib.hid hS
  clear hS hrd
  simp only [HSL.out]
  have hsz : ((bs.length : Int) != (want.size : Int)) = false := by have := HWL.out; simp; omega
  have S2 := Lib.hid (S1.out.alloc1 (c1 := #[.slice A (spell bs).length c, .bool s]) (t1 := 79))
  rw [HSL.out] at S2
  clear S1
  go_wp2_with fail
  go_loopw [11, 12] (fun vi _ wr => ∃ m : Nat, m ≤ bs.length ∧ vi = .int .i64 m ∧ Objs w0 wr (.box w1.heap.size 79 #[.slice A bs.length c, .bool s] :: .cells (.slice A bs.length c) (spell bs) :: os)) (fun vi _ _ => bs.length - (intOf vi).toNat)
  case atStart => exact ⟨0, Nat.zero_le _, rfl, S2.out⟩
  case round =>
    obtain ⟨m, hm, rfl, hS⟩ := hrel
    have S3 := Lib.hid hS
    clear hS
    by_cases hlt : m < bs.length
    case neg =>
      have hge : ¬ m < want.size := by rw [HWL.out]; exact hlt
      go_wp2_with fail
      go_ret
      exact ⟨rfl, S3.out.tail.tail⟩
    have hlt2 : m < want.size := by rw [HWL.out]; exact hlt
    have hwa := wantAt8 HWANT.out hlt2 hlt
    have hwr : IntKind.i32.wrap ((want[m]'hlt2).toNat : Int) = (bs[m].toNat : Int) := by rw [hwa]; exact IntWalk.i32_in _ (by have := (bs[m]).toNat_lt; omega)
    by_cases hb : bs[m] = 46
    · have hq : (((want[m]'hlt2).toNat : Int) == 46) = true := by rw [hwa, hb]; rfl
      have hsp : (spell bs)[m]'(by rw [HSL.out]; exact hlt) = ⟨0, 0, 0, 0, 1, pen0⟩ := by rw [spell_at hlt, if_pos hb]
      clear hwa
      go_upto_region 10 with (fail)
      refine at_objsC (S3.out.alloc1 (c1 := cv ⟨0, 0, 0, 0, 1, pen0⟩) (t1 := 82)) (fun W hSW => ?_)
      obtain ⟨hx, hf, hz, hc1, hc2⟩ := (hSW.box (k := 0) rfl).box
      obtain ⟨hx9, hf9, hz9⟩ := (hSW.box (k := 1) rfl).facts
      obtain ⟨-, hrd⟩ := hSW.cellsRd' (k := 2) rfl
      have hltc : m < (spell bs).length := by rw [HSL.out]; exact hlt
      obtain ⟨b, off, rfl, hzc, hr⟩ := hrd.at_ hltc
      have hce := elem_cell hr hltc
      rw [hsp] at hce
      have SW := Lib.hid hSW
      clear hrd hr hSW hltc hsp
      refine wp_region_below (by kernel_rfl) (by kernel_rfl) ?_
      repeat (go_big_quiet_step (fail))
      refine wpQuiet_nil ?_
      intro w2 hb2
      have S4 := Lib.hid (SW.out.bel hb2)
      clear hx hf hz hc1 hc2 hx9 hf9 hz9 hce hzc
      go_wp2_with fail
      go_roundw
      case rel => exact ⟨m + 1, by omega, by go_num, S4.out.tail⟩
      case measure => simp [intOf]; omega
    · have hq : (((want[m]'hlt2).toNat : Int) == 46) = false := by rw [hwa, beq_eq_false_iff_ne]; intro h; exact hb (UInt8.toNat_inj.1 (by have h2 : (46 : UInt8).toNat = 46 := rfl; omega))
      have hsp : (spell bs)[m]'(by rw [HSL.out]; exact hlt) = ⟨(bs[m].toNat : Int), 0, 0, 0, 1, pen0⟩ := by rw [spell_at hlt, if_neg hb]
      clear hwa
      go_upto_region 10 with (fail)
      refine at_objsC (S3.out.alloc1 (c1 := cv ⟨(bs[m].toNat : Int), 0, 0, 0, 1, pen0⟩) (t1 := 82)) (fun W hSW => ?_)
      obtain ⟨hx, hf, hz, hc1, hc2⟩ := (hSW.box (k := 0) rfl).box
      obtain ⟨hx9, hf9, hz9⟩ := (hSW.box (k := 1) rfl).facts
      obtain ⟨-, hrd⟩ := hSW.cellsRd' (k := 2) rfl
      have hltc : m < (spell bs).length := by rw [HSL.out]; exact hlt
      obtain ⟨b, off, rfl, hzc, hr⟩ := hrd.at_ hltc
      have hce := elem_cell hr hltc
      rw [hsp] at hce
      have SW := Lib.hid hSW
      clear hrd hr hSW hltc hsp
      refine wp_region_below (by kernel_rfl) (by kernel_rfl) ?_
      repeat (go_big_quiet_step (fail))
      refine wpQuiet_nil ?_
      intro w2 hb2
      have S4 := Lib.hid (SW.out.bel hb2)
      clear hx hf hz hc1 hc2 hx9 hf9 hz9 hce hzc
      go_wp2_with fail
      go_roundw
      case rel => exact ⟨m + 1, by omega, by go_num, S4.out.tail⟩
      case measure => simp [intOf]; omega
end
end Go.Proofs.YtghahanpmcpacaaDoor

/-
  The law's known of chapter 18: the examples of the chapter.
-/
set_option linter.unusedSimpArgs false
set_option linter.unusedVariables false
namespace Go.Proofs.YtghahanpmcpacaaDoor
open Go.RowKit

def letter (m : Nat) : Cell := ⟨97 + (m : Int), 0, 0, 0, 1, pen0⟩
def letters (m : Nat) : List Cell := (List.range m).map letter
theorem letters_succ (m : Nat) : letters m ++ [letter m] = letters (m + 1) := by unfold letters; rw [List.range_succ, List.map_append]; rfl
theorem letters_length (m : Nat) : (letters m).length = m := by simp [letters]
def k18_0 : List Ln := begunP 3 4 (letters 12) 7
def k18_1 : List Ln := rowMod 0 (shiftN 1 4 2 pen0) k18_0
def k18_2 : List Ln := delC 1 0 4 3 pen0 k18_1
def k18_3 : List Ln := rollIf 1 1 2 (-1) pen0 4 k18_2
def k18_4 : List Ln := rollIf 0 1 2 1 pen0 4 k18_3
def k18_5 : List Ln := rollIf 2 1 2 9 pen0 4 k18_4
theorem k18_rect0 : Rect 4 k18_0 := by intro l hl; revert l; decide +kernel
theorem k18_rect1 : Rect 4 k18_1 := by intro l hl; revert l; decide +kernel
theorem k18_rect2 : Rect 4 k18_2 := by intro l hl; revert l; decide +kernel
theorem k18_rect3 : Rect 4 k18_3 := by intro l hl; revert l; decide +kernel
theorem k18_rect4 : Rect 4 k18_4 := by intro l hl; revert l; decide +kernel
set_option maxRecDepth 100000 in
set_option maxHeartbeats 4000000 in
theorem l18known_any (w : World) (hT : Tabs w) : Calls Tryd.prog 18 #[] w fun e w' => e = .returned (.bool true) ∧ Below w.heap.size w w' := by
  have HT := Lib.hid hT
  clear hT
  go_enter Tryd.func18, Tryd.ntmps18
  go_wp2_with fail
  go_loopw [1, 2] (fun va vr wr => ∃ m : Nat, m ≤ 12 ∧ vr = .int .i32 (97 + m) ∧ Objs w wr [.cells va (letters m)]) (fun _ vr _ => 109 - (intOf vr).toNat)
  case atStart => exact ⟨0, by omega, rfl, (objs_start w).nilCells⟩
  case round =>
    obtain ⟨m, hm, rfl, hS⟩ := hrel
    obtain ⟨A, c, hva, -, -⟩ := hS.cellsRd (k := 0) rfl
    rw [letters_length] at hva
    subst hva
    by_cases hlt : m < 12
    case neg =>
      obtain rfl : m = 12 := by omega
      have hrd := hS.cellsRd' (k := 0) rfl
      have HRD := Lib.hid hrd
      have S := Lib.hid hS
      clear hS hrd
      go_wp2_with fail
      refine (l18begun_base A c (letters 12) 3 4 7 _ (S.out.tabs HT.out) HRD.out.2 (by decide) (by decide) (by decide) (by decide) (by decide) (by decide)).mono ?_
      rintro e w1 ⟨p, x, rfl, hS⟩
      have hS0 := S.out.nestAll hS
      have S0 := Lib.hid (show Objs w w1 (.grid p 37 4 k18_0 :: .grid x 63 4 k18_0 :: [.cells (.slice A 12 c) (letters 12)]) from hS0)
      clear hS hS0 S
      go_wp2_with fail
      have T0 := Lib.hid (show Objs w _ (.box (w1.heap.size + 1) 23 #[.int .i64 1, .int .i64 2] :: .box w1.heap.size 31 (pv pen0) :: .grid p 37 4 k18_0 :: .grid x 63 4 k18_0 :: [.cells (.slice A 12 c) (letters 12)]) from S0.out.alloc2)
      clear S0
      refine (show Calls Tryd.prog 47 #[.pointer (some ⟨p, 0, none⟩), .agg #[.int .i64 0, .int .i64 1, .bool false], .int .i64 2, .agg (pv pen0)] _ _ from (edInsertCells_yes (y := 0) (j := 1) (pend := false) pen0 HT.out T0.out (k := 2) rfl (by decide) (by decide +kernel) k18_rect0 (by decide +kernel) (by decide +kernel) (by decide))).mono ?_
      rintro e w2 ⟨rfl, hS⟩
      have T1 := Lib.hid (show Objs w w2 (.box (w1.heap.size + 1) 23 #[.int .i64 1, .int .i64 2] :: .box w1.heap.size 31 (pv pen0) :: .grid p 37 4 k18_1 :: .grid x 63 4 k18_0 :: [.cells (.slice A 12 c) (letters 12)]) from hS)
      clear hS T0
      have hp := (T1.out.box (k := 1) rfl).penAt
      obtain ⟨hx6, hf6, hz6⟩ := (T1.out.box (k := 0) rfl).facts
      go_wp2_with fail
      clear hp hx6 hf6 hz6
      refine (show Calls Tryd.prog 51 #[.pointer (some ⟨p, 0, none⟩), .int .i64 0, .string ⟨#[97, 46, 46, 98]⟩, .bool true] _ _ from (l18rowed_yes (y := 0) [97, 46, 46, 98] true _ rfl T1.out (k := 2) rfl (by decide) (by kernel_rfl) (by decide))).mono ?_
      rintro e w3 ⟨rfl, hS⟩
      have T2 := Lib.hid (show Objs w w3 (.box (w1.heap.size + 1) 23 #[.int .i64 1, .int .i64 2] :: .box w1.heap.size 31 (pv pen0) :: .grid p 37 4 k18_1 :: .grid x 63 4 k18_0 :: [.cells (.slice A 12 c) (letters 12)]) from hS)
      clear hS T1
      have hp := (T2.out.box (k := 1) rfl).penAt
      obtain ⟨hx6, hf6, hz6⟩ := (T2.out.box (k := 0) rfl).facts
      go_wp2_with fail
      clear hp hx6 hf6 hz6
      refine (show Calls Tryd.prog 48 #[.pointer (some ⟨p, 0, none⟩), .agg #[.int .i64 1, .int .i64 0, .bool false], .int .i64 3, .agg (pv pen0)] _ _ from (edDeleteCells_yes (y := 1) (j := 0) (pend := false) pen0 HT.out T2.out (k := 2) rfl (by decide) (by decide +kernel) k18_rect1 (by decide +kernel) (by decide +kernel) (by decide))).mono ?_
      rintro e w4 ⟨rfl, hS⟩
      have T3 := Lib.hid (show Objs w w4 (.box (w1.heap.size + 1) 23 #[.int .i64 1, .int .i64 2] :: .box w1.heap.size 31 (pv pen0) :: .grid p 37 4 k18_2 :: .grid x 63 4 k18_0 :: [.cells (.slice A 12 c) (letters 12)]) from hS)
      clear hS T2
      have hp := (T3.out.box (k := 1) rfl).penAt
      obtain ⟨hx6, hf6, hz6⟩ := (T3.out.box (k := 0) rfl).facts
      go_wp2_with fail
      clear hp hx6 hf6 hz6
      refine (show Calls Tryd.prog 51 #[.pointer (some ⟨p, 0, none⟩), .int .i64 1, .string ⟨#[104, 46, 46, 46]⟩, .bool false] _ _ from (l18rowed_yes (y := 1) [104, 46, 46, 46] false _ rfl T3.out (k := 2) rfl (by decide) (by kernel_rfl) (by decide))).mono ?_
      rintro e w5 ⟨rfl, hS⟩
      have T4 := Lib.hid (show Objs w w5 (.box (w1.heap.size + 1) 23 #[.int .i64 1, .int .i64 2] :: .box w1.heap.size 31 (pv pen0) :: .grid p 37 4 k18_2 :: .grid x 63 4 k18_0 :: [.cells (.slice A 12 c) (letters 12)]) from hS)
      clear hS T3
      have hp := (T4.out.box (k := 1) rfl).penAt
      obtain ⟨hx6, hf6, hz6⟩ := (T4.out.box (k := 0) rfl).facts
      go_wp2_with fail
      clear hp hx6 hf6 hz6
      refine (show Calls Tryd.prog 49 #[.pointer (some ⟨p, 0, none⟩), .agg #[.int .i64 1, .int .i64 3, .bool false], .agg #[.int .i64 1, .int .i64 2], .int .i64 1, .agg (pv pen0)] _ _ from (edInsertLines_yes (y := 1) (j := 3) (pend := false) pen0 HT.out T4.out (k := 2) rfl (by decide) (by decide +kernel) k18_rect2 (by decide +kernel) (by decide +kernel) (by decide +kernel) (by decide))).mono ?_
      rintro e w6 ⟨rfl, hS⟩
      have T5 := Lib.hid (show Objs w w6 (.box (w1.heap.size + 1) 23 #[.int .i64 1, .int .i64 2] :: .box w1.heap.size 31 (pv pen0) :: .grid p 37 4 k18_3 :: .grid x 63 4 k18_0 :: [.cells (.slice A 12 c) (letters 12)]) from hS)
      clear hS T4
      have hp := (T5.out.box (k := 1) rfl).penAt
      obtain ⟨hx6, hf6, hz6⟩ := (T5.out.box (k := 0) rfl).facts
      go_wp2_with fail
      clear hp hx6 hf6 hz6
      refine (show Calls Tryd.prog 51 #[.pointer (some ⟨p, 0, none⟩), .int .i64 0, .string ⟨#[97, 46, 46, 98]⟩, .bool false] _ _ from (l18rowed_yes (y := 0) [97, 46, 46, 98] false _ rfl T5.out (k := 2) rfl (by decide) (by kernel_rfl) (by decide))).mono ?_
      rintro e w7 ⟨rfl, hS⟩
      have T6 := Lib.hid (show Objs w w7 (.box (w1.heap.size + 1) 23 #[.int .i64 1, .int .i64 2] :: .box w1.heap.size 31 (pv pen0) :: .grid p 37 4 k18_3 :: .grid x 63 4 k18_0 :: [.cells (.slice A 12 c) (letters 12)]) from hS)
      clear hS T5
      have hp := (T6.out.box (k := 1) rfl).penAt
      obtain ⟨hx6, hf6, hz6⟩ := (T6.out.box (k := 0) rfl).facts
      go_wp2_with fail
      clear hp hx6 hf6 hz6
      refine (show Calls Tryd.prog 51 #[.pointer (some ⟨p, 0, none⟩), .int .i64 1, .string ⟨#[46, 46, 46, 46]⟩, .bool false] _ _ from (l18rowed_yes (y := 1) [46, 46, 46, 46] false _ rfl T6.out (k := 2) rfl (by decide) (by kernel_rfl) (by decide))).mono ?_
      rintro e w8 ⟨rfl, hS⟩
      have T7 := Lib.hid (show Objs w w8 (.box (w1.heap.size + 1) 23 #[.int .i64 1, .int .i64 2] :: .box w1.heap.size 31 (pv pen0) :: .grid p 37 4 k18_3 :: .grid x 63 4 k18_0 :: [.cells (.slice A 12 c) (letters 12)]) from hS)
      clear hS T6
      have hp := (T7.out.box (k := 1) rfl).penAt
      obtain ⟨hx6, hf6, hz6⟩ := (T7.out.box (k := 0) rfl).facts
      go_wp2_with fail
      clear hp hx6 hf6 hz6
      refine (show Calls Tryd.prog 51 #[.pointer (some ⟨p, 0, none⟩), .int .i64 2, .string ⟨#[104, 46, 46, 46]⟩, .bool false] _ _ from (l18rowed_yes (y := 2) [104, 46, 46, 46] false _ rfl T7.out (k := 2) rfl (by decide) (by kernel_rfl) (by decide))).mono ?_
      rintro e w9 ⟨rfl, hS⟩
      have T8 := Lib.hid (show Objs w w9 (.box (w1.heap.size + 1) 23 #[.int .i64 1, .int .i64 2] :: .box w1.heap.size 31 (pv pen0) :: .grid p 37 4 k18_3 :: .grid x 63 4 k18_0 :: [.cells (.slice A 12 c) (letters 12)]) from hS)
      clear hS T7
      have hp := (T8.out.box (k := 1) rfl).penAt
      obtain ⟨hx6, hf6, hz6⟩ := (T8.out.box (k := 0) rfl).facts
      go_wp2_with fail
      clear hp hx6 hf6 hz6
      refine (show Calls Tryd.prog 50 #[.pointer (some ⟨p, 0, none⟩), .agg #[.int .i64 0, .int .i64 0, .bool false], .agg #[.int .i64 1, .int .i64 2], .int .i64 1, .agg (pv pen0)] _ _ from (edDeleteLines_yes (y := 0) (j := 0) (pend := false) pen0 HT.out T8.out (k := 2) rfl (by decide) (by decide +kernel) k18_rect3 (by decide +kernel) (by decide +kernel) (by decide +kernel) (by decide))).mono ?_
      rintro e w10 ⟨rfl, hS⟩
      have T9 := Lib.hid (show Objs w w10 (.box (w1.heap.size + 1) 23 #[.int .i64 1, .int .i64 2] :: .box w1.heap.size 31 (pv pen0) :: .grid p 37 4 k18_4 :: .grid x 63 4 k18_0 :: [.cells (.slice A 12 c) (letters 12)]) from hS)
      clear hS T8
      have hp := (T9.out.box (k := 1) rfl).penAt
      obtain ⟨hx6, hf6, hz6⟩ := (T9.out.box (k := 0) rfl).facts
      go_wp2_with fail
      clear hp hx6 hf6 hz6
      refine (show Calls Tryd.prog 51 #[.pointer (some ⟨p, 0, none⟩), .int .i64 0, .string ⟨#[97, 46, 46, 98]⟩, .bool false] _ _ from (l18rowed_yes (y := 0) [97, 46, 46, 98] false _ rfl T9.out (k := 2) rfl (by decide) (by kernel_rfl) (by decide))).mono ?_
      rintro e w11 ⟨rfl, hS⟩
      have T10 := Lib.hid (show Objs w w11 (.box (w1.heap.size + 1) 23 #[.int .i64 1, .int .i64 2] :: .box w1.heap.size 31 (pv pen0) :: .grid p 37 4 k18_4 :: .grid x 63 4 k18_0 :: [.cells (.slice A 12 c) (letters 12)]) from hS)
      clear hS T9
      have hp := (T10.out.box (k := 1) rfl).penAt
      obtain ⟨hx6, hf6, hz6⟩ := (T10.out.box (k := 0) rfl).facts
      go_wp2_with fail
      clear hp hx6 hf6 hz6
      refine (show Calls Tryd.prog 50 #[.pointer (some ⟨p, 0, none⟩), .agg #[.int .i64 2, .int .i64 0, .bool false], .agg #[.int .i64 1, .int .i64 2], .int .i64 9, .agg (pv pen0)] _ _ from (edDeleteLines_yes (y := 2) (j := 0) (pend := false) pen0 HT.out T10.out (k := 2) rfl (by decide) (by decide +kernel) k18_rect4 (by decide +kernel) (by decide +kernel) (by decide +kernel) (by decide))).mono ?_
      rintro e w12 ⟨rfl, hS⟩
      have T11 := Lib.hid (show Objs w w12 (.box (w1.heap.size + 1) 23 #[.int .i64 1, .int .i64 2] :: .box w1.heap.size 31 (pv pen0) :: .grid p 37 4 k18_5 :: .grid x 63 4 k18_0 :: [.cells (.slice A 12 c) (letters 12)]) from hS)
      clear hS T10
      have hp := (T11.out.box (k := 1) rfl).penAt
      obtain ⟨hx6, hf6, hz6⟩ := (T11.out.box (k := 0) rfl).facts
      go_wp2_with fail
      clear hp hx6 hf6 hz6
      refine (show Calls Tryd.prog 51 #[.pointer (some ⟨p, 0, none⟩), .int .i64 2, .string ⟨#[46, 46, 46, 46]⟩, .bool false] _ _ from (l18rowed_yes (y := 2) [46, 46, 46, 46] false _ rfl T11.out (k := 2) rfl (by decide) (by kernel_rfl) (by decide))).mono ?_
      rintro e w13 ⟨rfl, hS⟩
      have T12 := Lib.hid (show Objs w w13 (.box (w1.heap.size + 1) 23 #[.int .i64 1, .int .i64 2] :: .box w1.heap.size 31 (pv pen0) :: .grid p 37 4 k18_5 :: .grid x 63 4 k18_0 :: [.cells (.slice A 12 c) (letters 12)]) from hS)
      clear hS T11
      have hp := (T12.out.box (k := 1) rfl).penAt
      obtain ⟨hx6, hf6, hz6⟩ := (T12.out.box (k := 0) rfl).facts
      go_wp2_with fail
      clear hp hx6 hf6 hz6
      refine (show Calls Tryd.prog 47 #[.pointer (some ⟨p, 0, none⟩), .agg #[.int .i64 0, .int .i64 4, .bool false], .int .i64 1, .agg (pv pen0)] _ _ from (edInsertCells_no pen0 HT.out T12.out (k := 2) rfl (by decide) (by decide) (by decide +kernel) (by rw [chg18ok_is]; decide +kernel))).mono ?_
      rintro e w14 ⟨rfl, hS⟩
      have T13 := Lib.hid (show Objs w w14 (.box (w1.heap.size + 1) 23 #[.int .i64 1, .int .i64 2] :: .box w1.heap.size 31 (pv pen0) :: .grid p 37 4 k18_5 :: .grid x 63 4 k18_0 :: [.cells (.slice A 12 c) (letters 12)]) from hS)
      clear hS T12
      have hp := (T13.out.box (k := 1) rfl).penAt
      obtain ⟨hx6, hf6, hz6⟩ := (T13.out.box (k := 0) rfl).facts
      go_wp2_with fail
      clear hp hx6 hf6 hz6
      refine (show Calls Tryd.prog 49 #[.pointer (some ⟨p, 0, none⟩), .agg #[.int .i64 0, .int .i64 0, .bool false], .agg #[.int .i64 1, .int .i64 3], .int .i64 1, .agg (pv pen0)] _ _ from (edInsertLines_no pen0 HT.out T13.out (k := 2) rfl (by decide) (by decide) (by decide +kernel) (by rw [chg18ok_is]; decide +kernel))).mono ?_
      rintro e w15 ⟨rfl, hS⟩
      have T14 := Lib.hid (show Objs w w15 (.box (w1.heap.size + 1) 23 #[.int .i64 1, .int .i64 2] :: .box w1.heap.size 31 (pv pen0) :: .grid p 37 4 k18_5 :: .grid x 63 4 k18_0 :: [.cells (.slice A 12 c) (letters 12)]) from hS)
      clear hS T13
      have hp := (T14.out.box (k := 1) rfl).penAt
      obtain ⟨hx6, hf6, hz6⟩ := (T14.out.box (k := 0) rfl).facts
      go_wp2_with fail
      clear hp hx6 hf6 hz6
      refine (show Calls Tryd.prog 48 #[.pointer (some ⟨p, 0, none⟩), .agg #[.int .i64 0, .int .i64 0, .bool false], .int .i64 (-1), .agg (pv pen0)] _ _ from (edDeleteCells_no pen0 HT.out T14.out (k := 2) rfl (by decide) (by decide) (by decide +kernel) (by rw [chg18ok_is]; decide +kernel))).mono ?_
      rintro e w16 ⟨rfl, hS⟩
      have T15 := Lib.hid (show Objs w w16 (.box (w1.heap.size + 1) 23 #[.int .i64 1, .int .i64 2] :: .box w1.heap.size 31 (pv pen0) :: .grid p 37 4 k18_5 :: .grid x 63 4 k18_0 :: [.cells (.slice A 12 c) (letters 12)]) from hS)
      clear hS T14
      have hp := (T15.out.box (k := 1) rfl).penAt
      obtain ⟨hx6, hf6, hz6⟩ := (T15.out.box (k := 0) rfl).facts
      go_wp2_with fail
      clear hp hx6 hf6 hz6
      go_ret
      exact ⟨rfl, T15.out.base⟩
    have d1 : decide ((97 : Int) + m ≤ 108) = true := decide_eq_true (by omega)
    have SA := Lib.hid (hS.alloc1 (c1 := fv [letter m]) (t1 := 82))
    obtain ⟨v5, w5, hr5, hS5, A5, c5, rfl⟩ := run_appO SA.out (k := 1) rfl (RdC.lit _ [letter m]) (by rw [letters_length]; simp; omega) 53
    have S5 := Lib.hid hS5
    clear hS hS5 SA
    go_wp2_with (first | (refine wpList_bs1 (wanted_none rfl) _ rfl (letter m) rfl ?_) | (at_builtin; refine wpList_app _ _ (wanted_none rfl) rfl rfl rfl hr5 ?_))
    go_roundw
    case rel => exact ⟨m + 1, by omega, by go_num, by have := S5.out.tail; rw [← letters_succ]; exact this⟩
    case measure => simp [intOf]; omega
end Go.Proofs.YtghahanpmcpacaaDoor

/-
  From a walk to the row: what the row's list of variables gives, what arguments look like, and a law's last step.
-/
set_option linter.unusedSimpArgs false
set_option linter.unusedVariables false
set_option linter.constructorNameAsVariable false
set_option maxRecDepth 100000
namespace Go.Proofs.YtghahanpmcpacaaDoor
open Go.ChangeShapes Go.WideShapes Go.ChangeAt Go.RowKit Go.Deep Go.WideElems

section
variable {H : Type} {enc : TypeId × Value → H}

theorem trodAll_below {P : Program} (hl : laidOutB P = true) {W W' : World} (hb : Below W.heap.size W W') {sp : Nat → Bool} : ∀ (ts : List TypeId) (vs : List Value) (ds : List (DataW H)) (ps : List MemPlace), (∀ t ∈ ts, P.readableRec t = true ∧ t < P.types.size) →
    DataW.TrodAll enc P W 0 (fun _ => true) true ts vs ds ps → (∀ x ∈ ps, x.block < W.heap.size) → (∀ x ∈ ps, sp x.block = true) → DataW.TrodAll enc P W' 0 sp true ts vs ds ps
  | [], [], [], ps, _, h, _, _ => h
  | t :: ts, v :: vs, d :: ds, ps, ht, h, hlt, hs => by
    obtain ⟨p, q, h1, h2, rfl⟩ := h
    exact ⟨p, q, Trod_stays hl (ht t (by simp)).1 (ht t (by simp)).2 h1 (fun x hx => hb.same (hlt x (by simp [hx]))) (fun x hx => hs x (by simp [hx])),
      trodAll_below hl hb ts vs ds q (fun u hu => ht u (by simp [hu])) h2 (fun x hx => hlt x (by simp [hx])) (fun x hx => hs x (by simp [hx])), rfl⟩
  | [], _ :: _, _, _, _, h, _, _ => by cases h
  | [], [], _ :: _, _, _, h, _, _ => by cases h
  | _ :: _, [], _, _, _, h, _, _ => by cases h
  | _ :: _, _ :: _, [], _, _, h, _, _ => by cases h

/-- The last step of a law: it has returned true and made memory alone. -/
theorem law_post {P : Program} {f : Func} {s : ChangeSpec} {W W' : World} {args : Array Value} {ds gs : List (DataW H)} {before : List MemPlace} {tb : TypeId} (hv : s.vars = []) (hl : laidOutB P = true)
    (hW : DataW.Whole enc P f.params.toList s.vars false W args.toList ds gs before) (hpar : ∀ t ∈ f.params.toList, P.readableRec t = true ∧ t < P.types.size)
    (hfn : gs = [] → (s.fn H (ds ++ gs)).results = [.lit (.bool true)] ∧ (s.fn H (ds ++ gs)).args = ds ∧ (s.fn H (ds ++ gs)).vars = []) (hr : f.resultTypes = #[tb]) (htb : P.underlying tb = some .bool) (hb : Below W.heap.size W W') :
    s.post enc P f false true false false W args (.bool true) W' := by
  have hlt : ∀ p ∈ before, p.block < W.heap.size := fun p hp => hW.lt p hp
  have hW' := hW
  obtain ⟨p, q, hA, hV, rfl, hfz, hnd⟩ := hW
  rw [hv] at hV
  obtain ⟨rfl, rfl⟩ := trodVars_none hV
  obtain ⟨f1, f2, f3⟩ := hfn rfl
  have hargs : ∀ sp : Nat → Bool, (∀ x ∈ p, sp x.block = true) → DataW.TrodAll enc P W' 0 sp true f.params.toList args.toList (s.fn H (ds ++ [])).args p := fun sp hs => by
    rw [f2]; exact trodAll_below hl hb _ _ _ _ hpar hA (fun x hx => hlt x (by simp [hx])) hs
  have hres : ∀ (b : Nat) (sp : Nat → Bool) (hd : Bool), DataW.TrodAll enc P W' b sp hd f.resultTypes.toList ((Value.bool true).resultList f.resultTypes.size) (s.fn H (ds ++ [])).results [] := fun b sp hd => by
    rw [f1, hr]; exact trodAll_cons_mk (shut_bool htb _) trodAll_mk0
  have hvars : ∀ sp : Nat → Bool, DataW.TrodVars enc P W' sp s.vars (s.fn H (ds ++ [])).vars [] := fun sp => by rw [hv, f3]; rfl
  have hold : ∀ x ∈ p, (fun b => decide (b < W.heap.size)) x.block = true := fun x hx => by simpa using hlt x (by simp [hx])
  refine ⟨ds, [], p ++ [], [], p, [], hW', hres _ _ _, hargs _ hold, hvars _, World.keptBut_mono (fun x hx => ⟨hx, ?_⟩) (hb.frame (· ∈ p ++ [])), fun h => by cases h⟩
  exact Or.inr (by simpa using hx)

section
variable {w : World} {base : Nat} {sp : Nat → Bool} {hd : Bool} {fuel : Nat} {cs : List Value} {x : DataW H × List MemPlace}
theorem cells_color : Tryd.prog.cellsOf 28 = 5 := by kernel_rfl
theorem cells_pen : Tryd.prog.cellsOf 31 = 11 := by kernel_rfl
theorem cells_cell : Tryd.prog.cellsOf 82 = 16 := by kernel_rfl
theorem cells_arr3 : Tryd.prog.cellsOf 80 = 3 := by kernel_rfl
theorem cells_i32 : Tryd.prog.cellsOf 21 = 1 := by kernel_rfl
theorem cells_int : Tryd.prog.cellsOf 3 = 1 := by kernel_rfl
theorem cells_u8 : Tryd.prog.cellsOf 5 = 1 := by kernel_rfl
theorem cells_kind : Tryd.prog.cellsOf 26 = 1 := by kernel_rfl
theorem cells_flags : Tryd.prog.cellsOf 29 = 1 := by kernel_rfl
/-- A field that is a number. -/
theorem num_field {P : Program} {t : TypeId} {k : IntKind} {c : Value} {y : Option (DataW H × List MemPlace)} (ht : P.underlying t = some (.int k)) (hy : y.isSome = true) (h : DataW.trod enc P w base sp hd fuel t [c] = y) : ∃ n, c = .int k n := by
  obtain ⟨z, hz⟩ := Option.isSome_iff_exists.1 hy
  obtain ⟨n, hn, _⟩ := DataW.trod_int ht (h.trans hz)
  exact ⟨n, by simpa using hn⟩
theorem trod_color (h : DataW.trod enc Tryd.prog w base sp hd fuel 28 cs = some x) : ∃ k i r g b, cs = [.int .i64 k, .int .u8 i, .int .u8 r, .int .u8 g, .int .u8 b] := by
  obtain ⟨xs, n, _, _, hlen, hxl, hf⟩ := DataW.trod_struct Tryd.underlying28 h
  rw [cells_color] at hlen
  match cs, hlen, hf with
  | [c0, c1, c2, c3, c4], _, hf =>
    have h0 : DataW.trod enc Tryd.prog w base sp hd n 26 (([c0, c1, c2, c3, c4].drop 0).take (Tryd.prog.cellsOf 26)) = xs[0]? := hf 0 _ rfl
    have h1 : DataW.trod enc Tryd.prog w base sp hd n 5 (([c0, c1, c2, c3, c4].drop 1).take (Tryd.prog.cellsOf 5)) = xs[1]? := hf 1 _ rfl
    have h2 : DataW.trod enc Tryd.prog w base sp hd n 5 (([c0, c1, c2, c3, c4].drop 2).take (Tryd.prog.cellsOf 5)) = xs[2]? := hf 2 _ rfl
    have h3 : DataW.trod enc Tryd.prog w base sp hd n 5 (([c0, c1, c2, c3, c4].drop 3).take (Tryd.prog.cellsOf 5)) = xs[3]? := hf 3 _ rfl
    have h4 : DataW.trod enc Tryd.prog w base sp hd n 5 (([c0, c1, c2, c3, c4].drop 4).take (Tryd.prog.cellsOf 5)) = xs[4]? := hf 4 _ rfl
    simp only [cells_kind, cells_u8, List.drop_zero, List.drop_succ_cons, List.take_succ_cons, List.take_zero] at h0 h1 h2 h3 h4
    obtain ⟨k, rfl⟩ := num_field Tryd.underlying26 (by simp [hxl]) h0
    obtain ⟨i, rfl⟩ := num_field Tryd.underlying5 (by simp [hxl]) h1
    obtain ⟨r, rfl⟩ := num_field Tryd.underlying5 (by simp [hxl]) h2
    obtain ⟨g, rfl⟩ := num_field Tryd.underlying5 (by simp [hxl]) h3
    obtain ⟨b, rfl⟩ := num_field Tryd.underlying5 (by simp [hxl]) h4
    exact ⟨k, i, r, g, b, rfl⟩
theorem some_of {α : Type} {y : Option α} (h : y.isSome = true) : ∃ z, y = some z := Option.isSome_iff_exists.1 h
theorem trod_pen (h : DataW.trod enc Tryd.prog w base sp hd fuel 31 cs = some x) : ∃ q : Pen, cs = (pv q).toList := by
  obtain ⟨xs, n, _, _, hlen, hxl, hf⟩ := DataW.trod_struct Tryd.underlying31 h
  rw [cells_pen] at hlen
  have h0 : DataW.trod enc Tryd.prog w base sp hd n 28 ((cs.drop 0).take (Tryd.prog.cellsOf 28)) = xs[0]? := hf 0 _ rfl
  have h1 : DataW.trod enc Tryd.prog w base sp hd n 28 ((cs.drop 5).take (Tryd.prog.cellsOf 28)) = xs[1]? := hf 1 _ rfl
  have h2 : DataW.trod enc Tryd.prog w base sp hd n 29 ((cs.drop 10).take (Tryd.prog.cellsOf 29)) = xs[2]? := hf 2 _ rfl
  obtain ⟨z0, e0⟩ := some_of (show (xs[0]?).isSome = true by simp [hxl])
  obtain ⟨z1, e1⟩ := some_of (show (xs[1]?).isSome = true by simp [hxl])
  simp only [cells_color, cells_flags] at h0 h1 h2
  obtain ⟨k, i, r, g, b, hc0⟩ := trod_color (h0.trans e0)
  obtain ⟨k', i', r', g', b', hc1⟩ := trod_color (h1.trans e1)
  match cs, hlen with
  | [c0, c1, c2, c3, c4, c5, c6, c7, c8, c9, c10], _ =>
    simp only [List.drop_zero, List.drop_succ_cons, List.take_succ_cons, List.take_zero] at h2 hc0 hc1
    obtain ⟨fl, rfl⟩ := num_field Tryd.underlying29 (by simp [hxl]) h2
    simp only [List.cons.injEq, and_true] at hc0 hc1
    obtain ⟨rfl, rfl, rfl, rfl, rfl⟩ := hc0
    obtain ⟨rfl, rfl, rfl, rfl, rfl⟩ := hc1
    exact ⟨⟨k, i, r, g, b, k', i', r', g', b', fl⟩, rfl⟩
theorem trod_arr3 (h : DataW.trod enc Tryd.prog w base sp hd fuel 80 cs = some x) : ∃ a b c, cs = [.int .i32 a, .int .i32 b, .int .i32 c] := by
  obtain ⟨xs, n, _, _, hlen, hxl, hf⟩ := DataW.trod_array Tryd.underlying80 h
  rw [cells_arr3] at hlen
  match cs, hlen with
  | [c0, c1, c2], _ =>
    have h0 := hf 0 (by omega)
    have h1 := hf 1 (by omega)
    have h2 := hf 2 (by omega)
    simp only [cells_i32, Nat.zero_mul, Nat.one_mul, Nat.mul_one, List.drop_zero, List.drop_succ_cons, List.take_succ_cons, List.take_zero] at h0 h1 h2
    obtain ⟨a, rfl⟩ := num_field Tryd.underlying21 (by simp [hxl]) h0
    obtain ⟨b, rfl⟩ := num_field Tryd.underlying21 (by simp [hxl]) h1
    obtain ⟨c, rfl⟩ := num_field Tryd.underlying21 (by simp [hxl]) h2
    exact ⟨a, b, c, rfl⟩
theorem trod_cell (h : DataW.trod enc Tryd.prog w base sp hd fuel 82 cs = some x) : ∃ q : Cell, cs = (cv q).toList := by
  obtain ⟨xs, n, _, _, hlen, hxl, hf⟩ := DataW.trod_struct Tryd.underlying82 h
  rw [cells_cell] at hlen
  have h0 : DataW.trod enc Tryd.prog w base sp hd n 21 ((cs.drop 0).take (Tryd.prog.cellsOf 21)) = xs[0]? := hf 0 _ rfl
  have h1 : DataW.trod enc Tryd.prog w base sp hd n 80 ((cs.drop 1).take (Tryd.prog.cellsOf 80)) = xs[1]? := hf 1 _ rfl
  have h2 : DataW.trod enc Tryd.prog w base sp hd n 3 ((cs.drop 4).take (Tryd.prog.cellsOf 3)) = xs[2]? := hf 2 _ rfl
  have h3 : DataW.trod enc Tryd.prog w base sp hd n 31 ((cs.drop 5).take (Tryd.prog.cellsOf 31)) = xs[3]? := hf 3 _ rfl
  obtain ⟨z1, e1⟩ := some_of (show (xs[1]?).isSome = true by simp [hxl])
  obtain ⟨z3, e3⟩ := some_of (show (xs[3]?).isSome = true by simp [hxl])
  simp only [cells_i32, cells_arr3, cells_int, cells_pen] at h0 h1 h2 h3
  obtain ⟨m0, m1, m2, hm⟩ := trod_arr3 (h1.trans e1)
  obtain ⟨q, hq⟩ := trod_pen (h3.trans e3)
  match cs, hlen with
  | [c0, c1, c2, c3, c4, c5, c6, c7, c8, c9, c10, c11, c12, c13, c14, c15], _ =>
    simp only [List.drop_zero, List.drop_succ_cons, List.take_succ_cons, List.take_zero] at h0 h2 hm hq
    obtain ⟨r, rfl⟩ := num_field Tryd.underlying21 (by simp [hxl]) h0
    obtain ⟨wd, rfl⟩ := num_field Tryd.underlying3 (by simp [hxl]) h2
    simp only [List.cons.injEq, and_true] at hm
    obtain ⟨rfl, rfl, rfl⟩ := hm
    simp only [pv, List.cons.injEq, and_true] at hq
    obtain ⟨rfl, rfl, rfl, rfl, rfl, rfl, rfl, rfl, rfl, rfl, rfl⟩ := hq
    exact ⟨⟨r, m0, m1, m2, wd, q⟩, rfl⟩
end
/-- A slice of cells that came in, at a world. -/
theorem trod_cells {w : World} {fuel : Nat} {cs : List Value} {x : DataW H × List MemPlace} {hd : Bool} (h : DataW.trod enc Tryd.prog w 0 (fun _ => true) hd fuel 53 cs = some x) : ∃ A c l, cs = [.slice A l.length c] ∧ RdC w A c l ∧ c ≤ maxLen := by
  rcases open_slice Tryd.underlying53 h with ⟨rfl, _⟩ | ⟨a, len, cap, m, n, D, Pl, rfl, _, hl, hm, hmm, _, hi⟩
  · exact ⟨none, 0, [], rfl, RdC.nil _, by simp [maxLen]⟩
  · simp only [if_true] at hmm
    subst hmm
    rw [cells_cell] at hi
    have hall : ∀ i, i < len → ∃ c : Cell, ∀ j, j < 16 → w.cell? ((a.add (i * 16)).add j) = (cv c)[j]? := by
      intro i hlt
      obtain ⟨cs', hc, ht⟩ := hi i (by omega)
      obtain ⟨_, hcl, hat⟩ := World.cells?_some hc
      obtain ⟨c, rfl⟩ := trod_cell ht
      exact ⟨c, fun j hj => by rw [hat j hj]; simp⟩
    have hl2 : ∃ l : List Cell, l.length = len ∧ ∀ i (h : i < l.length), ∀ j, j < 16 → w.cell? ((a.add (i * 16)).add j) = (cv l[i])[j]? := by
      refine ⟨(List.range len).map fun i => if h : i < len then (hall i h).choose else cell0, by simp, fun i h j hj => ?_⟩
      have hlt : i < len := by simpa using h
      simp only [List.getElem_map, List.getElem_range, hlt, dif_pos]
      exact (hall i hlt).choose_spec j hj
    obtain ⟨l, rfl, hcell⟩ := hl2
    refine ⟨some a, m, l, rfl, ⟨hl, (fun h => by cases h), fun hn => ?_⟩, hm⟩
    have h00 := hcell 0 hn 0 (by omega)
    simp only [Nat.zero_mul, Addr.add_zero', cv_get0] at h00
    obtain ⟨b, off, spot⟩ := a
    have hspot : spot = none := by
      cases spot with
      | none => rfl
      | some q => simp [World.cell?] at h00; split at h00 <;> simp at h00
    subst hspot
    refine ⟨b, off, rfl, block_lt_of_cell h00, fun j v hv => ?_⟩
    have hj : j < (flat l).length := (List.getElem?_eq_some_iff.1 hv).1
    rw [flat_length] at hj
    have hk : j / 16 < l.length := by omega
    have := hcell (j / 16) hk (j % 16) (by omega)
    rw [add_at, add_at] at this
    rw [show off + j = off + j / 16 * 16 + j % 16 by omega, this, ← hv, ← flat_at l (j / 16) (j % 16) l[j / 16] (by simp [hk]) (by omega)]
    congr 1; omega
theorem open_cells {v : Value} {w : World} {r : Reach} {b0 : Nat} {hd : Bool} {d : DataW H} {p : List MemPlace} (hv : Value.okWide Tryd.prog w r b0 53 v) (h : DataW.Trod enc Tryd.prog w 0 (fun _ => true) hd 53 v d p) : ∃ A c l, v = .slice A l.length c ∧ RdC w A c l ∧ c ≤ maxLen := by
  obtain ⟨a0, n, c, rfl⟩ := okWide_slice Tryd.underlying53 hv
  obtain ⟨fuel, hf⟩ := h
  obtain ⟨A, c', l, he, hr⟩ := trod_cells hf
  exact ⟨A, c', l, by simpa [Value.cells] using he, hr⟩
end
end Go.Proofs.YtghahanpmcpacaaDoor

/-
  What a line among the arguments looks like.
-/
set_option linter.unusedSimpArgs false
set_option linter.unusedVariables false
set_option linter.constructorNameAsVariable false
set_option maxRecDepth 100000
namespace Go.Proofs.YtghahanpmcpacaaDoor
open Go.ChangeShapes Go.WideShapes Go.ChangeAt Go.RowKit Go.Deep Go.WideElems

section
variable {H : Type} {enc : TypeId × Value → H}
theorem cells_bool : Tryd.prog.cellsOf 4 = 1 := by kernel_rfl
end
end Go.Proofs.YtghahanpmcpacaaDoor

/-
  What cursors, and slices of records, look like among the arguments.
-/
set_option linter.unusedSimpArgs false
set_option linter.unusedVariables false
set_option linter.constructorNameAsVariable false
set_option maxRecDepth 100000
namespace Go.Proofs.YtghahanpmcpacaaDoor
open Go.ChangeShapes Go.WideShapes Go.ChangeAt Go.RowKit Go.Deep Go.WideElems

section
variable {H : Type} {enc : TypeId × Value → H}
theorem cells_cursor : Tryd.prog.cellsOf 25 = 3 := by kernel_rfl
theorem trod_cursor {w : World} {base : Nat} {sp : Nat → Bool} {fuel : Nat} {cs : List Value} {x : DataW H × List MemPlace} {hd : Bool} (h : DataW.trod enc Tryd.prog w base sp hd fuel 25 cs = some x) : ∃ r c b, cs = [.int .i64 r, .int .i64 c, .bool b] := by
  obtain ⟨xs, n, _, _, hlen, hxl, hf⟩ := DataW.trod_struct Tryd.underlying25 h
  rw [cells_cursor] at hlen
  match cs, hlen, hf with
  | [c0, c1, c2], _, hf =>
    have h0 : DataW.trod enc Tryd.prog w base sp hd n 3 (([c0, c1, c2].drop 0).take (Tryd.prog.cellsOf 3)) = xs[0]? := hf 0 _ rfl
    have h1 : DataW.trod enc Tryd.prog w base sp hd n 3 (([c0, c1, c2].drop 1).take (Tryd.prog.cellsOf 3)) = xs[1]? := hf 1 _ rfl
    have h2 : DataW.trod enc Tryd.prog w base sp hd n 4 (([c0, c1, c2].drop 2).take (Tryd.prog.cellsOf 4)) = xs[2]? := hf 2 _ rfl
    obtain ⟨z2, e2⟩ := some_of (show (xs[2]?).isSome = true by simp [hxl])
    simp only [cells_int, cells_bool, List.drop_zero, List.drop_succ_cons, List.take_succ_cons, List.take_zero] at h0 h1 h2
    obtain ⟨r, rfl⟩ := num_field Tryd.underlying3 (by simp [hxl]) h0
    obtain ⟨c, rfl⟩ := num_field Tryd.underlying3 (by simp [hxl]) h1
    obtain ⟨b, hb, _⟩ := DataW.trod_bool Tryd.underlying4 (h2.trans e2)
    simp only [List.cons.injEq, and_true] at hb
    subst hb
    exact ⟨r, c, b, rfl⟩
end
end Go.Proofs.YtghahanpmcpacaaDoor

/-
  What regions, and numbers with their range, look like among the arguments.
-/
set_option linter.unusedSimpArgs false
set_option linter.unusedVariables false
set_option linter.constructorNameAsVariable false
set_option maxRecDepth 100000
namespace Go.Proofs.YtghahanpmcpacaaDoor
open Go.ChangeShapes Go.WideShapes Go.ChangeAt Go.RowKit Go.Deep Go.WideElems

section
variable {H : Type} {enc : TypeId × Value → H}
def In64 (n : Int) : Prop := -9223372036854775808 ≤ n ∧ n ≤ 9223372036854775807
theorem In64.le {n : Int} (h : In64 n) : n ≤ 9223372036854775807 := And.right h
theorem wf_in64 {n : Int} (h : (Lit.int .i64 n).wf = true) : In64 n := by
  unfold In64
  simpa [Lit.wf, IntKind.min, IntKind.max, IntKind.bits, IntKind.signed] using h
/-- A field that is an int, with its range. -/
theorem num_fieldW {P : Program} {w : World} {base : Nat} {sp : Nat → Bool} {hd : Bool} {fuel : Nat} {t : TypeId} {k : IntKind} {c : Value} {y : Option (DataW H × List MemPlace)} (ht : P.underlying t = some (.int k)) (hy : y.isSome = true) (h : DataW.trod enc P w base sp hd fuel t [c] = y) : ∃ n, c = .int k n ∧ (Lit.int k n).wf = true := by
  obtain ⟨z, hz⟩ := Option.isSome_iff_exists.1 hy
  obtain ⟨n, hn, _, hw⟩ := DataW.trod_int ht (h.trans hz)
  exact ⟨n, by simpa using hn, hw⟩
theorem cells_region : Tryd.prog.cellsOf 23 = 2 := by kernel_rfl
theorem trod_region {w : World} {base : Nat} {sp : Nat → Bool} {fuel : Nat} {cs : List Value} {x : DataW H × List MemPlace} {hd : Bool} (h : DataW.trod enc Tryd.prog w base sp hd fuel 23 cs = some x) : ∃ r c, cs = [.int .i64 r, .int .i64 c] ∧ In64 r ∧ In64 c := by
  obtain ⟨xs, n, _, _, hlen, hxl, hf⟩ := DataW.trod_struct Tryd.underlying23 h
  rw [cells_region] at hlen
  match cs, hlen, hf with
  | [c0, c1], _, hf =>
    have h0 : DataW.trod enc Tryd.prog w base sp hd n 3 (([c0, c1].drop 0).take (Tryd.prog.cellsOf 3)) = xs[0]? := hf 0 _ rfl
    have h1 : DataW.trod enc Tryd.prog w base sp hd n 3 (([c0, c1].drop 1).take (Tryd.prog.cellsOf 3)) = xs[1]? := hf 1 _ rfl
    simp only [cells_int, List.drop_zero, List.drop_succ_cons, List.take_succ_cons, List.take_zero] at h0 h1
    obtain ⟨r, rfl, hr⟩ := num_fieldW Tryd.underlying3 (by simp [hxl]) h0
    obtain ⟨c, rfl, hc⟩ := num_fieldW Tryd.underlying3 (by simp [hxl]) h1
    exact ⟨r, c, rfl, wf_in64 hr, wf_in64 hc⟩
end
end Go.Proofs.YtghahanpmcpacaaDoor

/-
  What the calls of chapter 18 look like among the arguments.
-/
set_option linter.unusedSimpArgs false
set_option linter.unusedVariables false
set_option linter.constructorNameAsVariable false
set_option maxRecDepth 100000
namespace Go.Proofs.YtghahanpmcpacaaDoor
open Go.ChangeShapes Go.WideShapes Go.ChangeAt Go.RowKit Go.Deep Go.WideElems

instance : Inhabited Act18 := ⟨⟨0, 0, 0, 0, false, 0, 0, pen0⟩⟩
section
variable {H : Type} {enc : TypeId × Value → H}
theorem cells_act18 : Tryd.prog.cellsOf 50 = 18 := by kernel_rfl
theorem trod_act18 {w : World} {base : Nat} {sp : Nat → Bool} {fuel : Nat} {cs : List Value} {x : DataW H × List MemPlace} {hd : Bool} (h : DataW.trod enc Tryd.prog w base sp hd fuel 50 cs = some x) : ∃ a : Act18, cs = (av18 a).toList ∧ In64 a.n := by
  obtain ⟨xs, n, _, _, hlen, hxl, hf⟩ := DataW.trod_struct Tryd.underlying50 h
  rw [cells_act18] at hlen
  have h0 : DataW.trod enc Tryd.prog w base sp hd n 3 ((cs.drop 0).take (Tryd.prog.cellsOf 3)) = xs[0]? := hf 0 _ rfl
  have h1 : DataW.trod enc Tryd.prog w base sp hd n 3 ((cs.drop 1).take (Tryd.prog.cellsOf 3)) = xs[1]? := hf 1 _ rfl
  have h2 : DataW.trod enc Tryd.prog w base sp hd n 25 ((cs.drop 2).take (Tryd.prog.cellsOf 25)) = xs[2]? := hf 2 _ rfl
  have h3 : DataW.trod enc Tryd.prog w base sp hd n 23 ((cs.drop 5).take (Tryd.prog.cellsOf 23)) = xs[3]? := hf 3 _ rfl
  have h4 : DataW.trod enc Tryd.prog w base sp hd n 31 ((cs.drop 7).take (Tryd.prog.cellsOf 31)) = xs[4]? := hf 4 _ rfl
  obtain ⟨z2, e2⟩ := some_of (show (xs[2]?).isSome = true by simp [hxl])
  obtain ⟨z3, e3⟩ := some_of (show (xs[3]?).isSome = true by simp [hxl])
  obtain ⟨z4, e4⟩ := some_of (show (xs[4]?).isSome = true by simp [hxl])
  simp only [cells_int, cells_cursor, cells_region, cells_pen] at h0 h1 h2 h3 h4
  obtain ⟨r, c, b, hm⟩ := trod_cursor (h2.trans e2)
  obtain ⟨tp, bt, hg, -, -⟩ := trod_region (h3.trans e3)
  obtain ⟨q, hq⟩ := trod_pen (h4.trans e4)
  match cs, hlen with
  | [c0, c1, c2, c3, c4, c5, c6, c7, c8, c9, c10, c11, c12, c13, c14, c15, c16, c17], _ =>
    simp only [List.drop_zero, List.drop_succ_cons, List.take_succ_cons, List.take_zero] at h0 h1 hm hg hq
    obtain ⟨wh, rfl⟩ := num_field Tryd.underlying3 (by simp [hxl]) h0
    obtain ⟨nn, rfl, hnn⟩ := num_fieldW Tryd.underlying3 (by simp [hxl]) h1
    simp only [List.cons.injEq, and_true] at hm
    obtain ⟨rfl, rfl, rfl⟩ := hm
    simp only [List.cons.injEq, and_true] at hg
    obtain ⟨rfl, rfl⟩ := hg
    simp only [pv, List.cons.injEq, and_true] at hq
    obtain ⟨rfl, rfl, rfl, rfl, rfl, rfl, rfl, rfl, rfl, rfl, rfl⟩ := hq
    exact ⟨⟨wh, nn, r, c, b, tp, bt, q⟩, rfl, wf_in64 hnn⟩
theorem open_act18 {v : Value} {w : World} {r : Reach} {b0 base : Nat} {sp : Nat → Bool} {hd : Bool} {d : DataW H} {p : List MemPlace} (hv : Value.okWide Tryd.prog w r b0 50 v) (h : DataW.Trod enc Tryd.prog w base sp hd 50 v d p) : ∃ a : Act18, v = .agg (av18 a) ∧ In64 a.n := by
  obtain ⟨cs, rfl, _⟩ := okWide_struct Tryd.underlying50 hv
  obtain ⟨fuel, hf⟩ := h
  obtain ⟨a, ha, hn⟩ := trod_act18 hf
  exact ⟨a, by rw [show cs = av18 a from by simpa [Value.cells] using ha], hn⟩
end
end Go.Proofs.YtghahanpmcpacaaDoor

/-
  What the rows' list gives: the program's two tables lie in their blocks. And the pieces that every card of this seat asks.
-/
set_option linter.unusedSimpArgs false
set_option linter.unusedVariables false
set_option linter.constructorNameAsVariable false
set_option maxRecDepth 100000
namespace Go.Proofs.YtghahanpmcpacaaDoor
open Go.ChangeShapes Go.WideShapes Go.ChangeAt Go.RowKit Go.Deep Go.WideElems

theorem own_knob : ownKnob Tryd.prog.godebug = none := by kernel_rfl
theorem laid_out : laidOutB Tryd.prog = true := by kernel_rfl
def pairData {H : Type} (x : Int × Int) : DataW H := .agg [.lit (.int .i32 x.1), .lit (.int .i32 x.2)]
theorem cells_pair : Tryd.prog.cellsOf 136 = 2 := by kernel_rfl
section
variable {H : Type} {enc : TypeId × Value → H} {w : World} {base : Nat} {sp : Nat → Bool} {hd : Bool} {fuel : Nat} {cs : List Value}
theorem num_lit {t : TypeId} {c : Value} {n : Int} {p : List MemPlace} (ht : Tryd.prog.underlying t = some (.int .i32)) (h : DataW.trod enc Tryd.prog w base sp hd fuel t [c] = some (.lit (.int .i32 n), p)) : c = .int .i32 n := by
  obtain ⟨m, hm, hx, _⟩ := DataW.trod_int ht h
  simp only [Prod.mk.injEq, DataW.lit.injEq, Lit.int.injEq, true_and] at hx
  simp only [List.cons.injEq, and_true] at hm
  rw [hm, hx.1]
theorem trod_pair {x : Int × Int} {p : List MemPlace} (h : DataW.trod enc Tryd.prog w base sp hd fuel 136 cs = some (pairData x, p)) : cs = [.int .i32 x.1, .int .i32 x.2] := by
  obtain ⟨xs, n, _, hx, hlen, hxl, hf⟩ := DataW.trod_array Tryd.underlying136 h
  rw [cells_pair] at hlen
  match cs, hlen, xs, hxl, hf, hx with
  | [c0, c1], _, [y0, y1], _, hf, hx =>
    have h0 := hf 0 (by omega)
    have h1 := hf 1 (by omega)
    simp only [cells_i32, Nat.zero_mul, Nat.one_mul, List.drop_zero, List.drop_succ_cons, List.take_succ_cons, List.take_zero, List.getElem?_cons_zero, List.getElem?_cons_succ] at h0 h1
    simp only [pairData, List.map_cons, List.map_nil, Prod.mk.injEq, DataW.agg.injEq, List.cons.injEq, and_true] at hx
    obtain ⟨y0a, y0b⟩ := y0
    obtain ⟨y1a, y1b⟩ := y1
    obtain ⟨⟨e0, e1⟩, _⟩ := hx
    simp only at e0 e1
    subst e0 e1
    rw [num_lit Tryd.underlying21 h0, num_lit Tryd.underlying21 h1]
theorem trod_table {t : TypeId} {tab : List (Int × Int)} {p : List MemPlace} (ht : Tryd.prog.underlying t = some (.array tab.length 136)) (h : DataW.trod enc Tryd.prog w base sp hd fuel t cs = some (.agg (tab.map pairData), p)) :
    ∀ k, k < tab.length → cs[k * 2]? = some (.int .i32 (loOf tab k)) ∧ cs[k * 2 + 1]? = some (.int .i32 (hiOf tab k)) := by
  obtain ⟨xs, n, _, hx, hlen, hxl, hf⟩ := DataW.trod_array ht h
  intro k hk
  have hkf := hf k hk
  rw [cells_pair] at hkf
  have hk2 : k < xs.length := by omega
  rw [List.getElem?_eq_getElem hk2] at hkf
  simp only [Prod.mk.injEq, DataW.agg.injEq] at hx
  have he : xs[k].1 = pairData tab[k] := by
    have := congrArg (fun l => l[k]?) hx.1
    simp only [List.getElem?_map, List.getElem?_eq_getElem hk, List.getElem?_eq_getElem hk2, Option.map_some, Option.some.injEq] at this
    exact this.symm
  have hp := trod_pair (x := tab[k]) (p := xs[k].2) (by rw [hkf, ← he])
  have g0 := congrArg (fun l => l[0]?) hp
  have g1 := congrArg (fun l => l[1]?) hp
  simp only [List.getElem?_take, List.getElem?_drop, List.getElem?_cons_zero, List.getElem?_cons_succ, Nat.add_zero] at g0 g1
  simp only [loOf, hiOf, List.getD_eq_getElem?_getD, List.getElem?_eq_getElem hk, Option.getD_some]
  exact ⟨by simpa using g0, by simpa using g1⟩
end
theorem pairs_of {W : World} {name : String} {g : Nat} {t : TypeId} {tab : List (Int × Int)} {cs : Array Value} {fuel : Nat} {p : List MemPlace} {base : Nat} {sp : Nat → Bool} {hd : Bool} {H : Type} {enc : TypeId × Value → H} (hg : Tryd.prog.globalNamed name = some g) (ht : Tryd.prog.underlying t = some (.array tab.length 136))
    (hv : W.var? Tryd.prog name = some cs) (h : DataW.trod enc Tryd.prog W base sp hd fuel t cs.toList = some (.agg (tab.map pairData), p)) (hn : 0 < tab.length) : Pairs W g tab.length (loOf tab) (hiOf tab) := by
  have hc := World.var?_cell hg hv
  have htb := trod_table ht h
  refine ⟨?_, fun k hk => ?_⟩
  · have := (htb 0 hn).1
    have h0 := hc 0
    simp only [Nat.zero_mul, Array.getElem?_toList] at this
    rw [this] at h0
    exact block_lt_of_cell h0
  · obtain ⟨h1, h2⟩ := htb k hk
    rw [hc, hc]
    exact ⟨by simpa using h1, by simpa using h2⟩
theorem tabs_of {W : World} (h : laidMetH Tryd.prog Rows.regionNilRow.laid W) : Tabs W := by
  have h' : laidMet Tryd.prog Rows.regionNilRow.laid W := h
  obtain ⟨ps, ⟨g, t, cs, fuel, p, q, hg, ht, hv, hd, ⟨g2, t2, cs2, fuel2, p2, q2, hg2, ht2, hv2, hd2, _⟩, _⟩, _⟩ := h'
  have e1 : Tryd.prog.globalNamed "scrollback/width.marks" = some 0 := by kernel_rfl
  have e2 : Tryd.prog.globalNamed "scrollback/width.wide" = some 1 := by kernel_rfl
  obtain rfl := Option.some.inj (e1.symm.trans hg)
  obtain rfl := Option.some.inj (e2.symm.trans hg2)
  have f1 : (Tryd.prog.globals[0]?).map (·.type) = some 137 := by kernel_rfl
  have f2 : (Tryd.prog.globals[1]?).map (·.type) = some 138 := by kernel_rfl
  obtain rfl := Option.some.inj (f1.symm.trans ht)
  obtain rfl := Option.some.inj (f2.symm.trans ht2)
  exact ⟨pairs_of (tab := marksTab) e1 Tryd.underlying137 hv hd (by decide), pairs_of (tab := wideTab) e2 Tryd.underlying138 hv2 hd2 (by decide)⟩
/-- A world for the witnesses: the tables hold what their initialisers lay. -/
def setTab (n : Nat) (tab : List (Int × Int)) (h : Array Obj) : Array Obj := h.modify n fun
  | .cells _ t frozen => .cells (tab.flatMap fun x => [Value.int .i32 x.1, Value.int .i32 x.2]).toArray t frozen
  | o => o
noncomputable def laidWorld (os : Os) : World :=
  { World.holding Tryd.prog os ⟨#[], #[], []⟩ with heap := setTab 1 wideTab (setTab 0 marksTab (World.holding Tryd.prog os ⟨#[], #[], []⟩).heap) }
end Go.Proofs.YtghahanpmcpacaaDoor

/-
  EditCells, EditLines: the laws return true.
-/
set_option linter.unusedSimpArgs false
set_option linter.unusedVariables false
namespace Go.Proofs.YtghahanpmcpacaaDoor
open Go.RowKit

theorem small_true {rows cols : Int} {n : Nat} (h : smallB rows cols n = true) : ∃ rr s : Nat, rows = rr ∧ cols = s ∧ (1 ≤ rr ∧ rr ≤ 6) ∧ (1 ≤ s ∧ s ≤ 12) ∧ n ≤ 20 := by
  have := of_decide_eq_true h
  exact ⟨rows.toNat, cols.toNat, by omega, by omega, by omega, by omega, this.2.2⟩
end Go.Proofs.YtghahanpmcpacaaDoor

/-
  EditPlays: the law returns true.
-/
set_option linter.unusedSimpArgs false
set_option linter.unusedVariables false
namespace Go.Proofs.YtghahanpmcpacaaDoor
open Go.RowKit

end Go.Proofs.YtghahanpmcpacaaDoor

/-
  EditNil: the law returns true.
-/
set_option linter.unusedSimpArgs false
set_option linter.unusedVariables false
namespace Go.Proofs.YtghahanpmcpacaaDoor
open Go.RowKit

end Go.Proofs.YtghahanpmcpacaaDoor
