/-
  AlternateSizes: the law returns true.
-/
import Derived.Test.YtdndoikgnohkkaaDoorA4
set_option linter.unusedSimpArgs false
set_option linter.unusedVariables false
namespace Go.Proofs.YtdndoikgnohkkaaDoor
open Go.RowKit

set_option maxRecDepth 100000 in
set_option maxHeartbeats 8000000 in
theorem l24AlternateSizes_any (rows cols : Int) (w : World) (hT : Tabs w) : Calls Tryd.prog 5 #[.int .i64 rows, .int .i64 cols] w fun e w' => e = .returned (.bool true) ∧ Below w.heap.size w w' := by
 have HT := Lib.hid hT
 clear hT
 have hc : (rows < 1 ∨ 1000 < rows ∨ ((1 ≤ rows ∧ rows ≤ 3) ∧ cols < 1) ∨ ((1 ≤ rows ∧ rows ≤ 3) ∧ 1000 < cols) ∨ ((3 < rows ∧ rows ≤ 1000) ∧ cols < 1) ∨ ((3 < rows ∧ rows ≤ 1000) ∧ 1000 < cols)) ∨ ((3 < rows ∧ rows ≤ 1000) ∧ (3 < cols ∧ cols ≤ 1000)) ∨ (((1 ≤ rows ∧ rows ≤ 3) ∧ (1 ≤ cols ∧ cols ≤ 1000)) ∨ ((3 < rows ∧ rows ≤ 1000) ∧ (1 ≤ cols ∧ cols ≤ 3))) := by omega
 rcases hc with hc | ⟨⟨h1, h2⟩, h3, h4⟩ | hc
 ·have HNO := Lib.hid (show rows < 1 ∨ 1000 < rows ∨ cols < 1 ∨ 1000 < cols by omega)
  rcases hc with h | h | ⟨⟨h1, h2⟩, h3⟩ | ⟨⟨h1, h2⟩, h3⟩ | ⟨⟨h1, h2⟩, h3⟩ | ⟨⟨h1, h2⟩, h3⟩
  case' inl => have n1 : ¬ 3 < rows := (by omega)
  case' inr.inl => have n1 : 3 < rows := (by omega); have n2 : ¬ rows ≤ 1000 := (by omega); have n3 : ¬ rows < 1 := (by omega)
  case' inr.inr.inl => have n1 : ¬ 3 < rows := (by omega); have n3 : ¬ rows < 1 := (by omega); have n4 : ¬ 1000 < rows := (by omega)
  case' inr.inr.inr.inl => have n1 : ¬ 3 < rows := (by omega); have n3 : ¬ rows < 1 := (by omega); have n4 : ¬ 1000 < rows := (by omega); have n5 : ¬ cols < 1 := (by omega)
  case' inr.inr.inr.inr.inl => have n3 : ¬ rows < 1 := (by omega); have n4 : ¬ 1000 < rows := (by omega); have n5 : ¬ 3 < cols := (by omega)
  case' inr.inr.inr.inr.inr => have n3 : ¬ rows < 1 := (by omega); have n4 : ¬ 1000 < rows := (by omega); have n5 : ¬ cols < 1 := (by omega); have n6 : 3 < cols := (by omega); have n7 : ¬ cols ≤ 1000 := (by omega)
  all_goals
   go_enter Tryd.func5, Tryd.ntmps5
   go_wp2_with fail
   refine (pairNew_no rows cols HNO.out (objs_start w)).mono ?_
   rintro e w1 ⟨rfl, hS⟩
   have S1 := Lib.hid hS
   clear hS
   go_wp2_with fail
   refine (l24known_any _ (S1.out.tabs HT.out)).mono ?_
   rintro e w2 ⟨rfl, hb⟩
   have HB := Lib.hid (S1.out.bel hb).base
   clear hb
   go_wp2_with fail
   go_ret
   exact ⟨rfl, HB.out⟩
 ·go_enter Tryd.func5, Tryd.ntmps5
  go_wp2_with fail
  refine (l24known_any _ HT.out).mono ?_
  rintro e w2 ⟨rfl, hb⟩
  go_wp2_with fail
  go_ret
  exact ⟨rfl, hb⟩
 obtain ⟨rr, rfl⟩ : ∃ rr : Nat, rows = rr := ⟨rows.toNat, by omega⟩
 obtain ⟨s, rfl⟩ : ∃ s : Nat, cols = s := ⟨cols.toNat, by omega⟩
 have h1 : 1 ≤ rr := by omega
 have h2 : rr ≤ 1000 := by omega
 have h3 : 1 ≤ s := by omega
 have h4 : s ≤ 1000 := by omega
 have e1 : ¬ (rr : Int) < 1 := by omega
 have e2 : ¬ (1000 : Int) < rr := by omega
 have e3 : ¬ (s : Int) < 1 := by omega
 have e4 : ¬ (1000 : Int) < s := by omega
 rcases hc with ⟨⟨g1, g2⟩, g3, g4⟩ | ⟨⟨g1, g2⟩, g3, g4⟩
 case' inl => have n1 : ¬ (3 : Int) < rr := (by omega)
 case' inr => have n2 : ¬ (3 : Int) < s := (by omega)
 all_goals
  go_enter Tryd.func5, Tryd.ntmps5
  go_wp2_with fail
  refine (pairNew_yes rr s h1 h2 h3 h4 (objs_start w)).mono ?_
  rintro e w1 ⟨p, rfl, hS⟩
  have S1 := Lib.hid hS
  clear hS
  go_wp2_with fail
  refine (refNew_yes rr s h2 h4 S1.out).mono ?_
  rintro e w2 ⟨x, rfl, hS⟩
  have S2 := Lib.hid hS
  clear hS S1
  go_wp2_with fail
  refine (l24alike_any HT.out S2.out.swap (newP_good h1 h2 h3 h4)).mono ?_
  rintro e w3 ⟨rfl, hS⟩
  have S3 := Lib.hid hS
  clear hS S2
  go_wp2_with fail
  refine (l24known_any _ (S3.out.tabs HT.out)).mono ?_
  rintro e w4 ⟨rfl, hb⟩
  have HB := Lib.hid (S3.out.bel hb).base
  clear hb
  go_wp2_with fail
  go_ret
  exact ⟨rfl, HB.out⟩
end Go.Proofs.YtdndoikgnohkkaaDoor
