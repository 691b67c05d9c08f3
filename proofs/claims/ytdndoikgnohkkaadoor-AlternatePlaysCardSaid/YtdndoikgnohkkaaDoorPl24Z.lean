/-
  AlternatePlays: the law returns true.
-/
import Derived.Test.YtdndoikgnohkkaaDoorC5
set_option linter.unusedSimpArgs false
set_option linter.unusedVariables false
namespace Go.Proofs.YtdndoikgnohkkaaDoor
open Go.RowKit

section
variable {w0 w : World} {os : List Ob} {p x : Nat} {s : Pr}
theorem does24_any {rr : Nat} (a1 : Act24) (hT : Tabs w0) (hS : Objs w0 w (pairO p s :: refO x s :: os)) (hg : s.good rr) (hok : Ok24 w0 a1) (hfe : Few24 a1) : ∃ (s2 : Pr) (r2 : Nat), s2.good r2 ∧
  Calls Tryd.prog 32 #[.pointer (some ⟨p, 0, none⟩), .pointer (some ⟨x, 0, none⟩), .agg (av24 a1)] w fun e w' => e = .returned (.bool true) ∧ Objs w0 w' (pairO p s2 :: refO x s2 :: os) := by
 by_cases h0 : a1.what = 0
 ·exact ⟨_, rr, hg.setU (putR24_k24 hg.U), does24_put a1 h0 hT hS hg⟩
 by_cases h1 : a1.what = 1
 ·exact ⟨_, rr, entS_good hg, does24_enter a1 h1 hT hS hg⟩
 by_cases h2 : a1.what = 2
 ·exact ⟨_, rr, lvSt_good hg, does24_leave a1 h2 hT hS hg⟩
 by_cases h3 : a1.what = 3
 ·by_cases hy : Of24 a1
  ·exact ⟨_, a1.L.length, resN_good hg (ofL24_k hy) hy.c0 hy.cm hy.r0 (by have := hfe.1; omega), does24_resyes a1 h3 hT hS hg hok hfe hy⟩
  ·exact ⟨s, rr, hg, does24_resno a1 h3 hT hS hok hfe hy⟩
 by_cases h4 : a1.what = 4
 ·exact ⟨_, rr, hg.setU (softR24_k24 hg.U), does24_soft a1 h4 hS hg⟩
 ·exact ⟨s, rr, hg, does24_none a1 h0 h1 h2 h3 h4 hS⟩
theorem Leave_any {rr : Nat} (n : Int) (q : Pen) (hT : Tabs w0) (hS : Objs w0 w (pairO p s :: os)) (hg : s.good rr) :
  Calls Tryd.prog 23 #[.pointer (some ⟨p, 0, none⟩), .int .i64 n, .agg (pv q)] w fun e w' => (∃ a b c, e = .returned (.tuple #[a, b, c])) ∧ Objs w0 w' (pairO p (lvSt n q s) :: os) := by
 unfold lvSt
 by_cases h : lvE n q s = 0
 ·rw [if_pos h]
  exact (Leave_yes n q hT hS hg h).mono fun e w' ⟨h1, h2⟩ => ⟨⟨_, _, _, h1⟩, h2⟩
 ·rw [if_neg h]
  exact (Leave_no n q hT hS h).mono fun e w' ⟨h1, h2⟩ => ⟨⟨_, _, _, h1⟩, h2⟩
end
set_option maxRecDepth 100000 in
set_option maxHeartbeats 16000000 in
theorem l24AlternatePlays_any (rows cols : Int) (Al : Option Addr) (cl : Nat) (l : List Act24) (w : World) (hT : Tabs w) (hal : RdRec w Al cl 50 (l.map av24)) (hml : cl ≤ maxLen) (hok : ∀ a ∈ l, Ok24 w a) :
  Calls Tryd.prog 7 #[.int .i64 rows, .int .i64 cols, .slice Al l.length cl] w fun e w' => e = .returned (.bool true) ∧ Below w.heap.size w w' := by
 have HT := Lib.hid hT
 have HAL := Lib.hid hal
 have HML := Lib.hid hml
 have HOK := Lib.hid hok
 have hlm : l.length ≤ 9223372036854775807 := by have := hal.1; unfold maxLen at hml; simp at this; omega
 clear hT hal hml hok
 have hcases : (rows < 1 ∨ (1 ≤ rows ∧ 4 < rows) ∨ ((1 ≤ rows ∧ rows ≤ 4) ∧ cols < 1) ∨ ((1 ≤ rows ∧ rows ≤ 4) ∧ 1 ≤ cols ∧ 8 < cols)) ∨ ((1 ≤ rows ∧ rows ≤ 4) ∧ (1 ≤ cols ∧ cols ≤ 8)) := by omega
 rcases hcases with hno | ⟨⟨h1, h2⟩, h3, h4⟩
 ·rcases hno with h | ⟨h, h2⟩ | ⟨⟨h, h2⟩, h3⟩ | ⟨⟨h, h2⟩, h3, h4⟩
  all_goals
   go_enter Tryd.func7, Tryd.ntmps7
   go_wp2_with fail
   refine (l24known_any _ HT.out).mono ?_
   rintro e w1 ⟨rfl, hb⟩
   go_wp2_with fail
   go_ret
   exact ⟨rfl, hb⟩
 obtain ⟨r0, rfl⟩ : ∃ rr : Nat, rows = rr := ⟨rows.toNat, by omega⟩
 obtain ⟨c0, rfl⟩ : ∃ s : Nat, cols = s := ⟨cols.toNat, by omega⟩
 go_enter Tryd.func7, Tryd.ntmps7
 go_wp2_with fail
 refine (l24small_any Al cl l w HAL.out HML.out HOK.out).mono ?_
 rintro e w1 ⟨⟨b, rfl, hfew⟩, rfl⟩
 cases b with
 | false =>
  go_wp2_with fail
  refine (l24known_any _ HT.out).mono ?_
  rintro e w1 ⟨rfl, hb⟩
  go_wp2_with fail
  go_ret
  exact ⟨rfl, hb⟩
 | true =>
  have HFEW := Lib.hid (hfew rfl).2
  clear hfew
  go_wp2_with fail
  refine (pairNew_yes (w0 := w) (os := []) r0 c0 (by omega) (by omega) (by omega) (by omega) (objs_start w)).mono ?_
  rintro e w1 ⟨p, rfl, hS⟩
  have S1 := Lib.hid hS
  clear hS
  go_wp2_with fail
  refine (refNew_yes r0 c0 (by omega) (by omega) S1.out).mono ?_
  rintro e w2 ⟨x, rfl, hS⟩
  have S2 := Lib.hid hS.swap
  clear hS S1
  have HG0 := Lib.hid (newP_good (rows := r0) (cols := c0) (by omega) (by omega) (by omega) (by omega))
  clear h1 h2 h3 h4
  go_wp2_with fail
  refine (l24alike_any HT.out S2.out HG0.out).mono ?_
  rintro e w3 ⟨rfl, hS⟩
  have S3 := Lib.hid hS
  clear hS S2
  go_wp2_with fail
  go_loopg [7, 10] l.length (fun g v7 v10 wr => ∃ (k p rr : Nat) (s : Pr), k ≤ l.length ∧ g = l.length - k ∧ v7 = .pointer (some ⟨p, 0, none⟩) ∧ v10 = .int .i64 k ∧ Hid (s.good rr) ∧ Objs w wr [pairO p s, refO x s])
  case atStart => exact ⟨0, p, r0, newP r0 c0, Nat.zero_le _, rfl, rfl, rfl, HG0, S3.out⟩
  case round =>
   clear S3 HG0
   obtain ⟨k, p, rr, s, hk, rfl, rfl, rfl, HG, hS⟩ := hrel
   have S1 := Lib.hid hS
   clear hS
   by_cases hlt : k < l.length
   case neg =>
    have hlt1 : ¬ (k : Int) < (l.length : Int) := by omega
    go_wp2_with fail
    refine (l24known_any _ (S1.out.tabs HT.out)).mono ?_
    rintro e w3 ⟨rfl, hb⟩
    have HB := Lib.hid (S1.out.bel hb).base
    clear hb
    go_wp2_with fail
    go_ret
    exact ⟨rfl, HB.out⟩
   have hk0 : (0 : Int) ≤ (k : Int) := by omega
   have hk1 : (k : Int) < (l.length : Int) := by omega
   obtain ⟨a, ha⟩ := get_of hlt
   obtain ⟨ba, oa, rfl, hba, hre⟩ := HAL.out.at_ (i := k) (r := av24 a) (by simp [ha])
   have HRE := Lib.hid hre
   obtain ⟨s2, r2, hg2, hcon⟩ := does24_any a HT.out S1.out HG.out (HOK.out a (List.mem_of_getElem? ha)) (HFEW.out k a ha)
   have HG2 := Lib.hid hg2
   have HCON := Lib.hid hcon
   have hre1 := (recAt_below S1.out.base hba (oa + k * 50) 50).trans HRE.out
   clear hre ha hg2 hcon
   go_wp2_with fail
   refine HCON.out.mono ?_
   rintro e w4 ⟨rfl, hS⟩
   have S4 := Lib.hid hS
   clear hS S1 hre1 HCON HG
   have hre2 := (recAt_below S4.out.base hba (oa + k * 50) 50).trans HRE.out
   have hwh := (range_of_recAt hre2).2 0 _ (show ((av24 a).toList)[0]? = some (.int .i64 a.what) from rfl)
   rw [Nat.add_zero] at hwh
   have hcase : (a.what < 0 ∨ (0 ≤ a.what ∧ 4 < a.what)) ∨ (0 ≤ a.what ∧ a.what ≤ 4) := by omega
   rcases hcase with hcp | ⟨hw1, hw2⟩
   case inr =>
    have d1 : decide (a.what < 0) = false := decide_eq_false (by omega)
    have d2 : decide (4 < a.what) = false := decide_eq_false (by omega)
    go_wp2_with fail
    clear hre2 hwh d1 d2
    refine (l24alike_any HT.out S4.out HG2.out).mono ?_
    rintro e w5 ⟨rfl, hS⟩
    have S5 := Lib.hid hS
    clear hS S4
    go_wp2_with fail
    go_roundg (l.length - (k + 1))
    case measure => omega
    case rel => exact ⟨k + 1, p, r2, s2, by omega, rfl, rfl, by go_num, HG2, S5.out⟩
   rcases hcp with hw1 | ⟨hw1, hw2⟩
   all_goals
    first | (have d1 : decide (a.what < 0) = true := decide_eq_true (by omega)) | (have d1 : decide (a.what < 0) = false := decide_eq_false (by omega))
    first | (have d2 : decide (4 < a.what) = true := decide_eq_true (by omega)) | skip
    go_wp2_with fail
    clear hre2 hwh d1
    refine (Copy_pair S4.out HG2.out).mono ?_
    rintro e w5 ⟨c, rfl, hS⟩
    have S5 := Lib.hid hS
    clear hS S4
    go_wp2_with fail
    refine (show Calls Tryd.prog 22 #[.pointer (some ⟨p, 0, none⟩), .agg (pw 0 0 ⟨113, 0, 0, 0, 1, pen0⟩)] _ _ from front_call S5.out (k := 1) rfl (fun os1 h => puts_front (row := 0) (col := 0) ⟨113, 0, 0, 0, 1, pen0⟩ HT.out h HG2.out)).mono ?_
    rintro e w6 ⟨rfl, hS⟩
    have HG3 := Lib.hid (HG2.out.setU (putR24_k24 (row := 0) (col := 0) (x := ⟨113, 0, 0, 0, 1, pen0⟩) HG2.out.U))
    have S6 := Lib.hid hS
    clear hS S5
    go_wp2_with fail
    refine (show Calls Tryd.prog 9 #[.pointer (some ⟨p, 0, none⟩), .int .i64 1049, .agg (sv saved0), .agg (pv pen0)] _ _ from front_call S6.out (k := 1) rfl (fun os1 h => Enter_is 1049 saved0 pen0 HT.out h HG3.out)).mono ?_
    rintro e w7 ⟨rfl, hS⟩
    have HG4 := Lib.hid (entS_good (n := 1049) (x := saved0) (q := pen0) HG3.out)
    have S7 := Lib.hid hS
    clear hS S6
    go_wp2_with fail
    have hl := Objs.swap (show Objs w w7 (pairO c s2 :: pairO p _ :: [refO x s2]) from S7.out)
    refine (show Calls Tryd.prog 23 #[.pointer (some ⟨p, 0, none⟩), .int .i64 1049, .agg (pv pen0)] _ _ from Leave_any 1049 pen0 HT.out hl HG4.out).mono ?_
    rintro e w8 ⟨⟨u1, u2, u3, rfl⟩, hS⟩
    have S8 := Lib.hid hS.tail
    clear hS S7 hl
    go_wp2_with fail
    refine (l24alike_any HT.out S8.out HG2.out).mono ?_
    rintro e w9 ⟨rfl, hS⟩
    have S9 := Lib.hid hS
    clear hS S8
    go_wp2_with fail
    go_roundg (l.length - (k + 1))
    case measure => omega
    case rel => exact ⟨k + 1, c, r2, s2, by omega, rfl, rfl, by go_num, HG2, S9.out⟩
end Go.Proofs.YtdndoikgnohkkaaDoor
