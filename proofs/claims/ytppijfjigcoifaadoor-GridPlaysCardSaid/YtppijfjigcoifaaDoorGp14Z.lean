/-
  GridPlays: the law returns true.
-/
import Derived.Test.YtppijfjigcoifaaDoorP6
import Derived.Test.YtppijfjigcoifaaDoorP8
set_option linter.unusedSimpArgs false
set_option linter.unusedVariables false
namespace Go.Proofs.YtppijfjigcoifaaDoor
open Go.RowKit

theorem rectP14 (rows cols : Nat) (p : Pen) : Rect cols (List.replicate rows (List.replicate cols (blank p), false)) := fun l hl => by rw [(List.mem_replicate.1 hl).2]; simp
theorem small14_true {most : Nat} {l : List Act14} (h : small14b most l = true) : l.length ≤ most ∧ ∀ a ∈ l, a.cs.length ≤ 40 := by
  unfold small14b at h
  rw [Bool.and_eq_true, decide_eq_true_eq] at h
  refine ⟨h.2, fun a ha => ?_⟩
  have := List.all_eq_true.1 h.1 a (by rw [List.take_of_length_le h.2]; exact ha)
  simpa using this
/-- What is asked of a call: its line may be read, its numbers are an int's. -/
def Ac14 (w : World) (a : Act14) : Prop := N64 a.a ∧ N64 a.b ∧ N64 a.n ∧ RdC w a.A a.c a.cs ∧ a.c ≤ maxLen
/-- What is kept of the rows of both grids. -/
def Kept14 (s rr : Nat) (L : List Ln) : Prop := Rect s L ∧ L.length = rr ∧ AllV L
theorem Kept14.act {s rr : Nat} {L : List Ln} (h : Kept14 s rr L) (a : Act14) : Kept14 s rr (act14N a s L) :=
  ⟨(act14N_rect h.1).1, (act14N_rect h.1).2.trans h.2.1, act14N_all h.1 h.2.2⟩
theorem kept14_new (s rr : Nat) : Kept14 s rr (List.replicate rr (List.replicate s (blank pen0), false)) := ⟨rectP14 rr s pen0, by simp, allV_new rr s (by decide +kernel)⟩
set_option maxRecDepth 100000 in
set_option maxHeartbeats 8000000 in
theorem l14GridPlays_any (rows cols : Int) (Al : Option Addr) (cl : Nat) (l : List Act14) (w : World) (hT : Tabs w) (hal : RdRec w Al cl 34 (l.map av14)) (hml : cl ≤ maxLen) (hok : ∀ a ∈ l, Ac14 w a) :
    Calls Tryd.prog 10 #[.int .i64 rows, .int .i64 cols, .slice Al l.length cl] w fun e w' => e = .returned (.bool true) ∧ Below w.heap.size w w' := by
  have HT := Lib.hid hT
  have HAL := Lib.hid hal
  have HOK := Lib.hid hok
  have HML := Lib.hid hml
  have hlm : l.length ≤ 9223372036854775807 := by have := hal.1; unfold maxLen at hml; simp at this; omega
  clear hT hal hml hok
  have hcases : (rows < 1 ∨ (1 ≤ rows ∧ 8 < rows) ∨ ((1 ≤ rows ∧ rows ≤ 8) ∧ cols < 1) ∨ ((1 ≤ rows ∧ rows ≤ 8) ∧ 1 ≤ cols ∧ 16 < cols)) ∨ ((1 ≤ rows ∧ rows ≤ 8) ∧ 1 ≤ cols ∧ cols ≤ 16) := by omega
  rcases hcases with hno | ⟨⟨h1, h2⟩, h3, h4⟩
  · rcases hno with h | ⟨h, h2⟩ | ⟨⟨h, h2⟩, h3⟩ | ⟨⟨h, h2⟩, h3, h4⟩
    all_goals
      go_enter Tryd.func10, Tryd.ntmps10
      go_wp2_with fail
      refine (l14known_any _ HT.out).mono ?_
      rintro e w1 ⟨rfl, hb⟩
      go_wp2_with fail
      go_ret
      exact ⟨rfl, hb⟩
  cases hsm : small14b 40 l with
  | false =>
    have HSM := Lib.hid hsm
    clear hsm
    go_enter Tryd.func10, Tryd.ntmps10
    go_wp2_with fail
    refine (small14_any Al cl l 40 (by decide) _ HAL.out HML.out).mono ?_
    rw [HSM.out]
    rintro e w1 ⟨rfl, rfl⟩
    go_wp2_with fail
    refine (l14known_any _ HT.out).mono ?_
    rintro e w1 ⟨rfl, hb⟩
    go_wp2_with fail
    go_ret
    exact ⟨rfl, hb⟩
  | true =>
  have HSM := Lib.hid hsm
  have HS40 := Lib.hid (small14_true hsm).2
  clear hsm
  obtain ⟨rr, rfl⟩ : ∃ rr : Nat, rows = rr := ⟨rows.toNat, by omega⟩
  obtain ⟨s, rfl⟩ : ∃ s : Nat, cols = s := ⟨cols.toNat, by omega⟩
  have g1 : 1 ≤ rr := by omega
  have g2 : rr ≤ 8 := by omega
  have g3 : 1 ≤ s := by omega
  have g4 : s ≤ 16 := by omega
  have hc0 : 0 < s := by omega
  have hcm0 : s ≤ 1000 := by omega
  go_enter Tryd.func10, Tryd.ntmps10
  go_wp2_with fail
  refine (small14_any Al cl l 40 (by decide) _ HAL.out HML.out).mono ?_
  rw [HSM.out]
  rintro e w1 ⟨rfl, rfl⟩
  go_wp2_with fail
  refine (gridNew_yes rr s g1 (by omega) g3 (by omega) w _ [] (objs_start w)).mono ?_
  rintro e w1 ⟨p0, rfl, hS⟩
  have S1 := Lib.hid hS
  clear hS
  go_wp2_with fail
  refine (r14New_any rr s (by omega) (by omega) w _ _ S1.out).mono ?_
  rintro e w2 ⟨x, rfl, hS⟩
  obtain ⟨L0, hL0⟩ : ∃ L0, L0 = List.replicate rr (List.replicate s (blank pen0), false) := ⟨_, rfl⟩
  have HK0 := Lib.hid (show Kept14 s rr L0 by rw [hL0]; exact kept14_new s rr)
  rw [← hL0] at hS
  have S2 := Lib.hid hS.swap
  clear hS S1 hL0
  go_wp2_with fail
  refine (l14alike_any HT.out S2.out (k := 0) (j := 1) rfl rfl hc0 hcm0 HK0.out.1 HK0.out.2.2 (by rw [HK0.out.2.1]; omega)).mono ?_
  rintro e w3 ⟨rfl, hS⟩
  have S3 := Lib.hid hS
  clear hS S2
  go_wp2_with fail
  go_loopw [7, 10, 11] (fun vg vi _ wr => ∃ (k p : Nat) (L0 : List Ln), k ≤ l.length ∧ vg = .pointer (some ⟨p, 0, none⟩) ∧ vi = .int .i64 k ∧ Hid (Kept14 s rr L0) ∧ Objs w wr [.grid p 58 ↑s L0, .grid x 33 ↑s L0]) (fun _ vi _ _ => l.length - (intOf vi).toNat)
  case atStart => exact ⟨0, p0, L0, Nat.zero_le _, rfl, rfl, HK0, S3.out⟩
  case round =>
    clear S3 HK0 L0
    obtain ⟨k, p, L0, hk, rfl, rfl, HK0, hS⟩ := hrel
    have S := Lib.hid hS
    clear hS
    by_cases hlt : k < l.length
    case neg =>
      go_wp2_with fail
      refine (l14known_any _ (S.out.tabs HT.out)).mono ?_
      rintro e w4 ⟨rfl, hb⟩
      have HB := Lib.hid (S.out.bel hb).base
      clear hb
      go_wp2_with fail
      go_ret
      exact ⟨rfl, HB.out⟩
    obtain ⟨a1, ha1⟩ : ∃ a1, a1 = l[k] := ⟨_, rfl⟩
    have HA1 := Lib.hid (show Ac14 w a1 by rw [ha1]; exact HOK.out _ (List.getElem_mem _))
    have h40 : a1.cs.length ≤ 100000 := by have := HS40.out l[k] (List.getElem_mem _); rw [ha1]; omega
    obtain ⟨ba, oa, rfl, hba, hre⟩ := HAL.out.at_ (i := k) (r := av14 a1) (by simp [hlt, ha1])
    have HRE := Lib.hid hre
    have hlz : (0 : Int) ≤ (k : Int) := by omega
    have hlz2 : (k : Int) < (l.length : Int) := by omega
    have hL0p : 0 < L0.length := by rw [HK0.out.2.1]; omega
    have hL0m : L0.length ≤ 1000 := by rw [HK0.out.2.1]; omega
    have hre1 := (recAt_below S.out.base hba (oa + k * 34) 34).trans HRE.out
    clear hre ha1
    go_wp2_with fail
    refine (l14does_any a1 HT.out S.out hc0 hcm0 HK0.out.1 hL0p hL0m HA1.out.2.2.2.1 h40 HA1.out.1 HA1.out.2.1 HA1.out.2.2.1).mono ?_
    rintro e w4 ⟨rfl, hS⟩
    obtain ⟨L1, hL1⟩ : ∃ L1, L1 = act14N a1 s L0 := ⟨_, rfl⟩
    have HK1 := Lib.hid (show Kept14 s rr L1 by rw [hL1]; exact HK0.out.act a1)
    rw [← hL1] at hS
    have S4 := Lib.hid hS
    clear hS S hre1 hL1 HK0
    have hL1p : 0 < L1.length := by rw [HK1.out.2.1]; omega
    have hL1m : L1.length ≤ 1000 := by rw [HK1.out.2.1]; omega
    have hre2 := (recAt_below S4.out.base hba (oa + k * 34) 34).trans HRE.out
    have hwh := (range_of_recAt hre2).2 0 _ (show ((av14 a1).toList)[0]? = some (.int .i64 a1.what) from rfl)
    rw [Nat.add_zero] at hwh
    have hcase : (a1.what < 0 ∨ (0 ≤ a1.what ∧ 5 < a1.what)) ∨ (0 ≤ a1.what ∧ a1.what ≤ 5) := by omega
    rcases hcase with hcp | ⟨hw1, hw2⟩
    case inr =>
      have d1 : decide (a1.what < 0) = false := decide_eq_false (by omega)
      have d2 : decide (5 < a1.what) = false := decide_eq_false (by omega)
      go_wp2_with fail
      clear hre2 hwh
      refine (l14alike_any HT.out S4.out (k := 0) (j := 1) rfl rfl hc0 hcm0 HK1.out.1 HK1.out.2.2 hL1m).mono ?_
      rintro e w5 ⟨rfl, hS⟩
      have S5 := Lib.hid hS
      clear hS S4
      go_wp2_with fail
      go_roundw
      case rel => exact ⟨k + 1, p, L1, by omega, rfl, by go_num, HK1, S5.out⟩
      case measure => simp [intOf]; omega
    rcases hcp with hw1 | ⟨hw1, hw2⟩
    all_goals
      first | (have d1 : decide (a1.what < 0) = true := decide_eq_true (by omega)) | skip
      first | (have d1 : decide (a1.what < 0) = false := decide_eq_false (by omega)) | skip
      first | (have d2 : decide (5 < a1.what) = true := decide_eq_true (by omega)) | skip
      go_wp2_with fail
      clear hre2 hwh
      refine (CopyG S4.out (k := 0) rfl hc0 hcm0 HK1.out.1 (by omega)).mono ?_
      rintro e w5 ⟨p2, rfl, hS⟩
      have S5 := Lib.hid hS
      clear hS S4
      go_wp2_with fail
      refine (l14letter_any 122 _).mono ?_
      rintro e w6 ⟨rfl, hb⟩
      have S6 := Lib.hid (S5.out.bel hb)
      clear hb S5
      go_wp2_with fail
      refine (show Calls Tryd.prog 33 #[.pointer (some ⟨p, 0, none⟩), .int .i64 0, .int .i64 0, .agg (cv (letterC 122))] _ _ from (PutG (i := 0) (j := 0) (letterC 122) HT.out S6.out (k := 1) rfl hcm0 HK1.out.1 hL1p (by decide +kernel) (by decide) (by simp only [letterC]; omega))).mono ?_
      rintro e w7 ⟨rfl, hS⟩
      have S7 := Lib.hid hS
      clear hS S6
      go_wp2_with fail
      refine (show Calls Tryd.prog 46 #[.pointer (some ⟨p, 0, none⟩), .int .i64 0, .bool true] _ _ from (SetSoftG (i := 0) true S7.out (k := 1) rfl hc0 (by rw [rowMod_length]; exact hL1p) (by rw [rowMod_length]; omega))).mono ?_
      rintro e w8 ⟨rfl, hS⟩
      have S8 := Lib.hid (show Objs w w8 [.grid p2 58 ↑s L1, .grid x 33 ↑s L1] from (show Objs w w8 (_ :: _ :: _) from hS).drop2)
      clear hS S7
      go_wp2_with fail
      refine (l14alike_any HT.out S8.out (k := 0) (j := 1) rfl rfl hc0 hcm0 HK1.out.1 HK1.out.2.2 hL1m).mono ?_
      rintro e w9 ⟨rfl, hS⟩
      have S9 := Lib.hid hS
      clear hS S8
      go_wp2_with fail
      go_roundw
      case rel => exact ⟨k + 1, p2, L1, by omega, rfl, by go_num, HK1, S9.out⟩
      case measure => simp [intOf]; omega
end Go.Proofs.YtppijfjigcoifaaDoor
