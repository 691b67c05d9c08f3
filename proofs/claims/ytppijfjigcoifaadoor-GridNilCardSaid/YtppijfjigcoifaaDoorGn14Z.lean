/-
  GridNil: the law returns true.
-/
import Derived.Test.YtppijfjigcoifaaDoorM5
import Derived.Test.YtppijfjigcoifaaDoorM2
set_option linter.unusedSimpArgs false
set_option linter.unusedVariables false
namespace Go.Proofs.YtppijfjigcoifaaDoor
open Go.RowKit

theorem rows_calls {w : World} {f : FuncId} {args : Array Value} {v : Value} (h : Calls Tryd.prog f args w fun e w' => e = .returned v ∧ w = w') : Calls Tryd.prog f args w fun e w' => e = .returned v ∧ Below w.heap.size w w' :=
  h.mono fun e w' ⟨h1, h2⟩ => ⟨h1, h2 ▸ Below.refl _ _⟩
set_option maxRecDepth 100000 in
set_option maxHeartbeats 8000000 in
theorem l14GridNil_any (a : Act14) (w : World) (hT : Tabs w) (hA : RdC w a.A a.c a.cs) (hm : a.c ≤ maxLen) : Calls Tryd.prog 12 #[.agg (av14 a)] w fun e w' => e = .returned (.bool true) ∧ Below w.heap.size w w' := by
  have HT := Lib.hid hT
  have hlm : a.cs.length ≤ 9223372036854775807 := by have := hA.1; unfold maxLen at hm; omega
  clear hT hA hm
  have S1 := Lib.hid ((objs_start w).alloc1 (c1 := av14 a) (t1 := 90))
  by_cases h40 : a.cs.length ≤ 40
  case neg =>
    have hgt : (40 : Int) < a.cs.length := by omega
    obtain ⟨hx, hf, hz, hr, hp, hcl, hpc⟩ := (S1.out.box (k := 0) rfl).act14
    go_enter Tryd.func12, Tryd.ntmps12
    go_wp2_with fail
    refine (l14known_any _ (S1.out.tabs HT.out)).mono ?_
    rintro e w1 ⟨rfl, hb⟩
    have HB := Lib.hid (S1.out.bel hb).base
    clear hb
    go_wp2_with fail
    go_ret
    exact ⟨rfl, HB.out⟩
  have hle : ¬ (40 : Int) < a.cs.length := by omega
  obtain ⟨hx, hf, hz, hr, hp, hcl, hpc⟩ := (S1.out.box (k := 0) rfl).act14
  go_enter Tryd.func12, Tryd.ntmps12
  go_wp2_with fail
  clear hx hf hz hr hp hcl hpc
  refine (gridNew_yes 1 1 (by decide) (by decide) (by decide) (by decide) w _ _ S1.out).mono ?_
  rintro e w1 ⟨h, rfl, hS⟩
  obtain ⟨H, hH⟩ : ∃ H, H = List.replicate 1 (List.replicate 1 (blank pen0), false) := ⟨_, rfl⟩
  rw [← hH] at hS
  have S2 := Lib.hid (show Objs w w1 [.grid h 58 1 H, .box w.heap.size 90 (av14 a)] from hS)
  clear hS S1 hH
  go_wp2_with fail
  have S3 := Lib.hid (S2.out.alloc2 (c1 := #[.int .i64 0, .slice none 0 0]) (t1 := 58) (c2 := #[.pointer none, .pointer (some ⟨w1.heap.size, 0, none⟩)]) (t2 := 22))
  clear S2
  generalize w1.heap.size + 1 = b8 at S3 ⊢
  generalize w1.heap.size = b7 at S3 ⊢
  generalize w.heap.size = b1 at S3 ⊢
  go_loopw [6, 7, 8, 9, 10, 11, 12, 33] (fun _ _ _ _ _ _ _ vi wr => ∃ i : Nat, i ≤ 2 ∧ vi = .int .i64 i ∧ Objs w wr (.box b8 22 #[.pointer none, .pointer (some ⟨b7, 0, none⟩)] :: .box b7 58 #[.int .i64 0, .slice none 0 0] :: .grid h 58 1 H :: .box b1 90 (av14 a) :: [])) (fun _ _ _ _ _ _ _ vi _ => 2 - (intOf vi).toNat)
  case atStart => exact ⟨0, by omega, rfl, S3.out⟩
  case round =>
    clear S3
    obtain ⟨i, hi, rfl, hS⟩ := hrel
    have S := Lib.hid hS
    clear hS
    by_cases hlt : i < 2
    case neg =>
      go_wp2_with fail
      refine (l14known_any _ (S.out.tabs HT.out)).mono ?_
      rintro e w1 ⟨rfl, hb⟩
      have HB := Lib.hid (S.out.bel hb).base
      clear hb
      go_wp2_with fail
      go_ret
      exact ⟨rfl, HB.out⟩
    obtain ⟨hx8, hf8, hz8⟩ := (S.out.box (k := 0) rfl).facts
    have hG : ∃ gp : Option Addr, Hid (#[Value.pointer none, .pointer (some ⟨b7, 0, none⟩)][i]? = some (.pointer gp)) ∧ Hid (∀ W, Objs w W (.box b8 22 #[.pointer none, .pointer (some ⟨b7, 0, none⟩)] :: .box b7 58 #[.int .i64 0, .slice none 0 0] :: .grid h 58 1 H :: .box b1 90 (av14 a) :: []) → NoneG W (.pointer gp)) ∧ Hid (∀ W, Objs w W (.box b8 22 #[.pointer none, .pointer (some ⟨b7, 0, none⟩)] :: .box b7 58 #[.int .i64 0, .slice none 0 0] :: .grid h 58 1 H :: .box b1 90 (av14 a) :: []) → Calls Tryd.prog 17 #[.pointer gp] W fun e w' => e = .returned (.int .i64 0) ∧ Below W.heap.size W w') ∧ Hid (∀ W, Objs w W (.box b8 22 #[.pointer none, .pointer (some ⟨b7, 0, none⟩)] :: .box b7 58 #[.int .i64 0, .slice none 0 0] :: .grid h 58 1 H :: .box b1 90 (av14 a) :: []) → Calls Tryd.prog 18 #[.pointer gp] W fun e w' => e = .returned (.int .i64 0) ∧ Below W.heap.size W w') := by
      have : i = 0 ∨ i = 1 := by omega
      rcases this with rfl | rfl
      · exact ⟨none, Lib.hid rfl, Lib.hid (fun W h => noneG_nil W), Lib.hid (fun W h => rows_calls (Rows_nil W)), Lib.hid (fun W h => rows_calls (Cols_nil W))⟩
      · exact ⟨some ⟨b7, 0, none⟩, Lib.hid rfl, Lib.hid (fun W h => noneG_zero (h.box (k := 1) rfl)), Lib.hid (fun W h => rows_calls (Rows_blk (h.box (k := 1) rfl))), Lib.hid (fun W h => rows_calls (Cols_blk (h.box (k := 1) rfl)))⟩
    obtain ⟨gp, HV, HN, HRW, HCL⟩ := hG
    have hdi : decide ((i : Int) < 2) = true := by simp; omega
    have hxi := (hx8 i).trans HV.out
    clear hx8
    have S20 := S
    clear S
    obtain ⟨hx, hf, hz, hr, hp, hcl, hpc⟩ := (S20.out.box (k := 3) rfl).act14
    go_wp2_with fail
    clear hx hf hz hr hp hcl hpc
    refine (Cell_z (HN.out _ S20.out)).mono ?_
    rintro e w3 ⟨rfl, hb⟩
    have S21 := Lib.hid (S20.out.bel hb)
    clear hb S20
    obtain ⟨hx, hf, hz, hr, hp, hcl, hpc⟩ := (S21.out.box (k := 3) rfl).act14
    go_wp2_with fail
    clear hx hf hz hr hp hcl hpc
    have S30 := Lib.hid (S21.out.alloc1 (c1 := cv cell0) (t1 := 71))
    clear S21
    generalize w3.heap.size = b6 at S30 ⊢
    obtain ⟨hx, hf, hz, hr, hp, hcl, hpc⟩ := (S30.out.box (k := 4) rfl).act14
    have hc6 := (S30.out.box (k := 0) rfl).cellAt
    have hc6z := (S30.out.box (k := 0) rfl).lt
    go_wp2_with fail
    clear hx hf hz hr hp hcl hpc hc6 hc6z
    refine (Line_z (HN.out _ S30.out.tail)).mono ?_
    rintro e w3 ⟨rfl, hb⟩
    have S31 := Lib.hid (S30.out.bel hb)
    clear hb S30
    obtain ⟨hx, hf, hz, hr, hp, hcl, hpc⟩ := (S31.out.box (k := 4) rfl).act14
    have hc6 := (S31.out.box (k := 0) rfl).cellAt
    have hc6z := (S31.out.box (k := 0) rfl).lt
    go_wp2_with fail
    clear hx hf hz hr hp hcl hpc hc6 hc6z
    have S40 := Lib.hid (S31.out.alloc1 (c1 := #[.slice none 0 0, .bool false]) (t1 := 39))
    clear S31
    generalize w3.heap.size = b9 at S40 ⊢
    obtain ⟨hx, hf, hz, hr, hp, hcl, hpc⟩ := (S40.out.box (k := 5) rfl).act14
    have hc6 := (S40.out.box (k := 1) rfl).cellAt
    have hc6z := (S40.out.box (k := 1) rfl).lt
    obtain ⟨hx9, hf9, hz9⟩ := (S40.out.box (k := 0) rfl).facts
    go_wp2_with fail
    clear hx hf hz hr hp hcl hpc hc6 hc6z hx9 hf9 hz9
    refine (Roll_z a.q (HN.out _ S40.out.tail.tail)).mono ?_
    rintro e w3 ⟨rfl, hb⟩
    have S41 := Lib.hid (S40.out.bel hb)
    clear hb S40
    obtain ⟨hx, hf, hz, hr, hp, hcl, hpc⟩ := (S41.out.box (k := 5) rfl).act14
    have hc6 := (S41.out.box (k := 1) rfl).cellAt
    have hc6z := (S41.out.box (k := 1) rfl).lt
    obtain ⟨hx9, hf9, hz9⟩ := (S41.out.box (k := 0) rfl).facts
    go_wp2_with fail
    clear hx hf hz hr hp hcl hpc hc6 hc6z hx9 hf9 hz9
    refine (HRW.out _ S41.out.tail.tail).mono ?_
    rintro e w3 ⟨rfl, hb⟩
    have S42 := Lib.hid (S41.out.bel hb)
    clear hb S41
    obtain ⟨hx, hf, hz, hr, hp, hcl, hpc⟩ := (S42.out.box (k := 5) rfl).act14
    have hc6 := (S42.out.box (k := 1) rfl).cellAt
    have hc6z := (S42.out.box (k := 1) rfl).lt
    obtain ⟨hx9, hf9, hz9⟩ := (S42.out.box (k := 0) rfl).facts
    go_wp2_with fail
    clear hx hf hz hr hp hcl hpc hc6 hc6z hx9 hf9 hz9
    refine (HCL.out _ S42.out.tail.tail).mono ?_
    rintro e w3 ⟨rfl, hb⟩
    have S43 := Lib.hid (S42.out.bel hb)
    clear hb S42
    obtain ⟨hx, hf, hz, hr, hp, hcl, hpc⟩ := (S43.out.box (k := 5) rfl).act14
    have hc6 := (S43.out.box (k := 1) rfl).cellAt
    have hc6z := (S43.out.box (k := 1) rfl).lt
    obtain ⟨hx9, hf9, hz9⟩ := (S43.out.box (k := 0) rfl).facts
    go_wp2_with fail
    clear hx hf hz hr hp hcl hpc hc6 hc6z hx9 hf9 hz9
    refine (Lines_z (HN.out _ S43.out.tail.tail)).mono ?_
    rintro e w3 ⟨rfl, hb⟩
    have S44 := Lib.hid (S43.out.bel hb)
    clear hb S43
    obtain ⟨hx, hf, hz, hr, hp, hcl, hpc⟩ := (S44.out.box (k := 5) rfl).act14
    have hc6 := (S44.out.box (k := 1) rfl).cellAt
    have hc6z := (S44.out.box (k := 1) rfl).lt
    obtain ⟨hx9, hf9, hz9⟩ := (S44.out.box (k := 0) rfl).facts
    go_wp2_with fail
    clear hx hf hz hr hp hcl hpc hc6 hc6z hx9 hf9 hz9
    refine (Copy_z (HN.out _ S44.out.tail.tail)).mono ?_
    rintro e w3 ⟨rfl, hb⟩
    have S45 := Lib.hid (S44.out.bel hb)
    clear hb S44
    obtain ⟨hx, hf, hz, hr, hp, hcl, hpc⟩ := (S45.out.box (k := 5) rfl).act14
    have hc6 := (S45.out.box (k := 1) rfl).cellAt
    have hc6z := (S45.out.box (k := 1) rfl).lt
    obtain ⟨hx9, hf9, hz9⟩ := (S45.out.box (k := 0) rfl).facts
    go_wp2_with fail
    clear hx hf hz hr hp hcl hpc hc6 hc6z hx9 hf9 hz9
    refine (Same_z1 (HN.out _ S45.out.tail.tail)).mono ?_
    rintro e w3 ⟨rfl, hb⟩
    have S46 := Lib.hid (S45.out.bel hb)
    clear hb S45
    obtain ⟨hx, hf, hz, hr, hp, hcl, hpc⟩ := (S46.out.box (k := 5) rfl).act14
    have hc6 := (S46.out.box (k := 1) rfl).cellAt
    have hc6z := (S46.out.box (k := 1) rfl).lt
    obtain ⟨hx9, hf9, hz9⟩ := (S46.out.box (k := 0) rfl).facts
    go_wp2_with fail
    clear hx hf hz hr hp hcl hpc hc6 hc6z hx9 hf9 hz9
    refine (Same_z1 (HN.out _ S46.out.tail.tail)).mono ?_
    rintro e w3 ⟨rfl, hb⟩
    have S47 := Lib.hid (S46.out.bel hb)
    clear hb S46
    obtain ⟨hx, hf, hz, hr, hp, hcl, hpc⟩ := (S47.out.box (k := 5) rfl).act14
    have hc6 := (S47.out.box (k := 1) rfl).cellAt
    have hc6z := (S47.out.box (k := 1) rfl).lt
    obtain ⟨hx9, hf9, hz9⟩ := (S47.out.box (k := 0) rfl).facts
    go_wp2_with fail
    clear hx hf hz hr hp hcl hpc hc6 hc6z hx9 hf9 hz9
    refine (Same_z2 (HN.out _ S47.out.tail.tail) S47.out (k := 4) rfl (by decide)).mono ?_
    rintro e w3 ⟨rfl, hS⟩
    have S48 := Lib.hid hS
    clear hS S47
    obtain ⟨hx, hf, hz, hr, hp, hcl, hpc⟩ := (S48.out.box (k := 5) rfl).act14
    have hc6 := (S48.out.box (k := 1) rfl).cellAt
    have hc6z := (S48.out.box (k := 1) rfl).lt
    obtain ⟨hx9, hf9, hz9⟩ := (S48.out.box (k := 0) rfl).facts
    go_wp2_with fail
    clear hx hf hz hr hp hcl hpc hc6 hc6z hx9 hf9 hz9
    refine (Put_z (HN.out _ S48.out.tail.tail)).mono ?_
    rintro e w3 ⟨rfl, hb⟩
    have S49 := Lib.hid (S48.out.bel hb)
    clear hb S48
    obtain ⟨hx, hf, hz, hr, hp, hcl, hpc⟩ := (S49.out.box (k := 5) rfl).act14
    have hc6 := (S49.out.box (k := 1) rfl).cellAt
    have hc6z := (S49.out.box (k := 1) rfl).lt
    obtain ⟨hx9, hf9, hz9⟩ := (S49.out.box (k := 0) rfl).facts
    go_wp2_with fail
    clear hx hf hz hr hp hcl hpc hc6 hc6z hx9 hf9 hz9
    refine (Clear_z a.q (HN.out _ S49.out.tail.tail)).mono ?_
    rintro e w3 ⟨rfl, hb⟩
    have S50 := Lib.hid (S49.out.bel hb)
    clear hb S49
    obtain ⟨hx, hf, hz, hr, hp, hcl, hpc⟩ := (S50.out.box (k := 5) rfl).act14
    have hc6 := (S50.out.box (k := 1) rfl).cellAt
    have hc6z := (S50.out.box (k := 1) rfl).lt
    obtain ⟨hx9, hf9, hz9⟩ := (S50.out.box (k := 0) rfl).facts
    go_wp2_with fail
    clear hx hf hz hr hp hcl hpc hc6 hc6z hx9 hf9 hz9
    refine (Shift_z a.q (HN.out _ S50.out.tail.tail)).mono ?_
    rintro e w3 ⟨rfl, hb⟩
    have S51 := Lib.hid (S50.out.bel hb)
    clear hb S50
    obtain ⟨hx, hf, hz, hr, hp, hcl, hpc⟩ := (S51.out.box (k := 5) rfl).act14
    have hc6 := (S51.out.box (k := 1) rfl).cellAt
    have hc6z := (S51.out.box (k := 1) rfl).lt
    obtain ⟨hx9, hf9, hz9⟩ := (S51.out.box (k := 0) rfl).facts
    go_wp2_with fail
    clear hx hf hz hr hp hcl hpc hc6 hc6z hx9 hf9 hz9
    refine (SetLine_z (HN.out _ S51.out.tail.tail)).mono ?_
    rintro e w3 ⟨rfl, hb⟩
    have S52 := Lib.hid (S51.out.bel hb)
    clear hb S51
    obtain ⟨hx, hf, hz, hr, hp, hcl, hpc⟩ := (S52.out.box (k := 5) rfl).act14
    have hc6 := (S52.out.box (k := 1) rfl).cellAt
    have hc6z := (S52.out.box (k := 1) rfl).lt
    obtain ⟨hx9, hf9, hz9⟩ := (S52.out.box (k := 0) rfl).facts
    go_wp2_with fail
    clear hx hf hz hr hp hcl hpc hc6 hc6z hx9 hf9 hz9
    refine (SetSoft_z (HN.out _ S52.out.tail.tail)).mono ?_
    rintro e w3 ⟨rfl, hb⟩
    have S53 := Lib.hid (S52.out.bel hb)
    clear hb S52
    obtain ⟨hx, hf, hz, hr, hp, hcl, hpc⟩ := (S53.out.box (k := 5) rfl).act14
    have hc6 := (S53.out.box (k := 1) rfl).cellAt
    have hc6z := (S53.out.box (k := 1) rfl).lt
    obtain ⟨hx9, hf9, hz9⟩ := (S53.out.box (k := 0) rfl).facts
    go_wp2_with fail
    clear hx hf hz hr hp hcl hpc hc6 hc6z hx9 hf9 hz9
    go_roundw
    case rel => exact ⟨i + 1, by omega, by go_num, S53.out.tail.tail⟩
    case measure => simp [intOf]; omega
end Go.Proofs.YtppijfjigcoifaaDoor
