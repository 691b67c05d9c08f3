/-
  LineLongs: the walk.
-/
import Derived.Test.YtmfhepjmmpnkaaaDoorLinePuts
set_option linter.unusedSimpArgs false
set_option linter.unusedVariables false
namespace Go.Proofs.YtmfhepjmmpnkaaaDoor
open Go.RowKit

def longL (n : Nat) (b : Bool) : List Cell := if b = true then empties (n - 1) ++ [cA] else empties n
theorem long_len {n : Nat} (hn : 1 ≤ n) (b : Bool) : (longL n b).length = n := by unfold longL; cases b <;> simp [empties]; omega
theorem long_row (n : Nat) (b : Bool) : rowOk (longL n b) = true := by
  unfold longL
  cases b
  · exact row_empties n
  · exact row_append (row_empties _) (by decide +kernel)
theorem long_used {n : Nat} (hn : 1 ≤ n) (b : Bool) : usedOf (longL n b) = if b = true then n else 0 := by
  unfold longL
  cases b
  · simp only [Bool.false_eq_true, if_false]
    have := usedOf_more [] n
    simpa [empties, usedOf] using this
  · simp only [if_true]
    rw [usedOf_snoc, if_neg (by decide +kernel), emp_len]
    omega
theorem long_ok {n : Nat} (hn : 1 ≤ n) (b : Bool) : lineOk (longL n b) = decide (n ≤ 1000) := by simp [lineOk, long_row, long_len hn]
theorem trimOf_yes {l : List Cell} {s : Bool} (h : lineOk l = true) : trimOf l s = (trimL l, s, 0) := by simp [trimOf, h]
theorem trimOf_bad {l : List Cell} {s : Bool} (h : lineOk l = false) : trimOf l s = ([], false, 2) := by simp [trimOf, h]
theorem fit_emp {n : Nat} (hn : 1 ≤ n) : fitTo n (empties 1) = empties n := by
  have h := fit_wide (row_empties 1) (n - 1)
  rw [emp_len, show 1 + (n - 1) = n by omega] at h
  rw [h]
  simp only [empties, List.replicate_append_replicate]
  congr 1; omega
theorem emp_set {n : Nat} (hn : 1 ≤ n) : (empties n).set (n - 1) cA = longL n true := by
  obtain ⟨m, rfl⟩ : ∃ m, n = m + 1 := ⟨n - 1, by omega⟩
  rw [← emp_snoc]
  simp [longL, empties, List.set_append_right]
set_option maxRecDepth 100000 in
set_option maxHeartbeats 4000000 in
theorem longs_false (n : Nat) (hn1 : 998 ≤ n) (hn2 : n ≤ 1002) (w : World) (ht : Tabs w) : Calls Tryd.prog 12 #[.int .i64 n, .bool false] w fun e w' => e = .returned (.bool true) ∧ Below w.heap.size w w' := by
  have HT := Lib.hid ht
  clear ht
  obtain ⟨b, hbq⟩ : ∃ b, b = false := ⟨_, rfl⟩
  have HBQ := Lib.hid hbq
  clear hbq
  go_enter Tryd.func12, Tryd.ntmps12
  go_wp2_with fail
  refine (r06New_any n (by omega) _).mono ?_
  rintro e w1 ⟨v1, rfl, ho1, hb1⟩
  obtain ⟨A5, c5, rfl, -⟩ := ho1.formN (emp_len n)
  have K5 := Lib.hid (Blk.new w1 59 #[.slice A5 n c5, .bool false])
  have HO5 := Lib.hid (show OwnC (w1.alloc (.cells #[.slice A5 n c5, .bool false] 59)) w.heap.size (.slice A5 n c5) (longL n b) by rw [HBQ.out]; exact ho1.bel (belA w1 (.cells #[.slice A5 n c5, .bool false] 59)))
  have HB := Lib.hid (hb1.trans ((belA w1 (.cells #[.slice A5 n c5, .bool false] 59)).mono hb1.size))
  clear ho1 hb1
  go_upto_region 8 with (fail)
  generalize w1.alloc (.cells #[.slice A5 n c5, .bool false] 59) = W at K5 HO5 HB ⊢
  generalize w1.heap.size = b5 at K5 ⊢
  have HLN := Lib.hid (long_len (n := n) (by omega) b)
  have HUS := Lib.hid (long_used (n := n) (by omega) b)
  have HN1 := Lib.hid (show 1 ≤ n by omega)
  have HOKD := Lib.hid (long_ok (n := n) (by omega) b)
  obtain ⟨Aq, cq, hve, hrq⟩ := HO5.out.formN HLN.out
  injection hve with e1 _ e2
  subst e1
  subst e2
  have HR5 := Lib.hid hrq
  clear hrq
  obtain ⟨hx5, hf5, hz5⟩ := K5.out.facts
  go_wp2_with fail
  refine (show Calls Tryd.prog 48 #[.agg #[.slice A5 n c5, .bool false]] W fun e w' => e = .returned (.int .i64 0) ∧ Below W.heap.size W w' by
    have hcon := lineUsed_any A5 c5 (longL n b) false W HR5.out (by have := HLN.out; omega)
    rw [HLN.out, HUS.out, HBQ.out] at hcon
    exact hcon).mono ?_
  rintro e w2 ⟨rfl, hb2⟩
  have K52 := Lib.hid (K5.out.bel hb2)
  have HR52 := Lib.hid (HR5.out.bel hb2)
  have HB2 := Lib.hid (HB.out.trans (hb2.mono HB.out.size))
  clear hb2 hx5 hf5 hz5
  have qn : ((n : Int) != (n : Int)) = false := by simp
  by_cases hgt : 1000 < n
  · have HOK := Lib.hid (show lineOk (longL n b) = false by rw [HOKD.out]; simp; omega)
    obtain ⟨hx5, hf5, hz5⟩ := K52.out.facts
    go_wp2_with fail
    refine (show Calls Tryd.prog 42 #[.agg #[.slice A5 n c5, .bool false]] w2 fun e w' => e = .returned (.bool false) ∧ Below w2.heap.size w2 w' by
      have hcon := lvalid_is HOK.out A5 c5 false w2 (HT.out.bel HB2.out) HR52.out (by have := HLN.out; omega)
      rw [HLN.out] at hcon
      exact hcon).mono ?_
    rintro e w3 ⟨rfl, hb3⟩
    have K53 := Lib.hid (K52.out.bel hb3)
    have HR53 := Lib.hid (HR52.out.bel hb3)
    have HB3 := Lib.hid (HB2.out.trans (hb3.mono HB2.out.size))
    clear hb3 hx5 hf5 hz5
    obtain ⟨hx5, hf5, hz5⟩ := K53.out.facts
    go_wp2_with fail
    refine (show Calls Tryd.prog 44 #[.slice A5 n c5, .bool false, .agg #[.slice none 0 0, .bool false], .int .i64 2] w3 fun e w' => e = .returned (.bool true) ∧ Below w3.heap.size w3 w' by
      have hcon := tt_of (l06of_any A5 (longL n b).length c5 false [] false 2 none 0 [] false 2 w3 (fun w4 hb4 => by have := lineOf_any A5 c5 (longL n b) false w4 ((HT.out.bel HB3.out).bel hb4) (HR53.out.bel hb4) (by have := HLN.out; omega); rw [show ofLine (longL n b) false = ([], false, 2) by simp [ofLine, HOK.out]] at this; exact this) (RdC.nil _) (by decide) (by decide)) (by decide +kernel)
      rw [HLN.out] at hcon
      exact hcon).mono ?_
    rintro e w4 ⟨rfl, hb4⟩
    have K54 := Lib.hid (K53.out.bel hb4)
    have HR54 := Lib.hid (HR53.out.bel hb4)
    have HB4 := Lib.hid (HB3.out.trans (hb4.mono HB3.out.size))
    clear hb4 hx5 hf5 hz5
    go_wp2_with fail
    refine (tt_of (l06news_any n [] false 2 none 0 [] false 2 _ (fun w5 hb5 => lineNew_no n (by omega) w5) (RdC.nil _) (by decide) (by decide)) (by decide +kernel)).mono ?_
    rintro e w5 ⟨rfl, hb5⟩
    have K55 := Lib.hid (K54.out.bel hb5)
    have HR55 := Lib.hid (HR54.out.bel hb5)
    have HB5 := Lib.hid (HB4.out.trans (hb5.mono HB4.out.size))
    clear hb5
    obtain ⟨hx5, hf5, hz5⟩ := K55.out.facts
    go_wp2_with fail
    refine (show Calls Tryd.prog 56 #[.agg #[.slice A5 n c5, .bool false], .agg #[.slice none 0 0, .bool false], .int .i64 2] w5 fun e w' => e = .returned (.bool true) ∧ Below w5.heap.size w5 w' by
      have hcon := tt_of (l06trims_any A5 c5 (longL n b) false [] false 2 none 0 [] false 2 w5 (fun w6 hb6 => by have := lineTrim_any A5 c5 (longL n b) false w6 ((HT.out.bel HB5.out).bel hb6) (HR55.out.bel hb6) (by have := HLN.out; omega); rw [trimOf_bad HOK.out] at this; exact this) (RdC.nil _) (by decide) (by decide)) (by decide +kernel)
      rw [HLN.out] at hcon
      exact hcon).mono ?_
    rintro e w6 ⟨rfl, hb6⟩
    have HB6 := Lib.hid (HB5.out.trans (hb6.mono HB5.out.size))
    clear hb6 hx5 hf5 hz5
    go_wp2_with fail
    refine (l06known_any _ (HT.out.bel HB6.out)).mono ?_
    rintro e w7 ⟨rfl, hb7⟩
    go_wp2_with fail
    go_ret
    exact ⟨rfl, HB6.out.trans (hb7.mono HB6.out.size)⟩
  · have HOK := Lib.hid (show lineOk (longL n b) = true by rw [HOKD.out]; simp; omega)
    go_upto_region 12 with (fail)
    clear K5 HR5 HB HO5
    have K5 := Lib.hid K52.out
    have HR5 := Lib.hid HR52.out
    have HB := Lib.hid HB2.out
    refine wp_region_multi (by kernel_rfl) (by kernel_rfl) (by kernel_rfl) (fun i => none) (fun i k h => ?_) (noBlk) [Sr.val (.agg #[.slice A5 n c5, .bool false]), Sr.val (.bool true), Sr.val (.bool true), Sr.val (.pointer (some ⟨b5, 0, none⟩)), Sr.val (.slice A5 n c5), Sr.val (.agg #[.slice A5 n c5, .bool false]), Sr.val (.bool true), Sr.val (.bool true), Sr.val (.bool true), Sr.rline (empties 1) false, Sr.val (.int .i64 n), Sr.val (.int .i64 n), Sr.rline (empties n) false, Sr.val (.bool true), Sr.val (.bool true), Sr.val (.bool true), Sr.val (.agg #[.slice A5 n c5, .bool false]), Sr.val (.agg #[.slice A5 n c5, .bool false]), Sr.rline (trimL (longL n b)) false, Sr.val (.bool true), Sr.val (.bool true), Sr.val (.bool true), Sr.val (.bool true), Sr.val (.bool true), Sr.val (.bool true)] [] [] (fun p hp => by cases hp) (fun p hp => by cases hp) (fun p hp => by cases hp) (fun p hp => by cases hp) ?_ ?_ ?_
    · cases h
    · intro q hq
      cases hq
    · refine RSteps.cons (fun a w' hc hp hk => ?_) ?_
      · have e5 : a.tmps.getD 5 undef = (.pointer (some ⟨b5, 0, none⟩) : Value) := (rk_same hk 5 (by kernel_rfl)).trans rfl
        have f5 := gd e5
        have hx := (K5.out.bel (chg_none hc)).cell
        exact ro_pure (v := .agg #[.slice A5 n c5, .bool false]) (wanted_none rfl) (by simp [execOp, Act.eval, e5, f5, go_sem, hx]) rfl (Chg.refl _ _)
      refine RSteps.cons (fun a w' hc hp hk => ?_) ?_
      · have e52 : a.tmps.getD 52 undef = (.agg #[.slice A5 n c5, .bool false] : Value) := (rk_at hk (e := ⟨0, .data⟩) (by simp) rfl rfl rfl)
        have f52 := gd e52
        have HW := HB.out.trans ((chg_none hc).mono HB.out.size)
        exact ro_call (wanted_none rfl) rfl (by simp only [List.map_toArray, List.map_cons, List.map_nil, Act.eval, e52] <;> rfl) (fun _ _ => by kernel_rfl) (by have hcon := yes_of (lineValid_any A5 c5 (longL n b) false w' (HT.out.bel HW) (HR5.out.bel (chg_none hc)) (by have := HLN.out; omega)) HOK.out; (try rw [HLN.out] at hcon); exact hcon)
      refine RSteps.cons (fun a w' hc hp hk => ?_) ?_
      · have e53 : a.tmps.getD 53 undef = (.bool true : Value) := (rk_at hk (e := ⟨1, .data⟩) (by simp) rfl rfl rfl)
        have f53 := gd e53
        exact ro_pure (v := .bool true) (wanted_none rfl) (by simp [execOp, Act.eval, e53, f53, go_sem]) rfl (Chg.refl _ _)
      refine RSteps.cons (fun a w' hc hp hk => ?_) ?_
      · have e5 : a.tmps.getD 5 undef = (.pointer (some ⟨b5, 0, none⟩) : Value) := (rk_same hk 5 (by kernel_rfl)).trans rfl
        have f5 := gd e5
        exact ro_pure (v := .pointer (some ⟨b5, 0, none⟩)) (wanted_yes rfl rfl rfl (show _ = _ from rk_at hk (e := ⟨2, .guard⟩) (by simp) rfl rfl rfl)) (by simp [execOp, Act.eval, e5, f5, go_sem]) rfl (Chg.refl _ _)
      refine RSteps.cons (fun a w' hc hp hk => ?_) ?_
      · have e55 : a.tmps.getD 55 undef = (.pointer (some ⟨b5, 0, none⟩) : Value) := (rk_at hk (e := ⟨3, .data⟩) (by simp) rfl rfl rfl)
        have f55 := gd e55
        have hx := (K5.out.bel (chg_none hc)).cell
        exact ro_pure (v := .slice A5 n c5) (wanted_yes rfl rfl rfl (show _ = _ from rk_at hk (e := ⟨2, .guard⟩) (by simp) rfl rfl rfl)) (by simp [execOp, Act.eval, e55, f55, go_sem, hx]) rfl (Chg.refl _ _)
      refine RSteps.cons (fun a w' hc hp hk => ?_) ?_
      · have e5 : a.tmps.getD 5 undef = (.pointer (some ⟨b5, 0, none⟩) : Value) := (rk_same hk 5 (by kernel_rfl)).trans rfl
        have f5 := gd e5
        have hx := (K5.out.bel (chg_none hc)).cell
        exact ro_pure (v := .agg #[.slice A5 n c5, .bool false]) (wanted_yes rfl rfl rfl (show _ = _ from rk_at hk (e := ⟨2, .guard⟩) (by simp) rfl rfl rfl)) (by simp [execOp, Act.eval, e5, f5, go_sem, hx]) rfl (Chg.refl _ _)
      refine RSteps.cons (fun a w' hc hp hk => ?_) ?_
      · have e56 : a.tmps.getD 56 undef = (.slice A5 n c5 : Value) := (rk_at hk (e := ⟨4, .data⟩) (by simp) rfl rfl rfl)
        have f56 := gd e56
        have e57 : a.tmps.getD 57 undef = (.agg #[.slice A5 n c5, .bool false] : Value) := (rk_at hk (e := ⟨5, .data⟩) (by simp) rfl rfl rfl)
        have f57 := gd e57
        have HW := HB.out.trans ((chg_none hc).mono HB.out.size)
        exact ro_call (wanted_yes rfl rfl rfl (show _ = _ from rk_at hk (e := ⟨2, .guard⟩) (by simp) rfl rfl rfl)) rfl (by simp only [List.map_toArray, List.map_cons, List.map_nil, Act.eval, e56, e57] <;> rfl) (fun _ _ => by kernel_rfl) (by have hcon := yes_of (l06of_any A5 (longL n b).length c5 false (longL n b) false 0 A5 c5 (longL n b) false 0 w' (fun w3 hb3 => by have := lineOf_any A5 c5 (longL n b) false w3 ((HT.out.bel HW).bel hb3) ((HR5.out.bel (chg_none hc)).bel hb3) (by have := HLN.out; omega); rw [show ofLine (longL n b) false = (longL n b, false, 0) by simp [ofLine, HOK.out]] at this; exact this) (HR5.out.bel (chg_none hc)) (by have := HLN.out; omega) (by have := HLN.out; omega)) (by rw [eqL_self]; rfl); (try rw [HLN.out] at hcon); exact hcon)
      refine RSteps.cons (fun a w' hc hp hk => ?_) ?_
      · have e54 : a.tmps.getD 54 undef = (.bool true : Value) := (rk_at hk (e := ⟨2, .data⟩) (by simp) rfl rfl rfl)
        have f54 := gd e54
        have e58 : a.tmps.getD 58 undef = (.bool true : Value) := (rk_at hk (e := ⟨6, .data⟩) (by simp) rfl rfl rfl)
        have f58 := gd e58
        exact ro_pure (v := .bool true) (wanted_none rfl) (by simp [execOp, Act.eval, e54, f54, e58, f58, go_sem]) rfl (Chg.refl _ _)
      refine RSteps.cons (fun a w' hc hp hk => ?_) ?_
      · have e59 : a.tmps.getD 59 undef = (.bool true : Value) := (rk_at hk (e := ⟨7, .data⟩) (by simp) rfl rfl rfl)
        have f59 := gd e59
        exact ro_pure (v := .bool true) (wanted_none rfl) (by simp [execOp, Act.eval, e59, f59, go_sem]) rfl (Chg.refl _ _)
      refine RSteps.cons (fun a w' hc hp hk => ?_) ?_
      · have HW := HB.out.trans ((chg_none hc).mono HB.out.size)
        exact ro_call (wanted_yes rfl rfl rfl (show _ = _ from rk_at hk (e := ⟨8, .guard⟩) (by simp) rfl rfl rfl)) rfl (by simp only [List.map_toArray, List.map_cons, List.map_nil, Act.eval] <;> rfl) (fun _ _ => by kernel_rfl) (by have hcon := r06New_any 1 (by omega) w'; (try rw [HLN.out] at hcon); exact hcon.mono fun e w2 ⟨v, h1, h2, h3⟩ => (by obtain ⟨A9, c9, rfl, r9⟩ := h2.form; exact ⟨_, h1, ⟨A9, c9, rfl, r9⟩, Chg.of_below h3 _⟩))
      refine RSteps.cons (fun a w' hc hp hk => ?_) ?_
      · have e0 : a.tmps.getD 0 undef = (.int .i64 n : Value) := (rk_same hk 0 (by kernel_rfl)).trans rfl
        have f0 := gd e0
        exact ro_pure (v := .int .i64 n) (wanted_yes rfl rfl rfl (show _ = _ from rk_at hk (e := ⟨8, .guard⟩) (by simp) rfl rfl rfl)) (by simp [execOp, Act.eval, e0, f0, go_sem]) rfl (Chg.refl _ _)
      refine RSteps.cons (fun a w' hc hp hk => ?_) ?_
      · have e0 : a.tmps.getD 0 undef = (.int .i64 n : Value) := (rk_same hk 0 (by kernel_rfl)).trans rfl
        have f0 := gd e0
        exact ro_pure (v := .int .i64 n) (wanted_yes rfl rfl rfl (show _ = _ from rk_at hk (e := ⟨8, .guard⟩) (by simp) rfl rfl rfl)) (by simp [execOp, Act.eval, e0, f0, go_sem]) rfl (Chg.refl _ _)
      refine RSteps.cons (fun a w' hc hp hk => ?_) ?_
      · have e63 : a.tmps.getD 63 undef = (.int .i64 n : Value) := (rk_at hk (e := ⟨11, .data⟩) (by simp) rfl rfl rfl)
        have f63 := gd e63
        have HW := HB.out.trans ((chg_none hc).mono HB.out.size)
        exact ro_call (wanted_yes rfl rfl rfl (show _ = _ from rk_at hk (e := ⟨8, .guard⟩) (by simp) rfl rfl rfl)) rfl (by simp only [List.map_toArray, List.map_cons, List.map_nil, Act.eval, e63] <;> rfl) (fun _ _ => by kernel_rfl) (by have hcon := r06New_any n (by omega) w'; (try rw [HLN.out] at hcon); exact hcon.mono fun e w2 ⟨v, h1, h2, h3⟩ => (by obtain ⟨A9, c9, rfl, r9⟩ := h2.form; exact ⟨_, h1, ⟨A9, c9, rfl, r9⟩, Chg.of_below h3 _⟩))
      refine RSteps.cons (fun a w' hc hp hk => ?_) ?_
      · have e62 : a.tmps.getD 62 undef = (.int .i64 n : Value) := (rk_at hk (e := ⟨10, .data⟩) (by simp) rfl rfl rfl)
        have f62 := gd e62
        have HW := HB.out.trans ((chg_none hc).mono HB.out.size)
        obtain ⟨A1, c1, k1, r1⟩ : ∃ A c, (a.tmps.getD 61 undef) = .agg #[.slice A (empties 1).length c, .bool false] ∧ RdC w' A c (empties 1) := (rk_at hk (e := ⟨9, .data⟩) (by simp) rfl rfl rfl)
        obtain ⟨A2, c2, k2, r2⟩ : ∃ A c, (a.tmps.getD 64 undef) = .agg #[.slice A (empties n).length c, .bool false] ∧ RdC w' A c (empties n) := (rk_at hk (e := ⟨12, .data⟩) (by simp) rfl rfl rfl)
        exact ro_call (wanted_yes rfl rfl rfl (show _ = _ from rk_at hk (e := ⟨8, .guard⟩) (by simp) rfl rfl rfl)) rfl (by simp only [List.map_toArray, List.map_cons, List.map_nil, Act.eval, k1, e62, k2] <;> rfl) (fun _ _ => by kernel_rfl) (by have hcon := yes_of (l06fits_any A1 c1 (empties 1) false n (fitTo n (empties 1)) false 0 A2 c2 (empties n) false 0 w' (fun w3 hb3 => lineFit_yes A1 c1 (empties 1) false n (by omega) w3 ((HT.out.bel HW).bel hb3) (r1.bel hb3) (by decide) (by decide +kernel)) r2 (by rw [fitTo_length]; omega) (by rw [emp_len]; omega)) (by rw [fit_emp HN1.out, eqL_self]; rfl); (try rw [HLN.out] at hcon); exact hcon)
      refine RSteps.cons (fun a w' hc hp hk => ?_) ?_
      · have e60 : a.tmps.getD 60 undef = (.bool true : Value) := (rk_at hk (e := ⟨8, .data⟩) (by simp) rfl rfl rfl)
        have f60 := gd e60
        have e65 : a.tmps.getD 65 undef = (.bool true : Value) := (rk_at hk (e := ⟨13, .data⟩) (by simp) rfl rfl rfl)
        have f65 := gd e65
        exact ro_pure (v := .bool true) (wanted_none rfl) (by simp [execOp, Act.eval, e60, f60, e65, f65, go_sem]) rfl (Chg.refl _ _)
      refine RSteps.cons (fun a w' hc hp hk => ?_) ?_
      · have e66 : a.tmps.getD 66 undef = (.bool true : Value) := (rk_at hk (e := ⟨14, .data⟩) (by simp) rfl rfl rfl)
        have f66 := gd e66
        exact ro_pure (v := .bool true) (wanted_none rfl) (by simp [execOp, Act.eval, e66, f66, go_sem]) rfl (Chg.refl _ _)
      refine RSteps.cons (fun a w' hc hp hk => ?_) ?_
      · have e5 : a.tmps.getD 5 undef = (.pointer (some ⟨b5, 0, none⟩) : Value) := (rk_same hk 5 (by kernel_rfl)).trans rfl
        have f5 := gd e5
        have hx := (K5.out.bel (chg_none hc)).cell
        exact ro_pure (v := .agg #[.slice A5 n c5, .bool false]) (wanted_yes rfl rfl rfl (show _ = _ from rk_at hk (e := ⟨15, .guard⟩) (by simp) rfl rfl rfl)) (by simp [execOp, Act.eval, e5, f5, go_sem, hx]) rfl (Chg.refl _ _)
      refine RSteps.cons (fun a w' hc hp hk => ?_) ?_
      · have e5 : a.tmps.getD 5 undef = (.pointer (some ⟨b5, 0, none⟩) : Value) := (rk_same hk 5 (by kernel_rfl)).trans rfl
        have f5 := gd e5
        have hx := (K5.out.bel (chg_none hc)).cell
        exact ro_pure (v := .agg #[.slice A5 n c5, .bool false]) (wanted_yes rfl rfl rfl (show _ = _ from rk_at hk (e := ⟨15, .guard⟩) (by simp) rfl rfl rfl)) (by simp [execOp, Act.eval, e5, f5, go_sem, hx]) rfl (Chg.refl _ _)
      refine RSteps.cons (fun a w' hc hp hk => ?_) ?_
      · have e69 : a.tmps.getD 69 undef = (.agg #[.slice A5 n c5, .bool false] : Value) := (rk_at hk (e := ⟨17, .data⟩) (by simp) rfl rfl rfl)
        have f69 := gd e69
        have HW := HB.out.trans ((chg_none hc).mono HB.out.size)
        exact ro_call (wanted_yes rfl rfl rfl (show _ = _ from rk_at hk (e := ⟨15, .guard⟩) (by simp) rfl rfl rfl)) rfl (by simp only [List.map_toArray, List.map_cons, List.map_nil, Act.eval, e69] <;> rfl) (fun _ _ => by kernel_rfl) (by have hcon := r06Trim_any A5 c5 (longL n b) false w' (HR5.out.bel (chg_none hc)) (by have := HLN.out; omega); (try rw [HLN.out] at hcon); exact hcon.mono fun e w2 ⟨v, h1, h2, h3⟩ => (by obtain ⟨A9, c9, rfl, r9⟩ := h2.form; exact ⟨_, h1, ⟨A9, c9, rfl, r9⟩, Chg.of_below h3 _⟩))
      refine RSteps.cons (fun a w' hc hp hk => ?_) ?_
      · have e68 : a.tmps.getD 68 undef = (.agg #[.slice A5 n c5, .bool false] : Value) := (rk_at hk (e := ⟨16, .data⟩) (by simp) rfl rfl rfl)
        have f68 := gd e68
        have HW := HB.out.trans ((chg_none hc).mono HB.out.size)
        obtain ⟨A2, c2, k2, r2⟩ : ∃ A c, (a.tmps.getD 70 undef) = .agg #[.slice A (trimL (longL n b)).length c, .bool false] ∧ RdC w' A c (trimL (longL n b)) := (rk_at hk (e := ⟨18, .data⟩) (by simp) rfl rfl rfl)
        exact ro_call (wanted_yes rfl rfl rfl (show _ = _ from rk_at hk (e := ⟨15, .guard⟩) (by simp) rfl rfl rfl)) rfl (by simp only [List.map_toArray, List.map_cons, List.map_nil, Act.eval, e68, k2] <;> rfl) (fun _ _ => by kernel_rfl) (by have hcon := yes_of (l06trims_any A5 c5 (longL n b) false (trimL (longL n b)) false 0 A2 c2 (trimL (longL n b)) false 0 w' (fun w3 hb3 => by have := lineTrim_any A5 c5 (longL n b) false w3 ((HT.out.bel HW).bel hb3) ((HR5.out.bel (chg_none hc)).bel hb3) (by have := HLN.out; omega); rw [trimOf_yes HOK.out] at this; exact this) r2 (by rw [trim_length]; have := usedOf_le (longL n b); have := HLN.out; omega) (by rw [trim_length]; have := usedOf_le (longL n b); have := HLN.out; omega)) (by rw [eqL_self]; rfl); (try rw [HLN.out] at hcon); exact hcon)
      refine RSteps.cons (fun a w' hc hp hk => ?_) ?_
      · have e67 : a.tmps.getD 67 undef = (.bool true : Value) := (rk_at hk (e := ⟨15, .data⟩) (by simp) rfl rfl rfl)
        have f67 := gd e67
        have e71 : a.tmps.getD 71 undef = (.bool true : Value) := (rk_at hk (e := ⟨19, .data⟩) (by simp) rfl rfl rfl)
        have f71 := gd e71
        exact ro_pure (v := .bool true) (wanted_none rfl) (by simp [execOp, Act.eval, e67, f67, e71, f71, go_sem]) rfl (Chg.refl _ _)
      refine RSteps.cons (fun a w' hc hp hk => ?_) ?_
      · have e72 : a.tmps.getD 72 undef = (.bool true : Value) := (rk_at hk (e := ⟨20, .data⟩) (by simp) rfl rfl rfl)
        have f72 := gd e72
        exact ro_pure (v := .bool true) (wanted_none rfl) (by simp [execOp, Act.eval, e72, f72, go_sem]) rfl (Chg.refl _ _)
      refine RSteps.cons (fun a w' hc hp hk => ?_) ?_
      · have HW := HB.out.trans ((chg_none hc).mono HB.out.size)
        exact ro_call (wanted_yes rfl rfl rfl (show _ = _ from rk_at hk (e := ⟨21, .guard⟩) (by simp) rfl rfl rfl)) rfl (by simp only [List.map_toArray, List.map_cons, List.map_nil, Act.eval] <;> rfl) (fun _ _ => by kernel_rfl) (by have hcon := yes_of (l06known_any w' (HT.out.bel HW)) rfl; (try rw [HLN.out] at hcon); exact hcon)
      refine RSteps.cons (fun a w' hc hp hk => ?_) ?_
      · have e73 : a.tmps.getD 73 undef = (.bool true : Value) := (rk_at hk (e := ⟨21, .data⟩) (by simp) rfl rfl rfl)
        have f73 := gd e73
        have e74 : a.tmps.getD 74 undef = (.bool true : Value) := (rk_at hk (e := ⟨22, .data⟩) (by simp) rfl rfl rfl)
        have f74 := gd e74
        exact ro_pure (v := .bool true) (wanted_none rfl) (by simp [execOp, Act.eval, e73, f73, e74, f74, go_sem]) rfl (Chg.refl _ _)
      refine RSteps.cons (fun a w' hc hp hk => ?_) ?_
      · have e75 : a.tmps.getD 75 undef = (.bool true : Value) := (rk_at hk (e := ⟨23, .data⟩) (by simp) rfl rfl rfl)
        have f75 := gd e75
        exact ro_pure (v := .bool true) (wanted_none rfl) (by simp [execOp, Act.eval, e75, f75, go_sem]) rfl (Chg.refl _ _)
      exact RSteps.nil
    · intro vs wz hc hv
      have q : vs 24 = .bool true := hv 24 (by decide) rfl
      have HC := Lib.hid (chg_none hc)
      clear hc hv
      simp only [putL, Act.put, Nat.zero_add, Nat.reduceAdd, q, List.setIfInBounds_toArray, List.set_cons_succ, List.set_cons_zero]
      clear q
      go_wp2_with fail
      go_ret
      exact ⟨rfl, HB.out.trans (HC.out.mono HB.out.size)⟩
set_option maxRecDepth 100000 in
set_option maxHeartbeats 4000000 in
theorem longs_true (n : Nat) (hn1 : 998 ≤ n) (hn2 : n ≤ 1002) (w : World) (ht : Tabs w) : Calls Tryd.prog 12 #[.int .i64 n, .bool true] w fun e w' => e = .returned (.bool true) ∧ Below w.heap.size w w' := by
  have HT := Lib.hid ht
  clear ht
  obtain ⟨b, hbq⟩ : ∃ b, b = true := ⟨_, rfl⟩
  have HBQ := Lib.hid hbq
  clear hbq
  go_enter Tryd.func12, Tryd.ntmps12
  go_wp2_with fail
  refine (r06New_any n (by omega) _).mono ?_
  rintro e w1 ⟨v1, rfl, ho1, hb1⟩
  obtain ⟨A5, c5, rfl, -⟩ := ho1.formN (emp_len n)
  have hl1 : n - 1 < (empties n).length := by rw [emp_len]; omega
  have ho2 := ho1.bel (belA w1 (.cells #[.slice A5 n c5, .bool false] 59))
  obtain ⟨g, hA, -, hgB, hgz, hr⟩ := ho2.head (by rw [emp_len]; omega)
  subst hA
  have hg1 : g < w1.heap.size := (ho1.head (by rw [emp_len]; omega)).elim fun g' h => by obtain ⟨h0, -, -, hz, -⟩ := h; injection h0 with h0; injection h0 with h0; omega
  have hfr := ho2.free
  have hru := elem_rune hr hl1
  rw [Nat.zero_add] at hru
  obtain ⟨hs1, hs2⟩ := ho2.setAt hl1 (j := 0) (by omega) (cv_set0 (empties n)[n - 1] 97)
  have q1 : (n : Int) - 1 = ((n - 1 : Nat) : Int) := by omega
  have K5 := Lib.hid ((Blk.new w1 59 #[.slice (some ⟨g, 0, none⟩) n c5, .bool false]).grown hs2 (by simp; omega))
  have HO5 := Lib.hid hs1
  have HB := Lib.hid (below_put (hb1.trans ((belA w1 (.cells #[.slice (some ⟨g, 0, none⟩) n c5, .bool false] 59)).mono hb1.size)) hs2 hgB)
  rw [Nat.add_zero, World.setCell_alloc_past _ _ _ _ hg1] at K5 HO5 HB
  have hd : ({ (empties n)[n - 1] with rune := 97 } : Cell) = cA := by simp only [empties, List.getElem_replicate]; decide
  rw [hd, emp_set (by omega)] at HO5
  have HO5 := Lib.hid (show OwnC ((w1.setCell ⟨g, (n - 1) * 16, none⟩ (.int .i32 97)).alloc (.cells #[.slice (some ⟨g, 0, none⟩) n c5, .bool false] 59)) w.heap.size (.slice (some ⟨g, 0, none⟩) n c5) (longL n b) by rw [HBQ.out]; exact HO5.out)
  clear hs1 hs2 hd
  clear ho1 hb1
  go_upto_region 8 with (fail)
  generalize (w1.setCell ⟨g, (n - 1) * 16, none⟩ (.int .i32 97)).alloc (.cells #[.slice (some ⟨g, 0, none⟩) n c5, .bool false] 59) = W at K5 HO5 HB ⊢
  clear ho2 hgz hr hfr hru
  generalize (some ⟨g, 0, none⟩ : Option Addr) = A5 at K5 HO5 ⊢
  generalize w1.heap.size = b5 at K5 ⊢
  have HLN := Lib.hid (long_len (n := n) (by omega) b)
  have HUS := Lib.hid (long_used (n := n) (by omega) b)
  have HN1 := Lib.hid (show 1 ≤ n by omega)
  have HOKD := Lib.hid (long_ok (n := n) (by omega) b)
  obtain ⟨Aq, cq, hve, hrq⟩ := HO5.out.formN HLN.out
  injection hve with e1 _ e2
  subst e1
  subst e2
  have HR5 := Lib.hid hrq
  clear hrq
  obtain ⟨hx5, hf5, hz5⟩ := K5.out.facts
  go_wp2_with fail
  refine (show Calls Tryd.prog 48 #[.agg #[.slice A5 n c5, .bool false]] W fun e w' => e = .returned (.int .i64 n) ∧ Below W.heap.size W w' by
    have hcon := lineUsed_any A5 c5 (longL n b) false W HR5.out (by have := HLN.out; omega)
    rw [HLN.out, HUS.out, HBQ.out] at hcon
    exact hcon).mono ?_
  rintro e w2 ⟨rfl, hb2⟩
  have K52 := Lib.hid (K5.out.bel hb2)
  have HR52 := Lib.hid (HR5.out.bel hb2)
  have HB2 := Lib.hid (HB.out.trans (hb2.mono HB.out.size))
  clear hb2 hx5 hf5 hz5
  have qn : ((n : Int) != (n : Int)) = false := by simp
  by_cases hgt : 1000 < n
  · have HOK := Lib.hid (show lineOk (longL n b) = false by rw [HOKD.out]; simp; omega)
    obtain ⟨hx5, hf5, hz5⟩ := K52.out.facts
    go_wp2_with fail
    refine (show Calls Tryd.prog 42 #[.agg #[.slice A5 n c5, .bool false]] w2 fun e w' => e = .returned (.bool false) ∧ Below w2.heap.size w2 w' by
      have hcon := lvalid_is HOK.out A5 c5 false w2 (HT.out.bel HB2.out) HR52.out (by have := HLN.out; omega)
      rw [HLN.out] at hcon
      exact hcon).mono ?_
    rintro e w3 ⟨rfl, hb3⟩
    have K53 := Lib.hid (K52.out.bel hb3)
    have HR53 := Lib.hid (HR52.out.bel hb3)
    have HB3 := Lib.hid (HB2.out.trans (hb3.mono HB2.out.size))
    clear hb3 hx5 hf5 hz5
    obtain ⟨hx5, hf5, hz5⟩ := K53.out.facts
    go_wp2_with fail
    refine (show Calls Tryd.prog 44 #[.slice A5 n c5, .bool false, .agg #[.slice none 0 0, .bool false], .int .i64 2] w3 fun e w' => e = .returned (.bool true) ∧ Below w3.heap.size w3 w' by
      have hcon := tt_of (l06of_any A5 (longL n b).length c5 false [] false 2 none 0 [] false 2 w3 (fun w4 hb4 => by have := lineOf_any A5 c5 (longL n b) false w4 ((HT.out.bel HB3.out).bel hb4) (HR53.out.bel hb4) (by have := HLN.out; omega); rw [show ofLine (longL n b) false = ([], false, 2) by simp [ofLine, HOK.out]] at this; exact this) (RdC.nil _) (by decide) (by decide)) (by decide +kernel)
      rw [HLN.out] at hcon
      exact hcon).mono ?_
    rintro e w4 ⟨rfl, hb4⟩
    have K54 := Lib.hid (K53.out.bel hb4)
    have HR54 := Lib.hid (HR53.out.bel hb4)
    have HB4 := Lib.hid (HB3.out.trans (hb4.mono HB3.out.size))
    clear hb4 hx5 hf5 hz5
    go_wp2_with fail
    refine (tt_of (l06news_any n [] false 2 none 0 [] false 2 _ (fun w5 hb5 => lineNew_no n (by omega) w5) (RdC.nil _) (by decide) (by decide)) (by decide +kernel)).mono ?_
    rintro e w5 ⟨rfl, hb5⟩
    have K55 := Lib.hid (K54.out.bel hb5)
    have HR55 := Lib.hid (HR54.out.bel hb5)
    have HB5 := Lib.hid (HB4.out.trans (hb5.mono HB4.out.size))
    clear hb5
    obtain ⟨hx5, hf5, hz5⟩ := K55.out.facts
    go_wp2_with fail
    refine (show Calls Tryd.prog 56 #[.agg #[.slice A5 n c5, .bool false], .agg #[.slice none 0 0, .bool false], .int .i64 2] w5 fun e w' => e = .returned (.bool true) ∧ Below w5.heap.size w5 w' by
      have hcon := tt_of (l06trims_any A5 c5 (longL n b) false [] false 2 none 0 [] false 2 w5 (fun w6 hb6 => by have := lineTrim_any A5 c5 (longL n b) false w6 ((HT.out.bel HB5.out).bel hb6) (HR55.out.bel hb6) (by have := HLN.out; omega); rw [trimOf_bad HOK.out] at this; exact this) (RdC.nil _) (by decide) (by decide)) (by decide +kernel)
      rw [HLN.out] at hcon
      exact hcon).mono ?_
    rintro e w6 ⟨rfl, hb6⟩
    have HB6 := Lib.hid (HB5.out.trans (hb6.mono HB5.out.size))
    clear hb6 hx5 hf5 hz5
    go_wp2_with fail
    refine (l06known_any _ (HT.out.bel HB6.out)).mono ?_
    rintro e w7 ⟨rfl, hb7⟩
    go_wp2_with fail
    go_ret
    exact ⟨rfl, HB6.out.trans (hb7.mono HB6.out.size)⟩
  · have HOK := Lib.hid (show lineOk (longL n b) = true by rw [HOKD.out]; simp; omega)
    go_upto_region 12 with (fail)
    clear K5 HR5 HB HO5
    have K5 := Lib.hid K52.out
    have HR5 := Lib.hid HR52.out
    have HB := Lib.hid HB2.out
    refine wp_region_multi (by kernel_rfl) (by kernel_rfl) (by kernel_rfl) (fun i => none) (fun i k h => ?_) (noBlk) [Sr.val (.agg #[.slice A5 n c5, .bool false]), Sr.val (.bool true), Sr.val (.bool true), Sr.val (.pointer (some ⟨b5, 0, none⟩)), Sr.val (.slice A5 n c5), Sr.val (.agg #[.slice A5 n c5, .bool false]), Sr.val (.bool true), Sr.val (.bool true), Sr.val (.bool true), Sr.rline (empties 1) false, Sr.val (.int .i64 n), Sr.val (.int .i64 n), Sr.rline (empties n) false, Sr.val (.bool true), Sr.val (.bool true), Sr.val (.bool true), Sr.val (.agg #[.slice A5 n c5, .bool false]), Sr.val (.agg #[.slice A5 n c5, .bool false]), Sr.rline (trimL (longL n b)) false, Sr.val (.bool true), Sr.val (.bool true), Sr.val (.bool true), Sr.val (.bool true), Sr.val (.bool true), Sr.val (.bool true)] [] [] (fun p hp => by cases hp) (fun p hp => by cases hp) (fun p hp => by cases hp) (fun p hp => by cases hp) ?_ ?_ ?_
    · cases h
    · intro q hq
      cases hq
    · refine RSteps.cons (fun a w' hc hp hk => ?_) ?_
      · have e5 : a.tmps.getD 5 undef = (.pointer (some ⟨b5, 0, none⟩) : Value) := (rk_same hk 5 (by kernel_rfl)).trans rfl
        have f5 := gd e5
        have hx := (K5.out.bel (chg_none hc)).cell
        exact ro_pure (v := .agg #[.slice A5 n c5, .bool false]) (wanted_none rfl) (by simp [execOp, Act.eval, e5, f5, go_sem, hx]) rfl (Chg.refl _ _)
      refine RSteps.cons (fun a w' hc hp hk => ?_) ?_
      · have e52 : a.tmps.getD 52 undef = (.agg #[.slice A5 n c5, .bool false] : Value) := (rk_at hk (e := ⟨0, .data⟩) (by simp) rfl rfl rfl)
        have f52 := gd e52
        have HW := HB.out.trans ((chg_none hc).mono HB.out.size)
        exact ro_call (wanted_none rfl) rfl (by simp only [List.map_toArray, List.map_cons, List.map_nil, Act.eval, e52] <;> rfl) (fun _ _ => by kernel_rfl) (by have hcon := yes_of (lineValid_any A5 c5 (longL n b) false w' (HT.out.bel HW) (HR5.out.bel (chg_none hc)) (by have := HLN.out; omega)) HOK.out; (try rw [HLN.out] at hcon); exact hcon)
      refine RSteps.cons (fun a w' hc hp hk => ?_) ?_
      · have e53 : a.tmps.getD 53 undef = (.bool true : Value) := (rk_at hk (e := ⟨1, .data⟩) (by simp) rfl rfl rfl)
        have f53 := gd e53
        exact ro_pure (v := .bool true) (wanted_none rfl) (by simp [execOp, Act.eval, e53, f53, go_sem]) rfl (Chg.refl _ _)
      refine RSteps.cons (fun a w' hc hp hk => ?_) ?_
      · have e5 : a.tmps.getD 5 undef = (.pointer (some ⟨b5, 0, none⟩) : Value) := (rk_same hk 5 (by kernel_rfl)).trans rfl
        have f5 := gd e5
        exact ro_pure (v := .pointer (some ⟨b5, 0, none⟩)) (wanted_yes rfl rfl rfl (show _ = _ from rk_at hk (e := ⟨2, .guard⟩) (by simp) rfl rfl rfl)) (by simp [execOp, Act.eval, e5, f5, go_sem]) rfl (Chg.refl _ _)
      refine RSteps.cons (fun a w' hc hp hk => ?_) ?_
      · have e55 : a.tmps.getD 55 undef = (.pointer (some ⟨b5, 0, none⟩) : Value) := (rk_at hk (e := ⟨3, .data⟩) (by simp) rfl rfl rfl)
        have f55 := gd e55
        have hx := (K5.out.bel (chg_none hc)).cell
        exact ro_pure (v := .slice A5 n c5) (wanted_yes rfl rfl rfl (show _ = _ from rk_at hk (e := ⟨2, .guard⟩) (by simp) rfl rfl rfl)) (by simp [execOp, Act.eval, e55, f55, go_sem, hx]) rfl (Chg.refl _ _)
      refine RSteps.cons (fun a w' hc hp hk => ?_) ?_
      · have e5 : a.tmps.getD 5 undef = (.pointer (some ⟨b5, 0, none⟩) : Value) := (rk_same hk 5 (by kernel_rfl)).trans rfl
        have f5 := gd e5
        have hx := (K5.out.bel (chg_none hc)).cell
        exact ro_pure (v := .agg #[.slice A5 n c5, .bool false]) (wanted_yes rfl rfl rfl (show _ = _ from rk_at hk (e := ⟨2, .guard⟩) (by simp) rfl rfl rfl)) (by simp [execOp, Act.eval, e5, f5, go_sem, hx]) rfl (Chg.refl _ _)
      refine RSteps.cons (fun a w' hc hp hk => ?_) ?_
      · have e56 : a.tmps.getD 56 undef = (.slice A5 n c5 : Value) := (rk_at hk (e := ⟨4, .data⟩) (by simp) rfl rfl rfl)
        have f56 := gd e56
        have e57 : a.tmps.getD 57 undef = (.agg #[.slice A5 n c5, .bool false] : Value) := (rk_at hk (e := ⟨5, .data⟩) (by simp) rfl rfl rfl)
        have f57 := gd e57
        have HW := HB.out.trans ((chg_none hc).mono HB.out.size)
        exact ro_call (wanted_yes rfl rfl rfl (show _ = _ from rk_at hk (e := ⟨2, .guard⟩) (by simp) rfl rfl rfl)) rfl (by simp only [List.map_toArray, List.map_cons, List.map_nil, Act.eval, e56, e57] <;> rfl) (fun _ _ => by kernel_rfl) (by have hcon := yes_of (l06of_any A5 (longL n b).length c5 false (longL n b) false 0 A5 c5 (longL n b) false 0 w' (fun w3 hb3 => by have := lineOf_any A5 c5 (longL n b) false w3 ((HT.out.bel HW).bel hb3) ((HR5.out.bel (chg_none hc)).bel hb3) (by have := HLN.out; omega); rw [show ofLine (longL n b) false = (longL n b, false, 0) by simp [ofLine, HOK.out]] at this; exact this) (HR5.out.bel (chg_none hc)) (by have := HLN.out; omega) (by have := HLN.out; omega)) (by rw [eqL_self]; rfl); (try rw [HLN.out] at hcon); exact hcon)
      refine RSteps.cons (fun a w' hc hp hk => ?_) ?_
      · have e54 : a.tmps.getD 54 undef = (.bool true : Value) := (rk_at hk (e := ⟨2, .data⟩) (by simp) rfl rfl rfl)
        have f54 := gd e54
        have e58 : a.tmps.getD 58 undef = (.bool true : Value) := (rk_at hk (e := ⟨6, .data⟩) (by simp) rfl rfl rfl)
        have f58 := gd e58
        exact ro_pure (v := .bool true) (wanted_none rfl) (by simp [execOp, Act.eval, e54, f54, e58, f58, go_sem]) rfl (Chg.refl _ _)
      refine RSteps.cons (fun a w' hc hp hk => ?_) ?_
      · have e59 : a.tmps.getD 59 undef = (.bool true : Value) := (rk_at hk (e := ⟨7, .data⟩) (by simp) rfl rfl rfl)
        have f59 := gd e59
        exact ro_pure (v := .bool true) (wanted_none rfl) (by simp [execOp, Act.eval, e59, f59, go_sem]) rfl (Chg.refl _ _)
      refine RSteps.cons (fun a w' hc hp hk => ?_) ?_
      · have HW := HB.out.trans ((chg_none hc).mono HB.out.size)
        exact ro_call (wanted_yes rfl rfl rfl (show _ = _ from rk_at hk (e := ⟨8, .guard⟩) (by simp) rfl rfl rfl)) rfl (by simp only [List.map_toArray, List.map_cons, List.map_nil, Act.eval] <;> rfl) (fun _ _ => by kernel_rfl) (by have hcon := r06New_any 1 (by omega) w'; (try rw [HLN.out] at hcon); exact hcon.mono fun e w2 ⟨v, h1, h2, h3⟩ => (by obtain ⟨A9, c9, rfl, r9⟩ := h2.form; exact ⟨_, h1, ⟨A9, c9, rfl, r9⟩, Chg.of_below h3 _⟩))
      refine RSteps.cons (fun a w' hc hp hk => ?_) ?_
      · have e0 : a.tmps.getD 0 undef = (.int .i64 n : Value) := (rk_same hk 0 (by kernel_rfl)).trans rfl
        have f0 := gd e0
        exact ro_pure (v := .int .i64 n) (wanted_yes rfl rfl rfl (show _ = _ from rk_at hk (e := ⟨8, .guard⟩) (by simp) rfl rfl rfl)) (by simp [execOp, Act.eval, e0, f0, go_sem]) rfl (Chg.refl _ _)
      refine RSteps.cons (fun a w' hc hp hk => ?_) ?_
      · have e0 : a.tmps.getD 0 undef = (.int .i64 n : Value) := (rk_same hk 0 (by kernel_rfl)).trans rfl
        have f0 := gd e0
        exact ro_pure (v := .int .i64 n) (wanted_yes rfl rfl rfl (show _ = _ from rk_at hk (e := ⟨8, .guard⟩) (by simp) rfl rfl rfl)) (by simp [execOp, Act.eval, e0, f0, go_sem]) rfl (Chg.refl _ _)
      refine RSteps.cons (fun a w' hc hp hk => ?_) ?_
      · have e63 : a.tmps.getD 63 undef = (.int .i64 n : Value) := (rk_at hk (e := ⟨11, .data⟩) (by simp) rfl rfl rfl)
        have f63 := gd e63
        have HW := HB.out.trans ((chg_none hc).mono HB.out.size)
        exact ro_call (wanted_yes rfl rfl rfl (show _ = _ from rk_at hk (e := ⟨8, .guard⟩) (by simp) rfl rfl rfl)) rfl (by simp only [List.map_toArray, List.map_cons, List.map_nil, Act.eval, e63] <;> rfl) (fun _ _ => by kernel_rfl) (by have hcon := r06New_any n (by omega) w'; (try rw [HLN.out] at hcon); exact hcon.mono fun e w2 ⟨v, h1, h2, h3⟩ => (by obtain ⟨A9, c9, rfl, r9⟩ := h2.form; exact ⟨_, h1, ⟨A9, c9, rfl, r9⟩, Chg.of_below h3 _⟩))
      refine RSteps.cons (fun a w' hc hp hk => ?_) ?_
      · have e62 : a.tmps.getD 62 undef = (.int .i64 n : Value) := (rk_at hk (e := ⟨10, .data⟩) (by simp) rfl rfl rfl)
        have f62 := gd e62
        have HW := HB.out.trans ((chg_none hc).mono HB.out.size)
        obtain ⟨A1, c1, k1, r1⟩ : ∃ A c, (a.tmps.getD 61 undef) = .agg #[.slice A (empties 1).length c, .bool false] ∧ RdC w' A c (empties 1) := (rk_at hk (e := ⟨9, .data⟩) (by simp) rfl rfl rfl)
        obtain ⟨A2, c2, k2, r2⟩ : ∃ A c, (a.tmps.getD 64 undef) = .agg #[.slice A (empties n).length c, .bool false] ∧ RdC w' A c (empties n) := (rk_at hk (e := ⟨12, .data⟩) (by simp) rfl rfl rfl)
        exact ro_call (wanted_yes rfl rfl rfl (show _ = _ from rk_at hk (e := ⟨8, .guard⟩) (by simp) rfl rfl rfl)) rfl (by simp only [List.map_toArray, List.map_cons, List.map_nil, Act.eval, k1, e62, k2] <;> rfl) (fun _ _ => by kernel_rfl) (by have hcon := yes_of (l06fits_any A1 c1 (empties 1) false n (fitTo n (empties 1)) false 0 A2 c2 (empties n) false 0 w' (fun w3 hb3 => lineFit_yes A1 c1 (empties 1) false n (by omega) w3 ((HT.out.bel HW).bel hb3) (r1.bel hb3) (by decide) (by decide +kernel)) r2 (by rw [fitTo_length]; omega) (by rw [emp_len]; omega)) (by rw [fit_emp HN1.out, eqL_self]; rfl); (try rw [HLN.out] at hcon); exact hcon)
      refine RSteps.cons (fun a w' hc hp hk => ?_) ?_
      · have e60 : a.tmps.getD 60 undef = (.bool true : Value) := (rk_at hk (e := ⟨8, .data⟩) (by simp) rfl rfl rfl)
        have f60 := gd e60
        have e65 : a.tmps.getD 65 undef = (.bool true : Value) := (rk_at hk (e := ⟨13, .data⟩) (by simp) rfl rfl rfl)
        have f65 := gd e65
        exact ro_pure (v := .bool true) (wanted_none rfl) (by simp [execOp, Act.eval, e60, f60, e65, f65, go_sem]) rfl (Chg.refl _ _)
      refine RSteps.cons (fun a w' hc hp hk => ?_) ?_
      · have e66 : a.tmps.getD 66 undef = (.bool true : Value) := (rk_at hk (e := ⟨14, .data⟩) (by simp) rfl rfl rfl)
        have f66 := gd e66
        exact ro_pure (v := .bool true) (wanted_none rfl) (by simp [execOp, Act.eval, e66, f66, go_sem]) rfl (Chg.refl _ _)
      refine RSteps.cons (fun a w' hc hp hk => ?_) ?_
      · have e5 : a.tmps.getD 5 undef = (.pointer (some ⟨b5, 0, none⟩) : Value) := (rk_same hk 5 (by kernel_rfl)).trans rfl
        have f5 := gd e5
        have hx := (K5.out.bel (chg_none hc)).cell
        exact ro_pure (v := .agg #[.slice A5 n c5, .bool false]) (wanted_yes rfl rfl rfl (show _ = _ from rk_at hk (e := ⟨15, .guard⟩) (by simp) rfl rfl rfl)) (by simp [execOp, Act.eval, e5, f5, go_sem, hx]) rfl (Chg.refl _ _)
      refine RSteps.cons (fun a w' hc hp hk => ?_) ?_
      · have e5 : a.tmps.getD 5 undef = (.pointer (some ⟨b5, 0, none⟩) : Value) := (rk_same hk 5 (by kernel_rfl)).trans rfl
        have f5 := gd e5
        have hx := (K5.out.bel (chg_none hc)).cell
        exact ro_pure (v := .agg #[.slice A5 n c5, .bool false]) (wanted_yes rfl rfl rfl (show _ = _ from rk_at hk (e := ⟨15, .guard⟩) (by simp) rfl rfl rfl)) (by simp [execOp, Act.eval, e5, f5, go_sem, hx]) rfl (Chg.refl _ _)
      refine RSteps.cons (fun a w' hc hp hk => ?_) ?_
      · have e69 : a.tmps.getD 69 undef = (.agg #[.slice A5 n c5, .bool false] : Value) := (rk_at hk (e := ⟨17, .data⟩) (by simp) rfl rfl rfl)
        have f69 := gd e69
        have HW := HB.out.trans ((chg_none hc).mono HB.out.size)
        exact ro_call (wanted_yes rfl rfl rfl (show _ = _ from rk_at hk (e := ⟨15, .guard⟩) (by simp) rfl rfl rfl)) rfl (by simp only [List.map_toArray, List.map_cons, List.map_nil, Act.eval, e69] <;> rfl) (fun _ _ => by kernel_rfl) (by have hcon := r06Trim_any A5 c5 (longL n b) false w' (HR5.out.bel (chg_none hc)) (by have := HLN.out; omega); (try rw [HLN.out] at hcon); exact hcon.mono fun e w2 ⟨v, h1, h2, h3⟩ => (by obtain ⟨A9, c9, rfl, r9⟩ := h2.form; exact ⟨_, h1, ⟨A9, c9, rfl, r9⟩, Chg.of_below h3 _⟩))
      refine RSteps.cons (fun a w' hc hp hk => ?_) ?_
      · have e68 : a.tmps.getD 68 undef = (.agg #[.slice A5 n c5, .bool false] : Value) := (rk_at hk (e := ⟨16, .data⟩) (by simp) rfl rfl rfl)
        have f68 := gd e68
        have HW := HB.out.trans ((chg_none hc).mono HB.out.size)
        obtain ⟨A2, c2, k2, r2⟩ : ∃ A c, (a.tmps.getD 70 undef) = .agg #[.slice A (trimL (longL n b)).length c, .bool false] ∧ RdC w' A c (trimL (longL n b)) := (rk_at hk (e := ⟨18, .data⟩) (by simp) rfl rfl rfl)
        exact ro_call (wanted_yes rfl rfl rfl (show _ = _ from rk_at hk (e := ⟨15, .guard⟩) (by simp) rfl rfl rfl)) rfl (by simp only [List.map_toArray, List.map_cons, List.map_nil, Act.eval, e68, k2] <;> rfl) (fun _ _ => by kernel_rfl) (by have hcon := yes_of (l06trims_any A5 c5 (longL n b) false (trimL (longL n b)) false 0 A2 c2 (trimL (longL n b)) false 0 w' (fun w3 hb3 => by have := lineTrim_any A5 c5 (longL n b) false w3 ((HT.out.bel HW).bel hb3) ((HR5.out.bel (chg_none hc)).bel hb3) (by have := HLN.out; omega); rw [trimOf_yes HOK.out] at this; exact this) r2 (by rw [trim_length]; have := usedOf_le (longL n b); have := HLN.out; omega) (by rw [trim_length]; have := usedOf_le (longL n b); have := HLN.out; omega)) (by rw [eqL_self]; rfl); (try rw [HLN.out] at hcon); exact hcon)
      refine RSteps.cons (fun a w' hc hp hk => ?_) ?_
      · have e67 : a.tmps.getD 67 undef = (.bool true : Value) := (rk_at hk (e := ⟨15, .data⟩) (by simp) rfl rfl rfl)
        have f67 := gd e67
        have e71 : a.tmps.getD 71 undef = (.bool true : Value) := (rk_at hk (e := ⟨19, .data⟩) (by simp) rfl rfl rfl)
        have f71 := gd e71
        exact ro_pure (v := .bool true) (wanted_none rfl) (by simp [execOp, Act.eval, e67, f67, e71, f71, go_sem]) rfl (Chg.refl _ _)
      refine RSteps.cons (fun a w' hc hp hk => ?_) ?_
      · have e72 : a.tmps.getD 72 undef = (.bool true : Value) := (rk_at hk (e := ⟨20, .data⟩) (by simp) rfl rfl rfl)
        have f72 := gd e72
        exact ro_pure (v := .bool true) (wanted_none rfl) (by simp [execOp, Act.eval, e72, f72, go_sem]) rfl (Chg.refl _ _)
      refine RSteps.cons (fun a w' hc hp hk => ?_) ?_
      · have HW := HB.out.trans ((chg_none hc).mono HB.out.size)
        exact ro_call (wanted_yes rfl rfl rfl (show _ = _ from rk_at hk (e := ⟨21, .guard⟩) (by simp) rfl rfl rfl)) rfl (by simp only [List.map_toArray, List.map_cons, List.map_nil, Act.eval] <;> rfl) (fun _ _ => by kernel_rfl) (by have hcon := yes_of (l06known_any w' (HT.out.bel HW)) rfl; (try rw [HLN.out] at hcon); exact hcon)
      refine RSteps.cons (fun a w' hc hp hk => ?_) ?_
      · have e73 : a.tmps.getD 73 undef = (.bool true : Value) := (rk_at hk (e := ⟨21, .data⟩) (by simp) rfl rfl rfl)
        have f73 := gd e73
        have e74 : a.tmps.getD 74 undef = (.bool true : Value) := (rk_at hk (e := ⟨22, .data⟩) (by simp) rfl rfl rfl)
        have f74 := gd e74
        exact ro_pure (v := .bool true) (wanted_none rfl) (by simp [execOp, Act.eval, e73, f73, e74, f74, go_sem]) rfl (Chg.refl _ _)
      refine RSteps.cons (fun a w' hc hp hk => ?_) ?_
      · have e75 : a.tmps.getD 75 undef = (.bool true : Value) := (rk_at hk (e := ⟨23, .data⟩) (by simp) rfl rfl rfl)
        have f75 := gd e75
        exact ro_pure (v := .bool true) (wanted_none rfl) (by simp [execOp, Act.eval, e75, f75, go_sem]) rfl (Chg.refl _ _)
      exact RSteps.nil
    · intro vs wz hc hv
      have q : vs 24 = .bool true := hv 24 (by decide) rfl
      have HC := Lib.hid (chg_none hc)
      clear hc hv
      simp only [putL, Act.put, Nat.zero_add, Nat.reduceAdd, q, List.setIfInBounds_toArray, List.set_cons_succ, List.set_cons_zero]
      clear q
      go_wp2_with fail
      go_ret
      exact ⟨rfl, HB.out.trans (HC.out.mono HB.out.size)⟩

set_option maxHeartbeats 4000000 in
theorem l06LineLongs_any (x : Int) (b : Bool) (w : World) (ht : Tabs w) (bd : -9223372036854775808 ≤ x ∧ x ≤ 9223372036854775807) : Calls Tryd.prog 12 #[.int .i64 x, .bool b] w fun e w' => e = .returned (.bool true) ∧ Below w.heap.size w w' := by
  by_cases h : 998 ≤ x ∧ x ≤ 1002
  · obtain ⟨n, rfl⟩ : ∃ n : Nat, x = n := ⟨x.toNat, by omega⟩
    cases b
    · exact longs_false n (by omega) (by omega) w ht
    · exact longs_true n (by omega) (by omega) w ht
  · have HT := Lib.hid ht
    clear ht
    rcases (show x < 998 ∨ (¬ x < 998 ∧ 1002 < x) by omega) with h1 | ⟨h0, h1⟩
    · go_enter Tryd.func12, Tryd.ntmps12
      go_wp2_with fail
      refine (l06known_any _ HT.out).mono ?_
      rintro e w1 ⟨rfl, hb1⟩
      go_wp2_with fail
      go_ret
      exact ⟨rfl, hb1⟩
    · go_enter Tryd.func12, Tryd.ntmps12
      go_wp2_with fail
      refine (l06known_any _ HT.out).mono ?_
      rintro e w1 ⟨rfl, hb1⟩
      go_wp2_with fail
      go_ret
      exact ⟨rfl, hb1⟩
end Go.Proofs.YtmfhepjmmpnkaaaDoor
