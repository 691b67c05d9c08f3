/-
  LineHolds: the walk.
-/
import Derived.Test.YtmfhepjmmpnkaaaDoorLinePuts
set_option linter.unusedSimpArgs false
set_option linter.unusedVariables false
namespace Go.Proofs.YtmfhepjmmpnkaaaDoor
open Go.RowKit

theorem lineOk_row {l : List Cell} (h : lineOk l = true) : rowOk l = true := by simp [lineOk] at h; exact h.2
theorem lineOk_len {l : List Cell} (h : lineOk l = true) : l.length ≤ 1000 := by simp [lineOk] at h; exact h.1
theorem lineOk_of {l : List Cell} (h : rowOk l = true) (hn : l.length ≤ 1000) : lineOk l = true := by simp [lineOk, h, hn]
theorem trim_is {l t : List Cell} (hv : lineOk l = true) (hq : trimL l = t) (A : Option Addr) (c : Nat) (s : Bool) (w : World) (ht : Tabs w) (ha : RdC w A c l) (hn : l.length ≤ 1000000) :
    Calls Tryd.prog 58 #[.agg #[.slice A l.length c, .bool s]] w (LineEnd t s 0 w) := by
  have h := lineTrim_any A c l s w ht ha hn
  rw [show trimOf l s = (trimL l, s, 0) by simp [trimOf, hv], hq] at h
  exact h
theorem fit_is {l t : List Cell} {n : Nat} {k : Int} (hv : lineOk l = true) (hq : fitTo n l = t) (hk : k = n) (hn2 : n ≤ 1000) (A : Option Addr) (c : Nat) (s : Bool) (w : World) (ht : Tabs w) (ha : RdC w A c l) (hn : l.length ≤ 100000) :
    Calls Tryd.prog 60 #[.agg #[.slice A l.length c, .bool s], .int .i64 k] w (LineEnd t s 0 w) := by
  rw [hk, ← hq]
  exact lineFit_yes A c l s n hn2 w ht ha hn hv
theorem put_is {l ds t : List Cell} {s s' : Bool} {e : Int} {k : Int} (hq : putOf k ds l s = (t, s', e)) (hbd : -9223372036854775808 ≤ k ∧ k ≤ 9223372036854775807) (A : Option Addr) (c : Nat) (A2 : Option Addr) (c2 : Nat) (w : World) (ht : Tabs w) (ha : RdC w A c l) (hd : RdC w A2 c2 ds) (hn : l.length ≤ 1000) (hn2 : ds.length ≤ 1000) :
    Calls Tryd.prog 63 #[.agg #[.slice A l.length c, .bool s], .int .i64 k, .slice A2 ds.length c2] w (LineEnd t s' e w) := by
  have h := linePut_any A c l s k hbd A2 c2 ds w ht ha hd hn hn2
  rw [hq] at h
  exact h
theorem putOf_yes {l ds : List Cell} {s : Bool} {k : Nat} (hv : lineOk l = true) (hd : rowOk ds = true) (hk : k + ds.length ≤ l.length) : putOf k ds l s = (putAt k ds l, s, 0) := by
  unfold putOf
  rw [if_pos ⟨hv, hd⟩, if_pos ⟨by omega, by omega⟩]
  rfl
theorem putOf_no {l ds : List Cell} {s : Bool} {n : Int} (h : ¬ (rowOk ds = true ∧ 0 ≤ n ∧ n + ds.length ≤ l.length)) : ∃ e : Int, putOf n ds l s = ([], false, e) ∧ (e != 0) = true := by
  unfold putOf
  split
  · rename_i h1
    rw [if_neg (fun h2 => h ⟨h1.2, h2⟩)]
    exact ⟨3, rfl, rfl⟩
  · exact ⟨2, rfl, rfl⟩
theorem put_mid {l ds : List Cell} {k : Nat} (hk : k + ds.length ≤ l.length) : ((putAt k ds l).drop k).take ds.length = ds := by
  have hl : (fixL (l.take k)).length = k := by simp [fixL_length]; omega
  unfold putAt
  rw [List.append_assoc, List.drop_append_of_le_length (by omega), List.drop_of_length_le (by omega)]
  simp
theorem run_mid (w : World) (A : Option Addr) (n c k j : Nat) (hk : k ≤ j) (hj : j ≤ n) (hc : n ≤ c) (hA : A = none → c = 0) (h63 : n ≤ 9223372036854775807) : (Instr.slice 43 (.slice A n c) (some (.int .i64 k)) (some (.int .i64 j)) none).run Tryd.prog w = .ok (.slice (tailA A c k) (j - k) (c - k)) w := by
  cases A with
  | none =>
    obtain rfl := hA rfl
    obtain rfl : n = 0 := by omega
    obtain rfl : j = 0 := by omega
    obtain rfl : k = 0 := by omega
    simp [go_sem, tailA]
  | some ad =>
    have h1 : j ≤ c := by omega
    simp [go_sem, hk, hj, h1, tailA]
set_option maxRecDepth 100000 in
set_option maxHeartbeats 4000000 in
theorem holds_main (A : Option Addr) (c : Nat) (l : List Cell) (s : Bool) (n : Int) (A2 : Option Addr) (c2 : Nat) (ds : List Cell) (m : Nat) (w : World) (ht : Tabs w) (ha : RdC w A c l) (hd : RdC w A2 c2 ds) (bd : -9223372036854775808 ≤ n ∧ n ≤ 9223372036854775807) (h0 : l.length ≤ 40) (h2 : ds.length ≤ 40) (h3 : m ≤ 100) (hv : lineOk l = true) :
    Calls Tryd.prog 13 #[.agg #[.slice A l.length c, .bool s], .int .i64 n, .slice A2 ds.length c2, .int .u8 m] w fun e w' => e = .returned (.bool true) ∧ Below w.heap.size w w' := by
  have HT := Lib.hid ht
  have HA := Lib.hid ha
  have HD := Lib.hid hd
  have HV := Lib.hid hv
  clear ht ha hd hv
  have hrow := lineOk_row HV.out
  obtain ⟨t, ht1⟩ : ∃ t, trimL l = t := ⟨_, rfl⟩
  obtain ⟨g, hg1⟩ : ∃ g, l ++ empties m = g := ⟨_, rfl⟩
  have HT1 := Lib.hid ht1
  have HT2 := Lib.hid (show trimL t = t by rw [← ht1, trim_trim])
  have HTL := Lib.hid (show t.length ≤ 40 by rw [← ht1, trim_length]; have := usedOf_le l; omega)
  have HTU := Lib.hid (show usedOf l = t.length by rw [← ht1, trim_length])
  have HOT := Lib.hid (show lineOk t = true from lineOk_of (by rw [← ht1]; exact trim_row hrow) (by have := HTL.out; omega))
  have HGL := Lib.hid (show g.length = l.length + m by rw [← hg1]; simp [emp_len])
  have HOG := Lib.hid (show lineOk g = true from lineOk_of (by rw [← hg1]; exact row_append hrow (row_empties m)) (by have := HGL.out; omega))
  have HF1 := Lib.hid (fit_len hrow)
  have HF2 := Lib.hid (show fitTo (l.length + m) l = g by rw [← hg1]; exact fit_wide hrow m)
  have HT3 := Lib.hid (show trimL g = t by rw [← hg1, trim_wide, ht1])
  clear hrow ht1 hg1
  go_enter Tryd.func13, Tryd.ntmps13
  go_wp2_with fail
  refine (small_yes h0 _ _ _ _).mono ?_
  rintro e w1 ⟨rfl, hb⟩
  obtain ⟨k4, hb1⟩ := box1 hb
  have K4 := Lib.hid k4
  have HB := Lib.hid hb1
  clear hb k4 hb1
  generalize w.heap.size = b4 at K4 ⊢
  obtain ⟨hx4, hf4, hz4⟩ := K4.out.facts
  go_wp2_with fail
  refine (lvalid_is HV.out A c s _ (HT.out.bel HB.out) (HA.out.bel HB.out) (by omega)).mono ?_
  rintro e w2 ⟨rfl, hb2⟩
  have K4 := Lib.hid (K4.out.bel hb2)
  have HB := Lib.hid (HB.out.trans (hb2.mono HB.out.size))
  clear hb2 hx4 hf4 hz4
  obtain ⟨hx4, hf4, hz4⟩ := K4.out.facts
  go_wp2_with fail
  refine (trim_is HV.out HT1.out A c s _ (HT.out.bel HB.out) (HA.out.bel HB.out) (by omega)).mono ?_
  rintro e w9 ⟨v9, rfl, ho9, hb9⟩
  obtain ⟨A9, c9, rfl, hr9⟩ := ho9.form
  have hbb9 := hb9.trans ((belA w9 (.cells #[.slice A9 t.length c9, .bool s] 59)).mono hb9.size)
  have K9 := Lib.hid (Blk.new w9 59 #[.slice A9 t.length c9, .bool s])
  have R9 := Lib.hid (hr9.bel (belA w9 (.cells #[.slice A9 t.length c9, .bool s] 59)))
  have K4 := Lib.hid (K4.out.bel hbb9)
  have HB := Lib.hid (HB.out.trans (hbb9.mono HB.out.size))
  clear ho9 hb9 hr9 hbb9 hx4 hf4 hz4
  go_upto_region 6 with (fail)
  generalize w9.alloc (.cells #[.slice A9 t.length c9, .bool s] 59) = W9 at K9 R9 K4 HB ⊢
  generalize w9.heap.size = b9 at K9 ⊢
  obtain ⟨hx9, hf9, hz9⟩ := K9.out.facts
  go_wp2_with fail
  refine (trim_is HOT.out HT2.out A9 c9 s _ (HT.out.bel HB.out) R9.out (by have := HTL.out; omega)).mono ?_
  rintro e w11 ⟨v11, rfl, ho11, hb11⟩
  obtain ⟨A11, c11, rfl, hr11⟩ := ho11.form
  have hbb11 := hb11.trans ((belA w11 (.cells #[.slice A11 t.length c11, .bool s] 59)).mono hb11.size)
  have K11 := Lib.hid (Blk.new w11 59 #[.slice A11 t.length c11, .bool s])
  have R11 := Lib.hid (hr11.bel (belA w11 (.cells #[.slice A11 t.length c11, .bool s] 59)))
  have K4 := Lib.hid (K4.out.bel hbb11)
  have K9 := Lib.hid (K9.out.bel hbb11)
  have R9 := Lib.hid (R9.out.bel hbb11)
  have HB := Lib.hid (HB.out.trans (hbb11.mono HB.out.size))
  clear ho11 hb11 hr11 hbb11 hx9 hf9 hz9
  go_upto_region 7 with (fail)
  generalize w11.alloc (.cells #[.slice A11 t.length c11, .bool s] 59) = W11 at K11 R11 K4 K9 R9 HB ⊢
  generalize w11.heap.size = b11 at K11 ⊢
  obtain ⟨hx4, hf4, hz4⟩ := K4.out.facts
  go_wp2_with fail
  refine (fit_is HV.out HF1.out rfl (by omega) A c s _ (HT.out.bel HB.out) (HA.out.bel HB.out) (by omega)).mono ?_
  rintro e w13 ⟨v13, rfl, ho13, hb13⟩
  obtain ⟨A13, c13, rfl, hr13⟩ := ho13.form
  have hbb13 := hb13.trans ((belA w13 (.cells #[.slice A13 l.length c13, .bool s] 59)).mono hb13.size)
  have K13 := Lib.hid (Blk.new w13 59 #[.slice A13 l.length c13, .bool s])
  have R13 := Lib.hid (hr13.bel (belA w13 (.cells #[.slice A13 l.length c13, .bool s] 59)))
  have K4 := Lib.hid (K4.out.bel hbb13)
  have K9 := Lib.hid (K9.out.bel hbb13)
  have R9 := Lib.hid (R9.out.bel hbb13)
  have K11 := Lib.hid (K11.out.bel hbb13)
  have R11 := Lib.hid (R11.out.bel hbb13)
  have HB := Lib.hid (HB.out.trans (hbb13.mono HB.out.size))
  clear ho13 hb13 hr13 hbb13 hx4 hf4 hz4
  go_upto_region 8 with (fail)
  generalize w13.alloc (.cells #[.slice A13 l.length c13, .bool s] 59) = W13 at K13 R13 K4 K9 R9 K11 R11 HB ⊢
  generalize w13.heap.size = b13 at K13 ⊢
  obtain ⟨hx4, hf4, hz4⟩ := K4.out.facts
  go_wp2_with fail
  refine (fit_is HV.out HF2.out (by omega) (by omega) A c s _ (HT.out.bel HB.out) (HA.out.bel HB.out) (by omega)).mono ?_
  rintro e w15 ⟨v15, rfl, ho15, hb15⟩
  obtain ⟨A15, c15, rfl, hr15⟩ := ho15.form
  have hbb15 := hb15.trans ((belA w15 (.cells #[.slice A15 g.length c15, .bool s] 59)).mono hb15.size)
  have K15 := Lib.hid (Blk.new w15 59 #[.slice A15 g.length c15, .bool s])
  have R15 := Lib.hid (hr15.bel (belA w15 (.cells #[.slice A15 g.length c15, .bool s] 59)))
  have K4 := Lib.hid (K4.out.bel hbb15)
  have K9 := Lib.hid (K9.out.bel hbb15)
  have R9 := Lib.hid (R9.out.bel hbb15)
  have K11 := Lib.hid (K11.out.bel hbb15)
  have R11 := Lib.hid (R11.out.bel hbb15)
  have K13 := Lib.hid (K13.out.bel hbb15)
  have R13 := Lib.hid (R13.out.bel hbb15)
  have HB := Lib.hid (HB.out.trans (hbb15.mono HB.out.size))
  clear ho15 hb15 hr15 hbb15 hx4 hf4 hz4
  go_upto_region 9 with (fail)
  generalize w15.alloc (.cells #[.slice A15 g.length c15, .bool s] 59) = W15 at K15 R15 K4 K9 R9 K11 R11 K13 R13 HB ⊢
  generalize w15.heap.size = b15 at K15 ⊢
  obtain ⟨hx4, hf4, hz4⟩ := K4.out.facts
  obtain ⟨hx9, hf9, hz9⟩ := K9.out.facts
  go_wp2_with fail
  refine (lvalid_is HOT.out A9 c9 s _ (HT.out.bel HB.out) R9.out (by have := HTL.out; omega)).mono ?_
  rintro e w20 ⟨rfl, hb20⟩
  have K4 := Lib.hid (K4.out.bel hb20)
  have K9 := Lib.hid (K9.out.bel hb20)
  have R9 := Lib.hid (R9.out.bel hb20)
  have K11 := Lib.hid (K11.out.bel hb20)
  have R11 := Lib.hid (R11.out.bel hb20)
  have K13 := Lib.hid (K13.out.bel hb20)
  have R13 := Lib.hid (R13.out.bel hb20)
  have K15 := Lib.hid (K15.out.bel hb20)
  have R15 := Lib.hid (R15.out.bel hb20)
  have HB := Lib.hid (HB.out.trans (hb20.mono HB.out.size))
  clear hb20 hx4 hf4 hz4 hx9 hf9 hz9
  obtain ⟨hx15, hf15, hz15⟩ := K15.out.facts
  go_wp2_with fail
  refine (lvalid_is HOG.out A15 c15 s _ (HT.out.bel HB.out) R15.out (by have := HGL.out; omega)).mono ?_
  rintro e w21 ⟨rfl, hb21⟩
  have K4 := Lib.hid (K4.out.bel hb21)
  have K9 := Lib.hid (K9.out.bel hb21)
  have R9 := Lib.hid (R9.out.bel hb21)
  have K11 := Lib.hid (K11.out.bel hb21)
  have R11 := Lib.hid (R11.out.bel hb21)
  have K13 := Lib.hid (K13.out.bel hb21)
  have R13 := Lib.hid (R13.out.bel hb21)
  have K15 := Lib.hid (K15.out.bel hb21)
  have R15 := Lib.hid (R15.out.bel hb21)
  have HB := Lib.hid (HB.out.trans (hb21.mono HB.out.size))
  clear hb21 hx15 hf15 hz15
  obtain ⟨hx9, hf9, hz9⟩ := K9.out.facts
  obtain ⟨hx11, hf11, hz11⟩ := K11.out.facts
  go_wp2_with fail
  refine (tt_of (r06Same_any A9 A11 c9 c11 t t s s _ R9.out R11.out (by have := HTL.out; omega) (by have := HTL.out; omega)) (eqL_self _ _)).mono ?_
  rintro e w22 ⟨rfl, hb22⟩
  have K4 := Lib.hid (K4.out.bel hb22)
  have K9 := Lib.hid (K9.out.bel hb22)
  have R9 := Lib.hid (R9.out.bel hb22)
  have K11 := Lib.hid (K11.out.bel hb22)
  have R11 := Lib.hid (R11.out.bel hb22)
  have K13 := Lib.hid (K13.out.bel hb22)
  have R13 := Lib.hid (R13.out.bel hb22)
  have K15 := Lib.hid (K15.out.bel hb22)
  have R15 := Lib.hid (R15.out.bel hb22)
  have HB := Lib.hid (HB.out.trans (hb22.mono HB.out.size))
  clear hb22 hx9 hf9 hz9 hx11 hf11 hz11
  obtain ⟨hx13, hf13, hz13⟩ := K13.out.facts
  obtain ⟨hx4, hf4, hz4⟩ := K4.out.facts
  go_wp2_with fail
  refine (tt_of (r06Same_any A13 A c13 c l l s s _ R13.out (HA.out.bel HB.out) (by omega) (by omega)) (eqL_self _ _)).mono ?_
  rintro e w23 ⟨rfl, hb23⟩
  have K4 := Lib.hid (K4.out.bel hb23)
  have K9 := Lib.hid (K9.out.bel hb23)
  have R9 := Lib.hid (R9.out.bel hb23)
  have K11 := Lib.hid (K11.out.bel hb23)
  have R11 := Lib.hid (R11.out.bel hb23)
  have K13 := Lib.hid (K13.out.bel hb23)
  have R13 := Lib.hid (R13.out.bel hb23)
  have K15 := Lib.hid (K15.out.bel hb23)
  have R15 := Lib.hid (R15.out.bel hb23)
  have HB := Lib.hid (HB.out.trans (hb23.mono HB.out.size))
  clear hb23 hx13 hf13 hz13 hx4 hf4 hz4
  obtain ⟨hx15, hf15, hz15⟩ := K15.out.facts
  obtain ⟨hx4, hf4, hz4⟩ := K4.out.facts
  have qg : (g.length : Int) = (l.length : Int) + (m : Int) := by have := HGL.out; omega
  have qg2 : ((g.length : Int) != (l.length : Int) + (m : Int)) = false := by rw [qg]; simp
  go_upto_region 11 with (fail)
  clear qg qg2 hx15 hf15 hz15 hx4 hf4 hz4
  have q1 : ((t.length : Int) != (t.length : Int)) = false := by simp
  refine wp_region_multi (by kernel_rfl) (by kernel_rfl) (by kernel_rfl) (fun i => none) (fun i k h => ?_) (noBlk) [Sr.val (.agg #[.slice A9 t.length c9, .bool s]), Sr.val (.string (textsOf t)), Sr.val (.agg #[.slice A l.length c, .bool s]), Sr.val (.string (textsOf t)), Sr.val (.bool false), Sr.val (.bool false), Sr.val (.agg #[.slice A15 g.length c15, .bool s]), Sr.val (.string (textsOf t)), Sr.val (.agg #[.slice A l.length c, .bool s]), Sr.val (.string (textsOf t)), Sr.val (.bool false), Sr.val (.bool false), Sr.val (.bool false), Sr.val (.agg #[.slice A l.length c, .bool s]), Sr.val (.int .i64 t.length), Sr.val (.pointer (some ⟨b9, 0, none⟩)), Sr.val (.slice A9 t.length c9), Sr.val (.int .i64 t.length), Sr.val (.bool false), Sr.val (.bool false)] [] [] (fun p hp => by cases hp) (fun p hp => by cases hp) (fun p hp => by cases hp) (fun p hp => by cases hp) ?_ ?_ ?_
  · cases h
  · intro q hq
    cases hq
  · refine RSteps.cons (fun a w' hc hp hk => ?_) ?_
    · have e9 : a.tmps.getD 9 undef = (.pointer (some ⟨b9, 0, none⟩) : Value) := (rk_same hk 9 (by kernel_rfl)).trans rfl
      have f9 := gd e9
      have hx := (K9.out.bel (chg_none hc)).cell
      exact ro_pure (v := .agg #[.slice A9 t.length c9, .bool s]) (wanted_none rfl) (by simp [execOp, Act.eval, e9, f9, go_sem, hx]) rfl (Chg.refl _ _)
    refine RSteps.cons (fun a w' hc hp hk => ?_) ?_
    · have e112 : a.tmps.getD 112 undef = (.agg #[.slice A9 t.length c9, .bool s] : Value) := (rk_at hk (e := ⟨0, .data⟩) (by simp) rfl rfl rfl)
      have f112 := gd e112
      exact ro_call (wanted_none rfl) rfl (by simp only [List.map_toArray, List.map_cons, List.map_nil, Act.eval, e112] <;> rfl) (fun _ _ => by kernel_rfl) (by have hcon := lineText_any A9 c9 t s w' (R9.out.bel (chg_none hc)) (by have := HTL.out; omega); rw [HT2.out] at hcon; exact hcon.mono fun e w2 ⟨h1, h2⟩ => ⟨_, h1, rfl, Chg.of_below h2 _⟩)
    refine RSteps.cons (fun a w' hc hp hk => ?_) ?_
    · have e4 : a.tmps.getD 4 undef = (.pointer (some ⟨b4, 0, none⟩) : Value) := (rk_same hk 4 (by kernel_rfl)).trans rfl
      have f4 := gd e4
      have hx := (K4.out.bel (chg_none hc)).cell
      exact ro_pure (v := .agg #[.slice A l.length c, .bool s]) (wanted_none rfl) (by simp [execOp, Act.eval, e4, f4, go_sem, hx]) rfl (Chg.refl _ _)
    refine RSteps.cons (fun a w' hc hp hk => ?_) ?_
    · have e114 : a.tmps.getD 114 undef = (.agg #[.slice A l.length c, .bool s] : Value) := (rk_at hk (e := ⟨2, .data⟩) (by simp) rfl rfl rfl)
      have f114 := gd e114
      exact ro_call (wanted_none rfl) rfl (by simp only [List.map_toArray, List.map_cons, List.map_nil, Act.eval, e114] <;> rfl) (fun _ _ => by kernel_rfl) (by have hcon := lineText_any A c l s w' ((HA.out.bel HB.out).bel (chg_none hc)) (by omega); rw [HT1.out] at hcon; exact hcon.mono fun e w2 ⟨h1, h2⟩ => ⟨_, h1, rfl, Chg.of_below h2 _⟩)
    refine RSteps.cons (fun a w' hc hp hk => ?_) ?_
    · have e113 : a.tmps.getD 113 undef = (.string (textsOf t) : Value) := (rk_at hk (e := ⟨1, .data⟩) (by simp) rfl rfl rfl)
      have f113 := gd e113
      have e115 : a.tmps.getD 115 undef = (.string (textsOf t) : Value) := (rk_at hk (e := ⟨3, .data⟩) (by simp) rfl rfl rfl)
      have f115 := gd e115
      exact ro_pure (v := .bool false) (wanted_none rfl) (by simp [execOp, Act.eval, e113, f113, e115, f115, go_sem, q1]) rfl (Chg.refl _ _)
    refine RSteps.cons (fun a w' hc hp hk => ?_) ?_
    · have e116 : a.tmps.getD 116 undef = (.bool false : Value) := (rk_at hk (e := ⟨4, .data⟩) (by simp) rfl rfl rfl)
      have f116 := gd e116
      exact ro_pure (v := .bool false) (wanted_none rfl) (by simp [execOp, Act.eval, e116, f116, go_sem]) rfl (Chg.refl _ _)
    refine RSteps.cons (fun a w' hc hp hk => ?_) ?_
    · have e15 : a.tmps.getD 15 undef = (.pointer (some ⟨b15, 0, none⟩) : Value) := (rk_same hk 15 (by kernel_rfl)).trans rfl
      have f15 := gd e15
      have hx := (K15.out.bel (chg_none hc)).cell
      exact ro_pure (v := .agg #[.slice A15 g.length c15, .bool s]) (wanted_yes rfl rfl rfl (show _ = _ from rk_at hk (e := ⟨5, .guard⟩) (by simp) rfl rfl rfl)) (by simp [execOp, Act.eval, e15, f15, go_sem, hx]) rfl (Chg.refl _ _)
    refine RSteps.cons (fun a w' hc hp hk => ?_) ?_
    · have e118 : a.tmps.getD 118 undef = (.agg #[.slice A15 g.length c15, .bool s] : Value) := (rk_at hk (e := ⟨6, .data⟩) (by simp) rfl rfl rfl)
      have f118 := gd e118
      exact ro_call (wanted_yes rfl rfl rfl (show _ = _ from rk_at hk (e := ⟨5, .guard⟩) (by simp) rfl rfl rfl)) rfl (by simp only [List.map_toArray, List.map_cons, List.map_nil, Act.eval, e118] <;> rfl) (fun _ _ => by kernel_rfl) (by have hcon := lineText_any A15 c15 g s w' (R15.out.bel (chg_none hc)) (by have := HGL.out; omega); rw [HT3.out] at hcon; exact hcon.mono fun e w2 ⟨h1, h2⟩ => ⟨_, h1, rfl, Chg.of_below h2 _⟩)
    refine RSteps.cons (fun a w' hc hp hk => ?_) ?_
    · have e4 : a.tmps.getD 4 undef = (.pointer (some ⟨b4, 0, none⟩) : Value) := (rk_same hk 4 (by kernel_rfl)).trans rfl
      have f4 := gd e4
      have hx := (K4.out.bel (chg_none hc)).cell
      exact ro_pure (v := .agg #[.slice A l.length c, .bool s]) (wanted_yes rfl rfl rfl (show _ = _ from rk_at hk (e := ⟨5, .guard⟩) (by simp) rfl rfl rfl)) (by simp [execOp, Act.eval, e4, f4, go_sem, hx]) rfl (Chg.refl _ _)
    refine RSteps.cons (fun a w' hc hp hk => ?_) ?_
    · have e120 : a.tmps.getD 120 undef = (.agg #[.slice A l.length c, .bool s] : Value) := (rk_at hk (e := ⟨8, .data⟩) (by simp) rfl rfl rfl)
      have f120 := gd e120
      exact ro_call (wanted_yes rfl rfl rfl (show _ = _ from rk_at hk (e := ⟨5, .guard⟩) (by simp) rfl rfl rfl)) rfl (by simp only [List.map_toArray, List.map_cons, List.map_nil, Act.eval, e120] <;> rfl) (fun _ _ => by kernel_rfl) (by have hcon := lineText_any A c l s w' ((HA.out.bel HB.out).bel (chg_none hc)) (by omega); rw [HT1.out] at hcon; exact hcon.mono fun e w2 ⟨h1, h2⟩ => ⟨_, h1, rfl, Chg.of_below h2 _⟩)
    refine RSteps.cons (fun a w' hc hp hk => ?_) ?_
    · have e119 : a.tmps.getD 119 undef = (.string (textsOf t) : Value) := (rk_at hk (e := ⟨7, .data⟩) (by simp) rfl rfl rfl)
      have f119 := gd e119
      have e121 : a.tmps.getD 121 undef = (.string (textsOf t) : Value) := (rk_at hk (e := ⟨9, .data⟩) (by simp) rfl rfl rfl)
      have f121 := gd e121
      exact ro_pure (v := .bool false) (wanted_yes rfl rfl rfl (show _ = _ from rk_at hk (e := ⟨5, .guard⟩) (by simp) rfl rfl rfl)) (by simp [execOp, Act.eval, e119, f119, e121, f121, go_sem, q1]) rfl (Chg.refl _ _)
    refine RSteps.cons (fun a w' hc hp hk => ?_) ?_
    · have e117 : a.tmps.getD 117 undef = (.bool false : Value) := (rk_at hk (e := ⟨5, .data⟩) (by simp) rfl rfl rfl)
      have f117 := gd e117
      have e122 : a.tmps.getD 122 undef = (.bool false : Value) := (rk_at hk (e := ⟨10, .data⟩) (by simp) rfl rfl rfl)
      have f122 := gd e122
      exact ro_pure (v := .bool false) (wanted_none rfl) (by simp [execOp, Act.eval, e117, f117, e122, f122, go_sem]) rfl (Chg.refl _ _)
    refine RSteps.cons (fun a w' hc hp hk => ?_) ?_
    · have e123 : a.tmps.getD 123 undef = (.bool false : Value) := (rk_at hk (e := ⟨11, .data⟩) (by simp) rfl rfl rfl)
      have f123 := gd e123
      exact ro_pure (v := .bool false) (wanted_none rfl) (by simp [execOp, Act.eval, e123, f123, go_sem]) rfl (Chg.refl _ _)
    refine RSteps.cons (fun a w' hc hp hk => ?_) ?_
    · have e4 : a.tmps.getD 4 undef = (.pointer (some ⟨b4, 0, none⟩) : Value) := (rk_same hk 4 (by kernel_rfl)).trans rfl
      have f4 := gd e4
      have hx := (K4.out.bel (chg_none hc)).cell
      exact ro_pure (v := .agg #[.slice A l.length c, .bool s]) (wanted_yes rfl rfl rfl (show _ = _ from rk_at hk (e := ⟨12, .guard⟩) (by simp) rfl rfl rfl)) (by simp [execOp, Act.eval, e4, f4, go_sem, hx]) rfl (Chg.refl _ _)
    refine RSteps.cons (fun a w' hc hp hk => ?_) ?_
    · have e125 : a.tmps.getD 125 undef = (.agg #[.slice A l.length c, .bool s] : Value) := (rk_at hk (e := ⟨13, .data⟩) (by simp) rfl rfl rfl)
      have f125 := gd e125
      exact ro_call (wanted_yes rfl rfl rfl (show _ = _ from rk_at hk (e := ⟨12, .guard⟩) (by simp) rfl rfl rfl)) rfl (by simp only [List.map_toArray, List.map_cons, List.map_nil, Act.eval, e125] <;> rfl) (fun _ _ => by kernel_rfl) (by have hcon := lineUsed_any A c l s w' ((HA.out.bel HB.out).bel (chg_none hc)) (by omega); rw [HTU.out] at hcon; exact hcon.mono fun e w2 ⟨h1, h2⟩ => ⟨_, h1, rfl, Chg.of_below h2 _⟩)
    refine RSteps.cons (fun a w' hc hp hk => ?_) ?_
    · have e9 : a.tmps.getD 9 undef = (.pointer (some ⟨b9, 0, none⟩) : Value) := (rk_same hk 9 (by kernel_rfl)).trans rfl
      have f9 := gd e9
      exact ro_pure (v := .pointer (some ⟨b9, 0, none⟩)) (wanted_yes rfl rfl rfl (show _ = _ from rk_at hk (e := ⟨12, .guard⟩) (by simp) rfl rfl rfl)) (by simp [execOp, Act.eval, e9, f9, go_sem]) rfl (Chg.refl _ _)
    refine RSteps.cons (fun a w' hc hp hk => ?_) ?_
    · have e127 : a.tmps.getD 127 undef = (.pointer (some ⟨b9, 0, none⟩) : Value) := (rk_at hk (e := ⟨15, .data⟩) (by simp) rfl rfl rfl)
      have f127 := gd e127
      have hx := (K9.out.bel (chg_none hc)).cell
      exact ro_pure (v := .slice A9 t.length c9) (wanted_yes rfl rfl rfl (show _ = _ from rk_at hk (e := ⟨12, .guard⟩) (by simp) rfl rfl rfl)) (by simp [execOp, Act.eval, e127, f127, go_sem, hx]) rfl (Chg.refl _ _)
    refine RSteps.cons (fun a w' hc hp hk => ?_) ?_
    · have e128 : a.tmps.getD 128 undef = (.slice A9 t.length c9 : Value) := (rk_at hk (e := ⟨16, .data⟩) (by simp) rfl rfl rfl)
      have f128 := gd e128
      exact ro_pure (v := .int .i64 t.length) (wanted_yes rfl rfl rfl (show _ = _ from rk_at hk (e := ⟨12, .guard⟩) (by simp) rfl rfl rfl)) (by simp [execOp, Act.eval, e128, f128, go_sem]) rfl (Chg.refl _ _)
    refine RSteps.cons (fun a w' hc hp hk => ?_) ?_
    · have e126 : a.tmps.getD 126 undef = (.int .i64 t.length : Value) := (rk_at hk (e := ⟨14, .data⟩) (by simp) rfl rfl rfl)
      have f126 := gd e126
      have e129 : a.tmps.getD 129 undef = (.int .i64 t.length : Value) := (rk_at hk (e := ⟨17, .data⟩) (by simp) rfl rfl rfl)
      have f129 := gd e129
      exact ro_pure (v := .bool false) (wanted_yes rfl rfl rfl (show _ = _ from rk_at hk (e := ⟨12, .guard⟩) (by simp) rfl rfl rfl)) (by simp [execOp, Act.eval, e126, f126, e129, f129, go_sem, q1]) rfl (Chg.refl _ _)
    refine RSteps.cons (fun a w' hc hp hk => ?_) ?_
    · have e124 : a.tmps.getD 124 undef = (.bool false : Value) := (rk_at hk (e := ⟨12, .data⟩) (by simp) rfl rfl rfl)
      have f124 := gd e124
      have e130 : a.tmps.getD 130 undef = (.bool false : Value) := (rk_at hk (e := ⟨18, .data⟩) (by simp) rfl rfl rfl)
      have f130 := gd e130
      exact ro_pure (v := .bool false) (wanted_none rfl) (by simp [execOp, Act.eval, e124, f124, e130, f130, go_sem]) rfl (Chg.refl _ _)
    exact RSteps.nil
  · intro vs wz hc hv
    have q : vs 19 = .bool false := hv 19 (by decide) rfl
    have HC := Lib.hid (chg_none hc)
    clear hc hv q1
    simp only [putL, Act.put, Nat.zero_add, Nat.reduceAdd, q, List.setIfInBounds_toArray, List.set_cons_succ, List.set_cons_zero]
    clear q
    have K4 := Lib.hid (K4.out.bel HC.out)
    have HB := Lib.hid (HB.out.trans (HC.out.mono HB.out.size))
    clear HC K9 R9 K11 R11 K13 R13 K15 R15
    obtain ⟨hx4, hf4, hz4⟩ := K4.out.facts
    go_wp2_with fail
    by_cases hp : rowOk ds = true ∧ 0 ≤ n ∧ n + ds.length ≤ l.length
    · obtain ⟨hp1, hp2, hp3⟩ := hp
      obtain ⟨k, rfl⟩ := Int.eq_ofNat_of_zero_le hp2
      have hk : k + ds.length ≤ l.length := by omega
      have HP1 := Lib.hid (putOf_yes (s := s) HV.out hp1 hk)
      have HP2 := Lib.hid (put_row (at_ := k) (lineOk_row HV.out) hp1)
      have HP3 := Lib.hid (putAt_length hk)
      have HP4 := Lib.hid (put_mid hk)
      clear hp1 hp2
      generalize putAt k ds l = p at HP1 HP2 HP3 HP4
      refine (put_is HP1.out bd A c A2 c2 _ (HT.out.bel HB.out) (HA.out.bel HB.out) (HD.out.bel HB.out) (by omega) (by omega)).mono ?_
      rintro e w17 ⟨v17, rfl, ho17, hb17⟩
      have HPO := Lib.hid (show lineOk p = true from lineOk_of HP2.out (by have := HP3.out; omega))
      obtain ⟨A17, c17, rfl, hr17⟩ := ho17.formN HP3.out
      have hbb17 := hb17.trans ((belA w17 (.cells #[.slice A17 l.length c17, .bool s] 59)).mono hb17.size)
      have K17 := Lib.hid (Blk.new w17 59 #[.slice A17 l.length c17, .bool s])
      have R17 := Lib.hid (hr17.bel (belA w17 (.cells #[.slice A17 l.length c17, .bool s] 59)))
      have K4 := Lib.hid (K4.out.bel hbb17)
      have HB := Lib.hid (HB.out.trans (hbb17.mono HB.out.size))
      clear ho17 hb17 hr17 hbb17 hx4 hf4 hz4
      go_upto_region 16 with (fail)
      generalize w17.alloc (.cells #[.slice A17 l.length c17, .bool s] 59) = W17 at K17 R17 K4 HB ⊢
      generalize w17.heap.size = b17 at K17 ⊢
      obtain ⟨hx4, hf4, hz4⟩ := K4.out.facts
      obtain ⟨hx17, hf17, hz17⟩ := K17.out.facts
      have qa : ((l.length : Int) != (l.length : Int)) = false := by simp
      have qb : decide ((l.length : Int) - (ds.length : Int) < (k : Int)) = false := by simp; omega
      have qc : ¬ ((k : Int) < 0) := by omega
      go_wp2_with fail
      refine (show Calls Tryd.prog 42 #[.agg #[.slice A17 l.length c17, .bool s]] W17 fun e w' => e = .returned (.bool true) ∧ Below W17.heap.size W17 w' by
        have hcon := lvalid_is HPO.out A17 c17 s W17 (HT.out.bel HB.out) R17.out (by have := HP3.out; omega)
        rw [HP3.out] at hcon
        exact hcon).mono ?_
      rintro e w18 ⟨rfl, hb18⟩
      have K4 := Lib.hid (K4.out.bel hb18)
      have K17 := Lib.hid (K17.out.bel hb18)
      have R17 := Lib.hid (R17.out.bel hb18)
      have HB := Lib.hid (HB.out.trans (hb18.mono HB.out.size))
      clear hb18 hx4 hf4 hz4 hx17 hf17 hz17
      obtain ⟨hx4, hf4, hz4⟩ := K4.out.facts
      obtain ⟨hx17, hf17, hz17⟩ := K17.out.facts
      have hcl : l.length ≤ c17 := by have := R17.out.1; rw [HP3.out] at this; exact this
      have hru := fun w' => run_mid w' A17 l.length c17 k (k + ds.length) (by omega) hk hcl R17.out.2.1 (by omega)
      rw [Int.natCast_add] at hru
      rw [Nat.add_sub_cancel_left] at hru
      clear hcl
      go_wp2_with fail
      refine (show Calls Tryd.prog 27 #[.slice (tailA A17 c17 k) ds.length (c17 - k), .slice A2 ds.length c2] w18 fun e w' => e = .returned (.bool true) ∧ Below w18.heap.size w18 w' by
        have hcon := tt_of (r04Same_any (tailA A17 c17 k) A2 (c17 - k) c2 ((p.drop k).take ds.length) ds w18 ((R17.out.from k (by have := HP3.out; omega)).upto ds.length) (HD.out.bel HB.out) (by simp; omega) (by omega)) (by simp [HP4.out])
        rw [HP4.out] at hcon
        exact hcon).mono ?_
      rintro e w19 ⟨rfl, hb19⟩
      have K4 := Lib.hid (K4.out.bel hb19)
      have K17 := Lib.hid (K17.out.bel hb19)
      have HB := Lib.hid (HB.out.trans (hb19.mono HB.out.size))
      clear hb19 hx4 hf4 hz4 hx17 hf17 hz17 hru
      obtain ⟨hx4, hf4, hz4⟩ := K4.out.facts
      obtain ⟨hx17, hf17, hz17⟩ := K17.out.facts
      have qs : (s == s) = true := by simp
      go_wp2_with fail
      refine (l06known_any _ (HT.out.bel HB.out)).mono ?_
      rintro e w20 ⟨rfl, hb20⟩
      go_wp2_with fail
      go_ret
      exact ⟨rfl, HB.out.trans (hb20.mono HB.out.size)⟩
    · obtain ⟨x, hx, hne⟩ := putOf_no (s := s) hp
      refine (put_is hx bd A c A2 c2 _ (HT.out.bel HB.out) (HA.out.bel HB.out) (HD.out.bel HB.out) (by omega) (by omega)).mono ?_
      rintro e w17 ⟨v17, rfl, ho17, hb17⟩
      obtain ⟨A17, c17, rfl, hr17⟩ := ho17.formN (n := 0) rfl
      have hbb17 := hb17.trans ((belA w17 (.cells #[.slice A17 0 c17, .bool false] 59)).mono hb17.size)
      have K17 := Lib.hid (Blk.new w17 59 #[.slice A17 0 c17, .bool false])
      have R17 := Lib.hid (hr17.bel (belA w17 (.cells #[.slice A17 0 c17, .bool false] 59)))
      have HB := Lib.hid (HB.out.trans (hbb17.mono HB.out.size))
      clear ho17 hb17 hr17 hbb17 hx4 hf4 hz4
      go_wp2_with fail
      refine (tt_of (r06Same_any A17 none c17 0 [] [] false false _ R17.out (RdC.nil _) (by decide) (by decide)) (eqL_self _ _)).mono ?_
      rintro e w18 ⟨rfl, hb18⟩
      have HB := Lib.hid (HB.out.trans (hb18.mono HB.out.size))
      clear hb18
      go_wp2_with fail
      refine (l06known_any _ (HT.out.bel HB.out)).mono ?_
      rintro e w19 ⟨rfl, hb19⟩
      go_wp2_with fail
      go_ret
      exact ⟨rfl, HB.out.trans (hb19.mono HB.out.size)⟩
set_option maxRecDepth 100000 in
set_option maxHeartbeats 4000000 in
theorem l06LineHolds_any (A : Option Addr) (c : Nat) (l : List Cell) (s : Bool) (n : Int) (A2 : Option Addr) (c2 : Nat) (ds : List Cell) (x : Int) (w : World) (ht : Tabs w) (ha : RdC w A c l) (hm : c ≤ maxLen) (bd : -9223372036854775808 ≤ n ∧ n ≤ 9223372036854775807) (hd : RdC w A2 c2 ds) (hm2 : c2 ≤ maxLen) (bd3 : 0 ≤ x ∧ x ≤ 255) :
    Calls Tryd.prog 13 #[.agg #[.slice A l.length c, .bool s], .int .i64 n, .slice A2 ds.length c2, .int .u8 x] w fun e w' => e = .returned (.bool true) ∧ Below w.heap.size w w' := by
  obtain ⟨m, rfl⟩ := Int.eq_ofNat_of_zero_le bd3.1
  have hlen : l.length ≤ 9223372036854775807 := by have := ha.1; unfold maxLen at hm; omega
  have hlen2 : ds.length ≤ 9223372036854775807 := by have := hd.1; unfold maxLen at hm2; omega
  clear hm hm2
  by_cases h0 : l.length ≤ 40
  case neg =>
    have HT := Lib.hid ht
    clear ht ha hd
    go_enter Tryd.func13, Tryd.ntmps13
    go_wp2_with fail
    refine (small_no h0 hlen _ _ _ _).mono ?_
    rintro e w1 ⟨rfl, hb⟩
    go_wp2_with fail
    refine (l06known_any _ (HT.out.bel (bel1 hb))).mono ?_
    rintro e w2 ⟨rfl, hb2⟩
    go_wp2_with fail
    go_ret
    exact ⟨rfl, (bel1 hb).trans (hb2.mono (bel1 hb).size)⟩
  by_cases h2 : ds.length ≤ 40
  case neg =>
    have h2 : 40 < ds.length := by omega
    have HT := Lib.hid ht
    clear ht ha hd
    go_enter Tryd.func13, Tryd.ntmps13
    go_wp2_with fail
    refine (small_yes h0 _ _ _ _).mono ?_
    rintro e w1 ⟨rfl, hb⟩
    go_wp2_with fail
    refine (l06known_any _ (HT.out.bel (bel1 hb))).mono ?_
    rintro e w2 ⟨rfl, hb2⟩
    go_wp2_with fail
    go_ret
    exact ⟨rfl, (bel1 hb).trans (hb2.mono (bel1 hb).size)⟩
  by_cases h3 : m ≤ 100
  case neg =>
    have h3 : 100 < m := by omega
    have HT := Lib.hid ht
    clear ht ha hd
    go_enter Tryd.func13, Tryd.ntmps13
    go_wp2_with fail
    refine (small_yes h0 _ _ _ _).mono ?_
    rintro e w1 ⟨rfl, hb⟩
    go_wp2_with fail
    refine (l06known_any _ (HT.out.bel (bel1 hb))).mono ?_
    rintro e w2 ⟨rfl, hb2⟩
    go_wp2_with fail
    go_ret
    exact ⟨rfl, (bel1 hb).trans (hb2.mono (bel1 hb).size)⟩
  cases hv : lineOk l
  · have HT := Lib.hid ht
    have HA := Lib.hid ha
    have HV := Lib.hid hv
    clear ht ha hd hv
    go_enter Tryd.func13, Tryd.ntmps13
    go_wp2_with fail
    refine (small_yes h0 _ _ _ _).mono ?_
    rintro e w1 ⟨rfl, hb⟩
    obtain ⟨k4, hb1⟩ := box1 hb
    have K4 := Lib.hid k4
    have HB := Lib.hid hb1
    clear hb k4 hb1
    generalize w.heap.size = b4 at K4 ⊢
    obtain ⟨hx4, hf4, hz4⟩ := K4.out.facts
    go_wp2_with fail
    refine (lvalid_is HV.out A c s _ (HT.out.bel HB.out) (HA.out.bel HB.out) (by omega)).mono ?_
    rintro e w2 ⟨rfl, hb2⟩
    have HB := Lib.hid (HB.out.trans (hb2.mono HB.out.size))
    clear hb2 hx4 hf4 hz4
    go_wp2_with fail
    refine (l06known_any _ (HT.out.bel HB.out)).mono ?_
    rintro e w3 ⟨rfl, hb3⟩
    go_wp2_with fail
    go_ret
    exact ⟨rfl, HB.out.trans (hb3.mono HB.out.size)⟩
  · exact holds_main A c l s n A2 c2 ds m w ht ha hd bd h0 h2 h3 hv
end Go.Proofs.YtmfhepjmmpnkaaaDoor
