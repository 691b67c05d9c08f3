/-
  LineFits: the walk.
-/
import Derived.Test.YtmfhepjmmpnkaaaDoorLinePuts
set_option linter.unusedSimpArgs false
set_option linter.unusedVariables false
namespace Go.Proofs.YtmfhepjmmpnkaaaDoor
open Go.RowKit

theorem trimOf_ok {l : List Cell} {s : Bool} (h : lineOk l = true) : trimOf l s = (trimL l, s, 0) := by simp [trimOf, h]
theorem trimOf_no {l : List Cell} {s : Bool} (h : lineOk l = false) : trimOf l s = ([], false, 2) := by simp [trimOf, h]

/-- The block of a slice of cells is no box of a line. -/
theorem own_noBox {w : World} {B n c g : Nat} {A : Option Addr} {cs : List Cell} {a : Array Value} (h : OwnC w B (.slice A n c) cs) (hA : A.map (·.block) = some g) (hk : Blk w g 59 a) : False := by
  cases A with
  | none => cases hA
  | some ad =>
    cases hA
    rcases h.2 with ⟨h', _⟩ | ⟨g', cap', cur, h', hb, hg, _⟩
    · simp at h'
    · simp only [Value.slice.injEq, Option.some.injEq] at h'
      obtain ⟨rfl, -, -⟩ := h'
      have := hg.symm.trans hk
      simp only [Option.some.injEq, Obj.cells.injEq] at this
      exact absurd this.2.1 (by decide)

set_option maxRecDepth 100000 in
set_option maxHeartbeats 2000000 in
theorem lineFits_bad (n : Int) (A : Option Addr) (c : Nat) (l : List Cell) (s : Bool) (w : World) (ht : Tabs w) (ha : RdC w A c l) (h0 : l.length ≤ 40) (hv : lineOk l = false) :
    Calls Tryd.prog 10 #[.agg #[.slice A l.length c, .bool s], .int .i64 n] w fun e w' => e = .returned (.bool true) ∧ Below w.heap.size w w' := by
    have HT := Lib.hid ht
    have HA := Lib.hid ha
    have HV := Lib.hid hv
    clear ht ha hv
    go_enter Tryd.func10, Tryd.ntmps10
    go_wp2_with fail
    refine (small_yes h0 _ _ _ _).mono ?_
    rintro e w1 ⟨rfl, hb⟩
    obtain ⟨k2, hb1⟩ := box1 hb
    have K21 := Lib.hid k2
    have HB1 := Lib.hid hb1
    obtain ⟨hx2, hf2, hz2⟩ := k2.facts
    clear hb k2 hb1
    go_wp2_with fail
    refine (r06Copy_any A c l s _ (HA.out.bel HB1.out) (by omega)).mono ?_
    rintro e w2 ⟨v2, rfl, ho2, hb2⟩
    obtain ⟨A5, c5, rfl, hr2⟩ := ho2.form
    have hb22 := hb2.trans ((belA w2 (.cells #[.slice A5 l.length c5, .bool s] 59)).mono hb2.size)
    have K5 := Lib.hid (Blk.new w2 59 #[.slice A5 l.length c5, .bool s])
    have R5 := Lib.hid (hr2.bel (belA w2 (.cells #[.slice A5 l.length c5, .bool s] 59)))
    have K2 := Lib.hid (K21.out.bel hb22)
    have HB := Lib.hid (HB1.out.trans (hb22.mono HB1.out.size))
    clear ho2 hb2 hr2 hb22 hx2 hf2 hz2 K21 HB1
    go_upto_region 4 with (fail)
    generalize w2.alloc (.cells #[.slice A5 l.length c5, .bool s] 59) = W at K5 R5 K2 HB ⊢
    generalize w2.heap.size = b5 at K5 ⊢
    generalize w.heap.size = b2 at K2 ⊢
    obtain ⟨hx2, hf2, hz2⟩ := K2.out.facts
    go_wp2_with fail
    refine (r6valid_is HV.out _ _ _ _ (HT.out.bel HB.out) (HA.out.bel HB.out) (by omega)).mono ?_
    rintro e w4 ⟨rfl, hb4⟩
    have K24 := Lib.hid (K2.out.bel hb4)
    have K54 := Lib.hid (K5.out.bel hb4)
    have R54 := Lib.hid (R5.out.bel hb4)
    have HB4 := Lib.hid (HB.out.trans (hb4.mono HB.out.size))
    clear hb4 hx2 hf2 hz2 K2 K5 R5 HB
    obtain ⟨hx5, hf5, hz5⟩ := K54.out.facts
    go_wp2_with fail
    refine (tt_of (l06trims_any A5 c5 l s [] false 2 none 0 [] false 2 _ (fun w5 hb5 => by have := lineTrim_any A5 c5 l s w5 ((HT.out.bel HB4.out).bel hb5) (R54.out.bel hb5) (by omega); rw [trimOf_no HV.out] at this; exact this) (RdC.nil _) (by decide) (by decide)) (by decide +kernel)).mono ?_
    rintro e w5 ⟨rfl, hb5⟩
    have K55 := Lib.hid (K54.out.bel hb5)
    have R55 := Lib.hid (R54.out.bel hb5)
    have HB5 := Lib.hid (HB4.out.trans (hb5.mono HB4.out.size))
    clear hb5 hx5 hf5 hz5
    obtain ⟨hx5, hf5, hz5⟩ := K55.out.facts
    go_wp2_with fail
    refine (tt_of (l06fits_any A5 c5 l s n [] false 2 none 0 [] false 2 _ (fun w6 hb6 => lineFit_no A5 c5 l s n w6 ((HT.out.bel HB5.out).bel hb6) (R55.out.bel hb6) (by omega) (by rw [HV.out]; simp)) (RdC.nil _) (by decide) (by decide)) (by decide +kernel)).mono ?_
    rintro e w6 ⟨rfl, hb6⟩
    have HB6 := Lib.hid (HB5.out.trans (hb6.mono HB5.out.size))
    clear hb6
    go_wp2_with fail
    refine (l06known_any _ (HT.out.bel HB6.out)).mono ?_
    rintro e w7 ⟨rfl, hb7⟩
    go_wp2_with fail
    go_ret
    exact ⟨rfl, HB6.out.trans (hb7.mono HB6.out.size)⟩

set_option maxRecDepth 100000 in
set_option maxHeartbeats 2000000 in
theorem lineFits_no (n : Int) (hcn : ¬ (0 ≤ n ∧ n ≤ 1000)) (A : Option Addr) (c : Nat) (l : List Cell) (s : Bool) (w : World) (ht : Tabs w) (ha : RdC w A c l) (h0 : l.length ≤ 40) (hv : lineOk l = true) :
    Calls Tryd.prog 10 #[.agg #[.slice A l.length c, .bool s], .int .i64 n] w fun e w' => e = .returned (.bool true) ∧ Below w.heap.size w w' := by
    have HT := Lib.hid ht
    have HA := Lib.hid ha
    have HV := Lib.hid hv
    clear ht ha hv
    go_enter Tryd.func10, Tryd.ntmps10
    go_wp2_with fail
    refine (small_yes h0 _ _ _ _).mono ?_
    rintro e w1 ⟨rfl, hb⟩
    obtain ⟨k2, hb1⟩ := box1 hb
    have K21 := Lib.hid k2
    have HB1 := Lib.hid hb1
    obtain ⟨hx2, hf2, hz2⟩ := k2.facts
    clear hb k2 hb1
    go_wp2_with fail
    refine (r06Copy_any A c l s _ (HA.out.bel HB1.out) (by omega)).mono ?_
    rintro e w2 ⟨v2, rfl, ho2, hb2⟩
    obtain ⟨A5, c5, rfl, hr2⟩ := ho2.form
    have hb22 := hb2.trans ((belA w2 (.cells #[.slice A5 l.length c5, .bool s] 59)).mono hb2.size)
    have K5 := Lib.hid (Blk.new w2 59 #[.slice A5 l.length c5, .bool s])
    have R5 := Lib.hid (hr2.bel (belA w2 (.cells #[.slice A5 l.length c5, .bool s] 59)))
    have K2 := Lib.hid (K21.out.bel hb22)
    have HB := Lib.hid (HB1.out.trans (hb22.mono HB1.out.size))
    clear ho2 hb2 hr2 hb22 hx2 hf2 hz2 K21 HB1
    go_upto_region 4 with (fail)
    generalize w2.alloc (.cells #[.slice A5 l.length c5, .bool s] 59) = W at K5 R5 K2 HB ⊢
    generalize w2.heap.size = b5 at K5 ⊢
    generalize w.heap.size = b2 at K2 ⊢
    obtain ⟨hx2, hf2, hz2⟩ := K2.out.facts
    go_wp2_with fail
    refine (r6valid_is HV.out _ _ _ _ (HT.out.bel HB.out) (HA.out.bel HB.out) (by omega)).mono ?_
    rintro e w4 ⟨rfl, hb4⟩
    have K24 := Lib.hid (K2.out.bel hb4)
    have K54 := Lib.hid (K5.out.bel hb4)
    have R54 := Lib.hid (R5.out.bel hb4)
    have HB4 := Lib.hid (HB.out.trans (hb4.mono HB.out.size))
    clear hb4 hx2 hf2 hz2 K2 K5 R5 HB
    obtain ⟨hx5, hf5, hz5⟩ := K54.out.facts
    go_wp2_with fail
    refine (lineTrim_any A5 c5 l s _ (HT.out.bel HB4.out) R54.out (by omega)).mono ?_
    rw [trimOf_ok HV.out]
    rintro e w6 ⟨v6, rfl, ho6, hb6⟩
    have HLL := Lib.hid (show (trimL l).length ≤ 40 by rw [trim_length]; have := usedOf_le l; omega)
    obtain ⟨A6, c6, rfl, hr6⟩ := ho6.form
    have hb66 := hb6.trans ((belA w6 (.cells #[.slice A6 (trimL l).length c6, .bool s] 59)).mono hb6.size)
    have K6 := Lib.hid (Blk.new w6 59 #[.slice A6 (trimL l).length c6, .bool s])
    have HO6 := Lib.hid (ho6.bel (belA w6 (.cells #[.slice A6 (trimL l).length c6, .bool s] 59)))
    have HR6 := Lib.hid (hr6.bel (belA w6 (.cells #[.slice A6 (trimL l).length c6, .bool s] 59)))
    have K2 := Lib.hid (K24.out.bel hb66)
    have K5 := Lib.hid (K54.out.bel hb66)
    have R5 := Lib.hid (R54.out.bel hb66)
    have HB := Lib.hid (HB4.out.trans (hb66.mono HB4.out.size))
    have HC4 := Lib.hid hb66
    have HZ6 := Lib.hid (show w4.heap.size ≤ w6.heap.size from hb6.size)
    clear ho6 hb6 hr6 hb66 hx5 hf5 hz5
    go_upto_region 7 with (fail)
    generalize w6.alloc (.cells #[.slice A6 (trimL l).length c6, .bool s] 59) = W6 at K6 HO6 HR6 K2 K5 R5 HB HC4 ⊢
    have HNE6 := Lib.hid (show some w6.heap.size ≠ A6.map (·.block) from fun e => own_noBox HO6.out e.symm K6.out)
    generalize hqb : w6.heap.size = b6 at K6 HZ6 HNE6 ⊢
    clear hqb
    refine wp_region_multi (by kernel_rfl) (by kernel_rfl) (by kernel_rfl) (fun i => none) (fun i k h => ?_) (noBlk) [Sr.val (.agg #[.slice A6 (trimL l).length c6, .bool s]), Sr.val (.int .i64 0), Sr.val (.agg #[.slice A l.length c, .bool s]), Sr.rline (trimL l) s, Sr.val (.bool true), Sr.val (.bool false)] [] [] (fun p hp => by cases hp) (fun p hp => by cases hp) (fun p hp => by cases hp) (fun p hp => by cases hp) ?_ ?_ ?_
    · cases h
    · intro q hq
      cases hq
    · refine RSteps.cons (fun a w' hc hp hk => ?_) ?_
      · have e6 : a.tmps.getD 6 undef = (.pointer (some ⟨b6, 0, none⟩) : Value) := (rk_same hk 6 (by kernel_rfl)).trans rfl
        have f6 := gd e6
        have hx := (K6.out.bel (chg_none hc)).cell
        exact ro_pure (v := .agg #[.slice A6 (trimL l).length c6, .bool s]) (wanted_none rfl) (by simp [execOp, Act.eval, e6, f6, go_sem, hx]) rfl (Chg.refl _ _)
      refine RSteps.cons (fun a w' hc hp hk => ?_) ?_
      · have e7 : a.tmps.getD 7 undef = (.int .i64 0 : Value) := (rk_same hk 7 (by kernel_rfl)).trans rfl
        have f7 := gd e7
        exact ro_pure (v := .int .i64 0) (wanted_none rfl) (by simp [execOp, Act.eval, e7, f7, go_sem]) rfl (Chg.refl _ _)
      refine RSteps.cons (fun a w' hc hp hk => ?_) ?_
      · have e2 : a.tmps.getD 2 undef = (.pointer (some ⟨b2, 0, none⟩) : Value) := (rk_same hk 2 (by kernel_rfl)).trans rfl
        have f2 := gd e2
        have hx := (K2.out.bel (chg_none hc)).cell
        exact ro_pure (v := .agg #[.slice A l.length c, .bool s]) (wanted_none rfl) (by simp [execOp, Act.eval, e2, f2, go_sem, hx]) rfl (Chg.refl _ _)
      refine RSteps.cons (fun a w' hc hp hk => ?_) ?_
      · have e36 : a.tmps.getD 36 undef = (.agg #[.slice A l.length c, .bool s] : Value) := (rk_at hk (e := ⟨2, .data⟩) (by simp) rfl rfl rfl)
        have f36 := gd e36
        have HW := HB.out.trans ((chg_none hc).mono HB.out.size)
        exact ro_call (wanted_none rfl) rfl (by simp only [List.map_toArray, List.map_cons, List.map_nil, Act.eval, e36]) (fun _ _ => by kernel_rfl) ((r06Trim_any A c l s w' (HA.out.bel HW) (by omega)).mono fun e w2 ⟨v, h1, h2, h3⟩ => (by obtain ⟨A9, c9, rfl, r9⟩ := h2.form; exact ⟨_, h1, ⟨A9, c9, rfl, r9⟩, Chg.of_below h3 _⟩))
      refine RSteps.cons (fun a w' hc hp hk => ?_) ?_
      · have e34 : a.tmps.getD 34 undef = (.agg #[.slice A6 (trimL l).length c6, .bool s] : Value) := (rk_at hk (e := ⟨0, .data⟩) (by simp) rfl rfl rfl)
        have f34 := gd e34
        have e35 : a.tmps.getD 35 undef = (.int .i64 0 : Value) := (rk_at hk (e := ⟨1, .data⟩) (by simp) rfl rfl rfl)
        have f35 := gd e35
        obtain ⟨A9, c9, e9, r9⟩ : ∃ A c, (a.tmps.getD 37 undef) = .agg #[.slice A (trimL l).length c, .bool s] ∧ RdC w' A c (trimL l) := (rk_at hk (e := ⟨3, .data⟩) (by simp) rfl rfl rfl)
        exact ro_call (wanted_none rfl) rfl (by simp only [List.map_toArray, List.map_cons, List.map_nil, Act.eval, e34, e35, e9] <;> rfl) (fun _ _ => by kernel_rfl) (yes_of (l06is_any A6 c6 (trimL l) s 0 A9 c9 (trimL l) s 0 w' (HR6.out.bel (chg_none hc)) r9 (by have := HLL.out; omega) (by have := HLL.out; omega)) (by rw [eqL_self]; rfl))
      refine RSteps.cons (fun a w' hc hp hk => ?_) ?_
      · have e38 : a.tmps.getD 38 undef = (.bool true : Value) := (rk_at hk (e := ⟨4, .data⟩) (by simp) rfl rfl rfl)
        have f38 := gd e38
        exact ro_pure (v := .bool false) (wanted_none rfl) (by simp [execOp, Act.eval, e38, f38, go_sem]) rfl (Chg.refl _ _)
      exact RSteps.nil
    · intro vs wz hc hv
      have q : vs 5 = .bool false := hv 5 (by decide) rfl
      have HC := Lib.hid (chg_none hc)
      clear hc hv
      simp only [putL, Act.put, Nat.zero_add, Nat.reduceAdd, q, List.setIfInBounds_toArray, List.set_cons_succ, List.set_cons_zero]
      clear q
      have K6 := Lib.hid (K6.out.bel HC.out)
      have HO6 := Lib.hid (HO6.out.bel HC.out)
      have HC4 := Lib.hid (HC4.out.trans (HC.out.mono HC4.out.size))
      have HB := Lib.hid (HB.out.trans (HC.out.mono HB.out.size))
      clear HC HR6 K2 K5 R5
      obtain ⟨hx6, hf6, hz6⟩ := K6.out.facts
      go_wp2_with fail
      refine (r04Stain_any _ A6 c6 _ _ HO6.out (by have := HLL.out; omega)).mono ?_
      rintro e w9 ⟨rfl, hg9⟩
      have HC9 := Lib.hid (HC4.out.grown hg9 HC4.out.size (fun q hq => own_ge HO6.out q hq))
      have HB9 := Lib.hid (HB4.out.trans (HC9.out.mono HB4.out.size))
      have K69 := Lib.hid (K6.out.grown hg9 HNE6.out)
      clear hg9 hx6 hf6 hz6
      go_wp2_with fail
      refine (columns_no hcn _).mono ?_
      rintro e w10 ⟨rfl, hb10⟩
      have HC10 := Lib.hid (HC9.out.trans (hb10.mono HC9.out.size))
      have HB10 := Lib.hid (HB9.out.trans (hb10.mono HB9.out.size))
      have K510 := Lib.hid (K54.out.bel HC10.out)
      have R510 := Lib.hid (R54.out.bel HC10.out)
      clear hb10
      obtain ⟨hx5, hf5, hz5⟩ := K510.out.facts
      go_wp2_with fail
      refine (tt_of (l06fits_any A5 c5 l s n [] false 2 none 0 [] false 2 _ (fun w6 hb6 => lineFit_no A5 c5 l s n w6 ((HT.out.bel HB10.out).bel hb6) (R510.out.bel hb6) (by omega) (by rw [HV.out]; simpa using hcn)) (RdC.nil _) (by decide) (by decide)) (by decide +kernel)).mono ?_
      rintro e w11 ⟨rfl, hb11⟩
      have HB11 := Lib.hid (HB10.out.trans (hb11.mono HB10.out.size))
      clear hb11
      go_wp2_with fail
      refine (l06known_any _ (HT.out.bel HB11.out)).mono ?_
      rintro e w12 ⟨rfl, hb12⟩
      go_wp2_with fail
      go_ret
      exact ⟨rfl, HB11.out.trans (hb12.mono HB11.out.size)⟩

set_option maxRecDepth 100000 in
set_option maxHeartbeats 2000000 in
theorem lineFits_yes (n : Nat) (hcn : n ≤ 1000) (A : Option Addr) (c : Nat) (l : List Cell) (s : Bool) (w : World) (ht : Tabs w) (ha : RdC w A c l) (h0 : l.length ≤ 40) (hv : lineOk l = true) :
    Calls Tryd.prog 10 #[.agg #[.slice A l.length c, .bool s], .int .i64 n] w fun e w' => e = .returned (.bool true) ∧ Below w.heap.size w w' := by
    have HT := Lib.hid ht
    have HA := Lib.hid ha
    have HV := Lib.hid hv
    clear ht ha hv
    go_enter Tryd.func10, Tryd.ntmps10
    go_wp2_with fail
    refine (small_yes h0 _ _ _ _).mono ?_
    rintro e w1 ⟨rfl, hb⟩
    obtain ⟨k2, hb1⟩ := box1 hb
    have K21 := Lib.hid k2
    have HB1 := Lib.hid hb1
    obtain ⟨hx2, hf2, hz2⟩ := k2.facts
    clear hb k2 hb1
    go_wp2_with fail
    refine (r06Copy_any A c l s _ (HA.out.bel HB1.out) (by omega)).mono ?_
    rintro e w2 ⟨v2, rfl, ho2, hb2⟩
    obtain ⟨A5, c5, rfl, hr2⟩ := ho2.form
    have hb22 := hb2.trans ((belA w2 (.cells #[.slice A5 l.length c5, .bool s] 59)).mono hb2.size)
    have K5 := Lib.hid (Blk.new w2 59 #[.slice A5 l.length c5, .bool s])
    have R5 := Lib.hid (hr2.bel (belA w2 (.cells #[.slice A5 l.length c5, .bool s] 59)))
    have K2 := Lib.hid (K21.out.bel hb22)
    have HB := Lib.hid (HB1.out.trans (hb22.mono HB1.out.size))
    clear ho2 hb2 hr2 hb22 hx2 hf2 hz2 K21 HB1
    go_upto_region 4 with (fail)
    generalize w2.alloc (.cells #[.slice A5 l.length c5, .bool s] 59) = W at K5 R5 K2 HB ⊢
    generalize w2.heap.size = b5 at K5 ⊢
    generalize w.heap.size = b2 at K2 ⊢
    obtain ⟨hx2, hf2, hz2⟩ := K2.out.facts
    go_wp2_with fail
    refine (r6valid_is HV.out _ _ _ _ (HT.out.bel HB.out) (HA.out.bel HB.out) (by omega)).mono ?_
    rintro e w4 ⟨rfl, hb4⟩
    have K24 := Lib.hid (K2.out.bel hb4)
    have K54 := Lib.hid (K5.out.bel hb4)
    have R54 := Lib.hid (R5.out.bel hb4)
    have HB4 := Lib.hid (HB.out.trans (hb4.mono HB.out.size))
    clear hb4 hx2 hf2 hz2 K2 K5 R5 HB
    obtain ⟨hx5, hf5, hz5⟩ := K54.out.facts
    go_wp2_with fail
    refine (lineTrim_any A5 c5 l s _ (HT.out.bel HB4.out) R54.out (by omega)).mono ?_
    rw [trimOf_ok HV.out]
    rintro e w6 ⟨v6, rfl, ho6, hb6⟩
    have HLL := Lib.hid (show (trimL l).length ≤ 40 by rw [trim_length]; have := usedOf_le l; omega)
    obtain ⟨A6, c6, rfl, hr6⟩ := ho6.form
    have hb66 := hb6.trans ((belA w6 (.cells #[.slice A6 (trimL l).length c6, .bool s] 59)).mono hb6.size)
    have K6 := Lib.hid (Blk.new w6 59 #[.slice A6 (trimL l).length c6, .bool s])
    have HO6 := Lib.hid (ho6.bel (belA w6 (.cells #[.slice A6 (trimL l).length c6, .bool s] 59)))
    have HR6 := Lib.hid (hr6.bel (belA w6 (.cells #[.slice A6 (trimL l).length c6, .bool s] 59)))
    have K2 := Lib.hid (K24.out.bel hb66)
    have K5 := Lib.hid (K54.out.bel hb66)
    have R5 := Lib.hid (R54.out.bel hb66)
    have HB := Lib.hid (HB4.out.trans (hb66.mono HB4.out.size))
    have HC4 := Lib.hid hb66
    have HZ6 := Lib.hid (show w4.heap.size ≤ w6.heap.size from hb6.size)
    clear ho6 hb6 hr6 hb66 hx5 hf5 hz5
    go_upto_region 7 with (fail)
    generalize w6.alloc (.cells #[.slice A6 (trimL l).length c6, .bool s] 59) = W6 at K6 HO6 HR6 K2 K5 R5 HB HC4 ⊢
    have HNE6 := Lib.hid (show some w6.heap.size ≠ A6.map (·.block) from fun e => own_noBox HO6.out e.symm K6.out)
    generalize hqb : w6.heap.size = b6 at K6 HZ6 HNE6 ⊢
    clear hqb
    refine wp_region_multi (by kernel_rfl) (by kernel_rfl) (by kernel_rfl) (fun i => none) (fun i k h => ?_) (noBlk) [Sr.val (.agg #[.slice A6 (trimL l).length c6, .bool s]), Sr.val (.int .i64 0), Sr.val (.agg #[.slice A l.length c, .bool s]), Sr.rline (trimL l) s, Sr.val (.bool true), Sr.val (.bool false)] [] [] (fun p hp => by cases hp) (fun p hp => by cases hp) (fun p hp => by cases hp) (fun p hp => by cases hp) ?_ ?_ ?_
    · cases h
    · intro q hq
      cases hq
    · refine RSteps.cons (fun a w' hc hp hk => ?_) ?_
      · have e6 : a.tmps.getD 6 undef = (.pointer (some ⟨b6, 0, none⟩) : Value) := (rk_same hk 6 (by kernel_rfl)).trans rfl
        have f6 := gd e6
        have hx := (K6.out.bel (chg_none hc)).cell
        exact ro_pure (v := .agg #[.slice A6 (trimL l).length c6, .bool s]) (wanted_none rfl) (by simp [execOp, Act.eval, e6, f6, go_sem, hx]) rfl (Chg.refl _ _)
      refine RSteps.cons (fun a w' hc hp hk => ?_) ?_
      · have e7 : a.tmps.getD 7 undef = (.int .i64 0 : Value) := (rk_same hk 7 (by kernel_rfl)).trans rfl
        have f7 := gd e7
        exact ro_pure (v := .int .i64 0) (wanted_none rfl) (by simp [execOp, Act.eval, e7, f7, go_sem]) rfl (Chg.refl _ _)
      refine RSteps.cons (fun a w' hc hp hk => ?_) ?_
      · have e2 : a.tmps.getD 2 undef = (.pointer (some ⟨b2, 0, none⟩) : Value) := (rk_same hk 2 (by kernel_rfl)).trans rfl
        have f2 := gd e2
        have hx := (K2.out.bel (chg_none hc)).cell
        exact ro_pure (v := .agg #[.slice A l.length c, .bool s]) (wanted_none rfl) (by simp [execOp, Act.eval, e2, f2, go_sem, hx]) rfl (Chg.refl _ _)
      refine RSteps.cons (fun a w' hc hp hk => ?_) ?_
      · have e36 : a.tmps.getD 36 undef = (.agg #[.slice A l.length c, .bool s] : Value) := (rk_at hk (e := ⟨2, .data⟩) (by simp) rfl rfl rfl)
        have f36 := gd e36
        have HW := HB.out.trans ((chg_none hc).mono HB.out.size)
        exact ro_call (wanted_none rfl) rfl (by simp only [List.map_toArray, List.map_cons, List.map_nil, Act.eval, e36]) (fun _ _ => by kernel_rfl) ((r06Trim_any A c l s w' (HA.out.bel HW) (by omega)).mono fun e w2 ⟨v, h1, h2, h3⟩ => (by obtain ⟨A9, c9, rfl, r9⟩ := h2.form; exact ⟨_, h1, ⟨A9, c9, rfl, r9⟩, Chg.of_below h3 _⟩))
      refine RSteps.cons (fun a w' hc hp hk => ?_) ?_
      · have e34 : a.tmps.getD 34 undef = (.agg #[.slice A6 (trimL l).length c6, .bool s] : Value) := (rk_at hk (e := ⟨0, .data⟩) (by simp) rfl rfl rfl)
        have f34 := gd e34
        have e35 : a.tmps.getD 35 undef = (.int .i64 0 : Value) := (rk_at hk (e := ⟨1, .data⟩) (by simp) rfl rfl rfl)
        have f35 := gd e35
        obtain ⟨A9, c9, e9, r9⟩ : ∃ A c, (a.tmps.getD 37 undef) = .agg #[.slice A (trimL l).length c, .bool s] ∧ RdC w' A c (trimL l) := (rk_at hk (e := ⟨3, .data⟩) (by simp) rfl rfl rfl)
        exact ro_call (wanted_none rfl) rfl (by simp only [List.map_toArray, List.map_cons, List.map_nil, Act.eval, e34, e35, e9] <;> rfl) (fun _ _ => by kernel_rfl) (yes_of (l06is_any A6 c6 (trimL l) s 0 A9 c9 (trimL l) s 0 w' (HR6.out.bel (chg_none hc)) r9 (by have := HLL.out; omega) (by have := HLL.out; omega)) (by rw [eqL_self]; rfl))
      refine RSteps.cons (fun a w' hc hp hk => ?_) ?_
      · have e38 : a.tmps.getD 38 undef = (.bool true : Value) := (rk_at hk (e := ⟨4, .data⟩) (by simp) rfl rfl rfl)
        have f38 := gd e38
        exact ro_pure (v := .bool false) (wanted_none rfl) (by simp [execOp, Act.eval, e38, f38, go_sem]) rfl (Chg.refl _ _)
      exact RSteps.nil
    · intro vs wz hc hv
      have q : vs 5 = .bool false := hv 5 (by decide) rfl
      have HC := Lib.hid (chg_none hc)
      clear hc hv
      simp only [putL, Act.put, Nat.zero_add, Nat.reduceAdd, q, List.setIfInBounds_toArray, List.set_cons_succ, List.set_cons_zero]
      clear q
      have K6 := Lib.hid (K6.out.bel HC.out)
      have HO6 := Lib.hid (HO6.out.bel HC.out)
      have HC4 := Lib.hid (HC4.out.trans (HC.out.mono HC4.out.size))
      have HB := Lib.hid (HB.out.trans (HC.out.mono HB.out.size))
      clear HC HR6 K2 K5 R5
      obtain ⟨hx6, hf6, hz6⟩ := K6.out.facts
      go_wp2_with fail
      refine (r04Stain_any _ A6 c6 _ _ HO6.out (by have := HLL.out; omega)).mono ?_
      rintro e w9 ⟨rfl, hg9⟩
      have HC9 := Lib.hid (HC4.out.grown hg9 HC4.out.size (fun q hq => own_ge HO6.out q hq))
      have HB9 := Lib.hid (HB4.out.trans (HC9.out.mono HB4.out.size))
      have K69 := Lib.hid (K6.out.grown hg9 HNE6.out)
      clear hg9 hx6 hf6 hz6
      go_wp2_with fail
      refine (columns_yes (by omega) _).mono ?_
      rintro e w10 ⟨rfl, hb10⟩
      have HC10 := Lib.hid (HC9.out.trans (hb10.mono HC9.out.size))
      have HB10 := Lib.hid (HB9.out.trans (hb10.mono HB9.out.size))
      have K510 := Lib.hid (K54.out.bel HC10.out)
      have R510 := Lib.hid (R54.out.bel HC10.out)
      have K610 := Lib.hid (K69.out.bel hb10)
      clear hb10
      obtain ⟨hx5, hf5, hz5⟩ := K510.out.facts
      go_wp2_with fail
      refine (lineFit_yes A5 c5 l s n hcn _ (HT.out.bel HB10.out) R510.out (by omega) HV.out).mono ?_
      rintro e w11 ⟨v11, rfl, ho11, hb11⟩
      have HLF := Lib.hid (fitTo_length n l)
      obtain ⟨A7, c7, rfl, -⟩ := ho11.form
      have K611 := Lib.hid (K610.out.bel hb11)
      have CS := Lib.hid (chg_setLine w11 b6 (.slice A7 (fitTo n l).length c7) s)
      have HC11 := Lib.hid ((HC10.out.trans (hb11.mono HC10.out.size)).trans (CS.out.below (by have := HC10.out.size; have := hb11.size; omega) (fun k hk he => by have := HZ6.out; omega)))
      have HB11 := Lib.hid (HB4.out.trans (HC11.out.mono HB4.out.size))
      have KX := Lib.hid (blk_setLine K611.out (.slice A7 (fitTo n l).length c7) s)
      have HOX := Lib.hid (own_chg ho11 CS.out (fun b hb he => by have h1 := own_from ho11 b hb; have h2 := K610.out.lt; omega))
      have K211 := Lib.hid (K24.out.bel HC11.out)
      have HZ11 := Lib.hid (show w4.heap.size ≤ w10.heap.size from HC10.out.size)
      obtain ⟨hx6, hf6, hz6⟩ := K611.out.facts
      clear ho11 hb11 hx5 hf5 hz5
      go_upto_region 13 with (fail)
      unfold setLine at KX HOX HC11 HB11 K211
      generalize (w11.setCell ⟨b6, 0, none⟩ (.slice A7 (fitTo n l).length c7)).setCell ⟨b6, 1, none⟩ (.bool s) = W11 at KX HOX HC11 HB11 K211 ⊢
      clear CS hx6 hf6 hz6 K611 K610
      obtain ⟨Aq, cq, hve, hrq⟩ := OwnC.form HOX.out
      injection hve with e1 _ e2
      subst e1
      subst e2
      have HRX := Lib.hid hrq
      clear hrq
      refine wp_region_multi (by kernel_rfl) (by kernel_rfl) (by kernel_rfl) (fun i => none) (fun i k h => ?_) (noBlk) [Sr.val (.agg #[.slice A7 (fitTo n l).length c7, .bool s]), Sr.val (.int .i64 0), Sr.val (.agg #[.slice A l.length c, .bool s]), Sr.val (.int .i64 n), Sr.rline (fitTo n l) s, Sr.val (.bool true), Sr.val (.bool false)] [] [] (fun p hp => by cases hp) (fun p hp => by cases hp) (fun p hp => by cases hp) (fun p hp => by cases hp) ?_ ?_ ?_
      · cases h
      · intro q hq
        cases hq
      · refine RSteps.cons (fun a w' hc hp hk => ?_) ?_
        · have e6 : a.tmps.getD 6 undef = (.pointer (some ⟨b6, 0, none⟩) : Value) := (rk_same hk 6 (by kernel_rfl)).trans rfl
          have f6 := gd e6
          have hx := (KX.out.bel (chg_none hc)).cell
          exact ro_pure (v := .agg #[.slice A7 (fitTo n l).length c7, .bool s]) (wanted_none rfl) (by simp [execOp, Act.eval, e6, f6, go_sem, hx]) rfl (Chg.refl _ _)
        refine RSteps.cons (fun a w' hc hp hk => ?_) ?_
        · have e7 : a.tmps.getD 7 undef = (.int .i64 0 : Value) := (rk_same hk 7 (by kernel_rfl)).trans rfl
          have f7 := gd e7
          exact ro_pure (v := .int .i64 0) (wanted_none rfl) (by simp [execOp, Act.eval, e7, f7, go_sem]) rfl (Chg.refl _ _)
        refine RSteps.cons (fun a w' hc hp hk => ?_) ?_
        · have e2 : a.tmps.getD 2 undef = (.pointer (some ⟨b2, 0, none⟩) : Value) := (rk_same hk 2 (by kernel_rfl)).trans rfl
          have f2 := gd e2
          have hx := (K211.out.bel (chg_none hc)).cell
          exact ro_pure (v := .agg #[.slice A l.length c, .bool s]) (wanted_none rfl) (by simp [execOp, Act.eval, e2, f2, go_sem, hx]) rfl (Chg.refl _ _)
        refine RSteps.cons (fun a w' hc hp hk => ?_) ?_
        · have e1 : a.tmps.getD 1 undef = (.int .i64 n : Value) := (rk_same hk 1 (by kernel_rfl)).trans rfl
          have f1 := gd e1
          exact ro_pure (v := .int .i64 n) (wanted_none rfl) (by simp [execOp, Act.eval, e1, f1, go_sem]) rfl (Chg.refl _ _)
        refine RSteps.cons (fun a w' hc hp hk => ?_) ?_
        · have e61 : a.tmps.getD 61 undef = (.agg #[.slice A l.length c, .bool s] : Value) := (rk_at hk (e := ⟨2, .data⟩) (by simp) rfl rfl rfl)
          have f61 := gd e61
          have e62 : a.tmps.getD 62 undef = (.int .i64 n : Value) := (rk_at hk (e := ⟨3, .data⟩) (by simp) rfl rfl rfl)
          have f62 := gd e62
          have HW := HB11.out.trans ((chg_none hc).mono HB11.out.size)
          exact ro_call (wanted_none rfl) rfl (by simp only [List.map_toArray, List.map_cons, List.map_nil, Act.eval, e61, e62]) (fun _ _ => by kernel_rfl) ((r06Fit_any A c l s n hcn w' (HA.out.bel HW) (by omega)).mono fun e w2 ⟨v, h1, h2, h3⟩ => (by obtain ⟨A9, c9, rfl, r9⟩ := h2.form; exact ⟨_, h1, ⟨A9, c9, rfl, r9⟩, Chg.of_below h3 _⟩))
        refine RSteps.cons (fun a w' hc hp hk => ?_) ?_
        · have e59 : a.tmps.getD 59 undef = (.agg #[.slice A7 (fitTo n l).length c7, .bool s] : Value) := (rk_at hk (e := ⟨0, .data⟩) (by simp) rfl rfl rfl)
          have f59 := gd e59
          have e60 : a.tmps.getD 60 undef = (.int .i64 0 : Value) := (rk_at hk (e := ⟨1, .data⟩) (by simp) rfl rfl rfl)
          have f60 := gd e60
          obtain ⟨A9, c9, e9, r9⟩ : ∃ A c, (a.tmps.getD 63 undef) = .agg #[.slice A (fitTo n l).length c, .bool s] ∧ RdC w' A c (fitTo n l) := (rk_at hk (e := ⟨4, .data⟩) (by simp) rfl rfl rfl)
          exact ro_call (wanted_none rfl) rfl (by simp only [List.map_toArray, List.map_cons, List.map_nil, Act.eval, e59, e60, e9] <;> rfl) (fun _ _ => by kernel_rfl) (yes_of (l06is_any A7 c7 (fitTo n l) s 0 A9 c9 (fitTo n l) s 0 w' (HRX.out.bel (chg_none hc)) r9 (by have := HLF.out; omega) (by have := HLF.out; omega)) (by rw [eqL_self]; rfl))
        refine RSteps.cons (fun a w' hc hp hk => ?_) ?_
        · have e64 : a.tmps.getD 64 undef = (.bool true : Value) := (rk_at hk (e := ⟨5, .data⟩) (by simp) rfl rfl rfl)
          have f64 := gd e64
          exact ro_pure (v := .bool false) (wanted_none rfl) (by simp [execOp, Act.eval, e64, f64, go_sem]) rfl (Chg.refl _ _)
        exact RSteps.nil
      · intro vs wz hc hv
        have q : vs 6 = .bool false := hv 6 (by decide) rfl
        have HC := Lib.hid (chg_none hc)
        clear hc hv
        simp only [putL, Act.put, Nat.zero_add, Nat.reduceAdd, q, List.setIfInBounds_toArray, List.set_cons_succ, List.set_cons_zero]
        clear q
        have KX := Lib.hid (KX.out.bel HC.out)
        have HOX := Lib.hid (OwnC.bel HOX.out HC.out)
        have HC13 := Lib.hid (HC11.out.trans (HC.out.mono HC11.out.size))
        clear HC
        obtain ⟨hx6, hf6, hz6⟩ := KX.out.facts
        go_wp2_with fail
        refine (r04Stain_any _ A7 c7 _ _ HOX.out (by have := HLF.out; omega)).mono ?_
        rintro e w15 ⟨rfl, hg15⟩
        have HC15 := Lib.hid (HC13.out.grown hg15 HC13.out.size (fun q hq => by have h1 := own_ge HOX.out q hq; have h2 := HZ11.out; omega))
        have HB15 := Lib.hid (HB4.out.trans (HC15.out.mono HB4.out.size))
        have K515 := Lib.hid (K54.out.bel HC15.out)
        have K215 := Lib.hid (K24.out.bel HC15.out)
        have R515 := Lib.hid (R54.out.bel HC15.out)
        clear hg15 hx6 hf6 hz6
        obtain ⟨hx5, hf5, hz5⟩ := K515.out.facts
        obtain ⟨hx2, hf2, hz2⟩ := K215.out.facts
        go_wp2_with fail
        refine (tt_of (r06Same_any _ _ _ _ _ _ _ _ _ R515.out (HA.out.bel HB15.out) (by omega) (by omega)) (eqL_self _ _)).mono ?_
        rintro e w16 ⟨rfl, hb16⟩
        have HB16 := Lib.hid (HB15.out.trans (hb16.mono HB15.out.size))
        clear hb16
        go_wp2_with fail
        refine (l06known_any _ (HT.out.bel HB16.out)).mono ?_
        rintro e w17 ⟨rfl, hb17⟩
        go_wp2_with fail
        go_ret
        exact ⟨rfl, HB16.out.trans (hb17.mono HB16.out.size)⟩

theorem l06LineFits_any (A : Option Addr) (c : Nat) (l : List Cell) (s : Bool) (n : Int) (w : World) (ht : Tabs w) (ha : RdC w A c l) (hm : c ≤ maxLen) (bd : -9223372036854775808 ≤ n ∧ n ≤ 9223372036854775807) :
    Calls Tryd.prog 10 #[.agg #[.slice A l.length c, .bool s], .int .i64 n] w fun e w' => e = .returned (.bool true) ∧ Below w.heap.size w w' := by
  by_cases h0 : l.length ≤ 40
  case neg =>
    have HT := Lib.hid ht
    have hlen : l.length ≤ 9223372036854775807 := by have := ha.1; unfold maxLen at hm; omega
    clear ht ha hm
    go_enter Tryd.func10, Tryd.ntmps10
    go_wp2_with fail
    refine (small_no h0 hlen _ _ _ _).mono ?_
    rintro e w1 ⟨rfl, hb⟩
    go_wp2_with fail
    refine (l06known_any _ (HT.out.bel (bel1 hb))).mono ?_
    rintro e w2 ⟨rfl, hb2⟩
    go_wp2_with fail
    go_ret
    exact ⟨rfl, (bel1 hb).trans (hb2.mono (bel1 hb).size)⟩
  cases hv : lineOk l
  · exact lineFits_bad n A c l s w ht ha h0 hv
  by_cases hc : 0 ≤ n ∧ n ≤ 1000
  · obtain ⟨k, rfl⟩ := Int.eq_ofNat_of_zero_le hc.1
    exact lineFits_yes k (by omega) A c l s w ht ha h0 hv
  · exact lineFits_no n hc A c l s w ht ha h0 hv
end Go.Proofs.YtmfhepjmmpnkaaaDoor
